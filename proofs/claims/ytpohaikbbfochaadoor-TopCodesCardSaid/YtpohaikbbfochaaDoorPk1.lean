/-
  Texts joined (BitP, Code, Dual, St, Pre, Feed, CutL, Zeros, Cod, BitW, BitA, BitB, BitC, BitD, Bits).
-/
import Derived.Test.YtpohaikbbfochaaDoorKit
import Derived.Test.YtpohaikbbfochaaDoorRows
/-
  Bits, plainly: a list of truth values, the lowest first; its bytes; numbers as bits.
-/
namespace Cad.Bit
open Go Go.RowKit Cad
set_option linter.unusedVariables false

/-- The n lowest bits of a number. -/
def lowBits (v : Nat) : Nat → List Bool
  | 0 => []
  | n + 1 => decide (v % 2 = 1) :: lowBits (v / 2) n
/-- The number that bits are. -/
def bval : List Bool → Nat
  | [] => 0
  | b :: t => (if b then 1 else 0) + 2 * bval t

@[simp] theorem lowBits_len : ∀ (n v : Nat), (lowBits v n).length = n
  | 0, _ => rfl
  | n + 1, v => by simp [lowBits, lowBits_len n]
theorem bval_lt : ∀ l : List Bool, bval l < 2 ^ l.length
  | [] => by simp [bval]
  | b :: t => by
    have := bval_lt t
    simp only [bval, List.length_cons, Nat.pow_succ]
    split <;> omega
theorem bval_lowBits : ∀ (n v : Nat), bval (lowBits v n) = v % 2 ^ n
  | 0, v => by simp [lowBits, bval, Nat.mod_one]
  | n + 1, v => by
    have h : v % 2 ^ (n + 1) = v % 2 + 2 * (v / 2 % 2 ^ n) := by rw [Nat.pow_succ, Nat.mul_comm, Nat.mod_mul]
    rw [lowBits, bval, bval_lowBits n, h]
    congr 1
    rcases Nat.mod_two_eq_zero_or_one v with e | e <;> simp [e]
theorem bval_lowBits_lt {n v : Nat} (h : v < 2 ^ n) : bval (lowBits v n) = v := by rw [bval_lowBits, Nat.mod_eq_of_lt h]
theorem lowBits_bval : ∀ l : List Bool, lowBits (bval l) l.length = l
  | [] => rfl
  | b :: t => by
    have h1 : ((if b then 1 else 0) + 2 * bval t) / 2 = bval t := by cases b <;> simp <;> omega
    have h2 : decide (((if b then 1 else 0) + 2 * bval t) % 2 = 1) = b := by
      cases b
      · simp
      · simp
    simp only [List.length_cons, lowBits, bval]
    rw [h1, h2, lowBits_bval t]
theorem bval_append : ∀ a b : List Bool, bval (a ++ b) = bval a + 2 ^ a.length * bval b
  | [], b => by simp [bval]
  | x :: t, b => by
    rw [List.cons_append, bval, bval, bval_append t b, List.length_cons, Nat.pow_succ, Nat.mul_add, ← Nat.mul_assoc, Nat.mul_comm 2 (2 ^ t.length)]
    omega
theorem bval_inj {a b : List Bool} (hl : a.length = b.length) (h : bval a = bval b) : a = b := by
  rw [← lowBits_bval a, ← lowBits_bval b, h, hl]
theorem lowBits_add : ∀ (n m v : Nat), lowBits v (n + m) = lowBits v n ++ lowBits (v / 2 ^ n) m
  | 0, m, v => by simp [lowBits]
  | n + 1, m, v => by
    rw [show n + 1 + m = (n + m) + 1 by omega, lowBits, lowBits, lowBits_add n m, List.cons_append, Nat.pow_succ, Nat.div_div_eq_div_mul, Nat.mul_comm 2]
theorem lowBits_mod {n m v : Nat} (h : n ≤ m) : lowBits (v % 2 ^ m) n = lowBits v n := by
  apply bval_inj (by simp)
  rw [bval_lowBits, bval_lowBits, Nat.mod_mod_of_dvd _ (Nat.pow_dvd_pow 2 h)]

theorem bval_take (l : List Bool) (n : Nat) : bval (l.take n) = bval l % 2 ^ n := by
  by_cases h : n ≤ l.length
  · conv => rhs; rw [← List.take_append_drop n l, bval_append, List.length_take, Nat.min_eq_left h, Nat.add_mul_mod_self_left]
    have := bval_lt (l.take n)
    rw [List.length_take, Nat.min_eq_left h] at this
    rw [Nat.mod_eq_of_lt this]
  · rw [List.take_of_length_le (by omega), Nat.mod_eq_of_lt]
    exact Nat.lt_of_lt_of_le (bval_lt l) (Nat.pow_le_pow_right (by omega) (by omega))
theorem bval_drop (l : List Bool) (n : Nat) : bval (l.drop n) = bval l / 2 ^ n := by
  by_cases h : n ≤ l.length
  · conv => rhs; rw [← List.take_append_drop n l, bval_append, List.length_take, Nat.min_eq_left h]
    have := bval_lt (l.take n)
    rw [List.length_take, Nat.min_eq_left h] at this
    rw [Nat.add_mul_div_left _ _ (by exact Nat.two_pow_pos n), Nat.div_eq_of_lt this, Nat.zero_add]
  · rw [List.drop_of_length_le (by omega)]
    symm
    exact Nat.div_eq_of_lt (Nat.lt_of_lt_of_le (bval_lt l) (Nat.pow_le_pow_right (by omega) (by omega)))
theorem bval_replicate_false (n : Nat) : bval (List.replicate n false) = 0 := by
  induction n with
  | zero => rfl
  | succ n ih => rw [List.replicate_succ, bval, ih]; rfl
theorem bval_replicate_true (n : Nat) : bval (List.replicate n true) = 2 ^ n - 1 := by
  induction n with
  | zero => rfl
  | succ n ih =>
    have := Nat.two_pow_pos n
    rw [List.replicate_succ, bval, ih, Nat.pow_succ]; simp; omega

/-- The byte with an index. -/
def byteAt (bs : List Bool) (i : Nat) : Nat := bval ((bs.drop (8 * i)).take 8)
/-- How many bytes n bits have. -/
def bytesFor (n : Nat) : Nat := (n + 7) / 8
/-- The bytes of bits. -/
def pack (bs : List Bool) : List Int := (List.range (bytesFor bs.length)).map fun i => ((byteAt bs i : Nat) : Int)

theorem pack_len (bs : List Bool) : (pack bs).length = bytesFor bs.length := by simp [pack]
theorem nth_pack {bs : List Bool} {i : Nat} (h : i < bytesFor bs.length) : nth (pack bs) i = (byteAt bs i : Nat) := nth_map_range h
theorem byteAt_lt (bs : List Bool) (i : Nat) : byteAt bs i < 256 := by
  unfold byteAt
  have h := bval_lt ((bs.drop (8 * i)).take 8)
  have h2 : ((bs.drop (8 * i)).take 8).length ≤ 8 := List.length_take_le _ _
  exact Nat.lt_of_lt_of_le h (Nat.le_trans (Nat.pow_le_pow_right (by omega) h2) (by decide))
theorem byteAt_out {bs : List Bool} {i : Nat} (h : bs.length ≤ 8 * i) : byteAt bs i = 0 := by
  unfold byteAt; rw [List.drop_of_length_le h]; rfl
theorem pack_u8 (bs : List Bool) : Within 0 255 (pack bs) := fun x hx => by
  obtain ⟨i, _, rfl⟩ := List.mem_map.1 hx
  have := byteAt_lt bs i
  omega
theorem pack_nil : pack [] = [] := rfl

theorem byteAt_append_left {a b : List Bool} {i : Nat} (h : 8 * i + 8 ≤ a.length) : byteAt (a ++ b) i = byteAt a i := by
  unfold byteAt
  rw [List.drop_append_of_le_length (by omega), List.take_append_of_le_length (by rw [List.length_drop]; omega)]
/-- The byte in which new bits begin. -/
theorem byteAt_append_at {a b : List Bool} (hb : a.length % 8 + b.length ≤ 8) : byteAt (a ++ b) (a.length / 8) = byteAt a (a.length / 8) + 2 ^ (a.length % 8) * bval b := by
  unfold byteAt
  have h8 : 8 * (a.length / 8) ≤ a.length := by omega
  have hl : (a.drop (8 * (a.length / 8))).length = a.length % 8 := by rw [List.length_drop]; omega
  rw [List.drop_append_of_le_length h8, List.take_of_length_le (by rw [List.length_append, hl]; omega), bval_append, hl, List.take_of_length_le (by omega)]
theorem byteAt_last_lt (a : List Bool) : byteAt a (a.length / 8) < 2 ^ (a.length % 8) := by
  unfold byteAt
  have hl : (a.drop (8 * (a.length / 8))).length = a.length % 8 := by rw [List.length_drop]; omega
  have := bval_lt ((a.drop (8 * (a.length / 8))).take 8)
  rw [List.length_take, hl, Nat.min_eq_right (by omega)] at this
  exact this

/-- A part of a byte, as bits that stand there. -/
theorem byte_part {bs : List Bool} {p t : Nat} (ht : p % 8 + t ≤ 8) (hp : p + t ≤ bs.length) : byteAt bs (p / 8) / 2 ^ (p % 8) % 2 ^ t = bval ((bs.drop p).take t) := by
  unfold byteAt
  rw [← bval_drop, ← bval_take, List.drop_take, List.take_take, List.drop_drop]
  congr 2
  · rw [Nat.min_eq_left (by omega)]
  · congr 1; omega

theorem pack_inj {a b : List Bool} (hl : a.length = b.length) (h : pack a = pack b) : a = b := by
  apply List.ext_getElem hl
  intro i h1 h2
  have hi : i / 8 < bytesFor a.length := by unfold bytesFor; omega
  have e : byteAt a (i / 8) = byteAt b (i / 8) := by
    have this : nth (pack a) (i / 8) = nth (pack b) (i / 8) := by rw [h]
    rw [nth_pack hi, nth_pack (by rw [← hl]; exact hi)] at this
    omega
  have p1 := byte_part (bs := a) (p := i) (t := 1) (by omega) (by omega)
  have p2 := byte_part (bs := b) (p := i) (t := 1) (by omega) (by omega)
  rw [e, p2] at p1
  have q1 : (a.drop i).take 1 = [a[i]] := by rw [List.drop_eq_getElem_cons h1]; rfl
  have q2 : (b.drop i).take 1 = [b[i]] := by rw [List.drop_eq_getElem_cons h2]; rfl
  rw [q1, q2] at p1
  have := bval_inj (by rfl) p1
  simpa using this.symm

theorem bytesFor_append {a b : List Bool} (h0 : 0 < b.length) (h : a.length % 8 + b.length ≤ 8) : bytesFor (a ++ b).length = a.length / 8 + 1 := by
  unfold bytesFor; rw [List.length_append]; omega
/-- Bits behind bits: within one byte that stands already. -/
theorem pack_append_in {a b : List Bool} (h1 : 0 < a.length % 8) (h0 : 0 < b.length) (h : a.length % 8 + b.length ≤ 8) :
    (pack a).set (a.length / 8) ((byteAt a (a.length / 8) + 2 ^ (a.length % 8) * bval b : Nat) : Int) = pack (a ++ b) := by
  have hn : bytesFor a.length = a.length / 8 + 1 := by unfold bytesFor; omega
  refine list_ext (by rw [List.length_set, pack_len, pack_len, bytesFor_append h0 h, hn]) fun j hj => ?_
  rw [List.length_set, pack_len, hn] at hj
  rw [nth_set (by rw [pack_len]; omega), nth_pack (bs := a ++ b) (by rw [bytesFor_append h0 h]; exact hj)]
  by_cases e : a.length / 8 = j
  · subst e; rw [if_pos rfl, byteAt_append_at h]
  · rw [if_neg e, nth_pack (by omega), byteAt_append_left (by omega)]
/-- Bits behind bits: in a new byte. -/
theorem pack_append_new {a b : List Bool} (h1 : a.length % 8 = 0) (h0 : 0 < b.length) (h : b.length ≤ 8) :
    pack a ++ [((bval b : Nat) : Int)] = pack (a ++ b) := by
  have hn : bytesFor a.length = a.length / 8 := by unfold bytesFor; omega
  have hm := bytesFor_append (a := a) h0 (by omega)
  refine list_ext (by rw [List.length_append, pack_len, pack_len, hm, hn]; rfl) fun j hj => ?_
  rw [List.length_append, pack_len, hn] at hj
  have hj' : j < a.length / 8 + 1 := hj
  rw [nth_pack (bs := a ++ b) (by rw [hm]; exact hj')]
  by_cases e : j < a.length / 8
  · rw [nth_append_left (by rw [pack_len, hn]; exact e), nth_pack (by rw [hn]; exact e), byteAt_append_left (by omega)]
  · obtain rfl : j = a.length / 8 := by omega
    rw [nth_append_right (by rw [pack_len, hn]; exact Nat.le_refl _), pack_len, hn, Nat.sub_self, byteAt_append_at (by omega), byteAt_out (by omega), h1]
    show ((bval b : Nat) : Int) = _
    congr 1; simp

/-- What bytes are, as bits. -/
def unpack (bytes : List Int) : List Bool := bytes.flatMap fun b => lowBits b.toNat 8
theorem unpack_len (bytes : List Int) : (unpack bytes).length = 8 * bytes.length := by
  induction bytes with
  | nil => rfl
  | cons b t ih => rw [unpack, List.flatMap_cons, List.length_append, lowBits_len]; rw [unpack] at ih; rw [ih, List.length_cons]; omega
theorem unpack_drop : ∀ (bytes : List Int) (i : Nat), (unpack bytes).drop (8 * i) = unpack (bytes.drop i)
  | bytes, 0 => by simp
  | [], i + 1 => by simp [unpack]
  | b :: t, i + 1 => by
    rw [unpack, List.flatMap_cons, show 8 * (i + 1) = 8 + 8 * i by omega, ← List.drop_drop, List.drop_left' (lowBits_len 8 _)]
    exact unpack_drop t i
theorem byteAt_unpack {bytes : List Int} {i : Nat} (h : i < bytes.length) (hb : Within 0 255 bytes) : ((byteAt (unpack bytes) i : Nat) : Int) = nth bytes i := by
  unfold byteAt
  rw [unpack_drop, List.drop_eq_getElem_cons h, unpack, List.flatMap_cons, List.take_left' (lowBits_len 8 _), nth_eq h]
  have := hb _ (List.getElem_mem h)
  rw [bval_lowBits_lt (by omega)]
  omega
theorem pack_unpack {bytes : List Int} (hb : Within 0 255 bytes) : pack (unpack bytes) = bytes := by
  have hn : bytesFor (unpack bytes).length = bytes.length := by rw [unpack_len]; unfold bytesFor; omega
  refine list_ext (by rw [pack_len, hn]) fun j hj => ?_
  rw [pack_len, hn] at hj
  rw [nth_pack (by rw [hn]; exact hj), byteAt_unpack hj hb]
theorem unpack_append (a b : List Int) : unpack (a ++ b) = unpack a ++ unpack b := by simp [unpack]

/-- Bits that are valid, as the document has it: as many bytes as are needed, and what is behind the last bit is 0. -/
def Valid (bytes : List Int) (N : Int) : Prop :=
  0 ≤ N ∧ N ≤ 330000 ∧ bytes.length = bytesFor N.toNat ∧ (0 < N.toNat % 8 → nth bytes (bytes.length - 1) / 2 ^ (N.toNat % 8) = 0)
instance (bytes : List Int) (N : Int) : Decidable (Valid bytes N) := by unfold Valid; infer_instance

theorem valid_pack {bs : List Bool} (h : bs.length ≤ 330000) : Valid (pack bs) (bs.length : Nat) := by
  refine ⟨by omega, by omega, by rw [pack_len]; simp, fun h0 => ?_⟩
  rw [Int.toNat_natCast] at h0 ⊢
  have hn : bytesFor bs.length = bs.length / 8 + 1 := by unfold bytesFor; omega
  rw [pack_len, hn, Nat.add_sub_cancel, nth_pack (by omega)]
  have := byteAt_last_lt bs
  rw [show ((2 : Int) ^ (bs.length % 8)) = ((2 ^ (bs.length % 8) : Nat) : Int) by simp, ← Int.natCast_ediv, Nat.div_eq_of_lt this]; rfl
theorem valid_bits {bytes : List Int} {N : Int} (hb : Within 0 255 bytes) (h : Valid bytes N) : ∃ bs : List Bool, bytes = pack bs ∧ N = (bs.length : Nat) ∧ bs.length ≤ 330000 := by
  obtain ⟨h0, h1, h2, h3⟩ := h
  obtain ⟨n, rfl⟩ := Int.eq_ofNat_of_zero_le h0
  rw [Int.toNat_natCast] at h2 h3
  have hl : ((unpack bytes).take n).length = n := by
    rw [List.length_take, unpack_len, h2]; unfold bytesFor; omega
  refine ⟨(unpack bytes).take n, ?_, by rw [hl], by rw [hl]; omega⟩
  have hbl : bytesFor ((unpack bytes).take n).length = bytes.length := by rw [hl, h2]
  refine list_ext (by rw [pack_len, hbl]) fun j hj => ?_
  rw [nth_pack (by rw [hbl]; exact hj), ← byteAt_unpack hj hb]
  congr 1
  unfold byteAt
  by_cases hfull : 8 * j + 8 ≤ n
  · rw [List.drop_take, List.take_take, Nat.min_eq_left (by omega)]
  · -- the last byte: nothing stands behind the last bit
    have hj' : j = bytes.length - 1 := by unfold bytesFor at h2; omega
    have hr : 0 < n % 8 := by unfold bytesFor at h2; omega
    have h8j : 8 * j = n - n % 8 := by unfold bytesFor at h2; omega
    have hz := h3 hr
    rw [← hj', ← byteAt_unpack hj hb] at hz
    unfold byteAt at hz
    rw [List.drop_take, List.take_take, Nat.min_eq_right (by omega), show n - 8 * j = n % 8 by omega]
    have hz' : bval (((unpack bytes).drop (8 * j)).take 8) / 2 ^ (n % 8) = 0 := by
      have : ((2 : Int) ^ (n % 8)) = ((2 ^ (n % 8) : Nat) : Int) := by simp
      rw [this, ← Int.natCast_ediv] at hz
      exact Int.ofNat_inj.1 hz
    have hlt : bval (((unpack bytes).drop (8 * j)).take 8) < 2 ^ (n % 8) := by
      rcases Nat.div_eq_zero_iff.1 hz' with h | h
      · have := Nat.two_pow_pos (n % 8); omega
      · exact h
    have e := bval_take (((unpack bytes).drop (8 * j)).take 8) (n % 8)
    rw [Nat.mod_eq_of_lt hlt] at e
    rw [show ((unpack bytes).drop (8 * j)).take (n % 8) = (((unpack bytes).drop (8 * j)).take 8).take (n % 8) by rw [List.take_take, Nat.min_eq_left (by omega)], e]

end Cad.Bit

/-
  Codes, plainly, over lists of truth values: runs, Rice codes, the code with two levels; reading is the inverse of writing.
-/
namespace Cad.Code
open Go Cad Cad.Bit
set_option linter.unusedVariables false

/-- What reading gives: a number and how many bits it had, or an error's number. -/
inductive Got where
  | ok (v n : Nat)
  | err (e : Nat)
deriving DecidableEq

/-- How many ones bits begin with. -/
def ones : List Bool → Nat
  | true :: t => ones t + 1
  | _ => 0
theorem ones_le : ∀ l : List Bool, ones l ≤ l.length
  | [] => Nat.le_refl _
  | true :: t => by have := ones_le t; simp only [ones, List.length_cons]; omega
  | false :: t => Nat.zero_le _
theorem ones_replicate (n : Nat) (l : List Bool) : ones (List.replicate n true ++ l) = n + ones l := by
  induction n with
  | zero => simp
  | succ n ih => rw [List.replicate_succ, List.cons_append, ones, ih]; omega
theorem ones_split : ∀ l : List Bool, ∃ r, l = List.replicate (ones l) true ++ r ∧ (r = [] ∨ ∃ t, r = false :: t)
  | [] => ⟨[], rfl, .inl rfl⟩
  | true :: t => by
    obtain ⟨r, h1, h2⟩ := ones_split t
    exact ⟨r, by rw [ones, List.replicate_succ, List.cons_append, ← h1], h2⟩
  | false :: t => ⟨false :: t, rfl, .inr ⟨t, rfl⟩⟩
theorem ones_take (l : List Bool) (m : Nat) : ones (l.take m) = min (ones l) m := by
  induction l generalizing m with
  | nil => simp [ones]
  | cons b t ih =>
    cases m with
    | zero => simp [ones]
    | succ m => cases b with
      | false => simp [ones]
      | true => simp only [List.take_succ_cons, ones, ih]; omega
theorem ones_get {l : List Bool} {i : Nat} (h : i < ones l) : l[i]? = some true := by
  induction l generalizing i with
  | nil => simp [ones] at h
  | cons b t ih =>
    cases b with
    | false => simp [ones] at h
    | true =>
      cases i with
      | zero => rfl
      | succ i => rw [List.getElem?_cons_succ]; exact ih (by simp only [ones] at h; omega)
theorem ones_end {l : List Bool} (h : ones l < l.length) : l[ones l]? = some false := by
  induction l with
  | nil => simp at h
  | cons b t ih =>
    cases b with
    | false => rfl
    | true => simp only [ones, List.length_cons] at h ⊢; rw [List.getElem?_cons_succ]; exact ih (by omega)

/-- The run of a number. -/
def run (n : Nat) : List Bool := List.replicate n true ++ (if n < 48 then [false] else [])
def runLen (n : Nat) : Nat := min (n + 1) 48
theorem run_len {n : Nat} (h : n ≤ 48) : (run n).length = runLen n := by
  unfold run runLen
  by_cases h1 : n < 48
  · simp [h1]; omega
  · obtain rfl : n = 48 := by omega
    simp
theorem lowBits_ones : ∀ n : Nat, lowBits (2 ^ n - 1) n = List.replicate n true
  | 0 => rfl
  | n + 1 => by
    have h := Nat.two_pow_pos n
    have h1 : (2 ^ (n + 1) - 1) / 2 = 2 ^ n - 1 := by rw [Nat.pow_succ]; omega
    have h2 : (2 ^ (n + 1) - 1) % 2 = 1 := by rw [Nat.pow_succ]; omega
    rw [lowBits, h1, h2, lowBits_ones n, List.replicate_succ]; rfl
theorem lowBits_run {n : Nat} (h : n ≤ 48) : lowBits (2 ^ n - 1) (runLen n) = run n := by
  unfold run runLen
  by_cases h1 : n < 48
  · rw [Nat.min_eq_left (by omega), lowBits_add, lowBits_ones, if_pos h1, Nat.div_eq_of_lt (by have := Nat.two_pow_pos n; omega)]; rfl
  · obtain rfl : n = 48 := by omega
    rw [if_neg h1, List.append_nil, Nat.min_eq_right (by omega), lowBits_ones]

/-- The run that bits begin with. -/
def readU (l : List Bool) : Got :=
  if ones (l.take 48) = 48 then .ok 48 48 else if ones (l.take 48) < l.length then .ok (ones (l.take 48)) (ones (l.take 48) + 1) else .err 24

theorem readU_run {n : Nat} (h : n ≤ 48) (t : List Bool) : readU (run n ++ t) = .ok n (runLen n) := by
  unfold readU run runLen
  by_cases h1 : n < 48
  · have e : ones ((List.replicate n true ++ (if n < 48 then [false] else []) ++ t).take 48) = n := by
      rw [if_pos h1, List.append_assoc, ones_take, ones_replicate]; simp [ones]; omega
    rw [e, if_neg (by omega), if_pos (by simp [h1]), Nat.min_eq_left (by omega)]
  · obtain rfl : n = 48 := by omega
    have e : ones ((List.replicate 48 true ++ (if 48 < 48 then [false] else []) ++ t).take 48) = 48 := by
      rw [List.append_assoc, ones_take, ones_replicate]; omega
    rw [e]; rfl
theorem readU_inv {l : List Bool} {n m : Nat} (h : readU l = .ok n m) : n ≤ 48 ∧ m = runLen n ∧ ∃ t, l = run n ++ t := by
  unfold readU at h
  have ht := ones_take l 48
  obtain ⟨r, h1, h2⟩ := ones_split l
  have hle := ones_le l
  split at h
  · injection h with h3 h4
    subst h3 h4
    refine ⟨Nat.le_refl _, rfl, List.replicate (ones l - 48) true ++ r, ?_⟩
    unfold run
    rw [if_neg (by omega), List.append_nil, ← List.append_assoc, List.replicate_append_replicate, show 48 + (ones l - 48) = ones l by omega]; exact h1
  · split at h
    · injection h with h3 h4
      subst h3 h4
      have e : ones (l.take 48) = ones l := by omega
      rw [e]
      refine ⟨by omega, by unfold runLen; omega, ?_⟩
      rcases h2 with rfl | ⟨t, rfl⟩
      · exfalso
        have := congrArg List.length h1
        simp at this
        omega
      · refine ⟨t, ?_⟩
        unfold run
        rw [if_pos (by omega), List.append_assoc]; exact h1
    · cases h
theorem readU_err {l : List Bool} {e : Nat} (h : readU l = .err e) : e = 24 ∧ ones l = l.length ∧ l.length < 48 := by
  unfold readU at h
  have ht := ones_take l 48
  have hle := ones_le l
  split at h
  · cases h
  · split at h
    · cases h
    · injection h with h
      exact ⟨h.symm, by omega, by omega⟩
theorem readU_cut {n i : Nat} (h : n ≤ 48) (hi : i < runLen n) : readU ((run n).take i) = .err 24 := by
  have h2 : i ≤ n := by unfold runLen at hi; omega
  have h3 : i < 48 := by unfold runLen at hi; omega
  have e : (run n).take i = List.replicate i true := by
    unfold run; rw [List.take_append_of_le_length (by simpa using h2), List.take_replicate, Nat.min_eq_left h2]
  rw [e]
  unfold readU
  have e2 : ones ((List.replicate i true).take 48) = i := by
    have := ones_replicate i []
    rw [List.append_nil] at this
    rw [ones_take, this]; simp [ones]; omega
  rw [e2, if_neg (by omega), if_neg (by simp)]

/-- A Rice code. -/
def rice (v k : Nat) : List Bool := if v / 2 ^ k < 48 then run (v / 2 ^ k) ++ lowBits (v % 2 ^ k) k else run 48 ++ lowBits v 32
def riceLen (v k : Nat) : Nat := if v / 2 ^ k < 48 then v / 2 ^ k + 1 + k else 80
theorem rice_len (v k : Nat) : (rice v k).length = riceLen v k := by
  unfold rice riceLen
  split
  · rw [List.length_append, run_len (by omega), lowBits_len]; unfold runLen; omega
  · rw [List.length_append, run_len (by omega), lowBits_len]; rfl
/-- How many bits stand behind a run. -/
def restLen (q k : Nat) : Nat := if q = 48 then 32 else k
/-- The Rice code that bits begin with. -/
def readR (l : List Bool) (k : Nat) : Got :=
  match readU l with
  | .err e => .err e
  | .ok q u =>
    if l.length - u < restLen q k then .err 24
    else if q < 48 then .ok (q * 2 ^ k + bval ((l.drop u).take (restLen q k))) (u + restLen q k)
    else if bval ((l.drop u).take (restLen q k)) / 2 ^ k < 48 then .err 12
    else .ok (bval ((l.drop u).take (restLen q k))) (u + restLen q k)

theorem runLen_lt {n : Nat} (h : n < 48) : runLen n = n + 1 := by unfold runLen; omega
theorem drop_run_append {n : Nat} (h : n ≤ 48) (t : List Bool) : (run n ++ t).drop (runLen n) = t := by rw [← run_len h, List.drop_left]

theorem readR_rice {v k : Nat} (hv : v < 4294967296) (t : List Bool) : readR (rice v k ++ t) k = .ok v (riceLen v k) := by
  have hp := Nat.two_pow_pos k
  by_cases h : v / 2 ^ k < 48
  · have e : rice v k ++ t = run (v / 2 ^ k) ++ (lowBits (v % 2 ^ k) k ++ t) := by unfold rice; rw [if_pos h, List.append_assoc]
    rw [e]
    unfold readR riceLen restLen
    rw [readU_run (by omega), if_pos h]
    dsimp only
    rw [if_neg (show ¬ v / 2 ^ k = 48 by omega), if_pos h, drop_run_append (by omega), if_neg, List.take_left' (lowBits_len _ _), bval_lowBits_lt (Nat.mod_lt _ hp), runLen_lt h, Nat.div_add_mod']
    rw [List.length_append, List.length_append, run_len (by omega), lowBits_len]; omega
  · have e : rice v k ++ t = run 48 ++ (lowBits v 32 ++ t) := by unfold rice; rw [if_neg h, List.append_assoc]
    have hv' : v < 2 ^ 32 := hv
    rw [e]
    unfold readR riceLen restLen
    rw [readU_run (by omega), if_neg h]
    dsimp only
    rw [if_pos rfl, drop_run_append (by omega), if_neg, if_neg (by omega), List.take_left' (lowBits_len _ _), bval_lowBits_lt hv', if_neg h]
    · rfl
    · rw [List.length_append, List.length_append, run_len (by omega), lowBits_len]; omega
theorem readR_inv {l : List Bool} {k v n : Nat} (h : readR l k = .ok v n) : v / 2 ^ k < 48 + 4294967296 ∧ n = riceLen v k ∧ ∃ t, l = rice v k ++ t := by
  have hp := Nat.two_pow_pos k
  unfold readR at h
  cases hu : readU l with
  | err e => rw [hu] at h; cases h
  | ok q u =>
    rw [hu] at h
    dsimp only at h
    obtain ⟨h1, rfl, t, rfl⟩ := readU_inv hu
    rw [drop_run_append h1] at h
    have hll : (run q ++ t).length - runLen q = t.length := by rw [List.length_append, run_len h1]; omega
    rw [hll] at h
    split at h
    · cases h
    · rename_i hlen
      have hb := bval_lt (t.take (restLen q k))
      rw [List.length_take, Nat.min_eq_left (by omega)] at hb
      split at h
      · rename_i hq
        injection h with h3 h4
        have hr : restLen q k = k := by unfold restLen; rw [if_neg (by omega)]
        rw [hr] at h3 h4 hb hlen
        have hdiv : v / 2 ^ k = q := by
          rw [← h3, Nat.add_comm, Nat.add_mul_div_right _ _ hp, Nat.div_eq_of_lt hb, Nat.zero_add]
        have hmod : v % 2 ^ k = bval (t.take k) := by
          rw [← h3, Nat.add_comm, Nat.add_mul_mod_self_right, Nat.mod_eq_of_lt hb]
        refine ⟨by omega, by unfold riceLen; rw [if_pos (by omega), hdiv, ← h4, runLen_lt hq], t.drop k, ?_⟩
        unfold rice
        rw [if_pos (by omega), hdiv, hmod, List.append_assoc]
        have e2 := lowBits_bval (t.take k)
        rw [List.length_take, Nat.min_eq_left (by omega)] at e2
        rw [e2, List.take_append_drop]
      · split at h
        · cases h
        · rename_i hq hv
          injection h with h3 h4
          obtain rfl : q = 48 := by omega
          have hr : restLen 48 k = 32 := rfl
          rw [hr] at h3 h4 hb hlen hv
          rw [h3] at hv hb
          refine ⟨?_, by unfold riceLen; rw [if_neg hv, ← h4]; rfl, t.drop 32, ?_⟩
          · have := Nat.div_le_self v (2 ^ k)
            have : v < 4294967296 := hb
            omega
          · unfold rice
            rw [if_neg hv, List.append_assoc]
            have e2 := lowBits_bval (t.take 32)
            rw [List.length_take, Nat.min_eq_left (by omega), h3] at e2
            rw [e2, List.take_append_drop]
theorem readR_lt {l : List Bool} {k v n : Nat} (hk : k ≤ 24) (h : readR l k = .ok v n) : v < 4294967296 := by
  obtain ⟨h0, h1, t, rfl⟩ := readR_inv h
  by_cases hv : v / 2 ^ k < 48
  · have hp := Nat.two_pow_pos k
    have : v < 48 * 2 ^ k := (Nat.div_lt_iff_lt_mul hp).1 hv
    have : 2 ^ k ≤ 2 ^ 24 := Nat.pow_le_pow_right (by omega) hk
    have : (2 : Nat) ^ 24 = 16777216 := by decide
    omega
  · unfold readR at h
    have e : rice v k ++ t = run 48 ++ (lowBits v 32 ++ t) := by unfold rice; rw [if_neg hv, List.append_assoc]
    rw [e, readU_run (by omega)] at h
    dsimp only at h
    rw [if_neg (show ¬ (48 : Nat) < 48 by omega)] at h
    split at h
    · cases h
    · split at h
      · cases h
      · injection h with h3 _
        rw [← h3]
        have := bval_lt ((List.drop (runLen 48) (run 48 ++ (lowBits v 32 ++ t))).take (restLen 48 k))
        refine Nat.lt_of_lt_of_le this ?_
        refine Nat.le_trans (Nat.pow_le_pow_right (by omega) (List.length_take_le _ _)) ?_
        show 2 ^ 32 ≤ 4294967296
        decide
theorem readR_err {l : List Bool} {k e : Nat} (h : readR l k = .err e) : e = 24 ∨ e = 12 ∧ 80 ≤ l.length := by
  unfold readR at h
  cases hu : readU l with
  | err e' => rw [hu] at h; injection h with h; exact .inl (by rw [← h]; exact (readU_err hu).1)
  | ok q u =>
    rw [hu] at h
    dsimp only at h
    obtain ⟨h1, rfl, t, rfl⟩ := readU_inv hu
    split at h
    · injection h with h; exact .inl h.symm
    · rename_i hlen
      split at h
      · cases h
      · split at h
        · injection h with h
          refine .inr ⟨h.symm, ?_⟩
          obtain rfl : q = 48 := by omega
          have hr : restLen 48 k = 32 := rfl
          have hr2 : runLen 48 = 48 := rfl
          rw [hr, hr2] at hlen
          omega
        · cases h
/-- Too few bits stay too few if fewer are there; what is complete stays as it is if more are there. -/
theorem readU_more {l : List Bool} {n m : Nat} (h : readU l = .ok n m) (t : List Bool) : readU (l ++ t) = .ok n m := by
  obtain ⟨h1, rfl, r, rfl⟩ := readU_inv h
  rw [List.append_assoc, readU_run h1]
theorem readR_more {l : List Bool} {k v n : Nat} (hk : k ≤ 24) (h : readR l k = .ok v n) (t : List Bool) : readR (l ++ t) k = .ok v n := by
  have hv := readR_lt hk h
  obtain ⟨h1, rfl, r, rfl⟩ := readR_inv h
  rw [List.append_assoc, readR_rice hv]
theorem readR_form {l : List Bool} {k : Nat} (h : readR l k = .err 12) (t : List Bool) : readR (l ++ t) k = .err 12 := by
  unfold readR at h ⊢
  cases hu : readU l with
  | err e' => rw [hu] at h; injection h with h; have := (readU_err hu).1; omega
  | ok q u =>
    rw [hu] at h
    rw [readU_more hu]
    dsimp only at h ⊢
    obtain ⟨h1, hu2, r, rfl⟩ := readU_inv hu
    split at h
    · injection h with h; omega
    · rename_i hlen
      have hl2 : u ≤ (run q ++ r).length := by rw [hu2, List.length_append, run_len h1]; omega
      have e : (((run q ++ r) ++ t).drop u).take (restLen q k) = ((run q ++ r).drop u).take (restLen q k) := by
        rw [List.drop_append_of_le_length hl2, List.take_append_of_le_length (by rw [List.length_drop]; omega)]
      rw [e]
      split at h
      · cases h
      · rename_i hq
        split at h
        · rename_i hv
          rw [if_neg (by rw [List.length_append]; omega), if_neg hq, if_pos hv]
        · cases h
theorem readR_cut {v k i : Nat} (hv : v < 4294967296) (hi : i < riceLen v k) (hk : k ≤ 24) : readR ((rice v k).take i) k = .err 24 := by
  cases h : readR ((rice v k).take i) k with
  | ok v' n =>
    exfalso
    have h2 := readR_more hk h ((rice v k).drop i)
    rw [List.take_append_drop] at h2
    have h3 := readR_rice (k := k) hv []
    rw [List.append_nil, h2] at h3
    injection h3 with h4 h5
    obtain ⟨_, h6, t, ht⟩ := readR_inv h
    have := congrArg List.length ht
    rw [List.length_append, List.length_take, rice_len, rice_len] at this
    omega
  | err e =>
    rcases readR_err h with rfl | ⟨rfl, _⟩
    · rfl
    · exfalso
      have h2 := readR_form h ((rice v k).drop i)
      rw [List.take_append_drop] at h2
      have h3 := readR_rice (k := k) hv []
      rw [List.append_nil, h2] at h3
      cases h3

theorem rice_len_le (v k : Nat) (hk : k ≤ 24) : k + 1 ≤ riceLen v k ∧ riceLen v k ≤ 80 := by
  unfold riceLen
  generalize v / 2 ^ k = q
  split <;> omega
theorem riceLen_mono {v w : Nat} (k : Nat) (hk : k ≤ 24) (h : v ≤ w) : riceLen v k ≤ riceLen w k := by
  have h1 := Nat.div_le_div_right (c := 2 ^ k) h
  unfold riceLen
  revert h1
  generalize v / 2 ^ k = q
  generalize w / 2 ^ k = r
  intro h1
  split <;> split <;> omega

end Cad.Code

/-
  The code with two levels, plainly: states, learning, codes, reading; lists of numbers.
-/
namespace Cad.Code
open Go Cad Cad.Bit
set_option linter.unusedVariables false

/-- A state. -/
structure Dual where
  k0 : Nat
  k1 : Nat
  s0 : Nat
  s1 : Nat
deriving DecidableEq
def Dual.Ok (d : Dual) : Prop := d.k0 ≤ 24 ∧ d.k1 ≤ 24 ∧ d.s0 ≤ 68719476735 ∧ d.s1 ≤ 68719476735
instance (d : Dual) : Decidable d.Ok := by unfold Dual.Ok; infer_instance
def start : Dual := ⟨10, 10, 16384, 16384⟩
theorem start_ok : start.Ok := by decide

/-- A Sum that has learnt a number. -/
def sumOf (s n : Nat) : Nat := s + n - s / 16
/-- A K, by its Sum. -/
def kOf (k s : Nat) : Nat := if 0 < k ∧ s < 16 * 2 ^ k then k - 1 else if k < 24 ∧ 32 * 2 ^ k < s then k + 1 else k
def learn (d : Dual) (v : Nat) : Dual :=
  if v < 2 ^ d.k0 then ⟨kOf d.k0 (sumOf d.s0 v), d.k1, sumOf d.s0 v, d.s1⟩
  else ⟨kOf d.k0 (sumOf d.s0 v), kOf d.k1 (sumOf d.s1 (v - 2 ^ d.k0)), sumOf d.s0 v, sumOf d.s1 (v - 2 ^ d.k0)⟩
theorem sumOf_le {s n : Nat} (hs : s ≤ 68719476735) (hn : n < 4294967296) : sumOf s n ≤ 68719476735 := by unfold sumOf; omega
theorem kOf_le {k : Nat} (s : Nat) (hk : k ≤ 24) : kOf k s ≤ 24 := by
  unfold kOf
  split
  · omega
  · split <;> omega
theorem learn_ok {d : Dual} {v : Nat} (h : d.Ok) (hv : v < 4294967296) : (learn d v).Ok := by
  obtain ⟨h0, h1, h2, h3⟩ := h
  unfold learn
  split
  · exact ⟨kOf_le _ h0, h1, sumOf_le h2 hv, h3⟩
  · exact ⟨kOf_le _ h0, kOf_le _ h1, sumOf_le h2 hv, sumOf_le h3 (Nat.lt_of_le_of_lt (Nat.sub_le _ _) hv)⟩

/-- The code of a number in a state. -/
def codeD (d : Dual) (v : Nat) : List Bool := if v < 2 ^ d.k0 then false :: lowBits v d.k0 else true :: rice (v - 2 ^ d.k0) d.k1
def lenD (d : Dual) (v : Nat) : Nat := if v < 2 ^ d.k0 then 1 + d.k0 else 1 + riceLen (v - 2 ^ d.k0) d.k1
theorem codeD_len (d : Dual) (v : Nat) : (codeD d v).length = lenD d v := by
  unfold codeD lenD
  split
  · rw [List.length_cons, lowBits_len]; omega
  · rw [List.length_cons, rice_len]; omega
theorem lenD_le {d : Dual} (h : d.Ok) (v : Nat) : 1 ≤ lenD d v ∧ lenD d v ≤ 81 := by
  have h0 := h.1
  have := rice_len_le (v - 2 ^ d.k0) d.k1 h.2.1
  unfold lenD
  split <;> omega

def readD (l : List Bool) (d : Dual) : Got :=
  match l with
  | [] => .err 24
  | false :: t => if t.length < d.k0 then .err 24 else .ok (bval (t.take d.k0)) (1 + d.k0)
  | true :: t =>
    match readR t d.k1 with
    | .err e => .err e
    | .ok v n => if 4294967296 ≤ v + 2 ^ d.k0 then .err 12 else .ok (v + 2 ^ d.k0) (1 + n)

theorem readD_code {d : Dual} {v : Nat} (hv : v < 4294967296) (t : List Bool) : readD (codeD d v ++ t) d = .ok v (lenD d v) := by
  unfold codeD lenD
  by_cases h : v < 2 ^ d.k0
  · rw [if_pos h, if_pos h, List.cons_append, readD, if_neg (by rw [List.length_append, lowBits_len]; omega), List.take_left' (lowBits_len _ _), bval_lowBits_lt h]
  · rw [if_neg h, if_neg h, List.cons_append, readD, readR_rice (Nat.lt_of_le_of_lt (Nat.sub_le _ _) hv)]
    dsimp only
    rw [if_neg (by omega), show v - 2 ^ d.k0 + 2 ^ d.k0 = v by omega]
theorem readD_lt {l : List Bool} {d : Dual} {v n : Nat} (hd : d.Ok) (h : readD l d = .ok v n) : v < 4294967296 := by
  unfold readD at h
  split at h
  · cases h
  · rename_i t
    split at h
    · cases h
    · injection h with h _
      have := bval_lt (t.take d.k0)
      have h2 : 2 ^ (t.take d.k0).length ≤ 2 ^ 24 := Nat.pow_le_pow_right (by omega) (by rw [List.length_take]; have := hd.1; omega)
      have : (2 : Nat) ^ 24 = 16777216 := by decide
      omega
  · split at h
    · cases h
    · split at h
      · cases h
      · injection h with h _; omega
theorem readD_inv {l : List Bool} {d : Dual} {v n : Nat} (hd : d.Ok) (h : readD l d = .ok v n) : n = lenD d v ∧ ∃ t, l = codeD d v ++ t := by
  unfold readD at h
  split at h
  · cases h
  · rename_i t
    split at h
    · cases h
    · rename_i hl
      injection h with h1 h2
      have hb := bval_lt (t.take d.k0)
      rw [List.length_take, Nat.min_eq_left (by omega), h1] at hb
      refine ⟨by unfold lenD; rw [if_pos hb, h2], t.drop d.k0, ?_⟩
      unfold codeD
      have e := lowBits_bval (t.take d.k0)
      rw [List.length_take, Nat.min_eq_left (by omega), h1] at e
      rw [if_pos hb, e, List.cons_append, List.take_append_drop]
  · rename_i t
    split at h
    · cases h
    · rename_i v' n' hr
      split at h
      · cases h
      · injection h with h1 h2
        obtain ⟨_, h3, r, rfl⟩ := readR_inv hr
        have hv : v - 2 ^ d.k0 = v' := by omega
        refine ⟨by unfold lenD; rw [if_neg (by omega), hv, ← h3, h2], r, ?_⟩
        unfold codeD
        rw [if_neg (by omega), hv]; rfl
theorem readD_err {l : List Bool} {d : Dual} {e : Nat} (hd : d.Ok) (h : readD l d = .err e) : e = 24 ∨ e = 12 ∧ 81 ≤ l.length := by
  unfold readD at h
  split at h
  · injection h with h; exact .inl h.symm
  · split at h
    · injection h with h; exact .inl h.symm
    · cases h
  · rename_i t
    split at h
    · rename_i e' hr
      injection h with h
      subst h
      rcases readR_err hr with h | ⟨h, h2⟩
      · exact .inl h
      · exact .inr ⟨h, by rw [List.length_cons]; omega⟩
    · rename_i v' n' hr
      split at h
      · injection h with h
        refine .inr ⟨h.symm, ?_⟩
        obtain ⟨_, h3, r, rfl⟩ := readR_inv hr
        rw [List.length_cons, List.length_append, rice_len]
        have h24 : (2 : Nat) ^ 24 = 16777216 := by decide
        have p0 : 2 ^ d.k0 ≤ 2 ^ 24 := Nat.pow_le_pow_right (by omega) hd.1
        have p1 : 2 ^ d.k1 ≤ 2 ^ 24 := Nat.pow_le_pow_right (by omega) hd.2.1
        have hq : 48 ≤ v' / 2 ^ d.k1 := (Nat.le_div_iff_mul_le (Nat.two_pow_pos _)).2 (by omega)
        have : riceLen v' d.k1 = 80 := by unfold riceLen; rw [if_neg (by omega)]
        omega
      · cases h
theorem readD_more {l : List Bool} {d : Dual} {v n : Nat} (hd : d.Ok) (h : readD l d = .ok v n) (t : List Bool) : readD (l ++ t) d = .ok v n := by
  have hv := readD_lt hd h
  obtain ⟨rfl, r, rfl⟩ := readD_inv hd h
  rw [List.append_assoc, readD_code hv]
theorem readD_form {l : List Bool} {d : Dual} (hd : d.Ok) (h : readD l d = .err 12) (t : List Bool) : readD (l ++ t) d = .err 12 := by
  unfold readD at h ⊢
  split at h
  · injection h with h; omega
  · split at h
    · injection h with h; omega
    · cases h
  · rename_i t'
    rw [List.cons_append]
    dsimp only
    split at h
    · rename_i e' hr
      injection h with h
      subst h
      rw [readR_form hr]
    · rename_i v' n' hr
      rw [readR_more hd.2.1 hr]
      dsimp only
      split at h
      · rename_i h2; rw [if_pos h2]
      · cases h
theorem readD_cut {d : Dual} {v i : Nat} (hd : d.Ok) (hv : v < 4294967296) (hi : i < lenD d v) : readD ((codeD d v).take i) d = .err 24 := by
  have h3 := readD_code (d := d) hv []
  rw [List.append_nil] at h3
  cases h : readD ((codeD d v).take i) d with
  | ok v' n =>
    exfalso
    have h2 := readD_more hd h ((codeD d v).drop i)
    rw [List.take_append_drop, h3] at h2
    injection h2 with h4 h5
    obtain ⟨h6, t, ht⟩ := readD_inv hd h
    have := congrArg List.length ht
    rw [List.length_append, List.length_take, codeD_len, codeD_len] at this
    omega
  | err e =>
    rcases readD_err hd h with rfl | ⟨rfl, _⟩
    · rfl
    · exfalso
      have h2 := readD_form hd h ((codeD d v).drop i)
      rw [List.take_append_drop, h3] at h2
      cases h2

/-- The codes of numbers, one behind the other; the state behind them. -/
def codeL : Dual → List Nat → List Bool
  | _, [] => []
  | d, v :: t => codeD d v ++ codeL (learn d v) t
def afterL : Dual → List Nat → Dual
  | d, [] => d
  | d, v :: t => afterL (learn d v) t
def lensL : Dual → List Nat → List Nat
  | _, [] => []
  | d, v :: t => lenD d v :: lensL (learn d v) t
theorem codeL_append (d : Dual) (a b : List Nat) : codeL d (a ++ b) = codeL d a ++ codeL (afterL d a) b := by
  induction a generalizing d with
  | nil => rfl
  | cons v t ih => rw [List.cons_append, codeL, codeL, afterL, ih, List.append_assoc]
theorem afterL_append (d : Dual) (a b : List Nat) : afterL d (a ++ b) = afterL (afterL d a) b := by
  induction a generalizing d with
  | nil => rfl
  | cons v t ih => rw [List.cons_append, afterL, afterL, ih]
theorem lensL_append (d : Dual) (a b : List Nat) : lensL d (a ++ b) = lensL d a ++ lensL (afterL d a) b := by
  induction a generalizing d with
  | nil => rfl
  | cons v t ih => rw [List.cons_append, lensL, lensL, afterL, ih, List.cons_append]
theorem lensL_len (d : Dual) (a : List Nat) : (lensL d a).length = a.length := by
  induction a generalizing d with
  | nil => rfl
  | cons v t ih => rw [lensL, List.length_cons, List.length_cons, ih]
theorem codeL_len (d : Dual) (a : List Nat) : (codeL d a).length = (lensL d a).sum := by
  induction a generalizing d with
  | nil => rfl
  | cons v t ih => rw [codeL, lensL, List.length_append, codeD_len, List.sum_cons, ih]
def Small (l : List Nat) : Prop := ∀ v ∈ l, v < 4294967296
theorem afterL_ok {d : Dual} (hd : d.Ok) {l : List Nat} (hl : Small l) : (afterL d l).Ok := by
  induction l generalizing d with
  | nil => exact hd
  | cons v t ih => exact ih (learn_ok hd (hl v (List.mem_cons_self ..))) fun x hx => hl x (List.mem_cons_of_mem _ hx)
theorem codeL_le {d : Dual} (hd : d.Ok) {l : List Nat} (hl : Small l) : l.length ≤ (codeL d l).length ∧ (codeL d l).length ≤ 81 * l.length := by
  induction l generalizing d with
  | nil => exact ⟨Nat.le_refl _, Nat.le_refl _⟩
  | cons v t ih =>
    have h1 := ih (learn_ok hd (hl v (List.mem_cons_self ..))) fun x hx => hl x (List.mem_cons_of_mem _ hx)
    have h2 := lenD_le hd v
    rw [codeL, List.length_append, codeD_len, List.length_cons]; omega

end Cad.Code

/-
  Words for memory, further: a row that lies between two blocks; bits as a value; small laws in the form in which a search applies them. Over any program.
-/
namespace Cad
open Go Go.RowKit Cad.Bit
set_option linter.unusedVariables false

/-- The slice reads as xs; its block is lo or younger, and older than hi. -/
def RowIn (k : IntKind) (w : World) (lo hi : Nat) (A : Option Addr) (n : Nat) (xs : List Int) : Prop :=
  xs.length = n ∧ (0 < n → ∃ b off, A = some ⟨b, off, none⟩ ∧ lo ≤ b ∧ b < hi ∧ ∀ j, j < n → w.cell? ⟨b, off + j, none⟩ = some (.int k (nth xs j)))

theorem lt_of_cell' {w : World} {b o : Nat} {v : Value} (h : w.cell? ⟨b, o, none⟩ = some v) : b < w.heap.size := by
  rcases Nat.lt_or_ge b w.heap.size with hlt | hge
  · exact hlt
  · unfold World.cell? at h; rw [Array.getElem?_eq_none hge] at h; cases h

section
variable {k : IntKind} {w w' : World} {lo hi : Nat} {A : Option Addr} {n : Nat} {xs : List Int}
theorem RowIn.len (h : RowIn k w lo hi A n xs) : xs.length = n := h.1
theorem RowIn.row (h : RowIn k w lo hi A n xs) : Row k w A n xs :=
  ⟨h.1, fun hn => by
    obtain ⟨b, off, e, _, _, hc⟩ := h.2 hn
    exact ⟨b, off, e, lt_of_cell' (hc 0 hn), hc⟩⟩
theorem Row.rowIn (h : Row k w A n xs) : RowIn k w 0 w.heap.size A n xs :=
  ⟨h.1, fun hn => by
    obtain ⟨b, off, e, hb, hc⟩ := h.2 hn
    exact ⟨b, off, e, Nat.zero_le _, hb, hc⟩⟩
theorem RowIn.nil : RowIn k w lo hi A 0 [] := ⟨rfl, fun h => absurd h (by omega)⟩
theorem RowIn.keep (h : RowIn k w lo hi A n xs) (hk : ∀ p : Addr, lo ≤ p.block → p.block < hi → p.block < w.heap.size → w'.cell? p = w.cell? p) : RowIn k w' lo hi A n xs :=
  ⟨h.1, fun hn => by
    obtain ⟨b, off, e, hb, hb2, hc⟩ := h.2 hn
    exact ⟨b, off, e, hb, hb2, fun j hj => (hk _ hb hb2 (lt_of_cell' (hc j hj))).trans (hc j hj)⟩⟩
theorem RowIn.mono {lo' hi' : Nat} (h : RowIn k w lo hi A n xs) (h1 : lo' ≤ lo) (h2 : hi ≤ hi') : RowIn k w lo' hi' A n xs :=
  ⟨h.1, fun hn => by
    obtain ⟨b, off, e, hb, hb2, hc⟩ := h.2 hn
    exact ⟨b, off, e, by omega, by omega, hc⟩⟩
theorem RowIn.below {B : Nat} (h : RowIn k w lo hi A n xs) (hb : Below B w w') (hB : hi ≤ B) : RowIn k w' lo hi A n xs := h.keep fun p _ h2 _ => hb.cell (by omega)
theorem RowIn.belowS (h : RowIn k w lo hi A n xs) (hb : Below w.heap.size w w') : RowIn k w' lo hi A n xs := h.keep fun p _ _ h3 => hb.cell h3
theorem RowIn.alloc (h : RowIn k w lo hi A n xs) (o : Obj) : RowIn k (w.alloc o) lo hi A n xs := h.keep fun p _ _ h3 => World.cell?_alloc_lt w o p h3
theorem RowIn.drewN (h : RowIn k w lo hi A n xs) (m : Nat) : RowIn k (w.drewN m) lo hi A n xs := h
theorem RowIn.drew (h : RowIn k w lo hi A n xs) : RowIn k w.drew lo hi A n xs := h
theorem RowIn.setCell (h : RowIn k w lo hi A n xs) {p : Addr} (hp : p.block < lo ∨ hi ≤ p.block) (u : Value) : RowIn k (w.setCell p u) lo hi A n xs :=
  h.keep fun q h1 h2 _ => World.cell?_setCell_other w p q u (fun e => by subst e; omega)
theorem Own.rowIn {base : Nat} {e : TypeId} {c : Nat} (h : Own w base e k A n c xs) : RowIn k w base w.heap.size A n xs :=
  ⟨h.len, fun hn => by
    obtain ⟨b, off, e, hb, hc⟩ := h.row.at hn
    exact ⟨b, off, e, (h.block b (by rw [e]; rfl)).1, hb, hc⟩⟩
end

/-- A value of the type of bits that reads as bits; its bytes lie between two blocks. -/
def BitsIn (w : World) (lo hi : Nat) (x : Value) (bs : List Bool) : Prop := ∃ A n c, x = .agg #[.slice A n c, .int .i64 (bs.length : Nat)] ∧ (n ≤ c ∧ c ≤ 9223372036854775807) ∧ RowIn .u8 w lo hi A n (pack bs)
theorem BitsIn.zero (w : World) (lo hi : Nat) : BitsIn w lo hi (.agg #[.slice none 0 0, .int .i64 0]) [] := ⟨none, 0, 0, rfl, ⟨Nat.le_refl _, Nat.zero_le _⟩, RowIn.nil⟩

section
variable {w w' : World} {g : Nat} {t : TypeId} {l l0 : List Value}
theorem Blk.new' {o : Obj} (hg : g = w.heap.size) (ho : o = .cells l.toArray t) : Blk (w.alloc o) g t l := by subst hg ho; exact Blk.new w t l
theorem Blk.set' {i : Nat} {u : Value} (h : Blk w g t l0) (hl : l0.set i u = l) : Blk (w.setCell ⟨g, i, none⟩ u) g t l := by rw [← hl]; exact h.set i u
theorem Blk.far' {b i : Nat} (h : Blk w g t l) (hp : g ≠ b) (u : Value) : Blk (w.setCell ⟨b, i, none⟩ u) g t l := h.far (p := ⟨b, i, none⟩) hp u
theorem RowIn.far' {k : IntKind} {lo hi : Nat} {A : Option Addr} {n : Nat} {xs : List Int} {b i : Nat} (h : RowIn k w lo hi A n xs) (hp : b < lo ∨ hi ≤ b) (u : Value) : RowIn k (w.setCell ⟨b, i, none⟩ u) lo hi A n xs := h.setCell (p := ⟨b, i, none⟩) hp u
theorem Below.far' {B : Nat} {a : World} {b i : Nat} (h : Below B a w) (hp : B ≤ b) (u : Value) : Below B a (w.setCell ⟨b, i, none⟩ u) := h.setCell (p := ⟨b, i, none⟩) hp u
/-- A call that changes nothing old: its frame joined to what was known. -/
theorem Below.after {B : Nat} {a : World} (h : Below B a w) (k : Below w.heap.size w w') (hB : B ≤ w.heap.size) : Below B a w' := h.trans (k.mono hB)
theorem Blk.after (h : Blk w g t l) (k : Below w.heap.size w w') : Blk w' g t l := h.below k h.lt
end

theorem Own.far' {w : World} {base : Nat} {e : TypeId} {k : IntKind} {A : Option Addr} {n c : Nat} {xs : List Int} {b i : Nat} (h : Own w base e k A n c xs) (hb : blockOf A ≠ some b) (u : Value) : Own (w.setCell ⟨b, i, none⟩ u) base e k A n c xs :=
  h.frm (S := fun j => j = b) ((Frm.refl (fun j => j = b) w).setCell (p := ⟨b, i, none⟩) (fun _ => rfl) u) (fun j e hj => hb (by rw [e, hj]))
theorem Frm.new' {S : Nat → Prop} {a w : World} {b i : Nat} (h : Frm S a w) (hb : a.heap.size ≤ b) (u : Value) : Frm S a (w.setCell ⟨b, i, none⟩ u) := h.setCell (p := ⟨b, i, none⟩) (fun hlt => absurd hlt (by show ¬ b < a.heap.size; omega)) u
theorem row_one' {k : IntKind} {w : World} {x : Int} {t : TypeId} {g : Nat} (hg : g = w.heap.size) : Row k (w.alloc (.cells #[.int k x] t)) (some ⟨g, 0, none⟩) 1 [x] := by subst hg; exact row_one k w x t
theorem own_empty' {w : World} {base : Nat} {e : TypeId} {k : IntKind} {g : Nat} (hg : g = w.heap.size) (hb : base ≤ w.heap.size) : Own (w.alloc (.cells #[] e)) base e k (some ⟨g, 0, none⟩) 0 0 [] := by subst hg; exact own_empty w e k hb
theorem size_drewN (w : World) (n : Nat) : (w.drewN n).heap.size = w.heap.size := rfl

/-- What a function that hands back bits and an error ends in. -/
def RetB (w : World) (l : List Bool) (er : Int) (e : Ending) (w' : World) : Prop :=
  ∃ A n c bs', e = .returned (.tuple #[.agg #[.slice A n c, .int .i64 (bs'.length : Nat)], .int .i64 er]) ∧ (n ≤ c ∧ c ≤ 9223372036854775807) ∧ RowIn .u8 w' w.heap.size w'.heap.size A n (pack bs') ∧ Hid (bs' = l) ∧ Below w.heap.size w w'
theorem RetB.of {w w' : World} {l : List Bool} {er : Int} {e : Ending} {x : Value} (he : e = .returned (.tuple #[x, .int .i64 er])) (hx : BitsIn w' w.heap.size w'.heap.size x l) (hb : Below w.heap.size w w') : RetB w l er e w' := by
  obtain ⟨A, n, c, rfl, hc, hr⟩ := hx
  exact ⟨A, n, c, l, he, hc, hr, Lib.hid rfl, hb⟩
/-- What a function that hands back bits ends in. -/
def RetB1 (w : World) (l : List Bool) (e : Ending) (w' : World) : Prop :=
  ∃ A n c bs', e = .returned (.agg #[.slice A n c, .int .i64 (bs'.length : Nat)]) ∧ (n ≤ c ∧ c ≤ 9223372036854775807) ∧ RowIn .u8 w' w.heap.size w'.heap.size A n (pack bs') ∧ Hid (bs' = l) ∧ Below w.heap.size w w'
theorem RetB1.of {w w' : World} {l : List Bool} {e : Ending} {x : Value} (he : e = .returned x) (hx : BitsIn w' w.heap.size w'.heap.size x l) (hb : Below w.heap.size w w') : RetB1 w l e w' := by
  obtain ⟨A, n, c, rfl, hc, hr⟩ := hx
  exact ⟨A, n, c, l, he, hc, hr, Lib.hid rfl, hb⟩

end Cad

/-
  The first ones of a slice's numbers as naturals: their codes, the state behind them, their lengths, plainly.
-/
namespace Cad.Code
open Go Cad Cad.Bit
set_option linter.unusedVariables false

/-- The first j of a slice's numbers. -/
def pre (xs : List Int) (j : Nat) : List Nat := (List.range j).map fun i => (nth xs i).toNat
theorem pre_zero (xs : List Int) : pre xs 0 = [] := rfl
theorem pre_next (xs : List Int) (j : Nat) : pre xs (j + 1) = pre xs j ++ [(nth xs j).toNat] := by
  unfold pre; rw [List.range_succ, List.map_append]; rfl
theorem pre_len (xs : List Int) (j : Nat) : (pre xs j).length = j := by unfold pre; simp
theorem pre_small {xs : List Int} (hx : Within 0 4294967295 xs) (j : Nat) : Small (pre xs j) := by
  intro v hv
  unfold pre at hv
  obtain ⟨i, _, rfl⟩ := List.mem_map.1 hv
  have h := hx.nth (by decide) (by decide) i
  omega
def codeP (d : Dual) (xs : List Int) (j : Nat) : List Bool := codeL d (pre xs j)
def stP (d : Dual) (xs : List Int) (j : Nat) : Dual := afterL d (pre xs j)
theorem codeP_zero (d : Dual) (xs : List Int) : codeP d xs 0 = [] := rfl
theorem stP_zero (d : Dual) (xs : List Int) : stP d xs 0 = d := rfl
theorem codeP_next (d : Dual) (xs : List Int) (j : Nat) : codeP d xs (j + 1) = codeP d xs j ++ codeD (stP d xs j) (nth xs j).toNat := by
  unfold codeP stP; rw [pre_next, codeL_append, codeL, codeL, List.append_nil]
theorem stP_next (d : Dual) (xs : List Int) (j : Nat) : stP d xs (j + 1) = learn (stP d xs j) (nth xs j).toNat := by
  unfold stP; rw [pre_next, afterL_append, afterL, afterL]
theorem stP_ok {d : Dual} (hd : d.Ok) {xs : List Int} (hx : Within 0 4294967295 xs) (j : Nat) : (stP d xs j).Ok := afterL_ok hd (pre_small hx j)
theorem codeP_le {d : Dual} (hd : d.Ok) {xs : List Int} (hx : Within 0 4294967295 xs) (j : Nat) : j ≤ (codeP d xs j).length ∧ (codeP d xs j).length ≤ 81 * j := by
  have h := codeL_le hd (pre_small hx j)
  rw [pre_len] at h; exact h
theorem codeP_split (d : Dual) (xs : List Int) (i : Nat) : ∀ n, i < n → ∃ r, codeP d xs n = codeP d xs i ++ (codeD (stP d xs i) (nth xs i).toNat ++ r) := by
  intro n
  induction n with
  | zero => intro h; omega
  | succ n ih =>
    intro h
    rcases Nat.lt_or_ge i n with h2 | h2
    · obtain ⟨r, hr⟩ := ih h2
      exact ⟨r ++ codeD (stP d xs n) (nth xs n).toNat, by rw [codeP_next, hr, List.append_assoc, List.append_assoc]⟩
    · obtain rfl : i = n := by omega
      exact ⟨[], by rw [codeP_next, List.append_nil]⟩
theorem codeP_len_next (d : Dual) (xs : List Int) (j : Nat) : (codeP d xs (j + 1)).length = (codeP d xs j).length + lenD (stP d xs j) (nth xs j).toNat := by
  rw [codeP_next, List.length_append, codeD_len]
/-- A state is four numbers. -/
theorem Dual.four (d : Dual) : ∃ a b c e : Nat, d = ⟨a, b, c, e⟩ := ⟨d.k0, d.k1, d.s0, d.s1, rfl⟩

end Cad.Code

/-
  Lists of numbers read from bits, and bits that are fed piece by piece, plainly.
-/
namespace Cad.Code
open Go Cad Cad.Bit
set_option linter.unusedVariables false

theorem small_nil : Small [] := fun x hx => by cases hx

theorem readR_short {l : List Bool} {k : Nat} (hk : k ≤ 24) (h : readR l k = .err 24) : l.length < 80 := by
  unfold readR at h
  cases hu : readU l with
  | err e' => have := (readU_err hu).2.2; omega
  | ok q u =>
    rw [hu] at h
    dsimp only at h
    obtain ⟨h1, rfl, t, rfl⟩ := readU_inv hu
    split at h
    · rename_i hlen
      unfold restLen at hlen
      unfold runLen at hlen
      split at hlen <;> omega
    · split at h
      · cases h
      · split at h
        · injection h with h; omega
        · cases h
theorem readD_short {l : List Bool} {d : Dual} (hd : d.Ok) (h : readD l d = .err 24) : l.length ≤ 80 := by
  unfold readD at h
  split at h
  · simp
  · split at h
    · rename_i h2; have := hd.1; rw [List.length_cons]; omega
    · cases h
  · rename_i t
    split at h
    · rename_i e' hr
      injection h with h
      subst h
      have := readR_short hd.2.1 hr
      rw [List.length_cons]; omega
    · split at h
      · injection h with h; omega
      · cases h
theorem readD_len {l : List Bool} {d : Dual} {v n : Nat} (hd : d.Ok) (h : readD l d = .ok v n) : 1 ≤ n ∧ n ≤ 81 ∧ n ≤ l.length := by
  obtain ⟨rfl, t, rfl⟩ := readD_inv hd h
  have := lenD_le hd v
  rw [List.length_append, codeD_len]; omega

/-- What reading several numbers gives: the numbers, how many bits they had, the state; or an error. -/
inductive GotL where
  | ok (vs : List Nat) (n : Nat) (d : Dual)
  | err (e : Nat)
def GotL.cons (v m : Nat) : GotL → GotL
  | .ok vs n d => .ok (v :: vs) (m + n) d
  | .err e => .err e
def readL : Nat → List Bool → Dual → GotL
  | 0, _, d => .ok [] 0 d
  | n + 1, l, d =>
    match readD l d with
    | .err e => .err e
    | .ok v m => (readL n (l.drop m) (learn d v)).cons v m

theorem readL_code {d : Dual} (vs : List Nat) (hs : Small vs) (t : List Bool) : readL vs.length (codeL d vs ++ t) d = .ok vs (codeL d vs).length (afterL d vs) := by
  induction vs generalizing d with
  | nil => rfl
  | cons v r ih =>
    have hv := hs v (List.mem_cons_self ..)
    rw [List.length_cons, readL, codeL, List.append_assoc, readD_code hv]
    dsimp only
    rw [List.drop_left' (codeD_len d v), ih (fun x hx => hs x (List.mem_cons_of_mem _ hx)), GotL.cons, List.length_append, codeD_len, afterL]
theorem readL_inv {n : Nat} {l : List Bool} {d d' : Dual} {vs : List Nat} {m : Nat} (hd : d.Ok) (h : readL n l d = .ok vs m d') : vs.length = n ∧ Small vs ∧ m = (codeL d vs).length ∧ d' = afterL d vs ∧ ∃ t, l = codeL d vs ++ t := by
  induction n generalizing l d vs m d' with
  | zero =>
    rw [readL] at h
    injection h with h1 h2 h3
    subst h1 h2 h3
    exact ⟨rfl, small_nil, rfl, rfl, l, rfl⟩
  | succ n ih =>
    rw [readL] at h
    cases hr : readD l d with
    | err e => rw [hr] at h; cases h
    | ok v k =>
      rw [hr] at h
      dsimp only at h
      have hv := readD_lt hd hr
      obtain ⟨rfl, t, rfl⟩ := readD_inv hd hr
      rw [List.drop_left' (codeD_len d v)] at h
      cases hq : readL n t (learn d v) with
      | err e => rw [hq] at h; cases h
      | ok us k' d'' =>
        rw [hq, GotL.cons] at h
        injection h with h1 h2 h3
        obtain ⟨i1, i2, i3, i4, r, i5⟩ := ih (learn_ok hd hv) hq
        subst h1 h2 h3
        refine ⟨by rw [List.length_cons, i1], fun x hx => ?_, by rw [codeL, List.length_append, codeD_len, i3], by rw [afterL, i4], r, by rw [codeL, List.append_assoc, ← i5]⟩
        rcases List.mem_cons.1 hx with rfl | hx
        · exact hv
        · exact i2 x hx
theorem readL_err {n : Nat} {l : List Bool} {d : Dual} {e : Nat} (hd : d.Ok) (h : readL n l d = .err e) : e = 24 ∨ e = 12 := by
  induction n generalizing l d with
  | zero => cases h
  | succ n ih =>
    rw [readL] at h
    cases hr : readD l d with
    | err e' =>
      rw [hr] at h
      injection h with h
      subst h
      rcases readD_err hd hr with h | h
      · exact .inl h
      · exact .inr h.1
    | ok v k =>
      rw [hr] at h
      dsimp only at h
      cases hq : readL n (l.drop k) (learn d v) with
      | err e' =>
        rw [hq, GotL.cons] at h
        injection h with h
        subst h
        exact ih (learn_ok hd (readD_lt hd hr)) hq
      | ok _ _ _ => rw [hq] at h; cases h

/-- The first of some numbers' codes, cut off: too short for all, and the complete ones are read. -/
theorem readL_cut {d : Dual} (hd : d.Ok) (vs : List Nat) (hs : Small vs) (i : Nat) (hi : i < (codeL d vs).length) : readL vs.length ((codeL d vs).take i) d = .err 24 := by
  induction vs generalizing d i with
  | nil => simp [codeL] at hi
  | cons v r ih =>
    have hv := hs v (List.mem_cons_self ..)
    have hs' : Small r := fun x hx => hs x (List.mem_cons_of_mem _ hx)
    rw [List.length_cons, readL, codeL]
    by_cases h : i < lenD d v
    · rw [List.take_append_of_le_length (by rw [codeD_len]; omega), readD_cut hd hv h]
    · rw [List.take_append, List.take_of_length_le (by rw [codeD_len]; omega), readD_code hv]
      dsimp only
      rw [List.drop_left' (codeD_len d v), codeD_len, ih (learn_ok hd hv) hs' (i - lenD d v) (by rw [codeL, List.length_append, codeD_len] at hi; omega)]
      rfl

/-- What feeding gives: the numbers, how many are still to come, the state, the bits that are left; or an error. -/
inductive Fed where
  | ok (vs : List Nat) (left : Nat) (d : Dual) (rest : List Bool)
  | err (e : Nat)
def Fed.cons (v : Nat) : Fed → Fed
  | .ok vs n d r => .ok (v :: vs) n d r
  | .err e => .err e
def Fed.app (us : List Nat) : Fed → Fed
  | .ok vs n d r => .ok (us ++ vs) n d r
  | .err e => .err e
theorem Fed.app_nil (f : Fed) : Fed.app [] f = f := by cases f <;> rfl
theorem Fed.app_cons (v : Nat) (us : List Nat) (f : Fed) : Fed.app (v :: us) f = (Fed.app us f).cons v := by cases f <;> rfl
theorem Fed.app_app (us vs : List Nat) (f : Fed) : Fed.app us (Fed.app vs f) = Fed.app (us ++ vs) f := by cases f <;> simp [Fed.app]
def feed : Nat → Dual → List Bool → Fed
  | 0, d, l => if 8 ≤ l.length then .err 38 else .ok [] 0 d l
  | n + 1, d, l =>
    match readD l d with
    | .err e => if e = 24 then .ok [] (n + 1) d l else .err e
    | .ok v m => (feed n (learn d v) (l.drop m)).cons v

/-- A valid state: how many are to come, the state of the code, the bits. -/
def FOk (n : Nat) (d : Dual) (l : List Bool) : Prop := d.Ok ∧ if n = 0 then l.length < 8 else readD l d = .err 24
theorem feed_ok {n : Nat} {d : Dual} {l : List Bool} (hd : d.Ok) {vs : List Nat} {n' : Nat} {d' : Dual} {r : List Bool} (h : feed n d l = .ok vs n' d' r) :
    FOk n' d' r ∧ vs.length + n' = n ∧ Small vs ∧ d' = afterL d vs ∧ l = codeL d vs ++ r := by
  induction n generalizing d l vs n' d' r with
  | zero =>
    rw [feed] at h
    split at h
    · cases h
    · injection h with h1 h2 h3 h4
      subst h1 h2 h3 h4
      exact ⟨⟨hd, by rw [if_pos rfl]; omega⟩, rfl, small_nil, rfl, rfl⟩
  | succ n ih =>
    rw [feed] at h
    cases hr : readD l d with
    | err e =>
      rw [hr] at h
      dsimp only at h
      split at h
      · rename_i he
        injection h with h1 h2 h3 h4
        subst h1 h2 h3 h4 he
        exact ⟨⟨hd, by rw [if_neg (by omega)]; exact hr⟩, by simp, small_nil, rfl, rfl⟩
      · cases h
    | ok v m =>
      rw [hr] at h
      dsimp only at h
      have hv := readD_lt hd hr
      obtain ⟨rfl, t, rfl⟩ := readD_inv hd hr
      rw [List.drop_left' (codeD_len d v)] at h
      cases hq : feed n (learn d v) t with
      | err e => rw [hq] at h; cases h
      | ok us k d'' r' =>
        rw [hq, Fed.cons] at h
        injection h with h1 h2 h3 h4
        subst h1 h2 h3 h4
        obtain ⟨i1, i2, i3, i4, i5⟩ := ih (learn_ok hd hv) hq
        refine ⟨i1, by rw [List.length_cons]; omega, fun x hx => ?_, by rw [afterL, i4], by rw [codeL, List.append_assoc, ← i5]⟩
        rcases List.mem_cons.1 hx with rfl | hx
        · exact hv
        · exact i3 x hx
theorem feed_err {n : Nat} {d : Dual} {l : List Bool} {e : Nat} (hd : d.Ok) (h : feed n d l = .err e) : e = 38 ∨ e = 12 := by
  induction n generalizing d l with
  | zero =>
    rw [feed] at h
    split at h
    · injection h with h; exact .inl h.symm
    · cases h
  | succ n ih =>
    rw [feed] at h
    cases hr : readD l d with
    | err e' =>
      rw [hr] at h
      dsimp only at h
      split at h
      · cases h
      · injection h with h
        subst h
        rcases readD_err hd hr with h2 | h2
        · exact absurd h2 (by assumption)
        · exact .inr h2.1
    | ok v m =>
      rw [hr] at h
      dsimp only at h
      cases hq : feed n (learn d v) (l.drop m) with
      | err e' =>
        rw [hq] at h
        injection h with h
        subst h
        exact ih (learn_ok hd (readD_lt hd hr)) hq
      | ok _ _ _ _ => rw [hq] at h; cases h
/-- Pieces do not matter. -/
theorem feed_append {n : Nat} {d : Dual} (hd : d.Ok) (a b : List Bool) :
    feed n d (a ++ b) = match feed n d a with
      | .err e => .err e
      | .ok vs n' d' r => (feed n' d' (r ++ b)).app vs := by
  induction n generalizing d a with
  | zero =>
    rw [feed, feed]
    by_cases h : 8 ≤ a.length
    · rw [if_pos h, if_pos (by rw [List.length_append]; omega)]
    · rw [if_neg h]
      dsimp only
      rw [Fed.app_nil, feed]
  | succ n ih =>
    rw [feed, feed]
    cases hr : readD a d with
    | err e =>
      dsimp only
      by_cases h : e = 24
      · rw [if_pos h]
        dsimp only
        rw [Fed.app_nil, feed]
      · have he : e = 12 := by
          rcases readD_err hd hr with h2 | h2
          · exact absurd h2 h
          · exact h2.1
        subst he
        rw [if_neg h, readD_form hd hr]
        dsimp only
        rw [if_neg h]
    | ok v m =>
      have hl := (readD_len hd hr).2.2
      rw [readD_more hd hr]
      dsimp only
      rw [List.drop_append_of_le_length hl, ih (learn_ok hd (readD_lt hd hr))]
      cases hq : feed n (learn d v) (a.drop m) with
      | err e => rfl
      | ok vs n' d' r =>
        show (Fed.app vs (feed n' d' (r ++ b))).cons v = Fed.app (v :: vs) (feed n' d' (r ++ b))
        rw [Fed.app_cons]
/-- A valid state stays as it is if nothing comes. -/
theorem feed_stays {n : Nat} {d : Dual} {l : List Bool} (h : FOk n d l) : feed n d l = .ok [] n d l := by
  cases n with
  | zero => rw [feed, if_neg (by have := h.2; rw [if_pos rfl] at this; omega)]
  | succ n => rw [feed, show readD l d = .err 24 by have := h.2; rwa [if_neg (by omega)] at this]; rfl
theorem FOk.short {n : Nat} {d : Dual} {l : List Bool} (h : FOk n d l) : l.length ≤ 80 := by
  have h2 := h.2
  split at h2
  · omega
  · exact readD_short h.1 h2

end Cad.Code

/-
  Codes of lists that are cut off, plainly (for CoderCut); lists of lengths (for law12).
-/
namespace Cad.Code
open Go Cad Cad.Bit
set_option linter.unusedVariables false

theorem small_take {vs : List Nat} (hs : Small vs) (n : Nat) : Small (vs.take n) := fun v hv => hs v (List.mem_of_mem_take hv)
theorem codeL_take (d : Dual) (vs : List Nat) (n : Nat) : codeL d vs = codeL d (vs.take n) ++ codeL (afterL d (vs.take n)) (vs.drop n) := by
  rw [← codeL_append, List.take_append_drop]
theorem readL_take_ok {d : Dual} (vs : List Nat) (hs : Small vs) {n : Nat} (hn : n ≤ vs.length) {left : Nat} (h : (codeL d (vs.take n)).length ≤ left) :
    readL n ((codeL d vs).take left) d = .ok (vs.take n) (codeL d (vs.take n)).length (afterL d (vs.take n)) := by
  have hl : (vs.take n).length = n := by rw [List.length_take]; omega
  have e : (codeL d vs).take left = codeL d (vs.take n) ++ (codeL (afterL d (vs.take n)) (vs.drop n)).take (left - (codeL d (vs.take n)).length) := by
    conv => lhs; rw [codeL_take d vs n]
    rw [List.take_append, List.take_of_length_le h]
  rw [e]
  have hr := readL_code (d := d) (vs.take n) (small_take hs n) ((codeL (afterL d (vs.take n)) (vs.drop n)).take (left - (codeL d (vs.take n)).length))
  rw [hl] at hr
  exact hr
theorem readL_take_err {d : Dual} (hd : d.Ok) (vs : List Nat) (hs : Small vs) {n : Nat} (hn : n ≤ vs.length) {left : Nat} (h : left < (codeL d (vs.take n)).length) :
    readL n ((codeL d vs).take left) d = .err 24 := by
  have hl : (vs.take n).length = n := by rw [List.length_take]; omega
  have e : (codeL d vs).take left = (codeL d (vs.take n)).take left := by
    conv => lhs; rw [codeL_take d vs n]
    rw [List.take_append_of_le_length (by omega)]
  rw [e]
  have hr := readL_cut hd (vs.take n) (small_take hs n) left h
  rw [hl] at hr
  exact hr
theorem pre_take (xs : List Int) {n m : Nat} (h : n ≤ m) : (pre xs m).take n = pre xs n := by
  unfold pre
  rw [← List.map_take, List.take_range]
  congr 2; omega
/-- How many bits the first ones have. -/
def lenP (d : Dual) (xs : List Int) (j : Nat) : Nat := (codeP d xs j).length
theorem lenP_zero (d : Dual) (xs : List Int) : lenP d xs 0 = 0 := rfl
theorem lenP_next (d : Dual) (xs : List Int) (j : Nat) : lenP d xs (j + 1) = lenP d xs j + lenD (stP d xs j) (nth xs j).toNat := codeP_len_next d xs j
theorem lenP_mono (d : Dual) (xs : List Int) {i j : Nat} (h : i ≤ j) : lenP d xs i ≤ lenP d xs j := by
  induction j with
  | zero => have : i = 0 := by omega
            rw [this]; exact Nat.le_refl _
  | succ j ih =>
    rcases Nat.lt_or_ge i (j + 1) with h1 | h1
    · have := ih (by omega); rw [lenP_next]; omega
    · have : i = j + 1 := by omega
      rw [this]; exact Nat.le_refl _
/-- The length of the code of the i-th number. -/
def lenAt (d : Dual) (xs : List Int) (i : Nat) : Nat := lenD (stP d xs i) (nth xs i).toNat
def lens (d : Dual) (xs : List Int) (j : Nat) : List Int := (List.range j).map fun i => ((lenAt d xs i : Nat) : Int)
theorem lens_next (d : Dual) (xs : List Int) (j : Nat) : lens d xs (j + 1) = lens d xs j ++ [((lenAt d xs j : Nat) : Int)] := by
  unfold lens; rw [List.range_succ, List.map_append]; rfl
theorem lens_len (d : Dual) (xs : List Int) (j : Nat) : (lens d xs j).length = j := by unfold lens; simp
theorem lenAt_le {d : Dual} (hd : d.Ok) {xs : List Int} (hx : Within 0 4294967295 xs) (i : Nat) : 1 ≤ lenAt d xs i ∧ lenAt d xs i ≤ 81 := lenD_le (stP_ok hd hx i) _
theorem lenP_le {d : Dual} (hd : d.Ok) {xs : List Int} (hx : Within 0 4294967295 xs) (j : Nat) : j ≤ lenP d xs j ∧ lenP d xs j ≤ 81 * j := codeP_le hd hx j

end Cad.Code

/-
  Zeros behind a state, plainly (for CoderZeros).
-/
namespace Cad.Code
open Go Cad Cad.Bit
set_option linter.unusedVariables false

def dec (s : Nat) : Nat := s - s / 16
def decN : Nat → Nat → Nat
  | 0, s => s
  | n + 1, s => decN n (dec s)
theorem dec_le (s : Nat) : dec s ≤ s := Nat.sub_le _ _
theorem dec_mono {a b : Nat} (h : a ≤ b) : dec a ≤ dec b := by unfold dec; omega
theorem decN_mono (n : Nat) {a b : Nat} (h : a ≤ b) : decN n a ≤ decN n b := by
  induction n generalizing a b with
  | zero => exact h
  | succ n ih => exact ih (dec_mono h)
theorem decN_le (n s : Nat) : decN n s ≤ s := by
  induction n generalizing s with
  | zero => exact Nat.le_refl _
  | succ n ih => exact Nat.le_trans (ih _) (dec_le s)
theorem decN_add (m n s : Nat) : decN (m + n) s = decN n (decN m s) := by
  induction m generalizing s with
  | zero => rw [Nat.zero_add]; rfl
  | succ m ih => rw [Nat.succ_add]; exact ih (dec s)
theorem dec_far : decN 400 68719476735 ≤ 15 := by decide +kernel
theorem learn_zero (d : Dual) : learn d 0 = ⟨kOf d.k0 (dec d.s0), d.k1, dec d.s0, d.s1⟩ := by
  unfold learn; rw [if_pos (Nat.two_pow_pos _)]; rfl
theorem after_zeros (n : Nat) (d : Dual) : (afterL d (List.replicate n 0)).k1 = d.k1 ∧ (afterL d (List.replicate n 0)).s1 = d.s1 ∧ (afterL d (List.replicate n 0)).s0 = decN n d.s0 := by
  induction n generalizing d with
  | zero => exact ⟨rfl, rfl, rfl⟩
  | succ n ih =>
    rw [List.replicate_succ, afterL, learn_zero]
    exact ih _
theorem kOf_small {k s : Nat} (hs : s ≤ 15) : kOf k s = k - 1 := by
  unfold kOf
  have hp : 1 ≤ 2 ^ k := Nat.two_pow_pos k
  by_cases h : 0 < k
  · rw [if_pos ⟨h, by omega⟩]
  · rw [if_neg (by omega), if_neg (by omega)]; omega
theorem dec_small {s : Nat} (hs : s ≤ 15) : dec s = s := by unfold dec; omega
theorem zeros_small (n : Nat) (d : Dual) (hs : d.s0 ≤ 15) : (afterL d (List.replicate n 0)).k0 = d.k0 - n := by
  induction n generalizing d with
  | zero => rfl
  | succ n ih =>
    rw [List.replicate_succ, afterL, learn_zero, ih _ (by show dec d.s0 ≤ 15; rw [dec_small hs]; exact hs)]
    show kOf d.k0 (dec d.s0) - n = _
    rw [dec_small hs, kOf_small hs]; omega
theorem zeros_ok (n : Nat) {d : Dual} (hd : d.Ok) : (afterL d (List.replicate n 0)).Ok := afterL_ok hd fun v hv => by rw [List.mem_replicate] at hv; omega
theorem zeros_k0 {d : Dual} (hd : d.Ok) {n : Nat} (hn : 424 ≤ n) : (afterL d (List.replicate n 0)).k0 = 0 := by
  obtain ⟨m, rfl⟩ : ∃ m, n = 400 + m := ⟨n - 400, by omega⟩
  have h1 : List.replicate (400 + m) (0 : Nat) = List.replicate 400 0 ++ List.replicate m 0 := by rw [List.replicate_append_replicate]
  rw [h1, afterL_append]
  have h2 := (after_zeros 400 d).2.2
  have h3 : (afterL d (List.replicate 400 0)).s0 ≤ 15 := by rw [h2]; exact Nat.le_trans (decN_mono 400 hd.2.2.1) dec_far
  have h4 := (zeros_ok 400 hd).1
  rw [zeros_small m _ h3]; omega
theorem zeros_code_any (n : Nat) (d : Dual) (hk : d.k0 ≤ 10) (hs : d.s0 ≤ 16384) : (codeL d (List.replicate n 0)).length ≤ 11 * n := by
  induction n generalizing d with
  | zero => exact Nat.le_refl _
  | succ n ih =>
    rw [List.replicate_succ, codeL, List.length_append, codeD_len, learn_zero]
    have h1 : lenD d 0 = 1 + d.k0 := by unfold lenD; rw [if_pos (Nat.two_pow_pos _)]
    have h2 := dec_le d.s0
    have h3 : kOf d.k0 (dec d.s0) ≤ 10 := by
      unfold kOf
      split
      · omega
      · split
        · rename_i h
          rcases Nat.lt_or_ge d.k0 10 with h5 | h5
          · omega
          · have h6 : d.k0 = 10 := by omega
            rw [h6] at h
            exfalso; omega
        · exact hk
    have h4 := ih ⟨kOf d.k0 (dec d.s0), d.k1, dec d.s0, d.s1⟩ h3 (by show dec d.s0 ≤ 16384; omega)
    rw [h1]; omega
theorem zeros_code (n : Nat) : (codeL start (List.replicate n 0)).length ≤ 11 * n := zeros_code_any n start (by decide) (by decide)

end Cad.Code

/-
  What decoding and feeding lists gives, plainly: the loops' relations; numbers as a slice's integers.
-/
namespace Cad.Code
open Go Cad Cad.Bit
set_option linter.unusedVariables false

/-- Numbers as a slice's integers. -/
def ints (l : List Nat) : List Int := l.map fun (v : Nat) => ((v : Nat) : Int)
theorem ints_len (l : List Nat) : (ints l).length = l.length := by simp [ints]
theorem ints_nil : ints [] = [] := rfl
theorem ints_app (a b : List Nat) : ints (a ++ b) = ints a ++ ints b := by simp [ints]
theorem ints_next (a : List Nat) (v : Nat) : ints (a ++ [v]) = ints a ++ [(v : Int)] := by simp [ints]
theorem nth_ints {l : List Nat} {j : Nat} (h : j < l.length) : nth (ints l) j = (l[j] : Int) := by
  rw [nth_eq (by rw [ints_len]; exact h)]; simp [ints]
theorem ints_within {l : List Nat} (h : Small l) : Within 0 4294967295 (ints l) := by
  intro x hx
  unfold ints at hx
  obtain ⟨v, hv, rfl⟩ := List.mem_map.1 hx
  have := h v hv
  omega
theorem getElem_pre (xs : List Int) (n i : Nat) (h : i < (pre xs n).length) : (pre xs n)[i] = (nth xs i).toNat := by simp [pre]
theorem getElem_ints (l : List Nat) (i : Nat) (h : i < (ints l).length) : (ints l)[i] = ((l[i]'(by rw [ints_len] at h; exact h) : Nat) : Int) := by simp [ints]
theorem pre_ints (l : List Nat) : pre (ints l) l.length = l := by
  apply List.ext_getElem
  · rw [pre_len]
  · intro i h1 h2
    rw [getElem_pre, nth_ints h2]; rfl
theorem ints_pre {xs : List Int} (h : Within 0 4294967295 xs) {n : Nat} (hn : xs.length = n) : ints (pre xs n) = xs := by
  apply List.ext_getElem
  · rw [ints_len, pre_len, hn]
  · intro i h1 h2
    rw [getElem_ints, getElem_pre, nth_eq h2]
    have := h _ (List.getElem_mem h2)
    omega
theorem pre_row (xs : List Int) {n j : Nat} (h : j ≤ n) : pre (xs.take n) j = pre xs j := by
  unfold pre
  apply List.map_congr_left
  intro i hi
  rw [List.mem_range] at hi
  rw [nth_take (by omega)]
theorem codeP_row (d : Dual) (xs : List Int) {n j : Nat} (h : j ≤ n) : codeP d (xs.take n) j = codeP d xs j := by unfold codeP; rw [pre_row xs h]
theorem stP_row (d : Dual) (xs : List Int) {n j : Nat} (h : j ≤ n) : stP d (xs.take n) j = stP d xs j := by unfold stP; rw [pre_row xs h]
theorem codeP_ints (d : Dual) (l : List Nat) : codeP d (ints l) l.length = codeL d l := by unfold codeP; rw [pre_ints]
theorem stP_ints (d : Dual) (l : List Nat) : stP d (ints l) l.length = afterL d l := by unfold stP; rw [pre_ints]

/-- Numbers that were read ahead. -/
def GotL.app (us : List Nat) (m : Nat) : GotL → GotL
  | .ok vs n d => .ok (us ++ vs) (m + n) d
  | .err e => .err e
theorem GotL.app_nil (g : GotL) : GotL.app [] 0 g = g := by
  cases g
  · rename_i vs n d
    show GotL.ok ([] ++ vs) (0 + n) d = _
    rw [Nat.zero_add, List.nil_append]
  · rfl
theorem GotL.app_cons (us : List Nat) (m v k : Nat) (g : GotL) : GotL.app us m (g.cons v k) = GotL.app (us ++ [v]) (m + k) g := by
  cases g
  · unfold GotL.cons GotL.app; simp [Nat.add_assoc]
  · rfl
/-- One more number of a loop that reads. -/
theorem readL_step {g : GotL} {us : List Nat} {a r v m : Nat} {l : List Bool} {d : Dual} (h : g = (readL (r + 1) (l.drop a) d).app us a) (hr : readD (l.drop a) d = .ok v m) :
    g = (readL r (l.drop (a + m)) (learn d v)).app (us ++ [v]) (a + m) := by
  rw [h, readL, hr]
  dsimp only
  rw [GotL.app_cons, List.drop_drop]
theorem readL_stop {g : GotL} {us : List Nat} {a r e : Nat} {l : List Bool} {d : Dual} (h : g = (readL (r + 1) (l.drop a) d).app us a) (hr : readD (l.drop a) d = .err e) : g = .err e := by
  rw [h, readL, hr]; rfl
theorem readL_end {g : GotL} {us : List Nat} {a : Nat} {l : List Bool} {d : Dual} (h : g = (readL 0 (l.drop a) d).app us a) : g = .ok us a d := by
  rw [h]; unfold readL GotL.app; simp
/-- What Decode returns. -/
def decR (bs : List Bool) (n : Int) : List Nat × Int × Int :=
  if n < 0 then ([], 0, 2) else if 4000 < n then ([], 0, 4) else match readL n.toNat bs start with
    | .ok vs m _ => (vs, (m : Nat), 0)
    | .err e => ([], 0, (e : Nat))

/-- The same for feeding. -/
theorem feed_step {g : Fed} {us : List Nat} {a r v m : Nat} {l : List Bool} {d : Dual} (h : g = (feed (r + 1) d (l.drop a)).app us) (hr : readD (l.drop a) d = .ok v m) :
    g = (feed r (learn d v) (l.drop (a + m))).app (us ++ [v]) := by
  rw [h, feed, hr]
  dsimp only
  rw [List.drop_drop]
  cases feed r (learn d v) (l.drop (a + m)) <;> simp [Fed.cons, Fed.app]
theorem feed_waits {g : Fed} {us : List Nat} {a r : Nat} {l : List Bool} {d : Dual} (h : g = (feed (r + 1) d (l.drop a)).app us) (hr : readD (l.drop a) d = .err 24) : g = .ok us (r + 1) d (l.drop a) := by
  rw [h, feed, hr]
  dsimp only
  rw [if_pos rfl, Fed.app, List.append_nil]
theorem feed_stop {g : Fed} {us : List Nat} {a r e : Nat} {l : List Bool} {d : Dual} (h : g = (feed (r + 1) d (l.drop a)).app us) (hr : readD (l.drop a) d = .err e) (he : e ≠ 24) : g = .err e := by
  rw [h, feed, hr]
  dsimp only
  rw [if_neg he]; rfl
theorem feed_done {g : Fed} {us : List Nat} {a : Nat} {l : List Bool} {d : Dual} (h : g = (feed 0 d (l.drop a)).app us) (hl : l.length - a < 8) : g = .ok us 0 d (l.drop a) := by
  rw [h, feed, if_neg (by rw [List.length_drop]; omega), Fed.app, List.append_nil]
theorem feed_more {g : Fed} {us : List Nat} {a : Nat} {l : List Bool} {d : Dual} (h : g = (feed 0 d (l.drop a)).app us) (hl : 8 ≤ l.length - a) : g = .err 38 := by
  rw [h, feed, if_pos (by rw [List.length_drop]; omega)]; rfl
theorem unpack_append (a b : List Int) : unpack (a ++ b) = unpack a ++ unpack b := by unfold unpack; rw [List.flatMap_append]
/-- One more piece. -/
theorem feed_piece {n n' : Nat} {d d' : Dual} {l r : List Bool} {xs : List Int} {vs : List Nat} {i k : Nat} (hd : d.Ok) (h : feed n d (l ++ unpack (xs.take i)) = .ok vs n' d' r) :
    feed n d (l ++ unpack (xs.take (i + k))) = (feed n' d' (r ++ unpack ((xs.drop i).take k))).app vs := by
  rw [List.take_add, unpack_append, ← List.append_assoc, feed_append hd, h]
theorem feed_early {n : Nat} {d : Dual} {l : List Bool} {xs : List Int} {i e : Nat} (hd : d.Ok) (h : feed n d (l ++ unpack (xs.take i)) = .err e) : feed n d (l ++ unpack xs) = .err e := by
  conv => lhs; rw [← List.take_append_drop i xs]
  rw [unpack_append, ← List.append_assoc, feed_append hd, h]

end Cad.Code

/-
  What the machine's operations on words make of bits.
-/
namespace Cad.Bit
open Go Go.RowKit Cad
set_option linter.unusedVariables false

theorem and7 (m : Nat) (h : m < 4611686018427387904) : bits .and .i64 (m : Int) 7 = ((m % 8 : Nat) : Int) := by
  have hx : m &&& 7 = m % 8 := Nat.and_two_pow_sub_one_eq_mod m 3
  show IntKind.i64.wrap ((BitVec.ofInt 64 (m : Int) &&& BitVec.ofInt 64 7).toNat : Int) = _
  have h1 : (BitVec.ofInt 64 (m : Int)).toNat = m := by
    rw [BitVec.ofInt_natCast, BitVec.toNat_ofNat]; exact Nat.mod_eq_of_lt (by omega)
  have h2 : (BitVec.ofInt 64 7).toNat = 7 := by rfl
  rw [BitVec.toNat_and, h1, h2, hx, IntKind.wrap_i64]
  omega

theorem pow_cast (s : Nat) : (2 : Int) ^ s = ((2 ^ s : Nat) : Int) := by simp
theorem pow_le_256 {t : Nat} (h : t ≤ 8) : 2 ^ t ≤ 256 := Nat.le_trans (Nat.pow_le_pow_right (by omega) h) (by decide)
theorem pow_le_u64 {t : Nat} (h : t ≤ 64) : 2 ^ t ≤ 18446744073709551616 := Nat.le_trans (Nat.pow_le_pow_right (by omega) h) (by decide)
theorem mask8 {t : Nat} (h : t ≤ 8) : ((2 : Int) ^ t - 1) % 256 = ((2 ^ t - 1 : Nat) : Int) := by
  have h1 := pow_le_256 h
  have h2 := Nat.two_pow_pos t
  rw [pow_cast]; omega
theorem u64_nat {n : Nat} (h : n < 18446744073709551616) : IntKind.u64.wrap (n : Int) = (n : Int) := IntWalk.u64_in _ (by omega)

/-- One round of getting bits. -/
theorem get_step {bs : List Bool} {p h s t : Nat} (hs : (p + h) % 8 = s) (hst : s + t ≤ 8) (hp : p + h + t ≤ bs.length) (hh : h + t ≤ 64) :
    bits .or .u64 ((bval ((bs.drop p).take h) : Nat) : Int)
        (IntKind.u64.wrap (IntKind.u64.wrap (bits .and .u8 (((byteAt bs ((p + h) / 8) : Nat) : Int) / 2 ^ s) ((2 ^ t - 1) % 256)) * 2 ^ h))
      = ((bval ((bs.drop p).take (h + t)) : Nat) : Int) := by
  have hB := byteAt_lt bs ((p + h) / 8)
  have hq : byteAt bs ((p + h) / 8) / 2 ^ s < 256 := Nat.lt_of_le_of_lt (Nat.div_le_self _ _) hB
  have hm : 2 ^ t - 1 < 256 := by have := pow_le_256 (t := t) (by omega); have := Nat.two_pow_pos t; omega
  have hx : byteAt bs ((p + h) / 8) / 2 ^ s % 2 ^ t = bval ((bs.drop (p + h)).take t) := by
    rw [← hs]; exact byte_part (by omega) hp
  have hlx : bval ((bs.drop (p + h)).take t) < 2 ^ t := by
    have := bval_lt ((bs.drop (p + h)).take t)
    exact Nat.lt_of_lt_of_le this (Nat.pow_le_pow_right (by omega) (List.length_take_le _ _))
  have hlt : bval ((bs.drop p).take h) < 2 ^ h := by
    have := bval_lt ((bs.drop p).take h)
    exact Nat.lt_of_lt_of_le this (Nat.pow_le_pow_right (by omega) (List.length_take_le _ _))
  have hmul : bval ((bs.drop (p + h)).take t) * 2 ^ h < 18446744073709551616 := by
    have h1 : bval ((bs.drop (p + h)).take t) * 2 ^ h < 2 ^ t * 2 ^ h := Nat.mul_lt_mul_of_pos_right hlx (Nat.two_pow_pos h)
    rw [← Nat.pow_add] at h1
    exact Nat.lt_of_lt_of_le h1 (pow_le_u64 (by omega))
  rw [mask8 (by omega), pow_cast s, ← Int.natCast_ediv, u8_and_nat _ _ hq hm, Nat.and_two_pow_sub_one_eq_mod, hx, u64_nat (Nat.lt_of_lt_of_le hlx (pow_le_u64 (by omega))), pow_cast h, ← Int.natCast_mul, u64_nat hmul,
    u64_or_nat _ _ (Nat.lt_of_lt_of_le hlt (pow_le_u64 (by omega))) hmul, Nat.or_comm, nat_join h _ _ (Nat.mul_mod_left _ _) hlt]
  congr 1
  rw [List.take_add, bval_append, List.drop_drop, List.length_take, List.length_drop, Nat.min_eq_left (by omega), Nat.mul_comm]
  omega

/-- The byte that one round of putting bits stores. -/
theorem put_word {y u s t : Nat} (hu : u < 18446744073709551616) (hy : y < 2 ^ s) (h1 : 1 ≤ t) (hst : s + t ≤ 8) :
    bits .or .u8 (y : Int) (((bits .and .u64 (u : Int) (IntKind.u64.wrap (IntKind.u64.wrap (2 ^ t) - 1))) % 256) * 2 ^ s % 256) = ((y + 2 ^ s * (u % 2 ^ t) : Nat) : Int) := by
  have hp := Nat.two_pow_pos t
  have hm : 2 ^ t ≤ 256 := pow_le_256 (by omega)
  have hx : u % 2 ^ t < 2 ^ t := Nat.mod_lt _ hp
  have hmul : u % 2 ^ t * 2 ^ s < 256 := by
    have h1 : u % 2 ^ t * 2 ^ s < 2 ^ t * 2 ^ s := Nat.mul_lt_mul_of_pos_right hx (Nat.two_pow_pos s)
    rw [← Nat.pow_add] at h1
    exact Nat.lt_of_lt_of_le h1 (pow_le_256 (by omega))
  have e1 : IntKind.u64.wrap (IntKind.u64.wrap ((2 : Int) ^ t) - 1) = ((2 ^ t - 1 : Nat) : Int) := by
    rw [pow_cast, u64_nat (by omega), IntWalk.u64_in _ (by omega)]; omega
  rw [e1, u64_and_nat _ _ hu (by omega), Nat.and_two_pow_sub_one_eq_mod, pow_cast s]
  have e2 : ((u % 2 ^ t : Nat) : Int) % 256 = ((u % 2 ^ t : Nat) : Int) := by omega
  rw [e2, ← Int.natCast_mul]
  have e3 : ((u % 2 ^ t * 2 ^ s : Nat) : Int) % 256 = ((u % 2 ^ t * 2 ^ s : Nat) : Int) := by omega
  rw [e3, u8_or_nat _ _ (Nat.lt_of_lt_of_le hy (pow_le_256 (by omega))) hmul, Nat.or_comm, nat_join s _ _ (Nat.mul_mod_left _ _) hy, Nat.mul_comm, Nat.add_comm]

end Cad.Bit

/-
  Contracts of the program's bits: checking, getting, putting in place.
-/
namespace Go.Proofs.YtpohaikbbfochaaDoor
open Go.RowKit Cad Cad.Bit
set_option linter.unusedVariables false

def chkB (bytes : List Int) (N : Int) : Int := if Valid bytes N then 0 else 8

set_option maxHeartbeats 400000 in
theorem bcheck_any (A : Option Addr) (n c : Nat) (N : Int) (bytes : List Int) (w : World) (ha : Row .u8 w A n bytes) (hb : Within 0 255 bytes) (hn : n ≤ 9223372036854775807) :
    Calls Tryd.prog 34 #[.agg #[.slice A n c, .int .i64 N]] w fun e w' => e = .returned (.int .i64 (chkB bytes N)) ∧ Below w.heap.size w w' := by
  have HX := Lib.hid ha.len
  by_cases h1 : N < 0
  · have HE : Hid (chkB bytes N = 8) := by unfold chkB; rw [if_neg (fun h => by have := h.1; omega)]; rfl
    go_enter Tryd.func34, Tryd.ntmps34
    go_wp2
    go_ret
    exact ⟨ret_int HE.out.symm, (Below.refl _ _).alloc (Nat.le_refl _) _⟩
  by_cases h2 : 330000 < N
  · have HE : Hid (chkB bytes N = 8) := by unfold chkB; rw [if_neg (fun h => by have := h.2.1; omega)]; rfl
    go_enter Tryd.func34, Tryd.ntmps34
    go_wp2
    go_ret
    exact ⟨ret_int HE.out.symm, (Below.refl _ _).alloc (Nat.le_refl _) _⟩
  obtain ⟨m, rfl⟩ := Int.eq_ofNat_of_zero_le (by omega : 0 ≤ N)
  have hm : m ≤ 330000 := by omega
  clear h1 h2
  have hand := and7 m (by omega)
  by_cases hl : n = (m + 7) / 8
  · have hl' : ((n : Int) != ((m : Int) + 7) / 8) = false := by simp; omega
    by_cases hr : m % 8 = 0
    · have HE : Hid (chkB bytes (m : Nat) = 0) := by
        unfold chkB; rw [if_pos ⟨by omega, by omega, by rw [HX.out, hl]; rfl, fun h => by rw [Int.toNat_natCast] at h; omega⟩]; rfl
      have hr' : ((m % 8 : Nat) : Int) ≤ 0 := by omega
      have HL := Lib.hid hl; have HR := Lib.hid hr; clear hl hr
      go_enter Tryd.func34, Tryd.ntmps34
      go_wp2
      go_ret
      exact ⟨ret_int HE.out.symm, (Below.refl _ _).alloc (Nat.le_refl _) _⟩
    · have hn0 : 0 < n := by omega
      obtain ⟨b, o, rfl, hbk, hc⟩ := ha.at hn0
      have c1 : (w.alloc (.cells #[.slice (some ⟨b, o, none⟩) n c, .int .i64 (m : Int)] 26)).cell? ⟨b, o + (n - 1), none⟩ = some (.int .u8 (nth bytes (n - 1))) := by
        rw [World.cell?_alloc_past _ _ _ hbk]; exact hc (n - 1) (by omega)
      have bd := hb.nth (by decide) (by decide) (n - 1)
      have hr' : 0 < ((m % 8 : Nat) : Int) := by omega
      have hr8 : ((m % 8 : Nat) : Int) ≤ 7 := by omega
      have HL := Lib.hid hl; have HR := Lib.hid hr; clear hl hr hc
      have HB := Lib.hid (rfl : chkB bytes (m : Nat) = if Valid bytes (m : Nat) then 0 else 8)
      obtain ⟨r, hrr⟩ : ∃ r, m % 8 = r := ⟨_, rfl⟩
      rw [hrr] at hand hr' hr8
      have HRR := Lib.hid hrr; clear hrr
      go_enter Tryd.func34, Tryd.ntmps34
      go_wp2
      · have ht : (nth bytes (n - 1) / 2 ^ r != 0) = true := by assumption
        go_ret
        refine ⟨ret_int ?_, (Below.refl _ _).alloc (Nat.le_refl _) _⟩
        unfold chkB
        rw [if_neg (fun h => by
          have h4 := h.2.2.2
          rw [HX.out, Int.toNat_natCast, HRR.out] at h4
          rw [h4 (by omega)] at ht
          exact absurd ht (by decide))]
      · have ht : (nth bytes (n - 1) / 2 ^ r != 0) = false := by assumption
        go_ret
        refine ⟨ret_int ?_, (Below.refl _ _).alloc (Nat.le_refl _) _⟩
        unfold chkB
        rw [if_pos ⟨by omega, by omega, by rw [HX.out, HL.out]; rfl, fun h => by
          rw [HX.out, Int.toNat_natCast, HRR.out]
          simpa using ht⟩]
  · have hl' : ((n : Int) != ((m : Int) + 7) / 8) = true := by simp; omega
    have HE : Hid (chkB bytes (m : Nat) = 8) := by
      unfold chkB; rw [if_neg (fun h => hl (by have := h.2.2.1; rw [HX.out, Int.toNat_natCast] at this; exact this))]; rfl
    clear hl
    go_enter Tryd.func34, Tryd.ntmps34
    go_wp2
    go_ret
    exact ⟨ret_int HE.out.symm, (Below.refl _ _).alloc (Nat.le_refl _) _⟩

theorem bcheck_ok (A : Option Addr) (n c : Nat) (bs : List Bool) (w : World) (ha : Row .u8 w A n (pack bs)) (hn : n ≤ 9223372036854775807) (hl : bs.length ≤ 330000) :
    Calls Tryd.prog 34 #[.agg #[.slice A n c, .int .i64 (bs.length : Nat)]] w fun e w' => e = .returned (.int .i64 0) ∧ Below w.heap.size w w' :=
  (bcheck_any A n c (bs.length : Nat) (pack bs) w ha (pack_u8 bs) hn).mono fun e w' h => ⟨by rw [h.1]; unfold chkB; rw [if_pos (valid_pack hl)], h.2⟩

set_option maxHeartbeats 400000 in
theorem get_any (A : Option Addr) (m c : Nat) (N : Int) (bs : List Bool) (p n : Nat) (w : World) (ha : Row .u8 w A m (pack bs)) (hm : m ≤ 9223372036854775807) (hp : p + n ≤ bs.length) (hl : bs.length ≤ 330000) (hn : n ≤ 64) :
    Calls Tryd.prog 43 #[.agg #[.slice A m c, .int .i64 N], .int .i64 p, .int .i64 n] w fun e w' => e = .returned (.int .u64 (bval ((bs.drop p).take n) : Nat)) ∧ Below w.heap.size w w' := by
  have HX := Lib.hid ha.len
  go_enter Tryd.func43, Tryd.ntmps43
  go_wp2_with fail
  go_loopg [7, 8] n (fun k v i wr => ∃ h : Nat, h + k = n ∧ i = .int .i64 h ∧ v = .int .u64 (bval ((bs.drop p).take h) : Nat) ∧ ∃ q, wr = (w.alloc (.cells #[.slice A m c, .int .i64 N] 26)).drewN q)
  case atStart => exact ⟨0, by omega, rfl, rfl, 0, rfl⟩
  case round =>
    obtain ⟨h, hk, rfl, rfl, q, rfl⟩ := hrel
    by_cases hlt : h < n
    · have hand := and7 (p + h) (by omega)
      have hbn : (p + h) / 8 < bytesFor bs.length := by unfold bytesFor; omega
      have hm0 : (p + h) / 8 < m := by have h1 := HX.out; rw [pack_len] at h1; omega
      obtain ⟨b, o, rfl, hbk, hc⟩ := ha.at (by omega)
      have c1 : (w.alloc (.cells #[.slice (some ⟨b, o, none⟩) m c, .int .i64 N] 26)).cell? ⟨b, o + (p + h) / 8, none⟩ = some (.int .u8 (byteAt bs ((p + h) / 8) : Nat)) := by
        rw [World.cell?_alloc_past _ _ _ hbk, hc _ hm0, nth_pack hbn]
      clear hc
      obtain ⟨s, hs⟩ : ∃ s, (p + h) % 8 = s := ⟨_, rfl⟩
      have hs8 : s ≤ 7 := by omega
      rw [hs] at hand
      have hand' : bits .and .i64 ((p : Int) + (h : Int)) 7 = (s : Int) := by rw [← hand]; congr 1
      have HS := Lib.hid hs
      clear hand hs
      have fin : ∀ t : Nat, 1 ≤ t → s + t ≤ 8 → h + t ≤ n → Hid (bits .or .u64 ((bval ((bs.drop p).take h) : Nat) : Int) (IntKind.u64.wrap (IntKind.u64.wrap (bits .and .u8 (((byteAt bs ((p + h) / 8) : Nat) : Int) / 2 ^ s) ((2 ^ t - 1) % 256)) * 2 ^ h)) = ((bval ((bs.drop p).take (h + t)) : Nat) : Int)) :=
        fun t h1 h2 h3 => get_step HS.out h2 (by omega) (by omega)
      have FIN := Lib.hid fin; clear fin
      by_cases ht : n - h ≤ 8 - s
      · obtain ⟨t, htt⟩ : ∃ t, n - h = t := ⟨_, rfl⟩
        have hsub : (n : Int) - (h : Int) = (t : Int) := by omega
        have ht8 : t ≤ 8 := by omega
        have hst : s + t ≤ 8 := by omega
        have hmin' : (t : Int) ≤ 8 - (s : Int) := by omega
        go_wp2_with fail
        have ht1 : 1 ≤ t := by omega
        have hht : h + t ≤ n := by omega
        clear hsub htt ht
        go_quiet (fail)
        rw [(FIN.out t ht1 hst hht).out]
        go_wp2
        go_roundg (n - (h + t))
        case measure => omega
        case rel => exact ⟨h + t, by omega, by go_num, rfl, _, rfl⟩
      · obtain ⟨t, htt⟩ : ∃ t, 8 - s = t := ⟨_, rfl⟩
        have hsub : 8 - (s : Int) = (t : Int) := by omega
        have ht8 : t ≤ 8 := by omega
        have hst : s + t ≤ 8 := by omega
        have hmin' : ¬ (n : Int) - (h : Int) ≤ (t : Int) := by omega
        go_wp2_with fail
        have ht1 : 1 ≤ t := by omega
        have hht : h + t ≤ n := by omega
        clear hsub htt ht
        go_quiet (fail)
        rw [(FIN.out t ht1 hst hht).out]
        go_wp2
        go_roundg (n - (h + t))
        case measure => omega
        case rel => exact ⟨h + t, by omega, by go_num, rfl, _, rfl⟩
    · obtain rfl : h = n := by omega
      go_wp2
      go_ret
      exact ⟨rfl, below_drewN ((Below.refl _ _).alloc (Nat.le_refl _) _) _⟩
end Go.Proofs.YtpohaikbbfochaaDoor

/-
  Contract of putting bits in place.
-/
namespace Go.Proofs.YtpohaikbbfochaaDoor
open Go.RowKit Cad Cad.Bit
set_option linter.unusedVariables false

theorem u8E : Elem Tryd.prog 24 5 .u8 1 := ⟨Tryd.underlying24, Tryd.underlying5, by kernel_rfl, by decide⟩

/-- The block g holds a struct of bits. -/
def Cell2 (w : World) (g : Nat) (A : Option Addr) (n c : Nat) (N : Nat) : Prop := Blk w g 26 [.slice A n c, .int .i64 (N : Int)]

set_option maxRecDepth 100000 in
set_option maxHeartbeats 1000000 in
theorem put_any (g base : Nat) (A : Option Addr) (m c : Nat) (bs : List Bool) (v n : Nat) (w : World) (hv : v < 18446744073709551616) (hn : n ≤ 64) (hl : bs.length + n ≤ 330000) (hbase : base ≤ w.heap.size)
    (hc2 : Cell2 w g A m c bs.length) (hown : Own w base 5 .u8 A m c (pack bs)) :
    Calls Tryd.prog 36 #[.pointer (some ⟨g, 0, none⟩), .int .u64 v, .int .i64 n] w fun e w' => e = .returned (.tuple #[]) ∧
      ∃ B m' d, Cell2 w' g B m' d (bs.length + n) ∧ Own w' base 5 .u8 B m' d (pack (bs ++ lowBits v n)) ∧ Frm (fun k => k = g ∨ blockOf A = some k) w w' ∧ (∀ k, blockOf B = some k → k < w.heap.size → blockOf A = some k) := by
  go_enter Tryd.func36, Tryd.ntmps36
  go_wp2_with fail
  go_loopg [1, 2] n (fun k x i wr => ∃ (h u : Nat) (B : Option Addr) (m' d : Nat), h + k = n ∧ i = .int .i64 (k : Nat) ∧ x = .int .u64 (u : Nat) ∧ Hid (u = v / 2 ^ h) ∧ Cell2 wr g B m' d (bs.length + h) ∧
    Own wr base 5 .u8 B m' d (pack (bs ++ lowBits v h)) ∧ Frm (fun k => k = g ∨ blockOf A = some k) w wr ∧ (∀ k, blockOf B = some k → k < w.heap.size → blockOf A = some k))
  case atStart => exact ⟨0, v, A, m, c, by omega, rfl, rfl, Lib.hid (by simp), hc2, by simpa [lowBits] using hown, Frm.refl _ _, fun _ h _ => h⟩
  case round =>
    obtain ⟨h, u, B, m', d, hk, rfl, rfl, HU, hcr, hor, hfr, hBA⟩ := hrel
    by_cases hlt : 0 < gk
    · obtain ⟨L, hL⟩ : ∃ L, bs.length + h = L := ⟨_, rfl⟩
      rw [hL] at hcr
      have hLx : (bs ++ lowBits v h).length = L := by rw [List.length_append, lowBits_len, hL]
      have hml : m' = bytesFor L := by have := hor.len; rw [pack_len, hLx] at this; exact this.symm
      have hm5 : m' ≤ 41250 := by unfold bytesFor at hml; omega
      have hu : u < 18446744073709551616 := by rw [HU.out]; exact Nat.lt_of_le_of_lt (Nat.div_le_self _ _) hv
      have hand := and7 L (by omega)
      have k0 : wr.cell? ⟨g, 0, none⟩ = some (.slice B m' d) := by rw [hcr.cell]; rfl
      have k1 : wr.cell? ⟨g, 1, none⟩ = some (.int .i64 (L : Int)) := by rw [hcr.cell]; rfl
      have f0 := hcr.frozen 0
      have f1 := hcr.frozen 1
      have hgB : blockOf B ≠ some g := hor.ne_blk hcr (by decide)
      have hglt := hcr.lt
      obtain ⟨s, hs⟩ : ∃ s, L % 8 = s := ⟨_, rfl⟩
      rw [hs] at hand
      have HS := Lib.hid hs; have HL := Lib.hid hL; have HLx := Lib.hid hLx; have HM := Lib.hid hml
      have hs7 : s ≤ 7 := by omega
      have hLb : L ≤ 330000 := by omega
      clear hL hLx hml hs
      by_cases hs0 : s = 0
      · subst hs0
        go_wp2_with (at_builtin; refine wpList_app _ u8E rfl _ _ rfl base _ _ _ _ rfl (by exact hor.alloc _) _ _ _ [0] rfl (by exact row_one _ _ _ _) (by omega) (by have := hfr.size; simp; omega) ?_)
        intro B1 d1 w1 hown1 hg1 hat1
        have kk0 : w1.cell? ⟨g, 0, none⟩ = some (.slice B m' d) := hg1.cell (by rw [World.cell?_alloc_past _ _ _ hglt]; exact k0) (by intro e; exact hgB e.symm)
        have hk1 : Blk w1 g 26 [.slice B m' d, .int .i64 (L : Int)] := (Blk.alloc hcr _).grown hg1 (by intro e; exact hgB e.symm)
        have ff0 := hk1.frozen 0
        clear k0 k1 f0 f1
        go_wp2_with fail
        have hc2' : Cell2 (w1.setCell ⟨g, 0, none⟩ (.slice B1 (m' + 1) d1)) g B1 (m' + 1) d1 L := hk1.set 0 (.slice B1 (m' + 1) d1)
        have hgB1 : blockOf B1 ≠ some g := hown1.ne_blk hk1 (by decide)
        have hown2 : Own (w1.setCell ⟨g, 0, none⟩ (.slice B1 (m' + 1) d1)) base 5 .u8 B1 (m' + 1) d1 (pack (bs ++ lowBits v h) ++ [0]) :=
          hown1.frm (S := fun k => k = g) ((Frm.refl (fun k => k = g) w1).setCell (p := ⟨g, 0, none⟩) (fun _ => rfl) _) (fun k e hk => hgB1 (by rw [e, hk]))
        have hfr2 : Frm (fun k => k = g ∨ blockOf A = some k) w (w1.setCell ⟨g, 0, none⟩ (.slice B1 (m' + 1) d1)) :=
          ((hfr.alloc _).grown hg1 (fun k e hk => Or.inr (hBA k e hk))).setCell (p := ⟨g, 0, none⟩) (fun _ => Or.inl rfl) _
        have hB1A : ∀ k, blockOf B1 = some k → k < w.heap.size → blockOf A = some k := fun k e hk => by
          rcases hat1 with e1 | e1
          · exact hBA k (by rw [← e1]; exact e) hk
          · rw [e] at e1; injection e1 with e1; have := hfr.size; omega
        clear kk0 hk1 ff0 hown1 hg1 hat1 hgB hBA hfr hor hcr hgB1
        revert hc2' hown2 hfr2
        generalize w1.setCell ⟨g, 0, none⟩ (.slice B1 (m' + 1) d1) = w2
        intro hc2' hown2 hfr2
        have hgB2 : blockOf B1 ≠ some g := hown2.ne_blk hc2' (by decide)
        rcases hown2.cases with ⟨_, h0, _⟩ | ⟨g1, spare, rfl, hbg, hnc, hcm, hsp, hblk⟩
        · omega
        obtain ⟨mm, hmm⟩ : ∃ mm, m' = mm := ⟨_, rfl⟩
        subst hmm
        obtain ⟨Pl, hPl⟩ : ∃ Pl, Pl = pack (bs ++ lowBits v h) ++ [0] := ⟨_, rfl⟩
        obtain ⟨s, hs0⟩ : ∃ s, s = 0 := ⟨0, rfl⟩
        obtain ⟨y, hy0⟩ : ∃ y : Nat, y = 0 := ⟨0, rfl⟩
        have hy : y < 2 ^ s := by rw [hs0, hy0]; decide
        have HS : Hid (L % 8 = s) := by rw [hs0]; exact HS
        have hs7 : s ≤ 7 := by omega
        have hylen : nth Pl m' = (y : Int) := by
          have hpl := hown2.len
          rw [List.length_append] at hpl
          have hpl' : (pack (bs ++ lowBits v h)).length + 1 = m' + 1 := hpl
          rw [hPl, nth_append_right (by omega), show m' - (pack (bs ++ lowBits v h)).length = 0 by omega, hy0]; rfl
        have hset : ∀ t : Nat, 1 ≤ t → s + t ≤ 8 → Pl.set m' ((y + 2 ^ s * (u % 2 ^ t) : Nat) : Int) = pack (bs ++ lowBits v (h + t)) := fun t h1 h2 => by
          have hpl := hown2.len
          rw [List.length_append] at hpl
          have hpl' : (pack (bs ++ lowBits v h)).length + 1 = m' + 1 := hpl
          have key := pack_append_new (a := bs ++ lowBits v h) (b := lowBits u t) (by rw [HLx.out, HS.out]; exact hs0) (by rw [lowBits_len]; omega) (by rw [lowBits_len]; omega)
          have e : pack (bs ++ lowBits v (h + t)) = pack (bs ++ lowBits v h) ++ [((u % 2 ^ t : Nat) : Int)] := by
            rw [lowBits_add, ← HU.out, ← List.append_assoc, ← key, bval_lowBits]
          rw [hPl, hy0, hs0, e, List.set_append_right _ _ (by omega), show m' - (pack (bs ++ lowBits v h)).length = 0 by omega]
          simp
        rw [← hPl] at hown2 hblk
        have hPlen := hown2.len
        clear hs0 hy0 hPl hand
        -- here: world w2, the slice of m' + 1 bytes Pl in block g1, its last byte y
        have k0 : w2.cell? ⟨g, 0, none⟩ = some (.slice (some ⟨g1, 0, none⟩) (m' + 1) d1) := by rw [hc2'.cell]; rfl
        have k1 : w2.cell? ⟨g, 1, none⟩ = some (.int .i64 (L : Int)) := by rw [hc2'.cell]; rfl
        have f1 := hc2'.frozen 1
        have e0 : w2.cell? ⟨g1, m', none⟩ = some (.int .u8 (y : Int)) := by
          rw [hblk.cell, List.getElem?_append_left (by rw [List.length_map, hPlen]; omega), getElem?_map_nth (by rw [hPlen]; omega), hylen]
        have f2 := hblk.frozen m'
        have hne : ¬ g = g1 := fun e => hgB2 (by rw [e]; rfl)
        have hand2 : bits .and .i64 (L : Int) 7 = (s : Int) := by rw [and7 L (by omega), HS.out]
        have fin : ∀ t : Nat, 1 ≤ t → s + t ≤ 8 → Hid (bits .or .u8 (y : Int) (((bits .and .u64 (u : Int) (IntKind.u64.wrap (IntKind.u64.wrap (2 ^ t) - 1))) % 256) * 2 ^ s % 256) = ((y + 2 ^ s * (u % 2 ^ t) : Nat) : Int)) :=
          fun t h1 h2 => put_word hu hy h1 h2
        have FIN := Lib.hid fin; have HSET := Lib.hid hset
        have HBLK := Lib.hid hblk; have HC2 := Lib.hid hc2'
        clear fin hset hblk hc2'
        by_cases ht : gk ≤ 8 - s
        · have hmin : (gk : Int) ≤ 8 - (s : Int) := by omega
          have hst : s + gk ≤ 8 := by omega
          go_wp2_with fail
          go_quiet (fail)
          go_wp2_with fail
          have t1 : (m' : Int) < (m' : Int) + 1 := by omega
          have s1 : IntKind.i64.wrap (m' : Int) = (m' : Int) := IntWalk.i64_in _ (by omega)
          refine wp_still_tail 21 (by kernel_rfl) (by kernel_rfl) ?_
          simp only [List.take_succ_cons, List.take_zero, List.drop_succ_cons, List.drop_zero]
          repeat still_step
          refine wpStill_nil ?_
          go_wp2_with fail
          rw [(FIN.out gk (by omega) hst).out]
          have ht1 : 1 ≤ gk := by omega
          have hkt : gk ≤ gk := by omega
          clear s1 t1 hand2 k0 k1 f1 e0 f2
          go_roundg (0)
          case measure => omega
          case rel => exact ⟨h + gk, u / 2 ^ gk, some ⟨g1, 0, none⟩, m' + 1, d1, by omega, by rfl, by rw [pow_cast]; rfl, Lib.hid (by rw [HU.out, Nat.div_div_eq_div_mul, ← Nat.pow_add]), by
            have hb := ((HC2.out.drewN (nq + 1)).far (p := ⟨g1, m', none⟩) hne (.int .u8 ((y + 2 ^ s * (u % 2 ^ gk) : Nat) : Int))).set 1 (.int .i64 ((L : Int) + (gk : Int)))
            have e : (L : Int) + (gk : Int) = ((bs.length + (h + gk) : Nat) : Int) := by have := HL.out; omega
            rw [e] at hb ⊢
            exact hb, by
            have hb := ((HBLK.out.drewN (nq + 1)).set m' (.int .u8 ((y + 2 ^ s * (u % 2 ^ gk) : Nat) : Int))).far (p := ⟨g, 1, none⟩) (fun e => hne e.symm) (.int .i64 ((L : Int) + (gk : Int)))
            rw [List.set_append_left _ _ (by rw [List.length_map, hPlen]; omega), ← List.map_set, HSET.out gk ht1 hst] at hb
            exact Own.mk hbg (by rw [← HSET.out gk ht1 hst, List.length_set, hPlen]) hsp hcm hb, ((hfr2.drewN (nq + 1)).setCell (p := ⟨g1, m', none⟩) (fun hlt => Or.inr (hB1A g1 rfl hlt)) _).setCell (p := ⟨g, 1, none⟩) (fun _ => Or.inl rfl) _, hB1A⟩
        · obtain ⟨t, htt⟩ : ∃ t, 8 - s = t := ⟨_, rfl⟩
          have hsub : 8 - (s : Int) = (t : Int) := by omega
          have hmin : ¬ (gk : Int) ≤ (t : Int) := by omega
          have hst : s + t ≤ 8 := by omega
          go_wp2_with fail
          go_quiet (fail)
          go_wp2_with fail
          have t1 : (m' : Int) < (m' : Int) + 1 := by omega
          have s1 : IntKind.i64.wrap (m' : Int) = (m' : Int) := IntWalk.i64_in _ (by omega)
          refine wp_still_tail 21 (by kernel_rfl) (by kernel_rfl) ?_
          simp only [List.take_succ_cons, List.take_zero, List.drop_succ_cons, List.drop_zero]
          repeat still_step
          refine wpStill_nil ?_
          go_wp2_with fail
          rw [(FIN.out t (by omega) hst).out]
          have ht1 : 1 ≤ t := by omega
          have hkt : t ≤ gk := by omega
          clear s1 t1 hand2 k0 k1 f1 e0 f2
          go_roundg (gk - t)
          case measure => omega
          case rel => exact ⟨h + t, u / 2 ^ t, some ⟨g1, 0, none⟩, m' + 1, d1, by omega, by go_num, by rw [pow_cast]; rfl, Lib.hid (by rw [HU.out, Nat.div_div_eq_div_mul, ← Nat.pow_add]), by
            have hb := ((HC2.out.drewN (nq + 1)).far (p := ⟨g1, m', none⟩) hne (.int .u8 ((y + 2 ^ s * (u % 2 ^ t) : Nat) : Int))).set 1 (.int .i64 ((L : Int) + (t : Int)))
            have e : (L : Int) + (t : Int) = ((bs.length + (h + t) : Nat) : Int) := by have := HL.out; omega
            rw [e] at hb ⊢
            exact hb, by
            have hb := ((HBLK.out.drewN (nq + 1)).set m' (.int .u8 ((y + 2 ^ s * (u % 2 ^ t) : Nat) : Int))).far (p := ⟨g, 1, none⟩) (fun e => hne e.symm) (.int .i64 ((L : Int) + (t : Int)))
            rw [List.set_append_left _ _ (by rw [List.length_map, hPlen]; omega), ← List.map_set, HSET.out t ht1 hst] at hb
            exact Own.mk hbg (by rw [← HSET.out t ht1 hst, List.length_set, hPlen]) hsp hcm hb, ((hfr2.drewN (nq + 1)).setCell (p := ⟨g1, m', none⟩) (fun hlt => Or.inr (hB1A g1 rfl hlt)) _).setCell (p := ⟨g, 1, none⟩) (fun _ => Or.inl rfl) _, hB1A⟩
      · have hs1 : 0 < L % 8 := by rw [HS.out]; omega
        obtain ⟨y, hy0⟩ : ∃ y : Nat, y = byteAt (bs ++ lowBits v h) ((bs ++ lowBits v h).length / 8) := ⟨_, rfl⟩
        have hy : y < 2 ^ s := by rw [hy0, ← HS.out, ← HLx.out]; exact byteAt_last_lt _
        obtain ⟨mm, hmm⟩ : ∃ mm, m' = mm + 1 := ⟨m' - 1, by have := HM.out; unfold bytesFor at this; omega⟩
        have hmm8 : mm = (bs ++ lowBits v h).length / 8 := by have := HM.out; rw [HLx.out]; unfold bytesFor at this; omega
        subst hmm
        obtain ⟨Pl, hPl⟩ : ∃ Pl, Pl = pack (bs ++ lowBits v h) := ⟨_, rfl⟩
        have hylen : nth Pl mm = (y : Int) := by
          rw [hPl, nth_pack (by rw [← pack_len, hor.len]; omega), hmm8, hy0]
        have hset : ∀ t : Nat, 1 ≤ t → s + t ≤ 8 → Pl.set mm ((y + 2 ^ s * (u % 2 ^ t) : Nat) : Int) = pack (bs ++ lowBits v (h + t)) := fun t h1 h2 => by
          have key := pack_append_in (a := bs ++ lowBits v h) (b := lowBits u t) (by rw [HLx.out]; exact hs1) (by rw [lowBits_len]; omega) (by rw [lowBits_len, HLx.out, HS.out]; exact h2)
          rw [bval_lowBits, ← hy0, ← hmm8, show (bs ++ lowBits v h).length % 8 = s by rw [HLx.out, HS.out]] at key
          rw [lowBits_add, ← HU.out, ← List.append_assoc, hPl]
          exact key
        have hPlen : Pl.length = mm + 1 := by rw [hPl]; exact hor.len
        rw [← hPl] at hor
        clear hy0 hPl hmm8
        obtain ⟨w2, hw2⟩ : ∃ w2, w2 = wr := ⟨_, rfl⟩
        subst hw2
        obtain ⟨d1, hd1⟩ : ∃ d1, d1 = d := ⟨_, rfl⟩
        subst hd1
        have hown2 := hor; have hfr2 := hfr; have hB1A := hBA; have hc2' := hcr; have hgB2 := hgB
        clear hor hfr hBA hcr hgB k0 k1 f0 f1
        rcases hown2.cases with ⟨_, h0, _⟩ | ⟨g1, spare, rfl, hbg, hnc, hcm, hsp, hblk⟩
        · omega
        clear hand
        -- here: world w2, the slice of mm + 1 bytes Pl in block g1, its last byte y
        have k0 : w2.cell? ⟨g, 0, none⟩ = some (.slice (some ⟨g1, 0, none⟩) (mm + 1) d1) := by rw [hc2'.cell]; rfl
        have k1 : w2.cell? ⟨g, 1, none⟩ = some (.int .i64 (L : Int)) := by rw [hc2'.cell]; rfl
        have f1 := hc2'.frozen 1
        have e0 : w2.cell? ⟨g1, mm, none⟩ = some (.int .u8 (y : Int)) := by
          rw [hblk.cell, List.getElem?_append_left (by rw [List.length_map, hPlen]; omega), getElem?_map_nth (by rw [hPlen]; omega), hylen]
        have f2 := hblk.frozen mm
        have hne : ¬ g = g1 := fun e => hgB2 (by rw [e]; rfl)
        have hand2 : bits .and .i64 (L : Int) 7 = (s : Int) := by rw [and7 L (by omega), HS.out]
        have fin : ∀ t : Nat, 1 ≤ t → s + t ≤ 8 → Hid (bits .or .u8 (y : Int) (((bits .and .u64 (u : Int) (IntKind.u64.wrap (IntKind.u64.wrap (2 ^ t) - 1))) % 256) * 2 ^ s % 256) = ((y + 2 ^ s * (u % 2 ^ t) : Nat) : Int)) :=
          fun t h1 h2 => put_word hu hy h1 h2
        have FIN := Lib.hid fin; have HSET := Lib.hid hset
        have HBLK := Lib.hid hblk; have HC2 := Lib.hid hc2'
        clear fin hset hblk hc2'
        by_cases ht : gk ≤ 8 - s
        · have hmin : (gk : Int) ≤ 8 - (s : Int) := by omega
          have hst : s + gk ≤ 8 := by omega
          go_wp2_with fail
          go_quiet (fail)
          go_wp2_with fail
          have t1 : (mm : Int) < (mm : Int) + 1 := by omega
          have s1 : IntKind.i64.wrap (mm : Int) = (mm : Int) := IntWalk.i64_in _ (by omega)
          refine wp_still_tail 21 (by kernel_rfl) (by kernel_rfl) ?_
          simp only [List.take_succ_cons, List.take_zero, List.drop_succ_cons, List.drop_zero]
          repeat still_step
          refine wpStill_nil ?_
          go_wp2_with fail
          rw [(FIN.out gk (by omega) hst).out]
          have ht1 : 1 ≤ gk := by omega
          have hkt : gk ≤ gk := by omega
          clear s1 t1 hand2 k0 k1 f1 e0 f2
          go_roundg (0)
          case measure => omega
          case rel => exact ⟨h + gk, u / 2 ^ gk, some ⟨g1, 0, none⟩, mm + 1, d1, by omega, by rfl, by rw [pow_cast]; rfl, Lib.hid (by rw [HU.out, Nat.div_div_eq_div_mul, ← Nat.pow_add]), by
            have hb := ((HC2.out.drewN (nq + 1)).far (p := ⟨g1, mm, none⟩) hne (.int .u8 ((y + 2 ^ s * (u % 2 ^ gk) : Nat) : Int))).set 1 (.int .i64 ((L : Int) + (gk : Int)))
            have e : (L : Int) + (gk : Int) = ((bs.length + (h + gk) : Nat) : Int) := by have := HL.out; omega
            rw [e] at hb ⊢
            exact hb, by
            have hb := ((HBLK.out.drewN (nq + 1)).set mm (.int .u8 ((y + 2 ^ s * (u % 2 ^ gk) : Nat) : Int))).far (p := ⟨g, 1, none⟩) (fun e => hne e.symm) (.int .i64 ((L : Int) + (gk : Int)))
            rw [List.set_append_left _ _ (by rw [List.length_map, hPlen]; omega), ← List.map_set, HSET.out gk ht1 hst] at hb
            exact Own.mk hbg (by rw [← HSET.out gk ht1 hst, List.length_set, hPlen]) hsp hcm hb, ((hfr2.drewN (nq + 1)).setCell (p := ⟨g1, mm, none⟩) (fun hlt => Or.inr (hB1A g1 rfl hlt)) _).setCell (p := ⟨g, 1, none⟩) (fun _ => Or.inl rfl) _, hB1A⟩
        · obtain ⟨t, htt⟩ : ∃ t, 8 - s = t := ⟨_, rfl⟩
          have hsub : 8 - (s : Int) = (t : Int) := by omega
          have hmin : ¬ (gk : Int) ≤ (t : Int) := by omega
          have hst : s + t ≤ 8 := by omega
          go_wp2_with fail
          go_quiet (fail)
          go_wp2_with fail
          have t1 : (mm : Int) < (mm : Int) + 1 := by omega
          have s1 : IntKind.i64.wrap (mm : Int) = (mm : Int) := IntWalk.i64_in _ (by omega)
          refine wp_still_tail 21 (by kernel_rfl) (by kernel_rfl) ?_
          simp only [List.take_succ_cons, List.take_zero, List.drop_succ_cons, List.drop_zero]
          repeat still_step
          refine wpStill_nil ?_
          go_wp2_with fail
          rw [(FIN.out t (by omega) hst).out]
          have ht1 : 1 ≤ t := by omega
          have hkt : t ≤ gk := by omega
          clear s1 t1 hand2 k0 k1 f1 e0 f2
          go_roundg (gk - t)
          case measure => omega
          case rel => exact ⟨h + t, u / 2 ^ t, some ⟨g1, 0, none⟩, mm + 1, d1, by omega, by go_num, by rw [pow_cast]; rfl, Lib.hid (by rw [HU.out, Nat.div_div_eq_div_mul, ← Nat.pow_add]), by
            have hb := ((HC2.out.drewN (nq + 1)).far (p := ⟨g1, mm, none⟩) hne (.int .u8 ((y + 2 ^ s * (u % 2 ^ t) : Nat) : Int))).set 1 (.int .i64 ((L : Int) + (t : Int)))
            have e : (L : Int) + (t : Int) = ((bs.length + (h + t) : Nat) : Int) := by have := HL.out; omega
            rw [e] at hb ⊢
            exact hb, by
            have hb := ((HBLK.out.drewN (nq + 1)).set mm (.int .u8 ((y + 2 ^ s * (u % 2 ^ t) : Nat) : Int))).far (p := ⟨g, 1, none⟩) (fun e => hne e.symm) (.int .i64 ((L : Int) + (t : Int)))
            rw [List.set_append_left _ _ (by rw [List.length_map, hPlen]; omega), ← List.map_set, HSET.out t ht1 hst] at hb
            exact Own.mk hbg (by rw [← HSET.out t ht1 hst, List.length_set, hPlen]) hsp hcm hb, ((hfr2.drewN (nq + 1)).setCell (p := ⟨g1, mm, none⟩) (fun hlt => Or.inr (hB1A g1 rfl hlt)) _).setCell (p := ⟨g, 1, none⟩) (fun _ => Or.inl rfl) _, hB1A⟩
    · obtain rfl : gk = 0 := by omega
      have HHK := Lib.hid hk
      go_wp2
      go_end0
      obtain rfl : h = n := by have := HHK.out; omega
      exact ⟨rfl, B, m', d, hcr, hor, hfr, hBA⟩
end Go.Proofs.YtpohaikbbfochaaDoor


/-
  Contracts of copying bits, Put and Get.
-/
namespace Go.Proofs.YtpohaikbbfochaaDoor
open Go.RowKit Cad Cad.Bit
set_option linter.unusedVariables false

theorem clone8_any (A : Option Addr) (n c : Nat) (xs : List Int) (w : World) (ha : Row .u8 w A n xs) (hn : n ≤ 900000) :
    Calls Tryd.prog 70 #[.slice A n c] w fun e w' => ∃ B d, e = .returned (.slice B n d) ∧ Own w' w.heap.size 5 .u8 B n d xs ∧ Below w.heap.size w w' := by
  have hnil := fun (W : World) (a : Option Addr) (n c : Nat) => Lib.run_eql_slice_nil (P := Tryd.prog) W 24 5 a n c 0 0 Tryd.underlying24
  cases A with
  | none =>
    have h0 : n = 0 := by
      rcases Nat.eq_zero_or_pos n with h0 | h0
      · exact h0
      · obtain ⟨_, _, h, _⟩ := ha.at h0
        cases h
    subst h0
    have hx : xs = [] := List.eq_nil_of_length_eq_zero ha.len
    subst hx
    go_enter Tryd.func70, Tryd.ntmps70
    go_wp2
    go_ret
    exact ⟨none, 0, rfl, Own.nil _ _ _ _, Below.refl _ _⟩
  | some ad =>
    go_enter Tryd.func70, Tryd.ntmps70
    go_wp2_with (at_builtin; refine wpList_app _ u8E rfl _ _ rfl w.heap.size _ _ _ [] rfl (own_empty w _ _ (Nat.le_refl _)) _ _ _ xs rfl (ha.alloc _) (by omega) (by simp) ?_)
    intro B d w1 hown hg _
    have hbel : Below w.heap.size w w1 := ((Below.refl _ _).alloc (Nat.le_refl _) _).grown hg (by simp) (fun g e => by simp [blockOf] at e; omega)
    clear hg
    go_wp2
    go_ret
    exact ⟨B, d, rfl, hown, hbel⟩

set_option maxHeartbeats 400000 in
theorem twin_any (A : Option Addr) (n c : Nat) (N : Int) (xs : List Int) (w : World) (ha : Row .u8 w A n xs) (hn : n ≤ 900000) :
    Calls Tryd.prog 35 #[.agg #[.slice A n c, .int .i64 N]] w fun e w' => ∃ B d, e = .returned (.agg #[.slice B n d, .int .i64 N]) ∧ Own w' w.heap.size 5 .u8 B n d xs ∧ Below w.heap.size w w' := by
  go_enter Tryd.func35, Tryd.ntmps35
  go_wp2_with fail
  have z0 : Blk ((w.alloc (.cells #[.slice A n c, .int .i64 N] 26)).alloc (.cells #[.slice none 0 0, .int .i64 0] 26)) w.heap.size 26 [.slice A n c, .int .i64 N] := (Blk.new w _ [.slice A n c, .int .i64 N]).alloc _
  have z1 : Blk ((w.alloc (.cells #[.slice A n c, .int .i64 N] 26)).alloc (.cells #[.slice none 0 0, .int .i64 0] 26)) (w.heap.size + 1) 26 [.slice none 0 0, .int .i64 0] := by
    have h := Blk.new (w.alloc (.cells #[.slice A n c, .int .i64 N] 26)) 26 [.slice none 0 0, .int .i64 0]
    rwa [World.size_alloc] at h
  have z2 : Below w.heap.size w ((w.alloc (.cells #[.slice A n c, .int .i64 N] 26)).alloc (.cells #[.slice none 0 0, .int .i64 0] 26)) := ((Below.refl _ _).alloc (Nat.le_refl _) _).alloc (by simp) _
  have z3 := (ha.alloc (.cells #[.slice A n c, .int .i64 N] 26)).alloc (.cells #[.slice none 0 0, .int .i64 0] 26)
  have z4 : ((w.alloc (.cells #[.slice A n c, .int .i64 N] 26)).alloc (.cells #[.slice none 0 0, .int .i64 0] 26)).heap.size = w.heap.size + 2 := by simp
  revert z0 z1 z2 z3 z4
  generalize ((w.alloc (.cells #[.slice A n c, .int .i64 N] 26)).alloc (.cells #[.slice none 0 0, .int .i64 0] 26)) = w0
  intro z0 z1 z2 z3 z4
  have k0 : w0.cell? ⟨w.heap.size, 0, none⟩ = some (.slice A n c) := by rw [z0.cell]; rfl
  have k1 : w0.cell? ⟨w.heap.size, 1, none⟩ = some (.int .i64 N) := by rw [z0.cell]; rfl
  have Z4 := Lib.hid z4
  clear z4
  go_region_law (go_simp; go_at_call 70; refine (clone8_any A n c xs _ (by exact z3) hn).mono ?_; rintro e w1 ⟨B, d, rfl, hown, hbel⟩
                 have hbel1 : Below w0.heap.size w0 w1 := by exact ⟨hbel.os, hbel.tape, hbel.output, hbel.size, hbel.block⟩
                 have y0 := z0.below hbel1 z0.lt
                 have y1 := z1.below hbel1 z1.lt
                 have q1 : w1.cell? ⟨w.heap.size, 1, none⟩ = some (.int .i64 N) := by rw [y0.cell]; rfl
                 have q2 : w1.cell? ⟨w.heap.size + 1, 0, none⟩ = some (.slice none 0 0) := by rw [y1.cell]; rfl
                 have q3 : w1.cell? ⟨w.heap.size + 1, 1, none⟩ = some (.int .i64 0) := by rw [y1.cell]; rfl
                 have q4 := y1.frozen 0
                 have q5 := y1.frozen 1)
  all_goals
    go_wp2
    refine bodyPost_ret (v := .agg #[.slice B n d, .int .i64 N]) (by simp [results, Tryd.results35, go_sem, q2, q3]) rfl ⟨B, d, rfl, ?_, ?_⟩
    · have hz := Z4.out
      have hgne : blockOf B ≠ some (w.heap.size + 1) := hown.ne_blk y1 (by decide)
      refine Own.mono (base := w0.drew.heap.size) ?_ (by show w.heap.size ≤ w0.heap.size; omega)
      exact (hown.frm (S := fun k => k = w.heap.size + 1) (((Frm.refl (fun k => k = w.heap.size + 1) w1).setCell (p := ⟨w.heap.size + 1, 0, none⟩) (fun _ => rfl) _).setCell (p := ⟨w.heap.size + 1, 1, none⟩) (fun _ => rfl) _) (fun k e hk => hgne (by rw [e, hk])))
    · exact ((z2.trans (hbel1.mono z2.size)).setCell (p := ⟨w.heap.size + 1, 0, none⟩) (by show w.heap.size ≤ w.heap.size + 1; omega) _).setCell (p := ⟨w.heap.size + 1, 1, none⟩) (by show w.heap.size ≤ w.heap.size + 1; omega) _

theorem pow64 (n : Nat) (h : n ≤ 64) (v : Nat) (hv : v < 18446744073709551616) : n < 64 ∨ v < 2 ^ n := by
  by_cases h1 : n < 64
  · exact .inl h1
  · right; obtain rfl : n = 64 := by omega
    exact hv

/-- What Put returns: the bits, the error. -/
def putR (bs : List Bool) (v : Nat) (n : Int) : List Bool × Int :=
  if n < 0 ∨ 64 < n then ([], 2) else if 2 ^ n.toNat ≤ v then ([], 16) else if 330000 < bs.length + n.toNat then ([], 18) else (bs ++ lowBits v n.toNat, 0)

set_option maxHeartbeats 1000000 in
theorem bput_any (A : Option Addr) (m c : Nat) (bs : List Bool) (v : Nat) (n : Int) (w : World) (ha : RowC .u8 w A m c (pack bs)) (hl : bs.length ≤ 330000) (hv : v < 18446744073709551616) (hn : -9223372036854775808 ≤ n ∧ n ≤ 9223372036854775807) :
    Calls Tryd.prog 7 #[.agg #[.slice A m c, .int .i64 (bs.length : Nat)], .int .u64 v, .int .i64 n] w fun e w' => ∃ x, e = .returned (.tuple #[x, .int .i64 (putR bs v n).2]) ∧ BitsIn w' w.heap.size w'.heap.size x (putR bs v n).1 ∧ Below w.heap.size w w' := by
  have hcap := ha.2
  have hm : m ≤ 41250 := by have := ha.row.len; rw [pack_len] at this; unfold bytesFor at this; omega
  by_cases h1 : n < 0
  · have HR : Hid (putR bs v n = ([], 2)) := by unfold putR; rw [if_pos (Or.inl h1)]; rfl
    go_enter Tryd.func7, Tryd.ntmps7
    go_wp2_with fail
    have z0 : Blk ((w.alloc (.cells #[.slice A m c, .int .i64 ((bs.length : Nat) : Int)] 26)).alloc (.cells #[.slice none 0 0, .int .i64 0] 26)) w.heap.size 26 [.slice A m c, .int .i64 ((bs.length : Nat) : Int)] := (Blk.new w _ [.slice A m c, .int .i64 ((bs.length : Nat) : Int)]).alloc _
    have z1 : Blk ((w.alloc (.cells #[.slice A m c, .int .i64 ((bs.length : Nat) : Int)] 26)).alloc (.cells #[.slice none 0 0, .int .i64 0] 26)) (w.heap.size + 1) 26 [.slice none 0 0, .int .i64 0] := by
      have h := Blk.new (w.alloc (.cells #[.slice A m c, .int .i64 ((bs.length : Nat) : Int)] 26)) 26 [.slice none 0 0, .int .i64 0]
      rwa [World.size_alloc] at h
    have z2 : Below w.heap.size w ((w.alloc (.cells #[.slice A m c, .int .i64 ((bs.length : Nat) : Int)] 26)).alloc (.cells #[.slice none 0 0, .int .i64 0] 26)) := ((Below.refl _ _).alloc (Nat.le_refl _) _).alloc (by simp) _
    have z3 := (ha.row.alloc (.cells #[.slice A m c, .int .i64 ((bs.length : Nat) : Int)] 26)).alloc (.cells #[.slice none 0 0, .int .i64 0] 26)
    have z4 : ((w.alloc (.cells #[.slice A m c, .int .i64 ((bs.length : Nat) : Int)] 26)).alloc (.cells #[.slice none 0 0, .int .i64 0] 26)).heap.size = w.heap.size + 2 := by simp
    revert z0 z1 z2 z3 z4
    generalize ((w.alloc (.cells #[.slice A m c, .int .i64 ((bs.length : Nat) : Int)] 26)).alloc (.cells #[.slice none 0 0, .int .i64 0] 26)) = w0
    intro z0 z1 z2 z3 z4
    have Z4 := Lib.hid z4
    clear z4
    refine (bcheck_ok A m c bs w0 z3 (by omega) hl).mono ?_
    rintro e w1 ⟨rfl, b1⟩
    have y0 := z0.below b1 z0.lt
    have y1 := z1.below b1 z1.lt
    have y2 := z2.trans (b1.mono z2.size)
    have y3 := z3.below b1
    have q0 : w1.cell? ⟨w.heap.size, 0, none⟩ = some (.slice A m c) := by rw [y0.cell]; rfl
    have q1 : w1.cell? ⟨w.heap.size, 1, none⟩ = some (.int .i64 ((bs.length : Nat) : Int)) := by rw [y0.cell]; rfl
    have q2 : w1.cell? ⟨w.heap.size + 1, 0, none⟩ = some (.slice none 0 0) := by rw [y1.cell]; rfl
    have q3 : w1.cell? ⟨w.heap.size + 1, 1, none⟩ = some (.int .i64 0) := by rw [y1.cell]; rfl
    have q4 := y1.frozen 0
    have q5 := y1.frozen 1
    have q6 := y0.frozen 0
    have q7 := y0.frozen 1
    go_wp2
    refine bodyPost_ret (v := .tuple #[.agg #[.slice none 0 0, .int .i64 0], .int .i64 2]) (by simp [results, Tryd.results7, go_sem, q2, q3]) rfl ⟨_, by rw [HR.out], by rw [HR.out]; exact BitsIn.zero _ _ _, ?_⟩
    exact (y2.setCell (p := ⟨w.heap.size + 1, 0, none⟩) (by show w.heap.size ≤ w.heap.size + 1; omega) _).setCell (p := ⟨w.heap.size + 1, 1, none⟩) (by show w.heap.size ≤ w.heap.size + 1; omega) _
  by_cases h2 : 64 < n
  · have HR : Hid (putR bs v n = ([], 2)) := by unfold putR; rw [if_pos (Or.inr h2)]; rfl
    go_enter Tryd.func7, Tryd.ntmps7
    go_wp2_with fail
    have z0 : Blk ((w.alloc (.cells #[.slice A m c, .int .i64 ((bs.length : Nat) : Int)] 26)).alloc (.cells #[.slice none 0 0, .int .i64 0] 26)) w.heap.size 26 [.slice A m c, .int .i64 ((bs.length : Nat) : Int)] := (Blk.new w _ [.slice A m c, .int .i64 ((bs.length : Nat) : Int)]).alloc _
    have z1 : Blk ((w.alloc (.cells #[.slice A m c, .int .i64 ((bs.length : Nat) : Int)] 26)).alloc (.cells #[.slice none 0 0, .int .i64 0] 26)) (w.heap.size + 1) 26 [.slice none 0 0, .int .i64 0] := by
      have h := Blk.new (w.alloc (.cells #[.slice A m c, .int .i64 ((bs.length : Nat) : Int)] 26)) 26 [.slice none 0 0, .int .i64 0]
      rwa [World.size_alloc] at h
    have z2 : Below w.heap.size w ((w.alloc (.cells #[.slice A m c, .int .i64 ((bs.length : Nat) : Int)] 26)).alloc (.cells #[.slice none 0 0, .int .i64 0] 26)) := ((Below.refl _ _).alloc (Nat.le_refl _) _).alloc (by simp) _
    have z3 := (ha.row.alloc (.cells #[.slice A m c, .int .i64 ((bs.length : Nat) : Int)] 26)).alloc (.cells #[.slice none 0 0, .int .i64 0] 26)
    have z4 : ((w.alloc (.cells #[.slice A m c, .int .i64 ((bs.length : Nat) : Int)] 26)).alloc (.cells #[.slice none 0 0, .int .i64 0] 26)).heap.size = w.heap.size + 2 := by simp
    revert z0 z1 z2 z3 z4
    generalize ((w.alloc (.cells #[.slice A m c, .int .i64 ((bs.length : Nat) : Int)] 26)).alloc (.cells #[.slice none 0 0, .int .i64 0] 26)) = w0
    intro z0 z1 z2 z3 z4
    have Z4 := Lib.hid z4
    clear z4
    refine (bcheck_ok A m c bs w0 z3 (by omega) hl).mono ?_
    rintro e w1 ⟨rfl, b1⟩
    have y0 := z0.below b1 z0.lt
    have y1 := z1.below b1 z1.lt
    have y2 := z2.trans (b1.mono z2.size)
    have y3 := z3.below b1
    have q0 : w1.cell? ⟨w.heap.size, 0, none⟩ = some (.slice A m c) := by rw [y0.cell]; rfl
    have q1 : w1.cell? ⟨w.heap.size, 1, none⟩ = some (.int .i64 ((bs.length : Nat) : Int)) := by rw [y0.cell]; rfl
    have q2 : w1.cell? ⟨w.heap.size + 1, 0, none⟩ = some (.slice none 0 0) := by rw [y1.cell]; rfl
    have q3 : w1.cell? ⟨w.heap.size + 1, 1, none⟩ = some (.int .i64 0) := by rw [y1.cell]; rfl
    have q4 := y1.frozen 0
    have q5 := y1.frozen 1
    have q6 := y0.frozen 0
    have q7 := y0.frozen 1
    go_wp2
    refine bodyPost_ret (v := .tuple #[.agg #[.slice none 0 0, .int .i64 0], .int .i64 2]) (by simp [results, Tryd.results7, go_sem, q2, q3]) rfl ⟨_, by rw [HR.out], by rw [HR.out]; exact BitsIn.zero _ _ _, ?_⟩
    exact (y2.setCell (p := ⟨w.heap.size + 1, 0, none⟩) (by show w.heap.size ≤ w.heap.size + 1; omega) _).setCell (p := ⟨w.heap.size + 1, 1, none⟩) (by show w.heap.size ≤ w.heap.size + 1; omega) _
  obtain ⟨k, rfl⟩ := Int.eq_ofNat_of_zero_le (by omega : 0 ≤ n)
  have hk : k ≤ 64 := by omega
  by_cases h3 : 2 ^ k ≤ v
  · have HR : Hid (putR bs v (k : Nat) = ([], 16)) := by unfold putR; rw [if_neg (by omega), Int.toNat_natCast, if_pos h3]; rfl
    have hk64 : k < 64 := by
      rcases Nat.lt_or_ge k 64 with h | h
      · exact h
      · obtain rfl : k = 64 := by omega
        have h64 : (2 : Nat) ^ 64 = 18446744073709551616 := by decide
        omega
    have hsh : ((v : Int) / 2 ^ k != 0) = true := by
      rw [pow_cast, ← Int.natCast_ediv]
      have : 1 ≤ v / 2 ^ k := (Nat.le_div_iff_mul_le (Nat.two_pow_pos k)).2 (by omega)
      exact bne_iff_ne.2 (by omega)
    clear h3
    go_enter Tryd.func7, Tryd.ntmps7
    go_wp2_with fail
    have z0 : Blk ((w.alloc (.cells #[.slice A m c, .int .i64 ((bs.length : Nat) : Int)] 26)).alloc (.cells #[.slice none 0 0, .int .i64 0] 26)) w.heap.size 26 [.slice A m c, .int .i64 ((bs.length : Nat) : Int)] := (Blk.new w _ [.slice A m c, .int .i64 ((bs.length : Nat) : Int)]).alloc _
    have z1 : Blk ((w.alloc (.cells #[.slice A m c, .int .i64 ((bs.length : Nat) : Int)] 26)).alloc (.cells #[.slice none 0 0, .int .i64 0] 26)) (w.heap.size + 1) 26 [.slice none 0 0, .int .i64 0] := by
      have h := Blk.new (w.alloc (.cells #[.slice A m c, .int .i64 ((bs.length : Nat) : Int)] 26)) 26 [.slice none 0 0, .int .i64 0]
      rwa [World.size_alloc] at h
    have z2 : Below w.heap.size w ((w.alloc (.cells #[.slice A m c, .int .i64 ((bs.length : Nat) : Int)] 26)).alloc (.cells #[.slice none 0 0, .int .i64 0] 26)) := ((Below.refl _ _).alloc (Nat.le_refl _) _).alloc (by simp) _
    have z3 := (ha.row.alloc (.cells #[.slice A m c, .int .i64 ((bs.length : Nat) : Int)] 26)).alloc (.cells #[.slice none 0 0, .int .i64 0] 26)
    have z4 : ((w.alloc (.cells #[.slice A m c, .int .i64 ((bs.length : Nat) : Int)] 26)).alloc (.cells #[.slice none 0 0, .int .i64 0] 26)).heap.size = w.heap.size + 2 := by simp
    revert z0 z1 z2 z3 z4
    generalize ((w.alloc (.cells #[.slice A m c, .int .i64 ((bs.length : Nat) : Int)] 26)).alloc (.cells #[.slice none 0 0, .int .i64 0] 26)) = w0
    intro z0 z1 z2 z3 z4
    have Z4 := Lib.hid z4
    clear z4
    refine (bcheck_ok A m c bs w0 z3 (by omega) hl).mono ?_
    rintro e w1 ⟨rfl, b1⟩
    have y0 := z0.below b1 z0.lt
    have y1 := z1.below b1 z1.lt
    have y2 := z2.trans (b1.mono z2.size)
    have y3 := z3.below b1
    have q0 : w1.cell? ⟨w.heap.size, 0, none⟩ = some (.slice A m c) := by rw [y0.cell]; rfl
    have q1 : w1.cell? ⟨w.heap.size, 1, none⟩ = some (.int .i64 ((bs.length : Nat) : Int)) := by rw [y0.cell]; rfl
    have q2 : w1.cell? ⟨w.heap.size + 1, 0, none⟩ = some (.slice none 0 0) := by rw [y1.cell]; rfl
    have q3 : w1.cell? ⟨w.heap.size + 1, 1, none⟩ = some (.int .i64 0) := by rw [y1.cell]; rfl
    have q4 := y1.frozen 0
    have q5 := y1.frozen 1
    have q6 := y0.frozen 0
    have q7 := y0.frozen 1
    go_wp2
    refine bodyPost_ret (v := .tuple #[.agg #[.slice none 0 0, .int .i64 0], .int .i64 16]) (by simp [results, Tryd.results7, go_sem, q2, q3]) rfl ⟨_, by rw [HR.out], by rw [HR.out]; exact BitsIn.zero _ _ _, ?_⟩
    exact (y2.setCell (p := ⟨w.heap.size + 1, 0, none⟩) (by show w.heap.size ≤ w.heap.size + 1; omega) _).setCell (p := ⟨w.heap.size + 1, 1, none⟩) (by show w.heap.size ≤ w.heap.size + 1; omega) _
  have h3' : v < 2 ^ k := by omega
  have hsh : k < 64 → ((v : Int) / 2 ^ k != 0) = false := fun _ => by
    rw [pow_cast, ← Int.natCast_ediv, Nat.div_eq_of_lt h3']; rfl
  by_cases h4 : 330000 < bs.length + k
  · have HR : Hid (putR bs v (k : Nat) = ([], 18)) := by unfold putR; rw [if_neg (by omega), Int.toNat_natCast, if_neg (by omega), if_pos h4]; rfl
    clear h3
    by_cases hk64 : k < 64
    · have hsh' := hsh hk64
      clear hsh
      go_enter Tryd.func7, Tryd.ntmps7
      go_wp2_with fail
      have z0 : Blk ((w.alloc (.cells #[.slice A m c, .int .i64 ((bs.length : Nat) : Int)] 26)).alloc (.cells #[.slice none 0 0, .int .i64 0] 26)) w.heap.size 26 [.slice A m c, .int .i64 ((bs.length : Nat) : Int)] := (Blk.new w _ [.slice A m c, .int .i64 ((bs.length : Nat) : Int)]).alloc _
      have z1 : Blk ((w.alloc (.cells #[.slice A m c, .int .i64 ((bs.length : Nat) : Int)] 26)).alloc (.cells #[.slice none 0 0, .int .i64 0] 26)) (w.heap.size + 1) 26 [.slice none 0 0, .int .i64 0] := by
        have h := Blk.new (w.alloc (.cells #[.slice A m c, .int .i64 ((bs.length : Nat) : Int)] 26)) 26 [.slice none 0 0, .int .i64 0]
        rwa [World.size_alloc] at h
      have z2 : Below w.heap.size w ((w.alloc (.cells #[.slice A m c, .int .i64 ((bs.length : Nat) : Int)] 26)).alloc (.cells #[.slice none 0 0, .int .i64 0] 26)) := ((Below.refl _ _).alloc (Nat.le_refl _) _).alloc (by simp) _
      have z3 := (ha.row.alloc (.cells #[.slice A m c, .int .i64 ((bs.length : Nat) : Int)] 26)).alloc (.cells #[.slice none 0 0, .int .i64 0] 26)
      have z4 : ((w.alloc (.cells #[.slice A m c, .int .i64 ((bs.length : Nat) : Int)] 26)).alloc (.cells #[.slice none 0 0, .int .i64 0] 26)).heap.size = w.heap.size + 2 := by simp
      revert z0 z1 z2 z3 z4
      generalize ((w.alloc (.cells #[.slice A m c, .int .i64 ((bs.length : Nat) : Int)] 26)).alloc (.cells #[.slice none 0 0, .int .i64 0] 26)) = w0
      intro z0 z1 z2 z3 z4
      have Z4 := Lib.hid z4
      clear z4
      refine (bcheck_ok A m c bs w0 z3 (by omega) hl).mono ?_
      rintro e w1 ⟨rfl, b1⟩
      have y0 := z0.below b1 z0.lt
      have y1 := z1.below b1 z1.lt
      have y2 := z2.trans (b1.mono z2.size)
      have y3 := z3.below b1
      have q0 : w1.cell? ⟨w.heap.size, 0, none⟩ = some (.slice A m c) := by rw [y0.cell]; rfl
      have q1 : w1.cell? ⟨w.heap.size, 1, none⟩ = some (.int .i64 ((bs.length : Nat) : Int)) := by rw [y0.cell]; rfl
      have q2 : w1.cell? ⟨w.heap.size + 1, 0, none⟩ = some (.slice none 0 0) := by rw [y1.cell]; rfl
      have q3 : w1.cell? ⟨w.heap.size + 1, 1, none⟩ = some (.int .i64 0) := by rw [y1.cell]; rfl
      have q4 := y1.frozen 0
      have q5 := y1.frozen 1
      have q6 := y0.frozen 0
      have q7 := y0.frozen 1
      go_wp2
      refine bodyPost_ret (v := .tuple #[.agg #[.slice none 0 0, .int .i64 0], .int .i64 18]) (by simp [results, Tryd.results7, go_sem, q2, q3]) rfl ⟨_, by rw [HR.out], by rw [HR.out]; exact BitsIn.zero _ _ _, ?_⟩
      exact (y2.setCell (p := ⟨w.heap.size + 1, 0, none⟩) (by show w.heap.size ≤ w.heap.size + 1; omega) _).setCell (p := ⟨w.heap.size + 1, 1, none⟩) (by show w.heap.size ≤ w.heap.size + 1; omega) _
    · clear hsh
      go_enter Tryd.func7, Tryd.ntmps7
      go_wp2_with fail
      have z0 : Blk ((w.alloc (.cells #[.slice A m c, .int .i64 ((bs.length : Nat) : Int)] 26)).alloc (.cells #[.slice none 0 0, .int .i64 0] 26)) w.heap.size 26 [.slice A m c, .int .i64 ((bs.length : Nat) : Int)] := (Blk.new w _ [.slice A m c, .int .i64 ((bs.length : Nat) : Int)]).alloc _
      have z1 : Blk ((w.alloc (.cells #[.slice A m c, .int .i64 ((bs.length : Nat) : Int)] 26)).alloc (.cells #[.slice none 0 0, .int .i64 0] 26)) (w.heap.size + 1) 26 [.slice none 0 0, .int .i64 0] := by
        have h := Blk.new (w.alloc (.cells #[.slice A m c, .int .i64 ((bs.length : Nat) : Int)] 26)) 26 [.slice none 0 0, .int .i64 0]
        rwa [World.size_alloc] at h
      have z2 : Below w.heap.size w ((w.alloc (.cells #[.slice A m c, .int .i64 ((bs.length : Nat) : Int)] 26)).alloc (.cells #[.slice none 0 0, .int .i64 0] 26)) := ((Below.refl _ _).alloc (Nat.le_refl _) _).alloc (by simp) _
      have z3 := (ha.row.alloc (.cells #[.slice A m c, .int .i64 ((bs.length : Nat) : Int)] 26)).alloc (.cells #[.slice none 0 0, .int .i64 0] 26)
      have z4 : ((w.alloc (.cells #[.slice A m c, .int .i64 ((bs.length : Nat) : Int)] 26)).alloc (.cells #[.slice none 0 0, .int .i64 0] 26)).heap.size = w.heap.size + 2 := by simp
      revert z0 z1 z2 z3 z4
      generalize ((w.alloc (.cells #[.slice A m c, .int .i64 ((bs.length : Nat) : Int)] 26)).alloc (.cells #[.slice none 0 0, .int .i64 0] 26)) = w0
      intro z0 z1 z2 z3 z4
      have Z4 := Lib.hid z4
      clear z4
      refine (bcheck_ok A m c bs w0 z3 (by omega) hl).mono ?_
      rintro e w1 ⟨rfl, b1⟩
      have y0 := z0.below b1 z0.lt
      have y1 := z1.below b1 z1.lt
      have y2 := z2.trans (b1.mono z2.size)
      have y3 := z3.below b1
      have q0 : w1.cell? ⟨w.heap.size, 0, none⟩ = some (.slice A m c) := by rw [y0.cell]; rfl
      have q1 : w1.cell? ⟨w.heap.size, 1, none⟩ = some (.int .i64 ((bs.length : Nat) : Int)) := by rw [y0.cell]; rfl
      have q2 : w1.cell? ⟨w.heap.size + 1, 0, none⟩ = some (.slice none 0 0) := by rw [y1.cell]; rfl
      have q3 : w1.cell? ⟨w.heap.size + 1, 1, none⟩ = some (.int .i64 0) := by rw [y1.cell]; rfl
      have q4 := y1.frozen 0
      have q5 := y1.frozen 1
      have q6 := y0.frozen 0
      have q7 := y0.frozen 1
      go_wp2
      refine bodyPost_ret (v := .tuple #[.agg #[.slice none 0 0, .int .i64 0], .int .i64 18]) (by simp [results, Tryd.results7, go_sem, q2, q3]) rfl ⟨_, by rw [HR.out], by rw [HR.out]; exact BitsIn.zero _ _ _, ?_⟩
      exact (y2.setCell (p := ⟨w.heap.size + 1, 0, none⟩) (by show w.heap.size ≤ w.heap.size + 1; omega) _).setCell (p := ⟨w.heap.size + 1, 1, none⟩) (by show w.heap.size ≤ w.heap.size + 1; omega) _
  have HR : Hid (putR bs v (k : Nat) = (bs ++ lowBits v k, 0)) := by unfold putR; rw [if_neg (by omega), Int.toNat_natCast, if_neg (by omega), if_neg h4]; rfl
  clear h3
  have okway : ∀ e w', (∃ B m' d, e = Ending.returned (.tuple #[.agg #[.slice B m' d, .int .i64 ((bs.length + k : Nat) : Int)], .int .i64 0]) ∧ ((m' ≤ d ∧ d ≤ 9223372036854775807) ∧ RowIn .u8 w' w.heap.size w'.heap.size B m' (pack (bs ++ lowBits v k))) ∧ Below w.heap.size w w') → ∃ x, e = .returned (.tuple #[x, .int .i64 (putR bs v (k : Nat)).2]) ∧ BitsIn w' w.heap.size w'.heap.size x (putR bs v (k : Nat)).1 ∧ Below w.heap.size w w' := by
    rintro e w' ⟨B, m', d, rfl, hr, hb⟩
    refine ⟨_, by rw [HR.out], ?_, hb⟩
    rw [HR.out]
    exact ⟨B, m', d, by rw [List.length_append, lowBits_len], hr⟩
  refine Calls.mono ?_ okway
  clear okway HR
  by_cases hk64 : k < 64
  all_goals
    first
      | (have hsh' := hsh hk64; clear hsh)
      | clear hsh
    go_enter Tryd.func7, Tryd.ntmps7
    go_wp2_with fail
    have z0 : Blk ((w.alloc (.cells #[.slice A m c, .int .i64 ((bs.length : Nat) : Int)] 26)).alloc (.cells #[.slice none 0 0, .int .i64 0] 26)) w.heap.size 26 [.slice A m c, .int .i64 ((bs.length : Nat) : Int)] := (Blk.new w _ [.slice A m c, .int .i64 ((bs.length : Nat) : Int)]).alloc _
    have z1 : Blk ((w.alloc (.cells #[.slice A m c, .int .i64 ((bs.length : Nat) : Int)] 26)).alloc (.cells #[.slice none 0 0, .int .i64 0] 26)) (w.heap.size + 1) 26 [.slice none 0 0, .int .i64 0] := by
      have h := Blk.new (w.alloc (.cells #[.slice A m c, .int .i64 ((bs.length : Nat) : Int)] 26)) 26 [.slice none 0 0, .int .i64 0]
      rwa [World.size_alloc] at h
    have z2 : Below w.heap.size w ((w.alloc (.cells #[.slice A m c, .int .i64 ((bs.length : Nat) : Int)] 26)).alloc (.cells #[.slice none 0 0, .int .i64 0] 26)) := ((Below.refl _ _).alloc (Nat.le_refl _) _).alloc (by simp) _
    have z3 := (ha.row.alloc (.cells #[.slice A m c, .int .i64 ((bs.length : Nat) : Int)] 26)).alloc (.cells #[.slice none 0 0, .int .i64 0] 26)
    have z4 : ((w.alloc (.cells #[.slice A m c, .int .i64 ((bs.length : Nat) : Int)] 26)).alloc (.cells #[.slice none 0 0, .int .i64 0] 26)).heap.size = w.heap.size + 2 := by simp
    revert z0 z1 z2 z3 z4
    generalize ((w.alloc (.cells #[.slice A m c, .int .i64 ((bs.length : Nat) : Int)] 26)).alloc (.cells #[.slice none 0 0, .int .i64 0] 26)) = w0
    intro z0 z1 z2 z3 z4
    have Z4 := Lib.hid z4
    clear z4
    refine (bcheck_ok A m c bs w0 z3 (by omega) hl).mono ?_
    rintro e w1 ⟨rfl, b1⟩
    have y0 := z0.below b1 z0.lt
    have y1 := z1.below b1 z1.lt
    have y2 := z2.trans (b1.mono z2.size)
    have y3 := z3.below b1
    have q0 : w1.cell? ⟨w.heap.size, 0, none⟩ = some (.slice A m c) := by rw [y0.cell]; rfl
    have q1 : w1.cell? ⟨w.heap.size, 1, none⟩ = some (.int .i64 ((bs.length : Nat) : Int)) := by rw [y0.cell]; rfl
    have q2 : w1.cell? ⟨w.heap.size + 1, 0, none⟩ = some (.slice none 0 0) := by rw [y1.cell]; rfl
    have q3 : w1.cell? ⟨w.heap.size + 1, 1, none⟩ = some (.int .i64 0) := by rw [y1.cell]; rfl
    have q4 := y1.frozen 0
    have q5 := y1.frozen 1
    have q6 := y0.frozen 0
    have q7 := y0.frozen 1
    go_wp2_with fail
    refine (twin_any A m c (bs.length : Nat) (pack bs) w1 y3 (by omega)).mono ?_
    rintro e w2 ⟨B2, d2, rfl, own2, b2⟩
    have x0 := y0.below b2 y0.lt
    have x1 := y1.below b2 y1.lt
    have x2 := y2.trans (b2.mono y2.size)
    have p0 : w2.cell? ⟨w.heap.size, 0, none⟩ = some (.slice A m c) := by rw [x0.cell]; rfl
    have p1 : w2.cell? ⟨w.heap.size, 1, none⟩ = some (.int .i64 ((bs.length : Nat) : Int)) := by rw [x0.cell]; rfl
    have p6 := x0.frozen 0
    have p7 := x0.frozen 1
    clear q0 q1 q2 q3 q4 q5 q6 q7
    go_wp2_with fail
    have hx0 : Cell2 ((w2.setCell ⟨w.heap.size, 0, none⟩ (.slice B2 m d2)).setCell ⟨w.heap.size, 1, none⟩ (.int .i64 ((bs.length : Nat) : Int))) w.heap.size B2 m d2 bs.length := (x0.set 0 (.slice B2 m d2)).set 1 (.int .i64 ((bs.length : Nat) : Int))
    have hx1 : Blk ((w2.setCell ⟨w.heap.size, 0, none⟩ (.slice B2 m d2)).setCell ⟨w.heap.size, 1, none⟩ (.int .i64 ((bs.length : Nat) : Int))) (w.heap.size + 1) 26 [.slice none 0 0, .int .i64 0] := (x1.far (p := ⟨w.heap.size, 0, none⟩) (by show w.heap.size + 1 ≠ w.heap.size; omega) _).far (p := ⟨w.heap.size, 1, none⟩) (by show w.heap.size + 1 ≠ w.heap.size; omega) _
    have hx2 : Below w.heap.size w ((w2.setCell ⟨w.heap.size, 0, none⟩ (.slice B2 m d2)).setCell ⟨w.heap.size, 1, none⟩ (.int .i64 ((bs.length : Nat) : Int))) := (x2.setCell (p := ⟨w.heap.size, 0, none⟩) (Nat.le_refl _) _).setCell (p := ⟨w.heap.size, 1, none⟩) (Nat.le_refl _) _
    have hx3 : Own ((w2.setCell ⟨w.heap.size, 0, none⟩ (.slice B2 m d2)).setCell ⟨w.heap.size, 1, none⟩ (.int .i64 ((bs.length : Nat) : Int))) w1.heap.size 5 .u8 B2 m d2 (pack bs) := by
      have hne : blockOf B2 ≠ some w.heap.size := own2.ne_blk x0 (by decide)
      exact own2.frm (S := fun k => k = w.heap.size) (((Frm.refl (fun k => k = w.heap.size) w2).setCell (p := ⟨w.heap.size, 0, none⟩) (fun _ => rfl) _).setCell (p := ⟨w.heap.size, 1, none⟩) (fun _ => rfl) _) (fun k e hk => hne (by rw [e, hk]))
    have hx4 : w1.heap.size ≤ ((w2.setCell ⟨w.heap.size, 0, none⟩ (.slice B2 m d2)).setCell ⟨w.heap.size, 1, none⟩ (.int .i64 ((bs.length : Nat) : Int))).heap.size := by simp; exact b2.size
    clear x0 x1 x2 p0 p1 p6 p7
    revert hx0 hx1 hx2 hx3 hx4
    generalize ((w2.setCell ⟨w.heap.size, 0, none⟩ (.slice B2 m d2)).setCell ⟨w.heap.size, 1, none⟩ (.int .i64 ((bs.length : Nat) : Int))) = w3
    intro hx0 hx1 hx2 hx3 hx4
    refine (put_any w.heap.size w1.heap.size B2 m d2 bs v k w3 hv hk (by omega) hx4 hx0 hx3).mono ?_
    rintro e w4 ⟨rfl, B4, m4, d4, c4, own4, fr4, _⟩
    have hb1 := own2.block
    have hs1 : w.heap.size + 1 < w1.heap.size := y1.lt
    have r1 : Blk w4 (w.heap.size + 1) 26 [.slice none 0 0, .int .i64 0] := hx1.frm fr4 (by
      rintro (h | h)
      · omega
      · have := (hb1 _ h).1; omega)
    have r2 : Below w.heap.size w w4 := hx2.trans (fr4.below hx2.size (fun j hj => by
      rintro (h | h)
      · omega
      · have := (hb1 _ h).1; omega))
    have g0 : w4.cell? ⟨w.heap.size, 0, none⟩ = some (.slice B4 m4 d4) := by rw [c4.cell]; rfl
    have g1 : w4.cell? ⟨w.heap.size, 1, none⟩ = some (.int .i64 ((bs.length + k : Nat) : Int)) := by rw [c4.cell]; rfl
    have g2 : w4.cell? ⟨w.heap.size + 1, 0, none⟩ = some (.slice none 0 0) := by rw [r1.cell]; rfl
    have g3 : w4.cell? ⟨w.heap.size + 1, 1, none⟩ = some (.int .i64 0) := by rw [r1.cell]; rfl
    have g4 := r1.frozen 0
    have g5 := r1.frozen 1
    go_wp2
    refine bodyPost_ret (v := .tuple #[.agg #[.slice B4 m4 d4, .int .i64 ((bs.length + k : Nat) : Int)], .int .i64 0]) (by simp [results, Tryd.results7, go_sem, g2, g3]) rfl ⟨B4, m4, d4, rfl, ?_, ?_⟩
    · have hne : blockOf B4 ≠ some (w.heap.size + 1) := own4.ne_blk r1 (by decide)
      have ho : Own ((w4.setCell ⟨w.heap.size + 1, 0, none⟩ (.slice B4 m4 d4)).setCell ⟨w.heap.size + 1, 1, none⟩ (.int .i64 ((bs.length + k : Nat) : Int))) w1.heap.size 5 .u8 B4 m4 d4 (pack (bs ++ lowBits v k)) := (own4.frm (S := fun k => k = w.heap.size + 1) (((Frm.refl (fun k => k = w.heap.size + 1) w4).setCell (p := ⟨w.heap.size + 1, 0, none⟩) (fun _ => rfl) _).setCell (p := ⟨w.heap.size + 1, 1, none⟩) (fun _ => rfl) _) (fun k e hk => hne (by rw [e, hk])))
      exact ⟨ho.rowC.2, ho.rowIn.mono (by omega) (Nat.le_refl _)⟩
    · exact (r2.setCell (p := ⟨w.heap.size + 1, 0, none⟩) (by show w.heap.size ≤ w.heap.size + 1; omega) _).setCell (p := ⟨w.heap.size + 1, 1, none⟩) (by show w.heap.size ≤ w.heap.size + 1; omega) _

end Go.Proofs.YtpohaikbbfochaaDoor


/-
  Contract of Get.
-/
namespace Go.Proofs.YtpohaikbbfochaaDoor
open Go.RowKit Cad Cad.Bit
set_option linter.unusedVariables false

/-- What Get returns: the number, the error. -/
def getR (bs : List Bool) (p n : Int) : Nat × Int :=
  if n < 0 ∨ 64 < n ∨ p < 0 then (0, 2) else if (bs.length : Int) - n < p then (0, 24) else (bval ((bs.drop p.toNat).take n.toNat), 0)

set_option maxHeartbeats 1000000 in
theorem bget_any (A : Option Addr) (m c : Nat) (bs : List Bool) (p n : Int) (w : World) (ha : RowC .u8 w A m c (pack bs)) (hl : bs.length ≤ 330000) (hp : -9223372036854775808 ≤ p ∧ p ≤ 9223372036854775807) (hn : -9223372036854775808 ≤ n ∧ n ≤ 9223372036854775807) :
    Calls Tryd.prog 15 #[.agg #[.slice A m c, .int .i64 (bs.length : Nat)], .int .i64 p, .int .i64 n] w fun e w' => e = .returned (.tuple #[.int .u64 ((getR bs p n).1 : Nat), .int .i64 (getR bs p n).2]) ∧ Below w.heap.size w w' := by
  have hcap := ha.2
  have z2 : Below w.heap.size w (w.alloc (.cells #[.slice A m c, .int .i64 ((bs.length : Nat) : Int)] 26)) := (Below.refl _ _).alloc (Nat.le_refl _) _
  have z3 := ha.row.alloc (.cells #[.slice A m c, .int .i64 ((bs.length : Nat) : Int)] 26)
  have z0 : Blk (w.alloc (.cells #[.slice A m c, .int .i64 ((bs.length : Nat) : Int)] 26)) w.heap.size 26 [.slice A m c, .int .i64 ((bs.length : Nat) : Int)] := Blk.new w _ _
  have Z0 := Lib.hid z0; have Z2 := Lib.hid z2; have Z3 := Lib.hid z3
  clear z0 z2 z3
  by_cases h1 : n < 0 ∨ 64 < n ∨ p < 0
  · have HR : Hid (getR bs p n = (0, 2)) := by unfold getR; rw [if_pos h1]; rfl
    have h1' : n < 0 ∨ (¬ n < 0 ∧ 64 < n) ∨ (¬ n < 0 ∧ ¬ 64 < n ∧ p < 0) := by omega
    clear h1
    rcases h1' with h | ⟨h, h'⟩ | ⟨h, h', h''⟩
    all_goals
      go_enter Tryd.func15, Tryd.ntmps15
      go_wp2_with fail
      refine (bcheck_ok A m c bs _ Z3.out (by omega) hl).mono ?_
      rintro e w1 ⟨rfl, b1⟩
      go_wp2
      go_ret2
      exact ⟨by rw [HR.out]; rfl, Z2.out.trans (b1.mono Z2.out.size)⟩
  · obtain ⟨k, rfl⟩ := Int.eq_ofNat_of_zero_le (by omega : 0 ≤ n)
    obtain ⟨i, rfl⟩ := Int.eq_ofNat_of_zero_le (by omega : 0 ≤ p)
    have hk : k ≤ 64 := by omega
    by_cases h2 : (bs.length : Int) - (k : Int) < (i : Int)
    · have HR : Hid (getR bs (i : Nat) (k : Nat) = (0, 24)) := by unfold getR; rw [if_neg (by omega), if_pos h2]; rfl
      clear h1
      go_enter Tryd.func15, Tryd.ntmps15
      go_wp2_with fail
      refine (bcheck_ok A m c bs _ Z3.out (by omega) hl).mono ?_
      rintro e w1 ⟨rfl, b1⟩
      have y0 := Z0.out.below b1 (by simp)
      have q1 : w1.cell? ⟨w.heap.size, 1, none⟩ = some (.int .i64 ((bs.length : Nat) : Int)) := by rw [y0.cell]; rfl
      go_wp2
      go_ret2
      exact ⟨by rw [HR.out]; rfl, Z2.out.trans (b1.mono Z2.out.size)⟩
    · have HR : Hid (getR bs (i : Nat) (k : Nat) = (bval ((bs.drop i).take k), 0)) := by unfold getR; rw [if_neg (by omega), if_neg h2]; rfl
      clear h1
      go_enter Tryd.func15, Tryd.ntmps15
      go_wp2_with fail
      refine (bcheck_ok A m c bs _ Z3.out (by omega) hl).mono ?_
      rintro e w1 ⟨rfl, b1⟩
      have y0 := Z0.out.below b1 (by simp)
      have q0 : w1.cell? ⟨w.heap.size, 0, none⟩ = some (.slice A m c) := by rw [y0.cell]; rfl
      have q1 : w1.cell? ⟨w.heap.size, 1, none⟩ = some (.int .i64 ((bs.length : Nat) : Int)) := by rw [y0.cell]; rfl
      go_wp2_with fail
      refine (get_any A m c _ bs i k w1 (Z3.out.below b1) (by omega) (by omega) hl hk).mono ?_
      rintro e w2 ⟨rfl, b2⟩
      have bb := Z2.out.trans (b1.mono Z2.out.size)
      go_wp2
      go_ret2
      exact ⟨by rw [HR.out]; rfl, bb.trans (b2.mono bb.size)⟩

end Go.Proofs.YtpohaikbbfochaaDoor

/-
  Contracts of Put, Get and Check of bits, in the form in which callers use them.
-/
namespace Go.Proofs.YtpohaikbbfochaaDoor
open Go.RowKit Cad Cad.Bit
set_option linter.unusedVariables false

theorem bput_ret (A : Option Addr) (m c : Nat) (bs : List Bool) (v n : Int) (w : World) (ha : Row .u8 w A m (pack bs)) (hc : m ≤ c ∧ c ≤ 9223372036854775807) (hl : bs.length ≤ 330000) (hv : 0 ≤ v ∧ v < 18446744073709551616) (hn : -9223372036854775808 ≤ n ∧ n ≤ 9223372036854775807) :
    Calls Tryd.prog 7 #[.agg #[.slice A m c, .int .i64 (bs.length : Nat)], .int .u64 v, .int .i64 n] w (RetB w (putR bs v.toNat n).1 (putR bs v.toNat n).2) := by
  have h := bput_any A m c bs v.toNat n w ⟨ha, hc⟩ hl (by omega) hn
  rw [Int.toNat_of_nonneg hv.1] at h
  exact h.mono fun e w' ⟨x, he, hx, hb⟩ => RetB.of he hx hb
theorem putR_ok {bs : List Bool} {v : Nat} {n : Int} (h0 : 0 ≤ n) (h1 : n ≤ 64) (h2 : v < 2 ^ n.toNat) (h3 : bs.length + n.toNat ≤ 330000) : putR bs v n = (bs ++ lowBits v n.toNat, 0) := by
  unfold putR; rw [if_neg (by omega), if_neg (by omega), if_neg (by omega)]
theorem bput_ok (A : Option Addr) (m c : Nat) (bs : List Bool) (v n : Int) (w : World) (ha : Row .u8 w A m (pack bs)) (hc : m ≤ c ∧ c ≤ 9223372036854775807) (hv : 0 ≤ v ∧ v < 18446744073709551616) (hn : 0 ≤ n ∧ n ≤ 64) (hf : v.toNat < 2 ^ n.toNat) (hr : bs.length + n.toNat ≤ 330000) :
    Calls Tryd.prog 7 #[.agg #[.slice A m c, .int .i64 (bs.length : Nat)], .int .u64 v, .int .i64 n] w (RetB w (bs ++ lowBits v.toNat n.toNat) 0) := by
  have h := bput_ret A m c bs v n w ha hc (by omega) hv (by omega)
  rw [putR_ok hn.1 hn.2 hf hr] at h
  exact h

theorem bget_ret (A : Option Addr) (m c : Nat) (bs : List Bool) (p n : Int) (w : World) (ha : Row .u8 w A m (pack bs)) (hc : m ≤ c ∧ c ≤ 9223372036854775807) (hl : bs.length ≤ 330000) (hp : -9223372036854775808 ≤ p ∧ p ≤ 9223372036854775807) (hn : -9223372036854775808 ≤ n ∧ n ≤ 9223372036854775807) :
    Calls Tryd.prog 15 #[.agg #[.slice A m c, .int .i64 (bs.length : Nat)], .int .i64 p, .int .i64 n] w fun e w' => e = .returned (.tuple #[.int .u64 ((getR bs p n).1 : Nat), .int .i64 (getR bs p n).2]) ∧ Below w.heap.size w w' :=
  bget_any A m c bs p n w ⟨ha, hc⟩ hl hp hn
theorem getR_ok {bs : List Bool} {p n : Int} (hp : 0 ≤ p) (h0 : 0 ≤ n) (h1 : n ≤ 64) (h2 : p ≤ (bs.length : Int) - n) : getR bs p n = (bval ((bs.drop p.toNat).take n.toNat), 0) := by
  unfold getR; rw [if_neg (by omega), if_neg (by omega)]
theorem bget_ok (A : Option Addr) (m c : Nat) (bs : List Bool) (p n : Int) (w : World) (ha : Row .u8 w A m (pack bs)) (hc : m ≤ c ∧ c ≤ 9223372036854775807) (hl : bs.length ≤ 330000) (hp : 0 ≤ p) (hn : 0 ≤ n ∧ n ≤ 64) (hr : p ≤ (bs.length : Int) - n) :
    Calls Tryd.prog 15 #[.agg #[.slice A m c, .int .i64 (bs.length : Nat)], .int .i64 p, .int .i64 n] w fun e w' => ∃ y : Nat, e = .returned (.tuple #[.int .u64 (y : Int), .int .i64 0]) ∧ Hid (y = bval ((bs.drop p.toNat).take n.toNat)) ∧ Below w.heap.size w w' := by
  have h := bget_ret A m c bs p n w ha hc hl (by omega) (by omega)
  rw [getR_ok hp hn.1 hn.2 hr] at h
  exact h.mono fun e w' ⟨he, hb⟩ => ⟨_, he, Lib.hid rfl, hb⟩

end Go.Proofs.YtpohaikbbfochaaDoor
