/-
  Bits, plainly: a list of truth values, the lowest first; its bytes; numbers as bits.
-/
import Derived.Test.YtpohaikbbfochaaDoorKit
namespace Cad.Bit
open Go Go.RowKit Cad
set_option linter.unusedVariables false

/-- The n lowest bits of a number. -/
def lowBits (v : Nat) : Nat → List Bool
  | 0 => []
  | n + 1 => decide (v % 2 = 1) :: lowBits (v / 2) n
/-- The number that bits are. -/
def bval : List Bool → Nat
  | [] => 0
  | b :: t => (if b then 1 else 0) + 2 * bval t

@[simp] theorem lowBits_len : ∀ (n v : Nat), (lowBits v n).length = n
  | 0, _ => rfl
  | n + 1, v => by simp [lowBits, lowBits_len n]
theorem bval_lt : ∀ l : List Bool, bval l < 2 ^ l.length
  | [] => by simp [bval]
  | b :: t => by
    have := bval_lt t
    simp only [bval, List.length_cons, Nat.pow_succ]
    split <;> omega
theorem bval_lowBits : ∀ (n v : Nat), bval (lowBits v n) = v % 2 ^ n
  | 0, v => by simp [lowBits, bval, Nat.mod_one]
  | n + 1, v => by
    have h : v % 2 ^ (n + 1) = v % 2 + 2 * (v / 2 % 2 ^ n) := by rw [Nat.pow_succ, Nat.mul_comm, Nat.mod_mul]
    rw [lowBits, bval, bval_lowBits n, h]
    congr 1
    rcases Nat.mod_two_eq_zero_or_one v with e | e <;> simp [e]
theorem bval_lowBits_lt {n v : Nat} (h : v < 2 ^ n) : bval (lowBits v n) = v := by rw [bval_lowBits, Nat.mod_eq_of_lt h]
theorem lowBits_bval : ∀ l : List Bool, lowBits (bval l) l.length = l
  | [] => rfl
  | b :: t => by
    have h1 : ((if b then 1 else 0) + 2 * bval t) / 2 = bval t := by cases b <;> simp <;> omega
    have h2 : decide (((if b then 1 else 0) + 2 * bval t) % 2 = 1) = b := by
      cases b
      · simp
      · simp
    simp only [List.length_cons, lowBits, bval]
    rw [h1, h2, lowBits_bval t]
theorem bval_append : ∀ a b : List Bool, bval (a ++ b) = bval a + 2 ^ a.length * bval b
  | [], b => by simp [bval]
  | x :: t, b => by
    rw [List.cons_append, bval, bval, bval_append t b, List.length_cons, Nat.pow_succ, Nat.mul_add, ← Nat.mul_assoc, Nat.mul_comm 2 (2 ^ t.length)]
    omega
theorem bval_inj {a b : List Bool} (hl : a.length = b.length) (h : bval a = bval b) : a = b := by
  rw [← lowBits_bval a, ← lowBits_bval b, h, hl]
theorem lowBits_add : ∀ (n m v : Nat), lowBits v (n + m) = lowBits v n ++ lowBits (v / 2 ^ n) m
  | 0, m, v => by simp [lowBits]
  | n + 1, m, v => by
    rw [show n + 1 + m = (n + m) + 1 by omega, lowBits, lowBits, lowBits_add n m, List.cons_append, Nat.pow_succ, Nat.div_div_eq_div_mul, Nat.mul_comm 2]
theorem lowBits_mod {n m v : Nat} (h : n ≤ m) : lowBits (v % 2 ^ m) n = lowBits v n := by
  apply bval_inj (by simp)
  rw [bval_lowBits, bval_lowBits, Nat.mod_mod_of_dvd _ (Nat.pow_dvd_pow 2 h)]

theorem bval_take (l : List Bool) (n : Nat) : bval (l.take n) = bval l % 2 ^ n := by
  by_cases h : n ≤ l.length
  · conv => rhs; rw [← List.take_append_drop n l, bval_append, List.length_take, Nat.min_eq_left h, Nat.add_mul_mod_self_left]
    have := bval_lt (l.take n)
    rw [List.length_take, Nat.min_eq_left h] at this
    rw [Nat.mod_eq_of_lt this]
  · rw [List.take_of_length_le (by omega), Nat.mod_eq_of_lt]
    exact Nat.lt_of_lt_of_le (bval_lt l) (Nat.pow_le_pow_right (by omega) (by omega))
theorem bval_drop (l : List Bool) (n : Nat) : bval (l.drop n) = bval l / 2 ^ n := by
  by_cases h : n ≤ l.length
  · conv => rhs; rw [← List.take_append_drop n l, bval_append, List.length_take, Nat.min_eq_left h]
    have := bval_lt (l.take n)
    rw [List.length_take, Nat.min_eq_left h] at this
    rw [Nat.add_mul_div_left _ _ (by exact Nat.two_pow_pos n), Nat.div_eq_of_lt this, Nat.zero_add]
  · rw [List.drop_of_length_le (by omega)]
    symm
    exact Nat.div_eq_of_lt (Nat.lt_of_lt_of_le (bval_lt l) (Nat.pow_le_pow_right (by omega) (by omega)))
theorem bval_replicate_false (n : Nat) : bval (List.replicate n false) = 0 := by
  induction n with
  | zero => rfl
  | succ n ih => rw [List.replicate_succ, bval, ih]; rfl
theorem bval_replicate_true (n : Nat) : bval (List.replicate n true) = 2 ^ n - 1 := by
  induction n with
  | zero => rfl
  | succ n ih =>
    have := Nat.two_pow_pos n
    rw [List.replicate_succ, bval, ih, Nat.pow_succ]; simp; omega

/-- The byte with an index. -/
def byteAt (bs : List Bool) (i : Nat) : Nat := bval ((bs.drop (8 * i)).take 8)
/-- How many bytes n bits have. -/
def bytesFor (n : Nat) : Nat := (n + 7) / 8
/-- The bytes of bits. -/
def pack (bs : List Bool) : List Int := (List.range (bytesFor bs.length)).map fun i => ((byteAt bs i : Nat) : Int)

theorem pack_len (bs : List Bool) : (pack bs).length = bytesFor bs.length := by simp [pack]
theorem nth_pack {bs : List Bool} {i : Nat} (h : i < bytesFor bs.length) : nth (pack bs) i = (byteAt bs i : Nat) := nth_map_range h
theorem byteAt_lt (bs : List Bool) (i : Nat) : byteAt bs i < 256 := by
  unfold byteAt
  have h := bval_lt ((bs.drop (8 * i)).take 8)
  have h2 : ((bs.drop (8 * i)).take 8).length ≤ 8 := List.length_take_le _ _
  exact Nat.lt_of_lt_of_le h (Nat.le_trans (Nat.pow_le_pow_right (by omega) h2) (by decide))
theorem byteAt_out {bs : List Bool} {i : Nat} (h : bs.length ≤ 8 * i) : byteAt bs i = 0 := by
  unfold byteAt; rw [List.drop_of_length_le h]; rfl
theorem pack_u8 (bs : List Bool) : Within 0 255 (pack bs) := fun x hx => by
  obtain ⟨i, _, rfl⟩ := List.mem_map.1 hx
  have := byteAt_lt bs i
  omega
theorem pack_nil : pack [] = [] := rfl

theorem byteAt_append_left {a b : List Bool} {i : Nat} (h : 8 * i + 8 ≤ a.length) : byteAt (a ++ b) i = byteAt a i := by
  unfold byteAt
  rw [List.drop_append_of_le_length (by omega), List.take_append_of_le_length (by rw [List.length_drop]; omega)]
/-- The byte in which new bits begin. -/
theorem byteAt_append_at {a b : List Bool} (hb : a.length % 8 + b.length ≤ 8) : byteAt (a ++ b) (a.length / 8) = byteAt a (a.length / 8) + 2 ^ (a.length % 8) * bval b := by
  unfold byteAt
  have h8 : 8 * (a.length / 8) ≤ a.length := by omega
  have hl : (a.drop (8 * (a.length / 8))).length = a.length % 8 := by rw [List.length_drop]; omega
  rw [List.drop_append_of_le_length h8, List.take_of_length_le (by rw [List.length_append, hl]; omega), bval_append, hl, List.take_of_length_le (by omega)]
theorem byteAt_last_lt (a : List Bool) : byteAt a (a.length / 8) < 2 ^ (a.length % 8) := by
  unfold byteAt
  have hl : (a.drop (8 * (a.length / 8))).length = a.length % 8 := by rw [List.length_drop]; omega
  have := bval_lt ((a.drop (8 * (a.length / 8))).take 8)
  rw [List.length_take, hl, Nat.min_eq_right (by omega)] at this
  exact this

/-- A part of a byte, as bits that stand there. -/
theorem byte_part {bs : List Bool} {p t : Nat} (ht : p % 8 + t ≤ 8) (hp : p + t ≤ bs.length) : byteAt bs (p / 8) / 2 ^ (p % 8) % 2 ^ t = bval ((bs.drop p).take t) := by
  unfold byteAt
  rw [← bval_drop, ← bval_take, List.drop_take, List.take_take, List.drop_drop]
  congr 2
  · rw [Nat.min_eq_left (by omega)]
  · congr 1; omega

theorem pack_inj {a b : List Bool} (hl : a.length = b.length) (h : pack a = pack b) : a = b := by
  apply List.ext_getElem hl
  intro i h1 h2
  have hi : i / 8 < bytesFor a.length := by unfold bytesFor; omega
  have e : byteAt a (i / 8) = byteAt b (i / 8) := by
    have this : nth (pack a) (i / 8) = nth (pack b) (i / 8) := by rw [h]
    rw [nth_pack hi, nth_pack (by rw [← hl]; exact hi)] at this
    omega
  have p1 := byte_part (bs := a) (p := i) (t := 1) (by omega) (by omega)
  have p2 := byte_part (bs := b) (p := i) (t := 1) (by omega) (by omega)
  rw [e, p2] at p1
  have q1 : (a.drop i).take 1 = [a[i]] := by rw [List.drop_eq_getElem_cons h1]; rfl
  have q2 : (b.drop i).take 1 = [b[i]] := by rw [List.drop_eq_getElem_cons h2]; rfl
  rw [q1, q2] at p1
  have := bval_inj (by rfl) p1
  simpa using this.symm

theorem bytesFor_append {a b : List Bool} (h0 : 0 < b.length) (h : a.length % 8 + b.length ≤ 8) : bytesFor (a ++ b).length = a.length / 8 + 1 := by
  unfold bytesFor; rw [List.length_append]; omega
/-- Bits behind bits: within one byte that stands already. -/
theorem pack_append_in {a b : List Bool} (h1 : 0 < a.length % 8) (h0 : 0 < b.length) (h : a.length % 8 + b.length ≤ 8) :
    (pack a).set (a.length / 8) ((byteAt a (a.length / 8) + 2 ^ (a.length % 8) * bval b : Nat) : Int) = pack (a ++ b) := by
  have hn : bytesFor a.length = a.length / 8 + 1 := by unfold bytesFor; omega
  refine list_ext (by rw [List.length_set, pack_len, pack_len, bytesFor_append h0 h, hn]) fun j hj => ?_
  rw [List.length_set, pack_len, hn] at hj
  rw [nth_set (by rw [pack_len]; omega), nth_pack (bs := a ++ b) (by rw [bytesFor_append h0 h]; exact hj)]
  by_cases e : a.length / 8 = j
  · subst e; rw [if_pos rfl, byteAt_append_at h]
  · rw [if_neg e, nth_pack (by omega), byteAt_append_left (by omega)]
/-- Bits behind bits: in a new byte. -/
theorem pack_append_new {a b : List Bool} (h1 : a.length % 8 = 0) (h0 : 0 < b.length) (h : b.length ≤ 8) :
    pack a ++ [((bval b : Nat) : Int)] = pack (a ++ b) := by
  have hn : bytesFor a.length = a.length / 8 := by unfold bytesFor; omega
  have hm := bytesFor_append (a := a) h0 (by omega)
  refine list_ext (by rw [List.length_append, pack_len, pack_len, hm, hn]; rfl) fun j hj => ?_
  rw [List.length_append, pack_len, hn] at hj
  have hj' : j < a.length / 8 + 1 := hj
  rw [nth_pack (bs := a ++ b) (by rw [hm]; exact hj')]
  by_cases e : j < a.length / 8
  · rw [nth_append_left (by rw [pack_len, hn]; exact e), nth_pack (by rw [hn]; exact e), byteAt_append_left (by omega)]
  · obtain rfl : j = a.length / 8 := by omega
    rw [nth_append_right (by rw [pack_len, hn]; exact Nat.le_refl _), pack_len, hn, Nat.sub_self, byteAt_append_at (by omega), byteAt_out (by omega), h1]
    show ((bval b : Nat) : Int) = _
    congr 1; simp

/-- What bytes are, as bits. -/
def unpack (bytes : List Int) : List Bool := bytes.flatMap fun b => lowBits b.toNat 8
theorem unpack_len (bytes : List Int) : (unpack bytes).length = 8 * bytes.length := by
  induction bytes with
  | nil => rfl
  | cons b t ih => rw [unpack, List.flatMap_cons, List.length_append, lowBits_len]; rw [unpack] at ih; rw [ih, List.length_cons]; omega
theorem unpack_drop : ∀ (bytes : List Int) (i : Nat), (unpack bytes).drop (8 * i) = unpack (bytes.drop i)
  | bytes, 0 => by simp
  | [], i + 1 => by simp [unpack]
  | b :: t, i + 1 => by
    rw [unpack, List.flatMap_cons, show 8 * (i + 1) = 8 + 8 * i by omega, ← List.drop_drop, List.drop_left' (lowBits_len 8 _)]
    exact unpack_drop t i
theorem byteAt_unpack {bytes : List Int} {i : Nat} (h : i < bytes.length) (hb : Within 0 255 bytes) : ((byteAt (unpack bytes) i : Nat) : Int) = nth bytes i := by
  unfold byteAt
  rw [unpack_drop, List.drop_eq_getElem_cons h, unpack, List.flatMap_cons, List.take_left' (lowBits_len 8 _), nth_eq h]
  have := hb _ (List.getElem_mem h)
  rw [bval_lowBits_lt (by omega)]
  omega
theorem pack_unpack {bytes : List Int} (hb : Within 0 255 bytes) : pack (unpack bytes) = bytes := by
  have hn : bytesFor (unpack bytes).length = bytes.length := by rw [unpack_len]; unfold bytesFor; omega
  refine list_ext (by rw [pack_len, hn]) fun j hj => ?_
  rw [pack_len, hn] at hj
  rw [nth_pack (by rw [hn]; exact hj), byteAt_unpack hj hb]
theorem unpack_append (a b : List Int) : unpack (a ++ b) = unpack a ++ unpack b := by simp [unpack]

/-- Bits that are valid, as the document has it: as many bytes as are needed, and what is behind the last bit is 0. -/
def Valid (bytes : List Int) (N : Int) : Prop :=
  0 ≤ N ∧ N ≤ 330000 ∧ bytes.length = bytesFor N.toNat ∧ (0 < N.toNat % 8 → nth bytes (bytes.length - 1) / 2 ^ (N.toNat % 8) = 0)
instance (bytes : List Int) (N : Int) : Decidable (Valid bytes N) := by unfold Valid; infer_instance

theorem valid_pack {bs : List Bool} (h : bs.length ≤ 330000) : Valid (pack bs) (bs.length : Nat) := by
  refine ⟨by omega, by omega, by rw [pack_len]; simp, fun h0 => ?_⟩
  rw [Int.toNat_natCast] at h0 ⊢
  have hn : bytesFor bs.length = bs.length / 8 + 1 := by unfold bytesFor; omega
  rw [pack_len, hn, Nat.add_sub_cancel, nth_pack (by omega)]
  have := byteAt_last_lt bs
  rw [show ((2 : Int) ^ (bs.length % 8)) = ((2 ^ (bs.length % 8) : Nat) : Int) by simp, ← Int.natCast_ediv, Nat.div_eq_of_lt this]; rfl
theorem valid_bits {bytes : List Int} {N : Int} (hb : Within 0 255 bytes) (h : Valid bytes N) : ∃ bs : List Bool, bytes = pack bs ∧ N = (bs.length : Nat) ∧ bs.length ≤ 330000 := by
  obtain ⟨h0, h1, h2, h3⟩ := h
  obtain ⟨n, rfl⟩ := Int.eq_ofNat_of_zero_le h0
  rw [Int.toNat_natCast] at h2 h3
  have hl : ((unpack bytes).take n).length = n := by
    rw [List.length_take, unpack_len, h2]; unfold bytesFor; omega
  refine ⟨(unpack bytes).take n, ?_, by rw [hl], by rw [hl]; omega⟩
  have hbl : bytesFor ((unpack bytes).take n).length = bytes.length := by rw [hl, h2]
  refine list_ext (by rw [pack_len, hbl]) fun j hj => ?_
  rw [nth_pack (by rw [hbl]; exact hj), ← byteAt_unpack hj hb]
  congr 1
  unfold byteAt
  by_cases hfull : 8 * j + 8 ≤ n
  · rw [List.drop_take, List.take_take, Nat.min_eq_left (by omega)]
  · -- the last byte: nothing stands behind the last bit
    have hj' : j = bytes.length - 1 := by unfold bytesFor at h2; omega
    have hr : 0 < n % 8 := by unfold bytesFor at h2; omega
    have h8j : 8 * j = n - n % 8 := by unfold bytesFor at h2; omega
    have hz := h3 hr
    rw [← hj', ← byteAt_unpack hj hb] at hz
    unfold byteAt at hz
    rw [List.drop_take, List.take_take, Nat.min_eq_right (by omega), show n - 8 * j = n % 8 by omega]
    have hz' : bval (((unpack bytes).drop (8 * j)).take 8) / 2 ^ (n % 8) = 0 := by
      have : ((2 : Int) ^ (n % 8)) = ((2 ^ (n % 8) : Nat) : Int) := by simp
      rw [this, ← Int.natCast_ediv] at hz
      exact Int.ofNat_inj.1 hz
    have hlt : bval (((unpack bytes).drop (8 * j)).take 8) < 2 ^ (n % 8) := by
      rcases Nat.div_eq_zero_iff.1 hz' with h | h
      · have := Nat.two_pow_pos (n % 8); omega
      · exact h
    have e := bval_take (((unpack bytes).drop (8 * j)).take 8) (n % 8)
    rw [Nat.mod_eq_of_lt hlt] at e
    rw [show ((unpack bytes).drop (8 * j)).take (n % 8) = (((unpack bytes).drop (8 * j)).take 8).take (n % 8) by rw [List.take_take, Nat.min_eq_left (by omega)], e]

end Cad.Bit
