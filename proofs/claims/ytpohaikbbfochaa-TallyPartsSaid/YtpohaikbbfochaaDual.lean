/-
  The code with two levels, plainly: states, learning, codes, reading; lists of numbers.
-/
import Derived.Test.YtpohaikbbfochaaCode
namespace Cad.Code
open Go Cad Cad.Bit
set_option linter.unusedVariables false

/-- A state. -/
structure Dual where
  k0 : Nat
  k1 : Nat
  s0 : Nat
  s1 : Nat
deriving DecidableEq
def Dual.Ok (d : Dual) : Prop := d.k0 ≤ 24 ∧ d.k1 ≤ 24 ∧ d.s0 ≤ 68719476735 ∧ d.s1 ≤ 68719476735
instance (d : Dual) : Decidable d.Ok := by unfold Dual.Ok; infer_instance
def start : Dual := ⟨10, 10, 16384, 16384⟩
theorem start_ok : start.Ok := by decide

/-- A Sum that has learnt a number. -/
def sumOf (s n : Nat) : Nat := s + n - s / 16
/-- A K, by its Sum. -/
def kOf (k s : Nat) : Nat := if 0 < k ∧ s < 16 * 2 ^ k then k - 1 else if k < 24 ∧ 32 * 2 ^ k < s then k + 1 else k
def learn (d : Dual) (v : Nat) : Dual :=
  if v < 2 ^ d.k0 then ⟨kOf d.k0 (sumOf d.s0 v), d.k1, sumOf d.s0 v, d.s1⟩
  else ⟨kOf d.k0 (sumOf d.s0 v), kOf d.k1 (sumOf d.s1 (v - 2 ^ d.k0)), sumOf d.s0 v, sumOf d.s1 (v - 2 ^ d.k0)⟩
theorem sumOf_le {s n : Nat} (hs : s ≤ 68719476735) (hn : n < 4294967296) : sumOf s n ≤ 68719476735 := by unfold sumOf; omega
theorem kOf_le {k : Nat} (s : Nat) (hk : k ≤ 24) : kOf k s ≤ 24 := by
  unfold kOf
  split
  · omega
  · split <;> omega
theorem learn_ok {d : Dual} {v : Nat} (h : d.Ok) (hv : v < 4294967296) : (learn d v).Ok := by
  obtain ⟨h0, h1, h2, h3⟩ := h
  unfold learn
  split
  · exact ⟨kOf_le _ h0, h1, sumOf_le h2 hv, h3⟩
  · exact ⟨kOf_le _ h0, kOf_le _ h1, sumOf_le h2 hv, sumOf_le h3 (Nat.lt_of_le_of_lt (Nat.sub_le _ _) hv)⟩

/-- The code of a number in a state. -/
def codeD (d : Dual) (v : Nat) : List Bool := if v < 2 ^ d.k0 then false :: lowBits v d.k0 else true :: rice (v - 2 ^ d.k0) d.k1
def lenD (d : Dual) (v : Nat) : Nat := if v < 2 ^ d.k0 then 1 + d.k0 else 1 + riceLen (v - 2 ^ d.k0) d.k1
theorem codeD_len (d : Dual) (v : Nat) : (codeD d v).length = lenD d v := by
  unfold codeD lenD
  split
  · rw [List.length_cons, lowBits_len]; omega
  · rw [List.length_cons, rice_len]; omega
theorem lenD_le {d : Dual} (h : d.Ok) (v : Nat) : 1 ≤ lenD d v ∧ lenD d v ≤ 81 := by
  have h0 := h.1
  have := rice_len_le (v - 2 ^ d.k0) d.k1 h.2.1
  unfold lenD
  split <;> omega

def readD (l : List Bool) (d : Dual) : Got :=
  match l with
  | [] => .err 24
  | false :: t => if t.length < d.k0 then .err 24 else .ok (bval (t.take d.k0)) (1 + d.k0)
  | true :: t =>
    match readR t d.k1 with
    | .err e => .err e
    | .ok v n => if 4294967296 ≤ v + 2 ^ d.k0 then .err 12 else .ok (v + 2 ^ d.k0) (1 + n)

theorem readD_code {d : Dual} {v : Nat} (hv : v < 4294967296) (t : List Bool) : readD (codeD d v ++ t) d = .ok v (lenD d v) := by
  unfold codeD lenD
  by_cases h : v < 2 ^ d.k0
  · rw [if_pos h, if_pos h, List.cons_append, readD, if_neg (by rw [List.length_append, lowBits_len]; omega), List.take_left' (lowBits_len _ _), bval_lowBits_lt h]
  · rw [if_neg h, if_neg h, List.cons_append, readD, readR_rice (Nat.lt_of_le_of_lt (Nat.sub_le _ _) hv)]
    dsimp only
    rw [if_neg (by omega), show v - 2 ^ d.k0 + 2 ^ d.k0 = v by omega]
theorem readD_lt {l : List Bool} {d : Dual} {v n : Nat} (hd : d.Ok) (h : readD l d = .ok v n) : v < 4294967296 := by
  unfold readD at h
  split at h
  · cases h
  · rename_i t
    split at h
    · cases h
    · injection h with h _
      have := bval_lt (t.take d.k0)
      have h2 : 2 ^ (t.take d.k0).length ≤ 2 ^ 24 := Nat.pow_le_pow_right (by omega) (by rw [List.length_take]; have := hd.1; omega)
      have : (2 : Nat) ^ 24 = 16777216 := by decide
      omega
  · split at h
    · cases h
    · split at h
      · cases h
      · injection h with h _; omega
theorem readD_inv {l : List Bool} {d : Dual} {v n : Nat} (hd : d.Ok) (h : readD l d = .ok v n) : n = lenD d v ∧ ∃ t, l = codeD d v ++ t := by
  unfold readD at h
  split at h
  · cases h
  · rename_i t
    split at h
    · cases h
    · rename_i hl
      injection h with h1 h2
      have hb := bval_lt (t.take d.k0)
      rw [List.length_take, Nat.min_eq_left (by omega), h1] at hb
      refine ⟨by unfold lenD; rw [if_pos hb, h2], t.drop d.k0, ?_⟩
      unfold codeD
      have e := lowBits_bval (t.take d.k0)
      rw [List.length_take, Nat.min_eq_left (by omega), h1] at e
      rw [if_pos hb, e, List.cons_append, List.take_append_drop]
  · rename_i t
    split at h
    · cases h
    · rename_i v' n' hr
      split at h
      · cases h
      · injection h with h1 h2
        obtain ⟨_, h3, r, rfl⟩ := readR_inv hr
        have hv : v - 2 ^ d.k0 = v' := by omega
        refine ⟨by unfold lenD; rw [if_neg (by omega), hv, ← h3, h2], r, ?_⟩
        unfold codeD
        rw [if_neg (by omega), hv]; rfl
theorem readD_err {l : List Bool} {d : Dual} {e : Nat} (hd : d.Ok) (h : readD l d = .err e) : e = 24 ∨ e = 12 ∧ 81 ≤ l.length := by
  unfold readD at h
  split at h
  · injection h with h; exact .inl h.symm
  · split at h
    · injection h with h; exact .inl h.symm
    · cases h
  · rename_i t
    split at h
    · rename_i e' hr
      injection h with h
      subst h
      rcases readR_err hr with h | ⟨h, h2⟩
      · exact .inl h
      · exact .inr ⟨h, by rw [List.length_cons]; omega⟩
    · rename_i v' n' hr
      split at h
      · injection h with h
        refine .inr ⟨h.symm, ?_⟩
        obtain ⟨_, h3, r, rfl⟩ := readR_inv hr
        rw [List.length_cons, List.length_append, rice_len]
        have h24 : (2 : Nat) ^ 24 = 16777216 := by decide
        have p0 : 2 ^ d.k0 ≤ 2 ^ 24 := Nat.pow_le_pow_right (by omega) hd.1
        have p1 : 2 ^ d.k1 ≤ 2 ^ 24 := Nat.pow_le_pow_right (by omega) hd.2.1
        have hq : 48 ≤ v' / 2 ^ d.k1 := (Nat.le_div_iff_mul_le (Nat.two_pow_pos _)).2 (by omega)
        have : riceLen v' d.k1 = 80 := by unfold riceLen; rw [if_neg (by omega)]
        omega
      · cases h
theorem readD_more {l : List Bool} {d : Dual} {v n : Nat} (hd : d.Ok) (h : readD l d = .ok v n) (t : List Bool) : readD (l ++ t) d = .ok v n := by
  have hv := readD_lt hd h
  obtain ⟨rfl, r, rfl⟩ := readD_inv hd h
  rw [List.append_assoc, readD_code hv]
theorem readD_form {l : List Bool} {d : Dual} (hd : d.Ok) (h : readD l d = .err 12) (t : List Bool) : readD (l ++ t) d = .err 12 := by
  unfold readD at h ⊢
  split at h
  · injection h with h; omega
  · split at h
    · injection h with h; omega
    · cases h
  · rename_i t'
    rw [List.cons_append]
    dsimp only
    split at h
    · rename_i e' hr
      injection h with h
      subst h
      rw [readR_form hr]
    · rename_i v' n' hr
      rw [readR_more hd.2.1 hr]
      dsimp only
      split at h
      · rename_i h2; rw [if_pos h2]
      · cases h
theorem readD_cut {d : Dual} {v i : Nat} (hd : d.Ok) (hv : v < 4294967296) (hi : i < lenD d v) : readD ((codeD d v).take i) d = .err 24 := by
  have h3 := readD_code (d := d) hv []
  rw [List.append_nil] at h3
  cases h : readD ((codeD d v).take i) d with
  | ok v' n =>
    exfalso
    have h2 := readD_more hd h ((codeD d v).drop i)
    rw [List.take_append_drop, h3] at h2
    injection h2 with h4 h5
    obtain ⟨h6, t, ht⟩ := readD_inv hd h
    have := congrArg List.length ht
    rw [List.length_append, List.length_take, codeD_len, codeD_len] at this
    omega
  | err e =>
    rcases readD_err hd h with rfl | ⟨rfl, _⟩
    · rfl
    · exfalso
      have h2 := readD_form hd h ((codeD d v).drop i)
      rw [List.take_append_drop, h3] at h2
      cases h2

/-- The codes of numbers, one behind the other; the state behind them. -/
def codeL : Dual → List Nat → List Bool
  | _, [] => []
  | d, v :: t => codeD d v ++ codeL (learn d v) t
def afterL : Dual → List Nat → Dual
  | d, [] => d
  | d, v :: t => afterL (learn d v) t
def lensL : Dual → List Nat → List Nat
  | _, [] => []
  | d, v :: t => lenD d v :: lensL (learn d v) t
theorem codeL_append (d : Dual) (a b : List Nat) : codeL d (a ++ b) = codeL d a ++ codeL (afterL d a) b := by
  induction a generalizing d with
  | nil => rfl
  | cons v t ih => rw [List.cons_append, codeL, codeL, afterL, ih, List.append_assoc]
theorem afterL_append (d : Dual) (a b : List Nat) : afterL d (a ++ b) = afterL (afterL d a) b := by
  induction a generalizing d with
  | nil => rfl
  | cons v t ih => rw [List.cons_append, afterL, afterL, ih]
theorem lensL_append (d : Dual) (a b : List Nat) : lensL d (a ++ b) = lensL d a ++ lensL (afterL d a) b := by
  induction a generalizing d with
  | nil => rfl
  | cons v t ih => rw [List.cons_append, lensL, lensL, afterL, ih, List.cons_append]
theorem lensL_len (d : Dual) (a : List Nat) : (lensL d a).length = a.length := by
  induction a generalizing d with
  | nil => rfl
  | cons v t ih => rw [lensL, List.length_cons, List.length_cons, ih]
theorem codeL_len (d : Dual) (a : List Nat) : (codeL d a).length = (lensL d a).sum := by
  induction a generalizing d with
  | nil => rfl
  | cons v t ih => rw [codeL, lensL, List.length_append, codeD_len, List.sum_cons, ih]
def Small (l : List Nat) : Prop := ∀ v ∈ l, v < 4294967296
theorem afterL_ok {d : Dual} (hd : d.Ok) {l : List Nat} (hl : Small l) : (afterL d l).Ok := by
  induction l generalizing d with
  | nil => exact hd
  | cons v t ih => exact ih (learn_ok hd (hl v (List.mem_cons_self ..))) fun x hx => hl x (List.mem_cons_of_mem _ hx)
theorem codeL_le {d : Dual} (hd : d.Ok) {l : List Nat} (hl : Small l) : l.length ≤ (codeL d l).length ∧ (codeL d l).length ≤ 81 * l.length := by
  induction l generalizing d with
  | nil => exact ⟨Nat.le_refl _, Nat.le_refl _⟩
  | cons v t ih =>
    have h1 := ih (learn_ok hd (hl v (List.mem_cons_self ..))) fun x hx => hl x (List.mem_cons_of_mem _ hx)
    have h2 := lenD_le hd v
    rw [codeL, List.length_append, codeD_len, List.length_cons]; omega

end Cad.Code
