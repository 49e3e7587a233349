/-
  The first ones of a slice's numbers as naturals: their codes, the state behind them, their lengths, plainly.
-/
import Derived.Test.YtpohaikbbfochaaDual
import Derived.Test.YtpohaikbbfochaaSt
namespace Cad.Code
open Go Cad Cad.Bit
set_option linter.unusedVariables false

/-- The first j of a slice's numbers. -/
def pre (xs : List Int) (j : Nat) : List Nat := (List.range j).map fun i => (nth xs i).toNat
theorem pre_zero (xs : List Int) : pre xs 0 = [] := rfl
theorem pre_next (xs : List Int) (j : Nat) : pre xs (j + 1) = pre xs j ++ [(nth xs j).toNat] := by
  unfold pre; rw [List.range_succ, List.map_append]; rfl
theorem pre_len (xs : List Int) (j : Nat) : (pre xs j).length = j := by unfold pre; simp
theorem pre_small {xs : List Int} (hx : Within 0 4294967295 xs) (j : Nat) : Small (pre xs j) := by
  intro v hv
  unfold pre at hv
  obtain ⟨i, _, rfl⟩ := List.mem_map.1 hv
  have h := hx.nth (by decide) (by decide) i
  omega
def codeP (d : Dual) (xs : List Int) (j : Nat) : List Bool := codeL d (pre xs j)
def stP (d : Dual) (xs : List Int) (j : Nat) : Dual := afterL d (pre xs j)
theorem codeP_zero (d : Dual) (xs : List Int) : codeP d xs 0 = [] := rfl
theorem stP_zero (d : Dual) (xs : List Int) : stP d xs 0 = d := rfl
theorem codeP_next (d : Dual) (xs : List Int) (j : Nat) : codeP d xs (j + 1) = codeP d xs j ++ codeD (stP d xs j) (nth xs j).toNat := by
  unfold codeP stP; rw [pre_next, codeL_append, codeL, codeL, List.append_nil]
theorem stP_next (d : Dual) (xs : List Int) (j : Nat) : stP d xs (j + 1) = learn (stP d xs j) (nth xs j).toNat := by
  unfold stP; rw [pre_next, afterL_append, afterL, afterL]
theorem stP_ok {d : Dual} (hd : d.Ok) {xs : List Int} (hx : Within 0 4294967295 xs) (j : Nat) : (stP d xs j).Ok := afterL_ok hd (pre_small hx j)
theorem codeP_le {d : Dual} (hd : d.Ok) {xs : List Int} (hx : Within 0 4294967295 xs) (j : Nat) : j ≤ (codeP d xs j).length ∧ (codeP d xs j).length ≤ 81 * j := by
  have h := codeL_le hd (pre_small hx j)
  rw [pre_len] at h; exact h
theorem codeP_split (d : Dual) (xs : List Int) (i : Nat) : ∀ n, i < n → ∃ r, codeP d xs n = codeP d xs i ++ (codeD (stP d xs i) (nth xs i).toNat ++ r) := by
  intro n
  induction n with
  | zero => intro h; omega
  | succ n ih =>
    intro h
    rcases Nat.lt_or_ge i n with h2 | h2
    · obtain ⟨r, hr⟩ := ih h2
      exact ⟨r ++ codeD (stP d xs n) (nth xs n).toNat, by rw [codeP_next, hr, List.append_assoc, List.append_assoc]⟩
    · obtain rfl : i = n := by omega
      exact ⟨[], by rw [codeP_next, List.append_nil]⟩
theorem codeP_len_next (d : Dual) (xs : List Int) (j : Nat) : (codeP d xs (j + 1)).length = (codeP d xs j).length + lenD (stP d xs j) (nth xs j).toNat := by
  rw [codeP_next, List.length_append, codeD_len]
/-- A state is four numbers. -/
theorem Dual.four (d : Dual) : ∃ a b c e : Nat, d = ⟨a, b, c, e⟩ := ⟨d.k0, d.k1, d.s0, d.s1, rfl⟩

end Cad.Code
