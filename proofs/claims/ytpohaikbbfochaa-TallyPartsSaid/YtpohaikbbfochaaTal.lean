/-
  How many numbers fit some bytes, plainly.
-/
import Derived.Test.YtpohaikbbfochaaCutL
namespace Cad.Code
open Go Cad Cad.Bit
set_option linter.unusedVariables false

/-- How many bytes the block of some bits has. -/
def sizeB (n : Nat) : Nat := (n + 7) / 8 + 4
theorem sizeB_mono {a b : Nat} (h : a ≤ b) : sizeB a ≤ sizeB b := by unfold sizeB; omega
/-- From i numbers on, k more at most: how many fit. -/
def fitsAt (d : Dual) (xs : List Int) (bytes : Nat) : Nat → Nat → Nat
  | i, 0 => i
  | i, k + 1 => if bytes < sizeB (lenP d xs (i + 1)) then i else fitsAt d xs bytes (i + 1) k
theorem fitsAt_zero (d : Dual) (xs : List Int) (bytes i : Nat) : fitsAt d xs bytes i 0 = i := by rw [fitsAt]
theorem fitsAt_stop {d : Dual} {xs : List Int} {bytes i k : Nat} (h : bytes < sizeB (lenP d xs (i + 1))) : fitsAt d xs bytes i (k + 1) = i := by rw [fitsAt, if_pos h]
theorem fitsAt_go {d : Dual} {xs : List Int} {bytes i k : Nat} (h : ¬ bytes < sizeB (lenP d xs (i + 1))) : fitsAt d xs bytes i (k + 1) = fitsAt d xs bytes (i + 1) k := by rw [fitsAt, if_neg h]
theorem fitsAt_le (d : Dual) (xs : List Int) (bytes k : Nat) : ∀ i, i ≤ fitsAt d xs bytes i k ∧ fitsAt d xs bytes i k ≤ i + k := by
  induction k with
  | zero => intro i; rw [fitsAt]; omega
  | succ k ih =>
    intro i
    rw [fitsAt]
    split
    · omega
    · have := ih (i + 1); omega
/-- As many as fit. -/
theorem fitsAt_fit (d : Dual) (xs : List Int) (bytes k : Nat) : ∀ i, sizeB (lenP d xs i) ≤ bytes → sizeB (lenP d xs (fitsAt d xs bytes i k)) ≤ bytes := by
  induction k with
  | zero => intro i h; rw [fitsAt]; exact h
  | succ k ih =>
    intro i h
    rw [fitsAt]
    split
    · exact h
    · exact ih (i + 1) (by omega)
/-- One more does not fit. -/
theorem fitsAt_over (d : Dual) (xs : List Int) (bytes k : Nat) : ∀ i, fitsAt d xs bytes i k < i + k → bytes < sizeB (lenP d xs (fitsAt d xs bytes i k + 1)) := by
  induction k with
  | zero => intro i h; rw [fitsAt] at h; omega
  | succ k ih =>
    intro i h
    rw [fitsAt] at h ⊢
    split
    · assumption
    · rename_i h2; rw [if_neg h2] at h; exact ih (i + 1) (by omega)
/-- More bytes hold no fewer. -/
theorem fitsAt_mono (d : Dual) (xs : List Int) {b c : Nat} (hbc : b ≤ c) (k : Nat) : ∀ i, fitsAt d xs b i k ≤ fitsAt d xs c i k := by
  induction k with
  | zero => intro i; rw [fitsAt, fitsAt]; exact Nat.le_refl _
  | succ k ih =>
    intro i
    rw [fitsAt, fitsAt]
    split
    · split
      · exact Nat.le_refl _
      · have := (fitsAt_le d xs c k (i + 1)).1; omega
    · rw [if_neg (by omega)]; exact ih (i + 1)
theorem lenP_row (d : Dual) (xs : List Int) {n j : Nat} (h : j ≤ n) : lenP d (xs.take n) j = lenP d xs j := by
  unfold lenP codeP
  rw [show pre (xs.take n) j = pre xs j by
    unfold pre
    apply List.map_congr_left
    intro i hi
    rw [nth_take (by have := List.mem_range.1 hi; omega)]]
theorem stP_row' (d : Dual) (xs : List Int) {n j : Nat} (h : j ≤ n) : stP d (xs.take n) j = stP d xs j := by
  unfold stP
  rw [show pre (xs.take n) j = pre xs j by
    unfold pre
    apply List.map_congr_left
    intro i hi
    rw [nth_take (by have := List.mem_range.1 hi; omega)]]
theorem lens_row (d : Dual) (xs : List Int) {n j : Nat} (h : j ≤ n) : lens d (xs.take n) j = lens d xs j := by
  unfold lens
  apply List.map_congr_left
  intro i hi
  have hi := List.mem_range.1 hi
  unfold lenAt
  rw [stP_row' d xs (by omega), nth_take (by omega)]
theorem nth_lens (d : Dual) (xs : List Int) {n j : Nat} (h : j < n) : nth (lens d xs n) j = ((lenAt d xs j : Nat) : Int) := by unfold lens; exact nth_map_range h
theorem lenP_step (d : Dual) (xs : List Int) (j : Nat) : lenP d xs (j + 1) = lenP d xs j + lenAt d xs j := lenP_next d xs j
theorem lens_within {d : Dual} (hd : d.Ok) {xs : List Int} (hx : Within 0 4294967295 xs) (n : Nat) : Within 1 81 (lens d xs n) := by
  intro x hx'
  unfold lens at hx'
  obtain ⟨i, _, rfl⟩ := List.mem_map.1 hx'
  have := lenAt_le hd hx i
  omega

end Cad.Code
