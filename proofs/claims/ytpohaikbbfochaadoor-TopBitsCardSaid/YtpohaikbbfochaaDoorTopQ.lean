/-
  Runs of folded numbers behind each other, plainly (for TopBits).
-/
import Derived.Test.YtpohaikbbfochaaDoorTopP
import Derived.Test.YtpohaikbbfochaaDoorCode
namespace Cad.Top
open Go Cad Cad.Bit Cad.Code
set_option linter.unusedVariables false

/-- A folded number, cut off at 48. -/
def cut48 (x : Int) : Nat := min (foldZ x) 48
theorem cut48_le (x : Int) : cut48 x ≤ 48 := Nat.min_le_right _ _
def runsB (xs : List Int) (j : Nat) : List Bool := (List.range j).flatMap fun i => run (cut48 (nth xs i))
theorem runsB_zero (xs : List Int) : runsB xs 0 = [] := rfl
theorem runsB_next (xs : List Int) (j : Nat) : runsB xs (j + 1) = runsB xs j ++ run (cut48 (nth xs j)) := by
  unfold runsB
  rw [List.range_succ, List.flatMap_append]
  simp
theorem runsB_step (xs : List Int) (j : Nat) : (runsB xs (j + 1)).length = (runsB xs j).length + runLen (cut48 (nth xs j)) := by
  rw [runsB_next, List.length_append, run_len (cut48_le _)]
theorem runLen_le48 (n : Nat) : runLen n ≤ 48 := Nat.min_le_right _ _
theorem runsB_len (xs : List Int) (j : Nat) : (runsB xs j).length ≤ 48 * j := by
  induction j with
  | zero => exact Nat.le_refl _
  | succ j ih => rw [runsB_step]; have := runLen_le48 (cut48 (nth xs j)); omega
theorem runsB_mono (xs : List Int) {i j : Nat} (h : i ≤ j) : (runsB xs i).length ≤ (runsB xs j).length := by
  induction j with
  | zero => have : i = 0 := by omega
            rw [this]; exact Nat.le_refl _
  | succ j ih =>
    rcases Nat.lt_or_ge i (j + 1) with h1 | h1
    · have := ih (by omega); rw [runsB_step]; omega
    · have : i = j + 1 := by omega
      rw [this]; exact Nat.le_refl _
theorem runsB_drop (xs : List Int) {i j : Nat} (h : i < j) : ∃ t, (runsB xs j).drop (runsB xs i).length = run (cut48 (nth xs i)) ++ t := by
  induction j with
  | zero => omega
  | succ j ih =>
    rw [runsB_next]
    rcases Nat.lt_or_ge i j with h1 | h1
    · obtain ⟨t, ht⟩ := ih h1
      refine ⟨t ++ run (cut48 (nth xs j)), ?_⟩
      rw [List.drop_append_of_le_length (runsB_mono xs (by omega)), ht, List.append_assoc]
    · obtain rfl : i = j := by omega
      exact ⟨[], by rw [List.drop_left' rfl, List.append_nil]⟩
theorem runsB_read (xs : List Int) {i j : Nat} (h : i < j) : readU ((runsB xs j).drop (runsB xs i).length) = .ok (cut48 (nth xs i)) (runLen (cut48 (nth xs i))) := by
  obtain ⟨t, ht⟩ := runsB_drop xs h
  rw [ht]
  exact readU_run (cut48_le _) t
end Cad.Top
