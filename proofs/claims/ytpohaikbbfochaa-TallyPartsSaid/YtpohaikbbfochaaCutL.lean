/-
  Codes of lists that are cut off, plainly (for CoderCut); lists of lengths (for law12).
-/
import Derived.Test.YtpohaikbbfochaaPre
import Derived.Test.YtpohaikbbfochaaFeed
namespace Cad.Code
open Go Cad Cad.Bit
set_option linter.unusedVariables false

theorem small_take {vs : List Nat} (hs : Small vs) (n : Nat) : Small (vs.take n) := fun v hv => hs v (List.mem_of_mem_take hv)
theorem codeL_take (d : Dual) (vs : List Nat) (n : Nat) : codeL d vs = codeL d (vs.take n) ++ codeL (afterL d (vs.take n)) (vs.drop n) := by
  rw [← codeL_append, List.take_append_drop]
theorem readL_take_ok {d : Dual} (vs : List Nat) (hs : Small vs) {n : Nat} (hn : n ≤ vs.length) {left : Nat} (h : (codeL d (vs.take n)).length ≤ left) :
    readL n ((codeL d vs).take left) d = .ok (vs.take n) (codeL d (vs.take n)).length (afterL d (vs.take n)) := by
  have hl : (vs.take n).length = n := by rw [List.length_take]; omega
  have e : (codeL d vs).take left = codeL d (vs.take n) ++ (codeL (afterL d (vs.take n)) (vs.drop n)).take (left - (codeL d (vs.take n)).length) := by
    conv => lhs; rw [codeL_take d vs n]
    rw [List.take_append, List.take_of_length_le h]
  rw [e]
  have hr := readL_code (d := d) (vs.take n) (small_take hs n) ((codeL (afterL d (vs.take n)) (vs.drop n)).take (left - (codeL d (vs.take n)).length))
  rw [hl] at hr
  exact hr
theorem readL_take_err {d : Dual} (hd : d.Ok) (vs : List Nat) (hs : Small vs) {n : Nat} (hn : n ≤ vs.length) {left : Nat} (h : left < (codeL d (vs.take n)).length) :
    readL n ((codeL d vs).take left) d = .err 24 := by
  have hl : (vs.take n).length = n := by rw [List.length_take]; omega
  have e : (codeL d vs).take left = (codeL d (vs.take n)).take left := by
    conv => lhs; rw [codeL_take d vs n]
    rw [List.take_append_of_le_length (by omega)]
  rw [e]
  have hr := readL_cut hd (vs.take n) (small_take hs n) left h
  rw [hl] at hr
  exact hr
theorem pre_take (xs : List Int) {n m : Nat} (h : n ≤ m) : (pre xs m).take n = pre xs n := by
  unfold pre
  rw [← List.map_take, List.take_range]
  congr 2; omega
/-- How many bits the first ones have. -/
def lenP (d : Dual) (xs : List Int) (j : Nat) : Nat := (codeP d xs j).length
theorem lenP_zero (d : Dual) (xs : List Int) : lenP d xs 0 = 0 := rfl
theorem lenP_next (d : Dual) (xs : List Int) (j : Nat) : lenP d xs (j + 1) = lenP d xs j + lenD (stP d xs j) (nth xs j).toNat := codeP_len_next d xs j
theorem lenP_mono (d : Dual) (xs : List Int) {i j : Nat} (h : i ≤ j) : lenP d xs i ≤ lenP d xs j := by
  induction j with
  | zero => have : i = 0 := by omega
            rw [this]; exact Nat.le_refl _
  | succ j ih =>
    rcases Nat.lt_or_ge i (j + 1) with h1 | h1
    · have := ih (by omega); rw [lenP_next]; omega
    · have : i = j + 1 := by omega
      rw [this]; exact Nat.le_refl _
/-- The length of the code of the i-th number. -/
def lenAt (d : Dual) (xs : List Int) (i : Nat) : Nat := lenD (stP d xs i) (nth xs i).toNat
def lens (d : Dual) (xs : List Int) (j : Nat) : List Int := (List.range j).map fun i => ((lenAt d xs i : Nat) : Int)
theorem lens_next (d : Dual) (xs : List Int) (j : Nat) : lens d xs (j + 1) = lens d xs j ++ [((lenAt d xs j : Nat) : Int)] := by
  unfold lens; rw [List.range_succ, List.map_append]; rfl
theorem lens_len (d : Dual) (xs : List Int) (j : Nat) : (lens d xs j).length = j := by unfold lens; simp
theorem lenAt_le {d : Dual} (hd : d.Ok) {xs : List Int} (hx : Within 0 4294967295 xs) (i : Nat) : 1 ≤ lenAt d xs i ∧ lenAt d xs i ≤ 81 := lenD_le (stP_ok hd hx i) _
theorem lenP_le {d : Dual} (hd : d.Ok) {xs : List Int} (hx : Within 0 4294967295 xs) (j : Nat) : j ≤ lenP d xs j ∧ lenP d xs j ≤ 81 * j := codeP_le hd hx j

end Cad.Code
