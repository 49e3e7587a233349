/-
  Contracts of the reference of chapter 2: copies, parts, joining.
-/
import Derived.Test.YtpohaikbbfochaaRefC
import Derived.Test.YtpohaikbbfochaaBitG
import Derived.Test.YtpohaikbbfochaaBitX
namespace Go.Proofs.Ytpohaikbbfochaa
open Go.RowKit Cad Cad.Bit
set_option linter.unusedVariables false
set_option linter.unusedSimpArgs false

/-- The bit with an index. -/
def bitAt (bs : List Bool) (i : Nat) : Bool := bs.getD i false
theorem bitAt_eq {bs : List Bool} {i : Nat} (h : i < bs.length) : bitAt bs i = bs[i] := by unfold bitAt; rw [List.getD_eq_getElem?_getD, List.getElem?_eq_getElem h]; rfl
theorem take_bit {bs : List Bool} {i j : Nat} (h : i + j < bs.length) : (bs.drop i).take j ++ [bitAt bs (i + j)] = (bs.drop i).take (j + 1) := by
  rw [List.take_succ_eq_append_getElem (by rw [List.length_drop]; omega), bitAt_eq h, List.getElem_drop]


end Go.Proofs.Ytpohaikbbfochaa
