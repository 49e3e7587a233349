/-
  Contract of Get.
-/
import Derived.Test.YtpohaikbbfochaaBitC
namespace Go.Proofs.Ytpohaikbbfochaa
open Go.RowKit Cad Cad.Bit
set_option linter.unusedVariables false

/-- What Get returns: the number, the error. -/
def getR (bs : List Bool) (p n : Int) : Nat × Int :=
  if n < 0 ∨ 64 < n ∨ p < 0 then (0, 2) else if (bs.length : Int) - n < p then (0, 24) else (bval ((bs.drop p.toNat).take n.toNat), 0)

end Go.Proofs.Ytpohaikbbfochaa
