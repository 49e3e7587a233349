/-
  Contracts of Cut, Join, Of and Align of bits.
-/
import Derived.Test.YtncmnfnminjchaaBits
namespace Go.Proofs.Ytncmnfnminjchaa
open Go.RowKit Cad Cad.Bit
set_option linter.unusedVariables false
set_option linter.unusedSimpArgs false

/-- What Cut returns. -/
def cutR (bs : List Bool) (p q : Int) : List Bool × Int := if p < 0 ∨ q < p ∨ (bs.length : Int) < q then ([], 2) else ((bs.drop p.toNat).take (q.toNat - p.toNat), 0)
theorem lowBits_bval' {l : List Bool} {n : Nat} (h : l.length = n) : lowBits (bval l) n = l := by rw [← h]; exact lowBits_bval l
/-- One round of Cut: the next bits behind those that are there. -/
theorem cut_step {bs : List Bool} {i a L t : Nat} (ha : a = i + L) (h : a + t ≤ bs.length) : (bs.drop i).take L ++ lowBits (bval ((bs.drop a).take t)) t = (bs.drop i).take (L + t) := by
  subst ha
  rw [lowBits_bval' (by rw [List.length_take, List.length_drop]; omega), List.take_add, List.drop_drop]


end Go.Proofs.Ytncmnfnminjchaa

