/-
  Contracts of Put, Get and Check of bits, in the form in which callers use them.
-/
import Derived.Test.YtncmnfnminjchaaBitD
namespace Go.Proofs.Ytncmnfnminjchaa
open Go.RowKit Cad Cad.Bit
set_option linter.unusedVariables false

theorem putR_ok {bs : List Bool} {v : Nat} {n : Int} (h0 : 0 ≤ n) (h1 : n ≤ 64) (h2 : v < 2 ^ n.toNat) (h3 : bs.length + n.toNat ≤ 330000) : putR bs v n = (bs ++ lowBits v n.toNat, 0) := by
  unfold putR; rw [if_neg (by omega), if_neg (by omega), if_neg (by omega)]
theorem getR_ok {bs : List Bool} {p n : Int} (hp : 0 ≤ p) (h0 : 0 ≤ n) (h1 : n ≤ 64) (h2 : p ≤ (bs.length : Int) - n) : getR bs p n = (bval ((bs.drop p.toNat).take n.toNat), 0) := by
  unfold getR; rw [if_neg (by omega), if_neg (by omega)]
end Go.Proofs.Ytncmnfnminjchaa
