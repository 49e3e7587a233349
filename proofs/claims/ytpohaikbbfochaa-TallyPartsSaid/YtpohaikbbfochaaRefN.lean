/-
  Contracts of the reference's Number and Value.
-/
import Derived.Test.YtpohaikbbfochaaRefC
import Derived.Test.YtpohaikbbfochaaRefD
import Derived.Test.YtpohaikbbfochaaBits
namespace Go.Proofs.Ytpohaikbbfochaa
open Go.RowKit Cad Cad.Bit
set_option linter.unusedVariables false
set_option linter.unusedSimpArgs false

theorem lowBits_next (v j : Nat) : lowBits v (j + 1) = lowBits v j ++ [decide (v / 2 ^ j % 2 = 1)] := by rw [lowBits_add]; rfl
theorem bit_int {x : Nat} : ((x % 2 : Nat) : Int) = if decide (x % 2 = 1) then 1 else 0 := by
  rcases Nat.mod_two_eq_zero_or_one x with h | h <;> rw [h] <;> rfl

theorem bval_step {bs : List Bool} {p k n : Nat} (hk : k < n) (hp : p + n ≤ bs.length) : bval ((bs.drop (p + k)).take (n - k)) = (if bitAt bs (p + k) then 1 else 0) + 2 * bval ((bs.drop (p + (k + 1))).take (n - (k + 1))) := by
  have h : p + k < bs.length := by omega
  rw [List.drop_eq_getElem_cons h, show n - k = (n - (k + 1)) + 1 by omega, List.take_succ_cons, bval, bitAt_eq h]; rfl
end Go.Proofs.Ytpohaikbbfochaa
