/-
  Contracts of the reference's bits: one bit, checking.
-/
import Derived.Test.YtpohaikbbfochaaBitA
namespace Go.Proofs.Ytpohaikbbfochaa
open Go.RowKit Cad Cad.Bit
set_option linter.unusedVariables false

/-- The byte with an index as a natural number. -/
theorem byte_nat {bytes : List Int} (hb : Within 0 255 bytes) (j : Nat) : ∃ x : Nat, nth bytes j = (x : Int) ∧ x < 256 := by
  have := hb.nth (by decide) (by decide) j
  exact ⟨(nth bytes j).toNat, by omega, by omega⟩

theorem low_zero {y j : Nat} (h1 : y % 2 ^ j = 0) (h2 : y / 2 ^ j % 2 = 0) : y % 2 ^ (j + 1) = 0 := by
  rw [Nat.pow_succ, Nat.mod_mul, h1, h2]; simp

end Go.Proofs.Ytpohaikbbfochaa
