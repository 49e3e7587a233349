/-
  Contracts of Join, Cut and Of on the way on which they succeed.
-/
import Derived.Test.YtncmnfnminjchaaBitF
namespace Go.Proofs.Ytncmnfnminjchaa
open Go.RowKit Cad Cad.Bit
set_option linter.unusedVariables false
set_option linter.unusedSimpArgs false

theorem bof_ok (A : Option Addr) (n c : Nat) (bytes : List Int) (w : World) (ha : Row .u8 w A n bytes) (hb : Within 0 255 bytes) (hc : n ≤ c ∧ c ≤ 9223372036854775807) (h : bytes.length ≤ 41250) :
    Calls Try.prog 23 #[.slice A n c] w (RetB w (unpack bytes) 0) := by
  have h1 := bof_ret A n c bytes w ha hb hc
  have e : ofR bytes = (unpack bytes, 0) := by unfold ofR; rw [if_neg (by omega)]
  rw [e] at h1; exact h1

end Go.Proofs.Ytncmnfnminjchaa
