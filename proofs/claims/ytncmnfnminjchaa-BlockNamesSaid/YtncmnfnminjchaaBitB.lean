/-
  Contract of putting bits in place.
-/
import Derived.Test.YtncmnfnminjchaaBitA
namespace Go.Proofs.Ytncmnfnminjchaa
open Go.RowKit Cad Cad.Bit
set_option linter.unusedVariables false

theorem u8E : Elem Try.prog 22 5 .u8 1 := ⟨Try.underlying22, Try.underlying5, by kernel_rfl, by decide⟩

/-- The block g holds a struct of bits. -/
def Cell2 (w : World) (g : Nat) (A : Option Addr) (n c : Nat) (N : Nat) : Prop := Blk w g 25 [.slice A n c, .int .i64 (N : Int)]

end Go.Proofs.Ytncmnfnminjchaa

