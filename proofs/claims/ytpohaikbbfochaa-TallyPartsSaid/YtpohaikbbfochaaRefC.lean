/-
  Contract of the reference's Add: a bit behind bits of the call's own.
-/
import Derived.Test.YtpohaikbbfochaaRefB
import Derived.Test.YtpohaikbbfochaaBitC
namespace Go.Proofs.Ytpohaikbbfochaa
open Go.RowKit Cad Cad.Bit
set_option linter.unusedVariables false
set_option linter.unusedSimpArgs false

/-- What a function ends in that puts bits behind bits of the call's own. -/
def Grew (w : World) (base : Nat) (A : Option Addr) (l : List Bool) (e : Ending) (w' : World) : Prop :=
  ∃ (B : Option Addr) (m' d : Nat) (bs' : List Bool), e = .returned (.agg #[.slice B m' d, .int .i64 (bs'.length : Nat)]) ∧ Own w' base 5 .u8 B m' d (pack bs') ∧ Hid (bs' = l) ∧ Frm (fun k => blockOf A = some k) w w' ∧ (∀ k, blockOf B = some k → k < w.heap.size → blockOf A = some k)

/-- The byte that Add makes. -/
theorem add_in {bs : List Bool} {z y : Nat} (b : Bool) (hs : 0 < bs.length % 8) (hz : z = 2 ^ (bs.length % 8)) (hy : y = byteAt bs (bs.length / 8)) : (pack bs).set (bs.length / 8) ((y + (if b then 1 else 0) * z : Nat) : Int) = pack (bs ++ [b]) := by
  have h := pack_append_in (a := bs) (b := [b]) hs (by simp) (by simp; omega)
  rw [← h, hy, hz]
  congr 2
  cases b <;> simp [bval]
theorem add_new {bs : List Bool} (b : Bool) (hs : bs.length % 8 = 0) : (pack bs ++ [0]).set (bs.length / 8) ((0 + (if b then 1 else 0) * 1 : Nat) : Int) = pack (bs ++ [b]) := by
  have h := pack_append_new (a := bs) (b := [b]) hs (by simp) (by simp)
  have hl : (pack bs).length = bs.length / 8 := by rw [pack_len]; unfold bytesFor; omega
  rw [← h, List.set_append_right _ _ (by omega), hl, Nat.sub_self]
  cases b <;> simp [bval]


end Go.Proofs.Ytpohaikbbfochaa
