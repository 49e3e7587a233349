/-
  Contracts of Join, Cut and Of on the way on which they succeed.
-/
import Derived.Test.YtlblkjefngofaaaBitF
namespace Go.Proofs.Ytlblkjefngofaaa
open Go.RowKit Cad Cad.Bit
set_option linter.unusedVariables false
set_option linter.unusedSimpArgs false

theorem bcut_ok (A : Option Addr) (m c : Nat) (bs : List Bool) (p q : Int) (w : World) (ha : Row .u8 w A m (pack bs)) (hc : m ≤ c ∧ c ≤ 9223372036854775807) (hl : bs.length ≤ 330000) (h0 : 0 ≤ p) (h1 : p ≤ q) (h2 : q ≤ (bs.length : Int)) :
    Calls Try.prog 9 #[.agg #[.slice A m c, .int .i64 (bs.length : Nat)], .int .i64 p, .int .i64 q] w (RetB w ((bs.drop p.toNat).take (q.toNat - p.toNat)) 0) := by
  have h := bcut_ret A m c bs p q w ha hc hl
  have e : cutR bs p q = ((bs.drop p.toNat).take (q.toNat - p.toNat), 0) := by unfold cutR; rw [if_neg (by omega)]
  rw [e] at h; exact h
end Go.Proofs.Ytlblkjefngofaaa
