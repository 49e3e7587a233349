/-
  Contracts of Join, Cut and Of on the way on which they succeed.
-/
import Derived.Test.YtpohaikbbfochaaBitF
namespace Go.Proofs.Ytpohaikbbfochaa
open Go.RowKit Cad Cad.Bit
set_option linter.unusedVariables false
set_option linter.unusedSimpArgs false

theorem bjoin_ok (A B : Option Addr) (m c n d : Nat) (fs bs : List Bool) (w : World) (ha : Row .u8 w A m (pack fs)) (hb : Row .u8 w B n (pack bs)) (hc : m ≤ c ∧ c ≤ 9223372036854775807) (hd : n ≤ d ∧ d ≤ 9223372036854775807) (h : fs.length + bs.length ≤ 330000) :
    Calls Try.prog 44 #[.agg #[.slice A m c, .int .i64 (fs.length : Nat)], .agg #[.slice B n d, .int .i64 (bs.length : Nat)]] w (RetB w (fs ++ bs) 0) := by
  have h1 := bjoin_ret A B m c n d fs bs w ha hb hc hd (by omega) (by omega)
  have h2 : joinR fs bs = (fs ++ bs, 0) := by unfold joinR; rw [if_neg (by omega)]
  rw [h2] at h1; exact h1
end Go.Proofs.Ytpohaikbbfochaa
