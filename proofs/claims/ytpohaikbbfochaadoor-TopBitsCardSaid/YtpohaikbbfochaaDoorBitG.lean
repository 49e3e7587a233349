/-
  Contracts of Join, Cut and Of on the way on which they succeed.
-/
import Derived.Test.YtpohaikbbfochaaDoorBitF
namespace Go.Proofs.YtpohaikbbfochaaDoor
open Go.RowKit Cad Cad.Bit
set_option linter.unusedVariables false
set_option linter.unusedSimpArgs false

theorem bjoin_ok (A B : Option Addr) (m c n d : Nat) (fs bs : List Bool) (w : World) (ha : Row .u8 w A m (pack fs)) (hb : Row .u8 w B n (pack bs)) (hc : m ≤ c ∧ c ≤ 9223372036854775807) (hd : n ≤ d ∧ d ≤ 9223372036854775807) (h : fs.length + bs.length ≤ 330000) :
    Calls Tryd.prog 48 #[.agg #[.slice A m c, .int .i64 (fs.length : Nat)], .agg #[.slice B n d, .int .i64 (bs.length : Nat)]] w (RetB w (fs ++ bs) 0) := by
  have h1 := bjoin_ret A B m c n d fs bs w ha hb hc hd (by omega) (by omega)
  have h2 : joinR fs bs = (fs ++ bs, 0) := by unfold joinR; rw [if_neg (by omega)]
  rw [h2] at h1; exact h1
theorem bcut_ok (A : Option Addr) (m c : Nat) (bs : List Bool) (p q : Int) (w : World) (ha : Row .u8 w A m (pack bs)) (hc : m ≤ c ∧ c ≤ 9223372036854775807) (hl : bs.length ≤ 330000) (h0 : 0 ≤ p) (h1 : p ≤ q) (h2 : q ≤ (bs.length : Int)) :
    Calls Tryd.prog 60 #[.agg #[.slice A m c, .int .i64 (bs.length : Nat)], .int .i64 p, .int .i64 q] w (RetB w ((bs.drop p.toNat).take (q.toNat - p.toNat)) 0) := by
  have h := bcut_ret A m c bs p q w ha hc hl
  have e : cutR bs p q = ((bs.drop p.toNat).take (q.toNat - p.toNat), 0) := by unfold cutR; rw [if_neg (by omega)]
  rw [e] at h; exact h
theorem bof_ok (A : Option Addr) (n c : Nat) (bytes : List Int) (w : World) (ha : Row .u8 w A n bytes) (hb : Within 0 255 bytes) (hc : n ≤ c ∧ c ≤ 9223372036854775807) (h : bytes.length ≤ 41250) :
    Calls Tryd.prog 56 #[.slice A n c] w (RetB w (unpack bytes) 0) := by
  have h1 := bof_ret A n c bytes w ha hb hc
  have e : ofR bytes = (unpack bytes, 0) := by unfold ofR; rw [if_neg (by omega)]
  rw [e] at h1; exact h1

end Go.Proofs.YtpohaikbbfochaaDoor
