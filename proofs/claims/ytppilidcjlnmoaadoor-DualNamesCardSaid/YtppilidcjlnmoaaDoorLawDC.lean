/-
  The walks of DualCut and DualOnce.
-/
import Derived.Test.YtppilidcjlnmoaaDoorLawDA
import Derived.Test.YtppilidcjlnmoaaDoorDualD
import Derived.Test.YtppilidcjlnmoaaDoorRefT
import Derived.Test.YtppilidcjlnmoaaDoorRefB
import Derived.Test.YtppilidcjlnmoaaDoorBitG
namespace Go.Proofs.YtppilidcjlnmoaaDoor
open Go.RowKit Cad Cad.Bit Cad.Code
set_option linter.unusedVariables false
set_option linter.unusedSimpArgs false

theorem dread_c (A : Option Addr) (m c : Nat) (bs : List Bool) (p : Int) {p0 p1 q0 q1 u0 u1 v0 v1 : Nat} {x y er : Int} (w : World) (ha : Row .u8 w A m (pack bs)) (hc : m ≤ c ∧ c ≤ 9223372036854775807) (hl : bs.length ≤ 330000) (hp : -9223372036854775808 ≤ p ∧ p ≤ 9223372036854775807) (hd : Dual.Ok ⟨p0, p1, q0, q1⟩) (ht : Tab w) (he : drR bs p ⟨p0, p1, q0, q1⟩ = (x, y, ⟨u0, u1, v0, v1⟩, er)) :
    Calls Tryd.prog 33 #[.agg #[.slice A m c, .int .i64 ((bs.length : Nat) : Int)], .int .i64 p, .agg #[.int .i64 (p0 : Int), .int .i64 (p1 : Int), .int .u64 (q0 : Int), .int .u64 (q1 : Int)]] w fun e w' => e = .returned (.tuple #[.int .u32 x, .int .i64 y, .agg #[.int .i64 (u0 : Int), .int .i64 (u1 : Int), .int .u64 (v0 : Int), .int .u64 (v1 : Int)], .int .i64 er]) ∧ Below w.heap.size w w' := by
  have h := dRead_ret A m c bs p p0 p1 q0 q1 w ha hc hl hp hd ht
  rw [he] at h
  refine h.mono ?_
  rintro e w' ⟨a0, a1, b0, b1, rfl, HD, hb⟩
  have h := HD.out
  injection h with h1 h2 h3 h4
  exact ⟨by rw [h1, h2, h3, h4], hb⟩


end Go.Proofs.YtppilidcjlnmoaaDoor
