/-
  The examples of chapter 8 (two levels).
-/
import Derived.Test.YtpohaikbbfochaaDualC
import Derived.Test.YtpohaikbbfochaaStr
namespace Go.Proofs.Ytpohaikbbfochaa
open Go.RowKit Cad Cad.Bit Cad.Code
set_option linter.unusedVariables false
set_option linter.unusedSimpArgs false

theorem dlearn_c {p0 p1 q0 q1 v u0 u1 v0 v1 : Nat} (w : World) (hd : Dual.Ok ⟨p0, p1, q0, q1⟩) (hv : v < 4294967296) (he : learn ⟨p0, p1, q0, q1⟩ v = ⟨u0, u1, v0, v1⟩) :
    Calls Try.prog 26 #[.agg #[.int .i64 (p0 : Int), .int .i64 (p1 : Int), .int .u64 (q0 : Int), .int .u64 (q1 : Int)], .int .u32 (v : Int)] w fun e w' => e = .returned (.tuple #[.agg #[.int .i64 (u0 : Int), .int .i64 (u1 : Int), .int .u64 (v0 : Int), .int .u64 (v1 : Int)], .int .i64 0]) ∧ Below w.heap.size w w' := by
  refine (dLearn_ok p0 p1 q0 q1 v w hd hv).mono ?_
  rintro e w' ⟨a0, a1, b0, b1, rfl, HA, hb⟩
  have h := HA.out.trans he
  injection h with h1 h2 h3 h4
  exact ⟨by rw [h1, h2, h3, h4], hb⟩
theorem dlen_c {p0 p1 q0 q1 v y : Nat} (w : World) (hd : Dual.Ok ⟨p0, p1, q0, q1⟩) (hv : v < 4294967296) (he : lenD ⟨p0, p1, q0, q1⟩ v = y) :
    Calls Try.prog 25 #[.agg #[.int .i64 (p0 : Int), .int .i64 (p1 : Int), .int .u64 (q0 : Int), .int .u64 (q1 : Int)], .int .u32 (v : Int)] w fun e w' => e = .returned (.tuple #[.int .i64 (y : Int), .int .i64 0]) ∧ Below w.heap.size w w' := by
  refine (dLength_ok p0 p1 q0 q1 v w hd hv).mono ?_
  rintro e w' ⟨z, rfl, HZ, hb⟩
  exact ⟨by rw [HZ.out, he], hb⟩
theorem dwrite_c (A : Option Addr) (m c : Nat) (bs l : List Bool) {p0 p1 q0 q1 v u0 u1 v0 v1 : Nat} (w : World) (ha : Row .u8 w A m (pack bs)) (hc : m ≤ c ∧ c ≤ 9223372036854775807) (hl : bs.length ≤ 330000) (hd : Dual.Ok ⟨p0, p1, q0, q1⟩) (hv : v < 4294967296) (er : Int) (he : dwR bs ⟨p0, p1, q0, q1⟩ v = (l, ⟨u0, u1, v0, v1⟩, er)) :
    Calls Try.prog 43 #[.agg #[.slice A m c, .int .i64 (bs.length : Nat)], .agg #[.int .i64 (p0 : Int), .int .i64 (p1 : Int), .int .u64 (q0 : Int), .int .u64 (q1 : Int)], .int .u32 (v : Int)] w fun e w' => ∃ A n c xs, e = .returned (.tuple #[.agg #[.slice A n c, .int .i64 ((xs.length : Nat) : Int)], .agg #[.int .i64 (u0 : Int), .int .i64 (u1 : Int), .int .u64 (v0 : Int), .int .u64 (v1 : Int)], .int .i64 er]) ∧ (n ≤ c ∧ c ≤ 9223372036854775807) ∧ RowIn .u8 w' w.heap.size w'.heap.size A n (pack xs) ∧ Hid (xs = l) ∧ Below w.heap.size w w' := by
  have h := dWrite_ret A m c bs p0 p1 q0 q1 v w ha hc hl hd hv
  rw [he] at h
  refine h.mono ?_
  rintro e w' ⟨B, n, d, xs, a0, a1, b0, b1, rfl, hc, hr, HX, HD, hb⟩
  have h := HD.out
  injection h with h1 h2 h3 h4
  exact ⟨B, n, d, xs, by rw [h1, h2, h3, h4], hc, hr, HX, hb⟩
end Go.Proofs.Ytpohaikbbfochaa
