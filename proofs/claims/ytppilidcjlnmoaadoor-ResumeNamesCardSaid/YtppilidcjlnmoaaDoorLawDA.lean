/-
  The examples of chapter 8 (two levels).
-/
import Derived.Test.YtppilidcjlnmoaaDoorDualC
import Derived.Test.YtppilidcjlnmoaaDoorStr
namespace Go.Proofs.YtppilidcjlnmoaaDoor
open Go.RowKit Cad Cad.Bit Cad.Code
set_option linter.unusedVariables false
set_option linter.unusedSimpArgs false

theorem dlearn_c {p0 p1 q0 q1 v u0 u1 v0 v1 : Nat} (w : World) (hd : Dual.Ok ⟨p0, p1, q0, q1⟩) (hv : v < 4294967296) (he : learn ⟨p0, p1, q0, q1⟩ v = ⟨u0, u1, v0, v1⟩) :
    Calls Tryd.prog 30 #[.agg #[.int .i64 (p0 : Int), .int .i64 (p1 : Int), .int .u64 (q0 : Int), .int .u64 (q1 : Int)], .int .u32 (v : Int)] w fun e w' => e = .returned (.tuple #[.agg #[.int .i64 (u0 : Int), .int .i64 (u1 : Int), .int .u64 (v0 : Int), .int .u64 (v1 : Int)], .int .i64 0]) ∧ Below w.heap.size w w' := by
  refine (dLearn_ok p0 p1 q0 q1 v w hd hv).mono ?_
  rintro e w' ⟨a0, a1, b0, b1, rfl, HA, hb⟩
  have h := HA.out.trans he
  injection h with h1 h2 h3 h4
  exact ⟨by rw [h1, h2, h3, h4], hb⟩
theorem dlen_c {p0 p1 q0 q1 v y : Nat} (w : World) (hd : Dual.Ok ⟨p0, p1, q0, q1⟩) (hv : v < 4294967296) (he : lenD ⟨p0, p1, q0, q1⟩ v = y) :
    Calls Tryd.prog 31 #[.agg #[.int .i64 (p0 : Int), .int .i64 (p1 : Int), .int .u64 (q0 : Int), .int .u64 (q1 : Int)], .int .u32 (v : Int)] w fun e w' => e = .returned (.tuple #[.int .i64 (y : Int), .int .i64 0]) ∧ Below w.heap.size w w' := by
  refine (dLength_ok p0 p1 q0 q1 v w hd hv).mono ?_
  rintro e w' ⟨z, rfl, HZ, hb⟩
  exact ⟨by rw [HZ.out, he], hb⟩
theorem dwrite_c (A : Option Addr) (m c : Nat) (bs l : List Bool) {p0 p1 q0 q1 v u0 u1 v0 v1 : Nat} (w : World) (ha : Row .u8 w A m (pack bs)) (hc : m ≤ c ∧ c ≤ 9223372036854775807) (hl : bs.length ≤ 330000) (hd : Dual.Ok ⟨p0, p1, q0, q1⟩) (hv : v < 4294967296) (er : Int) (he : dwR bs ⟨p0, p1, q0, q1⟩ v = (l, ⟨u0, u1, v0, v1⟩, er)) :
    Calls Tryd.prog 32 #[.agg #[.slice A m c, .int .i64 (bs.length : Nat)], .agg #[.int .i64 (p0 : Int), .int .i64 (p1 : Int), .int .u64 (q0 : Int), .int .u64 (q1 : Int)], .int .u32 (v : Int)] w fun e w' => ∃ A n c xs, e = .returned (.tuple #[.agg #[.slice A n c, .int .i64 ((xs.length : Nat) : Int)], .agg #[.int .i64 (u0 : Int), .int .i64 (u1 : Int), .int .u64 (v0 : Int), .int .u64 (v1 : Int)], .int .i64 er]) ∧ (n ≤ c ∧ c ≤ 9223372036854775807) ∧ RowIn .u8 w' w.heap.size w'.heap.size A n (pack xs) ∧ Hid (xs = l) ∧ Below w.heap.size w w' := by
  have h := dWrite_ret A m c bs p0 p1 q0 q1 v w ha hc hl hd hv
  rw [he] at h
  refine h.mono ?_
  rintro e w' ⟨B, n, d, xs, a0, a1, b0, b1, rfl, hc, hr, HX, HD, hb⟩
  have h := HD.out
  injection h with h1 h2 h3 h4
  exact ⟨B, n, d, xs, by rw [h1, h2, h3, h4], hc, hr, HX, hb⟩
set_option maxRecDepth 100000 in
set_option maxHeartbeats 400000 in
theorem alive08 (w : World) : Calls Tryd.prog 36 #[] w fun e w' => e = .returned (.bool true) ∧ Below w.heap.size w w' := by
  go_enter Tryd.func36, Tryd.ntmps36
  go_wp2_with fail
  refine (dstart_ok _).mono ?_
  rintro e w1 ⟨rfl, b1⟩
  have s1 := b1.size
  try simp only [World.size_alloc, World.size_setCell, World.size_drew, size_drewN] at s1
  have bb_1 : Below w.heap.size w w1 := by
    repeat' (first | (with_reducible assumption) | (with_reducible exact Below.refl _ _) | (with_reducible refine Blk.after ?_ b1) | (with_reducible refine RowIn.belowS ?_ b1) | (with_reducible refine Below.after ?_ b1 ?_) | (with_reducible refine Blk.drewN ?_ _) | (with_reducible refine RowIn.drewN ?_ _) | (with_reducible refine below_drewN ?_ _) | (with_reducible refine Blk.drew ?_) | (with_reducible refine RowIn.drew ?_) | (with_reducible refine Below.drew ?_) | (with_reducible refine Blk.new' ?_ ?_ <;> first | (with_reducible rfl) | (simp; done)) | (with_reducible refine Blk.alloc ?_ _) | (with_reducible refine RowIn.alloc ?_ _) | (with_reducible refine Below.alloc ?_ ?_ _) | (with_reducible apply Blk.set') | (with_reducible apply Blk.far') | (with_reducible refine RowIn.far' ?_ ?_ _) | (with_reducible refine Below.far' ?_ ?_ _) | rfl | omega | go_size)
  clear b1
  go_wp2_with fail
  refine (dlen_c (p0 := 10) (p1 := 10) (q0 := 16384) (q1 := 16384) (v := 5) (y := 11) _ (by decide) (by decide) (by decide)).mono ?_
  rintro e w2 ⟨rfl, b2⟩
  have s2 := b2.size
  try simp only [World.size_alloc, World.size_setCell, World.size_drew, size_drewN] at s2
  obtain ⟨zd_2, bb_2⟩ : Blk w2 (w1.heap.size) 38 [.int .i64 10, .int .i64 10, .int .u64 16384, .int .u64 16384] ∧ Below w.heap.size w w2 := by
    refine ⟨?_, ?_⟩
    all_goals repeat' (first | (with_reducible assumption) | (with_reducible exact Below.refl _ _) | (with_reducible refine Blk.after ?_ b2) | (with_reducible refine RowIn.belowS ?_ b2) | (with_reducible refine Below.after ?_ b2 ?_) | (with_reducible refine Blk.drewN ?_ _) | (with_reducible refine RowIn.drewN ?_ _) | (with_reducible refine below_drewN ?_ _) | (with_reducible refine Blk.drew ?_) | (with_reducible refine RowIn.drew ?_) | (with_reducible refine Below.drew ?_) | (with_reducible refine Blk.new' ?_ ?_ <;> first | (with_reducible rfl) | (simp; done)) | (with_reducible refine Blk.alloc ?_ _) | (with_reducible refine RowIn.alloc ?_ _) | (with_reducible refine Below.alloc ?_ ?_ _) | (with_reducible apply Blk.set') | (with_reducible apply Blk.far') | (with_reducible refine RowIn.far' ?_ ?_ _) | (with_reducible refine Below.far' ?_ ?_ _) | rfl | omega | go_size)
  clear bb_1 b2
  have kd_2 := zd_2.cell; have fd_2 := zd_2.frozen; have ld_2 := zd_2.lt
  go_wp2_with fail
  refine (dlearn_c (p0 := 10) (p1 := 10) (q0 := 16384) (q1 := 16384) (v := 5) (u0 := 9) (u1 := 10) (v0 := 15365) (v1 := 16384) _ (by decide) (by decide) (by decide)).mono ?_
  rintro e w3 ⟨rfl, b3⟩
  have s3 := b3.size
  try simp only [World.size_alloc, World.size_setCell, World.size_drew, size_drewN] at s3
  obtain ⟨zd_3, bb_3⟩ : Blk w3 (w1.heap.size) 38 [.int .i64 10, .int .i64 10, .int .u64 16384, .int .u64 16384] ∧ Below w.heap.size w w3 := by
    refine ⟨?_, ?_⟩
    all_goals repeat' (first | (with_reducible assumption) | (with_reducible exact Below.refl _ _) | (with_reducible refine Blk.after ?_ b3) | (with_reducible refine RowIn.belowS ?_ b3) | (with_reducible refine Below.after ?_ b3 ?_) | (with_reducible refine Blk.drewN ?_ _) | (with_reducible refine RowIn.drewN ?_ _) | (with_reducible refine below_drewN ?_ _) | (with_reducible refine Blk.drew ?_) | (with_reducible refine RowIn.drew ?_) | (with_reducible refine Below.drew ?_) | (with_reducible refine Blk.new' ?_ ?_ <;> first | (with_reducible rfl) | (simp; done)) | (with_reducible refine Blk.alloc ?_ _) | (with_reducible refine RowIn.alloc ?_ _) | (with_reducible refine Below.alloc ?_ ?_ _) | (with_reducible apply Blk.set') | (with_reducible apply Blk.far') | (with_reducible refine RowIn.far' ?_ ?_ _) | (with_reducible refine Below.far' ?_ ?_ _) | rfl | omega | go_size)
  clear zd_2 bb_2 kd_2 fd_2 ld_2 b3
  have kd_3 := zd_3.cell; have fd_3 := zd_3.frozen; have ld_3 := zd_3.lt
  go_wp2_with fail
  refine (dwrite_c none 0 0 [] (p0 := 10) (p1 := 10) (q0 := 16384) (q1 := 16384) (v := 2000) (l := lowBits 3905 12) (u0 := 10) (u1 := 9) (v0 := 17360) (v1 := 16336) _ Row.nil ⟨Nat.le_refl _, Nat.zero_le _⟩ (by decide) (by decide) (by decide) 0 (by decide +kernel)).mono ?_
  rintro e w4 ⟨Ab, mb, cb, xb, rfl, hcb, rb, HXb, b4⟩
  have Lb : xb.length ≤ 12 ∧ 12 ≤ xb.length := by rw [HXb.out]; decide
  obtain ⟨Lb1, Lb2⟩ := Lb
  replace rb := rb.mono (lo' := w3.heap.size) (by go_size) (Nat.le_refl _)
  have s4 := b4.size
  try simp only [World.size_alloc, World.size_setCell, World.size_drew, size_drewN] at s4
  obtain ⟨zd_4, zx_4, rb_4, bb_4⟩ : Blk w4 (w1.heap.size) 38 [.int .i64 10, .int .i64 10, .int .u64 16384, .int .u64 16384] ∧ Blk w4 (w3.heap.size) 38 [.int .i64 9, .int .i64 10, .int .u64 15365, .int .u64 16384] ∧ RowIn .u8 w4 (w3.heap.size) (w4.heap.size) Ab mb (pack xb) ∧ Below w.heap.size w w4 := by
    refine ⟨?_, ?_, ?_, ?_⟩
    all_goals repeat' (first | (with_reducible assumption) | (with_reducible exact Below.refl _ _) | (with_reducible refine Blk.after ?_ b4) | (with_reducible refine RowIn.belowS ?_ b4) | (with_reducible refine Below.after ?_ b4 ?_) | (with_reducible refine Blk.drewN ?_ _) | (with_reducible refine RowIn.drewN ?_ _) | (with_reducible refine below_drewN ?_ _) | (with_reducible refine Blk.drew ?_) | (with_reducible refine RowIn.drew ?_) | (with_reducible refine Below.drew ?_) | (with_reducible refine Blk.new' ?_ ?_ <;> first | (with_reducible rfl) | (simp; done)) | (with_reducible refine Blk.alloc ?_ _) | (with_reducible refine RowIn.alloc ?_ _) | (with_reducible refine Below.alloc ?_ ?_ _) | (with_reducible apply Blk.set') | (with_reducible apply Blk.far') | (with_reducible refine RowIn.far' ?_ ?_ _) | (with_reducible refine Below.far' ?_ ?_ _) | rfl | omega | go_size)
  clear zd_3 bb_3 kd_3 fd_3 ld_3 b4
  have kd_4 := zd_4.cell; have fd_4 := zd_4.frozen; have ld_4 := zd_4.lt
  have kx_4 := zx_4.cell; have fx_4 := zx_4.frozen; have lx_4 := zx_4.lt
  clear rb
  have rz := (rb_4.row.alloc (.cells #[.slice Ab mb cb, .int .i64 ((xb.length : Nat) : Int)] 24)).alloc (.cells #[.int .i64 10, .int .i64 9, .int .u64 17360, .int .u64 16336] 38)
  have scb := run_str (P := Tryd.prog) (src := 22) (dst := 9) Tryd.underlying22 Tryd.underlying5 Tryd.underlying9 cb rz
  have slb : ((strOfNums (pack xb)).toList == [65, 15]) = true := by rw [str_lit (pack_u8 _)]; rw [HXb.out]; decide
  have t12 : (((xb.length : Nat) : Int) == 12) = true := beq_iff_eq.2 (by omega)
  go_wp2
  go_ret
  refine ⟨rfl, ?_⟩
  repeat' (first | (with_reducible assumption) | (with_reducible exact Below.refl _ _) | (with_reducible refine Blk.drewN ?_ _) | (with_reducible refine RowIn.drewN ?_ _) | (with_reducible refine below_drewN ?_ _) | (with_reducible refine Blk.drew ?_) | (with_reducible refine RowIn.drew ?_) | (with_reducible refine Below.drew ?_) | (with_reducible refine Blk.new' ?_ ?_ <;> first | (with_reducible rfl) | (simp; done)) | (with_reducible refine Blk.alloc ?_ _) | (with_reducible refine RowIn.alloc ?_ _) | (with_reducible refine Below.alloc ?_ ?_ _) | (with_reducible apply Blk.set') | (with_reducible apply Blk.far') | (with_reducible refine RowIn.far' ?_ ?_ _) | (with_reducible refine Below.far' ?_ ?_ _) | rfl | omega | go_size)


end Go.Proofs.YtppilidcjlnmoaaDoor
