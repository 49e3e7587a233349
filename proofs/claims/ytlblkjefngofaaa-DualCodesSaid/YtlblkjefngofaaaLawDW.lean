/-
  The walk of DualCodes.
-/
import Derived.Test.YtlblkjefngofaaaRefAB
import Derived.Test.YtlblkjefngofaaaRefB
import Derived.Test.YtlblkjefngofaaaDualB
namespace Go.Proofs.Ytlblkjefngofaaa
open Go.RowKit Cad Cad.Bit Cad.Code
set_option linter.unusedVariables false
set_option linter.unusedSimpArgs false


set_option maxRecDepth 100000 in
set_option maxHeartbeats 16000000 in
theorem lawDualCodes (w : World) (Ab : Option Addr) (nb cb : Nat) (Nb : Int) (xsb : List Int) (hAb : RowC .u8 w Ab nb cb xsb) (hxb : Within 0 255 xsb) (hNb : -9223372036854775808 ≤ Nb ∧ Nb ≤ 9223372036854775807) (p0 p1 q0 q1 : Int) (hp0 : -9223372036854775808 ≤ p0 ∧ p0 ≤ 9223372036854775807) (hp1 : -9223372036854775808 ≤ p1 ∧ p1 ≤ 9223372036854775807) (hq0 : 0 ≤ q0 ∧ q0 ≤ 18446744073709551615) (hq1 : 0 ≤ q1 ∧ q1 ≤ 18446744073709551615) (v : Int) (hv : 0 ≤ v ∧ v ≤ 4294967295) :
    Calls Try.prog 4 #[.agg #[.slice Ab nb cb, .int .i64 Nb], .agg #[.int .i64 p0, .int .i64 p1, .int .u64 q0, .int .u64 q1], .int .u32 v] w fun e w' => e = .returned (.bool true) ∧ Below w.heap.size w w' := by
  have hab := hAb.row
  have hcb := hAb.2
  have hrib := hab.rowIn
  by_cases hg : 190 < nb ∧ nb < 41230 ∨ 41350 < nb
  · go_enter Try.func4, Try.ntmps4
    go_wp2_with fail
    refine (rgreat_yes Ab nb cb _ _ hg).mono ?_
    rintro e w1 ⟨rfl, b1⟩
    have s1 := b1.size
    try simp only [World.size_alloc, World.size_setCell, World.size_drew, size_drewN] at s1
    obtain ⟨zb_1, zd_1, rb_1, bb_1⟩ : Blk w1 (w.heap.size) 29 [.slice Ab nb cb, .int .i64 Nb] ∧ Blk w1 (w.heap.size + 1) 37 [.int .i64 p0, .int .i64 p1, .int .u64 q0, .int .u64 q1] ∧ RowIn .u8 w1 (0) (w.heap.size) Ab nb xsb ∧ Below w.heap.size w w1 := by
      refine ⟨?_, ?_, ?_, ?_⟩
      all_goals repeat' (first | (with_reducible assumption) | (with_reducible exact Below.refl _ _) | (with_reducible refine Blk.after ?_ b1) | (with_reducible refine RowIn.belowS ?_ b1) | (with_reducible refine Below.after ?_ b1 ?_) | (with_reducible refine Blk.drewN ?_ _) | (with_reducible refine RowIn.drewN ?_ _) | (with_reducible refine below_drewN ?_ _) | (with_reducible refine Blk.drew ?_) | (with_reducible refine RowIn.drew ?_) | (with_reducible refine Below.drew ?_) | (with_reducible refine Blk.new' ?_ ?_ <;> first | (with_reducible rfl) | (simp; done)) | (with_reducible refine Blk.alloc ?_ _) | (with_reducible refine RowIn.alloc ?_ _) | (with_reducible refine Below.alloc ?_ ?_ _) | (with_reducible apply Blk.set') | (with_reducible apply Blk.far') | (with_reducible refine RowIn.far' ?_ ?_ _) | (with_reducible refine Below.far' ?_ ?_ _) | rfl | omega | go_size)
    clear b1
    have kb_1 := zb_1.cell; have fb_1 := zb_1.frozen; have lb_1 := zb_1.lt
    have kd_1 := zd_1.cell; have fd_1 := zd_1.frozen; have ld_1 := zd_1.lt
    go_wp2
    go_ret
    refine ⟨rfl, ?_⟩
    repeat' (first | (with_reducible assumption) | (with_reducible exact Below.refl _ _) | (with_reducible refine Blk.drewN ?_ _) | (with_reducible refine RowIn.drewN ?_ _) | (with_reducible refine below_drewN ?_ _) | (with_reducible refine Blk.drew ?_) | (with_reducible refine RowIn.drew ?_) | (with_reducible refine Below.drew ?_) | (with_reducible refine Blk.new' ?_ ?_ <;> first | (with_reducible rfl) | (simp; done)) | (with_reducible refine Blk.alloc ?_ _) | (with_reducible refine RowIn.alloc ?_ _) | (with_reducible refine Below.alloc ?_ ?_ _) | (with_reducible apply Blk.set') | (with_reducible apply Blk.far') | (with_reducible refine RowIn.far' ?_ ?_ _) | (with_reducible refine Below.far' ?_ ?_ _) | rfl | omega | go_size)
  obtain ⟨v, rfl⟩ := Int.eq_ofNat_of_zero_le hv.1
  have hv32 : v < 4294967296 := by omega
  by_cases hvb : ¬ Valid xsb Nb
  · by_cases hdk : ¬ DOk p0 p1 q0 q1
    · have HN := Lib.hid hdk
      clear hdk
      go_enter Try.func4, Try.ntmps4
      go_wp2_with fail
      refine (rgreat_no Ab nb cb _ _ hg).mono ?_
      rintro e w1 ⟨rfl, b1⟩
      have s1 := b1.size
      try simp only [World.size_alloc, World.size_setCell, World.size_drew, size_drewN] at s1
      obtain ⟨zb_1, zd_1, rb_1, bb_1⟩ : Blk w1 (w.heap.size) 29 [.slice Ab nb cb, .int .i64 Nb] ∧ Blk w1 (w.heap.size + 1) 37 [.int .i64 p0, .int .i64 p1, .int .u64 q0, .int .u64 q1] ∧ RowIn .u8 w1 (0) (w.heap.size) Ab nb xsb ∧ Below w.heap.size w w1 := by
        refine ⟨?_, ?_, ?_, ?_⟩
        all_goals repeat' (first | (with_reducible assumption) | (with_reducible exact Below.refl _ _) | (with_reducible refine Blk.after ?_ b1) | (with_reducible refine RowIn.belowS ?_ b1) | (with_reducible refine Below.after ?_ b1 ?_) | (with_reducible refine Blk.drewN ?_ _) | (with_reducible refine RowIn.drewN ?_ _) | (with_reducible refine below_drewN ?_ _) | (with_reducible refine Blk.drew ?_) | (with_reducible refine RowIn.drew ?_) | (with_reducible refine Below.drew ?_) | (with_reducible refine Blk.new' ?_ ?_ <;> first | (with_reducible rfl) | (simp; done)) | (with_reducible refine Blk.alloc ?_ _) | (with_reducible refine RowIn.alloc ?_ _) | (with_reducible refine Below.alloc ?_ ?_ _) | (with_reducible apply Blk.set') | (with_reducible apply Blk.far') | (with_reducible refine RowIn.far' ?_ ?_ _) | (with_reducible refine Below.far' ?_ ?_ _) | rfl | omega | go_size)
      clear b1
      have kb_1 := zb_1.cell; have fb_1 := zb_1.frozen; have lb_1 := zb_1.lt
      have kd_1 := zd_1.cell; have fd_1 := zd_1.frozen; have ld_1 := zd_1.lt
      go_wp2_with fail
      refine (rtwin_any Ab nb cb _ xsb _ rb_1.row (by omega)).mono ?_
      rintro e w2 ⟨Ao, co, rfl, own2, b2⟩
      have hco := own2.rowC.2
      have ro := own2.rowIn
      clear own2
      have s2 := b2.size
      try simp only [World.size_alloc, World.size_setCell, World.size_drew, size_drewN] at s2
      obtain ⟨zb_2, zd_2, rb_2, ro_2, bb_2⟩ : Blk w2 (w.heap.size) 29 [.slice Ab nb cb, .int .i64 Nb] ∧ Blk w2 (w.heap.size + 1) 37 [.int .i64 p0, .int .i64 p1, .int .u64 q0, .int .u64 q1] ∧ RowIn .u8 w2 (0) (w.heap.size) Ab nb xsb ∧ RowIn .u8 w2 (w1.heap.size) (w2.heap.size) Ao nb xsb ∧ Below w.heap.size w w2 := by
        refine ⟨?_, ?_, ?_, ?_, ?_⟩
        all_goals repeat' (first | (with_reducible assumption) | (with_reducible exact Below.refl _ _) | (with_reducible refine Blk.after ?_ b2) | (with_reducible refine RowIn.belowS ?_ b2) | (with_reducible refine Below.after ?_ b2 ?_) | (with_reducible refine Blk.drewN ?_ _) | (with_reducible refine RowIn.drewN ?_ _) | (with_reducible refine below_drewN ?_ _) | (with_reducible refine Blk.drew ?_) | (with_reducible refine RowIn.drew ?_) | (with_reducible refine Below.drew ?_) | (with_reducible refine Blk.new' ?_ ?_ <;> first | (with_reducible rfl) | (simp; done)) | (with_reducible refine Blk.alloc ?_ _) | (with_reducible refine RowIn.alloc ?_ _) | (with_reducible refine Below.alloc ?_ ?_ _) | (with_reducible apply Blk.set') | (with_reducible apply Blk.far') | (with_reducible refine RowIn.far' ?_ ?_ _) | (with_reducible refine Below.far' ?_ ?_ _) | rfl | omega | go_size)
      clear zb_1 zd_1 rb_1 bb_1 kb_1 fb_1 lb_1 kd_1 fd_1 ld_1 b2
      have kb_2 := zb_2.cell; have fb_2 := zb_2.frozen; have lb_2 := zb_2.lt
      have kd_2 := zd_2.cell; have fd_2 := zd_2.frozen; have ld_2 := zd_2.lt
      clear ro
      go_wp2_with fail
      refine (dLearn_bad p0 p1 q0 q1 hq0.1 hq1.1 _ _ HN.out).mono ?_
      rintro e w3 ⟨rfl, b3⟩
      have s3 := b3.size
      try simp only [World.size_alloc, World.size_setCell, World.size_drew, size_drewN] at s3
      obtain ⟨zb_3, zd_3, zo_3, rb_3, ro_3, bb_3⟩ : Blk w3 (w.heap.size) 29 [.slice Ab nb cb, .int .i64 Nb] ∧ Blk w3 (w.heap.size + 1) 37 [.int .i64 p0, .int .i64 p1, .int .u64 q0, .int .u64 q1] ∧ Blk w3 (w2.heap.size) 29 [.slice Ao nb co, .int .i64 Nb] ∧ RowIn .u8 w3 (0) (w.heap.size) Ab nb xsb ∧ RowIn .u8 w3 (w1.heap.size) (w2.heap.size) Ao nb xsb ∧ Below w.heap.size w w3 := by
        refine ⟨?_, ?_, ?_, ?_, ?_, ?_⟩
        all_goals repeat' (first | (with_reducible assumption) | (with_reducible exact Below.refl _ _) | (with_reducible refine Blk.after ?_ b3) | (with_reducible refine RowIn.belowS ?_ b3) | (with_reducible refine Below.after ?_ b3 ?_) | (with_reducible refine Blk.drewN ?_ _) | (with_reducible refine RowIn.drewN ?_ _) | (with_reducible refine below_drewN ?_ _) | (with_reducible refine Blk.drew ?_) | (with_reducible refine RowIn.drew ?_) | (with_reducible refine Below.drew ?_) | (with_reducible refine Blk.new' ?_ ?_ <;> first | (with_reducible rfl) | (simp; done)) | (with_reducible refine Blk.alloc ?_ _) | (with_reducible refine RowIn.alloc ?_ _) | (with_reducible refine Below.alloc ?_ ?_ _) | (with_reducible apply Blk.set') | (with_reducible apply Blk.far') | (with_reducible refine RowIn.far' ?_ ?_ _) | (with_reducible refine Below.far' ?_ ?_ _) | rfl | omega | go_size)
      clear zb_2 zd_2 rb_2 ro_2 bb_2 kb_2 fb_2 lb_2 kd_2 fd_2 ld_2 b3
      have kb_3 := zb_3.cell; have fb_3 := zb_3.frozen; have lb_3 := zb_3.lt
      have kd_3 := zd_3.cell; have fd_3 := zd_3.frozen; have ld_3 := zd_3.lt
      have ko_3 := zo_3.cell; have fo_3 := zo_3.frozen; have lo_3 := zo_3.lt
      go_wp2_with fail
      refine (rdLearn_bad p0 p1 q0 q1 _ _ hq0.1 hq1.1 HN.out).mono ?_
      rintro e w4 ⟨rfl, b4⟩
      have s4 := b4.size
      try simp only [World.size_alloc, World.size_setCell, World.size_drew, size_drewN] at s4
      obtain ⟨zb_4, zd_4, zo_4, zx_4, rb_4, ro_4, bb_4⟩ : Blk w4 (w.heap.size) 29 [.slice Ab nb cb, .int .i64 Nb] ∧ Blk w4 (w.heap.size + 1) 37 [.int .i64 p0, .int .i64 p1, .int .u64 q0, .int .u64 q1] ∧ Blk w4 (w2.heap.size) 29 [.slice Ao nb co, .int .i64 Nb] ∧ Blk w4 (w3.heap.size) 37 [.int .i64 0, .int .i64 0, .int .u64 0, .int .u64 0] ∧ RowIn .u8 w4 (0) (w.heap.size) Ab nb xsb ∧ RowIn .u8 w4 (w1.heap.size) (w2.heap.size) Ao nb xsb ∧ Below w.heap.size w w4 := by
        refine ⟨?_, ?_, ?_, ?_, ?_, ?_, ?_⟩
        all_goals repeat' (first | (with_reducible assumption) | (with_reducible exact Below.refl _ _) | (with_reducible refine Blk.after ?_ b4) | (with_reducible refine RowIn.belowS ?_ b4) | (with_reducible refine Below.after ?_ b4 ?_) | (with_reducible refine Blk.drewN ?_ _) | (with_reducible refine RowIn.drewN ?_ _) | (with_reducible refine below_drewN ?_ _) | (with_reducible refine Blk.drew ?_) | (with_reducible refine RowIn.drew ?_) | (with_reducible refine Below.drew ?_) | (with_reducible refine Blk.new' ?_ ?_ <;> first | (with_reducible rfl) | (simp; done)) | (with_reducible refine Blk.alloc ?_ _) | (with_reducible refine RowIn.alloc ?_ _) | (with_reducible refine Below.alloc ?_ ?_ _) | (with_reducible apply Blk.set') | (with_reducible apply Blk.far') | (with_reducible refine RowIn.far' ?_ ?_ _) | (with_reducible refine Below.far' ?_ ?_ _) | rfl | omega | go_size)
      clear zb_3 zd_3 zo_3 rb_3 ro_3 bb_3 kb_3 fb_3 lb_3 kd_3 fd_3 ld_3 ko_3 fo_3 lo_3 b4
      have kb_4 := zb_4.cell; have fb_4 := zb_4.frozen; have lb_4 := zb_4.lt
      have kd_4 := zd_4.cell; have fd_4 := zd_4.frozen; have ld_4 := zd_4.lt
      have ko_4 := zo_4.cell; have fo_4 := zo_4.frozen; have lo_4 := zo_4.lt
      have kx_4 := zx_4.cell; have fx_4 := zx_4.frozen; have lx_4 := zx_4.lt
      go_wp2_with fail
      refine (dLength_bad p0 p1 q0 q1 hq0.1 hq1.1 _ _ HN.out).mono ?_
      rintro e w5 ⟨rfl, b5⟩
      have s5 := b5.size
      try simp only [World.size_alloc, World.size_setCell, World.size_drew, size_drewN] at s5
      obtain ⟨zb_5, zd_5, zo_5, zx_5, zy_5, rb_5, ro_5, bb_5⟩ : Blk w5 (w.heap.size) 29 [.slice Ab nb cb, .int .i64 Nb] ∧ Blk w5 (w.heap.size + 1) 37 [.int .i64 p0, .int .i64 p1, .int .u64 q0, .int .u64 q1] ∧ Blk w5 (w2.heap.size) 29 [.slice Ao nb co, .int .i64 Nb] ∧ Blk w5 (w3.heap.size) 37 [.int .i64 0, .int .i64 0, .int .u64 0, .int .u64 0] ∧ Blk w5 (w4.heap.size) 37 [.int .i64 0, .int .i64 0, .int .u64 0, .int .u64 0] ∧ RowIn .u8 w5 (0) (w.heap.size) Ab nb xsb ∧ RowIn .u8 w5 (w1.heap.size) (w2.heap.size) Ao nb xsb ∧ Below w.heap.size w w5 := by
        refine ⟨?_, ?_, ?_, ?_, ?_, ?_, ?_, ?_⟩
        all_goals repeat' (first | (with_reducible assumption) | (with_reducible exact Below.refl _ _) | (with_reducible refine Blk.after ?_ b5) | (with_reducible refine RowIn.belowS ?_ b5) | (with_reducible refine Below.after ?_ b5 ?_) | (with_reducible refine Blk.drewN ?_ _) | (with_reducible refine RowIn.drewN ?_ _) | (with_reducible refine below_drewN ?_ _) | (with_reducible refine Blk.drew ?_) | (with_reducible refine RowIn.drew ?_) | (with_reducible refine Below.drew ?_) | (with_reducible refine Blk.new' ?_ ?_ <;> first | (with_reducible rfl) | (simp; done)) | (with_reducible refine Blk.alloc ?_ _) | (with_reducible refine RowIn.alloc ?_ _) | (with_reducible refine Below.alloc ?_ ?_ _) | (with_reducible apply Blk.set') | (with_reducible apply Blk.far') | (with_reducible refine RowIn.far' ?_ ?_ _) | (with_reducible refine Below.far' ?_ ?_ _) | rfl | omega | go_size)
      clear zb_4 zd_4 zo_4 zx_4 rb_4 ro_4 bb_4 kb_4 fb_4 lb_4 kd_4 fd_4 ld_4 ko_4 fo_4 lo_4 kx_4 fx_4 lx_4 b5
      have kb_5 := zb_5.cell; have fb_5 := zb_5.frozen; have lb_5 := zb_5.lt
      have kd_5 := zd_5.cell; have fd_5 := zd_5.frozen; have ld_5 := zd_5.lt
      have ko_5 := zo_5.cell; have fo_5 := zo_5.frozen; have lo_5 := zo_5.lt
      have kx_5 := zx_5.cell; have fx_5 := zx_5.frozen; have lx_5 := zx_5.lt
      have ky_5 := zy_5.cell; have fy_5 := zy_5.frozen; have ly_5 := zy_5.lt
      go_wp2_with fail
      refine (rdLength_bad p0 p1 q0 q1 _ _ hq0.1 hq1.1 HN.out).mono ?_
      rintro e w6 ⟨rfl, b6⟩
      have s6 := b6.size
      try simp only [World.size_alloc, World.size_setCell, World.size_drew, size_drewN] at s6
      obtain ⟨zb_6, zd_6, zo_6, zx_6, zy_6, rb_6, ro_6, bb_6⟩ : Blk w6 (w.heap.size) 29 [.slice Ab nb cb, .int .i64 Nb] ∧ Blk w6 (w.heap.size + 1) 37 [.int .i64 p0, .int .i64 p1, .int .u64 q0, .int .u64 q1] ∧ Blk w6 (w2.heap.size) 29 [.slice Ao nb co, .int .i64 Nb] ∧ Blk w6 (w3.heap.size) 37 [.int .i64 0, .int .i64 0, .int .u64 0, .int .u64 0] ∧ Blk w6 (w4.heap.size) 37 [.int .i64 0, .int .i64 0, .int .u64 0, .int .u64 0] ∧ RowIn .u8 w6 (0) (w.heap.size) Ab nb xsb ∧ RowIn .u8 w6 (w1.heap.size) (w2.heap.size) Ao nb xsb ∧ Below w.heap.size w w6 := by
        refine ⟨?_, ?_, ?_, ?_, ?_, ?_, ?_, ?_⟩
        all_goals repeat' (first | (with_reducible assumption) | (with_reducible exact Below.refl _ _) | (with_reducible refine Blk.after ?_ b6) | (with_reducible refine RowIn.belowS ?_ b6) | (with_reducible refine Below.after ?_ b6 ?_) | (with_reducible refine Blk.drewN ?_ _) | (with_reducible refine RowIn.drewN ?_ _) | (with_reducible refine below_drewN ?_ _) | (with_reducible refine Blk.drew ?_) | (with_reducible refine RowIn.drew ?_) | (with_reducible refine Below.drew ?_) | (with_reducible refine Blk.new' ?_ ?_ <;> first | (with_reducible rfl) | (simp; done)) | (with_reducible refine Blk.alloc ?_ _) | (with_reducible refine RowIn.alloc ?_ _) | (with_reducible refine Below.alloc ?_ ?_ _) | (with_reducible apply Blk.set') | (with_reducible apply Blk.far') | (with_reducible refine RowIn.far' ?_ ?_ _) | (with_reducible refine Below.far' ?_ ?_ _) | rfl | omega | go_size)
      clear zb_5 zd_5 zo_5 zx_5 zy_5 rb_5 ro_5 bb_5 kb_5 fb_5 lb_5 kd_5 fd_5 ld_5 ko_5 fo_5 lo_5 kx_5 fx_5 lx_5 ky_5 fy_5 ly_5 b6
      have kb_6 := zb_6.cell; have fb_6 := zb_6.frozen; have lb_6 := zb_6.lt
      have kd_6 := zd_6.cell; have fd_6 := zd_6.frozen; have ld_6 := zd_6.lt
      have ko_6 := zo_6.cell; have fo_6 := zo_6.frozen; have lo_6 := zo_6.lt
      have kx_6 := zx_6.cell; have fx_6 := zx_6.frozen; have lx_6 := zx_6.lt
      have ky_6 := zy_6.cell; have fy_6 := zy_6.frozen; have ly_6 := zy_6.lt
      go_wp2_with fail
      refine (dWrite_bad Ao nb co Nb xsb (p0 : Int) (p1 : Int) (q0 : Int) (q1 : Int) _ _ (by exact RowIn.row (lo := w1.heap.size) (hi := w2.heap.size) (by repeat' (first | (with_reducible assumption) | (with_reducible exact Below.refl _ _) | (with_reducible refine Blk.drewN ?_ _) | (with_reducible refine RowIn.drewN ?_ _) | (with_reducible refine below_drewN ?_ _) | (with_reducible refine Blk.drew ?_) | (with_reducible refine RowIn.drew ?_) | (with_reducible refine Below.drew ?_) | (with_reducible refine Blk.new' ?_ ?_ <;> first | (with_reducible rfl) | (simp; done)) | (with_reducible refine Blk.alloc ?_ _) | (with_reducible refine RowIn.alloc ?_ _) | (with_reducible refine Below.alloc ?_ ?_ _) | (with_reducible apply Blk.set') | (with_reducible apply Blk.far') | (with_reducible refine RowIn.far' ?_ ?_ _) | (with_reducible refine Below.far' ?_ ?_ _) | rfl | omega | go_size))) hxb hco hvb).mono ?_
      rintro e w7 ⟨Ap, mp, cp, xp, a0, a1, e0, e1, rfl, hcp, rp, HXp, HDp, b7⟩
      replace rp := rp.mono (lo' := w6.heap.size + 0) (by go_size) (Nat.le_refl _)
      have s7 := b7.size
      try simp only [World.size_alloc, World.size_setCell, World.size_drew, size_drewN] at s7
      obtain ⟨zb_7, zd_7, zo_7, zx_7, zy_7, rb_7, ro_7, rp_7, bb_7⟩ : Blk w7 (w.heap.size) 29 [.slice Ab nb cb, .int .i64 Nb] ∧ Blk w7 (w.heap.size + 1) 37 [.int .i64 p0, .int .i64 p1, .int .u64 q0, .int .u64 q1] ∧ Blk w7 (w2.heap.size) 29 [.slice Ao nb co, .int .i64 Nb] ∧ Blk w7 (w3.heap.size) 37 [.int .i64 0, .int .i64 0, .int .u64 0, .int .u64 0] ∧ Blk w7 (w4.heap.size) 37 [.int .i64 0, .int .i64 0, .int .u64 0, .int .u64 0] ∧ RowIn .u8 w7 (0) (w.heap.size) Ab nb xsb ∧ RowIn .u8 w7 (w1.heap.size) (w2.heap.size) Ao nb xsb ∧ RowIn .u8 w7 (w6.heap.size + 0) (w7.heap.size) Ap mp (pack xp) ∧ Below w.heap.size w w7 := by
        refine ⟨?_, ?_, ?_, ?_, ?_, ?_, ?_, ?_, ?_⟩
        all_goals repeat' (first | (with_reducible assumption) | (with_reducible exact Below.refl _ _) | (with_reducible refine Blk.after ?_ b7) | (with_reducible refine RowIn.belowS ?_ b7) | (with_reducible refine Below.after ?_ b7 ?_) | (with_reducible refine Blk.drewN ?_ _) | (with_reducible refine RowIn.drewN ?_ _) | (with_reducible refine below_drewN ?_ _) | (with_reducible refine Blk.drew ?_) | (with_reducible refine RowIn.drew ?_) | (with_reducible refine Below.drew ?_) | (with_reducible refine Blk.new' ?_ ?_ <;> first | (with_reducible rfl) | (simp; done)) | (with_reducible refine Blk.alloc ?_ _) | (with_reducible refine RowIn.alloc ?_ _) | (with_reducible refine Below.alloc ?_ ?_ _) | (with_reducible apply Blk.set') | (with_reducible apply Blk.far') | (with_reducible refine RowIn.far' ?_ ?_ _) | (with_reducible refine Below.far' ?_ ?_ _) | rfl | omega | go_size)
      clear zb_6 zd_6 zo_6 zx_6 zy_6 rb_6 ro_6 bb_6 kb_6 fb_6 lb_6 kd_6 fd_6 ld_6 ko_6 fo_6 lo_6 kx_6 fx_6 lx_6 ky_6 fy_6 ly_6 b7
      have kb_7 := zb_7.cell; have fb_7 := zb_7.frozen; have lb_7 := zb_7.lt
      have kd_7 := zd_7.cell; have fd_7 := zd_7.frozen; have ld_7 := zd_7.lt
      have ko_7 := zo_7.cell; have fo_7 := zo_7.frozen; have lo_7 := zo_7.lt
      have kx_7 := zx_7.cell; have fx_7 := zx_7.frozen; have lx_7 := zx_7.lt
      have ky_7 := zy_7.cell; have fy_7 := zy_7.frozen; have ly_7 := zy_7.lt
      clear rp
      go_wp2_with fail
      refine (rdwrite_bad Ab nb cb Nb xsb (p0 : Int) (p1 : Int) (q0 : Int) (q1 : Int) _ _ (by exact RowIn.row (lo := 0) (hi := w.heap.size) (by repeat' (first | (with_reducible assumption) | (with_reducible exact Below.refl _ _) | (with_reducible refine Blk.drewN ?_ _) | (with_reducible refine RowIn.drewN ?_ _) | (with_reducible refine below_drewN ?_ _) | (with_reducible refine Blk.drew ?_) | (with_reducible refine RowIn.drew ?_) | (with_reducible refine Below.drew ?_) | (with_reducible refine Blk.new' ?_ ?_ <;> first | (with_reducible rfl) | (simp; done)) | (with_reducible refine Blk.alloc ?_ _) | (with_reducible refine RowIn.alloc ?_ _) | (with_reducible refine Below.alloc ?_ ?_ _) | (with_reducible apply Blk.set') | (with_reducible apply Blk.far') | (with_reducible refine RowIn.far' ?_ ?_ _) | (with_reducible refine Below.far' ?_ ?_ _) | rfl | omega | go_size))) hxb hcb hvb).mono ?_
      rintro e w8 ⟨Aq, mq, cq, xq, c0, c1, f0, f1, rfl, hcq, rq, HXq, HDq, b8⟩
      replace rq := rq.mono (lo' := w7.heap.size + 1) (by go_size) (Nat.le_refl _)
      have s8 := b8.size
      try simp only [World.size_alloc, World.size_setCell, World.size_drew, size_drewN] at s8
      obtain ⟨zb_8, zd_8, zo_8, zx_8, zy_8, zp_8, zup_8, rb_8, ro_8, rp_8, rq_8, bb_8⟩ : Blk w8 (w.heap.size) 29 [.slice Ab nb cb, .int .i64 Nb] ∧ Blk w8 (w.heap.size + 1) 37 [.int .i64 p0, .int .i64 p1, .int .u64 q0, .int .u64 q1] ∧ Blk w8 (w2.heap.size) 29 [.slice Ao nb co, .int .i64 Nb] ∧ Blk w8 (w3.heap.size) 37 [.int .i64 0, .int .i64 0, .int .u64 0, .int .u64 0] ∧ Blk w8 (w4.heap.size) 37 [.int .i64 0, .int .i64 0, .int .u64 0, .int .u64 0] ∧ Blk w8 (w7.heap.size) 29 [.slice Ap mp cp, .int .i64 ((xp.length : Nat) : Int)] ∧ Blk w8 (w7.heap.size + 1) 37 [.int .i64 (a0 : Int), .int .i64 (a1 : Int), .int .u64 (e0 : Int), .int .u64 (e1 : Int)] ∧ RowIn .u8 w8 (0) (w.heap.size) Ab nb xsb ∧ RowIn .u8 w8 (w1.heap.size) (w2.heap.size) Ao nb xsb ∧ RowIn .u8 w8 (w6.heap.size + 0) (w7.heap.size) Ap mp (pack xp) ∧ RowIn .u8 w8 (w7.heap.size + 1) (w8.heap.size) Aq mq (pack xq) ∧ Below w.heap.size w w8 := by
        refine ⟨?_, ?_, ?_, ?_, ?_, ?_, ?_, ?_, ?_, ?_, ?_, ?_⟩
        all_goals repeat' (first | (with_reducible assumption) | (with_reducible exact Below.refl _ _) | (with_reducible refine Blk.after ?_ b8) | (with_reducible refine RowIn.belowS ?_ b8) | (with_reducible refine Below.after ?_ b8 ?_) | (with_reducible refine Blk.drewN ?_ _) | (with_reducible refine RowIn.drewN ?_ _) | (with_reducible refine below_drewN ?_ _) | (with_reducible refine Blk.drew ?_) | (with_reducible refine RowIn.drew ?_) | (with_reducible refine Below.drew ?_) | (with_reducible refine Blk.new' ?_ ?_ <;> first | (with_reducible rfl) | (simp; done)) | (with_reducible refine Blk.alloc ?_ _) | (with_reducible refine RowIn.alloc ?_ _) | (with_reducible refine Below.alloc ?_ ?_ _) | (with_reducible apply Blk.set') | (with_reducible apply Blk.far') | (with_reducible refine RowIn.far' ?_ ?_ _) | (with_reducible refine Below.far' ?_ ?_ _) | rfl | omega | go_size)
      clear zb_7 zd_7 zo_7 zx_7 zy_7 rb_7 ro_7 rp_7 bb_7 kb_7 fb_7 lb_7 kd_7 fd_7 ld_7 ko_7 fo_7 lo_7 kx_7 fx_7 lx_7 ky_7 fy_7 ly_7 b8
      have kb_8 := zb_8.cell; have fb_8 := zb_8.frozen; have lb_8 := zb_8.lt
      have kd_8 := zd_8.cell; have fd_8 := zd_8.frozen; have ld_8 := zd_8.lt
      have ko_8 := zo_8.cell; have fo_8 := zo_8.frozen; have lo_8 := zo_8.lt
      have kx_8 := zx_8.cell; have fx_8 := zx_8.frozen; have lx_8 := zx_8.lt
      have ky_8 := zy_8.cell; have fy_8 := zy_8.frozen; have ly_8 := zy_8.lt
      have kp_8 := zp_8.cell; have fp_8 := zp_8.frozen; have lp_8 := zp_8.lt
      have kup_8 := zup_8.cell; have fup_8 := zup_8.frozen; have lup_8 := zup_8.lt
      clear rq
      go_wp2_with fail
      have he := HDp.out.trans HDq.out.symm
      injection he with he0 he1 he2 he3
      obtain rfl : a0 = c0 := he0
      obtain rfl : a1 = c1 := he1
      obtain rfl : e0 = f0 := he2
      obtain rfl : e1 = f1 := he3
      clear HDp HDq
      have HE : Hid (xp = xq) := by rw [HXp.out, HXq.out]; exact Lib.hid rfl
      obtain ⟨w9, hw9⟩ : ∃ w9, w9 = (w8.alloc (.cells #[.slice Aq mq cq, .int .i64 ((xq.length : Nat) : Int)] 29)).alloc (.cells #[.int .i64 (a0 : Int), .int .i64 (a1 : Int), .int .u64 (e0 : Int), .int .u64 (e1 : Int)] 37) := ⟨_, rfl⟩
      obtain ⟨zb_9, zd_9, zo_9, zx_9, zy_9, zp_9, zup_9, zq_9, zuq_9, rb_9, ro_9, rp_9, rq_9, bb_9, s9⟩ : Blk w9 (w.heap.size) 29 [.slice Ab nb cb, .int .i64 Nb] ∧ Blk w9 (w.heap.size + 1) 37 [.int .i64 p0, .int .i64 p1, .int .u64 q0, .int .u64 q1] ∧ Blk w9 (w2.heap.size) 29 [.slice Ao nb co, .int .i64 Nb] ∧ Blk w9 (w3.heap.size) 37 [.int .i64 0, .int .i64 0, .int .u64 0, .int .u64 0] ∧ Blk w9 (w4.heap.size) 37 [.int .i64 0, .int .i64 0, .int .u64 0, .int .u64 0] ∧ Blk w9 (w7.heap.size) 29 [.slice Ap mp cp, .int .i64 ((xp.length : Nat) : Int)] ∧ Blk w9 (w7.heap.size + 1) 37 [.int .i64 (a0 : Int), .int .i64 (a1 : Int), .int .u64 (e0 : Int), .int .u64 (e1 : Int)] ∧ Blk w9 (w8.heap.size) 29 [.slice Aq mq cq, .int .i64 ((xq.length : Nat) : Int)] ∧ Blk w9 (w8.heap.size + 1) 37 [.int .i64 (a0 : Int), .int .i64 (a1 : Int), .int .u64 (e0 : Int), .int .u64 (e1 : Int)] ∧ RowIn .u8 w9 (0) (w.heap.size) Ab nb xsb ∧ RowIn .u8 w9 (w1.heap.size) (w2.heap.size) Ao nb xsb ∧ RowIn .u8 w9 (w6.heap.size + 0) (w7.heap.size) Ap mp (pack xp) ∧ RowIn .u8 w9 (w7.heap.size + 1) (w8.heap.size) Aq mq (pack xq) ∧ Below w.heap.size w w9 ∧ w8.heap.size ≤ w9.heap.size := by
        rw [hw9]
        refine ⟨?_, ?_, ?_, ?_, ?_, ?_, ?_, ?_, ?_, ?_, ?_, ?_, ?_, ?_, by go_size⟩
        all_goals repeat' (first | (with_reducible assumption) | (with_reducible exact Below.refl _ _) | (with_reducible refine Blk.drewN ?_ _) | (with_reducible refine RowIn.drewN ?_ _) | (with_reducible refine below_drewN ?_ _) | (with_reducible refine Blk.drew ?_) | (with_reducible refine RowIn.drew ?_) | (with_reducible refine Below.drew ?_) | (with_reducible refine Blk.new' ?_ ?_ <;> first | (with_reducible rfl) | (simp; done)) | (with_reducible refine Blk.alloc ?_ _) | (with_reducible refine RowIn.alloc ?_ _) | (with_reducible refine Below.alloc ?_ ?_ _) | (with_reducible apply Blk.set') | (with_reducible apply Blk.far') | (with_reducible refine RowIn.far' ?_ ?_ _) | (with_reducible refine Below.far' ?_ ?_ _) | rfl | omega | go_size)
      rw [← hw9]
      clear hw9
      clear zb_8 zd_8 zo_8 zx_8 zy_8 zp_8 zup_8 rb_8 ro_8 rp_8 rq_8 bb_8 kb_8 fb_8 lb_8 kd_8 fd_8 ld_8 ko_8 fo_8 lo_8 kx_8 fx_8 lx_8 ky_8 fy_8 ly_8 kp_8 fp_8 lp_8 kup_8 fup_8 lup_8
      have kb_9 := zb_9.cell; have fb_9 := zb_9.frozen; have lb_9 := zb_9.lt
      have kd_9 := zd_9.cell; have fd_9 := zd_9.frozen; have ld_9 := zd_9.lt
      have ko_9 := zo_9.cell; have fo_9 := zo_9.frozen; have lo_9 := zo_9.lt
      have kx_9 := zx_9.cell; have fx_9 := zx_9.frozen; have lx_9 := zx_9.lt
      have ky_9 := zy_9.cell; have fy_9 := zy_9.frozen; have ly_9 := zy_9.lt
      have kp_9 := zp_9.cell; have fp_9 := zp_9.frozen; have lp_9 := zp_9.lt
      have kup_9 := zup_9.cell; have fup_9 := zup_9.frozen; have lup_9 := zup_9.lt
      have kq_9 := zq_9.cell; have fq_9 := zq_9.frozen; have lq_9 := zq_9.lt
      have kuq_9 := zuq_9.cell; have fuq_9 := zuq_9.frozen; have luq_9 := zuq_9.lt
      have kb_9d := (Blk.drew zb_9).cell; have kd_9d := (Blk.drew zd_9).cell; have ko_9d := (Blk.drew zo_9).cell; have kx_9d := (Blk.drew zx_9).cell; have ky_9d := (Blk.drew zy_9).cell; have kp_9d := (Blk.drew zp_9).cell; have kup_9d := (Blk.drew zup_9).cell; have kq_9d := (Blk.drew zq_9).cell; have kuq_9d := (Blk.drew zuq_9).cell
      go_region_held3 (fun w' => (∀ a, w'.cell? ⟨w.heap.size, a, none⟩ = [.slice Ab nb cb, .int .i64 Nb][a]?) ∧ (∀ a, w'.cell? ⟨w.heap.size + 1, a, none⟩ = [.int .i64 p0, .int .i64 p1, .int .u64 q0, .int .u64 q1][a]?) ∧ (∀ a, w'.cell? ⟨w2.heap.size, a, none⟩ = [.slice Ao nb co, .int .i64 Nb][a]?) ∧ (∀ a, w'.cell? ⟨w3.heap.size, a, none⟩ = [.int .i64 0, .int .i64 0, .int .u64 0, .int .u64 0][a]?) ∧ (∀ a, w'.cell? ⟨w4.heap.size, a, none⟩ = [.int .i64 0, .int .i64 0, .int .u64 0, .int .u64 0][a]?) ∧ (∀ a, w'.cell? ⟨w7.heap.size, a, none⟩ = [.slice Ap mp cp, .int .i64 ((xp.length : Nat) : Int)][a]?) ∧ (∀ a, w'.cell? ⟨w7.heap.size + 1, a, none⟩ = [.int .i64 (a0 : Int), .int .i64 (a1 : Int), .int .u64 (e0 : Int), .int .u64 (e1 : Int)][a]?) ∧ (∀ a, w'.cell? ⟨w8.heap.size, a, none⟩ = [.slice Aq mq cq, .int .i64 ((xq.length : Nat) : Int)][a]?) ∧ (∀ a, w'.cell? ⟨w8.heap.size + 1, a, none⟩ = [.int .i64 (a0 : Int), .int .i64 (a1 : Int), .int .u64 (e0 : Int), .int .u64 (e1 : Int)][a]?)) (first | with_reducible exact ⟨kb_9, kd_9, ko_9, kx_9, ky_9, kp_9, kup_9, kq_9, kuq_9⟩ | with_reducible exact ⟨kb_9d, kd_9d, ko_9d, kx_9d, ky_9d, kp_9d, kup_9d, kq_9d, kuq_9d⟩ | with_reducible exact ⟨kb_10, kd_10, ko_10, kx_10, ky_10, kp_10, kup_10, kq_10, kuq_10⟩ | with_reducible exact ⟨kb_11, kd_11, ko_11, kx_11, ky_11, kp_11, kup_11, kq_11, kuq_11⟩ | with_reducible exact ⟨kb_12, kd_12, ko_12, kx_12, ky_12, kp_12, kup_12, kq_12, kuq_12⟩ | with_reducible exact ⟨kb_13, kd_13, ko_13, kx_13, ky_13, kp_13, kup_13, kq_13, kuq_13⟩ | with_reducible exact ⟨kb_14, kd_14, ko_14, kx_14, ky_14, kp_14, kup_14, kq_14, kuq_14⟩ | with_reducible exact ⟨kb_15, kd_15, ko_15, kx_15, ky_15, kp_15, kup_15, kq_15, kuq_15⟩) (first
        | (go_simp; go_at_call 19; refine (dstart_ok _).mono ?_
           rintro e w10 ⟨rfl, b10⟩
           have s10 : w9.heap.size ≤ w10.heap.size := b10.size
           have zb_10 := ((Blk.drew zb_9)).after b10; have kb_10 := zb_10.cell; have fb_10 := zb_10.frozen; have lb_10 := zb_10.lt
           have zd_10 := ((Blk.drew zd_9)).after b10; have kd_10 := zd_10.cell; have fd_10 := zd_10.frozen; have ld_10 := zd_10.lt
           have zo_10 := ((Blk.drew zo_9)).after b10; have ko_10 := zo_10.cell; have fo_10 := zo_10.frozen; have lo_10 := zo_10.lt
           have zx_10 := ((Blk.drew zx_9)).after b10; have kx_10 := zx_10.cell; have fx_10 := zx_10.frozen; have lx_10 := zx_10.lt
           have zy_10 := ((Blk.drew zy_9)).after b10; have ky_10 := zy_10.cell; have fy_10 := zy_10.frozen; have ly_10 := zy_10.lt
           have zp_10 := ((Blk.drew zp_9)).after b10; have kp_10 := zp_10.cell; have fp_10 := zp_10.frozen; have lp_10 := zp_10.lt
           have zup_10 := ((Blk.drew zup_9)).after b10; have kup_10 := zup_10.cell; have fup_10 := zup_10.frozen; have lup_10 := zup_10.lt
           have zq_10 := ((Blk.drew zq_9)).after b10; have kq_10 := zq_10.cell; have fq_10 := zq_10.frozen; have lq_10 := zq_10.lt
           have zuq_10 := ((Blk.drew zuq_9)).after b10; have kuq_10 := zuq_10.cell; have fuq_10 := zuq_10.frozen; have luq_10 := zuq_10.lt
           have rb_10 := ((RowIn.drew rb_9)).belowS b10
           have ro_10 := ((RowIn.drew ro_9)).belowS b10
           have rp_10 := ((RowIn.drew rp_9)).belowS b10
           have rq_10 := ((RowIn.drew rq_9)).belowS b10
           have bb_10 := Below.after (Below.drew bb_9) b10 bb_9.size)
        | (go_simp; go_at_call 20; refine (rdstart_ok _).mono ?_
           rintro e w11 ⟨rfl, b11⟩
           have s11 : w10.heap.size ≤ w11.heap.size := b11.size
           have zb_11 := (zb_10).after b11; have kb_11 := zb_11.cell; have fb_11 := zb_11.frozen; have lb_11 := zb_11.lt
           have zd_11 := (zd_10).after b11; have kd_11 := zd_11.cell; have fd_11 := zd_11.frozen; have ld_11 := zd_11.lt
           have zo_11 := (zo_10).after b11; have ko_11 := zo_11.cell; have fo_11 := zo_11.frozen; have lo_11 := zo_11.lt
           have zx_11 := (zx_10).after b11; have kx_11 := zx_11.cell; have fx_11 := zx_11.frozen; have lx_11 := zx_11.lt
           have zy_11 := (zy_10).after b11; have ky_11 := zy_11.cell; have fy_11 := zy_11.frozen; have ly_11 := zy_11.lt
           have zp_11 := (zp_10).after b11; have kp_11 := zp_11.cell; have fp_11 := zp_11.frozen; have lp_11 := zp_11.lt
           have zup_11 := (zup_10).after b11; have kup_11 := zup_11.cell; have fup_11 := zup_11.frozen; have lup_11 := zup_11.lt
           have zq_11 := (zq_10).after b11; have kq_11 := zq_11.cell; have fq_11 := zq_11.frozen; have lq_11 := zq_11.lt
           have zuq_11 := (zuq_10).after b11; have kuq_11 := zuq_11.cell; have fuq_11 := zuq_11.frozen; have luq_11 := zuq_11.lt
           have rb_11 := (rb_10).belowS b11
           have ro_11 := (ro_10).belowS b11
           have rp_11 := (rp_10).belowS b11
           have rq_11 := (rq_10).belowS b11
           have bb_11 := Below.after bb_10 b11 bb_10.size)
        | (go_simp; go_at_call 21; refine (dcheck_bad p0 p1 q0 q1 _ hq0.1 hq1.1 HN.out).mono ?_
           rintro e w12 ⟨rfl, b12⟩
           have s12 : w11.heap.size ≤ w12.heap.size := b12.size
           have zb_12 := (zb_11).after b12; have kb_12 := zb_12.cell; have fb_12 := zb_12.frozen; have lb_12 := zb_12.lt
           have zd_12 := (zd_11).after b12; have kd_12 := zd_12.cell; have fd_12 := zd_12.frozen; have ld_12 := zd_12.lt
           have zo_12 := (zo_11).after b12; have ko_12 := zo_12.cell; have fo_12 := zo_12.frozen; have lo_12 := zo_12.lt
           have zx_12 := (zx_11).after b12; have kx_12 := zx_12.cell; have fx_12 := zx_12.frozen; have lx_12 := zx_12.lt
           have zy_12 := (zy_11).after b12; have ky_12 := zy_12.cell; have fy_12 := zy_12.frozen; have ly_12 := zy_12.lt
           have zp_12 := (zp_11).after b12; have kp_12 := zp_12.cell; have fp_12 := zp_12.frozen; have lp_12 := zp_12.lt
           have zup_12 := (zup_11).after b12; have kup_12 := zup_12.cell; have fup_12 := zup_12.frozen; have lup_12 := zup_12.lt
           have zq_12 := (zq_11).after b12; have kq_12 := zq_12.cell; have fq_12 := zq_12.frozen; have lq_12 := zq_12.lt
           have zuq_12 := (zuq_11).after b12; have kuq_12 := zuq_12.cell; have fuq_12 := zuq_12.frozen; have luq_12 := zuq_12.lt
           have rb_12 := (rb_11).belowS b12
           have ro_12 := (ro_11).belowS b12
           have rp_12 := (rp_11).belowS b12
           have rq_12 := (rq_11).belowS b12
           have bb_12 := Below.after bb_11 b12 bb_11.size)
        | (go_simp; go_at_call 22; refine (rdcheck_any p0 p1 q0 q1 8 _ hq0.1 hq1.1 (by rw [if_neg HN.out])).mono ?_
           rintro e w13 ⟨rfl, b13⟩
           have s13 : w12.heap.size ≤ w13.heap.size := b13.size
           have zb_13 := (zb_12).after b13; have kb_13 := zb_13.cell; have fb_13 := zb_13.frozen; have lb_13 := zb_13.lt
           have zd_13 := (zd_12).after b13; have kd_13 := zd_13.cell; have fd_13 := zd_13.frozen; have ld_13 := zd_13.lt
           have zo_13 := (zo_12).after b13; have ko_13 := zo_13.cell; have fo_13 := zo_13.frozen; have lo_13 := zo_13.lt
           have zx_13 := (zx_12).after b13; have kx_13 := zx_13.cell; have fx_13 := zx_13.frozen; have lx_13 := zx_13.lt
           have zy_13 := (zy_12).after b13; have ky_13 := zy_13.cell; have fy_13 := zy_13.frozen; have ly_13 := zy_13.lt
           have zp_13 := (zp_12).after b13; have kp_13 := zp_13.cell; have fp_13 := zp_13.frozen; have lp_13 := zp_13.lt
           have zup_13 := (zup_12).after b13; have kup_13 := zup_13.cell; have fup_13 := zup_13.frozen; have lup_13 := zup_13.lt
           have zq_13 := (zq_12).after b13; have kq_13 := zq_13.cell; have fq_13 := zq_13.frozen; have lq_13 := zq_13.lt
           have zuq_13 := (zuq_12).after b13; have kuq_13 := zuq_13.cell; have fuq_13 := zuq_13.frozen; have luq_13 := zuq_13.lt
           have rb_13 := (rb_12).belowS b13
           have ro_13 := (ro_12).belowS b13
           have rp_13 := (rp_12).belowS b13
           have rq_13 := (rq_12).belowS b13
           have bb_13 := Below.after bb_12 b13 bb_12.size)
        | (go_simp; go_at_call_of 10 Ap; refine (rsame_bits Ap Aq mp mq cp cq xp xq _ rp_13.row rq_13.row HE.out).mono ?_
           rintro e w14 ⟨rfl, b14⟩
           have s14 : w13.heap.size ≤ w14.heap.size := b14.size
           have zb_14 := (zb_13).after b14; have kb_14 := zb_14.cell; have fb_14 := zb_14.frozen; have lb_14 := zb_14.lt
           have zd_14 := (zd_13).after b14; have kd_14 := zd_14.cell; have fd_14 := zd_14.frozen; have ld_14 := zd_14.lt
           have zo_14 := (zo_13).after b14; have ko_14 := zo_14.cell; have fo_14 := zo_14.frozen; have lo_14 := zo_14.lt
           have zx_14 := (zx_13).after b14; have kx_14 := zx_14.cell; have fx_14 := zx_14.frozen; have lx_14 := zx_14.lt
           have zy_14 := (zy_13).after b14; have ky_14 := zy_14.cell; have fy_14 := zy_14.frozen; have ly_14 := zy_14.lt
           have zp_14 := (zp_13).after b14; have kp_14 := zp_14.cell; have fp_14 := zp_14.frozen; have lp_14 := zp_14.lt
           have zup_14 := (zup_13).after b14; have kup_14 := zup_14.cell; have fup_14 := zup_14.frozen; have lup_14 := zup_14.lt
           have zq_14 := (zq_13).after b14; have kq_14 := zq_14.cell; have fq_14 := zq_14.frozen; have lq_14 := zq_14.lt
           have zuq_14 := (zuq_13).after b14; have kuq_14 := zuq_14.cell; have fuq_14 := zuq_14.frozen; have luq_14 := zuq_14.lt
           have rb_14 := (rb_13).belowS b14
           have ro_14 := (ro_13).belowS b14
           have rp_14 := (rp_13).belowS b14
           have rq_14 := (rq_13).belowS b14
           have bb_14 := Below.after bb_13 b14 bb_13.size)
        | (go_simp; go_at_call_of 10 Ao; refine (rsame_eq Ao Ab nb nb co cb _ _ _ _ _ ro_14.row rb_14.row hxb hxb rfl rfl).mono ?_
           rintro e w15 ⟨rfl, b15⟩
           have s15 : w14.heap.size ≤ w15.heap.size := b15.size
           have zb_15 := (zb_14).after b15; have kb_15 := zb_15.cell; have fb_15 := zb_15.frozen; have lb_15 := zb_15.lt
           have zd_15 := (zd_14).after b15; have kd_15 := zd_15.cell; have fd_15 := zd_15.frozen; have ld_15 := zd_15.lt
           have zo_15 := (zo_14).after b15; have ko_15 := zo_15.cell; have fo_15 := zo_15.frozen; have lo_15 := zo_15.lt
           have zx_15 := (zx_14).after b15; have kx_15 := zx_15.cell; have fx_15 := zx_15.frozen; have lx_15 := zx_15.lt
           have zy_15 := (zy_14).after b15; have ky_15 := zy_15.cell; have fy_15 := zy_15.frozen; have ly_15 := zy_15.lt
           have zp_15 := (zp_14).after b15; have kp_15 := zp_15.cell; have fp_15 := zp_15.frozen; have lp_15 := zp_15.lt
           have zup_15 := (zup_14).after b15; have kup_15 := zup_15.cell; have fup_15 := zup_15.frozen; have lup_15 := zup_15.lt
           have zq_15 := (zq_14).after b15; have kq_15 := zq_15.cell; have fq_15 := zq_15.frozen; have lq_15 := zq_15.lt
           have zuq_15 := (zuq_14).after b15; have kuq_15 := zuq_15.cell; have fuq_15 := zuq_15.frozen; have luq_15 := zuq_15.lt
           have rb_15 := (rb_14).belowS b15
           have ro_15 := (ro_14).belowS b15
           have rp_15 := (rp_14).belowS b15
           have rq_15 := (rq_14).belowS b15
           have bb_15 := Below.after bb_14 b15 bb_14.size))
      all_goals
        go_wp2
        go_ret
        refine ⟨rfl, ?_⟩
        repeat' (first | (with_reducible assumption) | (with_reducible exact Below.refl _ _) | (with_reducible refine Blk.drewN ?_ _) | (with_reducible refine RowIn.drewN ?_ _) | (with_reducible refine below_drewN ?_ _) | (with_reducible refine Blk.drew ?_) | (with_reducible refine RowIn.drew ?_) | (with_reducible refine Below.drew ?_) | (with_reducible refine Blk.new' ?_ ?_ <;> first | (with_reducible rfl) | (simp; done)) | (with_reducible refine Blk.alloc ?_ _) | (with_reducible refine RowIn.alloc ?_ _) | (with_reducible refine Below.alloc ?_ ?_ _) | (with_reducible apply Blk.set') | (with_reducible apply Blk.far') | (with_reducible refine RowIn.far' ?_ ?_ _) | (with_reducible refine Below.far' ?_ ?_ _) | rfl | omega | go_size)
    · obtain ⟨p0, p1, q0, q1, rfl, rfl, rfl, rfl, hd⟩ := dok_dual hq0.1 hq1.1 (Decidable.not_not.1 hdk)
      have HD := Lib.hid hd
      have HDK : Hid (DOk (p0 : Int) (p1 : Int) (q0 : Int) (q1 : Int)) := Lib.hid (Decidable.not_not.1 hdk)
      clear hdk hd hp0 hp1 hq0 hq1
      go_enter Try.func4, Try.ntmps4
      go_wp2_with fail
      refine (rgreat_no Ab nb cb _ _ hg).mono ?_
      rintro e w1 ⟨rfl, b1⟩
      have s1 := b1.size
      try simp only [World.size_alloc, World.size_setCell, World.size_drew, size_drewN] at s1
      obtain ⟨zb_1, zd_1, rb_1, bb_1⟩ : Blk w1 (w.heap.size) 29 [.slice Ab nb cb, .int .i64 Nb] ∧ Blk w1 (w.heap.size + 1) 37 [.int .i64 (p0 : Int), .int .i64 (p1 : Int), .int .u64 (q0 : Int), .int .u64 (q1 : Int)] ∧ RowIn .u8 w1 (0) (w.heap.size) Ab nb xsb ∧ Below w.heap.size w w1 := by
        refine ⟨?_, ?_, ?_, ?_⟩
        all_goals repeat' (first | (with_reducible assumption) | (with_reducible exact Below.refl _ _) | (with_reducible refine Blk.after ?_ b1) | (with_reducible refine RowIn.belowS ?_ b1) | (with_reducible refine Below.after ?_ b1 ?_) | (with_reducible refine Blk.drewN ?_ _) | (with_reducible refine RowIn.drewN ?_ _) | (with_reducible refine below_drewN ?_ _) | (with_reducible refine Blk.drew ?_) | (with_reducible refine RowIn.drew ?_) | (with_reducible refine Below.drew ?_) | (with_reducible refine Blk.new' ?_ ?_ <;> first | (with_reducible rfl) | (simp; done)) | (with_reducible refine Blk.alloc ?_ _) | (with_reducible refine RowIn.alloc ?_ _) | (with_reducible refine Below.alloc ?_ ?_ _) | (with_reducible apply Blk.set') | (with_reducible apply Blk.far') | (with_reducible refine RowIn.far' ?_ ?_ _) | (with_reducible refine Below.far' ?_ ?_ _) | rfl | omega | go_size)
      clear b1
      have kb_1 := zb_1.cell; have fb_1 := zb_1.frozen; have lb_1 := zb_1.lt
      have kd_1 := zd_1.cell; have fd_1 := zd_1.frozen; have ld_1 := zd_1.lt
      go_wp2_with fail
      refine (rtwin_any Ab nb cb _ xsb _ rb_1.row (by omega)).mono ?_
      rintro e w2 ⟨Ao, co, rfl, own2, b2⟩
      have hco := own2.rowC.2
      have ro := own2.rowIn
      clear own2
      have s2 := b2.size
      try simp only [World.size_alloc, World.size_setCell, World.size_drew, size_drewN] at s2
      obtain ⟨zb_2, zd_2, rb_2, ro_2, bb_2⟩ : Blk w2 (w.heap.size) 29 [.slice Ab nb cb, .int .i64 Nb] ∧ Blk w2 (w.heap.size + 1) 37 [.int .i64 (p0 : Int), .int .i64 (p1 : Int), .int .u64 (q0 : Int), .int .u64 (q1 : Int)] ∧ RowIn .u8 w2 (0) (w.heap.size) Ab nb xsb ∧ RowIn .u8 w2 (w1.heap.size) (w2.heap.size) Ao nb xsb ∧ Below w.heap.size w w2 := by
        refine ⟨?_, ?_, ?_, ?_, ?_⟩
        all_goals repeat' (first | (with_reducible assumption) | (with_reducible exact Below.refl _ _) | (with_reducible refine Blk.after ?_ b2) | (with_reducible refine RowIn.belowS ?_ b2) | (with_reducible refine Below.after ?_ b2 ?_) | (with_reducible refine Blk.drewN ?_ _) | (with_reducible refine RowIn.drewN ?_ _) | (with_reducible refine below_drewN ?_ _) | (with_reducible refine Blk.drew ?_) | (with_reducible refine RowIn.drew ?_) | (with_reducible refine Below.drew ?_) | (with_reducible refine Blk.new' ?_ ?_ <;> first | (with_reducible rfl) | (simp; done)) | (with_reducible refine Blk.alloc ?_ _) | (with_reducible refine RowIn.alloc ?_ _) | (with_reducible refine Below.alloc ?_ ?_ _) | (with_reducible apply Blk.set') | (with_reducible apply Blk.far') | (with_reducible refine RowIn.far' ?_ ?_ _) | (with_reducible refine Below.far' ?_ ?_ _) | rfl | omega | go_size)
      clear zb_1 zd_1 rb_1 bb_1 kb_1 fb_1 lb_1 kd_1 fd_1 ld_1 b2
      have kb_2 := zb_2.cell; have fb_2 := zb_2.frozen; have lb_2 := zb_2.lt
      have kd_2 := zd_2.cell; have fd_2 := zd_2.frozen; have ld_2 := zd_2.lt
      clear ro
      go_wp2_with fail
      refine (dLearn_ok p0 p1 q0 q1 v _ HD.out hv32).mono ?_
      rintro e w3 ⟨u0, u1, v0, v1, rfl, HA, b3⟩
      have s3 := b3.size
      try simp only [World.size_alloc, World.size_setCell, World.size_drew, size_drewN] at s3
      obtain ⟨zb_3, zd_3, zo_3, rb_3, ro_3, bb_3⟩ : Blk w3 (w.heap.size) 29 [.slice Ab nb cb, .int .i64 Nb] ∧ Blk w3 (w.heap.size + 1) 37 [.int .i64 (p0 : Int), .int .i64 (p1 : Int), .int .u64 (q0 : Int), .int .u64 (q1 : Int)] ∧ Blk w3 (w2.heap.size) 29 [.slice Ao nb co, .int .i64 Nb] ∧ RowIn .u8 w3 (0) (w.heap.size) Ab nb xsb ∧ RowIn .u8 w3 (w1.heap.size) (w2.heap.size) Ao nb xsb ∧ Below w.heap.size w w3 := by
        refine ⟨?_, ?_, ?_, ?_, ?_, ?_⟩
        all_goals repeat' (first | (with_reducible assumption) | (with_reducible exact Below.refl _ _) | (with_reducible refine Blk.after ?_ b3) | (with_reducible refine RowIn.belowS ?_ b3) | (with_reducible refine Below.after ?_ b3 ?_) | (with_reducible refine Blk.drewN ?_ _) | (with_reducible refine RowIn.drewN ?_ _) | (with_reducible refine below_drewN ?_ _) | (with_reducible refine Blk.drew ?_) | (with_reducible refine RowIn.drew ?_) | (with_reducible refine Below.drew ?_) | (with_reducible refine Blk.new' ?_ ?_ <;> first | (with_reducible rfl) | (simp; done)) | (with_reducible refine Blk.alloc ?_ _) | (with_reducible refine RowIn.alloc ?_ _) | (with_reducible refine Below.alloc ?_ ?_ _) | (with_reducible apply Blk.set') | (with_reducible apply Blk.far') | (with_reducible refine RowIn.far' ?_ ?_ _) | (with_reducible refine Below.far' ?_ ?_ _) | rfl | omega | go_size)
      clear zb_2 zd_2 rb_2 ro_2 bb_2 kb_2 fb_2 lb_2 kd_2 fd_2 ld_2 b3
      have kb_3 := zb_3.cell; have fb_3 := zb_3.frozen; have lb_3 := zb_3.lt
      have kd_3 := zd_3.cell; have fd_3 := zd_3.frozen; have ld_3 := zd_3.lt
      have ko_3 := zo_3.cell; have fo_3 := zo_3.frozen; have lo_3 := zo_3.lt
      go_wp2_with fail
      refine (rdLearn_ok p0 p1 q0 q1 v _ HD.out hv32).mono ?_
      rintro e w4 ⟨s0, s1, t0, t1, rfl, HB, b4⟩
      have s4 := b4.size
      try simp only [World.size_alloc, World.size_setCell, World.size_drew, size_drewN] at s4
      obtain ⟨zb_4, zd_4, zo_4, zx_4, rb_4, ro_4, bb_4⟩ : Blk w4 (w.heap.size) 29 [.slice Ab nb cb, .int .i64 Nb] ∧ Blk w4 (w.heap.size + 1) 37 [.int .i64 (p0 : Int), .int .i64 (p1 : Int), .int .u64 (q0 : Int), .int .u64 (q1 : Int)] ∧ Blk w4 (w2.heap.size) 29 [.slice Ao nb co, .int .i64 Nb] ∧ Blk w4 (w3.heap.size) 37 [.int .i64 (u0 : Int), .int .i64 (u1 : Int), .int .u64 (v0 : Int), .int .u64 (v1 : Int)] ∧ RowIn .u8 w4 (0) (w.heap.size) Ab nb xsb ∧ RowIn .u8 w4 (w1.heap.size) (w2.heap.size) Ao nb xsb ∧ Below w.heap.size w w4 := by
        refine ⟨?_, ?_, ?_, ?_, ?_, ?_, ?_⟩
        all_goals repeat' (first | (with_reducible assumption) | (with_reducible exact Below.refl _ _) | (with_reducible refine Blk.after ?_ b4) | (with_reducible refine RowIn.belowS ?_ b4) | (with_reducible refine Below.after ?_ b4 ?_) | (with_reducible refine Blk.drewN ?_ _) | (with_reducible refine RowIn.drewN ?_ _) | (with_reducible refine below_drewN ?_ _) | (with_reducible refine Blk.drew ?_) | (with_reducible refine RowIn.drew ?_) | (with_reducible refine Below.drew ?_) | (with_reducible refine Blk.new' ?_ ?_ <;> first | (with_reducible rfl) | (simp; done)) | (with_reducible refine Blk.alloc ?_ _) | (with_reducible refine RowIn.alloc ?_ _) | (with_reducible refine Below.alloc ?_ ?_ _) | (with_reducible apply Blk.set') | (with_reducible apply Blk.far') | (with_reducible refine RowIn.far' ?_ ?_ _) | (with_reducible refine Below.far' ?_ ?_ _) | rfl | omega | go_size)
      clear zb_3 zd_3 zo_3 rb_3 ro_3 bb_3 kb_3 fb_3 lb_3 kd_3 fd_3 ld_3 ko_3 fo_3 lo_3 b4
      have kb_4 := zb_4.cell; have fb_4 := zb_4.frozen; have lb_4 := zb_4.lt
      have kd_4 := zd_4.cell; have fd_4 := zd_4.frozen; have ld_4 := zd_4.lt
      have ko_4 := zo_4.cell; have fo_4 := zo_4.frozen; have lo_4 := zo_4.lt
      have kx_4 := zx_4.cell; have fx_4 := zx_4.frozen; have lx_4 := zx_4.lt
      have he := HA.out.trans HB.out.symm
      injection he with he0 he1 he2 he3
      obtain rfl : u0 = s0 := he0
      obtain rfl : u1 = s1 := he1
      obtain rfl : v0 = t0 := he2
      obtain rfl : v1 = t1 := he3
      clear HA HB
      go_wp2_with fail
      refine (dLength_ok p0 p1 q0 q1 v _ HD.out hv32).mono ?_
      rintro e w5 ⟨l, rfl, HL1, b5⟩
      have s5 := b5.size
      try simp only [World.size_alloc, World.size_setCell, World.size_drew, size_drewN] at s5
      obtain ⟨zb_5, zd_5, zo_5, zx_5, zy_5, rb_5, ro_5, bb_5⟩ : Blk w5 (w.heap.size) 29 [.slice Ab nb cb, .int .i64 Nb] ∧ Blk w5 (w.heap.size + 1) 37 [.int .i64 (p0 : Int), .int .i64 (p1 : Int), .int .u64 (q0 : Int), .int .u64 (q1 : Int)] ∧ Blk w5 (w2.heap.size) 29 [.slice Ao nb co, .int .i64 Nb] ∧ Blk w5 (w3.heap.size) 37 [.int .i64 (u0 : Int), .int .i64 (u1 : Int), .int .u64 (v0 : Int), .int .u64 (v1 : Int)] ∧ Blk w5 (w4.heap.size) 37 [.int .i64 (u0 : Int), .int .i64 (u1 : Int), .int .u64 (v0 : Int), .int .u64 (v1 : Int)] ∧ RowIn .u8 w5 (0) (w.heap.size) Ab nb xsb ∧ RowIn .u8 w5 (w1.heap.size) (w2.heap.size) Ao nb xsb ∧ Below w.heap.size w w5 := by
        refine ⟨?_, ?_, ?_, ?_, ?_, ?_, ?_, ?_⟩
        all_goals repeat' (first | (with_reducible assumption) | (with_reducible exact Below.refl _ _) | (with_reducible refine Blk.after ?_ b5) | (with_reducible refine RowIn.belowS ?_ b5) | (with_reducible refine Below.after ?_ b5 ?_) | (with_reducible refine Blk.drewN ?_ _) | (with_reducible refine RowIn.drewN ?_ _) | (with_reducible refine below_drewN ?_ _) | (with_reducible refine Blk.drew ?_) | (with_reducible refine RowIn.drew ?_) | (with_reducible refine Below.drew ?_) | (with_reducible refine Blk.new' ?_ ?_ <;> first | (with_reducible rfl) | (simp; done)) | (with_reducible refine Blk.alloc ?_ _) | (with_reducible refine RowIn.alloc ?_ _) | (with_reducible refine Below.alloc ?_ ?_ _) | (with_reducible apply Blk.set') | (with_reducible apply Blk.far') | (with_reducible refine RowIn.far' ?_ ?_ _) | (with_reducible refine Below.far' ?_ ?_ _) | rfl | omega | go_size)
      clear zb_4 zd_4 zo_4 zx_4 rb_4 ro_4 bb_4 kb_4 fb_4 lb_4 kd_4 fd_4 ld_4 ko_4 fo_4 lo_4 kx_4 fx_4 lx_4 b5
      have kb_5 := zb_5.cell; have fb_5 := zb_5.frozen; have lb_5 := zb_5.lt
      have kd_5 := zd_5.cell; have fd_5 := zd_5.frozen; have ld_5 := zd_5.lt
      have ko_5 := zo_5.cell; have fo_5 := zo_5.frozen; have lo_5 := zo_5.lt
      have kx_5 := zx_5.cell; have fx_5 := zx_5.frozen; have lx_5 := zx_5.lt
      have ky_5 := zy_5.cell; have fy_5 := zy_5.frozen; have ly_5 := zy_5.lt
      go_wp2_with fail
      refine (rdLength_ok p0 p1 q0 q1 v _ HD.out hv32).mono ?_
      rintro e w6 ⟨m, rfl, HL2, b6⟩
      have s6 := b6.size
      try simp only [World.size_alloc, World.size_setCell, World.size_drew, size_drewN] at s6
      obtain ⟨zb_6, zd_6, zo_6, zx_6, zy_6, rb_6, ro_6, bb_6⟩ : Blk w6 (w.heap.size) 29 [.slice Ab nb cb, .int .i64 Nb] ∧ Blk w6 (w.heap.size + 1) 37 [.int .i64 (p0 : Int), .int .i64 (p1 : Int), .int .u64 (q0 : Int), .int .u64 (q1 : Int)] ∧ Blk w6 (w2.heap.size) 29 [.slice Ao nb co, .int .i64 Nb] ∧ Blk w6 (w3.heap.size) 37 [.int .i64 (u0 : Int), .int .i64 (u1 : Int), .int .u64 (v0 : Int), .int .u64 (v1 : Int)] ∧ Blk w6 (w4.heap.size) 37 [.int .i64 (u0 : Int), .int .i64 (u1 : Int), .int .u64 (v0 : Int), .int .u64 (v1 : Int)] ∧ RowIn .u8 w6 (0) (w.heap.size) Ab nb xsb ∧ RowIn .u8 w6 (w1.heap.size) (w2.heap.size) Ao nb xsb ∧ Below w.heap.size w w6 := by
        refine ⟨?_, ?_, ?_, ?_, ?_, ?_, ?_, ?_⟩
        all_goals repeat' (first | (with_reducible assumption) | (with_reducible exact Below.refl _ _) | (with_reducible refine Blk.after ?_ b6) | (with_reducible refine RowIn.belowS ?_ b6) | (with_reducible refine Below.after ?_ b6 ?_) | (with_reducible refine Blk.drewN ?_ _) | (with_reducible refine RowIn.drewN ?_ _) | (with_reducible refine below_drewN ?_ _) | (with_reducible refine Blk.drew ?_) | (with_reducible refine RowIn.drew ?_) | (with_reducible refine Below.drew ?_) | (with_reducible refine Blk.new' ?_ ?_ <;> first | (with_reducible rfl) | (simp; done)) | (with_reducible refine Blk.alloc ?_ _) | (with_reducible refine RowIn.alloc ?_ _) | (with_reducible refine Below.alloc ?_ ?_ _) | (with_reducible apply Blk.set') | (with_reducible apply Blk.far') | (with_reducible refine RowIn.far' ?_ ?_ _) | (with_reducible refine Below.far' ?_ ?_ _) | rfl | omega | go_size)
      clear zb_5 zd_5 zo_5 zx_5 zy_5 rb_5 ro_5 bb_5 kb_5 fb_5 lb_5 kd_5 fd_5 ld_5 ko_5 fo_5 lo_5 kx_5 fx_5 lx_5 ky_5 fy_5 ly_5 b6
      have kb_6 := zb_6.cell; have fb_6 := zb_6.frozen; have lb_6 := zb_6.lt
      have kd_6 := zd_6.cell; have fd_6 := zd_6.frozen; have ld_6 := zd_6.lt
      have ko_6 := zo_6.cell; have fo_6 := zo_6.frozen; have lo_6 := zo_6.lt
      have kx_6 := zx_6.cell; have fx_6 := zx_6.frozen; have lx_6 := zx_6.lt
      have ky_6 := zy_6.cell; have fy_6 := zy_6.frozen; have ly_6 := zy_6.lt
      obtain rfl : l = m := by rw [HL1.out, HL2.out]
      clear HL1 HL2
      go_wp2_with fail
      refine (dWrite_bad Ao nb co Nb xsb (p0 : Int) (p1 : Int) (q0 : Int) (q1 : Int) _ _ (by exact RowIn.row (lo := w1.heap.size) (hi := w2.heap.size) (by repeat' (first | (with_reducible assumption) | (with_reducible exact Below.refl _ _) | (with_reducible refine Blk.drewN ?_ _) | (with_reducible refine RowIn.drewN ?_ _) | (with_reducible refine below_drewN ?_ _) | (with_reducible refine Blk.drew ?_) | (with_reducible refine RowIn.drew ?_) | (with_reducible refine Below.drew ?_) | (with_reducible refine Blk.new' ?_ ?_ <;> first | (with_reducible rfl) | (simp; done)) | (with_reducible refine Blk.alloc ?_ _) | (with_reducible refine RowIn.alloc ?_ _) | (with_reducible refine Below.alloc ?_ ?_ _) | (with_reducible apply Blk.set') | (with_reducible apply Blk.far') | (with_reducible refine RowIn.far' ?_ ?_ _) | (with_reducible refine Below.far' ?_ ?_ _) | rfl | omega | go_size))) hxb hco hvb).mono ?_
      rintro e w7 ⟨Ap, mp, cp, xp, a0, a1, e0, e1, rfl, hcp, rp, HXp, HDp, b7⟩
      replace rp := rp.mono (lo' := w6.heap.size + 0) (by go_size) (Nat.le_refl _)
      have s7 := b7.size
      try simp only [World.size_alloc, World.size_setCell, World.size_drew, size_drewN] at s7
      obtain ⟨zb_7, zd_7, zo_7, zx_7, zy_7, rb_7, ro_7, rp_7, bb_7⟩ : Blk w7 (w.heap.size) 29 [.slice Ab nb cb, .int .i64 Nb] ∧ Blk w7 (w.heap.size + 1) 37 [.int .i64 (p0 : Int), .int .i64 (p1 : Int), .int .u64 (q0 : Int), .int .u64 (q1 : Int)] ∧ Blk w7 (w2.heap.size) 29 [.slice Ao nb co, .int .i64 Nb] ∧ Blk w7 (w3.heap.size) 37 [.int .i64 (u0 : Int), .int .i64 (u1 : Int), .int .u64 (v0 : Int), .int .u64 (v1 : Int)] ∧ Blk w7 (w4.heap.size) 37 [.int .i64 (u0 : Int), .int .i64 (u1 : Int), .int .u64 (v0 : Int), .int .u64 (v1 : Int)] ∧ RowIn .u8 w7 (0) (w.heap.size) Ab nb xsb ∧ RowIn .u8 w7 (w1.heap.size) (w2.heap.size) Ao nb xsb ∧ RowIn .u8 w7 (w6.heap.size + 0) (w7.heap.size) Ap mp (pack xp) ∧ Below w.heap.size w w7 := by
        refine ⟨?_, ?_, ?_, ?_, ?_, ?_, ?_, ?_, ?_⟩
        all_goals repeat' (first | (with_reducible assumption) | (with_reducible exact Below.refl _ _) | (with_reducible refine Blk.after ?_ b7) | (with_reducible refine RowIn.belowS ?_ b7) | (with_reducible refine Below.after ?_ b7 ?_) | (with_reducible refine Blk.drewN ?_ _) | (with_reducible refine RowIn.drewN ?_ _) | (with_reducible refine below_drewN ?_ _) | (with_reducible refine Blk.drew ?_) | (with_reducible refine RowIn.drew ?_) | (with_reducible refine Below.drew ?_) | (with_reducible refine Blk.new' ?_ ?_ <;> first | (with_reducible rfl) | (simp; done)) | (with_reducible refine Blk.alloc ?_ _) | (with_reducible refine RowIn.alloc ?_ _) | (with_reducible refine Below.alloc ?_ ?_ _) | (with_reducible apply Blk.set') | (with_reducible apply Blk.far') | (with_reducible refine RowIn.far' ?_ ?_ _) | (with_reducible refine Below.far' ?_ ?_ _) | rfl | omega | go_size)
      clear zb_6 zd_6 zo_6 zx_6 zy_6 rb_6 ro_6 bb_6 kb_6 fb_6 lb_6 kd_6 fd_6 ld_6 ko_6 fo_6 lo_6 kx_6 fx_6 lx_6 ky_6 fy_6 ly_6 b7
      have kb_7 := zb_7.cell; have fb_7 := zb_7.frozen; have lb_7 := zb_7.lt
      have kd_7 := zd_7.cell; have fd_7 := zd_7.frozen; have ld_7 := zd_7.lt
      have ko_7 := zo_7.cell; have fo_7 := zo_7.frozen; have lo_7 := zo_7.lt
      have kx_7 := zx_7.cell; have fx_7 := zx_7.frozen; have lx_7 := zx_7.lt
      have ky_7 := zy_7.cell; have fy_7 := zy_7.frozen; have ly_7 := zy_7.lt
      clear rp
      go_wp2_with fail
      refine (rdwrite_bad Ab nb cb Nb xsb (p0 : Int) (p1 : Int) (q0 : Int) (q1 : Int) _ _ (by exact RowIn.row (lo := 0) (hi := w.heap.size) (by repeat' (first | (with_reducible assumption) | (with_reducible exact Below.refl _ _) | (with_reducible refine Blk.drewN ?_ _) | (with_reducible refine RowIn.drewN ?_ _) | (with_reducible refine below_drewN ?_ _) | (with_reducible refine Blk.drew ?_) | (with_reducible refine RowIn.drew ?_) | (with_reducible refine Below.drew ?_) | (with_reducible refine Blk.new' ?_ ?_ <;> first | (with_reducible rfl) | (simp; done)) | (with_reducible refine Blk.alloc ?_ _) | (with_reducible refine RowIn.alloc ?_ _) | (with_reducible refine Below.alloc ?_ ?_ _) | (with_reducible apply Blk.set') | (with_reducible apply Blk.far') | (with_reducible refine RowIn.far' ?_ ?_ _) | (with_reducible refine Below.far' ?_ ?_ _) | rfl | omega | go_size))) hxb hcb hvb).mono ?_
      rintro e w8 ⟨Aq, mq, cq, xq, c0, c1, f0, f1, rfl, hcq, rq, HXq, HDq, b8⟩
      replace rq := rq.mono (lo' := w7.heap.size + 1) (by go_size) (Nat.le_refl _)
      have s8 := b8.size
      try simp only [World.size_alloc, World.size_setCell, World.size_drew, size_drewN] at s8
      obtain ⟨zb_8, zd_8, zo_8, zx_8, zy_8, zp_8, zup_8, rb_8, ro_8, rp_8, rq_8, bb_8⟩ : Blk w8 (w.heap.size) 29 [.slice Ab nb cb, .int .i64 Nb] ∧ Blk w8 (w.heap.size + 1) 37 [.int .i64 (p0 : Int), .int .i64 (p1 : Int), .int .u64 (q0 : Int), .int .u64 (q1 : Int)] ∧ Blk w8 (w2.heap.size) 29 [.slice Ao nb co, .int .i64 Nb] ∧ Blk w8 (w3.heap.size) 37 [.int .i64 (u0 : Int), .int .i64 (u1 : Int), .int .u64 (v0 : Int), .int .u64 (v1 : Int)] ∧ Blk w8 (w4.heap.size) 37 [.int .i64 (u0 : Int), .int .i64 (u1 : Int), .int .u64 (v0 : Int), .int .u64 (v1 : Int)] ∧ Blk w8 (w7.heap.size) 29 [.slice Ap mp cp, .int .i64 ((xp.length : Nat) : Int)] ∧ Blk w8 (w7.heap.size + 1) 37 [.int .i64 (a0 : Int), .int .i64 (a1 : Int), .int .u64 (e0 : Int), .int .u64 (e1 : Int)] ∧ RowIn .u8 w8 (0) (w.heap.size) Ab nb xsb ∧ RowIn .u8 w8 (w1.heap.size) (w2.heap.size) Ao nb xsb ∧ RowIn .u8 w8 (w6.heap.size + 0) (w7.heap.size) Ap mp (pack xp) ∧ RowIn .u8 w8 (w7.heap.size + 1) (w8.heap.size) Aq mq (pack xq) ∧ Below w.heap.size w w8 := by
        refine ⟨?_, ?_, ?_, ?_, ?_, ?_, ?_, ?_, ?_, ?_, ?_, ?_⟩
        all_goals repeat' (first | (with_reducible assumption) | (with_reducible exact Below.refl _ _) | (with_reducible refine Blk.after ?_ b8) | (with_reducible refine RowIn.belowS ?_ b8) | (with_reducible refine Below.after ?_ b8 ?_) | (with_reducible refine Blk.drewN ?_ _) | (with_reducible refine RowIn.drewN ?_ _) | (with_reducible refine below_drewN ?_ _) | (with_reducible refine Blk.drew ?_) | (with_reducible refine RowIn.drew ?_) | (with_reducible refine Below.drew ?_) | (with_reducible refine Blk.new' ?_ ?_ <;> first | (with_reducible rfl) | (simp; done)) | (with_reducible refine Blk.alloc ?_ _) | (with_reducible refine RowIn.alloc ?_ _) | (with_reducible refine Below.alloc ?_ ?_ _) | (with_reducible apply Blk.set') | (with_reducible apply Blk.far') | (with_reducible refine RowIn.far' ?_ ?_ _) | (with_reducible refine Below.far' ?_ ?_ _) | rfl | omega | go_size)
      clear zb_7 zd_7 zo_7 zx_7 zy_7 rb_7 ro_7 rp_7 bb_7 kb_7 fb_7 lb_7 kd_7 fd_7 ld_7 ko_7 fo_7 lo_7 kx_7 fx_7 lx_7 ky_7 fy_7 ly_7 b8
      have kb_8 := zb_8.cell; have fb_8 := zb_8.frozen; have lb_8 := zb_8.lt
      have kd_8 := zd_8.cell; have fd_8 := zd_8.frozen; have ld_8 := zd_8.lt
      have ko_8 := zo_8.cell; have fo_8 := zo_8.frozen; have lo_8 := zo_8.lt
      have kx_8 := zx_8.cell; have fx_8 := zx_8.frozen; have lx_8 := zx_8.lt
      have ky_8 := zy_8.cell; have fy_8 := zy_8.frozen; have ly_8 := zy_8.lt
      have kp_8 := zp_8.cell; have fp_8 := zp_8.frozen; have lp_8 := zp_8.lt
      have kup_8 := zup_8.cell; have fup_8 := zup_8.frozen; have lup_8 := zup_8.lt
      clear rq
      go_wp2_with fail
      have he := HDp.out.trans HDq.out.symm
      injection he with he0 he1 he2 he3
      obtain rfl : a0 = c0 := he0
      obtain rfl : a1 = c1 := he1
      obtain rfl : e0 = f0 := he2
      obtain rfl : e1 = f1 := he3
      clear HDp HDq
      have HE : Hid (xp = xq) := by rw [HXp.out, HXq.out]; exact Lib.hid rfl
      obtain ⟨w9, hw9⟩ : ∃ w9, w9 = (w8.alloc (.cells #[.slice Aq mq cq, .int .i64 ((xq.length : Nat) : Int)] 29)).alloc (.cells #[.int .i64 (a0 : Int), .int .i64 (a1 : Int), .int .u64 (e0 : Int), .int .u64 (e1 : Int)] 37) := ⟨_, rfl⟩
      obtain ⟨zb_9, zd_9, zo_9, zx_9, zy_9, zp_9, zup_9, zq_9, zuq_9, rb_9, ro_9, rp_9, rq_9, bb_9, s9⟩ : Blk w9 (w.heap.size) 29 [.slice Ab nb cb, .int .i64 Nb] ∧ Blk w9 (w.heap.size + 1) 37 [.int .i64 (p0 : Int), .int .i64 (p1 : Int), .int .u64 (q0 : Int), .int .u64 (q1 : Int)] ∧ Blk w9 (w2.heap.size) 29 [.slice Ao nb co, .int .i64 Nb] ∧ Blk w9 (w3.heap.size) 37 [.int .i64 (u0 : Int), .int .i64 (u1 : Int), .int .u64 (v0 : Int), .int .u64 (v1 : Int)] ∧ Blk w9 (w4.heap.size) 37 [.int .i64 (u0 : Int), .int .i64 (u1 : Int), .int .u64 (v0 : Int), .int .u64 (v1 : Int)] ∧ Blk w9 (w7.heap.size) 29 [.slice Ap mp cp, .int .i64 ((xp.length : Nat) : Int)] ∧ Blk w9 (w7.heap.size + 1) 37 [.int .i64 (a0 : Int), .int .i64 (a1 : Int), .int .u64 (e0 : Int), .int .u64 (e1 : Int)] ∧ Blk w9 (w8.heap.size) 29 [.slice Aq mq cq, .int .i64 ((xq.length : Nat) : Int)] ∧ Blk w9 (w8.heap.size + 1) 37 [.int .i64 (a0 : Int), .int .i64 (a1 : Int), .int .u64 (e0 : Int), .int .u64 (e1 : Int)] ∧ RowIn .u8 w9 (0) (w.heap.size) Ab nb xsb ∧ RowIn .u8 w9 (w1.heap.size) (w2.heap.size) Ao nb xsb ∧ RowIn .u8 w9 (w6.heap.size + 0) (w7.heap.size) Ap mp (pack xp) ∧ RowIn .u8 w9 (w7.heap.size + 1) (w8.heap.size) Aq mq (pack xq) ∧ Below w.heap.size w w9 ∧ w8.heap.size ≤ w9.heap.size := by
        rw [hw9]
        refine ⟨?_, ?_, ?_, ?_, ?_, ?_, ?_, ?_, ?_, ?_, ?_, ?_, ?_, ?_, by go_size⟩
        all_goals repeat' (first | (with_reducible assumption) | (with_reducible exact Below.refl _ _) | (with_reducible refine Blk.drewN ?_ _) | (with_reducible refine RowIn.drewN ?_ _) | (with_reducible refine below_drewN ?_ _) | (with_reducible refine Blk.drew ?_) | (with_reducible refine RowIn.drew ?_) | (with_reducible refine Below.drew ?_) | (with_reducible refine Blk.new' ?_ ?_ <;> first | (with_reducible rfl) | (simp; done)) | (with_reducible refine Blk.alloc ?_ _) | (with_reducible refine RowIn.alloc ?_ _) | (with_reducible refine Below.alloc ?_ ?_ _) | (with_reducible apply Blk.set') | (with_reducible apply Blk.far') | (with_reducible refine RowIn.far' ?_ ?_ _) | (with_reducible refine Below.far' ?_ ?_ _) | rfl | omega | go_size)
      rw [← hw9]
      clear hw9
      clear zb_8 zd_8 zo_8 zx_8 zy_8 zp_8 zup_8 rb_8 ro_8 rp_8 rq_8 bb_8 kb_8 fb_8 lb_8 kd_8 fd_8 ld_8 ko_8 fo_8 lo_8 kx_8 fx_8 lx_8 ky_8 fy_8 ly_8 kp_8 fp_8 lp_8 kup_8 fup_8 lup_8
      have kb_9 := zb_9.cell; have fb_9 := zb_9.frozen; have lb_9 := zb_9.lt
      have kd_9 := zd_9.cell; have fd_9 := zd_9.frozen; have ld_9 := zd_9.lt
      have ko_9 := zo_9.cell; have fo_9 := zo_9.frozen; have lo_9 := zo_9.lt
      have kx_9 := zx_9.cell; have fx_9 := zx_9.frozen; have lx_9 := zx_9.lt
      have ky_9 := zy_9.cell; have fy_9 := zy_9.frozen; have ly_9 := zy_9.lt
      have kp_9 := zp_9.cell; have fp_9 := zp_9.frozen; have lp_9 := zp_9.lt
      have kup_9 := zup_9.cell; have fup_9 := zup_9.frozen; have lup_9 := zup_9.lt
      have kq_9 := zq_9.cell; have fq_9 := zq_9.frozen; have lq_9 := zq_9.lt
      have kuq_9 := zuq_9.cell; have fuq_9 := zuq_9.frozen; have luq_9 := zuq_9.lt
      have kb_9d := (Blk.drew zb_9).cell; have kd_9d := (Blk.drew zd_9).cell; have ko_9d := (Blk.drew zo_9).cell; have kx_9d := (Blk.drew zx_9).cell; have ky_9d := (Blk.drew zy_9).cell; have kp_9d := (Blk.drew zp_9).cell; have kup_9d := (Blk.drew zup_9).cell; have kq_9d := (Blk.drew zq_9).cell; have kuq_9d := (Blk.drew zuq_9).cell
      go_region_held3 (fun w' => (∀ a, w'.cell? ⟨w.heap.size, a, none⟩ = [.slice Ab nb cb, .int .i64 Nb][a]?) ∧ (∀ a, w'.cell? ⟨w.heap.size + 1, a, none⟩ = [.int .i64 (p0 : Int), .int .i64 (p1 : Int), .int .u64 (q0 : Int), .int .u64 (q1 : Int)][a]?) ∧ (∀ a, w'.cell? ⟨w2.heap.size, a, none⟩ = [.slice Ao nb co, .int .i64 Nb][a]?) ∧ (∀ a, w'.cell? ⟨w3.heap.size, a, none⟩ = [.int .i64 (u0 : Int), .int .i64 (u1 : Int), .int .u64 (v0 : Int), .int .u64 (v1 : Int)][a]?) ∧ (∀ a, w'.cell? ⟨w4.heap.size, a, none⟩ = [.int .i64 (u0 : Int), .int .i64 (u1 : Int), .int .u64 (v0 : Int), .int .u64 (v1 : Int)][a]?) ∧ (∀ a, w'.cell? ⟨w7.heap.size, a, none⟩ = [.slice Ap mp cp, .int .i64 ((xp.length : Nat) : Int)][a]?) ∧ (∀ a, w'.cell? ⟨w7.heap.size + 1, a, none⟩ = [.int .i64 (a0 : Int), .int .i64 (a1 : Int), .int .u64 (e0 : Int), .int .u64 (e1 : Int)][a]?) ∧ (∀ a, w'.cell? ⟨w8.heap.size, a, none⟩ = [.slice Aq mq cq, .int .i64 ((xq.length : Nat) : Int)][a]?) ∧ (∀ a, w'.cell? ⟨w8.heap.size + 1, a, none⟩ = [.int .i64 (a0 : Int), .int .i64 (a1 : Int), .int .u64 (e0 : Int), .int .u64 (e1 : Int)][a]?)) (first | with_reducible exact ⟨kb_9, kd_9, ko_9, kx_9, ky_9, kp_9, kup_9, kq_9, kuq_9⟩ | with_reducible exact ⟨kb_9d, kd_9d, ko_9d, kx_9d, ky_9d, kp_9d, kup_9d, kq_9d, kuq_9d⟩ | with_reducible exact ⟨kb_10, kd_10, ko_10, kx_10, ky_10, kp_10, kup_10, kq_10, kuq_10⟩ | with_reducible exact ⟨kb_11, kd_11, ko_11, kx_11, ky_11, kp_11, kup_11, kq_11, kuq_11⟩ | with_reducible exact ⟨kb_12, kd_12, ko_12, kx_12, ky_12, kp_12, kup_12, kq_12, kuq_12⟩ | with_reducible exact ⟨kb_13, kd_13, ko_13, kx_13, ky_13, kp_13, kup_13, kq_13, kuq_13⟩ | with_reducible exact ⟨kb_14, kd_14, ko_14, kx_14, ky_14, kp_14, kup_14, kq_14, kuq_14⟩ | with_reducible exact ⟨kb_15, kd_15, ko_15, kx_15, ky_15, kp_15, kup_15, kq_15, kuq_15⟩) (first
        | (go_simp; go_at_call 19; refine (dstart_ok _).mono ?_
           rintro e w10 ⟨rfl, b10⟩
           have s10 : w9.heap.size ≤ w10.heap.size := b10.size
           have zb_10 := ((Blk.drew zb_9)).after b10; have kb_10 := zb_10.cell; have fb_10 := zb_10.frozen; have lb_10 := zb_10.lt
           have zd_10 := ((Blk.drew zd_9)).after b10; have kd_10 := zd_10.cell; have fd_10 := zd_10.frozen; have ld_10 := zd_10.lt
           have zo_10 := ((Blk.drew zo_9)).after b10; have ko_10 := zo_10.cell; have fo_10 := zo_10.frozen; have lo_10 := zo_10.lt
           have zx_10 := ((Blk.drew zx_9)).after b10; have kx_10 := zx_10.cell; have fx_10 := zx_10.frozen; have lx_10 := zx_10.lt
           have zy_10 := ((Blk.drew zy_9)).after b10; have ky_10 := zy_10.cell; have fy_10 := zy_10.frozen; have ly_10 := zy_10.lt
           have zp_10 := ((Blk.drew zp_9)).after b10; have kp_10 := zp_10.cell; have fp_10 := zp_10.frozen; have lp_10 := zp_10.lt
           have zup_10 := ((Blk.drew zup_9)).after b10; have kup_10 := zup_10.cell; have fup_10 := zup_10.frozen; have lup_10 := zup_10.lt
           have zq_10 := ((Blk.drew zq_9)).after b10; have kq_10 := zq_10.cell; have fq_10 := zq_10.frozen; have lq_10 := zq_10.lt
           have zuq_10 := ((Blk.drew zuq_9)).after b10; have kuq_10 := zuq_10.cell; have fuq_10 := zuq_10.frozen; have luq_10 := zuq_10.lt
           have rb_10 := ((RowIn.drew rb_9)).belowS b10
           have ro_10 := ((RowIn.drew ro_9)).belowS b10
           have rp_10 := ((RowIn.drew rp_9)).belowS b10
           have rq_10 := ((RowIn.drew rq_9)).belowS b10
           have bb_10 := Below.after (Below.drew bb_9) b10 bb_9.size)
        | (go_simp; go_at_call 20; refine (rdstart_ok _).mono ?_
           rintro e w11 ⟨rfl, b11⟩
           have s11 : w10.heap.size ≤ w11.heap.size := b11.size
           have zb_11 := (zb_10).after b11; have kb_11 := zb_11.cell; have fb_11 := zb_11.frozen; have lb_11 := zb_11.lt
           have zd_11 := (zd_10).after b11; have kd_11 := zd_11.cell; have fd_11 := zd_11.frozen; have ld_11 := zd_11.lt
           have zo_11 := (zo_10).after b11; have ko_11 := zo_11.cell; have fo_11 := zo_11.frozen; have lo_11 := zo_11.lt
           have zx_11 := (zx_10).after b11; have kx_11 := zx_11.cell; have fx_11 := zx_11.frozen; have lx_11 := zx_11.lt
           have zy_11 := (zy_10).after b11; have ky_11 := zy_11.cell; have fy_11 := zy_11.frozen; have ly_11 := zy_11.lt
           have zp_11 := (zp_10).after b11; have kp_11 := zp_11.cell; have fp_11 := zp_11.frozen; have lp_11 := zp_11.lt
           have zup_11 := (zup_10).after b11; have kup_11 := zup_11.cell; have fup_11 := zup_11.frozen; have lup_11 := zup_11.lt
           have zq_11 := (zq_10).after b11; have kq_11 := zq_11.cell; have fq_11 := zq_11.frozen; have lq_11 := zq_11.lt
           have zuq_11 := (zuq_10).after b11; have kuq_11 := zuq_11.cell; have fuq_11 := zuq_11.frozen; have luq_11 := zuq_11.lt
           have rb_11 := (rb_10).belowS b11
           have ro_11 := (ro_10).belowS b11
           have rp_11 := (rp_10).belowS b11
           have rq_11 := (rq_10).belowS b11
           have bb_11 := Below.after bb_10 b11 bb_10.size)
        | (go_simp; go_at_call 21; refine (dcheck_ok p0 p1 q0 q1 _ HD.out).mono ?_
           rintro e w12 ⟨rfl, b12⟩
           have s12 : w11.heap.size ≤ w12.heap.size := b12.size
           have zb_12 := (zb_11).after b12; have kb_12 := zb_12.cell; have fb_12 := zb_12.frozen; have lb_12 := zb_12.lt
           have zd_12 := (zd_11).after b12; have kd_12 := zd_12.cell; have fd_12 := zd_12.frozen; have ld_12 := zd_12.lt
           have zo_12 := (zo_11).after b12; have ko_12 := zo_12.cell; have fo_12 := zo_12.frozen; have lo_12 := zo_12.lt
           have zx_12 := (zx_11).after b12; have kx_12 := zx_12.cell; have fx_12 := zx_12.frozen; have lx_12 := zx_12.lt
           have zy_12 := (zy_11).after b12; have ky_12 := zy_12.cell; have fy_12 := zy_12.frozen; have ly_12 := zy_12.lt
           have zp_12 := (zp_11).after b12; have kp_12 := zp_12.cell; have fp_12 := zp_12.frozen; have lp_12 := zp_12.lt
           have zup_12 := (zup_11).after b12; have kup_12 := zup_12.cell; have fup_12 := zup_12.frozen; have lup_12 := zup_12.lt
           have zq_12 := (zq_11).after b12; have kq_12 := zq_12.cell; have fq_12 := zq_12.frozen; have lq_12 := zq_12.lt
           have zuq_12 := (zuq_11).after b12; have kuq_12 := zuq_12.cell; have fuq_12 := zuq_12.frozen; have luq_12 := zuq_12.lt
           have rb_12 := (rb_11).belowS b12
           have ro_12 := (ro_11).belowS b12
           have rp_12 := (rp_11).belowS b12
           have rq_12 := (rq_11).belowS b12
           have bb_12 := Below.after bb_11 b12 bb_11.size)
        | (go_simp; go_at_call 22; refine (rdcheck_any (p0 : Int) (p1 : Int) (q0 : Int) (q1 : Int) 0 _ (by omega) (by omega) (by rw [if_pos HDK.out])).mono ?_
           rintro e w13 ⟨rfl, b13⟩
           have s13 : w12.heap.size ≤ w13.heap.size := b13.size
           have zb_13 := (zb_12).after b13; have kb_13 := zb_13.cell; have fb_13 := zb_13.frozen; have lb_13 := zb_13.lt
           have zd_13 := (zd_12).after b13; have kd_13 := zd_13.cell; have fd_13 := zd_13.frozen; have ld_13 := zd_13.lt
           have zo_13 := (zo_12).after b13; have ko_13 := zo_13.cell; have fo_13 := zo_13.frozen; have lo_13 := zo_13.lt
           have zx_13 := (zx_12).after b13; have kx_13 := zx_13.cell; have fx_13 := zx_13.frozen; have lx_13 := zx_13.lt
           have zy_13 := (zy_12).after b13; have ky_13 := zy_13.cell; have fy_13 := zy_13.frozen; have ly_13 := zy_13.lt
           have zp_13 := (zp_12).after b13; have kp_13 := zp_13.cell; have fp_13 := zp_13.frozen; have lp_13 := zp_13.lt
           have zup_13 := (zup_12).after b13; have kup_13 := zup_13.cell; have fup_13 := zup_13.frozen; have lup_13 := zup_13.lt
           have zq_13 := (zq_12).after b13; have kq_13 := zq_13.cell; have fq_13 := zq_13.frozen; have lq_13 := zq_13.lt
           have zuq_13 := (zuq_12).after b13; have kuq_13 := zuq_13.cell; have fuq_13 := zuq_13.frozen; have luq_13 := zuq_13.lt
           have rb_13 := (rb_12).belowS b13
           have ro_13 := (ro_12).belowS b13
           have rp_13 := (rp_12).belowS b13
           have rq_13 := (rq_12).belowS b13
           have bb_13 := Below.after bb_12 b13 bb_12.size)
        | (go_simp; go_at_call_of 10 Ap; refine (rsame_bits Ap Aq mp mq cp cq xp xq _ rp_13.row rq_13.row HE.out).mono ?_
           rintro e w14 ⟨rfl, b14⟩
           have s14 : w13.heap.size ≤ w14.heap.size := b14.size
           have zb_14 := (zb_13).after b14; have kb_14 := zb_14.cell; have fb_14 := zb_14.frozen; have lb_14 := zb_14.lt
           have zd_14 := (zd_13).after b14; have kd_14 := zd_14.cell; have fd_14 := zd_14.frozen; have ld_14 := zd_14.lt
           have zo_14 := (zo_13).after b14; have ko_14 := zo_14.cell; have fo_14 := zo_14.frozen; have lo_14 := zo_14.lt
           have zx_14 := (zx_13).after b14; have kx_14 := zx_14.cell; have fx_14 := zx_14.frozen; have lx_14 := zx_14.lt
           have zy_14 := (zy_13).after b14; have ky_14 := zy_14.cell; have fy_14 := zy_14.frozen; have ly_14 := zy_14.lt
           have zp_14 := (zp_13).after b14; have kp_14 := zp_14.cell; have fp_14 := zp_14.frozen; have lp_14 := zp_14.lt
           have zup_14 := (zup_13).after b14; have kup_14 := zup_14.cell; have fup_14 := zup_14.frozen; have lup_14 := zup_14.lt
           have zq_14 := (zq_13).after b14; have kq_14 := zq_14.cell; have fq_14 := zq_14.frozen; have lq_14 := zq_14.lt
           have zuq_14 := (zuq_13).after b14; have kuq_14 := zuq_14.cell; have fuq_14 := zuq_14.frozen; have luq_14 := zuq_14.lt
           have rb_14 := (rb_13).belowS b14
           have ro_14 := (ro_13).belowS b14
           have rp_14 := (rp_13).belowS b14
           have rq_14 := (rq_13).belowS b14
           have bb_14 := Below.after bb_13 b14 bb_13.size)
        | (go_simp; go_at_call_of 10 Ao; refine (rsame_eq Ao Ab nb nb co cb _ _ _ _ _ ro_14.row rb_14.row hxb hxb rfl rfl).mono ?_
           rintro e w15 ⟨rfl, b15⟩
           have s15 : w14.heap.size ≤ w15.heap.size := b15.size
           have zb_15 := (zb_14).after b15; have kb_15 := zb_15.cell; have fb_15 := zb_15.frozen; have lb_15 := zb_15.lt
           have zd_15 := (zd_14).after b15; have kd_15 := zd_15.cell; have fd_15 := zd_15.frozen; have ld_15 := zd_15.lt
           have zo_15 := (zo_14).after b15; have ko_15 := zo_15.cell; have fo_15 := zo_15.frozen; have lo_15 := zo_15.lt
           have zx_15 := (zx_14).after b15; have kx_15 := zx_15.cell; have fx_15 := zx_15.frozen; have lx_15 := zx_15.lt
           have zy_15 := (zy_14).after b15; have ky_15 := zy_15.cell; have fy_15 := zy_15.frozen; have ly_15 := zy_15.lt
           have zp_15 := (zp_14).after b15; have kp_15 := zp_15.cell; have fp_15 := zp_15.frozen; have lp_15 := zp_15.lt
           have zup_15 := (zup_14).after b15; have kup_15 := zup_15.cell; have fup_15 := zup_15.frozen; have lup_15 := zup_15.lt
           have zq_15 := (zq_14).after b15; have kq_15 := zq_15.cell; have fq_15 := zq_15.frozen; have lq_15 := zq_15.lt
           have zuq_15 := (zuq_14).after b15; have kuq_15 := zuq_15.cell; have fuq_15 := zuq_15.frozen; have luq_15 := zuq_15.lt
           have rb_15 := (rb_14).belowS b15
           have ro_15 := (ro_14).belowS b15
           have rp_15 := (rp_14).belowS b15
           have rq_15 := (rq_14).belowS b15
           have bb_15 := Below.after bb_14 b15 bb_14.size))
      all_goals
        go_wp2
        go_ret
        refine ⟨rfl, ?_⟩
        repeat' (first | (with_reducible assumption) | (with_reducible exact Below.refl _ _) | (with_reducible refine Blk.drewN ?_ _) | (with_reducible refine RowIn.drewN ?_ _) | (with_reducible refine below_drewN ?_ _) | (with_reducible refine Blk.drew ?_) | (with_reducible refine RowIn.drew ?_) | (with_reducible refine Below.drew ?_) | (with_reducible refine Blk.new' ?_ ?_ <;> first | (with_reducible rfl) | (simp; done)) | (with_reducible refine Blk.alloc ?_ _) | (with_reducible refine RowIn.alloc ?_ _) | (with_reducible refine Below.alloc ?_ ?_ _) | (with_reducible apply Blk.set') | (with_reducible apply Blk.far') | (with_reducible refine RowIn.far' ?_ ?_ _) | (with_reducible refine Below.far' ?_ ?_ _) | rfl | omega | go_size)
  obtain ⟨xb, rfl, rfl, hlb⟩ := valid_bits hxb (Decidable.not_not.1 hvb)
  clear hvb
  by_cases hdk : ¬ DOk p0 p1 q0 q1
  · have HN := Lib.hid hdk
    clear hdk
    go_enter Try.func4, Try.ntmps4
    go_wp2_with fail
    refine (rgreat_no Ab nb cb _ _ hg).mono ?_
    rintro e w1 ⟨rfl, b1⟩
    have s1 := b1.size
    try simp only [World.size_alloc, World.size_setCell, World.size_drew, size_drewN] at s1
    obtain ⟨zb_1, zd_1, rb_1, bb_1⟩ : Blk w1 (w.heap.size) 29 [.slice Ab nb cb, .int .i64 ((xb.length : Nat) : Int)] ∧ Blk w1 (w.heap.size + 1) 37 [.int .i64 p0, .int .i64 p1, .int .u64 q0, .int .u64 q1] ∧ RowIn .u8 w1 (0) (w.heap.size) Ab nb (pack xb) ∧ Below w.heap.size w w1 := by
      refine ⟨?_, ?_, ?_, ?_⟩
      all_goals repeat' (first | (with_reducible assumption) | (with_reducible exact Below.refl _ _) | (with_reducible refine Blk.after ?_ b1) | (with_reducible refine RowIn.belowS ?_ b1) | (with_reducible refine Below.after ?_ b1 ?_) | (with_reducible refine Blk.drewN ?_ _) | (with_reducible refine RowIn.drewN ?_ _) | (with_reducible refine below_drewN ?_ _) | (with_reducible refine Blk.drew ?_) | (with_reducible refine RowIn.drew ?_) | (with_reducible refine Below.drew ?_) | (with_reducible refine Blk.new' ?_ ?_ <;> first | (with_reducible rfl) | (simp; done)) | (with_reducible refine Blk.alloc ?_ _) | (with_reducible refine RowIn.alloc ?_ _) | (with_reducible refine Below.alloc ?_ ?_ _) | (with_reducible apply Blk.set') | (with_reducible apply Blk.far') | (with_reducible refine RowIn.far' ?_ ?_ _) | (with_reducible refine Below.far' ?_ ?_ _) | rfl | omega | go_size)
    clear b1
    have kb_1 := zb_1.cell; have fb_1 := zb_1.frozen; have lb_1 := zb_1.lt
    have kd_1 := zd_1.cell; have fd_1 := zd_1.frozen; have ld_1 := zd_1.lt
    go_wp2_with fail
    refine (rtwin_any Ab nb cb _ (pack xb) _ rb_1.row (by omega)).mono ?_
    rintro e w2 ⟨Ao, co, rfl, own2, b2⟩
    have hco := own2.rowC.2
    have ro := own2.rowIn
    clear own2
    have s2 := b2.size
    try simp only [World.size_alloc, World.size_setCell, World.size_drew, size_drewN] at s2
    obtain ⟨zb_2, zd_2, rb_2, ro_2, bb_2⟩ : Blk w2 (w.heap.size) 29 [.slice Ab nb cb, .int .i64 ((xb.length : Nat) : Int)] ∧ Blk w2 (w.heap.size + 1) 37 [.int .i64 p0, .int .i64 p1, .int .u64 q0, .int .u64 q1] ∧ RowIn .u8 w2 (0) (w.heap.size) Ab nb (pack xb) ∧ RowIn .u8 w2 (w1.heap.size) (w2.heap.size) Ao nb (pack xb) ∧ Below w.heap.size w w2 := by
      refine ⟨?_, ?_, ?_, ?_, ?_⟩
      all_goals repeat' (first | (with_reducible assumption) | (with_reducible exact Below.refl _ _) | (with_reducible refine Blk.after ?_ b2) | (with_reducible refine RowIn.belowS ?_ b2) | (with_reducible refine Below.after ?_ b2 ?_) | (with_reducible refine Blk.drewN ?_ _) | (with_reducible refine RowIn.drewN ?_ _) | (with_reducible refine below_drewN ?_ _) | (with_reducible refine Blk.drew ?_) | (with_reducible refine RowIn.drew ?_) | (with_reducible refine Below.drew ?_) | (with_reducible refine Blk.new' ?_ ?_ <;> first | (with_reducible rfl) | (simp; done)) | (with_reducible refine Blk.alloc ?_ _) | (with_reducible refine RowIn.alloc ?_ _) | (with_reducible refine Below.alloc ?_ ?_ _) | (with_reducible apply Blk.set') | (with_reducible apply Blk.far') | (with_reducible refine RowIn.far' ?_ ?_ _) | (with_reducible refine Below.far' ?_ ?_ _) | rfl | omega | go_size)
    clear zb_1 zd_1 rb_1 bb_1 kb_1 fb_1 lb_1 kd_1 fd_1 ld_1 b2
    have kb_2 := zb_2.cell; have fb_2 := zb_2.frozen; have lb_2 := zb_2.lt
    have kd_2 := zd_2.cell; have fd_2 := zd_2.frozen; have ld_2 := zd_2.lt
    clear ro
    go_wp2_with fail
    refine (dLearn_bad p0 p1 q0 q1 hq0.1 hq1.1 _ _ HN.out).mono ?_
    rintro e w3 ⟨rfl, b3⟩
    have s3 := b3.size
    try simp only [World.size_alloc, World.size_setCell, World.size_drew, size_drewN] at s3
    obtain ⟨zb_3, zd_3, zo_3, rb_3, ro_3, bb_3⟩ : Blk w3 (w.heap.size) 29 [.slice Ab nb cb, .int .i64 ((xb.length : Nat) : Int)] ∧ Blk w3 (w.heap.size + 1) 37 [.int .i64 p0, .int .i64 p1, .int .u64 q0, .int .u64 q1] ∧ Blk w3 (w2.heap.size) 29 [.slice Ao nb co, .int .i64 ((xb.length : Nat) : Int)] ∧ RowIn .u8 w3 (0) (w.heap.size) Ab nb (pack xb) ∧ RowIn .u8 w3 (w1.heap.size) (w2.heap.size) Ao nb (pack xb) ∧ Below w.heap.size w w3 := by
      refine ⟨?_, ?_, ?_, ?_, ?_, ?_⟩
      all_goals repeat' (first | (with_reducible assumption) | (with_reducible exact Below.refl _ _) | (with_reducible refine Blk.after ?_ b3) | (with_reducible refine RowIn.belowS ?_ b3) | (with_reducible refine Below.after ?_ b3 ?_) | (with_reducible refine Blk.drewN ?_ _) | (with_reducible refine RowIn.drewN ?_ _) | (with_reducible refine below_drewN ?_ _) | (with_reducible refine Blk.drew ?_) | (with_reducible refine RowIn.drew ?_) | (with_reducible refine Below.drew ?_) | (with_reducible refine Blk.new' ?_ ?_ <;> first | (with_reducible rfl) | (simp; done)) | (with_reducible refine Blk.alloc ?_ _) | (with_reducible refine RowIn.alloc ?_ _) | (with_reducible refine Below.alloc ?_ ?_ _) | (with_reducible apply Blk.set') | (with_reducible apply Blk.far') | (with_reducible refine RowIn.far' ?_ ?_ _) | (with_reducible refine Below.far' ?_ ?_ _) | rfl | omega | go_size)
    clear zb_2 zd_2 rb_2 ro_2 bb_2 kb_2 fb_2 lb_2 kd_2 fd_2 ld_2 b3
    have kb_3 := zb_3.cell; have fb_3 := zb_3.frozen; have lb_3 := zb_3.lt
    have kd_3 := zd_3.cell; have fd_3 := zd_3.frozen; have ld_3 := zd_3.lt
    have ko_3 := zo_3.cell; have fo_3 := zo_3.frozen; have lo_3 := zo_3.lt
    go_wp2_with fail
    refine (rdLearn_bad p0 p1 q0 q1 _ _ hq0.1 hq1.1 HN.out).mono ?_
    rintro e w4 ⟨rfl, b4⟩
    have s4 := b4.size
    try simp only [World.size_alloc, World.size_setCell, World.size_drew, size_drewN] at s4
    obtain ⟨zb_4, zd_4, zo_4, zx_4, rb_4, ro_4, bb_4⟩ : Blk w4 (w.heap.size) 29 [.slice Ab nb cb, .int .i64 ((xb.length : Nat) : Int)] ∧ Blk w4 (w.heap.size + 1) 37 [.int .i64 p0, .int .i64 p1, .int .u64 q0, .int .u64 q1] ∧ Blk w4 (w2.heap.size) 29 [.slice Ao nb co, .int .i64 ((xb.length : Nat) : Int)] ∧ Blk w4 (w3.heap.size) 37 [.int .i64 0, .int .i64 0, .int .u64 0, .int .u64 0] ∧ RowIn .u8 w4 (0) (w.heap.size) Ab nb (pack xb) ∧ RowIn .u8 w4 (w1.heap.size) (w2.heap.size) Ao nb (pack xb) ∧ Below w.heap.size w w4 := by
      refine ⟨?_, ?_, ?_, ?_, ?_, ?_, ?_⟩
      all_goals repeat' (first | (with_reducible assumption) | (with_reducible exact Below.refl _ _) | (with_reducible refine Blk.after ?_ b4) | (with_reducible refine RowIn.belowS ?_ b4) | (with_reducible refine Below.after ?_ b4 ?_) | (with_reducible refine Blk.drewN ?_ _) | (with_reducible refine RowIn.drewN ?_ _) | (with_reducible refine below_drewN ?_ _) | (with_reducible refine Blk.drew ?_) | (with_reducible refine RowIn.drew ?_) | (with_reducible refine Below.drew ?_) | (with_reducible refine Blk.new' ?_ ?_ <;> first | (with_reducible rfl) | (simp; done)) | (with_reducible refine Blk.alloc ?_ _) | (with_reducible refine RowIn.alloc ?_ _) | (with_reducible refine Below.alloc ?_ ?_ _) | (with_reducible apply Blk.set') | (with_reducible apply Blk.far') | (with_reducible refine RowIn.far' ?_ ?_ _) | (with_reducible refine Below.far' ?_ ?_ _) | rfl | omega | go_size)
    clear zb_3 zd_3 zo_3 rb_3 ro_3 bb_3 kb_3 fb_3 lb_3 kd_3 fd_3 ld_3 ko_3 fo_3 lo_3 b4
    have kb_4 := zb_4.cell; have fb_4 := zb_4.frozen; have lb_4 := zb_4.lt
    have kd_4 := zd_4.cell; have fd_4 := zd_4.frozen; have ld_4 := zd_4.lt
    have ko_4 := zo_4.cell; have fo_4 := zo_4.frozen; have lo_4 := zo_4.lt
    have kx_4 := zx_4.cell; have fx_4 := zx_4.frozen; have lx_4 := zx_4.lt
    go_wp2_with fail
    refine (dLength_bad p0 p1 q0 q1 hq0.1 hq1.1 _ _ HN.out).mono ?_
    rintro e w5 ⟨rfl, b5⟩
    have s5 := b5.size
    try simp only [World.size_alloc, World.size_setCell, World.size_drew, size_drewN] at s5
    obtain ⟨zb_5, zd_5, zo_5, zx_5, zy_5, rb_5, ro_5, bb_5⟩ : Blk w5 (w.heap.size) 29 [.slice Ab nb cb, .int .i64 ((xb.length : Nat) : Int)] ∧ Blk w5 (w.heap.size + 1) 37 [.int .i64 p0, .int .i64 p1, .int .u64 q0, .int .u64 q1] ∧ Blk w5 (w2.heap.size) 29 [.slice Ao nb co, .int .i64 ((xb.length : Nat) : Int)] ∧ Blk w5 (w3.heap.size) 37 [.int .i64 0, .int .i64 0, .int .u64 0, .int .u64 0] ∧ Blk w5 (w4.heap.size) 37 [.int .i64 0, .int .i64 0, .int .u64 0, .int .u64 0] ∧ RowIn .u8 w5 (0) (w.heap.size) Ab nb (pack xb) ∧ RowIn .u8 w5 (w1.heap.size) (w2.heap.size) Ao nb (pack xb) ∧ Below w.heap.size w w5 := by
      refine ⟨?_, ?_, ?_, ?_, ?_, ?_, ?_, ?_⟩
      all_goals repeat' (first | (with_reducible assumption) | (with_reducible exact Below.refl _ _) | (with_reducible refine Blk.after ?_ b5) | (with_reducible refine RowIn.belowS ?_ b5) | (with_reducible refine Below.after ?_ b5 ?_) | (with_reducible refine Blk.drewN ?_ _) | (with_reducible refine RowIn.drewN ?_ _) | (with_reducible refine below_drewN ?_ _) | (with_reducible refine Blk.drew ?_) | (with_reducible refine RowIn.drew ?_) | (with_reducible refine Below.drew ?_) | (with_reducible refine Blk.new' ?_ ?_ <;> first | (with_reducible rfl) | (simp; done)) | (with_reducible refine Blk.alloc ?_ _) | (with_reducible refine RowIn.alloc ?_ _) | (with_reducible refine Below.alloc ?_ ?_ _) | (with_reducible apply Blk.set') | (with_reducible apply Blk.far') | (with_reducible refine RowIn.far' ?_ ?_ _) | (with_reducible refine Below.far' ?_ ?_ _) | rfl | omega | go_size)
    clear zb_4 zd_4 zo_4 zx_4 rb_4 ro_4 bb_4 kb_4 fb_4 lb_4 kd_4 fd_4 ld_4 ko_4 fo_4 lo_4 kx_4 fx_4 lx_4 b5
    have kb_5 := zb_5.cell; have fb_5 := zb_5.frozen; have lb_5 := zb_5.lt
    have kd_5 := zd_5.cell; have fd_5 := zd_5.frozen; have ld_5 := zd_5.lt
    have ko_5 := zo_5.cell; have fo_5 := zo_5.frozen; have lo_5 := zo_5.lt
    have kx_5 := zx_5.cell; have fx_5 := zx_5.frozen; have lx_5 := zx_5.lt
    have ky_5 := zy_5.cell; have fy_5 := zy_5.frozen; have ly_5 := zy_5.lt
    go_wp2_with fail
    refine (rdLength_bad p0 p1 q0 q1 _ _ hq0.1 hq1.1 HN.out).mono ?_
    rintro e w6 ⟨rfl, b6⟩
    have s6 := b6.size
    try simp only [World.size_alloc, World.size_setCell, World.size_drew, size_drewN] at s6
    obtain ⟨zb_6, zd_6, zo_6, zx_6, zy_6, rb_6, ro_6, bb_6⟩ : Blk w6 (w.heap.size) 29 [.slice Ab nb cb, .int .i64 ((xb.length : Nat) : Int)] ∧ Blk w6 (w.heap.size + 1) 37 [.int .i64 p0, .int .i64 p1, .int .u64 q0, .int .u64 q1] ∧ Blk w6 (w2.heap.size) 29 [.slice Ao nb co, .int .i64 ((xb.length : Nat) : Int)] ∧ Blk w6 (w3.heap.size) 37 [.int .i64 0, .int .i64 0, .int .u64 0, .int .u64 0] ∧ Blk w6 (w4.heap.size) 37 [.int .i64 0, .int .i64 0, .int .u64 0, .int .u64 0] ∧ RowIn .u8 w6 (0) (w.heap.size) Ab nb (pack xb) ∧ RowIn .u8 w6 (w1.heap.size) (w2.heap.size) Ao nb (pack xb) ∧ Below w.heap.size w w6 := by
      refine ⟨?_, ?_, ?_, ?_, ?_, ?_, ?_, ?_⟩
      all_goals repeat' (first | (with_reducible assumption) | (with_reducible exact Below.refl _ _) | (with_reducible refine Blk.after ?_ b6) | (with_reducible refine RowIn.belowS ?_ b6) | (with_reducible refine Below.after ?_ b6 ?_) | (with_reducible refine Blk.drewN ?_ _) | (with_reducible refine RowIn.drewN ?_ _) | (with_reducible refine below_drewN ?_ _) | (with_reducible refine Blk.drew ?_) | (with_reducible refine RowIn.drew ?_) | (with_reducible refine Below.drew ?_) | (with_reducible refine Blk.new' ?_ ?_ <;> first | (with_reducible rfl) | (simp; done)) | (with_reducible refine Blk.alloc ?_ _) | (with_reducible refine RowIn.alloc ?_ _) | (with_reducible refine Below.alloc ?_ ?_ _) | (with_reducible apply Blk.set') | (with_reducible apply Blk.far') | (with_reducible refine RowIn.far' ?_ ?_ _) | (with_reducible refine Below.far' ?_ ?_ _) | rfl | omega | go_size)
    clear zb_5 zd_5 zo_5 zx_5 zy_5 rb_5 ro_5 bb_5 kb_5 fb_5 lb_5 kd_5 fd_5 ld_5 ko_5 fo_5 lo_5 kx_5 fx_5 lx_5 ky_5 fy_5 ly_5 b6
    have kb_6 := zb_6.cell; have fb_6 := zb_6.frozen; have lb_6 := zb_6.lt
    have kd_6 := zd_6.cell; have fd_6 := zd_6.frozen; have ld_6 := zd_6.lt
    have ko_6 := zo_6.cell; have fo_6 := zo_6.frozen; have lo_6 := zo_6.lt
    have kx_6 := zx_6.cell; have fx_6 := zx_6.frozen; have lx_6 := zx_6.lt
    have ky_6 := zy_6.cell; have fy_6 := zy_6.frozen; have ly_6 := zy_6.lt
    go_wp2_with fail
    refine (dWrite_none Ao nb co xb p0 p1 q0 q1 _ _ (by exact RowIn.row (lo := w1.heap.size) (hi := w2.heap.size) (by repeat' (first | (with_reducible assumption) | (with_reducible exact Below.refl _ _) | (with_reducible refine Blk.drewN ?_ _) | (with_reducible refine RowIn.drewN ?_ _) | (with_reducible refine below_drewN ?_ _) | (with_reducible refine Blk.drew ?_) | (with_reducible refine RowIn.drew ?_) | (with_reducible refine Below.drew ?_) | (with_reducible refine Blk.new' ?_ ?_ <;> first | (with_reducible rfl) | (simp; done)) | (with_reducible refine Blk.alloc ?_ _) | (with_reducible refine RowIn.alloc ?_ _) | (with_reducible refine Below.alloc ?_ ?_ _) | (with_reducible apply Blk.set') | (with_reducible apply Blk.far') | (with_reducible refine RowIn.far' ?_ ?_ _) | (with_reducible refine Below.far' ?_ ?_ _) | rfl | omega | go_size))) hco hlb hq0.1 hq1.1 HN.out).mono ?_
    rintro e w7 ⟨Ap, mp, cp, xp, a0, a1, e0, e1, rfl, hcp, rp, HXp, HDp, b7⟩
    replace rp := rp.mono (lo' := w6.heap.size + 0) (by go_size) (Nat.le_refl _)
    have s7 := b7.size
    try simp only [World.size_alloc, World.size_setCell, World.size_drew, size_drewN] at s7
    obtain ⟨zb_7, zd_7, zo_7, zx_7, zy_7, rb_7, ro_7, rp_7, bb_7⟩ : Blk w7 (w.heap.size) 29 [.slice Ab nb cb, .int .i64 ((xb.length : Nat) : Int)] ∧ Blk w7 (w.heap.size + 1) 37 [.int .i64 p0, .int .i64 p1, .int .u64 q0, .int .u64 q1] ∧ Blk w7 (w2.heap.size) 29 [.slice Ao nb co, .int .i64 ((xb.length : Nat) : Int)] ∧ Blk w7 (w3.heap.size) 37 [.int .i64 0, .int .i64 0, .int .u64 0, .int .u64 0] ∧ Blk w7 (w4.heap.size) 37 [.int .i64 0, .int .i64 0, .int .u64 0, .int .u64 0] ∧ RowIn .u8 w7 (0) (w.heap.size) Ab nb (pack xb) ∧ RowIn .u8 w7 (w1.heap.size) (w2.heap.size) Ao nb (pack xb) ∧ RowIn .u8 w7 (w6.heap.size + 0) (w7.heap.size) Ap mp (pack xp) ∧ Below w.heap.size w w7 := by
      refine ⟨?_, ?_, ?_, ?_, ?_, ?_, ?_, ?_, ?_⟩
      all_goals repeat' (first | (with_reducible assumption) | (with_reducible exact Below.refl _ _) | (with_reducible refine Blk.after ?_ b7) | (with_reducible refine RowIn.belowS ?_ b7) | (with_reducible refine Below.after ?_ b7 ?_) | (with_reducible refine Blk.drewN ?_ _) | (with_reducible refine RowIn.drewN ?_ _) | (with_reducible refine below_drewN ?_ _) | (with_reducible refine Blk.drew ?_) | (with_reducible refine RowIn.drew ?_) | (with_reducible refine Below.drew ?_) | (with_reducible refine Blk.new' ?_ ?_ <;> first | (with_reducible rfl) | (simp; done)) | (with_reducible refine Blk.alloc ?_ _) | (with_reducible refine RowIn.alloc ?_ _) | (with_reducible refine Below.alloc ?_ ?_ _) | (with_reducible apply Blk.set') | (with_reducible apply Blk.far') | (with_reducible refine RowIn.far' ?_ ?_ _) | (with_reducible refine Below.far' ?_ ?_ _) | rfl | omega | go_size)
    clear zb_6 zd_6 zo_6 zx_6 zy_6 rb_6 ro_6 bb_6 kb_6 fb_6 lb_6 kd_6 fd_6 ld_6 ko_6 fo_6 lo_6 kx_6 fx_6 lx_6 ky_6 fy_6 ly_6 b7
    have kb_7 := zb_7.cell; have fb_7 := zb_7.frozen; have lb_7 := zb_7.lt
    have kd_7 := zd_7.cell; have fd_7 := zd_7.frozen; have ld_7 := zd_7.lt
    have ko_7 := zo_7.cell; have fo_7 := zo_7.frozen; have lo_7 := zo_7.lt
    have kx_7 := zx_7.cell; have fx_7 := zx_7.frozen; have lx_7 := zx_7.lt
    have ky_7 := zy_7.cell; have fy_7 := zy_7.frozen; have ly_7 := zy_7.lt
    clear rp
    go_wp2_with fail
    refine (rdwrite_none Ab nb cb xb p0 p1 q0 q1 _ _ (by exact RowIn.row (lo := 0) (hi := w.heap.size) (by repeat' (first | (with_reducible assumption) | (with_reducible exact Below.refl _ _) | (with_reducible refine Blk.drewN ?_ _) | (with_reducible refine RowIn.drewN ?_ _) | (with_reducible refine below_drewN ?_ _) | (with_reducible refine Blk.drew ?_) | (with_reducible refine RowIn.drew ?_) | (with_reducible refine Below.drew ?_) | (with_reducible refine Blk.new' ?_ ?_ <;> first | (with_reducible rfl) | (simp; done)) | (with_reducible refine Blk.alloc ?_ _) | (with_reducible refine RowIn.alloc ?_ _) | (with_reducible refine Below.alloc ?_ ?_ _) | (with_reducible apply Blk.set') | (with_reducible apply Blk.far') | (with_reducible refine RowIn.far' ?_ ?_ _) | (with_reducible refine Below.far' ?_ ?_ _) | rfl | omega | go_size))) hcb hlb hq0.1 hq1.1 HN.out).mono ?_
    rintro e w8 ⟨Aq, mq, cq, xq, c0, c1, f0, f1, rfl, hcq, rq, HXq, HDq, b8⟩
    replace rq := rq.mono (lo' := w7.heap.size + 1) (by go_size) (Nat.le_refl _)
    have s8 := b8.size
    try simp only [World.size_alloc, World.size_setCell, World.size_drew, size_drewN] at s8
    obtain ⟨zb_8, zd_8, zo_8, zx_8, zy_8, zp_8, zup_8, rb_8, ro_8, rp_8, rq_8, bb_8⟩ : Blk w8 (w.heap.size) 29 [.slice Ab nb cb, .int .i64 ((xb.length : Nat) : Int)] ∧ Blk w8 (w.heap.size + 1) 37 [.int .i64 p0, .int .i64 p1, .int .u64 q0, .int .u64 q1] ∧ Blk w8 (w2.heap.size) 29 [.slice Ao nb co, .int .i64 ((xb.length : Nat) : Int)] ∧ Blk w8 (w3.heap.size) 37 [.int .i64 0, .int .i64 0, .int .u64 0, .int .u64 0] ∧ Blk w8 (w4.heap.size) 37 [.int .i64 0, .int .i64 0, .int .u64 0, .int .u64 0] ∧ Blk w8 (w7.heap.size) 29 [.slice Ap mp cp, .int .i64 ((xp.length : Nat) : Int)] ∧ Blk w8 (w7.heap.size + 1) 37 [.int .i64 (a0 : Int), .int .i64 (a1 : Int), .int .u64 (e0 : Int), .int .u64 (e1 : Int)] ∧ RowIn .u8 w8 (0) (w.heap.size) Ab nb (pack xb) ∧ RowIn .u8 w8 (w1.heap.size) (w2.heap.size) Ao nb (pack xb) ∧ RowIn .u8 w8 (w6.heap.size + 0) (w7.heap.size) Ap mp (pack xp) ∧ RowIn .u8 w8 (w7.heap.size + 1) (w8.heap.size) Aq mq (pack xq) ∧ Below w.heap.size w w8 := by
      refine ⟨?_, ?_, ?_, ?_, ?_, ?_, ?_, ?_, ?_, ?_, ?_, ?_⟩
      all_goals repeat' (first | (with_reducible assumption) | (with_reducible exact Below.refl _ _) | (with_reducible refine Blk.after ?_ b8) | (with_reducible refine RowIn.belowS ?_ b8) | (with_reducible refine Below.after ?_ b8 ?_) | (with_reducible refine Blk.drewN ?_ _) | (with_reducible refine RowIn.drewN ?_ _) | (with_reducible refine below_drewN ?_ _) | (with_reducible refine Blk.drew ?_) | (with_reducible refine RowIn.drew ?_) | (with_reducible refine Below.drew ?_) | (with_reducible refine Blk.new' ?_ ?_ <;> first | (with_reducible rfl) | (simp; done)) | (with_reducible refine Blk.alloc ?_ _) | (with_reducible refine RowIn.alloc ?_ _) | (with_reducible refine Below.alloc ?_ ?_ _) | (with_reducible apply Blk.set') | (with_reducible apply Blk.far') | (with_reducible refine RowIn.far' ?_ ?_ _) | (with_reducible refine Below.far' ?_ ?_ _) | rfl | omega | go_size)
    clear zb_7 zd_7 zo_7 zx_7 zy_7 rb_7 ro_7 rp_7 bb_7 kb_7 fb_7 lb_7 kd_7 fd_7 ld_7 ko_7 fo_7 lo_7 kx_7 fx_7 lx_7 ky_7 fy_7 ly_7 b8
    have kb_8 := zb_8.cell; have fb_8 := zb_8.frozen; have lb_8 := zb_8.lt
    have kd_8 := zd_8.cell; have fd_8 := zd_8.frozen; have ld_8 := zd_8.lt
    have ko_8 := zo_8.cell; have fo_8 := zo_8.frozen; have lo_8 := zo_8.lt
    have kx_8 := zx_8.cell; have fx_8 := zx_8.frozen; have lx_8 := zx_8.lt
    have ky_8 := zy_8.cell; have fy_8 := zy_8.frozen; have ly_8 := zy_8.lt
    have kp_8 := zp_8.cell; have fp_8 := zp_8.frozen; have lp_8 := zp_8.lt
    have kup_8 := zup_8.cell; have fup_8 := zup_8.frozen; have lup_8 := zup_8.lt
    clear rq
    go_wp2_with fail
    have he := HDp.out.trans HDq.out.symm
    injection he with he0 he1 he2 he3
    obtain rfl : a0 = c0 := he0
    obtain rfl : a1 = c1 := he1
    obtain rfl : e0 = f0 := he2
    obtain rfl : e1 = f1 := he3
    clear HDp HDq
    have HE : Hid (xp = xq) := by rw [HXp.out, HXq.out]; exact Lib.hid rfl
    obtain ⟨w9, hw9⟩ : ∃ w9, w9 = (w8.alloc (.cells #[.slice Aq mq cq, .int .i64 ((xq.length : Nat) : Int)] 29)).alloc (.cells #[.int .i64 (a0 : Int), .int .i64 (a1 : Int), .int .u64 (e0 : Int), .int .u64 (e1 : Int)] 37) := ⟨_, rfl⟩
    obtain ⟨zb_9, zd_9, zo_9, zx_9, zy_9, zp_9, zup_9, zq_9, zuq_9, rb_9, ro_9, rp_9, rq_9, bb_9, s9⟩ : Blk w9 (w.heap.size) 29 [.slice Ab nb cb, .int .i64 ((xb.length : Nat) : Int)] ∧ Blk w9 (w.heap.size + 1) 37 [.int .i64 p0, .int .i64 p1, .int .u64 q0, .int .u64 q1] ∧ Blk w9 (w2.heap.size) 29 [.slice Ao nb co, .int .i64 ((xb.length : Nat) : Int)] ∧ Blk w9 (w3.heap.size) 37 [.int .i64 0, .int .i64 0, .int .u64 0, .int .u64 0] ∧ Blk w9 (w4.heap.size) 37 [.int .i64 0, .int .i64 0, .int .u64 0, .int .u64 0] ∧ Blk w9 (w7.heap.size) 29 [.slice Ap mp cp, .int .i64 ((xp.length : Nat) : Int)] ∧ Blk w9 (w7.heap.size + 1) 37 [.int .i64 (a0 : Int), .int .i64 (a1 : Int), .int .u64 (e0 : Int), .int .u64 (e1 : Int)] ∧ Blk w9 (w8.heap.size) 29 [.slice Aq mq cq, .int .i64 ((xq.length : Nat) : Int)] ∧ Blk w9 (w8.heap.size + 1) 37 [.int .i64 (a0 : Int), .int .i64 (a1 : Int), .int .u64 (e0 : Int), .int .u64 (e1 : Int)] ∧ RowIn .u8 w9 (0) (w.heap.size) Ab nb (pack xb) ∧ RowIn .u8 w9 (w1.heap.size) (w2.heap.size) Ao nb (pack xb) ∧ RowIn .u8 w9 (w6.heap.size + 0) (w7.heap.size) Ap mp (pack xp) ∧ RowIn .u8 w9 (w7.heap.size + 1) (w8.heap.size) Aq mq (pack xq) ∧ Below w.heap.size w w9 ∧ w8.heap.size ≤ w9.heap.size := by
      rw [hw9]
      refine ⟨?_, ?_, ?_, ?_, ?_, ?_, ?_, ?_, ?_, ?_, ?_, ?_, ?_, ?_, by go_size⟩
      all_goals repeat' (first | (with_reducible assumption) | (with_reducible exact Below.refl _ _) | (with_reducible refine Blk.drewN ?_ _) | (with_reducible refine RowIn.drewN ?_ _) | (with_reducible refine below_drewN ?_ _) | (with_reducible refine Blk.drew ?_) | (with_reducible refine RowIn.drew ?_) | (with_reducible refine Below.drew ?_) | (with_reducible refine Blk.new' ?_ ?_ <;> first | (with_reducible rfl) | (simp; done)) | (with_reducible refine Blk.alloc ?_ _) | (with_reducible refine RowIn.alloc ?_ _) | (with_reducible refine Below.alloc ?_ ?_ _) | (with_reducible apply Blk.set') | (with_reducible apply Blk.far') | (with_reducible refine RowIn.far' ?_ ?_ _) | (with_reducible refine Below.far' ?_ ?_ _) | rfl | omega | go_size)
    rw [← hw9]
    clear hw9
    clear zb_8 zd_8 zo_8 zx_8 zy_8 zp_8 zup_8 rb_8 ro_8 rp_8 rq_8 bb_8 kb_8 fb_8 lb_8 kd_8 fd_8 ld_8 ko_8 fo_8 lo_8 kx_8 fx_8 lx_8 ky_8 fy_8 ly_8 kp_8 fp_8 lp_8 kup_8 fup_8 lup_8
    have kb_9 := zb_9.cell; have fb_9 := zb_9.frozen; have lb_9 := zb_9.lt
    have kd_9 := zd_9.cell; have fd_9 := zd_9.frozen; have ld_9 := zd_9.lt
    have ko_9 := zo_9.cell; have fo_9 := zo_9.frozen; have lo_9 := zo_9.lt
    have kx_9 := zx_9.cell; have fx_9 := zx_9.frozen; have lx_9 := zx_9.lt
    have ky_9 := zy_9.cell; have fy_9 := zy_9.frozen; have ly_9 := zy_9.lt
    have kp_9 := zp_9.cell; have fp_9 := zp_9.frozen; have lp_9 := zp_9.lt
    have kup_9 := zup_9.cell; have fup_9 := zup_9.frozen; have lup_9 := zup_9.lt
    have kq_9 := zq_9.cell; have fq_9 := zq_9.frozen; have lq_9 := zq_9.lt
    have kuq_9 := zuq_9.cell; have fuq_9 := zuq_9.frozen; have luq_9 := zuq_9.lt
    have kb_9d := (Blk.drew zb_9).cell; have kd_9d := (Blk.drew zd_9).cell; have ko_9d := (Blk.drew zo_9).cell; have kx_9d := (Blk.drew zx_9).cell; have ky_9d := (Blk.drew zy_9).cell; have kp_9d := (Blk.drew zp_9).cell; have kup_9d := (Blk.drew zup_9).cell; have kq_9d := (Blk.drew zq_9).cell; have kuq_9d := (Blk.drew zuq_9).cell
    go_region_held3 (fun w' => (∀ a, w'.cell? ⟨w.heap.size, a, none⟩ = [.slice Ab nb cb, .int .i64 ((xb.length : Nat) : Int)][a]?) ∧ (∀ a, w'.cell? ⟨w.heap.size + 1, a, none⟩ = [.int .i64 p0, .int .i64 p1, .int .u64 q0, .int .u64 q1][a]?) ∧ (∀ a, w'.cell? ⟨w2.heap.size, a, none⟩ = [.slice Ao nb co, .int .i64 ((xb.length : Nat) : Int)][a]?) ∧ (∀ a, w'.cell? ⟨w3.heap.size, a, none⟩ = [.int .i64 0, .int .i64 0, .int .u64 0, .int .u64 0][a]?) ∧ (∀ a, w'.cell? ⟨w4.heap.size, a, none⟩ = [.int .i64 0, .int .i64 0, .int .u64 0, .int .u64 0][a]?) ∧ (∀ a, w'.cell? ⟨w7.heap.size, a, none⟩ = [.slice Ap mp cp, .int .i64 ((xp.length : Nat) : Int)][a]?) ∧ (∀ a, w'.cell? ⟨w7.heap.size + 1, a, none⟩ = [.int .i64 (a0 : Int), .int .i64 (a1 : Int), .int .u64 (e0 : Int), .int .u64 (e1 : Int)][a]?) ∧ (∀ a, w'.cell? ⟨w8.heap.size, a, none⟩ = [.slice Aq mq cq, .int .i64 ((xq.length : Nat) : Int)][a]?) ∧ (∀ a, w'.cell? ⟨w8.heap.size + 1, a, none⟩ = [.int .i64 (a0 : Int), .int .i64 (a1 : Int), .int .u64 (e0 : Int), .int .u64 (e1 : Int)][a]?)) (first | with_reducible exact ⟨kb_9, kd_9, ko_9, kx_9, ky_9, kp_9, kup_9, kq_9, kuq_9⟩ | with_reducible exact ⟨kb_9d, kd_9d, ko_9d, kx_9d, ky_9d, kp_9d, kup_9d, kq_9d, kuq_9d⟩ | with_reducible exact ⟨kb_10, kd_10, ko_10, kx_10, ky_10, kp_10, kup_10, kq_10, kuq_10⟩ | with_reducible exact ⟨kb_11, kd_11, ko_11, kx_11, ky_11, kp_11, kup_11, kq_11, kuq_11⟩ | with_reducible exact ⟨kb_12, kd_12, ko_12, kx_12, ky_12, kp_12, kup_12, kq_12, kuq_12⟩ | with_reducible exact ⟨kb_13, kd_13, ko_13, kx_13, ky_13, kp_13, kup_13, kq_13, kuq_13⟩ | with_reducible exact ⟨kb_14, kd_14, ko_14, kx_14, ky_14, kp_14, kup_14, kq_14, kuq_14⟩ | with_reducible exact ⟨kb_15, kd_15, ko_15, kx_15, ky_15, kp_15, kup_15, kq_15, kuq_15⟩) (first
      | (go_simp; go_at_call 19; refine (dstart_ok _).mono ?_
         rintro e w10 ⟨rfl, b10⟩
         have s10 : w9.heap.size ≤ w10.heap.size := b10.size
         have zb_10 := ((Blk.drew zb_9)).after b10; have kb_10 := zb_10.cell; have fb_10 := zb_10.frozen; have lb_10 := zb_10.lt
         have zd_10 := ((Blk.drew zd_9)).after b10; have kd_10 := zd_10.cell; have fd_10 := zd_10.frozen; have ld_10 := zd_10.lt
         have zo_10 := ((Blk.drew zo_9)).after b10; have ko_10 := zo_10.cell; have fo_10 := zo_10.frozen; have lo_10 := zo_10.lt
         have zx_10 := ((Blk.drew zx_9)).after b10; have kx_10 := zx_10.cell; have fx_10 := zx_10.frozen; have lx_10 := zx_10.lt
         have zy_10 := ((Blk.drew zy_9)).after b10; have ky_10 := zy_10.cell; have fy_10 := zy_10.frozen; have ly_10 := zy_10.lt
         have zp_10 := ((Blk.drew zp_9)).after b10; have kp_10 := zp_10.cell; have fp_10 := zp_10.frozen; have lp_10 := zp_10.lt
         have zup_10 := ((Blk.drew zup_9)).after b10; have kup_10 := zup_10.cell; have fup_10 := zup_10.frozen; have lup_10 := zup_10.lt
         have zq_10 := ((Blk.drew zq_9)).after b10; have kq_10 := zq_10.cell; have fq_10 := zq_10.frozen; have lq_10 := zq_10.lt
         have zuq_10 := ((Blk.drew zuq_9)).after b10; have kuq_10 := zuq_10.cell; have fuq_10 := zuq_10.frozen; have luq_10 := zuq_10.lt
         have rb_10 := ((RowIn.drew rb_9)).belowS b10
         have ro_10 := ((RowIn.drew ro_9)).belowS b10
         have rp_10 := ((RowIn.drew rp_9)).belowS b10
         have rq_10 := ((RowIn.drew rq_9)).belowS b10
         have bb_10 := Below.after (Below.drew bb_9) b10 bb_9.size)
      | (go_simp; go_at_call 20; refine (rdstart_ok _).mono ?_
         rintro e w11 ⟨rfl, b11⟩
         have s11 : w10.heap.size ≤ w11.heap.size := b11.size
         have zb_11 := (zb_10).after b11; have kb_11 := zb_11.cell; have fb_11 := zb_11.frozen; have lb_11 := zb_11.lt
         have zd_11 := (zd_10).after b11; have kd_11 := zd_11.cell; have fd_11 := zd_11.frozen; have ld_11 := zd_11.lt
         have zo_11 := (zo_10).after b11; have ko_11 := zo_11.cell; have fo_11 := zo_11.frozen; have lo_11 := zo_11.lt
         have zx_11 := (zx_10).after b11; have kx_11 := zx_11.cell; have fx_11 := zx_11.frozen; have lx_11 := zx_11.lt
         have zy_11 := (zy_10).after b11; have ky_11 := zy_11.cell; have fy_11 := zy_11.frozen; have ly_11 := zy_11.lt
         have zp_11 := (zp_10).after b11; have kp_11 := zp_11.cell; have fp_11 := zp_11.frozen; have lp_11 := zp_11.lt
         have zup_11 := (zup_10).after b11; have kup_11 := zup_11.cell; have fup_11 := zup_11.frozen; have lup_11 := zup_11.lt
         have zq_11 := (zq_10).after b11; have kq_11 := zq_11.cell; have fq_11 := zq_11.frozen; have lq_11 := zq_11.lt
         have zuq_11 := (zuq_10).after b11; have kuq_11 := zuq_11.cell; have fuq_11 := zuq_11.frozen; have luq_11 := zuq_11.lt
         have rb_11 := (rb_10).belowS b11
         have ro_11 := (ro_10).belowS b11
         have rp_11 := (rp_10).belowS b11
         have rq_11 := (rq_10).belowS b11
         have bb_11 := Below.after bb_10 b11 bb_10.size)
      | (go_simp; go_at_call 21; refine (dcheck_bad p0 p1 q0 q1 _ hq0.1 hq1.1 HN.out).mono ?_
         rintro e w12 ⟨rfl, b12⟩
         have s12 : w11.heap.size ≤ w12.heap.size := b12.size
         have zb_12 := (zb_11).after b12; have kb_12 := zb_12.cell; have fb_12 := zb_12.frozen; have lb_12 := zb_12.lt
         have zd_12 := (zd_11).after b12; have kd_12 := zd_12.cell; have fd_12 := zd_12.frozen; have ld_12 := zd_12.lt
         have zo_12 := (zo_11).after b12; have ko_12 := zo_12.cell; have fo_12 := zo_12.frozen; have lo_12 := zo_12.lt
         have zx_12 := (zx_11).after b12; have kx_12 := zx_12.cell; have fx_12 := zx_12.frozen; have lx_12 := zx_12.lt
         have zy_12 := (zy_11).after b12; have ky_12 := zy_12.cell; have fy_12 := zy_12.frozen; have ly_12 := zy_12.lt
         have zp_12 := (zp_11).after b12; have kp_12 := zp_12.cell; have fp_12 := zp_12.frozen; have lp_12 := zp_12.lt
         have zup_12 := (zup_11).after b12; have kup_12 := zup_12.cell; have fup_12 := zup_12.frozen; have lup_12 := zup_12.lt
         have zq_12 := (zq_11).after b12; have kq_12 := zq_12.cell; have fq_12 := zq_12.frozen; have lq_12 := zq_12.lt
         have zuq_12 := (zuq_11).after b12; have kuq_12 := zuq_12.cell; have fuq_12 := zuq_12.frozen; have luq_12 := zuq_12.lt
         have rb_12 := (rb_11).belowS b12
         have ro_12 := (ro_11).belowS b12
         have rp_12 := (rp_11).belowS b12
         have rq_12 := (rq_11).belowS b12
         have bb_12 := Below.after bb_11 b12 bb_11.size)
      | (go_simp; go_at_call 22; refine (rdcheck_any p0 p1 q0 q1 8 _ hq0.1 hq1.1 (by rw [if_neg HN.out])).mono ?_
         rintro e w13 ⟨rfl, b13⟩
         have s13 : w12.heap.size ≤ w13.heap.size := b13.size
         have zb_13 := (zb_12).after b13; have kb_13 := zb_13.cell; have fb_13 := zb_13.frozen; have lb_13 := zb_13.lt
         have zd_13 := (zd_12).after b13; have kd_13 := zd_13.cell; have fd_13 := zd_13.frozen; have ld_13 := zd_13.lt
         have zo_13 := (zo_12).after b13; have ko_13 := zo_13.cell; have fo_13 := zo_13.frozen; have lo_13 := zo_13.lt
         have zx_13 := (zx_12).after b13; have kx_13 := zx_13.cell; have fx_13 := zx_13.frozen; have lx_13 := zx_13.lt
         have zy_13 := (zy_12).after b13; have ky_13 := zy_13.cell; have fy_13 := zy_13.frozen; have ly_13 := zy_13.lt
         have zp_13 := (zp_12).after b13; have kp_13 := zp_13.cell; have fp_13 := zp_13.frozen; have lp_13 := zp_13.lt
         have zup_13 := (zup_12).after b13; have kup_13 := zup_13.cell; have fup_13 := zup_13.frozen; have lup_13 := zup_13.lt
         have zq_13 := (zq_12).after b13; have kq_13 := zq_13.cell; have fq_13 := zq_13.frozen; have lq_13 := zq_13.lt
         have zuq_13 := (zuq_12).after b13; have kuq_13 := zuq_13.cell; have fuq_13 := zuq_13.frozen; have luq_13 := zuq_13.lt
         have rb_13 := (rb_12).belowS b13
         have ro_13 := (ro_12).belowS b13
         have rp_13 := (rp_12).belowS b13
         have rq_13 := (rq_12).belowS b13
         have bb_13 := Below.after bb_12 b13 bb_12.size)
      | (go_simp; go_at_call_of 10 Ap; refine (rsame_bits Ap Aq mp mq cp cq xp xq _ rp_13.row rq_13.row HE.out).mono ?_
         rintro e w14 ⟨rfl, b14⟩
         have s14 : w13.heap.size ≤ w14.heap.size := b14.size
         have zb_14 := (zb_13).after b14; have kb_14 := zb_14.cell; have fb_14 := zb_14.frozen; have lb_14 := zb_14.lt
         have zd_14 := (zd_13).after b14; have kd_14 := zd_14.cell; have fd_14 := zd_14.frozen; have ld_14 := zd_14.lt
         have zo_14 := (zo_13).after b14; have ko_14 := zo_14.cell; have fo_14 := zo_14.frozen; have lo_14 := zo_14.lt
         have zx_14 := (zx_13).after b14; have kx_14 := zx_14.cell; have fx_14 := zx_14.frozen; have lx_14 := zx_14.lt
         have zy_14 := (zy_13).after b14; have ky_14 := zy_14.cell; have fy_14 := zy_14.frozen; have ly_14 := zy_14.lt
         have zp_14 := (zp_13).after b14; have kp_14 := zp_14.cell; have fp_14 := zp_14.frozen; have lp_14 := zp_14.lt
         have zup_14 := (zup_13).after b14; have kup_14 := zup_14.cell; have fup_14 := zup_14.frozen; have lup_14 := zup_14.lt
         have zq_14 := (zq_13).after b14; have kq_14 := zq_14.cell; have fq_14 := zq_14.frozen; have lq_14 := zq_14.lt
         have zuq_14 := (zuq_13).after b14; have kuq_14 := zuq_14.cell; have fuq_14 := zuq_14.frozen; have luq_14 := zuq_14.lt
         have rb_14 := (rb_13).belowS b14
         have ro_14 := (ro_13).belowS b14
         have rp_14 := (rp_13).belowS b14
         have rq_14 := (rq_13).belowS b14
         have bb_14 := Below.after bb_13 b14 bb_13.size)
      | (go_simp; go_at_call_of 10 Ao; refine (rsame_bits Ao Ab nb nb co cb xb xb _ ro_14.row rb_14.row rfl).mono ?_
         rintro e w15 ⟨rfl, b15⟩
         have s15 : w14.heap.size ≤ w15.heap.size := b15.size
         have zb_15 := (zb_14).after b15; have kb_15 := zb_15.cell; have fb_15 := zb_15.frozen; have lb_15 := zb_15.lt
         have zd_15 := (zd_14).after b15; have kd_15 := zd_15.cell; have fd_15 := zd_15.frozen; have ld_15 := zd_15.lt
         have zo_15 := (zo_14).after b15; have ko_15 := zo_15.cell; have fo_15 := zo_15.frozen; have lo_15 := zo_15.lt
         have zx_15 := (zx_14).after b15; have kx_15 := zx_15.cell; have fx_15 := zx_15.frozen; have lx_15 := zx_15.lt
         have zy_15 := (zy_14).after b15; have ky_15 := zy_15.cell; have fy_15 := zy_15.frozen; have ly_15 := zy_15.lt
         have zp_15 := (zp_14).after b15; have kp_15 := zp_15.cell; have fp_15 := zp_15.frozen; have lp_15 := zp_15.lt
         have zup_15 := (zup_14).after b15; have kup_15 := zup_15.cell; have fup_15 := zup_15.frozen; have lup_15 := zup_15.lt
         have zq_15 := (zq_14).after b15; have kq_15 := zq_15.cell; have fq_15 := zq_15.frozen; have lq_15 := zq_15.lt
         have zuq_15 := (zuq_14).after b15; have kuq_15 := zuq_15.cell; have fuq_15 := zuq_15.frozen; have luq_15 := zuq_15.lt
         have rb_15 := (rb_14).belowS b15
         have ro_15 := (ro_14).belowS b15
         have rp_15 := (rp_14).belowS b15
         have rq_15 := (rq_14).belowS b15
         have bb_15 := Below.after bb_14 b15 bb_14.size))
    all_goals
      go_wp2
      go_ret
      refine ⟨rfl, ?_⟩
      repeat' (first | (with_reducible assumption) | (with_reducible exact Below.refl _ _) | (with_reducible refine Blk.drewN ?_ _) | (with_reducible refine RowIn.drewN ?_ _) | (with_reducible refine below_drewN ?_ _) | (with_reducible refine Blk.drew ?_) | (with_reducible refine RowIn.drew ?_) | (with_reducible refine Below.drew ?_) | (with_reducible refine Blk.new' ?_ ?_ <;> first | (with_reducible rfl) | (simp; done)) | (with_reducible refine Blk.alloc ?_ _) | (with_reducible refine RowIn.alloc ?_ _) | (with_reducible refine Below.alloc ?_ ?_ _) | (with_reducible apply Blk.set') | (with_reducible apply Blk.far') | (with_reducible refine RowIn.far' ?_ ?_ _) | (with_reducible refine Below.far' ?_ ?_ _) | rfl | omega | go_size)
  · obtain ⟨p0, p1, q0, q1, rfl, rfl, rfl, rfl, hd⟩ := dok_dual hq0.1 hq1.1 (Decidable.not_not.1 hdk)
    have HD := Lib.hid hd
    have HDK : Hid (DOk (p0 : Int) (p1 : Int) (q0 : Int) (q1 : Int)) := Lib.hid (Decidable.not_not.1 hdk)
    clear hdk hd hp0 hp1 hq0 hq1
    go_enter Try.func4, Try.ntmps4
    go_wp2_with fail
    refine (rgreat_no Ab nb cb _ _ hg).mono ?_
    rintro e w1 ⟨rfl, b1⟩
    have s1 := b1.size
    try simp only [World.size_alloc, World.size_setCell, World.size_drew, size_drewN] at s1
    obtain ⟨zb_1, zd_1, rb_1, bb_1⟩ : Blk w1 (w.heap.size) 29 [.slice Ab nb cb, .int .i64 ((xb.length : Nat) : Int)] ∧ Blk w1 (w.heap.size + 1) 37 [.int .i64 (p0 : Int), .int .i64 (p1 : Int), .int .u64 (q0 : Int), .int .u64 (q1 : Int)] ∧ RowIn .u8 w1 (0) (w.heap.size) Ab nb (pack xb) ∧ Below w.heap.size w w1 := by
      refine ⟨?_, ?_, ?_, ?_⟩
      all_goals repeat' (first | (with_reducible assumption) | (with_reducible exact Below.refl _ _) | (with_reducible refine Blk.after ?_ b1) | (with_reducible refine RowIn.belowS ?_ b1) | (with_reducible refine Below.after ?_ b1 ?_) | (with_reducible refine Blk.drewN ?_ _) | (with_reducible refine RowIn.drewN ?_ _) | (with_reducible refine below_drewN ?_ _) | (with_reducible refine Blk.drew ?_) | (with_reducible refine RowIn.drew ?_) | (with_reducible refine Below.drew ?_) | (with_reducible refine Blk.new' ?_ ?_ <;> first | (with_reducible rfl) | (simp; done)) | (with_reducible refine Blk.alloc ?_ _) | (with_reducible refine RowIn.alloc ?_ _) | (with_reducible refine Below.alloc ?_ ?_ _) | (with_reducible apply Blk.set') | (with_reducible apply Blk.far') | (with_reducible refine RowIn.far' ?_ ?_ _) | (with_reducible refine Below.far' ?_ ?_ _) | rfl | omega | go_size)
    clear b1
    have kb_1 := zb_1.cell; have fb_1 := zb_1.frozen; have lb_1 := zb_1.lt
    have kd_1 := zd_1.cell; have fd_1 := zd_1.frozen; have ld_1 := zd_1.lt
    go_wp2_with fail
    refine (rtwin_any Ab nb cb _ (pack xb) _ rb_1.row (by omega)).mono ?_
    rintro e w2 ⟨Ao, co, rfl, own2, b2⟩
    have hco := own2.rowC.2
    have ro := own2.rowIn
    clear own2
    have s2 := b2.size
    try simp only [World.size_alloc, World.size_setCell, World.size_drew, size_drewN] at s2
    obtain ⟨zb_2, zd_2, rb_2, ro_2, bb_2⟩ : Blk w2 (w.heap.size) 29 [.slice Ab nb cb, .int .i64 ((xb.length : Nat) : Int)] ∧ Blk w2 (w.heap.size + 1) 37 [.int .i64 (p0 : Int), .int .i64 (p1 : Int), .int .u64 (q0 : Int), .int .u64 (q1 : Int)] ∧ RowIn .u8 w2 (0) (w.heap.size) Ab nb (pack xb) ∧ RowIn .u8 w2 (w1.heap.size) (w2.heap.size) Ao nb (pack xb) ∧ Below w.heap.size w w2 := by
      refine ⟨?_, ?_, ?_, ?_, ?_⟩
      all_goals repeat' (first | (with_reducible assumption) | (with_reducible exact Below.refl _ _) | (with_reducible refine Blk.after ?_ b2) | (with_reducible refine RowIn.belowS ?_ b2) | (with_reducible refine Below.after ?_ b2 ?_) | (with_reducible refine Blk.drewN ?_ _) | (with_reducible refine RowIn.drewN ?_ _) | (with_reducible refine below_drewN ?_ _) | (with_reducible refine Blk.drew ?_) | (with_reducible refine RowIn.drew ?_) | (with_reducible refine Below.drew ?_) | (with_reducible refine Blk.new' ?_ ?_ <;> first | (with_reducible rfl) | (simp; done)) | (with_reducible refine Blk.alloc ?_ _) | (with_reducible refine RowIn.alloc ?_ _) | (with_reducible refine Below.alloc ?_ ?_ _) | (with_reducible apply Blk.set') | (with_reducible apply Blk.far') | (with_reducible refine RowIn.far' ?_ ?_ _) | (with_reducible refine Below.far' ?_ ?_ _) | rfl | omega | go_size)
    clear zb_1 zd_1 rb_1 bb_1 kb_1 fb_1 lb_1 kd_1 fd_1 ld_1 b2
    have kb_2 := zb_2.cell; have fb_2 := zb_2.frozen; have lb_2 := zb_2.lt
    have kd_2 := zd_2.cell; have fd_2 := zd_2.frozen; have ld_2 := zd_2.lt
    clear ro
    go_wp2_with fail
    refine (dLearn_ok p0 p1 q0 q1 v _ HD.out hv32).mono ?_
    rintro e w3 ⟨u0, u1, v0, v1, rfl, HA, b3⟩
    have s3 := b3.size
    try simp only [World.size_alloc, World.size_setCell, World.size_drew, size_drewN] at s3
    obtain ⟨zb_3, zd_3, zo_3, rb_3, ro_3, bb_3⟩ : Blk w3 (w.heap.size) 29 [.slice Ab nb cb, .int .i64 ((xb.length : Nat) : Int)] ∧ Blk w3 (w.heap.size + 1) 37 [.int .i64 (p0 : Int), .int .i64 (p1 : Int), .int .u64 (q0 : Int), .int .u64 (q1 : Int)] ∧ Blk w3 (w2.heap.size) 29 [.slice Ao nb co, .int .i64 ((xb.length : Nat) : Int)] ∧ RowIn .u8 w3 (0) (w.heap.size) Ab nb (pack xb) ∧ RowIn .u8 w3 (w1.heap.size) (w2.heap.size) Ao nb (pack xb) ∧ Below w.heap.size w w3 := by
      refine ⟨?_, ?_, ?_, ?_, ?_, ?_⟩
      all_goals repeat' (first | (with_reducible assumption) | (with_reducible exact Below.refl _ _) | (with_reducible refine Blk.after ?_ b3) | (with_reducible refine RowIn.belowS ?_ b3) | (with_reducible refine Below.after ?_ b3 ?_) | (with_reducible refine Blk.drewN ?_ _) | (with_reducible refine RowIn.drewN ?_ _) | (with_reducible refine below_drewN ?_ _) | (with_reducible refine Blk.drew ?_) | (with_reducible refine RowIn.drew ?_) | (with_reducible refine Below.drew ?_) | (with_reducible refine Blk.new' ?_ ?_ <;> first | (with_reducible rfl) | (simp; done)) | (with_reducible refine Blk.alloc ?_ _) | (with_reducible refine RowIn.alloc ?_ _) | (with_reducible refine Below.alloc ?_ ?_ _) | (with_reducible apply Blk.set') | (with_reducible apply Blk.far') | (with_reducible refine RowIn.far' ?_ ?_ _) | (with_reducible refine Below.far' ?_ ?_ _) | rfl | omega | go_size)
    clear zb_2 zd_2 rb_2 ro_2 bb_2 kb_2 fb_2 lb_2 kd_2 fd_2 ld_2 b3
    have kb_3 := zb_3.cell; have fb_3 := zb_3.frozen; have lb_3 := zb_3.lt
    have kd_3 := zd_3.cell; have fd_3 := zd_3.frozen; have ld_3 := zd_3.lt
    have ko_3 := zo_3.cell; have fo_3 := zo_3.frozen; have lo_3 := zo_3.lt
    go_wp2_with fail
    refine (rdLearn_ok p0 p1 q0 q1 v _ HD.out hv32).mono ?_
    rintro e w4 ⟨s0, s1, t0, t1, rfl, HB, b4⟩
    have s4 := b4.size
    try simp only [World.size_alloc, World.size_setCell, World.size_drew, size_drewN] at s4
    obtain ⟨zb_4, zd_4, zo_4, zx_4, rb_4, ro_4, bb_4⟩ : Blk w4 (w.heap.size) 29 [.slice Ab nb cb, .int .i64 ((xb.length : Nat) : Int)] ∧ Blk w4 (w.heap.size + 1) 37 [.int .i64 (p0 : Int), .int .i64 (p1 : Int), .int .u64 (q0 : Int), .int .u64 (q1 : Int)] ∧ Blk w4 (w2.heap.size) 29 [.slice Ao nb co, .int .i64 ((xb.length : Nat) : Int)] ∧ Blk w4 (w3.heap.size) 37 [.int .i64 (u0 : Int), .int .i64 (u1 : Int), .int .u64 (v0 : Int), .int .u64 (v1 : Int)] ∧ RowIn .u8 w4 (0) (w.heap.size) Ab nb (pack xb) ∧ RowIn .u8 w4 (w1.heap.size) (w2.heap.size) Ao nb (pack xb) ∧ Below w.heap.size w w4 := by
      refine ⟨?_, ?_, ?_, ?_, ?_, ?_, ?_⟩
      all_goals repeat' (first | (with_reducible assumption) | (with_reducible exact Below.refl _ _) | (with_reducible refine Blk.after ?_ b4) | (with_reducible refine RowIn.belowS ?_ b4) | (with_reducible refine Below.after ?_ b4 ?_) | (with_reducible refine Blk.drewN ?_ _) | (with_reducible refine RowIn.drewN ?_ _) | (with_reducible refine below_drewN ?_ _) | (with_reducible refine Blk.drew ?_) | (with_reducible refine RowIn.drew ?_) | (with_reducible refine Below.drew ?_) | (with_reducible refine Blk.new' ?_ ?_ <;> first | (with_reducible rfl) | (simp; done)) | (with_reducible refine Blk.alloc ?_ _) | (with_reducible refine RowIn.alloc ?_ _) | (with_reducible refine Below.alloc ?_ ?_ _) | (with_reducible apply Blk.set') | (with_reducible apply Blk.far') | (with_reducible refine RowIn.far' ?_ ?_ _) | (with_reducible refine Below.far' ?_ ?_ _) | rfl | omega | go_size)
    clear zb_3 zd_3 zo_3 rb_3 ro_3 bb_3 kb_3 fb_3 lb_3 kd_3 fd_3 ld_3 ko_3 fo_3 lo_3 b4
    have kb_4 := zb_4.cell; have fb_4 := zb_4.frozen; have lb_4 := zb_4.lt
    have kd_4 := zd_4.cell; have fd_4 := zd_4.frozen; have ld_4 := zd_4.lt
    have ko_4 := zo_4.cell; have fo_4 := zo_4.frozen; have lo_4 := zo_4.lt
    have kx_4 := zx_4.cell; have fx_4 := zx_4.frozen; have lx_4 := zx_4.lt
    have he := HA.out.trans HB.out.symm
    injection he with he0 he1 he2 he3
    obtain rfl : u0 = s0 := he0
    obtain rfl : u1 = s1 := he1
    obtain rfl : v0 = t0 := he2
    obtain rfl : v1 = t1 := he3
    clear HA HB
    go_wp2_with fail
    refine (dLength_ok p0 p1 q0 q1 v _ HD.out hv32).mono ?_
    rintro e w5 ⟨l, rfl, HL1, b5⟩
    have s5 := b5.size
    try simp only [World.size_alloc, World.size_setCell, World.size_drew, size_drewN] at s5
    obtain ⟨zb_5, zd_5, zo_5, zx_5, zy_5, rb_5, ro_5, bb_5⟩ : Blk w5 (w.heap.size) 29 [.slice Ab nb cb, .int .i64 ((xb.length : Nat) : Int)] ∧ Blk w5 (w.heap.size + 1) 37 [.int .i64 (p0 : Int), .int .i64 (p1 : Int), .int .u64 (q0 : Int), .int .u64 (q1 : Int)] ∧ Blk w5 (w2.heap.size) 29 [.slice Ao nb co, .int .i64 ((xb.length : Nat) : Int)] ∧ Blk w5 (w3.heap.size) 37 [.int .i64 (u0 : Int), .int .i64 (u1 : Int), .int .u64 (v0 : Int), .int .u64 (v1 : Int)] ∧ Blk w5 (w4.heap.size) 37 [.int .i64 (u0 : Int), .int .i64 (u1 : Int), .int .u64 (v0 : Int), .int .u64 (v1 : Int)] ∧ RowIn .u8 w5 (0) (w.heap.size) Ab nb (pack xb) ∧ RowIn .u8 w5 (w1.heap.size) (w2.heap.size) Ao nb (pack xb) ∧ Below w.heap.size w w5 := by
      refine ⟨?_, ?_, ?_, ?_, ?_, ?_, ?_, ?_⟩
      all_goals repeat' (first | (with_reducible assumption) | (with_reducible exact Below.refl _ _) | (with_reducible refine Blk.after ?_ b5) | (with_reducible refine RowIn.belowS ?_ b5) | (with_reducible refine Below.after ?_ b5 ?_) | (with_reducible refine Blk.drewN ?_ _) | (with_reducible refine RowIn.drewN ?_ _) | (with_reducible refine below_drewN ?_ _) | (with_reducible refine Blk.drew ?_) | (with_reducible refine RowIn.drew ?_) | (with_reducible refine Below.drew ?_) | (with_reducible refine Blk.new' ?_ ?_ <;> first | (with_reducible rfl) | (simp; done)) | (with_reducible refine Blk.alloc ?_ _) | (with_reducible refine RowIn.alloc ?_ _) | (with_reducible refine Below.alloc ?_ ?_ _) | (with_reducible apply Blk.set') | (with_reducible apply Blk.far') | (with_reducible refine RowIn.far' ?_ ?_ _) | (with_reducible refine Below.far' ?_ ?_ _) | rfl | omega | go_size)
    clear zb_4 zd_4 zo_4 zx_4 rb_4 ro_4 bb_4 kb_4 fb_4 lb_4 kd_4 fd_4 ld_4 ko_4 fo_4 lo_4 kx_4 fx_4 lx_4 b5
    have kb_5 := zb_5.cell; have fb_5 := zb_5.frozen; have lb_5 := zb_5.lt
    have kd_5 := zd_5.cell; have fd_5 := zd_5.frozen; have ld_5 := zd_5.lt
    have ko_5 := zo_5.cell; have fo_5 := zo_5.frozen; have lo_5 := zo_5.lt
    have kx_5 := zx_5.cell; have fx_5 := zx_5.frozen; have lx_5 := zx_5.lt
    have ky_5 := zy_5.cell; have fy_5 := zy_5.frozen; have ly_5 := zy_5.lt
    go_wp2_with fail
    refine (rdLength_ok p0 p1 q0 q1 v _ HD.out hv32).mono ?_
    rintro e w6 ⟨m, rfl, HL2, b6⟩
    have s6 := b6.size
    try simp only [World.size_alloc, World.size_setCell, World.size_drew, size_drewN] at s6
    obtain ⟨zb_6, zd_6, zo_6, zx_6, zy_6, rb_6, ro_6, bb_6⟩ : Blk w6 (w.heap.size) 29 [.slice Ab nb cb, .int .i64 ((xb.length : Nat) : Int)] ∧ Blk w6 (w.heap.size + 1) 37 [.int .i64 (p0 : Int), .int .i64 (p1 : Int), .int .u64 (q0 : Int), .int .u64 (q1 : Int)] ∧ Blk w6 (w2.heap.size) 29 [.slice Ao nb co, .int .i64 ((xb.length : Nat) : Int)] ∧ Blk w6 (w3.heap.size) 37 [.int .i64 (u0 : Int), .int .i64 (u1 : Int), .int .u64 (v0 : Int), .int .u64 (v1 : Int)] ∧ Blk w6 (w4.heap.size) 37 [.int .i64 (u0 : Int), .int .i64 (u1 : Int), .int .u64 (v0 : Int), .int .u64 (v1 : Int)] ∧ RowIn .u8 w6 (0) (w.heap.size) Ab nb (pack xb) ∧ RowIn .u8 w6 (w1.heap.size) (w2.heap.size) Ao nb (pack xb) ∧ Below w.heap.size w w6 := by
      refine ⟨?_, ?_, ?_, ?_, ?_, ?_, ?_, ?_⟩
      all_goals repeat' (first | (with_reducible assumption) | (with_reducible exact Below.refl _ _) | (with_reducible refine Blk.after ?_ b6) | (with_reducible refine RowIn.belowS ?_ b6) | (with_reducible refine Below.after ?_ b6 ?_) | (with_reducible refine Blk.drewN ?_ _) | (with_reducible refine RowIn.drewN ?_ _) | (with_reducible refine below_drewN ?_ _) | (with_reducible refine Blk.drew ?_) | (with_reducible refine RowIn.drew ?_) | (with_reducible refine Below.drew ?_) | (with_reducible refine Blk.new' ?_ ?_ <;> first | (with_reducible rfl) | (simp; done)) | (with_reducible refine Blk.alloc ?_ _) | (with_reducible refine RowIn.alloc ?_ _) | (with_reducible refine Below.alloc ?_ ?_ _) | (with_reducible apply Blk.set') | (with_reducible apply Blk.far') | (with_reducible refine RowIn.far' ?_ ?_ _) | (with_reducible refine Below.far' ?_ ?_ _) | rfl | omega | go_size)
    clear zb_5 zd_5 zo_5 zx_5 zy_5 rb_5 ro_5 bb_5 kb_5 fb_5 lb_5 kd_5 fd_5 ld_5 ko_5 fo_5 lo_5 kx_5 fx_5 lx_5 ky_5 fy_5 ly_5 b6
    have kb_6 := zb_6.cell; have fb_6 := zb_6.frozen; have lb_6 := zb_6.lt
    have kd_6 := zd_6.cell; have fd_6 := zd_6.frozen; have ld_6 := zd_6.lt
    have ko_6 := zo_6.cell; have fo_6 := zo_6.frozen; have lo_6 := zo_6.lt
    have kx_6 := zx_6.cell; have fx_6 := zx_6.frozen; have lx_6 := zx_6.lt
    have ky_6 := zy_6.cell; have fy_6 := zy_6.frozen; have ly_6 := zy_6.lt
    obtain rfl : l = m := by rw [HL1.out, HL2.out]
    clear HL1 HL2
    go_wp2_with fail
    refine (dWrite_ret Ao nb co xb p0 p1 q0 q1 v _ (by exact RowIn.row (lo := w1.heap.size) (hi := w2.heap.size) (by repeat' (first | (with_reducible assumption) | (with_reducible exact Below.refl _ _) | (with_reducible refine Blk.drewN ?_ _) | (with_reducible refine RowIn.drewN ?_ _) | (with_reducible refine below_drewN ?_ _) | (with_reducible refine Blk.drew ?_) | (with_reducible refine RowIn.drew ?_) | (with_reducible refine Below.drew ?_) | (with_reducible refine Blk.new' ?_ ?_ <;> first | (with_reducible rfl) | (simp; done)) | (with_reducible refine Blk.alloc ?_ _) | (with_reducible refine RowIn.alloc ?_ _) | (with_reducible refine Below.alloc ?_ ?_ _) | (with_reducible apply Blk.set') | (with_reducible apply Blk.far') | (with_reducible refine RowIn.far' ?_ ?_ _) | (with_reducible refine Below.far' ?_ ?_ _) | rfl | omega | go_size))) hco hlb HD.out hv32).mono ?_
    rintro e w7 ⟨Ap, mp, cp, xp, a0, a1, e0, e1, rfl, hcp, rp, HXp, HDp, b7⟩
    replace rp := rp.mono (lo' := w6.heap.size + 0) (by go_size) (Nat.le_refl _)
    have s7 := b7.size
    try simp only [World.size_alloc, World.size_setCell, World.size_drew, size_drewN] at s7
    obtain ⟨zb_7, zd_7, zo_7, zx_7, zy_7, rb_7, ro_7, rp_7, bb_7⟩ : Blk w7 (w.heap.size) 29 [.slice Ab nb cb, .int .i64 ((xb.length : Nat) : Int)] ∧ Blk w7 (w.heap.size + 1) 37 [.int .i64 (p0 : Int), .int .i64 (p1 : Int), .int .u64 (q0 : Int), .int .u64 (q1 : Int)] ∧ Blk w7 (w2.heap.size) 29 [.slice Ao nb co, .int .i64 ((xb.length : Nat) : Int)] ∧ Blk w7 (w3.heap.size) 37 [.int .i64 (u0 : Int), .int .i64 (u1 : Int), .int .u64 (v0 : Int), .int .u64 (v1 : Int)] ∧ Blk w7 (w4.heap.size) 37 [.int .i64 (u0 : Int), .int .i64 (u1 : Int), .int .u64 (v0 : Int), .int .u64 (v1 : Int)] ∧ RowIn .u8 w7 (0) (w.heap.size) Ab nb (pack xb) ∧ RowIn .u8 w7 (w1.heap.size) (w2.heap.size) Ao nb (pack xb) ∧ RowIn .u8 w7 (w6.heap.size + 0) (w7.heap.size) Ap mp (pack xp) ∧ Below w.heap.size w w7 := by
      refine ⟨?_, ?_, ?_, ?_, ?_, ?_, ?_, ?_, ?_⟩
      all_goals repeat' (first | (with_reducible assumption) | (with_reducible exact Below.refl _ _) | (with_reducible refine Blk.after ?_ b7) | (with_reducible refine RowIn.belowS ?_ b7) | (with_reducible refine Below.after ?_ b7 ?_) | (with_reducible refine Blk.drewN ?_ _) | (with_reducible refine RowIn.drewN ?_ _) | (with_reducible refine below_drewN ?_ _) | (with_reducible refine Blk.drew ?_) | (with_reducible refine RowIn.drew ?_) | (with_reducible refine Below.drew ?_) | (with_reducible refine Blk.new' ?_ ?_ <;> first | (with_reducible rfl) | (simp; done)) | (with_reducible refine Blk.alloc ?_ _) | (with_reducible refine RowIn.alloc ?_ _) | (with_reducible refine Below.alloc ?_ ?_ _) | (with_reducible apply Blk.set') | (with_reducible apply Blk.far') | (with_reducible refine RowIn.far' ?_ ?_ _) | (with_reducible refine Below.far' ?_ ?_ _) | rfl | omega | go_size)
    clear zb_6 zd_6 zo_6 zx_6 zy_6 rb_6 ro_6 bb_6 kb_6 fb_6 lb_6 kd_6 fd_6 ld_6 ko_6 fo_6 lo_6 kx_6 fx_6 lx_6 ky_6 fy_6 ly_6 b7
    have kb_7 := zb_7.cell; have fb_7 := zb_7.frozen; have lb_7 := zb_7.lt
    have kd_7 := zd_7.cell; have fd_7 := zd_7.frozen; have ld_7 := zd_7.lt
    have ko_7 := zo_7.cell; have fo_7 := zo_7.frozen; have lo_7 := zo_7.lt
    have kx_7 := zx_7.cell; have fx_7 := zx_7.frozen; have lx_7 := zx_7.lt
    have ky_7 := zy_7.cell; have fy_7 := zy_7.frozen; have ly_7 := zy_7.lt
    clear rp
    go_wp2_with fail
    refine (rdwrite_ret Ab nb cb xb p0 p1 q0 q1 v _ (by exact RowIn.row (lo := 0) (hi := w.heap.size) (by repeat' (first | (with_reducible assumption) | (with_reducible exact Below.refl _ _) | (with_reducible refine Blk.drewN ?_ _) | (with_reducible refine RowIn.drewN ?_ _) | (with_reducible refine below_drewN ?_ _) | (with_reducible refine Blk.drew ?_) | (with_reducible refine RowIn.drew ?_) | (with_reducible refine Below.drew ?_) | (with_reducible refine Blk.new' ?_ ?_ <;> first | (with_reducible rfl) | (simp; done)) | (with_reducible refine Blk.alloc ?_ _) | (with_reducible refine RowIn.alloc ?_ _) | (with_reducible refine Below.alloc ?_ ?_ _) | (with_reducible apply Blk.set') | (with_reducible apply Blk.far') | (with_reducible refine RowIn.far' ?_ ?_ _) | (with_reducible refine Below.far' ?_ ?_ _) | rfl | omega | go_size))) hcb hlb HD.out hv32).mono ?_
    rintro e w8 ⟨Aq, mq, cq, xq, c0, c1, f0, f1, rfl, hcq, rq, HXq, HDq, b8⟩
    replace rq := rq.mono (lo' := w7.heap.size + 1) (by go_size) (Nat.le_refl _)
    have s8 := b8.size
    try simp only [World.size_alloc, World.size_setCell, World.size_drew, size_drewN] at s8
    obtain ⟨zb_8, zd_8, zo_8, zx_8, zy_8, zp_8, zup_8, rb_8, ro_8, rp_8, rq_8, bb_8⟩ : Blk w8 (w.heap.size) 29 [.slice Ab nb cb, .int .i64 ((xb.length : Nat) : Int)] ∧ Blk w8 (w.heap.size + 1) 37 [.int .i64 (p0 : Int), .int .i64 (p1 : Int), .int .u64 (q0 : Int), .int .u64 (q1 : Int)] ∧ Blk w8 (w2.heap.size) 29 [.slice Ao nb co, .int .i64 ((xb.length : Nat) : Int)] ∧ Blk w8 (w3.heap.size) 37 [.int .i64 (u0 : Int), .int .i64 (u1 : Int), .int .u64 (v0 : Int), .int .u64 (v1 : Int)] ∧ Blk w8 (w4.heap.size) 37 [.int .i64 (u0 : Int), .int .i64 (u1 : Int), .int .u64 (v0 : Int), .int .u64 (v1 : Int)] ∧ Blk w8 (w7.heap.size) 29 [.slice Ap mp cp, .int .i64 ((xp.length : Nat) : Int)] ∧ Blk w8 (w7.heap.size + 1) 37 [.int .i64 (a0 : Int), .int .i64 (a1 : Int), .int .u64 (e0 : Int), .int .u64 (e1 : Int)] ∧ RowIn .u8 w8 (0) (w.heap.size) Ab nb (pack xb) ∧ RowIn .u8 w8 (w1.heap.size) (w2.heap.size) Ao nb (pack xb) ∧ RowIn .u8 w8 (w6.heap.size + 0) (w7.heap.size) Ap mp (pack xp) ∧ RowIn .u8 w8 (w7.heap.size + 1) (w8.heap.size) Aq mq (pack xq) ∧ Below w.heap.size w w8 := by
      refine ⟨?_, ?_, ?_, ?_, ?_, ?_, ?_, ?_, ?_, ?_, ?_, ?_⟩
      all_goals repeat' (first | (with_reducible assumption) | (with_reducible exact Below.refl _ _) | (with_reducible refine Blk.after ?_ b8) | (with_reducible refine RowIn.belowS ?_ b8) | (with_reducible refine Below.after ?_ b8 ?_) | (with_reducible refine Blk.drewN ?_ _) | (with_reducible refine RowIn.drewN ?_ _) | (with_reducible refine below_drewN ?_ _) | (with_reducible refine Blk.drew ?_) | (with_reducible refine RowIn.drew ?_) | (with_reducible refine Below.drew ?_) | (with_reducible refine Blk.new' ?_ ?_ <;> first | (with_reducible rfl) | (simp; done)) | (with_reducible refine Blk.alloc ?_ _) | (with_reducible refine RowIn.alloc ?_ _) | (with_reducible refine Below.alloc ?_ ?_ _) | (with_reducible apply Blk.set') | (with_reducible apply Blk.far') | (with_reducible refine RowIn.far' ?_ ?_ _) | (with_reducible refine Below.far' ?_ ?_ _) | rfl | omega | go_size)
    clear zb_7 zd_7 zo_7 zx_7 zy_7 rb_7 ro_7 rp_7 bb_7 kb_7 fb_7 lb_7 kd_7 fd_7 ld_7 ko_7 fo_7 lo_7 kx_7 fx_7 lx_7 ky_7 fy_7 ly_7 b8
    have kb_8 := zb_8.cell; have fb_8 := zb_8.frozen; have lb_8 := zb_8.lt
    have kd_8 := zd_8.cell; have fd_8 := zd_8.frozen; have ld_8 := zd_8.lt
    have ko_8 := zo_8.cell; have fo_8 := zo_8.frozen; have lo_8 := zo_8.lt
    have kx_8 := zx_8.cell; have fx_8 := zx_8.frozen; have lx_8 := zx_8.lt
    have ky_8 := zy_8.cell; have fy_8 := zy_8.frozen; have ly_8 := zy_8.lt
    have kp_8 := zp_8.cell; have fp_8 := zp_8.frozen; have lp_8 := zp_8.lt
    have kup_8 := zup_8.cell; have fup_8 := zup_8.frozen; have lup_8 := zup_8.lt
    clear rq
    go_wp2_with fail
    have he := HDp.out.trans HDq.out.symm
    injection he with he0 he1 he2 he3
    obtain rfl : a0 = c0 := he0
    obtain rfl : a1 = c1 := he1
    obtain rfl : e0 = f0 := he2
    obtain rfl : e1 = f1 := he3
    clear HDp HDq
    have HE : Hid (xp = xq) := by rw [HXp.out, HXq.out]; exact Lib.hid rfl
    obtain ⟨w9, hw9⟩ : ∃ w9, w9 = (w8.alloc (.cells #[.slice Aq mq cq, .int .i64 ((xq.length : Nat) : Int)] 29)).alloc (.cells #[.int .i64 (a0 : Int), .int .i64 (a1 : Int), .int .u64 (e0 : Int), .int .u64 (e1 : Int)] 37) := ⟨_, rfl⟩
    obtain ⟨zb_9, zd_9, zo_9, zx_9, zy_9, zp_9, zup_9, zq_9, zuq_9, rb_9, ro_9, rp_9, rq_9, bb_9, s9⟩ : Blk w9 (w.heap.size) 29 [.slice Ab nb cb, .int .i64 ((xb.length : Nat) : Int)] ∧ Blk w9 (w.heap.size + 1) 37 [.int .i64 (p0 : Int), .int .i64 (p1 : Int), .int .u64 (q0 : Int), .int .u64 (q1 : Int)] ∧ Blk w9 (w2.heap.size) 29 [.slice Ao nb co, .int .i64 ((xb.length : Nat) : Int)] ∧ Blk w9 (w3.heap.size) 37 [.int .i64 (u0 : Int), .int .i64 (u1 : Int), .int .u64 (v0 : Int), .int .u64 (v1 : Int)] ∧ Blk w9 (w4.heap.size) 37 [.int .i64 (u0 : Int), .int .i64 (u1 : Int), .int .u64 (v0 : Int), .int .u64 (v1 : Int)] ∧ Blk w9 (w7.heap.size) 29 [.slice Ap mp cp, .int .i64 ((xp.length : Nat) : Int)] ∧ Blk w9 (w7.heap.size + 1) 37 [.int .i64 (a0 : Int), .int .i64 (a1 : Int), .int .u64 (e0 : Int), .int .u64 (e1 : Int)] ∧ Blk w9 (w8.heap.size) 29 [.slice Aq mq cq, .int .i64 ((xq.length : Nat) : Int)] ∧ Blk w9 (w8.heap.size + 1) 37 [.int .i64 (a0 : Int), .int .i64 (a1 : Int), .int .u64 (e0 : Int), .int .u64 (e1 : Int)] ∧ RowIn .u8 w9 (0) (w.heap.size) Ab nb (pack xb) ∧ RowIn .u8 w9 (w1.heap.size) (w2.heap.size) Ao nb (pack xb) ∧ RowIn .u8 w9 (w6.heap.size + 0) (w7.heap.size) Ap mp (pack xp) ∧ RowIn .u8 w9 (w7.heap.size + 1) (w8.heap.size) Aq mq (pack xq) ∧ Below w.heap.size w w9 ∧ w8.heap.size ≤ w9.heap.size := by
      rw [hw9]
      refine ⟨?_, ?_, ?_, ?_, ?_, ?_, ?_, ?_, ?_, ?_, ?_, ?_, ?_, ?_, by go_size⟩
      all_goals repeat' (first | (with_reducible assumption) | (with_reducible exact Below.refl _ _) | (with_reducible refine Blk.drewN ?_ _) | (with_reducible refine RowIn.drewN ?_ _) | (with_reducible refine below_drewN ?_ _) | (with_reducible refine Blk.drew ?_) | (with_reducible refine RowIn.drew ?_) | (with_reducible refine Below.drew ?_) | (with_reducible refine Blk.new' ?_ ?_ <;> first | (with_reducible rfl) | (simp; done)) | (with_reducible refine Blk.alloc ?_ _) | (with_reducible refine RowIn.alloc ?_ _) | (with_reducible refine Below.alloc ?_ ?_ _) | (with_reducible apply Blk.set') | (with_reducible apply Blk.far') | (with_reducible refine RowIn.far' ?_ ?_ _) | (with_reducible refine Below.far' ?_ ?_ _) | rfl | omega | go_size)
    rw [← hw9]
    clear hw9
    clear zb_8 zd_8 zo_8 zx_8 zy_8 zp_8 zup_8 rb_8 ro_8 rp_8 rq_8 bb_8 kb_8 fb_8 lb_8 kd_8 fd_8 ld_8 ko_8 fo_8 lo_8 kx_8 fx_8 lx_8 ky_8 fy_8 ly_8 kp_8 fp_8 lp_8 kup_8 fup_8 lup_8
    have kb_9 := zb_9.cell; have fb_9 := zb_9.frozen; have lb_9 := zb_9.lt
    have kd_9 := zd_9.cell; have fd_9 := zd_9.frozen; have ld_9 := zd_9.lt
    have ko_9 := zo_9.cell; have fo_9 := zo_9.frozen; have lo_9 := zo_9.lt
    have kx_9 := zx_9.cell; have fx_9 := zx_9.frozen; have lx_9 := zx_9.lt
    have ky_9 := zy_9.cell; have fy_9 := zy_9.frozen; have ly_9 := zy_9.lt
    have kp_9 := zp_9.cell; have fp_9 := zp_9.frozen; have lp_9 := zp_9.lt
    have kup_9 := zup_9.cell; have fup_9 := zup_9.frozen; have lup_9 := zup_9.lt
    have kq_9 := zq_9.cell; have fq_9 := zq_9.frozen; have lq_9 := zq_9.lt
    have kuq_9 := zuq_9.cell; have fuq_9 := zuq_9.frozen; have luq_9 := zuq_9.lt
    have kb_9d := (Blk.drew zb_9).cell; have kd_9d := (Blk.drew zd_9).cell; have ko_9d := (Blk.drew zo_9).cell; have kx_9d := (Blk.drew zx_9).cell; have ky_9d := (Blk.drew zy_9).cell; have kp_9d := (Blk.drew zp_9).cell; have kup_9d := (Blk.drew zup_9).cell; have kq_9d := (Blk.drew zq_9).cell; have kuq_9d := (Blk.drew zuq_9).cell
    go_region_held3 (fun w' => (∀ a, w'.cell? ⟨w.heap.size, a, none⟩ = [.slice Ab nb cb, .int .i64 ((xb.length : Nat) : Int)][a]?) ∧ (∀ a, w'.cell? ⟨w.heap.size + 1, a, none⟩ = [.int .i64 (p0 : Int), .int .i64 (p1 : Int), .int .u64 (q0 : Int), .int .u64 (q1 : Int)][a]?) ∧ (∀ a, w'.cell? ⟨w2.heap.size, a, none⟩ = [.slice Ao nb co, .int .i64 ((xb.length : Nat) : Int)][a]?) ∧ (∀ a, w'.cell? ⟨w3.heap.size, a, none⟩ = [.int .i64 (u0 : Int), .int .i64 (u1 : Int), .int .u64 (v0 : Int), .int .u64 (v1 : Int)][a]?) ∧ (∀ a, w'.cell? ⟨w4.heap.size, a, none⟩ = [.int .i64 (u0 : Int), .int .i64 (u1 : Int), .int .u64 (v0 : Int), .int .u64 (v1 : Int)][a]?) ∧ (∀ a, w'.cell? ⟨w7.heap.size, a, none⟩ = [.slice Ap mp cp, .int .i64 ((xp.length : Nat) : Int)][a]?) ∧ (∀ a, w'.cell? ⟨w7.heap.size + 1, a, none⟩ = [.int .i64 (a0 : Int), .int .i64 (a1 : Int), .int .u64 (e0 : Int), .int .u64 (e1 : Int)][a]?) ∧ (∀ a, w'.cell? ⟨w8.heap.size, a, none⟩ = [.slice Aq mq cq, .int .i64 ((xq.length : Nat) : Int)][a]?) ∧ (∀ a, w'.cell? ⟨w8.heap.size + 1, a, none⟩ = [.int .i64 (a0 : Int), .int .i64 (a1 : Int), .int .u64 (e0 : Int), .int .u64 (e1 : Int)][a]?)) (first | with_reducible exact ⟨kb_9, kd_9, ko_9, kx_9, ky_9, kp_9, kup_9, kq_9, kuq_9⟩ | with_reducible exact ⟨kb_9d, kd_9d, ko_9d, kx_9d, ky_9d, kp_9d, kup_9d, kq_9d, kuq_9d⟩ | with_reducible exact ⟨kb_10, kd_10, ko_10, kx_10, ky_10, kp_10, kup_10, kq_10, kuq_10⟩ | with_reducible exact ⟨kb_11, kd_11, ko_11, kx_11, ky_11, kp_11, kup_11, kq_11, kuq_11⟩ | with_reducible exact ⟨kb_12, kd_12, ko_12, kx_12, ky_12, kp_12, kup_12, kq_12, kuq_12⟩ | with_reducible exact ⟨kb_13, kd_13, ko_13, kx_13, ky_13, kp_13, kup_13, kq_13, kuq_13⟩ | with_reducible exact ⟨kb_14, kd_14, ko_14, kx_14, ky_14, kp_14, kup_14, kq_14, kuq_14⟩ | with_reducible exact ⟨kb_15, kd_15, ko_15, kx_15, ky_15, kp_15, kup_15, kq_15, kuq_15⟩) (first
      | (go_simp; go_at_call 19; refine (dstart_ok _).mono ?_
         rintro e w10 ⟨rfl, b10⟩
         have s10 : w9.heap.size ≤ w10.heap.size := b10.size
         have zb_10 := ((Blk.drew zb_9)).after b10; have kb_10 := zb_10.cell; have fb_10 := zb_10.frozen; have lb_10 := zb_10.lt
         have zd_10 := ((Blk.drew zd_9)).after b10; have kd_10 := zd_10.cell; have fd_10 := zd_10.frozen; have ld_10 := zd_10.lt
         have zo_10 := ((Blk.drew zo_9)).after b10; have ko_10 := zo_10.cell; have fo_10 := zo_10.frozen; have lo_10 := zo_10.lt
         have zx_10 := ((Blk.drew zx_9)).after b10; have kx_10 := zx_10.cell; have fx_10 := zx_10.frozen; have lx_10 := zx_10.lt
         have zy_10 := ((Blk.drew zy_9)).after b10; have ky_10 := zy_10.cell; have fy_10 := zy_10.frozen; have ly_10 := zy_10.lt
         have zp_10 := ((Blk.drew zp_9)).after b10; have kp_10 := zp_10.cell; have fp_10 := zp_10.frozen; have lp_10 := zp_10.lt
         have zup_10 := ((Blk.drew zup_9)).after b10; have kup_10 := zup_10.cell; have fup_10 := zup_10.frozen; have lup_10 := zup_10.lt
         have zq_10 := ((Blk.drew zq_9)).after b10; have kq_10 := zq_10.cell; have fq_10 := zq_10.frozen; have lq_10 := zq_10.lt
         have zuq_10 := ((Blk.drew zuq_9)).after b10; have kuq_10 := zuq_10.cell; have fuq_10 := zuq_10.frozen; have luq_10 := zuq_10.lt
         have rb_10 := ((RowIn.drew rb_9)).belowS b10
         have ro_10 := ((RowIn.drew ro_9)).belowS b10
         have rp_10 := ((RowIn.drew rp_9)).belowS b10
         have rq_10 := ((RowIn.drew rq_9)).belowS b10
         have bb_10 := Below.after (Below.drew bb_9) b10 bb_9.size)
      | (go_simp; go_at_call 20; refine (rdstart_ok _).mono ?_
         rintro e w11 ⟨rfl, b11⟩
         have s11 : w10.heap.size ≤ w11.heap.size := b11.size
         have zb_11 := (zb_10).after b11; have kb_11 := zb_11.cell; have fb_11 := zb_11.frozen; have lb_11 := zb_11.lt
         have zd_11 := (zd_10).after b11; have kd_11 := zd_11.cell; have fd_11 := zd_11.frozen; have ld_11 := zd_11.lt
         have zo_11 := (zo_10).after b11; have ko_11 := zo_11.cell; have fo_11 := zo_11.frozen; have lo_11 := zo_11.lt
         have zx_11 := (zx_10).after b11; have kx_11 := zx_11.cell; have fx_11 := zx_11.frozen; have lx_11 := zx_11.lt
         have zy_11 := (zy_10).after b11; have ky_11 := zy_11.cell; have fy_11 := zy_11.frozen; have ly_11 := zy_11.lt
         have zp_11 := (zp_10).after b11; have kp_11 := zp_11.cell; have fp_11 := zp_11.frozen; have lp_11 := zp_11.lt
         have zup_11 := (zup_10).after b11; have kup_11 := zup_11.cell; have fup_11 := zup_11.frozen; have lup_11 := zup_11.lt
         have zq_11 := (zq_10).after b11; have kq_11 := zq_11.cell; have fq_11 := zq_11.frozen; have lq_11 := zq_11.lt
         have zuq_11 := (zuq_10).after b11; have kuq_11 := zuq_11.cell; have fuq_11 := zuq_11.frozen; have luq_11 := zuq_11.lt
         have rb_11 := (rb_10).belowS b11
         have ro_11 := (ro_10).belowS b11
         have rp_11 := (rp_10).belowS b11
         have rq_11 := (rq_10).belowS b11
         have bb_11 := Below.after bb_10 b11 bb_10.size)
      | (go_simp; go_at_call 21; refine (dcheck_ok p0 p1 q0 q1 _ HD.out).mono ?_
         rintro e w12 ⟨rfl, b12⟩
         have s12 : w11.heap.size ≤ w12.heap.size := b12.size
         have zb_12 := (zb_11).after b12; have kb_12 := zb_12.cell; have fb_12 := zb_12.frozen; have lb_12 := zb_12.lt
         have zd_12 := (zd_11).after b12; have kd_12 := zd_12.cell; have fd_12 := zd_12.frozen; have ld_12 := zd_12.lt
         have zo_12 := (zo_11).after b12; have ko_12 := zo_12.cell; have fo_12 := zo_12.frozen; have lo_12 := zo_12.lt
         have zx_12 := (zx_11).after b12; have kx_12 := zx_12.cell; have fx_12 := zx_12.frozen; have lx_12 := zx_12.lt
         have zy_12 := (zy_11).after b12; have ky_12 := zy_12.cell; have fy_12 := zy_12.frozen; have ly_12 := zy_12.lt
         have zp_12 := (zp_11).after b12; have kp_12 := zp_12.cell; have fp_12 := zp_12.frozen; have lp_12 := zp_12.lt
         have zup_12 := (zup_11).after b12; have kup_12 := zup_12.cell; have fup_12 := zup_12.frozen; have lup_12 := zup_12.lt
         have zq_12 := (zq_11).after b12; have kq_12 := zq_12.cell; have fq_12 := zq_12.frozen; have lq_12 := zq_12.lt
         have zuq_12 := (zuq_11).after b12; have kuq_12 := zuq_12.cell; have fuq_12 := zuq_12.frozen; have luq_12 := zuq_12.lt
         have rb_12 := (rb_11).belowS b12
         have ro_12 := (ro_11).belowS b12
         have rp_12 := (rp_11).belowS b12
         have rq_12 := (rq_11).belowS b12
         have bb_12 := Below.after bb_11 b12 bb_11.size)
      | (go_simp; go_at_call 22; refine (rdcheck_any (p0 : Int) (p1 : Int) (q0 : Int) (q1 : Int) 0 _ (by omega) (by omega) (by rw [if_pos HDK.out])).mono ?_
         rintro e w13 ⟨rfl, b13⟩
         have s13 : w12.heap.size ≤ w13.heap.size := b13.size
         have zb_13 := (zb_12).after b13; have kb_13 := zb_13.cell; have fb_13 := zb_13.frozen; have lb_13 := zb_13.lt
         have zd_13 := (zd_12).after b13; have kd_13 := zd_13.cell; have fd_13 := zd_13.frozen; have ld_13 := zd_13.lt
         have zo_13 := (zo_12).after b13; have ko_13 := zo_13.cell; have fo_13 := zo_13.frozen; have lo_13 := zo_13.lt
         have zx_13 := (zx_12).after b13; have kx_13 := zx_13.cell; have fx_13 := zx_13.frozen; have lx_13 := zx_13.lt
         have zy_13 := (zy_12).after b13; have ky_13 := zy_13.cell; have fy_13 := zy_13.frozen; have ly_13 := zy_13.lt
         have zp_13 := (zp_12).after b13; have kp_13 := zp_13.cell; have fp_13 := zp_13.frozen; have lp_13 := zp_13.lt
         have zup_13 := (zup_12).after b13; have kup_13 := zup_13.cell; have fup_13 := zup_13.frozen; have lup_13 := zup_13.lt
         have zq_13 := (zq_12).after b13; have kq_13 := zq_13.cell; have fq_13 := zq_13.frozen; have lq_13 := zq_13.lt
         have zuq_13 := (zuq_12).after b13; have kuq_13 := zuq_13.cell; have fuq_13 := zuq_13.frozen; have luq_13 := zuq_13.lt
         have rb_13 := (rb_12).belowS b13
         have ro_13 := (ro_12).belowS b13
         have rp_13 := (rp_12).belowS b13
         have rq_13 := (rq_12).belowS b13
         have bb_13 := Below.after bb_12 b13 bb_12.size)
      | (go_simp; go_at_call_of 10 Ap; refine (rsame_bits Ap Aq mp mq cp cq xp xq _ rp_13.row rq_13.row HE.out).mono ?_
         rintro e w14 ⟨rfl, b14⟩
         have s14 : w13.heap.size ≤ w14.heap.size := b14.size
         have zb_14 := (zb_13).after b14; have kb_14 := zb_14.cell; have fb_14 := zb_14.frozen; have lb_14 := zb_14.lt
         have zd_14 := (zd_13).after b14; have kd_14 := zd_14.cell; have fd_14 := zd_14.frozen; have ld_14 := zd_14.lt
         have zo_14 := (zo_13).after b14; have ko_14 := zo_14.cell; have fo_14 := zo_14.frozen; have lo_14 := zo_14.lt
         have zx_14 := (zx_13).after b14; have kx_14 := zx_14.cell; have fx_14 := zx_14.frozen; have lx_14 := zx_14.lt
         have zy_14 := (zy_13).after b14; have ky_14 := zy_14.cell; have fy_14 := zy_14.frozen; have ly_14 := zy_14.lt
         have zp_14 := (zp_13).after b14; have kp_14 := zp_14.cell; have fp_14 := zp_14.frozen; have lp_14 := zp_14.lt
         have zup_14 := (zup_13).after b14; have kup_14 := zup_14.cell; have fup_14 := zup_14.frozen; have lup_14 := zup_14.lt
         have zq_14 := (zq_13).after b14; have kq_14 := zq_14.cell; have fq_14 := zq_14.frozen; have lq_14 := zq_14.lt
         have zuq_14 := (zuq_13).after b14; have kuq_14 := zuq_14.cell; have fuq_14 := zuq_14.frozen; have luq_14 := zuq_14.lt
         have rb_14 := (rb_13).belowS b14
         have ro_14 := (ro_13).belowS b14
         have rp_14 := (rp_13).belowS b14
         have rq_14 := (rq_13).belowS b14
         have bb_14 := Below.after bb_13 b14 bb_13.size)
      | (go_simp; go_at_call_of 10 Ao; refine (rsame_bits Ao Ab nb nb co cb xb xb _ ro_14.row rb_14.row rfl).mono ?_
         rintro e w15 ⟨rfl, b15⟩
         have s15 : w14.heap.size ≤ w15.heap.size := b15.size
         have zb_15 := (zb_14).after b15; have kb_15 := zb_15.cell; have fb_15 := zb_15.frozen; have lb_15 := zb_15.lt
         have zd_15 := (zd_14).after b15; have kd_15 := zd_15.cell; have fd_15 := zd_15.frozen; have ld_15 := zd_15.lt
         have zo_15 := (zo_14).after b15; have ko_15 := zo_15.cell; have fo_15 := zo_15.frozen; have lo_15 := zo_15.lt
         have zx_15 := (zx_14).after b15; have kx_15 := zx_15.cell; have fx_15 := zx_15.frozen; have lx_15 := zx_15.lt
         have zy_15 := (zy_14).after b15; have ky_15 := zy_15.cell; have fy_15 := zy_15.frozen; have ly_15 := zy_15.lt
         have zp_15 := (zp_14).after b15; have kp_15 := zp_15.cell; have fp_15 := zp_15.frozen; have lp_15 := zp_15.lt
         have zup_15 := (zup_14).after b15; have kup_15 := zup_15.cell; have fup_15 := zup_15.frozen; have lup_15 := zup_15.lt
         have zq_15 := (zq_14).after b15; have kq_15 := zq_15.cell; have fq_15 := zq_15.frozen; have lq_15 := zq_15.lt
         have zuq_15 := (zuq_14).after b15; have kuq_15 := zuq_15.cell; have fuq_15 := zuq_15.frozen; have luq_15 := zuq_15.lt
         have rb_15 := (rb_14).belowS b15
         have ro_15 := (ro_14).belowS b15
         have rp_15 := (rp_14).belowS b15
         have rq_15 := (rq_14).belowS b15
         have bb_15 := Below.after bb_14 b15 bb_14.size))
    all_goals
      go_wp2
      go_ret
      refine ⟨rfl, ?_⟩
      repeat' (first | (with_reducible assumption) | (with_reducible exact Below.refl _ _) | (with_reducible refine Blk.drewN ?_ _) | (with_reducible refine RowIn.drewN ?_ _) | (with_reducible refine below_drewN ?_ _) | (with_reducible refine Blk.drew ?_) | (with_reducible refine RowIn.drew ?_) | (with_reducible refine Below.drew ?_) | (with_reducible refine Blk.new' ?_ ?_ <;> first | (with_reducible rfl) | (simp; done)) | (with_reducible refine Blk.alloc ?_ _) | (with_reducible refine RowIn.alloc ?_ _) | (with_reducible refine Below.alloc ?_ ?_ _) | (with_reducible apply Blk.set') | (with_reducible apply Blk.far') | (with_reducible refine RowIn.far' ?_ ?_ _) | (with_reducible refine Below.far' ?_ ?_ _) | rfl | omega | go_size)


end Go.Proofs.Ytlblkjefngofaaa
