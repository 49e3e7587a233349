/-
  The walks of BlockPacks and BlockUnpacks.
-/
import Derived.Test.YtncmnfnminjchaaLawS
import Derived.Test.YtncmnfnminjchaaRefK
import Derived.Test.YtncmnfnminjchaaRefB
import Derived.Test.YtncmnfnminjchaaRefD
namespace Go.Proofs.Ytncmnfnminjchaa
open Go.RowKit Cad Cad.Bit Cad.Crc Cad.Le
set_option linter.unusedVariables false
set_option linter.unusedSimpArgs false

theorem runp_c (A : Option Addr) (n c : Nat) (l : List Int) (w : World) (r : List Bool) (er : Int) (ha : Row .u8 w A n l) (hl : Within 0 255 l) (hc : n ≤ c ∧ c ≤ 9223372036854775807) (he : unpR l = (r, er)) :
    Calls Try.prog 12 #[.slice A n c] w (RetB w r er) := by
  have h := runp_ret A n c l w ha hl hc
  rw [he] at h; exact h

theorem rbsize_c (n m : Nat) (w : World) (h : n ≤ 330000) (hm : (n + 7) / 8 + 4 = m) :
    Calls Try.prog 21 #[.int .i64 (n : Int)] w fun e w' => e = .returned (.tuple #[.int .i64 (m : Int), .int .i64 0]) ∧ w = w' := by
  subst hm; exact rbsize_ok n w h


set_option maxRecDepth 100000 in
set_option maxHeartbeats 1000000 in
theorem lawBlockPacks (w : World) (n : Int) (hn : -9223372036854775808 ≤ n ∧ n ≤ 9223372036854775807) (Ab : Option Addr) (nb cb : Nat) (Nb : Int) (xsb : List Int) (hAb : RowC .u8 w Ab nb cb xsb) (hxb : Within 0 255 xsb) (hNb : -9223372036854775808 ≤ Nb ∧ Nb ≤ 9223372036854775807) :
    Calls Try.prog 6 #[.int .i64 n, .agg #[.slice Ab nb cb, .int .i64 Nb]] w fun e w' => e = .returned (.bool true) ∧ Below w.heap.size w w' := by
  have hab := hAb.row
  have hcb := hAb.2
  have hrib := hab.rowIn
  by_cases hg : 190 < nb ∧ nb < 41230 ∨ 41350 < nb
  · go_enter Try.func6, Try.ntmps6
    go_wp2_with fail
    refine (rgreat_yes Ab nb cb _ _ hg).mono ?_
    rintro e w1 ⟨rfl, b1⟩
    have s1 := b1.size
    try simp only [World.size_alloc, World.size_setCell, World.size_drew, size_drewN] at s1
    obtain ⟨zb_1, rb_1, bb_1⟩ : Blk w1 (w.heap.size) 25 [.slice Ab nb cb, .int .i64 Nb] ∧ RowIn .u8 w1 (0) (w.heap.size) Ab nb xsb ∧ Below w.heap.size w w1 := by
      refine ⟨?_, ?_, ?_⟩
      all_goals repeat' (first | (with_reducible assumption) | (with_reducible exact Below.refl _ _) | (with_reducible refine Blk.after ?_ b1) | (with_reducible refine RowIn.belowS ?_ b1) | (with_reducible refine Below.after ?_ b1 ?_) | (with_reducible refine Blk.drewN ?_ _) | (with_reducible refine RowIn.drewN ?_ _) | (with_reducible refine below_drewN ?_ _) | (with_reducible refine Blk.drew ?_) | (with_reducible refine RowIn.drew ?_) | (with_reducible refine Below.drew ?_) | (with_reducible refine Blk.new' ?_ ?_ <;> first | (with_reducible rfl) | (simp; done)) | (with_reducible refine Blk.alloc ?_ _) | (with_reducible refine RowIn.alloc ?_ _) | (with_reducible refine Below.alloc ?_ ?_ _) | (with_reducible apply Blk.set') | (with_reducible apply Blk.far') | (with_reducible refine RowIn.far' ?_ ?_ _) | (with_reducible refine Below.far' ?_ ?_ _) | rfl | omega | go_size)
    clear b1
    have kb_1 := zb_1.cell; have fb_1 := zb_1.frozen; have lb_1 := zb_1.lt
    go_wp2
    go_ret
    refine ⟨rfl, ?_⟩
    repeat' (first | (with_reducible assumption) | (with_reducible exact Below.refl _ _) | (with_reducible refine Blk.drewN ?_ _) | (with_reducible refine RowIn.drewN ?_ _) | (with_reducible refine below_drewN ?_ _) | (with_reducible refine Blk.drew ?_) | (with_reducible refine RowIn.drew ?_) | (with_reducible refine Below.drew ?_) | (with_reducible refine Blk.new' ?_ ?_ <;> first | (with_reducible rfl) | (simp; done)) | (with_reducible refine Blk.alloc ?_ _) | (with_reducible refine RowIn.alloc ?_ _) | (with_reducible refine Below.alloc ?_ ?_ _) | (with_reducible apply Blk.set') | (with_reducible apply Blk.far') | (with_reducible refine RowIn.far' ?_ ?_ _) | (with_reducible refine Below.far' ?_ ?_ _) | rfl | omega | go_size)
  by_cases hvb : ¬ Valid xsb Nb
  · by_cases hn1 : n < 0 ∨ 330000 < n
    · have HN1 := Lib.hid hn1
      clear hn1
      go_enter Try.func6, Try.ntmps6
      go_wp2_with fail
      refine (rgreat_no Ab nb cb _ _ hg).mono ?_
      rintro e w1 ⟨rfl, b1⟩
      have s1 := b1.size
      try simp only [World.size_alloc, World.size_setCell, World.size_drew, size_drewN] at s1
      obtain ⟨zb_1, rb_1, bb_1⟩ : Blk w1 (w.heap.size) 25 [.slice Ab nb cb, .int .i64 Nb] ∧ RowIn .u8 w1 (0) (w.heap.size) Ab nb xsb ∧ Below w.heap.size w w1 := by
        refine ⟨?_, ?_, ?_⟩
        all_goals repeat' (first | (with_reducible assumption) | (with_reducible exact Below.refl _ _) | (with_reducible refine Blk.after ?_ b1) | (with_reducible refine RowIn.belowS ?_ b1) | (with_reducible refine Below.after ?_ b1 ?_) | (with_reducible refine Blk.drewN ?_ _) | (with_reducible refine RowIn.drewN ?_ _) | (with_reducible refine below_drewN ?_ _) | (with_reducible refine Blk.drew ?_) | (with_reducible refine RowIn.drew ?_) | (with_reducible refine Below.drew ?_) | (with_reducible refine Blk.new' ?_ ?_ <;> first | (with_reducible rfl) | (simp; done)) | (with_reducible refine Blk.alloc ?_ _) | (with_reducible refine RowIn.alloc ?_ _) | (with_reducible refine Below.alloc ?_ ?_ _) | (with_reducible apply Blk.set') | (with_reducible apply Blk.far') | (with_reducible refine RowIn.far' ?_ ?_ _) | (with_reducible refine Below.far' ?_ ?_ _) | rfl | omega | go_size)
      clear b1
      have kb_1 := zb_1.cell; have fb_1 := zb_1.frozen; have lb_1 := zb_1.lt
      go_wp2_with fail
      refine (rtwin_any Ab nb cb _ xsb _ rb_1.row (by omega)).mono ?_
      rintro e w2 ⟨Ao, co, rfl, own2, b2⟩
      have hco := own2.rowC.2
      have ro := own2.rowIn
      clear own2
      have s2 := b2.size
      try simp only [World.size_alloc, World.size_setCell, World.size_drew, size_drewN] at s2
      obtain ⟨zb_2, rb_2, ro_2, bb_2⟩ : Blk w2 (w.heap.size) 25 [.slice Ab nb cb, .int .i64 Nb] ∧ RowIn .u8 w2 (0) (w.heap.size) Ab nb xsb ∧ RowIn .u8 w2 (w1.heap.size) (w2.heap.size) Ao nb xsb ∧ Below w.heap.size w w2 := by
        refine ⟨?_, ?_, ?_, ?_⟩
        all_goals repeat' (first | (with_reducible assumption) | (with_reducible exact Below.refl _ _) | (with_reducible refine Blk.after ?_ b2) | (with_reducible refine RowIn.belowS ?_ b2) | (with_reducible refine Below.after ?_ b2 ?_) | (with_reducible refine Blk.drewN ?_ _) | (with_reducible refine RowIn.drewN ?_ _) | (with_reducible refine below_drewN ?_ _) | (with_reducible refine Blk.drew ?_) | (with_reducible refine RowIn.drew ?_) | (with_reducible refine Below.drew ?_) | (with_reducible refine Blk.new' ?_ ?_ <;> first | (with_reducible rfl) | (simp; done)) | (with_reducible refine Blk.alloc ?_ _) | (with_reducible refine RowIn.alloc ?_ _) | (with_reducible refine Below.alloc ?_ ?_ _) | (with_reducible apply Blk.set') | (with_reducible apply Blk.far') | (with_reducible refine RowIn.far' ?_ ?_ _) | (with_reducible refine Below.far' ?_ ?_ _) | rfl | omega | go_size)
      clear zb_1 rb_1 bb_1 kb_1 fb_1 lb_1 b2
      have kb_2 := zb_2.cell; have fb_2 := zb_2.frozen; have lb_2 := zb_2.lt
      clear ro
      go_wp2_with fail
      refine (bsize_bad n _ HN1.out).mono ?_
      rintro e _ ⟨rfl, rfl⟩
      go_wp2_with fail
      refine (rbsize_bad n _ HN1.out).mono ?_
      rintro e _ ⟨rfl, rfl⟩
      go_wp2_with fail
      refine (bpack_bad Ao nb co Nb xsb _ (by exact RowIn.row (lo := w1.heap.size) (hi := w2.heap.size) (by repeat' (first | (with_reducible assumption) | (with_reducible exact Below.refl _ _) | (with_reducible refine Blk.drewN ?_ _) | (with_reducible refine RowIn.drewN ?_ _) | (with_reducible refine below_drewN ?_ _) | (with_reducible refine Blk.drew ?_) | (with_reducible refine RowIn.drew ?_) | (with_reducible refine Below.drew ?_) | (with_reducible refine Blk.new' ?_ ?_ <;> first | (with_reducible rfl) | (simp; done)) | (with_reducible refine Blk.alloc ?_ _) | (with_reducible refine RowIn.alloc ?_ _) | (with_reducible refine Below.alloc ?_ ?_ _) | (with_reducible apply Blk.set') | (with_reducible apply Blk.far') | (with_reducible refine RowIn.far' ?_ ?_ _) | (with_reducible refine Below.far' ?_ ?_ _) | rfl | omega | go_size))) hxb (by omega) hvb).mono ?_
      rintro e w3 ⟨Ap, mp, cp, xp, rfl, hcp, rp, HXp, b3⟩
      have LNp := rp.len
      replace LNp := Lib.hid LNp
      replace rp := rp.mono (lo' := w2.heap.size + 1) (by go_size) (Nat.le_refl _)
      have s3 := b3.size
      try simp only [World.size_alloc, World.size_setCell, World.size_drew, size_drewN] at s3
      obtain ⟨zb_3, zo_3, rb_3, ro_3, rp_3, bb_3⟩ : Blk w3 (w.heap.size) 25 [.slice Ab nb cb, .int .i64 Nb] ∧ Blk w3 (w2.heap.size) 25 [.slice Ao nb co, .int .i64 Nb] ∧ RowIn .u8 w3 (0) (w.heap.size) Ab nb xsb ∧ RowIn .u8 w3 (w1.heap.size) (w2.heap.size) Ao nb xsb ∧ RowIn .u8 w3 (w2.heap.size + 1) (w3.heap.size) Ap mp xp ∧ Below w.heap.size w w3 := by
        refine ⟨?_, ?_, ?_, ?_, ?_, ?_⟩
        all_goals repeat' (first | (with_reducible assumption) | (with_reducible exact Below.refl _ _) | (with_reducible refine Blk.after ?_ b3) | (with_reducible refine RowIn.belowS ?_ b3) | (with_reducible refine Below.after ?_ b3 ?_) | (with_reducible refine Blk.drewN ?_ _) | (with_reducible refine RowIn.drewN ?_ _) | (with_reducible refine below_drewN ?_ _) | (with_reducible refine Blk.drew ?_) | (with_reducible refine RowIn.drew ?_) | (with_reducible refine Below.drew ?_) | (with_reducible refine Blk.new' ?_ ?_ <;> first | (with_reducible rfl) | (simp; done)) | (with_reducible refine Blk.alloc ?_ _) | (with_reducible refine RowIn.alloc ?_ _) | (with_reducible refine Below.alloc ?_ ?_ _) | (with_reducible apply Blk.set') | (with_reducible apply Blk.far') | (with_reducible refine RowIn.far' ?_ ?_ _) | (with_reducible refine Below.far' ?_ ?_ _) | rfl | omega | go_size)
      clear zb_2 rb_2 ro_2 bb_2 kb_2 fb_2 lb_2 b3
      have kb_3 := zb_3.cell; have fb_3 := zb_3.frozen; have lb_3 := zb_3.lt
      have ko_3 := zo_3.cell; have fo_3 := zo_3.frozen; have lo_3 := zo_3.lt
      clear rp
      go_wp2_with fail
      refine (rpack_bad Ab nb cb Nb xsb _ (by exact RowIn.row (lo := 0) (hi := w.heap.size) (by repeat' (first | (with_reducible assumption) | (with_reducible exact Below.refl _ _) | (with_reducible refine Blk.drewN ?_ _) | (with_reducible refine RowIn.drewN ?_ _) | (with_reducible refine below_drewN ?_ _) | (with_reducible refine Blk.drew ?_) | (with_reducible refine RowIn.drew ?_) | (with_reducible refine Below.drew ?_) | (with_reducible refine Blk.new' ?_ ?_ <;> first | (with_reducible rfl) | (simp; done)) | (with_reducible refine Blk.alloc ?_ _) | (with_reducible refine RowIn.alloc ?_ _) | (with_reducible refine Below.alloc ?_ ?_ _) | (with_reducible apply Blk.set') | (with_reducible apply Blk.far') | (with_reducible refine RowIn.far' ?_ ?_ _) | (with_reducible refine Below.far' ?_ ?_ _) | rfl | omega | go_size))) hxb (by omega) hvb).mono ?_
      rintro e w4 ⟨Aq, mq, cq, xq, rfl, hcq, rq, HXq, b4⟩
      have LNq := rq.len
      replace LNq := Lib.hid LNq
      replace rq := rq.mono (lo' := w3.heap.size + 0) (by go_size) (Nat.le_refl _)
      have s4 := b4.size
      try simp only [World.size_alloc, World.size_setCell, World.size_drew, size_drewN] at s4
      obtain ⟨zb_4, zo_4, rb_4, ro_4, rp_4, rq_4, bb_4⟩ : Blk w4 (w.heap.size) 25 [.slice Ab nb cb, .int .i64 Nb] ∧ Blk w4 (w2.heap.size) 25 [.slice Ao nb co, .int .i64 Nb] ∧ RowIn .u8 w4 (0) (w.heap.size) Ab nb xsb ∧ RowIn .u8 w4 (w1.heap.size) (w2.heap.size) Ao nb xsb ∧ RowIn .u8 w4 (w2.heap.size + 1) (w3.heap.size) Ap mp xp ∧ RowIn .u8 w4 (w3.heap.size + 0) (w4.heap.size) Aq mq xq ∧ Below w.heap.size w w4 := by
        refine ⟨?_, ?_, ?_, ?_, ?_, ?_, ?_⟩
        all_goals repeat' (first | (with_reducible assumption) | (with_reducible exact Below.refl _ _) | (with_reducible refine Blk.after ?_ b4) | (with_reducible refine RowIn.belowS ?_ b4) | (with_reducible refine Below.after ?_ b4 ?_) | (with_reducible refine Blk.drewN ?_ _) | (with_reducible refine RowIn.drewN ?_ _) | (with_reducible refine below_drewN ?_ _) | (with_reducible refine Blk.drew ?_) | (with_reducible refine RowIn.drew ?_) | (with_reducible refine Below.drew ?_) | (with_reducible refine Blk.new' ?_ ?_ <;> first | (with_reducible rfl) | (simp; done)) | (with_reducible refine Blk.alloc ?_ _) | (with_reducible refine RowIn.alloc ?_ _) | (with_reducible refine Below.alloc ?_ ?_ _) | (with_reducible apply Blk.set') | (with_reducible apply Blk.far') | (with_reducible refine RowIn.far' ?_ ?_ _) | (with_reducible refine Below.far' ?_ ?_ _) | rfl | omega | go_size)
      clear zb_3 zo_3 rb_3 ro_3 rp_3 bb_3 kb_3 fb_3 lb_3 ko_3 fo_3 lo_3 b4
      have kb_4 := zb_4.cell; have fb_4 := zb_4.frozen; have lb_4 := zb_4.lt
      have ko_4 := zo_4.cell; have fo_4 := zo_4.frozen; have lo_4 := zo_4.lt
      clear rq
      have scp := run_str (P := Try.prog) (src := 22) (dst := 9) Try.underlying22 Try.underlying5 Try.underlying9 cp rp_4.row
      have scq := run_str (P := Try.prog) (src := 22) (dst := 9) Try.underlying22 Try.underlying5 Try.underlying9 cq rq_4.row
      have t1 : ((strOfNums xp).toList == (strOfNums xq).toList) = true := by rw [HXp.out, HXq.out]; simp
      go_wp2_with fail
      refine (rsame_eq Ao Ab nb nb co cb _ _ _ _ _ (by exact RowIn.row (lo := w1.heap.size) (hi := w2.heap.size) (by repeat' (first | (with_reducible assumption) | (with_reducible exact Below.refl _ _) | (with_reducible refine Blk.drewN ?_ _) | (with_reducible refine RowIn.drewN ?_ _) | (with_reducible refine below_drewN ?_ _) | (with_reducible refine Blk.drew ?_) | (with_reducible refine RowIn.drew ?_) | (with_reducible refine Below.drew ?_) | (with_reducible refine Blk.new' ?_ ?_ <;> first | (with_reducible rfl) | (simp; done)) | (with_reducible refine Blk.alloc ?_ _) | (with_reducible refine RowIn.alloc ?_ _) | (with_reducible refine Below.alloc ?_ ?_ _) | (with_reducible apply Blk.set') | (with_reducible apply Blk.far') | (with_reducible refine RowIn.far' ?_ ?_ _) | (with_reducible refine Below.far' ?_ ?_ _) | rfl | omega | go_size))) (by exact RowIn.row (lo := 0) (hi := w.heap.size) (by repeat' (first | (with_reducible assumption) | (with_reducible exact Below.refl _ _) | (with_reducible refine Blk.drewN ?_ _) | (with_reducible refine RowIn.drewN ?_ _) | (with_reducible refine below_drewN ?_ _) | (with_reducible refine Blk.drew ?_) | (with_reducible refine RowIn.drew ?_) | (with_reducible refine Below.drew ?_) | (with_reducible refine Blk.new' ?_ ?_ <;> first | (with_reducible rfl) | (simp; done)) | (with_reducible refine Blk.alloc ?_ _) | (with_reducible refine RowIn.alloc ?_ _) | (with_reducible refine Below.alloc ?_ ?_ _) | (with_reducible apply Blk.set') | (with_reducible apply Blk.far') | (with_reducible refine RowIn.far' ?_ ?_ _) | (with_reducible refine Below.far' ?_ ?_ _) | rfl | omega | go_size))) hxb hxb rfl rfl).mono ?_
      rintro e w5 ⟨rfl, b5⟩
      have s5 := b5.size
      try simp only [World.size_alloc, World.size_setCell, World.size_drew, size_drewN] at s5
      obtain ⟨zb_5, zo_5, rb_5, ro_5, rp_5, rq_5, bb_5⟩ : Blk w5 (w.heap.size) 25 [.slice Ab nb cb, .int .i64 Nb] ∧ Blk w5 (w2.heap.size) 25 [.slice Ao nb co, .int .i64 Nb] ∧ RowIn .u8 w5 (0) (w.heap.size) Ab nb xsb ∧ RowIn .u8 w5 (w1.heap.size) (w2.heap.size) Ao nb xsb ∧ RowIn .u8 w5 (w2.heap.size + 1) (w3.heap.size) Ap mp xp ∧ RowIn .u8 w5 (w3.heap.size + 0) (w4.heap.size) Aq mq xq ∧ Below w.heap.size w w5 := by
        refine ⟨?_, ?_, ?_, ?_, ?_, ?_, ?_⟩
        all_goals repeat' (first | (with_reducible assumption) | (with_reducible exact Below.refl _ _) | (with_reducible refine Blk.after ?_ b5) | (with_reducible refine RowIn.belowS ?_ b5) | (with_reducible refine Below.after ?_ b5 ?_) | (with_reducible refine Blk.drewN ?_ _) | (with_reducible refine RowIn.drewN ?_ _) | (with_reducible refine below_drewN ?_ _) | (with_reducible refine Blk.drew ?_) | (with_reducible refine RowIn.drew ?_) | (with_reducible refine Below.drew ?_) | (with_reducible refine Blk.new' ?_ ?_ <;> first | (with_reducible rfl) | (simp; done)) | (with_reducible refine Blk.alloc ?_ _) | (with_reducible refine RowIn.alloc ?_ _) | (with_reducible refine Below.alloc ?_ ?_ _) | (with_reducible apply Blk.set') | (with_reducible apply Blk.far') | (with_reducible refine RowIn.far' ?_ ?_ _) | (with_reducible refine Below.far' ?_ ?_ _) | rfl | omega | go_size)
      clear zb_4 zo_4 rb_4 ro_4 rp_4 rq_4 bb_4 kb_4 fb_4 lb_4 ko_4 fo_4 lo_4 b5
      have kb_5 := zb_5.cell; have fb_5 := zb_5.frozen; have lb_5 := zb_5.lt
      have ko_5 := zo_5.cell; have fo_5 := zo_5.frozen; have lo_5 := zo_5.lt
      go_wp2
      go_ret
      refine ⟨rfl, ?_⟩
      repeat' (first | (with_reducible assumption) | (with_reducible exact Below.refl _ _) | (with_reducible refine Blk.drewN ?_ _) | (with_reducible refine RowIn.drewN ?_ _) | (with_reducible refine below_drewN ?_ _) | (with_reducible refine Blk.drew ?_) | (with_reducible refine RowIn.drew ?_) | (with_reducible refine Below.drew ?_) | (with_reducible refine Blk.new' ?_ ?_ <;> first | (with_reducible rfl) | (simp; done)) | (with_reducible refine Blk.alloc ?_ _) | (with_reducible refine RowIn.alloc ?_ _) | (with_reducible refine Below.alloc ?_ ?_ _) | (with_reducible apply Blk.set') | (with_reducible apply Blk.far') | (with_reducible refine RowIn.far' ?_ ?_ _) | (with_reducible refine Below.far' ?_ ?_ _) | rfl | omega | go_size)
    · obtain ⟨n, rfl⟩ := Int.eq_ofNat_of_zero_le (by omega : 0 ≤ n)
      have hn3 : n ≤ 330000 := by omega
      clear hn1
      go_enter Try.func6, Try.ntmps6
      go_wp2_with fail
      refine (rgreat_no Ab nb cb _ _ hg).mono ?_
      rintro e w1 ⟨rfl, b1⟩
      have s1 := b1.size
      try simp only [World.size_alloc, World.size_setCell, World.size_drew, size_drewN] at s1
      obtain ⟨zb_1, rb_1, bb_1⟩ : Blk w1 (w.heap.size) 25 [.slice Ab nb cb, .int .i64 Nb] ∧ RowIn .u8 w1 (0) (w.heap.size) Ab nb xsb ∧ Below w.heap.size w w1 := by
        refine ⟨?_, ?_, ?_⟩
        all_goals repeat' (first | (with_reducible assumption) | (with_reducible exact Below.refl _ _) | (with_reducible refine Blk.after ?_ b1) | (with_reducible refine RowIn.belowS ?_ b1) | (with_reducible refine Below.after ?_ b1 ?_) | (with_reducible refine Blk.drewN ?_ _) | (with_reducible refine RowIn.drewN ?_ _) | (with_reducible refine below_drewN ?_ _) | (with_reducible refine Blk.drew ?_) | (with_reducible refine RowIn.drew ?_) | (with_reducible refine Below.drew ?_) | (with_reducible refine Blk.new' ?_ ?_ <;> first | (with_reducible rfl) | (simp; done)) | (with_reducible refine Blk.alloc ?_ _) | (with_reducible refine RowIn.alloc ?_ _) | (with_reducible refine Below.alloc ?_ ?_ _) | (with_reducible apply Blk.set') | (with_reducible apply Blk.far') | (with_reducible refine RowIn.far' ?_ ?_ _) | (with_reducible refine Below.far' ?_ ?_ _) | rfl | omega | go_size)
      clear b1
      have kb_1 := zb_1.cell; have fb_1 := zb_1.frozen; have lb_1 := zb_1.lt
      go_wp2_with fail
      refine (rtwin_any Ab nb cb _ xsb _ rb_1.row (by omega)).mono ?_
      rintro e w2 ⟨Ao, co, rfl, own2, b2⟩
      have hco := own2.rowC.2
      have ro := own2.rowIn
      clear own2
      have s2 := b2.size
      try simp only [World.size_alloc, World.size_setCell, World.size_drew, size_drewN] at s2
      obtain ⟨zb_2, rb_2, ro_2, bb_2⟩ : Blk w2 (w.heap.size) 25 [.slice Ab nb cb, .int .i64 Nb] ∧ RowIn .u8 w2 (0) (w.heap.size) Ab nb xsb ∧ RowIn .u8 w2 (w1.heap.size) (w2.heap.size) Ao nb xsb ∧ Below w.heap.size w w2 := by
        refine ⟨?_, ?_, ?_, ?_⟩
        all_goals repeat' (first | (with_reducible assumption) | (with_reducible exact Below.refl _ _) | (with_reducible refine Blk.after ?_ b2) | (with_reducible refine RowIn.belowS ?_ b2) | (with_reducible refine Below.after ?_ b2 ?_) | (with_reducible refine Blk.drewN ?_ _) | (with_reducible refine RowIn.drewN ?_ _) | (with_reducible refine below_drewN ?_ _) | (with_reducible refine Blk.drew ?_) | (with_reducible refine RowIn.drew ?_) | (with_reducible refine Below.drew ?_) | (with_reducible refine Blk.new' ?_ ?_ <;> first | (with_reducible rfl) | (simp; done)) | (with_reducible refine Blk.alloc ?_ _) | (with_reducible refine RowIn.alloc ?_ _) | (with_reducible refine Below.alloc ?_ ?_ _) | (with_reducible apply Blk.set') | (with_reducible apply Blk.far') | (with_reducible refine RowIn.far' ?_ ?_ _) | (with_reducible refine Below.far' ?_ ?_ _) | rfl | omega | go_size)
      clear zb_1 rb_1 bb_1 kb_1 fb_1 lb_1 b2
      have kb_2 := zb_2.cell; have fb_2 := zb_2.frozen; have lb_2 := zb_2.lt
      clear ro
      go_wp2_with fail
      obtain ⟨m, HM⟩ : ∃ m, Hid ((n + 7) / 8 + 4 = m) := ⟨_, Lib.hid rfl⟩
      refine (bsize_c n m _ hn3 HM.out).mono ?_
      rintro e _ ⟨rfl, rfl⟩
      go_wp2_with fail
      refine (rbsize_c n m _ hn3 HM.out).mono ?_
      rintro e _ ⟨rfl, rfl⟩
      go_wp2_with fail
      refine (bpack_bad Ao nb co Nb xsb _ (by exact RowIn.row (lo := w1.heap.size) (hi := w2.heap.size) (by repeat' (first | (with_reducible assumption) | (with_reducible exact Below.refl _ _) | (with_reducible refine Blk.drewN ?_ _) | (with_reducible refine RowIn.drewN ?_ _) | (with_reducible refine below_drewN ?_ _) | (with_reducible refine Blk.drew ?_) | (with_reducible refine RowIn.drew ?_) | (with_reducible refine Below.drew ?_) | (with_reducible refine Blk.new' ?_ ?_ <;> first | (with_reducible rfl) | (simp; done)) | (with_reducible refine Blk.alloc ?_ _) | (with_reducible refine RowIn.alloc ?_ _) | (with_reducible refine Below.alloc ?_ ?_ _) | (with_reducible apply Blk.set') | (with_reducible apply Blk.far') | (with_reducible refine RowIn.far' ?_ ?_ _) | (with_reducible refine Below.far' ?_ ?_ _) | rfl | omega | go_size))) hxb (by omega) hvb).mono ?_
      rintro e w3 ⟨Ap, mp, cp, xp, rfl, hcp, rp, HXp, b3⟩
      have LNp := rp.len
      replace LNp := Lib.hid LNp
      replace rp := rp.mono (lo' := w2.heap.size + 1) (by go_size) (Nat.le_refl _)
      have s3 := b3.size
      try simp only [World.size_alloc, World.size_setCell, World.size_drew, size_drewN] at s3
      obtain ⟨zb_3, zo_3, rb_3, ro_3, rp_3, bb_3⟩ : Blk w3 (w.heap.size) 25 [.slice Ab nb cb, .int .i64 Nb] ∧ Blk w3 (w2.heap.size) 25 [.slice Ao nb co, .int .i64 Nb] ∧ RowIn .u8 w3 (0) (w.heap.size) Ab nb xsb ∧ RowIn .u8 w3 (w1.heap.size) (w2.heap.size) Ao nb xsb ∧ RowIn .u8 w3 (w2.heap.size + 1) (w3.heap.size) Ap mp xp ∧ Below w.heap.size w w3 := by
        refine ⟨?_, ?_, ?_, ?_, ?_, ?_⟩
        all_goals repeat' (first | (with_reducible assumption) | (with_reducible exact Below.refl _ _) | (with_reducible refine Blk.after ?_ b3) | (with_reducible refine RowIn.belowS ?_ b3) | (with_reducible refine Below.after ?_ b3 ?_) | (with_reducible refine Blk.drewN ?_ _) | (with_reducible refine RowIn.drewN ?_ _) | (with_reducible refine below_drewN ?_ _) | (with_reducible refine Blk.drew ?_) | (with_reducible refine RowIn.drew ?_) | (with_reducible refine Below.drew ?_) | (with_reducible refine Blk.new' ?_ ?_ <;> first | (with_reducible rfl) | (simp; done)) | (with_reducible refine Blk.alloc ?_ _) | (with_reducible refine RowIn.alloc ?_ _) | (with_reducible refine Below.alloc ?_ ?_ _) | (with_reducible apply Blk.set') | (with_reducible apply Blk.far') | (with_reducible refine RowIn.far' ?_ ?_ _) | (with_reducible refine Below.far' ?_ ?_ _) | rfl | omega | go_size)
      clear zb_2 rb_2 ro_2 bb_2 kb_2 fb_2 lb_2 b3
      have kb_3 := zb_3.cell; have fb_3 := zb_3.frozen; have lb_3 := zb_3.lt
      have ko_3 := zo_3.cell; have fo_3 := zo_3.frozen; have lo_3 := zo_3.lt
      clear rp
      go_wp2_with fail
      refine (rpack_bad Ab nb cb Nb xsb _ (by exact RowIn.row (lo := 0) (hi := w.heap.size) (by repeat' (first | (with_reducible assumption) | (with_reducible exact Below.refl _ _) | (with_reducible refine Blk.drewN ?_ _) | (with_reducible refine RowIn.drewN ?_ _) | (with_reducible refine below_drewN ?_ _) | (with_reducible refine Blk.drew ?_) | (with_reducible refine RowIn.drew ?_) | (with_reducible refine Below.drew ?_) | (with_reducible refine Blk.new' ?_ ?_ <;> first | (with_reducible rfl) | (simp; done)) | (with_reducible refine Blk.alloc ?_ _) | (with_reducible refine RowIn.alloc ?_ _) | (with_reducible refine Below.alloc ?_ ?_ _) | (with_reducible apply Blk.set') | (with_reducible apply Blk.far') | (with_reducible refine RowIn.far' ?_ ?_ _) | (with_reducible refine Below.far' ?_ ?_ _) | rfl | omega | go_size))) hxb (by omega) hvb).mono ?_
      rintro e w4 ⟨Aq, mq, cq, xq, rfl, hcq, rq, HXq, b4⟩
      have LNq := rq.len
      replace LNq := Lib.hid LNq
      replace rq := rq.mono (lo' := w3.heap.size + 0) (by go_size) (Nat.le_refl _)
      have s4 := b4.size
      try simp only [World.size_alloc, World.size_setCell, World.size_drew, size_drewN] at s4
      obtain ⟨zb_4, zo_4, rb_4, ro_4, rp_4, rq_4, bb_4⟩ : Blk w4 (w.heap.size) 25 [.slice Ab nb cb, .int .i64 Nb] ∧ Blk w4 (w2.heap.size) 25 [.slice Ao nb co, .int .i64 Nb] ∧ RowIn .u8 w4 (0) (w.heap.size) Ab nb xsb ∧ RowIn .u8 w4 (w1.heap.size) (w2.heap.size) Ao nb xsb ∧ RowIn .u8 w4 (w2.heap.size + 1) (w3.heap.size) Ap mp xp ∧ RowIn .u8 w4 (w3.heap.size + 0) (w4.heap.size) Aq mq xq ∧ Below w.heap.size w w4 := by
        refine ⟨?_, ?_, ?_, ?_, ?_, ?_, ?_⟩
        all_goals repeat' (first | (with_reducible assumption) | (with_reducible exact Below.refl _ _) | (with_reducible refine Blk.after ?_ b4) | (with_reducible refine RowIn.belowS ?_ b4) | (with_reducible refine Below.after ?_ b4 ?_) | (with_reducible refine Blk.drewN ?_ _) | (with_reducible refine RowIn.drewN ?_ _) | (with_reducible refine below_drewN ?_ _) | (with_reducible refine Blk.drew ?_) | (with_reducible refine RowIn.drew ?_) | (with_reducible refine Below.drew ?_) | (with_reducible refine Blk.new' ?_ ?_ <;> first | (with_reducible rfl) | (simp; done)) | (with_reducible refine Blk.alloc ?_ _) | (with_reducible refine RowIn.alloc ?_ _) | (with_reducible refine Below.alloc ?_ ?_ _) | (with_reducible apply Blk.set') | (with_reducible apply Blk.far') | (with_reducible refine RowIn.far' ?_ ?_ _) | (with_reducible refine Below.far' ?_ ?_ _) | rfl | omega | go_size)
      clear zb_3 zo_3 rb_3 ro_3 rp_3 bb_3 kb_3 fb_3 lb_3 ko_3 fo_3 lo_3 b4
      have kb_4 := zb_4.cell; have fb_4 := zb_4.frozen; have lb_4 := zb_4.lt
      have ko_4 := zo_4.cell; have fo_4 := zo_4.frozen; have lo_4 := zo_4.lt
      clear rq
      have scp := run_str (P := Try.prog) (src := 22) (dst := 9) Try.underlying22 Try.underlying5 Try.underlying9 cp rp_4.row
      have scq := run_str (P := Try.prog) (src := 22) (dst := 9) Try.underlying22 Try.underlying5 Try.underlying9 cq rq_4.row
      have t1 : ((strOfNums xp).toList == (strOfNums xq).toList) = true := by rw [HXp.out, HXq.out]; simp
      go_wp2_with fail
      refine (rsame_eq Ao Ab nb nb co cb _ _ _ _ _ (by exact RowIn.row (lo := w1.heap.size) (hi := w2.heap.size) (by repeat' (first | (with_reducible assumption) | (with_reducible exact Below.refl _ _) | (with_reducible refine Blk.drewN ?_ _) | (with_reducible refine RowIn.drewN ?_ _) | (with_reducible refine below_drewN ?_ _) | (with_reducible refine Blk.drew ?_) | (with_reducible refine RowIn.drew ?_) | (with_reducible refine Below.drew ?_) | (with_reducible refine Blk.new' ?_ ?_ <;> first | (with_reducible rfl) | (simp; done)) | (with_reducible refine Blk.alloc ?_ _) | (with_reducible refine RowIn.alloc ?_ _) | (with_reducible refine Below.alloc ?_ ?_ _) | (with_reducible apply Blk.set') | (with_reducible apply Blk.far') | (with_reducible refine RowIn.far' ?_ ?_ _) | (with_reducible refine Below.far' ?_ ?_ _) | rfl | omega | go_size))) (by exact RowIn.row (lo := 0) (hi := w.heap.size) (by repeat' (first | (with_reducible assumption) | (with_reducible exact Below.refl _ _) | (with_reducible refine Blk.drewN ?_ _) | (with_reducible refine RowIn.drewN ?_ _) | (with_reducible refine below_drewN ?_ _) | (with_reducible refine Blk.drew ?_) | (with_reducible refine RowIn.drew ?_) | (with_reducible refine Below.drew ?_) | (with_reducible refine Blk.new' ?_ ?_ <;> first | (with_reducible rfl) | (simp; done)) | (with_reducible refine Blk.alloc ?_ _) | (with_reducible refine RowIn.alloc ?_ _) | (with_reducible refine Below.alloc ?_ ?_ _) | (with_reducible apply Blk.set') | (with_reducible apply Blk.far') | (with_reducible refine RowIn.far' ?_ ?_ _) | (with_reducible refine Below.far' ?_ ?_ _) | rfl | omega | go_size))) hxb hxb rfl rfl).mono ?_
      rintro e w5 ⟨rfl, b5⟩
      have s5 := b5.size
      try simp only [World.size_alloc, World.size_setCell, World.size_drew, size_drewN] at s5
      obtain ⟨zb_5, zo_5, rb_5, ro_5, rp_5, rq_5, bb_5⟩ : Blk w5 (w.heap.size) 25 [.slice Ab nb cb, .int .i64 Nb] ∧ Blk w5 (w2.heap.size) 25 [.slice Ao nb co, .int .i64 Nb] ∧ RowIn .u8 w5 (0) (w.heap.size) Ab nb xsb ∧ RowIn .u8 w5 (w1.heap.size) (w2.heap.size) Ao nb xsb ∧ RowIn .u8 w5 (w2.heap.size + 1) (w3.heap.size) Ap mp xp ∧ RowIn .u8 w5 (w3.heap.size + 0) (w4.heap.size) Aq mq xq ∧ Below w.heap.size w w5 := by
        refine ⟨?_, ?_, ?_, ?_, ?_, ?_, ?_⟩
        all_goals repeat' (first | (with_reducible assumption) | (with_reducible exact Below.refl _ _) | (with_reducible refine Blk.after ?_ b5) | (with_reducible refine RowIn.belowS ?_ b5) | (with_reducible refine Below.after ?_ b5 ?_) | (with_reducible refine Blk.drewN ?_ _) | (with_reducible refine RowIn.drewN ?_ _) | (with_reducible refine below_drewN ?_ _) | (with_reducible refine Blk.drew ?_) | (with_reducible refine RowIn.drew ?_) | (with_reducible refine Below.drew ?_) | (with_reducible refine Blk.new' ?_ ?_ <;> first | (with_reducible rfl) | (simp; done)) | (with_reducible refine Blk.alloc ?_ _) | (with_reducible refine RowIn.alloc ?_ _) | (with_reducible refine Below.alloc ?_ ?_ _) | (with_reducible apply Blk.set') | (with_reducible apply Blk.far') | (with_reducible refine RowIn.far' ?_ ?_ _) | (with_reducible refine Below.far' ?_ ?_ _) | rfl | omega | go_size)
      clear zb_4 zo_4 rb_4 ro_4 rp_4 rq_4 bb_4 kb_4 fb_4 lb_4 ko_4 fo_4 lo_4 b5
      have kb_5 := zb_5.cell; have fb_5 := zb_5.frozen; have lb_5 := zb_5.lt
      have ko_5 := zo_5.cell; have fo_5 := zo_5.frozen; have lo_5 := zo_5.lt
      go_wp2
      go_ret
      refine ⟨rfl, ?_⟩
      repeat' (first | (with_reducible assumption) | (with_reducible exact Below.refl _ _) | (with_reducible refine Blk.drewN ?_ _) | (with_reducible refine RowIn.drewN ?_ _) | (with_reducible refine below_drewN ?_ _) | (with_reducible refine Blk.drew ?_) | (with_reducible refine RowIn.drew ?_) | (with_reducible refine Below.drew ?_) | (with_reducible refine Blk.new' ?_ ?_ <;> first | (with_reducible rfl) | (simp; done)) | (with_reducible refine Blk.alloc ?_ _) | (with_reducible refine RowIn.alloc ?_ _) | (with_reducible refine Below.alloc ?_ ?_ _) | (with_reducible apply Blk.set') | (with_reducible apply Blk.far') | (with_reducible refine RowIn.far' ?_ ?_ _) | (with_reducible refine Below.far' ?_ ?_ _) | rfl | omega | go_size)
  obtain ⟨xb, rfl, rfl, hlb⟩ := valid_bits hxb (Decidable.not_not.1 hvb)
  clear hvb
  by_cases hn1 : n < 0 ∨ 330000 < n
  · have HN1 := Lib.hid hn1
    clear hn1
    go_enter Try.func6, Try.ntmps6
    go_wp2_with fail
    refine (rgreat_no Ab nb cb _ _ hg).mono ?_
    rintro e w1 ⟨rfl, b1⟩
    have s1 := b1.size
    try simp only [World.size_alloc, World.size_setCell, World.size_drew, size_drewN] at s1
    obtain ⟨zb_1, rb_1, bb_1⟩ : Blk w1 (w.heap.size) 25 [.slice Ab nb cb, .int .i64 ((xb.length : Nat) : Int)] ∧ RowIn .u8 w1 (0) (w.heap.size) Ab nb (pack xb) ∧ Below w.heap.size w w1 := by
      refine ⟨?_, ?_, ?_⟩
      all_goals repeat' (first | (with_reducible assumption) | (with_reducible exact Below.refl _ _) | (with_reducible refine Blk.after ?_ b1) | (with_reducible refine RowIn.belowS ?_ b1) | (with_reducible refine Below.after ?_ b1 ?_) | (with_reducible refine Blk.drewN ?_ _) | (with_reducible refine RowIn.drewN ?_ _) | (with_reducible refine below_drewN ?_ _) | (with_reducible refine Blk.drew ?_) | (with_reducible refine RowIn.drew ?_) | (with_reducible refine Below.drew ?_) | (with_reducible refine Blk.new' ?_ ?_ <;> first | (with_reducible rfl) | (simp; done)) | (with_reducible refine Blk.alloc ?_ _) | (with_reducible refine RowIn.alloc ?_ _) | (with_reducible refine Below.alloc ?_ ?_ _) | (with_reducible apply Blk.set') | (with_reducible apply Blk.far') | (with_reducible refine RowIn.far' ?_ ?_ _) | (with_reducible refine Below.far' ?_ ?_ _) | rfl | omega | go_size)
    clear b1
    have kb_1 := zb_1.cell; have fb_1 := zb_1.frozen; have lb_1 := zb_1.lt
    go_wp2_with fail
    refine (rtwin_any Ab nb cb _ (pack xb) _ rb_1.row (by omega)).mono ?_
    rintro e w2 ⟨Ao, co, rfl, own2, b2⟩
    have hco := own2.rowC.2
    have ro := own2.rowIn
    clear own2
    have s2 := b2.size
    try simp only [World.size_alloc, World.size_setCell, World.size_drew, size_drewN] at s2
    obtain ⟨zb_2, rb_2, ro_2, bb_2⟩ : Blk w2 (w.heap.size) 25 [.slice Ab nb cb, .int .i64 ((xb.length : Nat) : Int)] ∧ RowIn .u8 w2 (0) (w.heap.size) Ab nb (pack xb) ∧ RowIn .u8 w2 (w1.heap.size) (w2.heap.size) Ao nb (pack xb) ∧ Below w.heap.size w w2 := by
      refine ⟨?_, ?_, ?_, ?_⟩
      all_goals repeat' (first | (with_reducible assumption) | (with_reducible exact Below.refl _ _) | (with_reducible refine Blk.after ?_ b2) | (with_reducible refine RowIn.belowS ?_ b2) | (with_reducible refine Below.after ?_ b2 ?_) | (with_reducible refine Blk.drewN ?_ _) | (with_reducible refine RowIn.drewN ?_ _) | (with_reducible refine below_drewN ?_ _) | (with_reducible refine Blk.drew ?_) | (with_reducible refine RowIn.drew ?_) | (with_reducible refine Below.drew ?_) | (with_reducible refine Blk.new' ?_ ?_ <;> first | (with_reducible rfl) | (simp; done)) | (with_reducible refine Blk.alloc ?_ _) | (with_reducible refine RowIn.alloc ?_ _) | (with_reducible refine Below.alloc ?_ ?_ _) | (with_reducible apply Blk.set') | (with_reducible apply Blk.far') | (with_reducible refine RowIn.far' ?_ ?_ _) | (with_reducible refine Below.far' ?_ ?_ _) | rfl | omega | go_size)
    clear zb_1 rb_1 bb_1 kb_1 fb_1 lb_1 b2
    have kb_2 := zb_2.cell; have fb_2 := zb_2.frozen; have lb_2 := zb_2.lt
    clear ro
    go_wp2_with fail
    refine (bsize_bad n _ HN1.out).mono ?_
    rintro e _ ⟨rfl, rfl⟩
    go_wp2_with fail
    refine (rbsize_bad n _ HN1.out).mono ?_
    rintro e _ ⟨rfl, rfl⟩
    go_wp2_with fail
    refine (bpack_ok Ao nb co xb _ (by exact RowIn.row (lo := w1.heap.size) (hi := w2.heap.size) (by repeat' (first | (with_reducible assumption) | (with_reducible exact Below.refl _ _) | (with_reducible refine Blk.drewN ?_ _) | (with_reducible refine RowIn.drewN ?_ _) | (with_reducible refine below_drewN ?_ _) | (with_reducible refine Blk.drew ?_) | (with_reducible refine RowIn.drew ?_) | (with_reducible refine Below.drew ?_) | (with_reducible refine Blk.new' ?_ ?_ <;> first | (with_reducible rfl) | (simp; done)) | (with_reducible refine Blk.alloc ?_ _) | (with_reducible refine RowIn.alloc ?_ _) | (with_reducible refine Below.alloc ?_ ?_ _) | (with_reducible apply Blk.set') | (with_reducible apply Blk.far') | (with_reducible refine RowIn.far' ?_ ?_ _) | (with_reducible refine Below.far' ?_ ?_ _) | rfl | omega | go_size))) hco hlb).mono ?_
    rintro e w3 ⟨Ap, mp, cp, xp, rfl, hcp, rp, HXp, b3⟩
    have LNp := rp.len
    replace LNp := Lib.hid LNp
    replace rp := rp.mono (lo' := w2.heap.size + 1) (by go_size) (Nat.le_refl _)
    have s3 := b3.size
    try simp only [World.size_alloc, World.size_setCell, World.size_drew, size_drewN] at s3
    obtain ⟨zb_3, zo_3, rb_3, ro_3, rp_3, bb_3⟩ : Blk w3 (w.heap.size) 25 [.slice Ab nb cb, .int .i64 ((xb.length : Nat) : Int)] ∧ Blk w3 (w2.heap.size) 25 [.slice Ao nb co, .int .i64 ((xb.length : Nat) : Int)] ∧ RowIn .u8 w3 (0) (w.heap.size) Ab nb (pack xb) ∧ RowIn .u8 w3 (w1.heap.size) (w2.heap.size) Ao nb (pack xb) ∧ RowIn .u8 w3 (w2.heap.size + 1) (w3.heap.size) Ap mp xp ∧ Below w.heap.size w w3 := by
      refine ⟨?_, ?_, ?_, ?_, ?_, ?_⟩
      all_goals repeat' (first | (with_reducible assumption) | (with_reducible exact Below.refl _ _) | (with_reducible refine Blk.after ?_ b3) | (with_reducible refine RowIn.belowS ?_ b3) | (with_reducible refine Below.after ?_ b3 ?_) | (with_reducible refine Blk.drewN ?_ _) | (with_reducible refine RowIn.drewN ?_ _) | (with_reducible refine below_drewN ?_ _) | (with_reducible refine Blk.drew ?_) | (with_reducible refine RowIn.drew ?_) | (with_reducible refine Below.drew ?_) | (with_reducible refine Blk.new' ?_ ?_ <;> first | (with_reducible rfl) | (simp; done)) | (with_reducible refine Blk.alloc ?_ _) | (with_reducible refine RowIn.alloc ?_ _) | (with_reducible refine Below.alloc ?_ ?_ _) | (with_reducible apply Blk.set') | (with_reducible apply Blk.far') | (with_reducible refine RowIn.far' ?_ ?_ _) | (with_reducible refine Below.far' ?_ ?_ _) | rfl | omega | go_size)
    clear zb_2 rb_2 ro_2 bb_2 kb_2 fb_2 lb_2 b3
    have kb_3 := zb_3.cell; have fb_3 := zb_3.frozen; have lb_3 := zb_3.lt
    have ko_3 := zo_3.cell; have fo_3 := zo_3.frozen; have lo_3 := zo_3.lt
    clear rp
    go_wp2_with fail
    refine (rpack_ok Ab nb cb xb _ (by exact RowIn.row (lo := 0) (hi := w.heap.size) (by repeat' (first | (with_reducible assumption) | (with_reducible exact Below.refl _ _) | (with_reducible refine Blk.drewN ?_ _) | (with_reducible refine RowIn.drewN ?_ _) | (with_reducible refine below_drewN ?_ _) | (with_reducible refine Blk.drew ?_) | (with_reducible refine RowIn.drew ?_) | (with_reducible refine Below.drew ?_) | (with_reducible refine Blk.new' ?_ ?_ <;> first | (with_reducible rfl) | (simp; done)) | (with_reducible refine Blk.alloc ?_ _) | (with_reducible refine RowIn.alloc ?_ _) | (with_reducible refine Below.alloc ?_ ?_ _) | (with_reducible apply Blk.set') | (with_reducible apply Blk.far') | (with_reducible refine RowIn.far' ?_ ?_ _) | (with_reducible refine Below.far' ?_ ?_ _) | rfl | omega | go_size))) hcb hlb).mono ?_
    rintro e w4 ⟨Aq, mq, cq, xq, rfl, hcq, rq, HXq, b4⟩
    have LNq := rq.len
    replace LNq := Lib.hid LNq
    replace rq := rq.mono (lo' := w3.heap.size + 0) (by go_size) (Nat.le_refl _)
    have s4 := b4.size
    try simp only [World.size_alloc, World.size_setCell, World.size_drew, size_drewN] at s4
    obtain ⟨zb_4, zo_4, rb_4, ro_4, rp_4, rq_4, bb_4⟩ : Blk w4 (w.heap.size) 25 [.slice Ab nb cb, .int .i64 ((xb.length : Nat) : Int)] ∧ Blk w4 (w2.heap.size) 25 [.slice Ao nb co, .int .i64 ((xb.length : Nat) : Int)] ∧ RowIn .u8 w4 (0) (w.heap.size) Ab nb (pack xb) ∧ RowIn .u8 w4 (w1.heap.size) (w2.heap.size) Ao nb (pack xb) ∧ RowIn .u8 w4 (w2.heap.size + 1) (w3.heap.size) Ap mp xp ∧ RowIn .u8 w4 (w3.heap.size + 0) (w4.heap.size) Aq mq xq ∧ Below w.heap.size w w4 := by
      refine ⟨?_, ?_, ?_, ?_, ?_, ?_, ?_⟩
      all_goals repeat' (first | (with_reducible assumption) | (with_reducible exact Below.refl _ _) | (with_reducible refine Blk.after ?_ b4) | (with_reducible refine RowIn.belowS ?_ b4) | (with_reducible refine Below.after ?_ b4 ?_) | (with_reducible refine Blk.drewN ?_ _) | (with_reducible refine RowIn.drewN ?_ _) | (with_reducible refine below_drewN ?_ _) | (with_reducible refine Blk.drew ?_) | (with_reducible refine RowIn.drew ?_) | (with_reducible refine Below.drew ?_) | (with_reducible refine Blk.new' ?_ ?_ <;> first | (with_reducible rfl) | (simp; done)) | (with_reducible refine Blk.alloc ?_ _) | (with_reducible refine RowIn.alloc ?_ _) | (with_reducible refine Below.alloc ?_ ?_ _) | (with_reducible apply Blk.set') | (with_reducible apply Blk.far') | (with_reducible refine RowIn.far' ?_ ?_ _) | (with_reducible refine Below.far' ?_ ?_ _) | rfl | omega | go_size)
    clear zb_3 zo_3 rb_3 ro_3 rp_3 bb_3 kb_3 fb_3 lb_3 ko_3 fo_3 lo_3 b4
    have kb_4 := zb_4.cell; have fb_4 := zb_4.frozen; have lb_4 := zb_4.lt
    have ko_4 := zo_4.cell; have fo_4 := zo_4.frozen; have lo_4 := zo_4.lt
    clear rq
    have scp := run_str (P := Try.prog) (src := 22) (dst := 9) Try.underlying22 Try.underlying5 Try.underlying9 cp rp_4.row
    have scq := run_str (P := Try.prog) (src := 22) (dst := 9) Try.underlying22 Try.underlying5 Try.underlying9 cq rq_4.row
    have t1 : ((strOfNums xp).toList == (strOfNums xq).toList) = true := by rw [HXp.out, HXq.out]; simp
    go_wp2_with fail
    refine (rsame_bits Ao Ab nb nb co cb xb xb _ (by exact RowIn.row (lo := w1.heap.size) (hi := w2.heap.size) (by repeat' (first | (with_reducible assumption) | (with_reducible exact Below.refl _ _) | (with_reducible refine Blk.drewN ?_ _) | (with_reducible refine RowIn.drewN ?_ _) | (with_reducible refine below_drewN ?_ _) | (with_reducible refine Blk.drew ?_) | (with_reducible refine RowIn.drew ?_) | (with_reducible refine Below.drew ?_) | (with_reducible refine Blk.new' ?_ ?_ <;> first | (with_reducible rfl) | (simp; done)) | (with_reducible refine Blk.alloc ?_ _) | (with_reducible refine RowIn.alloc ?_ _) | (with_reducible refine Below.alloc ?_ ?_ _) | (with_reducible apply Blk.set') | (with_reducible apply Blk.far') | (with_reducible refine RowIn.far' ?_ ?_ _) | (with_reducible refine Below.far' ?_ ?_ _) | rfl | omega | go_size))) (by exact RowIn.row (lo := 0) (hi := w.heap.size) (by repeat' (first | (with_reducible assumption) | (with_reducible exact Below.refl _ _) | (with_reducible refine Blk.drewN ?_ _) | (with_reducible refine RowIn.drewN ?_ _) | (with_reducible refine below_drewN ?_ _) | (with_reducible refine Blk.drew ?_) | (with_reducible refine RowIn.drew ?_) | (with_reducible refine Below.drew ?_) | (with_reducible refine Blk.new' ?_ ?_ <;> first | (with_reducible rfl) | (simp; done)) | (with_reducible refine Blk.alloc ?_ _) | (with_reducible refine RowIn.alloc ?_ _) | (with_reducible refine Below.alloc ?_ ?_ _) | (with_reducible apply Blk.set') | (with_reducible apply Blk.far') | (with_reducible refine RowIn.far' ?_ ?_ _) | (with_reducible refine Below.far' ?_ ?_ _) | rfl | omega | go_size))) rfl).mono ?_
    rintro e w5 ⟨rfl, b5⟩
    have s5 := b5.size
    try simp only [World.size_alloc, World.size_setCell, World.size_drew, size_drewN] at s5
    obtain ⟨zb_5, zo_5, rb_5, ro_5, rp_5, rq_5, bb_5⟩ : Blk w5 (w.heap.size) 25 [.slice Ab nb cb, .int .i64 ((xb.length : Nat) : Int)] ∧ Blk w5 (w2.heap.size) 25 [.slice Ao nb co, .int .i64 ((xb.length : Nat) : Int)] ∧ RowIn .u8 w5 (0) (w.heap.size) Ab nb (pack xb) ∧ RowIn .u8 w5 (w1.heap.size) (w2.heap.size) Ao nb (pack xb) ∧ RowIn .u8 w5 (w2.heap.size + 1) (w3.heap.size) Ap mp xp ∧ RowIn .u8 w5 (w3.heap.size + 0) (w4.heap.size) Aq mq xq ∧ Below w.heap.size w w5 := by
      refine ⟨?_, ?_, ?_, ?_, ?_, ?_, ?_⟩
      all_goals repeat' (first | (with_reducible assumption) | (with_reducible exact Below.refl _ _) | (with_reducible refine Blk.after ?_ b5) | (with_reducible refine RowIn.belowS ?_ b5) | (with_reducible refine Below.after ?_ b5 ?_) | (with_reducible refine Blk.drewN ?_ _) | (with_reducible refine RowIn.drewN ?_ _) | (with_reducible refine below_drewN ?_ _) | (with_reducible refine Blk.drew ?_) | (with_reducible refine RowIn.drew ?_) | (with_reducible refine Below.drew ?_) | (with_reducible refine Blk.new' ?_ ?_ <;> first | (with_reducible rfl) | (simp; done)) | (with_reducible refine Blk.alloc ?_ _) | (with_reducible refine RowIn.alloc ?_ _) | (with_reducible refine Below.alloc ?_ ?_ _) | (with_reducible apply Blk.set') | (with_reducible apply Blk.far') | (with_reducible refine RowIn.far' ?_ ?_ _) | (with_reducible refine Below.far' ?_ ?_ _) | rfl | omega | go_size)
    clear zb_4 zo_4 rb_4 ro_4 rp_4 rq_4 bb_4 kb_4 fb_4 lb_4 ko_4 fo_4 lo_4 b5
    have kb_5 := zb_5.cell; have fb_5 := zb_5.frozen; have lb_5 := zb_5.lt
    have ko_5 := zo_5.cell; have fo_5 := zo_5.frozen; have lo_5 := zo_5.lt
    go_wp2
    go_ret
    refine ⟨rfl, ?_⟩
    repeat' (first | (with_reducible assumption) | (with_reducible exact Below.refl _ _) | (with_reducible refine Blk.drewN ?_ _) | (with_reducible refine RowIn.drewN ?_ _) | (with_reducible refine below_drewN ?_ _) | (with_reducible refine Blk.drew ?_) | (with_reducible refine RowIn.drew ?_) | (with_reducible refine Below.drew ?_) | (with_reducible refine Blk.new' ?_ ?_ <;> first | (with_reducible rfl) | (simp; done)) | (with_reducible refine Blk.alloc ?_ _) | (with_reducible refine RowIn.alloc ?_ _) | (with_reducible refine Below.alloc ?_ ?_ _) | (with_reducible apply Blk.set') | (with_reducible apply Blk.far') | (with_reducible refine RowIn.far' ?_ ?_ _) | (with_reducible refine Below.far' ?_ ?_ _) | rfl | omega | go_size)
  · obtain ⟨n, rfl⟩ := Int.eq_ofNat_of_zero_le (by omega : 0 ≤ n)
    have hn3 : n ≤ 330000 := by omega
    clear hn1
    go_enter Try.func6, Try.ntmps6
    go_wp2_with fail
    refine (rgreat_no Ab nb cb _ _ hg).mono ?_
    rintro e w1 ⟨rfl, b1⟩
    have s1 := b1.size
    try simp only [World.size_alloc, World.size_setCell, World.size_drew, size_drewN] at s1
    obtain ⟨zb_1, rb_1, bb_1⟩ : Blk w1 (w.heap.size) 25 [.slice Ab nb cb, .int .i64 ((xb.length : Nat) : Int)] ∧ RowIn .u8 w1 (0) (w.heap.size) Ab nb (pack xb) ∧ Below w.heap.size w w1 := by
      refine ⟨?_, ?_, ?_⟩
      all_goals repeat' (first | (with_reducible assumption) | (with_reducible exact Below.refl _ _) | (with_reducible refine Blk.after ?_ b1) | (with_reducible refine RowIn.belowS ?_ b1) | (with_reducible refine Below.after ?_ b1 ?_) | (with_reducible refine Blk.drewN ?_ _) | (with_reducible refine RowIn.drewN ?_ _) | (with_reducible refine below_drewN ?_ _) | (with_reducible refine Blk.drew ?_) | (with_reducible refine RowIn.drew ?_) | (with_reducible refine Below.drew ?_) | (with_reducible refine Blk.new' ?_ ?_ <;> first | (with_reducible rfl) | (simp; done)) | (with_reducible refine Blk.alloc ?_ _) | (with_reducible refine RowIn.alloc ?_ _) | (with_reducible refine Below.alloc ?_ ?_ _) | (with_reducible apply Blk.set') | (with_reducible apply Blk.far') | (with_reducible refine RowIn.far' ?_ ?_ _) | (with_reducible refine Below.far' ?_ ?_ _) | rfl | omega | go_size)
    clear b1
    have kb_1 := zb_1.cell; have fb_1 := zb_1.frozen; have lb_1 := zb_1.lt
    go_wp2_with fail
    refine (rtwin_any Ab nb cb _ (pack xb) _ rb_1.row (by omega)).mono ?_
    rintro e w2 ⟨Ao, co, rfl, own2, b2⟩
    have hco := own2.rowC.2
    have ro := own2.rowIn
    clear own2
    have s2 := b2.size
    try simp only [World.size_alloc, World.size_setCell, World.size_drew, size_drewN] at s2
    obtain ⟨zb_2, rb_2, ro_2, bb_2⟩ : Blk w2 (w.heap.size) 25 [.slice Ab nb cb, .int .i64 ((xb.length : Nat) : Int)] ∧ RowIn .u8 w2 (0) (w.heap.size) Ab nb (pack xb) ∧ RowIn .u8 w2 (w1.heap.size) (w2.heap.size) Ao nb (pack xb) ∧ Below w.heap.size w w2 := by
      refine ⟨?_, ?_, ?_, ?_⟩
      all_goals repeat' (first | (with_reducible assumption) | (with_reducible exact Below.refl _ _) | (with_reducible refine Blk.after ?_ b2) | (with_reducible refine RowIn.belowS ?_ b2) | (with_reducible refine Below.after ?_ b2 ?_) | (with_reducible refine Blk.drewN ?_ _) | (with_reducible refine RowIn.drewN ?_ _) | (with_reducible refine below_drewN ?_ _) | (with_reducible refine Blk.drew ?_) | (with_reducible refine RowIn.drew ?_) | (with_reducible refine Below.drew ?_) | (with_reducible refine Blk.new' ?_ ?_ <;> first | (with_reducible rfl) | (simp; done)) | (with_reducible refine Blk.alloc ?_ _) | (with_reducible refine RowIn.alloc ?_ _) | (with_reducible refine Below.alloc ?_ ?_ _) | (with_reducible apply Blk.set') | (with_reducible apply Blk.far') | (with_reducible refine RowIn.far' ?_ ?_ _) | (with_reducible refine Below.far' ?_ ?_ _) | rfl | omega | go_size)
    clear zb_1 rb_1 bb_1 kb_1 fb_1 lb_1 b2
    have kb_2 := zb_2.cell; have fb_2 := zb_2.frozen; have lb_2 := zb_2.lt
    clear ro
    go_wp2_with fail
    obtain ⟨m, HM⟩ : ∃ m, Hid ((n + 7) / 8 + 4 = m) := ⟨_, Lib.hid rfl⟩
    refine (bsize_c n m _ hn3 HM.out).mono ?_
    rintro e _ ⟨rfl, rfl⟩
    go_wp2_with fail
    refine (rbsize_c n m _ hn3 HM.out).mono ?_
    rintro e _ ⟨rfl, rfl⟩
    go_wp2_with fail
    refine (bpack_ok Ao nb co xb _ (by exact RowIn.row (lo := w1.heap.size) (hi := w2.heap.size) (by repeat' (first | (with_reducible assumption) | (with_reducible exact Below.refl _ _) | (with_reducible refine Blk.drewN ?_ _) | (with_reducible refine RowIn.drewN ?_ _) | (with_reducible refine below_drewN ?_ _) | (with_reducible refine Blk.drew ?_) | (with_reducible refine RowIn.drew ?_) | (with_reducible refine Below.drew ?_) | (with_reducible refine Blk.new' ?_ ?_ <;> first | (with_reducible rfl) | (simp; done)) | (with_reducible refine Blk.alloc ?_ _) | (with_reducible refine RowIn.alloc ?_ _) | (with_reducible refine Below.alloc ?_ ?_ _) | (with_reducible apply Blk.set') | (with_reducible apply Blk.far') | (with_reducible refine RowIn.far' ?_ ?_ _) | (with_reducible refine Below.far' ?_ ?_ _) | rfl | omega | go_size))) hco hlb).mono ?_
    rintro e w3 ⟨Ap, mp, cp, xp, rfl, hcp, rp, HXp, b3⟩
    have LNp := rp.len
    replace LNp := Lib.hid LNp
    replace rp := rp.mono (lo' := w2.heap.size + 1) (by go_size) (Nat.le_refl _)
    have s3 := b3.size
    try simp only [World.size_alloc, World.size_setCell, World.size_drew, size_drewN] at s3
    obtain ⟨zb_3, zo_3, rb_3, ro_3, rp_3, bb_3⟩ : Blk w3 (w.heap.size) 25 [.slice Ab nb cb, .int .i64 ((xb.length : Nat) : Int)] ∧ Blk w3 (w2.heap.size) 25 [.slice Ao nb co, .int .i64 ((xb.length : Nat) : Int)] ∧ RowIn .u8 w3 (0) (w.heap.size) Ab nb (pack xb) ∧ RowIn .u8 w3 (w1.heap.size) (w2.heap.size) Ao nb (pack xb) ∧ RowIn .u8 w3 (w2.heap.size + 1) (w3.heap.size) Ap mp xp ∧ Below w.heap.size w w3 := by
      refine ⟨?_, ?_, ?_, ?_, ?_, ?_⟩
      all_goals repeat' (first | (with_reducible assumption) | (with_reducible exact Below.refl _ _) | (with_reducible refine Blk.after ?_ b3) | (with_reducible refine RowIn.belowS ?_ b3) | (with_reducible refine Below.after ?_ b3 ?_) | (with_reducible refine Blk.drewN ?_ _) | (with_reducible refine RowIn.drewN ?_ _) | (with_reducible refine below_drewN ?_ _) | (with_reducible refine Blk.drew ?_) | (with_reducible refine RowIn.drew ?_) | (with_reducible refine Below.drew ?_) | (with_reducible refine Blk.new' ?_ ?_ <;> first | (with_reducible rfl) | (simp; done)) | (with_reducible refine Blk.alloc ?_ _) | (with_reducible refine RowIn.alloc ?_ _) | (with_reducible refine Below.alloc ?_ ?_ _) | (with_reducible apply Blk.set') | (with_reducible apply Blk.far') | (with_reducible refine RowIn.far' ?_ ?_ _) | (with_reducible refine Below.far' ?_ ?_ _) | rfl | omega | go_size)
    clear zb_2 rb_2 ro_2 bb_2 kb_2 fb_2 lb_2 b3
    have kb_3 := zb_3.cell; have fb_3 := zb_3.frozen; have lb_3 := zb_3.lt
    have ko_3 := zo_3.cell; have fo_3 := zo_3.frozen; have lo_3 := zo_3.lt
    clear rp
    go_wp2_with fail
    refine (rpack_ok Ab nb cb xb _ (by exact RowIn.row (lo := 0) (hi := w.heap.size) (by repeat' (first | (with_reducible assumption) | (with_reducible exact Below.refl _ _) | (with_reducible refine Blk.drewN ?_ _) | (with_reducible refine RowIn.drewN ?_ _) | (with_reducible refine below_drewN ?_ _) | (with_reducible refine Blk.drew ?_) | (with_reducible refine RowIn.drew ?_) | (with_reducible refine Below.drew ?_) | (with_reducible refine Blk.new' ?_ ?_ <;> first | (with_reducible rfl) | (simp; done)) | (with_reducible refine Blk.alloc ?_ _) | (with_reducible refine RowIn.alloc ?_ _) | (with_reducible refine Below.alloc ?_ ?_ _) | (with_reducible apply Blk.set') | (with_reducible apply Blk.far') | (with_reducible refine RowIn.far' ?_ ?_ _) | (with_reducible refine Below.far' ?_ ?_ _) | rfl | omega | go_size))) hcb hlb).mono ?_
    rintro e w4 ⟨Aq, mq, cq, xq, rfl, hcq, rq, HXq, b4⟩
    have LNq := rq.len
    replace LNq := Lib.hid LNq
    replace rq := rq.mono (lo' := w3.heap.size + 0) (by go_size) (Nat.le_refl _)
    have s4 := b4.size
    try simp only [World.size_alloc, World.size_setCell, World.size_drew, size_drewN] at s4
    obtain ⟨zb_4, zo_4, rb_4, ro_4, rp_4, rq_4, bb_4⟩ : Blk w4 (w.heap.size) 25 [.slice Ab nb cb, .int .i64 ((xb.length : Nat) : Int)] ∧ Blk w4 (w2.heap.size) 25 [.slice Ao nb co, .int .i64 ((xb.length : Nat) : Int)] ∧ RowIn .u8 w4 (0) (w.heap.size) Ab nb (pack xb) ∧ RowIn .u8 w4 (w1.heap.size) (w2.heap.size) Ao nb (pack xb) ∧ RowIn .u8 w4 (w2.heap.size + 1) (w3.heap.size) Ap mp xp ∧ RowIn .u8 w4 (w3.heap.size + 0) (w4.heap.size) Aq mq xq ∧ Below w.heap.size w w4 := by
      refine ⟨?_, ?_, ?_, ?_, ?_, ?_, ?_⟩
      all_goals repeat' (first | (with_reducible assumption) | (with_reducible exact Below.refl _ _) | (with_reducible refine Blk.after ?_ b4) | (with_reducible refine RowIn.belowS ?_ b4) | (with_reducible refine Below.after ?_ b4 ?_) | (with_reducible refine Blk.drewN ?_ _) | (with_reducible refine RowIn.drewN ?_ _) | (with_reducible refine below_drewN ?_ _) | (with_reducible refine Blk.drew ?_) | (with_reducible refine RowIn.drew ?_) | (with_reducible refine Below.drew ?_) | (with_reducible refine Blk.new' ?_ ?_ <;> first | (with_reducible rfl) | (simp; done)) | (with_reducible refine Blk.alloc ?_ _) | (with_reducible refine RowIn.alloc ?_ _) | (with_reducible refine Below.alloc ?_ ?_ _) | (with_reducible apply Blk.set') | (with_reducible apply Blk.far') | (with_reducible refine RowIn.far' ?_ ?_ _) | (with_reducible refine Below.far' ?_ ?_ _) | rfl | omega | go_size)
    clear zb_3 zo_3 rb_3 ro_3 rp_3 bb_3 kb_3 fb_3 lb_3 ko_3 fo_3 lo_3 b4
    have kb_4 := zb_4.cell; have fb_4 := zb_4.frozen; have lb_4 := zb_4.lt
    have ko_4 := zo_4.cell; have fo_4 := zo_4.frozen; have lo_4 := zo_4.lt
    clear rq
    have scp := run_str (P := Try.prog) (src := 22) (dst := 9) Try.underlying22 Try.underlying5 Try.underlying9 cp rp_4.row
    have scq := run_str (P := Try.prog) (src := 22) (dst := 9) Try.underlying22 Try.underlying5 Try.underlying9 cq rq_4.row
    have t1 : ((strOfNums xp).toList == (strOfNums xq).toList) = true := by rw [HXp.out, HXq.out]; simp
    go_wp2_with fail
    refine (rsame_bits Ao Ab nb nb co cb xb xb _ (by exact RowIn.row (lo := w1.heap.size) (hi := w2.heap.size) (by repeat' (first | (with_reducible assumption) | (with_reducible exact Below.refl _ _) | (with_reducible refine Blk.drewN ?_ _) | (with_reducible refine RowIn.drewN ?_ _) | (with_reducible refine below_drewN ?_ _) | (with_reducible refine Blk.drew ?_) | (with_reducible refine RowIn.drew ?_) | (with_reducible refine Below.drew ?_) | (with_reducible refine Blk.new' ?_ ?_ <;> first | (with_reducible rfl) | (simp; done)) | (with_reducible refine Blk.alloc ?_ _) | (with_reducible refine RowIn.alloc ?_ _) | (with_reducible refine Below.alloc ?_ ?_ _) | (with_reducible apply Blk.set') | (with_reducible apply Blk.far') | (with_reducible refine RowIn.far' ?_ ?_ _) | (with_reducible refine Below.far' ?_ ?_ _) | rfl | omega | go_size))) (by exact RowIn.row (lo := 0) (hi := w.heap.size) (by repeat' (first | (with_reducible assumption) | (with_reducible exact Below.refl _ _) | (with_reducible refine Blk.drewN ?_ _) | (with_reducible refine RowIn.drewN ?_ _) | (with_reducible refine below_drewN ?_ _) | (with_reducible refine Blk.drew ?_) | (with_reducible refine RowIn.drew ?_) | (with_reducible refine Below.drew ?_) | (with_reducible refine Blk.new' ?_ ?_ <;> first | (with_reducible rfl) | (simp; done)) | (with_reducible refine Blk.alloc ?_ _) | (with_reducible refine RowIn.alloc ?_ _) | (with_reducible refine Below.alloc ?_ ?_ _) | (with_reducible apply Blk.set') | (with_reducible apply Blk.far') | (with_reducible refine RowIn.far' ?_ ?_ _) | (with_reducible refine Below.far' ?_ ?_ _) | rfl | omega | go_size))) rfl).mono ?_
    rintro e w5 ⟨rfl, b5⟩
    have s5 := b5.size
    try simp only [World.size_alloc, World.size_setCell, World.size_drew, size_drewN] at s5
    obtain ⟨zb_5, zo_5, rb_5, ro_5, rp_5, rq_5, bb_5⟩ : Blk w5 (w.heap.size) 25 [.slice Ab nb cb, .int .i64 ((xb.length : Nat) : Int)] ∧ Blk w5 (w2.heap.size) 25 [.slice Ao nb co, .int .i64 ((xb.length : Nat) : Int)] ∧ RowIn .u8 w5 (0) (w.heap.size) Ab nb (pack xb) ∧ RowIn .u8 w5 (w1.heap.size) (w2.heap.size) Ao nb (pack xb) ∧ RowIn .u8 w5 (w2.heap.size + 1) (w3.heap.size) Ap mp xp ∧ RowIn .u8 w5 (w3.heap.size + 0) (w4.heap.size) Aq mq xq ∧ Below w.heap.size w w5 := by
      refine ⟨?_, ?_, ?_, ?_, ?_, ?_, ?_⟩
      all_goals repeat' (first | (with_reducible assumption) | (with_reducible exact Below.refl _ _) | (with_reducible refine Blk.after ?_ b5) | (with_reducible refine RowIn.belowS ?_ b5) | (with_reducible refine Below.after ?_ b5 ?_) | (with_reducible refine Blk.drewN ?_ _) | (with_reducible refine RowIn.drewN ?_ _) | (with_reducible refine below_drewN ?_ _) | (with_reducible refine Blk.drew ?_) | (with_reducible refine RowIn.drew ?_) | (with_reducible refine Below.drew ?_) | (with_reducible refine Blk.new' ?_ ?_ <;> first | (with_reducible rfl) | (simp; done)) | (with_reducible refine Blk.alloc ?_ _) | (with_reducible refine RowIn.alloc ?_ _) | (with_reducible refine Below.alloc ?_ ?_ _) | (with_reducible apply Blk.set') | (with_reducible apply Blk.far') | (with_reducible refine RowIn.far' ?_ ?_ _) | (with_reducible refine Below.far' ?_ ?_ _) | rfl | omega | go_size)
    clear zb_4 zo_4 rb_4 ro_4 rp_4 rq_4 bb_4 kb_4 fb_4 lb_4 ko_4 fo_4 lo_4 b5
    have kb_5 := zb_5.cell; have fb_5 := zb_5.frozen; have lb_5 := zb_5.lt
    have ko_5 := zo_5.cell; have fo_5 := zo_5.frozen; have lo_5 := zo_5.lt
    go_wp2
    go_ret
    refine ⟨rfl, ?_⟩
    repeat' (first | (with_reducible assumption) | (with_reducible exact Below.refl _ _) | (with_reducible refine Blk.drewN ?_ _) | (with_reducible refine RowIn.drewN ?_ _) | (with_reducible refine below_drewN ?_ _) | (with_reducible refine Blk.drew ?_) | (with_reducible refine RowIn.drew ?_) | (with_reducible refine Below.drew ?_) | (with_reducible refine Blk.new' ?_ ?_ <;> first | (with_reducible rfl) | (simp; done)) | (with_reducible refine Blk.alloc ?_ _) | (with_reducible refine RowIn.alloc ?_ _) | (with_reducible refine Below.alloc ?_ ?_ _) | (with_reducible apply Blk.set') | (with_reducible apply Blk.far') | (with_reducible refine RowIn.far' ?_ ?_ _) | (with_reducible refine Below.far' ?_ ?_ _) | rfl | omega | go_size)


set_option maxRecDepth 100000 in
set_option maxHeartbeats 1000000 in
theorem lawBlockUnpacks (w : World) (Ap : Option Addr) (np cp : Nat) (xsp : List Int) (hAp : RowC .u8 w Ap np cp xsp) (hxp : Within 0 255 xsp) :
    Calls Try.prog 3 #[.slice Ap np cp] w fun e w' => e = .returned (.bool true) ∧ Below w.heap.size w w' := by
  have hap := hAp.row
  have hcp := hAp.2
  have hrip := hap.rowIn
  by_cases hg : 300 < np ∧ np ≤ 41254 ∨ 41300 < np
  · go_enter Try.func3, Try.ntmps3
    go_wp2_with fail
    refine (rbgreat_yes Ap np cp _ hg).mono ?_
    rintro e _ ⟨rfl, rfl⟩
    go_wp2
    go_ret
    exact ⟨rfl, Below.refl _ _⟩
  have hnp : np ≤ 41300 := by omega
  have HG := Lib.hid hg
  clear hg
  go_enter Try.func3, Try.ntmps3
  go_wp2_with fail
  refine (rbgreat_no Ap np cp _ HG.out).mono ?_
  rintro e _ ⟨rfl, rfl⟩
  go_wp2_with (at_builtin; refine wpList_app _ u8E rfl _ _ rfl w.heap.size _ _ _ [] rfl (own_empty w _ _ (Nat.le_refl _)) _ _ _ xsp rfl (hap.alloc _) (by omega) (by simp) ?_)
  intro Ao co w1 own1 hg1 _
  have b1 : Below w.heap.size w w1 := Below.grown ((Below.refl _ _).alloc (Nat.le_refl _) _) hg1 (by simp) (fun g e => by simp [blockOf] at e; omega)
  try rw [List.nil_append] at own1
  try simp only [Nat.zero_add] at own1
  try simp only [Nat.zero_add]
  have ro := own1.rowIn
  have hco := own1.rowC.2
  have s1 := b1.size
  try simp only [World.size_alloc, World.size_setCell, World.size_drew, size_drewN] at s1
  obtain ⟨rp_1, ro_1, bb_1⟩ : RowIn .u8 w1 (0) (w.heap.size) Ap np xsp ∧ RowIn .u8 w1 (w.heap.size) (w1.heap.size) Ao np xsp ∧ Below w.heap.size w w1 := by
    refine ⟨?_, ?_, ?_⟩
    all_goals repeat' (first | (with_reducible assumption) | (with_reducible exact Below.refl _ _) | (with_reducible refine Blk.after ?_ b1) | (with_reducible refine RowIn.belowS ?_ b1) | (with_reducible refine Below.after ?_ b1 ?_) | (with_reducible refine Blk.drewN ?_ _) | (with_reducible refine RowIn.drewN ?_ _) | (with_reducible refine below_drewN ?_ _) | (with_reducible refine Blk.drew ?_) | (with_reducible refine RowIn.drew ?_) | (with_reducible refine Below.drew ?_) | (with_reducible refine Blk.new' ?_ ?_ <;> first | (with_reducible rfl) | (simp; done)) | (with_reducible refine Blk.alloc ?_ _) | (with_reducible refine RowIn.alloc ?_ _) | (with_reducible refine Below.alloc ?_ ?_ _) | (with_reducible apply Blk.set') | (with_reducible apply Blk.far') | (with_reducible refine RowIn.far' ?_ ?_ _) | (with_reducible refine Below.far' ?_ ?_ _) | rfl | omega | go_size)
  clear b1
  clear ro own1
  obtain ⟨us, er, HU⟩ : ∃ us er, Hid (unpR xsp = (us, er)) := ⟨_, _, Lib.hid rfl⟩
  go_wp2_with fail
  refine (unp_c Ao np co xsp _ us er (by exact RowIn.row (lo := w.heap.size) (hi := w1.heap.size) (by repeat' (first | (with_reducible assumption) | (with_reducible exact Below.refl _ _) | (with_reducible refine Blk.drewN ?_ _) | (with_reducible refine RowIn.drewN ?_ _) | (with_reducible refine below_drewN ?_ _) | (with_reducible refine Blk.drew ?_) | (with_reducible refine RowIn.drew ?_) | (with_reducible refine Below.drew ?_) | (with_reducible refine Blk.new' ?_ ?_ <;> first | (with_reducible rfl) | (simp; done)) | (with_reducible refine Blk.alloc ?_ _) | (with_reducible refine RowIn.alloc ?_ _) | (with_reducible refine Below.alloc ?_ ?_ _) | (with_reducible apply Blk.set') | (with_reducible apply Blk.far') | (with_reducible refine RowIn.far' ?_ ?_ _) | (with_reducible refine Below.far' ?_ ?_ _) | rfl | omega | go_size))) hxp hco HU.out).mono ?_
  rintro e w2 ⟨Ab, mb, cb, xb, rfl, hcb, rb, HXb, b2⟩
  replace rb := rb.mono (lo' := w1.heap.size + 0) (by go_size) (Nat.le_refl _)
  have s2 := b2.size
  try simp only [World.size_alloc, World.size_setCell, World.size_drew, size_drewN] at s2
  obtain ⟨rp_2, ro_2, rb_2, bb_2⟩ : RowIn .u8 w2 (0) (w.heap.size) Ap np xsp ∧ RowIn .u8 w2 (w.heap.size) (w1.heap.size) Ao np xsp ∧ RowIn .u8 w2 (w1.heap.size + 0) (w2.heap.size) Ab mb (pack xb) ∧ Below w.heap.size w w2 := by
    refine ⟨?_, ?_, ?_, ?_⟩
    all_goals repeat' (first | (with_reducible assumption) | (with_reducible exact Below.refl _ _) | (with_reducible refine Blk.after ?_ b2) | (with_reducible refine RowIn.belowS ?_ b2) | (with_reducible refine Below.after ?_ b2 ?_) | (with_reducible refine Blk.drewN ?_ _) | (with_reducible refine RowIn.drewN ?_ _) | (with_reducible refine below_drewN ?_ _) | (with_reducible refine Blk.drew ?_) | (with_reducible refine RowIn.drew ?_) | (with_reducible refine Below.drew ?_) | (with_reducible refine Blk.new' ?_ ?_ <;> first | (with_reducible rfl) | (simp; done)) | (with_reducible refine Blk.alloc ?_ _) | (with_reducible refine RowIn.alloc ?_ _) | (with_reducible refine Below.alloc ?_ ?_ _) | (with_reducible apply Blk.set') | (with_reducible apply Blk.far') | (with_reducible refine RowIn.far' ?_ ?_ _) | (with_reducible refine Below.far' ?_ ?_ _) | rfl | omega | go_size)
  clear rp_1 ro_1 bb_1 b2
  clear rb
  go_wp2_with fail
  refine (runp_c Ap np cp xsp _ us er (by exact RowIn.row (lo := 0) (hi := w.heap.size) (by repeat' (first | (with_reducible assumption) | (with_reducible exact Below.refl _ _) | (with_reducible refine Blk.drewN ?_ _) | (with_reducible refine RowIn.drewN ?_ _) | (with_reducible refine below_drewN ?_ _) | (with_reducible refine Blk.drew ?_) | (with_reducible refine RowIn.drew ?_) | (with_reducible refine Below.drew ?_) | (with_reducible refine Blk.new' ?_ ?_ <;> first | (with_reducible rfl) | (simp; done)) | (with_reducible refine Blk.alloc ?_ _) | (with_reducible refine RowIn.alloc ?_ _) | (with_reducible refine Below.alloc ?_ ?_ _) | (with_reducible apply Blk.set') | (with_reducible apply Blk.far') | (with_reducible refine RowIn.far' ?_ ?_ _) | (with_reducible refine Below.far' ?_ ?_ _) | rfl | omega | go_size))) hxp hcp HU.out).mono ?_
  rintro e w3 ⟨Ac, mc, cc, xc, rfl, hcc, rc, HXc, b3⟩
  replace rc := rc.mono (lo' := w2.heap.size + 1) (by go_size) (Nat.le_refl _)
  have s3 := b3.size
  try simp only [World.size_alloc, World.size_setCell, World.size_drew, size_drewN] at s3
  obtain ⟨zb_3, rp_3, ro_3, rb_3, rc_3, bb_3⟩ : Blk w3 (w2.heap.size) 25 [.slice Ab mb cb, .int .i64 ((xb.length : Nat) : Int)] ∧ RowIn .u8 w3 (0) (w.heap.size) Ap np xsp ∧ RowIn .u8 w3 (w.heap.size) (w1.heap.size) Ao np xsp ∧ RowIn .u8 w3 (w1.heap.size + 0) (w2.heap.size) Ab mb (pack xb) ∧ RowIn .u8 w3 (w2.heap.size + 1) (w3.heap.size) Ac mc (pack xc) ∧ Below w.heap.size w w3 := by
    refine ⟨?_, ?_, ?_, ?_, ?_, ?_⟩
    all_goals repeat' (first | (with_reducible assumption) | (with_reducible exact Below.refl _ _) | (with_reducible refine Blk.after ?_ b3) | (with_reducible refine RowIn.belowS ?_ b3) | (with_reducible refine Below.after ?_ b3 ?_) | (with_reducible refine Blk.drewN ?_ _) | (with_reducible refine RowIn.drewN ?_ _) | (with_reducible refine below_drewN ?_ _) | (with_reducible refine Blk.drew ?_) | (with_reducible refine RowIn.drew ?_) | (with_reducible refine Below.drew ?_) | (with_reducible refine Blk.new' ?_ ?_ <;> first | (with_reducible rfl) | (simp; done)) | (with_reducible refine Blk.alloc ?_ _) | (with_reducible refine RowIn.alloc ?_ _) | (with_reducible refine Below.alloc ?_ ?_ _) | (with_reducible apply Blk.set') | (with_reducible apply Blk.far') | (with_reducible refine RowIn.far' ?_ ?_ _) | (with_reducible refine Below.far' ?_ ?_ _) | rfl | omega | go_size)
  clear rp_2 ro_2 rb_2 bb_2 b3
  have kb_3 := zb_3.cell; have fb_3 := zb_3.frozen; have lb_3 := zb_3.lt
  clear rc
  have HE : Hid (xb = xc) := by rw [HXb.out, HXc.out]; exact Lib.hid rfl
  go_wp2_with fail
  refine (rsame_bits Ab Ac mb mc cb cc xb xc _ (by exact RowIn.row (lo := w1.heap.size + 0) (hi := w2.heap.size) (by repeat' (first | (with_reducible assumption) | (with_reducible exact Below.refl _ _) | (with_reducible refine Blk.drewN ?_ _) | (with_reducible refine RowIn.drewN ?_ _) | (with_reducible refine below_drewN ?_ _) | (with_reducible refine Blk.drew ?_) | (with_reducible refine RowIn.drew ?_) | (with_reducible refine Below.drew ?_) | (with_reducible refine Blk.new' ?_ ?_ <;> first | (with_reducible rfl) | (simp; done)) | (with_reducible refine Blk.alloc ?_ _) | (with_reducible refine RowIn.alloc ?_ _) | (with_reducible refine Below.alloc ?_ ?_ _) | (with_reducible apply Blk.set') | (with_reducible apply Blk.far') | (with_reducible refine RowIn.far' ?_ ?_ _) | (with_reducible refine Below.far' ?_ ?_ _) | rfl | omega | go_size))) (by exact RowIn.row (lo := w2.heap.size + 1) (hi := w3.heap.size) (by repeat' (first | (with_reducible assumption) | (with_reducible exact Below.refl _ _) | (with_reducible refine Blk.drewN ?_ _) | (with_reducible refine RowIn.drewN ?_ _) | (with_reducible refine below_drewN ?_ _) | (with_reducible refine Blk.drew ?_) | (with_reducible refine RowIn.drew ?_) | (with_reducible refine Below.drew ?_) | (with_reducible refine Blk.new' ?_ ?_ <;> first | (with_reducible rfl) | (simp; done)) | (with_reducible refine Blk.alloc ?_ _) | (with_reducible refine RowIn.alloc ?_ _) | (with_reducible refine Below.alloc ?_ ?_ _) | (with_reducible apply Blk.set') | (with_reducible apply Blk.far') | (with_reducible refine RowIn.far' ?_ ?_ _) | (with_reducible refine Below.far' ?_ ?_ _) | rfl | omega | go_size))) HE.out).mono ?_
  rintro e w4 ⟨rfl, b4⟩
  have s4 := b4.size
  try simp only [World.size_alloc, World.size_setCell, World.size_drew, size_drewN] at s4
  obtain ⟨zb_4, zc_4, rp_4, ro_4, rb_4, rc_4, bb_4⟩ : Blk w4 (w2.heap.size) 25 [.slice Ab mb cb, .int .i64 ((xb.length : Nat) : Int)] ∧ Blk w4 (w3.heap.size) 25 [.slice Ac mc cc, .int .i64 ((xc.length : Nat) : Int)] ∧ RowIn .u8 w4 (0) (w.heap.size) Ap np xsp ∧ RowIn .u8 w4 (w.heap.size) (w1.heap.size) Ao np xsp ∧ RowIn .u8 w4 (w1.heap.size + 0) (w2.heap.size) Ab mb (pack xb) ∧ RowIn .u8 w4 (w2.heap.size + 1) (w3.heap.size) Ac mc (pack xc) ∧ Below w.heap.size w w4 := by
    refine ⟨?_, ?_, ?_, ?_, ?_, ?_, ?_⟩
    all_goals repeat' (first | (with_reducible assumption) | (with_reducible exact Below.refl _ _) | (with_reducible refine Blk.after ?_ b4) | (with_reducible refine RowIn.belowS ?_ b4) | (with_reducible refine Below.after ?_ b4 ?_) | (with_reducible refine Blk.drewN ?_ _) | (with_reducible refine RowIn.drewN ?_ _) | (with_reducible refine below_drewN ?_ _) | (with_reducible refine Blk.drew ?_) | (with_reducible refine RowIn.drew ?_) | (with_reducible refine Below.drew ?_) | (with_reducible refine Blk.new' ?_ ?_ <;> first | (with_reducible rfl) | (simp; done)) | (with_reducible refine Blk.alloc ?_ _) | (with_reducible refine RowIn.alloc ?_ _) | (with_reducible refine Below.alloc ?_ ?_ _) | (with_reducible apply Blk.set') | (with_reducible apply Blk.far') | (with_reducible refine RowIn.far' ?_ ?_ _) | (with_reducible refine Below.far' ?_ ?_ _) | rfl | omega | go_size)
  clear zb_3 rp_3 ro_3 rb_3 rc_3 bb_3 kb_3 fb_3 lb_3 b4
  have kb_4 := zb_4.cell; have fb_4 := zb_4.frozen; have lb_4 := zb_4.lt
  have kc_4 := zc_4.cell; have fc_4 := zc_4.frozen; have lc_4 := zc_4.lt
  have sco := run_str (P := Try.prog) (src := 22) (dst := 9) Try.underlying22 Try.underlying5 Try.underlying9 co ro_4.row
  have scp := run_str (P := Try.prog) (src := 22) (dst := 9) Try.underlying22 Try.underlying5 Try.underlying9 cp rp_4.row
  have t1 : ((strOfNums xsp).toList == (strOfNums xsp).toList) = true := by simp
  go_wp2
  go_ret
  refine ⟨rfl, ?_⟩
  repeat' (first | (with_reducible assumption) | (with_reducible exact Below.refl _ _) | (with_reducible refine Blk.drewN ?_ _) | (with_reducible refine RowIn.drewN ?_ _) | (with_reducible refine below_drewN ?_ _) | (with_reducible refine Blk.drew ?_) | (with_reducible refine RowIn.drew ?_) | (with_reducible refine Below.drew ?_) | (with_reducible refine Blk.new' ?_ ?_ <;> first | (with_reducible rfl) | (simp; done)) | (with_reducible refine Blk.alloc ?_ _) | (with_reducible refine RowIn.alloc ?_ _) | (with_reducible refine Below.alloc ?_ ?_ _) | (with_reducible apply Blk.set') | (with_reducible apply Blk.far') | (with_reducible refine RowIn.far' ?_ ?_ _) | (with_reducible refine Below.far' ?_ ?_ _) | rfl | omega | go_size)


end Go.Proofs.Ytncmnfnminjchaa
