/-
  The walk of BlockNames.
-/
import Derived.Test.YtncmnfnminjchaaLawS
import Derived.Test.YtncmnfnminjchaaBlkC
import Derived.Test.YtncmnfnminjchaaBlkD
namespace Go.Proofs.Ytncmnfnminjchaa
open Go.RowKit Cad Cad.Bit Cad.Crc Cad.Le
set_option linter.unusedVariables false
set_option linter.unusedSimpArgs false


set_option maxRecDepth 100000 in
set_option maxHeartbeats 4000000 in
theorem lawBlockNames (w : World)  :
    Calls Try.prog 8 #[] w fun e w' => e = .returned (.bool true) ∧ Below w.heap.size w w' := by
  have hmk3 : ∀ W, (Instr.makeSlice 22 (.int .i64 3) (.int .i64 3)).run Try.prog W = .ok (.slice (some ⟨W.heap.size, 0, none⟩) 3 3) (W.alloc (.cells (zeroRow .u8 3) 5)) := fun W => run_mk u8E 3 (by omega) .i64 .i64 W
  have hmk41255 : ∀ W, (Instr.makeSlice 22 (.int .i64 41255) (.int .i64 41255)).run Try.prog W = .ok (.slice (some ⟨W.heap.size, 0, none⟩) 41255 41255) (W.alloc (.cells (zeroRow .u8 41255) 5)) := fun W => run_mk u8E 41255 (by omega) .i64 .i64 W
  have hmk41254 : ∀ W, (Instr.makeSlice 22 (.int .i64 41254) (.int .i64 41254)).run Try.prog W = .ok (.slice (some ⟨W.heap.size, 0, none⟩) 41254 41254) (W.alloc (.cells (zeroRow .u8 41254) 5)) := fun W => run_mk u8E 41254 (by omega) .i64 .i64 W
  have hmk4 : ∀ W, (Instr.makeSlice 22 (.int .i64 4) (.int .i64 4)).run Try.prog W = .ok (.slice (some ⟨W.heap.size, 0, none⟩) 4 4) (W.alloc (.cells (zeroRow .u8 4) 5)) := fun W => run_mk u8E 4 (by omega) .i64 .i64 W
  have hmk41250 : ∀ W, (Instr.makeSlice 22 (.int .i64 41250) (.int .i64 41250)).run Try.prog W = .ok (.slice (some ⟨W.heap.size, 0, none⟩) 41250 41250) (W.alloc (.cells (zeroRow .u8 41250) 5)) := fun W => run_mk u8E 41250 (by omega) .i64 .i64 W
  go_enter Try.func8, Try.ntmps8
  go_wp2_with fail
  refine (bsize_bad (-1) _ (by omega)).mono ?_
  rintro e _ ⟨rfl, rfl⟩
  go_wp2_with fail
  refine (bsize_bad 330001 _ (by omega)).mono ?_
  rintro e _ ⟨rfl, rfl⟩
  go_wp2_with fail
  refine (bsize_c 330000 41254 _ (by omega) (by omega)).mono ?_
  rintro e _ ⟨rfl, rfl⟩
  go_wp2_with fail
  refine (bsize_c 0 4 _ (by omega) (by omega)).mono ?_
  rintro e _ ⟨rfl, rfl⟩
  go_wp2_with fail
  refine (bsize_c 1 5 _ (by omega) (by omega)).mono ?_
  rintro e _ ⟨rfl, rfl⟩
  go_wp2_with fail
  refine (bpack_bad none 0 0 1 [] _ Row.nil (by intro x hx; cases hx) (by omega) not_valid1).mono ?_
  rintro e w1 ⟨Af, mf, cf, xf, rfl, hcf, rf, HXf, b1⟩
  have LNf := rf.len
  replace LNf := Lib.hid LNf
  replace rf := rf.mono (lo' := w.heap.size + 0) (by go_size) (Nat.le_refl _)
  have s1 := b1.size
  try simp only [World.size_alloc, World.size_setCell, World.size_drew, size_drewN] at s1
  obtain ⟨rf_1, bb_1⟩ : RowIn .u8 w1 (w.heap.size + 0) (w1.heap.size) Af mf xf ∧ Below w.heap.size w w1 := by
    refine ⟨?_, ?_⟩
    all_goals repeat' (first | (with_reducible assumption) | (with_reducible exact Below.refl _ _) | (with_reducible refine Blk.after ?_ b1) | (with_reducible refine RowIn.belowS ?_ b1) | (with_reducible refine Below.after ?_ b1 ?_) | (with_reducible refine Blk.drewN ?_ _) | (with_reducible refine RowIn.drewN ?_ _) | (with_reducible refine below_drewN ?_ _) | (with_reducible refine Blk.drew ?_) | (with_reducible refine RowIn.drew ?_) | (with_reducible refine Below.drew ?_) | (with_reducible refine Blk.new' ?_ ?_ <;> first | (with_reducible rfl) | (simp; done)) | (with_reducible refine Blk.alloc ?_ _) | (with_reducible refine RowIn.alloc ?_ _) | (with_reducible refine Below.alloc ?_ ?_ _) | (with_reducible apply Blk.set') | (with_reducible apply Blk.far') | (with_reducible refine RowIn.far' ?_ ?_ _) | (with_reducible refine Below.far' ?_ ?_ _) | rfl | omega | go_size)
  clear b1
  clear rf
  go_wp2_with fail
  refine (unp_c (some ⟨w1.heap.size, 0, none⟩) 3 3 (zeros 3) _ _ 24 (by exact row_made (by simp)) (zeros_within _) (by omega) (unp_short (by rw [zeros_len]; omega))).mono ?_
  rintro e w2 ⟨Ag, mg, cg, xg, rfl, hcg, rg, HXg, b2⟩
  replace rg := rg.mono (lo' := w1.heap.size + 1) (by go_size) (Nat.le_refl _)
  have s2 := b2.size
  try simp only [World.size_alloc, World.size_setCell, World.size_drew, size_drewN] at s2
  obtain ⟨rg_2, bb_2⟩ : RowIn .u8 w2 (w1.heap.size + 1) (w2.heap.size) Ag mg (pack xg) ∧ Below w.heap.size w w2 := by
    refine ⟨?_, ?_⟩
    all_goals repeat' (first | (with_reducible assumption) | (with_reducible exact Below.refl _ _) | (with_reducible refine Blk.after ?_ b2) | (with_reducible refine RowIn.belowS ?_ b2) | (with_reducible refine Below.after ?_ b2 ?_) | (with_reducible refine Blk.drewN ?_ _) | (with_reducible refine RowIn.drewN ?_ _) | (with_reducible refine below_drewN ?_ _) | (with_reducible refine Blk.drew ?_) | (with_reducible refine RowIn.drew ?_) | (with_reducible refine Below.drew ?_) | (with_reducible refine Blk.new' ?_ ?_ <;> first | (with_reducible rfl) | (simp; done)) | (with_reducible refine Blk.alloc ?_ _) | (with_reducible refine RowIn.alloc ?_ _) | (with_reducible refine Below.alloc ?_ ?_ _) | (with_reducible apply Blk.set') | (with_reducible apply Blk.far') | (with_reducible refine RowIn.far' ?_ ?_ _) | (with_reducible refine Below.far' ?_ ?_ _) | rfl | omega | go_size)
  clear rf_1 bb_1 b2
  clear rg
  go_wp2_with fail
  refine (unp_c (some ⟨w2.heap.size + 1, 0, none⟩) 41255 41255 (zeros 41255) _ _ 4 (by exact row_made (by simp)) (zeros_within _) (by omega) (unp_many (by rw [zeros_len]; omega))).mono ?_
  rintro e w3 ⟨Ah, mh, ch, xh, rfl, hch, rh, HXh, b3⟩
  replace rh := rh.mono (lo' := w2.heap.size + 2) (by go_size) (Nat.le_refl _)
  have s3 := b3.size
  try simp only [World.size_alloc, World.size_setCell, World.size_drew, size_drewN] at s3
  obtain ⟨rh_3, bb_3⟩ : RowIn .u8 w3 (w2.heap.size + 2) (w3.heap.size) Ah mh (pack xh) ∧ Below w.heap.size w w3 := by
    refine ⟨?_, ?_⟩
    all_goals repeat' (first | (with_reducible assumption) | (with_reducible exact Below.refl _ _) | (with_reducible refine Blk.after ?_ b3) | (with_reducible refine RowIn.belowS ?_ b3) | (with_reducible refine Below.after ?_ b3 ?_) | (with_reducible refine Blk.drewN ?_ _) | (with_reducible refine RowIn.drewN ?_ _) | (with_reducible refine below_drewN ?_ _) | (with_reducible refine Blk.drew ?_) | (with_reducible refine RowIn.drew ?_) | (with_reducible refine Below.drew ?_) | (with_reducible refine Blk.new' ?_ ?_ <;> first | (with_reducible rfl) | (simp; done)) | (with_reducible refine Blk.alloc ?_ _) | (with_reducible refine RowIn.alloc ?_ _) | (with_reducible refine Below.alloc ?_ ?_ _) | (with_reducible apply Blk.set') | (with_reducible apply Blk.far') | (with_reducible refine RowIn.far' ?_ ?_ _) | (with_reducible refine Below.far' ?_ ?_ _) | rfl | omega | go_size)
  clear rg_2 bb_2 b3
  clear rh
  go_wp2_with fail
  refine (unp_c (some ⟨w3.heap.size + 1, 0, none⟩) 41254 41254 (zeros 41254) _ _ 22 (by exact row_made (by simp)) (zeros_within _) (by omega) (unp_zeros)).mono ?_
  rintro e w4 ⟨Ai, mi, ci, xi, rfl, hci, ri, HXi, b4⟩
  replace ri := ri.mono (lo' := w3.heap.size + 2) (by go_size) (Nat.le_refl _)
  have s4 := b4.size
  try simp only [World.size_alloc, World.size_setCell, World.size_drew, size_drewN] at s4
  obtain ⟨ri_4, bb_4⟩ : RowIn .u8 w4 (w3.heap.size + 2) (w4.heap.size) Ai mi (pack xi) ∧ Below w.heap.size w w4 := by
    refine ⟨?_, ?_⟩
    all_goals repeat' (first | (with_reducible assumption) | (with_reducible exact Below.refl _ _) | (with_reducible refine Blk.after ?_ b4) | (with_reducible refine RowIn.belowS ?_ b4) | (with_reducible refine Below.after ?_ b4 ?_) | (with_reducible refine Blk.drewN ?_ _) | (with_reducible refine RowIn.drewN ?_ _) | (with_reducible refine below_drewN ?_ _) | (with_reducible refine Blk.drew ?_) | (with_reducible refine RowIn.drew ?_) | (with_reducible refine Below.drew ?_) | (with_reducible refine Blk.new' ?_ ?_ <;> first | (with_reducible rfl) | (simp; done)) | (with_reducible refine Blk.alloc ?_ _) | (with_reducible refine RowIn.alloc ?_ _) | (with_reducible refine Below.alloc ?_ ?_ _) | (with_reducible apply Blk.set') | (with_reducible apply Blk.far') | (with_reducible refine RowIn.far' ?_ ?_ _) | (with_reducible refine Below.far' ?_ ?_ _) | rfl | omega | go_size)
  clear rh_3 bb_3 b4
  clear ri
  go_wp2_with fail
  refine (unp_c (some ⟨w4.heap.size + 1, 0, none⟩) 4 4 (zeros 4) _ [] 0 (by exact row_made (by simp)) (zeros_within _) (by omega) (by decide +kernel)).mono ?_
  rintro e w5 ⟨Aj, mj, cj, xj, rfl, hcj, rj, HXj, b5⟩
  have Lj : xj.length ≤ 0 ∧ 0 ≤ xj.length := by rw [HXj.out]; simp
  obtain ⟨Lj1, Lj2⟩ := Lj
  replace rj := rj.mono (lo' := w4.heap.size + 2) (by go_size) (Nat.le_refl _)
  have s5 := b5.size
  try simp only [World.size_alloc, World.size_setCell, World.size_drew, size_drewN] at s5
  obtain ⟨rj_5, bb_5⟩ : RowIn .u8 w5 (w4.heap.size + 2) (w5.heap.size) Aj mj (pack xj) ∧ Below w.heap.size w w5 := by
    refine ⟨?_, ?_⟩
    all_goals repeat' (first | (with_reducible assumption) | (with_reducible exact Below.refl _ _) | (with_reducible refine Blk.after ?_ b5) | (with_reducible refine RowIn.belowS ?_ b5) | (with_reducible refine Below.after ?_ b5 ?_) | (with_reducible refine Blk.drewN ?_ _) | (with_reducible refine RowIn.drewN ?_ _) | (with_reducible refine below_drewN ?_ _) | (with_reducible refine Blk.drew ?_) | (with_reducible refine RowIn.drew ?_) | (with_reducible refine Below.drew ?_) | (with_reducible refine Blk.new' ?_ ?_ <;> first | (with_reducible rfl) | (simp; done)) | (with_reducible refine Blk.alloc ?_ _) | (with_reducible refine RowIn.alloc ?_ _) | (with_reducible refine Below.alloc ?_ ?_ _) | (with_reducible apply Blk.set') | (with_reducible apply Blk.far') | (with_reducible refine RowIn.far' ?_ ?_ _) | (with_reducible refine Below.far' ?_ ?_ _) | rfl | omega | go_size)
  clear ri_4 bb_4 b5
  clear rj
  go_wp2_with fail
  refine (unp_c (some ⟨w5.heap.size + 1, 0, none⟩) 4 4 [0, 0, 0, 1] _ [] 22 (by exact row_new' (xs := [0, 0, 0, 1]) (by simp)) (by unfold Within; decide) (by omega) (by decide +kernel)).mono ?_
  rintro e w6 ⟨Ak, mk, ck, xk, rfl, hck, rk, HXk, b6⟩
  replace rk := rk.mono (lo' := w5.heap.size + 2) (by go_size) (Nat.le_refl _)
  have s6 := b6.size
  try simp only [World.size_alloc, World.size_setCell, World.size_drew, size_drewN] at s6
  obtain ⟨zj_6, rk_6, bb_6⟩ : Blk w6 (w5.heap.size) 25 [.slice Aj mj cj, .int .i64 ((xj.length : Nat) : Int)] ∧ RowIn .u8 w6 (w5.heap.size + 2) (w6.heap.size) Ak mk (pack xk) ∧ Below w.heap.size w w6 := by
    refine ⟨?_, ?_, ?_⟩
    all_goals repeat' (first | (with_reducible assumption) | (with_reducible exact Below.refl _ _) | (with_reducible refine Blk.after ?_ b6) | (with_reducible refine RowIn.belowS ?_ b6) | (with_reducible refine Below.after ?_ b6 ?_) | (with_reducible refine Blk.drewN ?_ _) | (with_reducible refine RowIn.drewN ?_ _) | (with_reducible refine below_drewN ?_ _) | (with_reducible refine Blk.drew ?_) | (with_reducible refine RowIn.drew ?_) | (with_reducible refine Below.drew ?_) | (with_reducible refine Blk.new' ?_ ?_ <;> first | (with_reducible rfl) | (simp; done)) | (with_reducible refine Blk.alloc ?_ _) | (with_reducible refine RowIn.alloc ?_ _) | (with_reducible refine Below.alloc ?_ ?_ _) | (with_reducible apply Blk.set') | (with_reducible apply Blk.far') | (with_reducible refine RowIn.far' ?_ ?_ _) | (with_reducible refine Below.far' ?_ ?_ _) | rfl | omega | go_size)
  clear rj_5 bb_5 b6
  have kj_6 := zj_6.cell; have fj_6 := zj_6.frozen; have lj_6 := zj_6.lt
  clear rk
  go_wp2_with fail
  refine (of_c (some ⟨w6.heap.size + 1, 0, none⟩) 41250 41250 (zeros 41250) _ (by exact row_made (by simp)) (zeros_within _) (by omega) (by omega)).mono ?_
  rintro e w7 ⟨Al, ml, cl, xl, rfl, hcl, rl, HXl, b7⟩
  have Ll : xl.length ≤ 330000 ∧ 330000 ≤ xl.length := by rw [HXl.out]; rw [unpack_len, zeros_len]; omega
  obtain ⟨Ll1, Ll2⟩ := Ll
  replace rl := rl.mono (lo' := w6.heap.size + 2) (by go_size) (Nat.le_refl _)
  have s7 := b7.size
  try simp only [World.size_alloc, World.size_setCell, World.size_drew, size_drewN] at s7
  obtain ⟨zj_7, rl_7, bb_7⟩ : Blk w7 (w5.heap.size) 25 [.slice Aj mj cj, .int .i64 ((xj.length : Nat) : Int)] ∧ RowIn .u8 w7 (w6.heap.size + 2) (w7.heap.size) Al ml (pack xl) ∧ Below w.heap.size w w7 := by
    refine ⟨?_, ?_, ?_⟩
    all_goals repeat' (first | (with_reducible assumption) | (with_reducible exact Below.refl _ _) | (with_reducible refine Blk.after ?_ b7) | (with_reducible refine RowIn.belowS ?_ b7) | (with_reducible refine Below.after ?_ b7 ?_) | (with_reducible refine Blk.drewN ?_ _) | (with_reducible refine RowIn.drewN ?_ _) | (with_reducible refine below_drewN ?_ _) | (with_reducible refine Blk.drew ?_) | (with_reducible refine RowIn.drew ?_) | (with_reducible refine Below.drew ?_) | (with_reducible refine Blk.new' ?_ ?_ <;> first | (with_reducible rfl) | (simp; done)) | (with_reducible refine Blk.alloc ?_ _) | (with_reducible refine RowIn.alloc ?_ _) | (with_reducible refine Below.alloc ?_ ?_ _) | (with_reducible apply Blk.set') | (with_reducible apply Blk.far') | (with_reducible refine RowIn.far' ?_ ?_ _) | (with_reducible refine Below.far' ?_ ?_ _) | rfl | omega | go_size)
  clear zj_6 rk_6 bb_6 kj_6 fj_6 lj_6 b7
  have kj_7 := zj_7.cell; have fj_7 := zj_7.frozen; have lj_7 := zj_7.lt
  clear rl
  go_wp2_with fail
  refine (bpack_ok Al ml cl xl _ (by exact RowIn.row (lo := w6.heap.size + 2) (hi := w7.heap.size) (by repeat' (first | (with_reducible assumption) | (with_reducible exact Below.refl _ _) | (with_reducible refine Blk.drewN ?_ _) | (with_reducible refine RowIn.drewN ?_ _) | (with_reducible refine below_drewN ?_ _) | (with_reducible refine Blk.drew ?_) | (with_reducible refine RowIn.drew ?_) | (with_reducible refine Below.drew ?_) | (with_reducible refine Blk.new' ?_ ?_ <;> first | (with_reducible rfl) | (simp; done)) | (with_reducible refine Blk.alloc ?_ _) | (with_reducible refine RowIn.alloc ?_ _) | (with_reducible refine Below.alloc ?_ ?_ _) | (with_reducible apply Blk.set') | (with_reducible apply Blk.far') | (with_reducible refine RowIn.far' ?_ ?_ _) | (with_reducible refine Below.far' ?_ ?_ _) | rfl | omega | go_size))) hcl (by omega)).mono ?_
  rintro e w8 ⟨Ap, mp, cp, xp, rfl, hcp, rp, HXp, b8⟩
  have LNp := rp.len
  have Lp : mp ≤ 41254 ∧ 41254 ≤ mp := by rw [← LNp, HXp.out]; rw [sealed_len, pack_len]; unfold bytesFor; omega
  obtain ⟨Lp1, Lp2⟩ := Lp
  replace LNp := Lib.hid LNp
  replace rp := rp.mono (lo' := w7.heap.size + 1) (by go_size) (Nat.le_refl _)
  have s8 := b8.size
  try simp only [World.size_alloc, World.size_setCell, World.size_drew, size_drewN] at s8
  obtain ⟨zj_8, zl_8, rl_8, rp_8, bb_8⟩ : Blk w8 (w5.heap.size) 25 [.slice Aj mj cj, .int .i64 ((xj.length : Nat) : Int)] ∧ Blk w8 (w7.heap.size) 25 [.slice Al ml cl, .int .i64 ((xl.length : Nat) : Int)] ∧ RowIn .u8 w8 (w6.heap.size + 2) (w7.heap.size) Al ml (pack xl) ∧ RowIn .u8 w8 (w7.heap.size + 1) (w8.heap.size) Ap mp xp ∧ Below w.heap.size w w8 := by
    refine ⟨?_, ?_, ?_, ?_, ?_⟩
    all_goals repeat' (first | (with_reducible assumption) | (with_reducible exact Below.refl _ _) | (with_reducible refine Blk.after ?_ b8) | (with_reducible refine RowIn.belowS ?_ b8) | (with_reducible refine Below.after ?_ b8 ?_) | (with_reducible refine Blk.drewN ?_ _) | (with_reducible refine RowIn.drewN ?_ _) | (with_reducible refine below_drewN ?_ _) | (with_reducible refine Blk.drew ?_) | (with_reducible refine RowIn.drew ?_) | (with_reducible refine Below.drew ?_) | (with_reducible refine Blk.new' ?_ ?_ <;> first | (with_reducible rfl) | (simp; done)) | (with_reducible refine Blk.alloc ?_ _) | (with_reducible refine RowIn.alloc ?_ _) | (with_reducible refine Below.alloc ?_ ?_ _) | (with_reducible apply Blk.set') | (with_reducible apply Blk.far') | (with_reducible refine RowIn.far' ?_ ?_ _) | (with_reducible refine Below.far' ?_ ?_ _) | rfl | omega | go_size)
  clear zj_7 rl_7 bb_7 kj_7 fj_7 lj_7 b8
  have kj_8 := zj_8.cell; have fj_8 := zj_8.frozen; have lj_8 := zj_8.lt
  have kl_8 := zl_8.cell; have fl_8 := zl_8.frozen; have ll_8 := zl_8.lt
  clear rp
  obtain rfl : mp = 41254 := by omega
  have hpw : Within 0 255 xp := by rw [HXp.out]; exact sealed_within (pack_u8 _)
  go_wp2_with fail
  refine (unp_c Ap 41254 cp xp _ (unpack (pack xl)) 0 (by exact RowIn.row (lo := w7.heap.size + 1) (hi := w8.heap.size) (by repeat' (first | (with_reducible assumption) | (with_reducible exact Below.refl _ _) | (with_reducible refine Blk.drewN ?_ _) | (with_reducible refine RowIn.drewN ?_ _) | (with_reducible refine below_drewN ?_ _) | (with_reducible refine Blk.drew ?_) | (with_reducible refine RowIn.drew ?_) | (with_reducible refine Below.drew ?_) | (with_reducible refine Blk.new' ?_ ?_ <;> first | (with_reducible rfl) | (simp; done)) | (with_reducible refine Blk.alloc ?_ _) | (with_reducible refine RowIn.alloc ?_ _) | (with_reducible refine Below.alloc ?_ ?_ _) | (with_reducible apply Blk.set') | (with_reducible apply Blk.far') | (with_reducible refine RowIn.far' ?_ ?_ _) | (with_reducible refine Below.far' ?_ ?_ _) | rfl | omega | go_size))) hpw hcp (by rw [HXp.out, unp_sealed (by omega)])).mono ?_
  rintro e w9 ⟨Aq, mq, cq, xq, rfl, hcq, rq, HXq, b9⟩
  have Lq : xq.length ≤ 330000 ∧ 330000 ≤ xq.length := by rw [HXq.out]; rw [unpack_len, pack_len]; unfold bytesFor; omega
  obtain ⟨Lq1, Lq2⟩ := Lq
  replace rq := rq.mono (lo' := w8.heap.size + 0) (by go_size) (Nat.le_refl _)
  have s9 := b9.size
  try simp only [World.size_alloc, World.size_setCell, World.size_drew, size_drewN] at s9
  obtain ⟨zj_9, zl_9, rl_9, rp_9, rq_9, bb_9⟩ : Blk w9 (w5.heap.size) 25 [.slice Aj mj cj, .int .i64 ((xj.length : Nat) : Int)] ∧ Blk w9 (w7.heap.size) 25 [.slice Al ml cl, .int .i64 ((xl.length : Nat) : Int)] ∧ RowIn .u8 w9 (w6.heap.size + 2) (w7.heap.size) Al ml (pack xl) ∧ RowIn .u8 w9 (w7.heap.size + 1) (w8.heap.size) Ap 41254 xp ∧ RowIn .u8 w9 (w8.heap.size + 0) (w9.heap.size) Aq mq (pack xq) ∧ Below w.heap.size w w9 := by
    refine ⟨?_, ?_, ?_, ?_, ?_, ?_⟩
    all_goals repeat' (first | (with_reducible assumption) | (with_reducible exact Below.refl _ _) | (with_reducible refine Blk.after ?_ b9) | (with_reducible refine RowIn.belowS ?_ b9) | (with_reducible refine Below.after ?_ b9 ?_) | (with_reducible refine Blk.drewN ?_ _) | (with_reducible refine RowIn.drewN ?_ _) | (with_reducible refine below_drewN ?_ _) | (with_reducible refine Blk.drew ?_) | (with_reducible refine RowIn.drew ?_) | (with_reducible refine Below.drew ?_) | (with_reducible refine Blk.new' ?_ ?_ <;> first | (with_reducible rfl) | (simp; done)) | (with_reducible refine Blk.alloc ?_ _) | (with_reducible refine RowIn.alloc ?_ _) | (with_reducible refine Below.alloc ?_ ?_ _) | (with_reducible apply Blk.set') | (with_reducible apply Blk.far') | (with_reducible refine RowIn.far' ?_ ?_ _) | (with_reducible refine Below.far' ?_ ?_ _) | rfl | omega | go_size)
  clear zj_8 zl_8 rl_8 rp_8 bb_8 kj_8 fj_8 lj_8 kl_8 fl_8 ll_8 b9
  have kj_9 := zj_9.cell; have fj_9 := zj_9.frozen; have lj_9 := zj_9.lt
  have kl_9 := zl_9.cell; have fl_9 := zl_9.frozen; have ll_9 := zl_9.lt
  clear rq
  go_wp2_with fail
  refine (bpack_three (some ⟨w9.heap.size + 1, 0, none⟩) 1 _ (by exact row_new' (xs := [0]) (by simp)) (by omega)).mono ?_
  rintro e w10 ⟨Ao, mo, co, xo, rfl, hco, ro, HXo, b10⟩
  have LNo := ro.len
  have Lo : mo ≤ 5 ∧ 5 ≤ mo := by rw [← LNo, HXo.out]; decide
  obtain ⟨Lo1, Lo2⟩ := Lo
  replace LNo := Lib.hid LNo
  replace ro := ro.mono (lo' := w9.heap.size + 2) (by go_size) (Nat.le_refl _)
  have s10 := b10.size
  try simp only [World.size_alloc, World.size_setCell, World.size_drew, size_drewN] at s10
  obtain ⟨zj_10, zl_10, zq_10, ro_10, bb_10⟩ : Blk w10 (w5.heap.size) 25 [.slice Aj mj cj, .int .i64 ((xj.length : Nat) : Int)] ∧ Blk w10 (w7.heap.size) 25 [.slice Al ml cl, .int .i64 ((xl.length : Nat) : Int)] ∧ Blk w10 (w9.heap.size) 25 [.slice Aq mq cq, .int .i64 ((xq.length : Nat) : Int)] ∧ RowIn .u8 w10 (w9.heap.size + 2) (w10.heap.size) Ao mo xo ∧ Below w.heap.size w w10 := by
    refine ⟨?_, ?_, ?_, ?_, ?_⟩
    all_goals repeat' (first | (with_reducible assumption) | (with_reducible exact Below.refl _ _) | (with_reducible refine Blk.after ?_ b10) | (with_reducible refine RowIn.belowS ?_ b10) | (with_reducible refine Below.after ?_ b10 ?_) | (with_reducible refine Blk.drewN ?_ _) | (with_reducible refine RowIn.drewN ?_ _) | (with_reducible refine below_drewN ?_ _) | (with_reducible refine Blk.drew ?_) | (with_reducible refine RowIn.drew ?_) | (with_reducible refine Below.drew ?_) | (with_reducible refine Blk.new' ?_ ?_ <;> first | (with_reducible rfl) | (simp; done)) | (with_reducible refine Blk.alloc ?_ _) | (with_reducible refine RowIn.alloc ?_ _) | (with_reducible refine Below.alloc ?_ ?_ _) | (with_reducible apply Blk.set') | (with_reducible apply Blk.far') | (with_reducible refine RowIn.far' ?_ ?_ _) | (with_reducible refine Below.far' ?_ ?_ _) | rfl | omega | go_size)
  clear zj_9 zl_9 rl_9 rp_9 rq_9 bb_9 kj_9 fj_9 lj_9 kl_9 fl_9 ll_9 b10
  have kj_10 := zj_10.cell; have fj_10 := zj_10.frozen; have lj_10 := zj_10.lt
  have kl_10 := zl_10.cell; have fl_10 := zl_10.frozen; have ll_10 := zl_10.lt
  have kq_10 := zq_10.cell; have fq_10 := zq_10.frozen; have lq_10 := zq_10.lt
  clear ro
  have sco := run_str (P := Try.prog) (src := 22) (dst := 9) Try.underlying22 Try.underlying5 Try.underlying9 co ro_10.row
  have slo : ((strOfNums xo).toList == [0, 141, 239, 2, 210]) = true := by rw [HXo.out, str_lit (by unfold Within; decide)]; decide
  have tj : (((xj.length : Nat) : Int) == 0) = true := beq_iff_eq.2 (by omega)
  have tq : (((xq.length : Nat) : Int) == 330000) = true := beq_iff_eq.2 (by omega)
  go_wp2_with fail
  refine (alive11 _).mono ?_
  rintro e w11 ⟨rfl, b11⟩
  have s11 := b11.size
  try simp only [World.size_alloc, World.size_setCell, World.size_drew, size_drewN] at s11
  have bb_11 : Below w.heap.size w w11 := by
    repeat' (first | (with_reducible assumption) | (with_reducible exact Below.refl _ _) | (with_reducible refine Blk.after ?_ b11) | (with_reducible refine RowIn.belowS ?_ b11) | (with_reducible refine Below.after ?_ b11 ?_) | (with_reducible refine Blk.drewN ?_ _) | (with_reducible refine RowIn.drewN ?_ _) | (with_reducible refine below_drewN ?_ _) | (with_reducible refine Blk.drew ?_) | (with_reducible refine RowIn.drew ?_) | (with_reducible refine Below.drew ?_) | (with_reducible refine Blk.new' ?_ ?_ <;> first | (with_reducible rfl) | (simp; done)) | (with_reducible refine Blk.alloc ?_ _) | (with_reducible refine RowIn.alloc ?_ _) | (with_reducible refine Below.alloc ?_ ?_ _) | (with_reducible apply Blk.set') | (with_reducible apply Blk.far') | (with_reducible refine RowIn.far' ?_ ?_ _) | (with_reducible refine Below.far' ?_ ?_ _) | rfl | omega | go_size)
  clear zj_10 zl_10 zq_10 ro_10 bb_10 kj_10 fj_10 lj_10 kl_10 fl_10 ll_10 kq_10 fq_10 lq_10 b11
  go_wp2
  go_ret
  refine ⟨rfl, ?_⟩
  repeat' (first | (with_reducible assumption) | (with_reducible exact Below.refl _ _) | (with_reducible refine Blk.drewN ?_ _) | (with_reducible refine RowIn.drewN ?_ _) | (with_reducible refine below_drewN ?_ _) | (with_reducible refine Blk.drew ?_) | (with_reducible refine RowIn.drew ?_) | (with_reducible refine Below.drew ?_) | (with_reducible refine Blk.new' ?_ ?_ <;> first | (with_reducible rfl) | (simp; done)) | (with_reducible refine Blk.alloc ?_ _) | (with_reducible refine RowIn.alloc ?_ _) | (with_reducible refine Below.alloc ?_ ?_ _) | (with_reducible apply Blk.set') | (with_reducible apply Blk.far') | (with_reducible refine RowIn.far' ?_ ?_ _) | (with_reducible refine Below.far' ?_ ?_ _) | rfl | omega | go_size)


end Go.Proofs.Ytncmnfnminjchaa
