/-
  The walk of CoderNames.
-/
import Derived.Test.YtppilidcjlnmoaaDoorCodM
namespace Go.Proofs.YtppilidcjlnmoaaDoor
open Go.RowKit Cad Cad.Bit Cad.Code
set_option linter.unusedVariables false
set_option linter.unusedSimpArgs false


theorem row_mk9 {k : IntKind} {w : World} {n : Nat} {e : TypeId} {g : Nat} (hg : g = w.heap.size) : Row k (w.alloc (.cells (zeroRow k n) e)) (some ⟨g, 0, none⟩) n (zeros n) := by
  subst hg
  have h := row_new k w (zeros n) e
  rw [zeros_len] at h
  exact h
theorem not_valid9 : ¬ Valid [] 1 := by decide
theorem wrong9 : decR (lowBits 562949953421311 49 ++ lowBits 5 32) 1 = ([], 0, 12) := by decide +kernel


set_option maxRecDepth 100000 in
set_option maxHeartbeats 8000000 in
theorem lawCoderNames (w : World) (ht : Tab w)  :
    Calls Tryd.prog 12 #[] w fun e w' => e = .returned (.bool true) ∧ Below w.heap.size w w' := by
  have hti : RowIn .u8 w 0 w.heap.size (some ⟨0, 0, none⟩) 64 dbTab := ht.rowIn
  have hmk : ∀ W, (Instr.makeSlice 27 (.int .i64 4001) (.int .i64 4001)).run Tryd.prog W = .ok (.slice (some ⟨W.heap.size, 0, none⟩) 4001 4001) (W.alloc (.cells (zeroRow .u32 4001) 55)) := fun W => run_mk u32E 4001 (by omega) .i64 .i64 W
  go_enter Tryd.func12, Tryd.ntmps12
  go_wp2_with fail
  refine (cenc_many _ 4001 4001 _ (by omega)).mono ?_
  rintro e w1 ⟨Aa, ma, ca, xa, rfl, hca, ra, HXa, b1⟩
  replace ra := ra.mono (lo' := w.heap.size + 0) (by go_size) (Nat.le_refl _)
  have s1 := b1.size
  try simp only [World.size_alloc, World.size_setCell, World.size_drew, size_drewN] at s1
  obtain ⟨rt_1, ra_1, bb_1⟩ : RowIn .u8 w1 (0) (w.heap.size) (some ⟨0, 0, none⟩) 64 dbTab ∧ RowIn .u8 w1 (w.heap.size + 0) (w1.heap.size) Aa ma (pack xa) ∧ Below w.heap.size w w1 := by
    refine ⟨?_, ?_, ?_⟩
    all_goals repeat' (first | (with_reducible assumption) | (with_reducible exact Below.refl _ _) | (with_reducible refine Blk.drewN ?_ _) | (with_reducible refine RowIn.drewN ?_ _) | (with_reducible refine below_drewN ?_ _) | (with_reducible refine Blk.drew ?_) | (with_reducible refine RowIn.drew ?_) | (with_reducible refine Below.drew ?_) | (with_reducible refine Blk.new' ?_ ?_ <;> first | (with_reducible rfl) | (simp; done)) | (with_reducible refine Blk.alloc ?_ _) | (with_reducible refine RowIn.alloc ?_ _) | (with_reducible refine Below.alloc ?_ ?_ _) | (with_reducible apply Blk.set') | (with_reducible apply Blk.far') | (with_reducible refine RowIn.far' ?_ ?_ _) | (with_reducible refine Below.far' ?_ ?_ _) | (with_reducible refine Blk.after ?_ b1) | (with_reducible refine RowIn.belowS ?_ b1) | (with_reducible refine Below.after ?_ b1 ?_) | rfl | omega | go_size)
  clear b1
  clear ra
  go_wp2_with fail
  refine (cafter_many _ 4001 4001 _ (by omega)).mono ?_
  rintro e w2 ⟨u0, u1, v0, v1, rfl, HSb, b2⟩
  have s2 := b2.size
  try simp only [World.size_alloc, World.size_setCell, World.size_drew, size_drewN] at s2
  obtain ⟨rt_2, bb_2⟩ : RowIn .u8 w2 (0) (w.heap.size) (some ⟨0, 0, none⟩) 64 dbTab ∧ Below w.heap.size w w2 := by
    refine ⟨?_, ?_⟩
    all_goals repeat' (first | (with_reducible assumption) | (with_reducible exact Below.refl _ _) | (with_reducible refine Blk.drewN ?_ _) | (with_reducible refine RowIn.drewN ?_ _) | (with_reducible refine below_drewN ?_ _) | (with_reducible refine Blk.drew ?_) | (with_reducible refine RowIn.drew ?_) | (with_reducible refine Below.drew ?_) | (with_reducible refine Blk.new' ?_ ?_ <;> first | (with_reducible rfl) | (simp; done)) | (with_reducible refine Blk.alloc ?_ _) | (with_reducible refine RowIn.alloc ?_ _) | (with_reducible refine Below.alloc ?_ ?_ _) | (with_reducible apply Blk.set') | (with_reducible apply Blk.far') | (with_reducible refine RowIn.far' ?_ ?_ _) | (with_reducible refine Below.far' ?_ ?_ _) | (with_reducible refine Blk.after ?_ b2) | (with_reducible refine RowIn.belowS ?_ b2) | (with_reducible refine Below.after ?_ b2 ?_) | rfl | omega | go_size)
  clear rt_1 ra_1 bb_1 b2
  clear HSb hmk
  go_wp2_with fail
  refine (cdec_bad none 0 0 1 [] (-1) _ Row.nil (by intro x hx; cases hx) ⟨Nat.le_refl _, Nat.zero_le _⟩ not_valid9).mono ?_
  rintro e w3 ⟨Ac, mc, cc, yc, rfl, hcc, rc, HYc, b3⟩
  have lnc := rc.len
  replace rc := rc.mono (lo' := w2.heap.size + 0) (by go_size) (Nat.le_refl _)
  have s3 := b3.size
  try simp only [World.size_alloc, World.size_setCell, World.size_drew, size_drewN] at s3
  obtain ⟨rt_3, rc_3, bb_3⟩ : RowIn .u8 w3 (0) (w.heap.size) (some ⟨0, 0, none⟩) 64 dbTab ∧ RowIn .u32 w3 (w2.heap.size + 0) (w3.heap.size) Ac mc yc ∧ Below w.heap.size w w3 := by
    refine ⟨?_, ?_, ?_⟩
    all_goals repeat' (first | (with_reducible assumption) | (with_reducible exact Below.refl _ _) | (with_reducible refine Blk.drewN ?_ _) | (with_reducible refine RowIn.drewN ?_ _) | (with_reducible refine below_drewN ?_ _) | (with_reducible refine Blk.drew ?_) | (with_reducible refine RowIn.drew ?_) | (with_reducible refine Below.drew ?_) | (with_reducible refine Blk.new' ?_ ?_ <;> first | (with_reducible rfl) | (simp; done)) | (with_reducible refine Blk.alloc ?_ _) | (with_reducible refine RowIn.alloc ?_ _) | (with_reducible refine Below.alloc ?_ ?_ _) | (with_reducible apply Blk.set') | (with_reducible apply Blk.far') | (with_reducible refine RowIn.far' ?_ ?_ _) | (with_reducible refine Below.far' ?_ ?_ _) | (with_reducible refine Blk.after ?_ b3) | (with_reducible refine RowIn.belowS ?_ b3) | (with_reducible refine Below.after ?_ b3 ?_) | rfl | omega | go_size)
  clear rt_2 bb_2 b3
  clear rc
  go_wp2_with fail
  refine (cdec_c none 0 0 [] (-1) [] 0 2 _ Row.nil ⟨Nat.le_refl _, Nat.zero_le _⟩ (by simp) (by omega) (by exact RowIn.row (lo := 0) (hi := w.heap.size) (by repeat' (first | (with_reducible assumption) | (with_reducible exact Below.refl _ _) | (with_reducible refine Blk.drewN ?_ _) | (with_reducible refine RowIn.drewN ?_ _) | (with_reducible refine below_drewN ?_ _) | (with_reducible refine Blk.drew ?_) | (with_reducible refine RowIn.drew ?_) | (with_reducible refine Below.drew ?_) | (with_reducible refine Blk.new' ?_ ?_ <;> first | (with_reducible rfl) | (simp; done)) | (with_reducible refine Blk.alloc ?_ _) | (with_reducible refine RowIn.alloc ?_ _) | (with_reducible refine Below.alloc ?_ ?_ _) | (with_reducible apply Blk.set') | (with_reducible apply Blk.far') | (with_reducible refine RowIn.far' ?_ ?_ _) | (with_reducible refine Below.far' ?_ ?_ _) | rfl | omega | go_size))) (by decide)).mono ?_
  rintro e w4 ⟨Ad, md, cd, yd, rfl, hcd, rd, HYd, b4⟩
  have lnd := rd.len
  replace rd := rd.mono (lo' := w3.heap.size + 0) (by go_size) (Nat.le_refl _)
  have s4 := b4.size
  try simp only [World.size_alloc, World.size_setCell, World.size_drew, size_drewN] at s4
  obtain ⟨rt_4, rd_4, bb_4⟩ : RowIn .u8 w4 (0) (w.heap.size) (some ⟨0, 0, none⟩) 64 dbTab ∧ RowIn .u32 w4 (w3.heap.size + 0) (w4.heap.size) Ad md yd ∧ Below w.heap.size w w4 := by
    refine ⟨?_, ?_, ?_⟩
    all_goals repeat' (first | (with_reducible assumption) | (with_reducible exact Below.refl _ _) | (with_reducible refine Blk.drewN ?_ _) | (with_reducible refine RowIn.drewN ?_ _) | (with_reducible refine below_drewN ?_ _) | (with_reducible refine Blk.drew ?_) | (with_reducible refine RowIn.drew ?_) | (with_reducible refine Below.drew ?_) | (with_reducible refine Blk.new' ?_ ?_ <;> first | (with_reducible rfl) | (simp; done)) | (with_reducible refine Blk.alloc ?_ _) | (with_reducible refine RowIn.alloc ?_ _) | (with_reducible refine Below.alloc ?_ ?_ _) | (with_reducible apply Blk.set') | (with_reducible apply Blk.far') | (with_reducible refine RowIn.far' ?_ ?_ _) | (with_reducible refine Below.far' ?_ ?_ _) | (with_reducible refine Blk.after ?_ b4) | (with_reducible refine RowIn.belowS ?_ b4) | (with_reducible refine Below.after ?_ b4 ?_) | rfl | omega | go_size)
  clear rt_3 rc_3 bb_3 b4
  clear rd
  go_wp2_with fail
  refine (cdec_c none 0 0 [] 4001 [] 0 4 _ Row.nil ⟨Nat.le_refl _, Nat.zero_le _⟩ (by simp) (by omega) (by exact RowIn.row (lo := 0) (hi := w.heap.size) (by repeat' (first | (with_reducible assumption) | (with_reducible exact Below.refl _ _) | (with_reducible refine Blk.drewN ?_ _) | (with_reducible refine RowIn.drewN ?_ _) | (with_reducible refine below_drewN ?_ _) | (with_reducible refine Blk.drew ?_) | (with_reducible refine RowIn.drew ?_) | (with_reducible refine Below.drew ?_) | (with_reducible refine Blk.new' ?_ ?_ <;> first | (with_reducible rfl) | (simp; done)) | (with_reducible refine Blk.alloc ?_ _) | (with_reducible refine RowIn.alloc ?_ _) | (with_reducible refine Below.alloc ?_ ?_ _) | (with_reducible apply Blk.set') | (with_reducible apply Blk.far') | (with_reducible refine RowIn.far' ?_ ?_ _) | (with_reducible refine Below.far' ?_ ?_ _) | rfl | omega | go_size))) (by decide)).mono ?_
  rintro e w5 ⟨Ae, me, ce, ye, rfl, hce, re, HYe, b5⟩
  have lne := re.len
  replace re := re.mono (lo' := w4.heap.size + 0) (by go_size) (Nat.le_refl _)
  have s5 := b5.size
  try simp only [World.size_alloc, World.size_setCell, World.size_drew, size_drewN] at s5
  obtain ⟨rt_5, re_5, bb_5⟩ : RowIn .u8 w5 (0) (w.heap.size) (some ⟨0, 0, none⟩) 64 dbTab ∧ RowIn .u32 w5 (w4.heap.size + 0) (w5.heap.size) Ae me ye ∧ Below w.heap.size w w5 := by
    refine ⟨?_, ?_, ?_⟩
    all_goals repeat' (first | (with_reducible assumption) | (with_reducible exact Below.refl _ _) | (with_reducible refine Blk.drewN ?_ _) | (with_reducible refine RowIn.drewN ?_ _) | (with_reducible refine below_drewN ?_ _) | (with_reducible refine Blk.drew ?_) | (with_reducible refine RowIn.drew ?_) | (with_reducible refine Below.drew ?_) | (with_reducible refine Blk.new' ?_ ?_ <;> first | (with_reducible rfl) | (simp; done)) | (with_reducible refine Blk.alloc ?_ _) | (with_reducible refine RowIn.alloc ?_ _) | (with_reducible refine Below.alloc ?_ ?_ _) | (with_reducible apply Blk.set') | (with_reducible apply Blk.far') | (with_reducible refine RowIn.far' ?_ ?_ _) | (with_reducible refine Below.far' ?_ ?_ _) | (with_reducible refine Blk.after ?_ b5) | (with_reducible refine RowIn.belowS ?_ b5) | (with_reducible refine Below.after ?_ b5 ?_) | rfl | omega | go_size)
  clear rt_4 rd_4 bb_4 b5
  clear re
  go_wp2_with fail
  refine (cdec_c none 0 0 [] 1 [] 0 24 _ Row.nil ⟨Nat.le_refl _, Nat.zero_le _⟩ (by simp) (by omega) (by exact RowIn.row (lo := 0) (hi := w.heap.size) (by repeat' (first | (with_reducible assumption) | (with_reducible exact Below.refl _ _) | (with_reducible refine Blk.drewN ?_ _) | (with_reducible refine RowIn.drewN ?_ _) | (with_reducible refine below_drewN ?_ _) | (with_reducible refine Blk.drew ?_) | (with_reducible refine RowIn.drew ?_) | (with_reducible refine Below.drew ?_) | (with_reducible refine Blk.new' ?_ ?_ <;> first | (with_reducible rfl) | (simp; done)) | (with_reducible refine Blk.alloc ?_ _) | (with_reducible refine RowIn.alloc ?_ _) | (with_reducible refine Below.alloc ?_ ?_ _) | (with_reducible apply Blk.set') | (with_reducible apply Blk.far') | (with_reducible refine RowIn.far' ?_ ?_ _) | (with_reducible refine Below.far' ?_ ?_ _) | rfl | omega | go_size))) (by decide)).mono ?_
  rintro e w6 ⟨Af, mf, cf, yf, rfl, hcf, rf, HYf, b6⟩
  have lnf := rf.len
  replace rf := rf.mono (lo' := w5.heap.size + 0) (by go_size) (Nat.le_refl _)
  have s6 := b6.size
  try simp only [World.size_alloc, World.size_setCell, World.size_drew, size_drewN] at s6
  obtain ⟨rt_6, rf_6, bb_6⟩ : RowIn .u8 w6 (0) (w.heap.size) (some ⟨0, 0, none⟩) 64 dbTab ∧ RowIn .u32 w6 (w5.heap.size + 0) (w6.heap.size) Af mf yf ∧ Below w.heap.size w w6 := by
    refine ⟨?_, ?_, ?_⟩
    all_goals repeat' (first | (with_reducible assumption) | (with_reducible exact Below.refl _ _) | (with_reducible refine Blk.drewN ?_ _) | (with_reducible refine RowIn.drewN ?_ _) | (with_reducible refine below_drewN ?_ _) | (with_reducible refine Blk.drew ?_) | (with_reducible refine RowIn.drew ?_) | (with_reducible refine Below.drew ?_) | (with_reducible refine Blk.new' ?_ ?_ <;> first | (with_reducible rfl) | (simp; done)) | (with_reducible refine Blk.alloc ?_ _) | (with_reducible refine RowIn.alloc ?_ _) | (with_reducible refine Below.alloc ?_ ?_ _) | (with_reducible apply Blk.set') | (with_reducible apply Blk.far') | (with_reducible refine RowIn.far' ?_ ?_ _) | (with_reducible refine Below.far' ?_ ?_ _) | (with_reducible refine Blk.after ?_ b6) | (with_reducible refine RowIn.belowS ?_ b6) | (with_reducible refine Below.after ?_ b6 ?_) | rfl | omega | go_size)
  clear rt_5 re_5 bb_5 b6
  clear rf
  go_wp2_with fail
  refine (cdec_c none 0 0 [] 0 [] 0 0 _ Row.nil ⟨Nat.le_refl _, Nat.zero_le _⟩ (by simp) (by omega) (by exact RowIn.row (lo := 0) (hi := w.heap.size) (by repeat' (first | (with_reducible assumption) | (with_reducible exact Below.refl _ _) | (with_reducible refine Blk.drewN ?_ _) | (with_reducible refine RowIn.drewN ?_ _) | (with_reducible refine below_drewN ?_ _) | (with_reducible refine Blk.drew ?_) | (with_reducible refine RowIn.drew ?_) | (with_reducible refine Below.drew ?_) | (with_reducible refine Blk.new' ?_ ?_ <;> first | (with_reducible rfl) | (simp; done)) | (with_reducible refine Blk.alloc ?_ _) | (with_reducible refine RowIn.alloc ?_ _) | (with_reducible refine Below.alloc ?_ ?_ _) | (with_reducible apply Blk.set') | (with_reducible apply Blk.far') | (with_reducible refine RowIn.far' ?_ ?_ _) | (with_reducible refine Below.far' ?_ ?_ _) | rfl | omega | go_size))) (by decide)).mono ?_
  rintro e w7 ⟨Ag, mg, cg, yg, rfl, hcg, rg, HYg, b7⟩
  have lng := rg.len
  replace rg := rg.mono (lo' := w6.heap.size + 0) (by go_size) (Nat.le_refl _)
  have s7 := b7.size
  try simp only [World.size_alloc, World.size_setCell, World.size_drew, size_drewN] at s7
  obtain ⟨rt_7, rg_7, bb_7⟩ : RowIn .u8 w7 (0) (w.heap.size) (some ⟨0, 0, none⟩) 64 dbTab ∧ RowIn .u32 w7 (w6.heap.size + 0) (w7.heap.size) Ag mg yg ∧ Below w.heap.size w w7 := by
    refine ⟨?_, ?_, ?_⟩
    all_goals repeat' (first | (with_reducible assumption) | (with_reducible exact Below.refl _ _) | (with_reducible refine Blk.drewN ?_ _) | (with_reducible refine RowIn.drewN ?_ _) | (with_reducible refine below_drewN ?_ _) | (with_reducible refine Blk.drew ?_) | (with_reducible refine RowIn.drew ?_) | (with_reducible refine Below.drew ?_) | (with_reducible refine Blk.new' ?_ ?_ <;> first | (with_reducible rfl) | (simp; done)) | (with_reducible refine Blk.alloc ?_ _) | (with_reducible refine RowIn.alloc ?_ _) | (with_reducible refine Below.alloc ?_ ?_ _) | (with_reducible apply Blk.set') | (with_reducible apply Blk.far') | (with_reducible refine RowIn.far' ?_ ?_ _) | (with_reducible refine Below.far' ?_ ?_ _) | (with_reducible refine Blk.after ?_ b7) | (with_reducible refine RowIn.belowS ?_ b7) | (with_reducible refine Below.after ?_ b7 ?_) | rfl | omega | go_size)
  clear rt_6 rf_6 bb_6 b7
  clear rg
  go_wp2_with fail
  obtain rfl : mg = 0 := by rw [← lng, HYg.out]; rfl
  refine (cenc_c none 0 0 [] [] _ Row.nil (by intro x hx; cases hx) (by omega) rfl).mono ?_
  rintro e w8 ⟨Ah, mh, ch, xh, rfl, hch, rh, HXh, b8⟩
  have Lh : xh.length ≤ 0 ∧ 0 ≤ xh.length := by rw [HXh.out]; simp
  obtain ⟨Lh1, Lh2⟩ := Lh
  replace rh := rh.mono (lo' := w7.heap.size + 0) (by go_size) (Nat.le_refl _)
  have s8 := b8.size
  try simp only [World.size_alloc, World.size_setCell, World.size_drew, size_drewN] at s8
  obtain ⟨rt_8, rh_8, bb_8⟩ : RowIn .u8 w8 (0) (w.heap.size) (some ⟨0, 0, none⟩) 64 dbTab ∧ RowIn .u8 w8 (w7.heap.size + 0) (w8.heap.size) Ah mh (pack xh) ∧ Below w.heap.size w w8 := by
    refine ⟨?_, ?_, ?_⟩
    all_goals repeat' (first | (with_reducible assumption) | (with_reducible exact Below.refl _ _) | (with_reducible refine Blk.drewN ?_ _) | (with_reducible refine RowIn.drewN ?_ _) | (with_reducible refine below_drewN ?_ _) | (with_reducible refine Blk.drew ?_) | (with_reducible refine RowIn.drew ?_) | (with_reducible refine Below.drew ?_) | (with_reducible refine Blk.new' ?_ ?_ <;> first | (with_reducible rfl) | (simp; done)) | (with_reducible refine Blk.alloc ?_ _) | (with_reducible refine RowIn.alloc ?_ _) | (with_reducible refine Below.alloc ?_ ?_ _) | (with_reducible apply Blk.set') | (with_reducible apply Blk.far') | (with_reducible refine RowIn.far' ?_ ?_ _) | (with_reducible refine Below.far' ?_ ?_ _) | (with_reducible refine Blk.after ?_ b8) | (with_reducible refine RowIn.belowS ?_ b8) | (with_reducible refine Below.after ?_ b8 ?_) | rfl | omega | go_size)
  clear rt_7 rg_7 bb_7 b8
  clear rh
  go_wp2_with fail
  refine (cafter_ok none 0 0 [] _ Row.nil (by intro x hx; cases hx) (by omega)).mono ?_
  rintro e w9 ⟨p0, p1, q0, q1, rfl, HSi, b9⟩
  have s9 := b9.size
  try simp only [World.size_alloc, World.size_setCell, World.size_drew, size_drewN] at s9
  obtain ⟨zh_9, rt_9, bb_9⟩ : Blk w9 (w8.heap.size) 24 [.slice Ah mh ch, .int .i64 ((xh.length : Nat) : Int)] ∧ RowIn .u8 w9 (0) (w.heap.size) (some ⟨0, 0, none⟩) 64 dbTab ∧ Below w.heap.size w w9 := by
    refine ⟨?_, ?_, ?_⟩
    all_goals repeat' (first | (with_reducible assumption) | (with_reducible exact Below.refl _ _) | (with_reducible refine Blk.drewN ?_ _) | (with_reducible refine RowIn.drewN ?_ _) | (with_reducible refine below_drewN ?_ _) | (with_reducible refine Blk.drew ?_) | (with_reducible refine RowIn.drew ?_) | (with_reducible refine Below.drew ?_) | (with_reducible refine Blk.new' ?_ ?_ <;> first | (with_reducible rfl) | (simp; done)) | (with_reducible refine Blk.alloc ?_ _) | (with_reducible refine RowIn.alloc ?_ _) | (with_reducible refine Below.alloc ?_ ?_ _) | (with_reducible apply Blk.set') | (with_reducible apply Blk.far') | (with_reducible refine RowIn.far' ?_ ?_ _) | (with_reducible refine Below.far' ?_ ?_ _) | (with_reducible refine Blk.after ?_ b9) | (with_reducible refine RowIn.belowS ?_ b9) | (with_reducible refine Below.after ?_ b9 ?_) | rfl | omega | go_size)
  clear rt_8 rh_8 bb_8 b9
  have kh_9 := zh_9.cell; have fh_9 := zh_9.frozen; have lh_9 := zh_9.lt
  have hs := HSi.out
  injection hs with hs0 hs1 hs2 hs3
  obtain rfl : p0 = 10 := hs0
  obtain rfl : p1 = 10 := hs1
  obtain rfl : q0 = 16384 := hs2
  obtain rfl : q1 = 16384 := hs3
  clear HSi
  go_wp2_with fail
  refine (bput_ok none 0 0 [] 562949953421311 49 _ Row.nil ⟨Nat.le_refl _, Nat.zero_le _⟩ (by omega) (by omega) (by decide) (by simp)).mono ?_
  rintro e w10 ⟨Ay, my, cy, xy, rfl, hcy, ry, HXy, b10⟩
  have Ly : xy.length ≤ 49 ∧ 49 ≤ xy.length := by rw [HXy.out]; simp
  obtain ⟨Ly1, Ly2⟩ := Ly
  replace ry := ry.mono (lo' := w9.heap.size + 1) (by go_size) (Nat.le_refl _)
  have s10 := b10.size
  try simp only [World.size_alloc, World.size_setCell, World.size_drew, size_drewN] at s10
  obtain ⟨zh_10, zi_10, rt_10, ry_10, bb_10⟩ : Blk w10 (w8.heap.size) 24 [.slice Ah mh ch, .int .i64 ((xh.length : Nat) : Int)] ∧ Blk w10 (w9.heap.size) 38 [.int .i64 (10 : Int), .int .i64 (10 : Int), .int .u64 (16384 : Int), .int .u64 (16384 : Int)] ∧ RowIn .u8 w10 (0) (w.heap.size) (some ⟨0, 0, none⟩) 64 dbTab ∧ RowIn .u8 w10 (w9.heap.size + 1) (w10.heap.size) Ay my (pack xy) ∧ Below w.heap.size w w10 := by
    refine ⟨?_, ?_, ?_, ?_, ?_⟩
    all_goals repeat' (first | (with_reducible assumption) | (with_reducible exact Below.refl _ _) | (with_reducible refine Blk.drewN ?_ _) | (with_reducible refine RowIn.drewN ?_ _) | (with_reducible refine below_drewN ?_ _) | (with_reducible refine Blk.drew ?_) | (with_reducible refine RowIn.drew ?_) | (with_reducible refine Below.drew ?_) | (with_reducible refine Blk.new' ?_ ?_ <;> first | (with_reducible rfl) | (simp; done)) | (with_reducible refine Blk.alloc ?_ _) | (with_reducible refine RowIn.alloc ?_ _) | (with_reducible refine Below.alloc ?_ ?_ _) | (with_reducible apply Blk.set') | (with_reducible apply Blk.far') | (with_reducible refine RowIn.far' ?_ ?_ _) | (with_reducible refine Below.far' ?_ ?_ _) | (with_reducible refine Blk.after ?_ b10) | (with_reducible refine RowIn.belowS ?_ b10) | (with_reducible refine Below.after ?_ b10 ?_) | rfl | omega | go_size)
  clear zh_9 rt_9 bb_9 kh_9 fh_9 lh_9 b10
  have kh_10 := zh_10.cell; have fh_10 := zh_10.frozen; have lh_10 := zh_10.lt
  have ki_10 := zi_10.cell; have fi_10 := zi_10.frozen; have li_10 := zi_10.lt
  clear ry
  go_wp2_with fail
  refine (bput_ok Ay my cy xy 5 32 _ (by exact RowIn.row (lo := w9.heap.size + 1) (hi := w10.heap.size) (by repeat' (first | (with_reducible assumption) | (with_reducible exact Below.refl _ _) | (with_reducible refine Blk.drewN ?_ _) | (with_reducible refine RowIn.drewN ?_ _) | (with_reducible refine below_drewN ?_ _) | (with_reducible refine Blk.drew ?_) | (with_reducible refine RowIn.drew ?_) | (with_reducible refine Below.drew ?_) | (with_reducible refine Blk.new' ?_ ?_ <;> first | (with_reducible rfl) | (simp; done)) | (with_reducible refine Blk.alloc ?_ _) | (with_reducible refine RowIn.alloc ?_ _) | (with_reducible refine Below.alloc ?_ ?_ _) | (with_reducible apply Blk.set') | (with_reducible apply Blk.far') | (with_reducible refine RowIn.far' ?_ ?_ _) | (with_reducible refine Below.far' ?_ ?_ _) | rfl | omega | go_size))) hcy (by omega) (by omega) (by decide) (by omega)).mono ?_
  rintro e w11 ⟨Au, mu, cu, xu, rfl, hcu, ru, HXu, b11⟩
  have Lu : xu.length ≤ 81 ∧ 81 ≤ xu.length := by rw [HXu.out]; rw [List.length_append, lowBits_len]; show _ ∧ _; omega
  obtain ⟨Lu1, Lu2⟩ := Lu
  replace ru := ru.mono (lo' := w10.heap.size + 1) (by go_size) (Nat.le_refl _)
  have s11 := b11.size
  try simp only [World.size_alloc, World.size_setCell, World.size_drew, size_drewN] at s11
  obtain ⟨zh_11, zi_11, zy_11, rt_11, ry_11, ru_11, bb_11⟩ : Blk w11 (w8.heap.size) 24 [.slice Ah mh ch, .int .i64 ((xh.length : Nat) : Int)] ∧ Blk w11 (w9.heap.size) 38 [.int .i64 (10 : Int), .int .i64 (10 : Int), .int .u64 (16384 : Int), .int .u64 (16384 : Int)] ∧ Blk w11 (w10.heap.size) 24 [.slice Ay my cy, .int .i64 ((xy.length : Nat) : Int)] ∧ RowIn .u8 w11 (0) (w.heap.size) (some ⟨0, 0, none⟩) 64 dbTab ∧ RowIn .u8 w11 (w9.heap.size + 1) (w10.heap.size) Ay my (pack xy) ∧ RowIn .u8 w11 (w10.heap.size + 1) (w11.heap.size) Au mu (pack xu) ∧ Below w.heap.size w w11 := by
    refine ⟨?_, ?_, ?_, ?_, ?_, ?_, ?_⟩
    all_goals repeat' (first | (with_reducible assumption) | (with_reducible exact Below.refl _ _) | (with_reducible refine Blk.drewN ?_ _) | (with_reducible refine RowIn.drewN ?_ _) | (with_reducible refine below_drewN ?_ _) | (with_reducible refine Blk.drew ?_) | (with_reducible refine RowIn.drew ?_) | (with_reducible refine Below.drew ?_) | (with_reducible refine Blk.new' ?_ ?_ <;> first | (with_reducible rfl) | (simp; done)) | (with_reducible refine Blk.alloc ?_ _) | (with_reducible refine RowIn.alloc ?_ _) | (with_reducible refine Below.alloc ?_ ?_ _) | (with_reducible apply Blk.set') | (with_reducible apply Blk.far') | (with_reducible refine RowIn.far' ?_ ?_ _) | (with_reducible refine Below.far' ?_ ?_ _) | (with_reducible refine Blk.after ?_ b11) | (with_reducible refine RowIn.belowS ?_ b11) | (with_reducible refine Below.after ?_ b11 ?_) | rfl | omega | go_size)
  clear zh_10 zi_10 rt_10 ry_10 bb_10 kh_10 fh_10 lh_10 ki_10 fi_10 li_10 b11
  have kh_11 := zh_11.cell; have fh_11 := zh_11.frozen; have lh_11 := zh_11.lt
  have ki_11 := zi_11.cell; have fi_11 := zi_11.frozen; have li_11 := zi_11.lt
  have ky_11 := zy_11.cell; have fy_11 := zy_11.frozen; have ly_11 := zy_11.lt
  clear ru
  have HRE : Hid (decR xu 1 = ([], 0, 12)) := Lib.hid (by rw [HXu.out, HXy.out]; exact wrong9)
  go_wp2_with fail
  refine (cdec_c Au mu cu xu 1 [] 0 12 _ (by exact RowIn.row (lo := w10.heap.size + 1) (hi := w11.heap.size) (by repeat' (first | (with_reducible assumption) | (with_reducible exact Below.refl _ _) | (with_reducible refine Blk.drewN ?_ _) | (with_reducible refine RowIn.drewN ?_ _) | (with_reducible refine below_drewN ?_ _) | (with_reducible refine Blk.drew ?_) | (with_reducible refine RowIn.drew ?_) | (with_reducible refine Below.drew ?_) | (with_reducible refine Blk.new' ?_ ?_ <;> first | (with_reducible rfl) | (simp; done)) | (with_reducible refine Blk.alloc ?_ _) | (with_reducible refine RowIn.alloc ?_ _) | (with_reducible refine Below.alloc ?_ ?_ _) | (with_reducible apply Blk.set') | (with_reducible apply Blk.far') | (with_reducible refine RowIn.far' ?_ ?_ _) | (with_reducible refine Below.far' ?_ ?_ _) | rfl | omega | go_size))) hcu (by omega) (by omega) (by exact RowIn.row (lo := 0) (hi := w.heap.size) (by repeat' (first | (with_reducible assumption) | (with_reducible exact Below.refl _ _) | (with_reducible refine Blk.drewN ?_ _) | (with_reducible refine RowIn.drewN ?_ _) | (with_reducible refine below_drewN ?_ _) | (with_reducible refine Blk.drew ?_) | (with_reducible refine RowIn.drew ?_) | (with_reducible refine Below.drew ?_) | (with_reducible refine Blk.new' ?_ ?_ <;> first | (with_reducible rfl) | (simp; done)) | (with_reducible refine Blk.alloc ?_ _) | (with_reducible refine RowIn.alloc ?_ _) | (with_reducible refine Below.alloc ?_ ?_ _) | (with_reducible apply Blk.set') | (with_reducible apply Blk.far') | (with_reducible refine RowIn.far' ?_ ?_ _) | (with_reducible refine Below.far' ?_ ?_ _) | rfl | omega | go_size))) HRE.out).mono ?_
  rintro e w12 ⟨Al, ml, cl, yl, rfl, hcl, rl, HYl, b12⟩
  have lnl := rl.len
  replace rl := rl.mono (lo' := w11.heap.size + 0) (by go_size) (Nat.le_refl _)
  have s12 := b12.size
  try simp only [World.size_alloc, World.size_setCell, World.size_drew, size_drewN] at s12
  obtain ⟨zh_12, zi_12, zy_12, rt_12, ry_12, ru_12, rl_12, bb_12⟩ : Blk w12 (w8.heap.size) 24 [.slice Ah mh ch, .int .i64 ((xh.length : Nat) : Int)] ∧ Blk w12 (w9.heap.size) 38 [.int .i64 (10 : Int), .int .i64 (10 : Int), .int .u64 (16384 : Int), .int .u64 (16384 : Int)] ∧ Blk w12 (w10.heap.size) 24 [.slice Au mu cu, .int .i64 ((xu.length : Nat) : Int)] ∧ RowIn .u8 w12 (0) (w.heap.size) (some ⟨0, 0, none⟩) 64 dbTab ∧ RowIn .u8 w12 (w9.heap.size + 1) (w10.heap.size) Ay my (pack xy) ∧ RowIn .u8 w12 (w10.heap.size + 1) (w11.heap.size) Au mu (pack xu) ∧ RowIn .u32 w12 (w11.heap.size + 0) (w12.heap.size) Al ml yl ∧ Below w.heap.size w w12 := by
    refine ⟨?_, ?_, ?_, ?_, ?_, ?_, ?_, ?_⟩
    all_goals repeat' (first | (with_reducible assumption) | (with_reducible exact Below.refl _ _) | (with_reducible refine Blk.drewN ?_ _) | (with_reducible refine RowIn.drewN ?_ _) | (with_reducible refine below_drewN ?_ _) | (with_reducible refine Blk.drew ?_) | (with_reducible refine RowIn.drew ?_) | (with_reducible refine Below.drew ?_) | (with_reducible refine Blk.new' ?_ ?_ <;> first | (with_reducible rfl) | (simp; done)) | (with_reducible refine Blk.alloc ?_ _) | (with_reducible refine RowIn.alloc ?_ _) | (with_reducible refine Below.alloc ?_ ?_ _) | (with_reducible apply Blk.set') | (with_reducible apply Blk.far') | (with_reducible refine RowIn.far' ?_ ?_ _) | (with_reducible refine Below.far' ?_ ?_ _) | (with_reducible refine Blk.after ?_ b12) | (with_reducible refine RowIn.belowS ?_ b12) | (with_reducible refine Below.after ?_ b12 ?_) | rfl | omega | go_size)
  clear zh_11 zi_11 zy_11 rt_11 ry_11 ru_11 bb_11 kh_11 fh_11 lh_11 ki_11 fi_11 li_11 ky_11 fy_11 ly_11 b12
  have kh_12 := zh_12.cell; have fh_12 := zh_12.frozen; have lh_12 := zh_12.lt
  have ki_12 := zi_12.cell; have fi_12 := zi_12.frozen; have li_12 := zi_12.lt
  have ky_12 := zy_12.cell; have fy_12 := zy_12.frozen; have ly_12 := zy_12.lt
  clear rl
  have tl : (((xh.length : Nat) : Int) == 0) = true := beq_iff_eq.2 (by omega)
  go_wp2_with fail
  simp only [List.append_eq, List.cons_append, List.nil_append]
  have kh_12d := (Blk.drew zh_12).cell; have ki_12d := (Blk.drew zi_12).cell
  go_region_held3 (fun w' => (∀ a, w'.cell? ⟨w8.heap.size, a, none⟩ = [.slice Ah mh ch, .int .i64 ((xh.length : Nat) : Int)][a]?) ∧ (∀ a, w'.cell? ⟨w9.heap.size, a, none⟩ = [.int .i64 (10 : Int), .int .i64 (10 : Int), .int .u64 (16384 : Int), .int .u64 (16384 : Int)][a]?)) (first | with_reducible exact ⟨kh_12, ki_12⟩ | with_reducible exact ⟨kh_12d, ki_12d⟩ | with_reducible exact ⟨kh_13, ki_13⟩ | with_reducible exact ⟨kh_14, ki_14⟩) (first
    | (go_simp; go_at_call 47; refine (dstart_ok _).mono ?_
       rintro e w13 ⟨rfl, b13⟩
       have s13 : w12.heap.size ≤ w13.heap.size := b13.size
       have zh_13 := ((Blk.drew zh_12)).after b13; have kh_13 := zh_13.cell; have fh_13 := zh_13.frozen; have lh_13 := zh_13.lt
       have zi_13 := ((Blk.drew zi_12)).after b13; have ki_13 := zi_13.cell; have fi_13 := zi_13.frozen; have li_13 := zi_13.lt
       have rt_13 := ((RowIn.drew rt_12)).belowS b13
       have bb_13 := Below.after (Below.drew bb_12) b13 bb_12.size)
    | (go_simp; go_at_call 42; refine (alive09 _ rt_13.row).mono ?_
       rintro e w14 ⟨rfl, b14⟩
       have s14 : w13.heap.size ≤ w14.heap.size := b14.size
       have zh_14 := (zh_13).after b14; have kh_14 := zh_14.cell; have fh_14 := zh_14.frozen; have lh_14 := zh_14.lt
       have zi_14 := (zi_13).after b14; have ki_14 := zi_14.cell; have fi_14 := zi_14.frozen; have li_14 := zi_14.lt
       have rt_14 := (rt_13).belowS b14
       have bb_14 := Below.after bb_13 b14 bb_13.size))
  all_goals
    go_wp2
    go_ret
    refine ⟨rfl, ?_⟩
    repeat' (first | (with_reducible assumption) | (with_reducible exact Below.refl _ _) | (with_reducible refine Blk.drewN ?_ _) | (with_reducible refine RowIn.drewN ?_ _) | (with_reducible refine below_drewN ?_ _) | (with_reducible refine Blk.drew ?_) | (with_reducible refine RowIn.drew ?_) | (with_reducible refine Below.drew ?_) | (with_reducible refine Blk.new' ?_ ?_ <;> first | (with_reducible rfl) | (simp; done)) | (with_reducible refine Blk.alloc ?_ _) | (with_reducible refine RowIn.alloc ?_ _) | (with_reducible refine Below.alloc ?_ ?_ _) | (with_reducible apply Blk.set') | (with_reducible apply Blk.far') | (with_reducible refine RowIn.far' ?_ ?_ _) | (with_reducible refine Below.far' ?_ ?_ _) | rfl | omega | go_size)


end Go.Proofs.YtppilidcjlnmoaaDoor
