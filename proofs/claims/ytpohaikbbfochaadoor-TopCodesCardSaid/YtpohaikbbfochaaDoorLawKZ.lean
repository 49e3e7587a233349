/-
  The walk of TopCodes.
-/
import Derived.Test.YtpohaikbbfochaaDoorPk11
namespace Go.Proofs.YtpohaikbbfochaaDoor
open Go.RowKit Cad Cad.Bit Cad.Code Cad.Le Cad.Crc
set_option linter.unusedVariables false
set_option linter.unusedSimpArgs false


theorem RowIn.cellAt {k : IntKind} {w : World} {lo hi b o n j : Nat} {xs : List Int} {v : Int} (h : RowIn k w lo hi (some ⟨b, o, none⟩) n xs) (hj : j < n) (hv : nth xs j = v) : w.cell? ⟨b, o + j, none⟩ = some (.int k v) := by
  obtain ⟨b', o', e, _, _, hc⟩ := h.2 (by omega)
  injection e with e
  injection e with e1 e2 _
  subst e1 e2
  rw [hc j hj, hv]
theorem RowIn.one {k : IntKind} {w : World} {lo hi n i : Nat} {A : Option Addr} {xs : List Int} (h : RowIn k w lo hi A n xs) (hi' : i < n) : RowIn k w lo hi (A.map (·.add i)) 1 [nth xs i] := by
  obtain ⟨b, o, e, h1, h2, hc⟩ := h.2 (by omega)
  refine ⟨rfl, fun _ => ⟨b, o + i, by rw [e]; simp only [Option.map_some, Addr.add]; split <;> simp_all, h1, h2, fun j hj => ?_⟩⟩
  obtain rfl : j = 0 := by omega
  rw [Nat.add_zero, hc i hi']
  rfl
theorem row_grown {k : IntKind} {w w' : World} {lo hi : Nat} {A : Option Addr} {n : Nat} {xs : List Int} {row : Option Nat} (h : RowIn k w lo hi A n xs) (hg : w.grownBy w' row) (hr : ∀ g, row = some g → g < lo ∨ hi ≤ g) : RowIn k w' lo hi A n xs :=
  h.keep fun p h1 h2 h3 => World.cell?_of_block (hg.block _ h3 (fun e => by have := hr _ e.symm; omega))
theorem pick_both {k k' : IntKind} {w : World} {lo hi : Nat} {A B : Option Addr} {n m : Nat} {xs ys : List Int} (h : RowIn k w lo hi A n xs) (h' : RowIn k' w lo hi B m ys) : ∃ lo', lo ≤ lo' ∧ lo' ≤ lo ∧ RowIn k w lo' hi A n xs ∧ RowIn k' w lo' hi B m ys := ⟨lo, Nat.le_refl _, Nat.le_refl _, h, h'⟩
theorem one_within {x : Int} (h : 0 ≤ x ∧ x ≤ 255) : Within 0 255 [x] := by intro y hy; simp at hy; subst hy; exact h


set_option maxRecDepth 100000 in
set_option maxHeartbeats 16000000 in
theorem lawTopCodes (w : World) (ht : Tab w) (Al : Option Addr) (nl cl : Nat) (xsl : List Int) (hAl : RowC .u32 w Al nl cl xsl) (hxl : Within 0 4294967295 xsl) (ix : Int) (hix : -9223372036854775808 ≤ ix ∧ ix ≤ 9223372036854775807) :
    Calls Tryd.prog 4 #[.slice Al nl cl, .int .i64 ix] w fun e w' => e = .returned (.bool true) ∧ Below w.heap.size w w' := by
  have hal := hAl.row
  have hcl := hAl.2
  have hril := hal.rowIn
  have HLl := Lib.hid hal.len
  have hti : RowIn .u8 w 0 w.heap.size (some ⟨0, 0, none⟩) 64 dbTab := ht.rowIn
  go_enter Tryd.func4, Tryd.ntmps4
  go_wp2_with fail
  refine (alive12t _ (by exact RowIn.row (lo := 0) (hi := w.heap.size) (by repeat' (first | (with_reducible first | assumption | exact Below.refl _ _ | refine Blk.drewN ?_ _ | refine RowIn.drewN ?_ _ | refine below_drewN ?_ _ | refine Blk.drew ?_ | refine RowIn.drew ?_ | refine Below.drew ?_) | (with_reducible refine Blk.new' ?_ ?_ <;> first | (with_reducible rfl) | (simp; done)) | (with_reducible first | refine Blk.alloc ?_ _ | refine RowIn.alloc ?_ _ | refine Below.alloc ?_ ?_ _ | apply Blk.set' | apply Blk.far' | refine RowIn.far' ?_ ?_ _ | refine Below.far' ?_ ?_ _) | (exact (Eq.refl _ : (_ : List Value) = _)) | omega | go_size)))).mono ?_
  rintro e w1 ⟨rfl, b1⟩
  have s1 := b1.size
  try simp only [World.size_alloc, World.size_setCell, World.size_drew, size_drewN] at s1
  obtain ⟨rl_1, rt_1, bb_1⟩ : RowIn .u32 w1 (0) (w.heap.size) Al nl xsl ∧ RowIn .u8 w1 (0) (w.heap.size) (some ⟨0, 0, none⟩) 64 dbTab ∧ Below w.heap.size w w1 := by
    refine ⟨?_, ?_, ?_⟩
    all_goals repeat' (first | (with_reducible first | assumption | exact Below.refl _ _ | refine Blk.drewN ?_ _ | refine RowIn.drewN ?_ _ | refine below_drewN ?_ _ | refine Blk.drew ?_ | refine RowIn.drew ?_ | refine Below.drew ?_) | (with_reducible refine Blk.new' ?_ ?_ <;> first | (with_reducible rfl) | (simp; done)) | (with_reducible first | refine Blk.alloc ?_ _ | refine RowIn.alloc ?_ _ | refine Below.alloc ?_ ?_ _ | apply Blk.set' | apply Blk.far' | refine RowIn.far' ?_ ?_ _ | refine Below.far' ?_ ?_ _ | refine Blk.after ?_ b1 | refine RowIn.belowS ?_ b1 | refine Below.after ?_ b1 ?_) | (exact (Eq.refl _ : (_ : List Value) = _)) | omega | go_size)
  clear b1
  by_cases h0 : 40 < nl
  · have t0 : decide ((40 : Int) < (nl : Int)) = true := decide_eq_true (by omega)
    go_wp2
    go_ret
    refine ⟨rfl, ?_⟩
    repeat' (first | (with_reducible first | assumption | exact Below.refl _ _ | refine Blk.drewN ?_ _ | refine RowIn.drewN ?_ _ | refine below_drewN ?_ _ | refine Blk.drew ?_ | refine RowIn.drew ?_ | refine Below.drew ?_) | (with_reducible refine Blk.new' ?_ ?_ <;> first | (with_reducible rfl) | (simp; done)) | (with_reducible first | refine Blk.alloc ?_ _ | refine RowIn.alloc ?_ _ | refine Below.alloc ?_ ?_ _ | apply Blk.set' | apply Blk.far' | refine RowIn.far' ?_ ?_ _ | refine Below.far' ?_ ?_ _) | (exact (Eq.refl _ : (_ : List Value) = _)) | omega | go_size)
  have t0 : decide ((40 : Int) < (nl : Int)) = false := decide_eq_false (by omega)
  obtain ⟨L, HL⟩ : ∃ L, Hid (lenP Cad.Code.start xsl nl = L) := ⟨_, Lib.hid rfl⟩
  have hL := lenP_le start_ok hxl nl
  rw [HL.out] at hL
  obtain ⟨hL1, hL2⟩ := hL
  go_wp2_with fail
  refine (cenc_ok Al nl cl xsl _ (by exact RowIn.row (lo := 0) (hi := w.heap.size) (by repeat' (first | (with_reducible first | assumption | exact Below.refl _ _ | refine Blk.drewN ?_ _ | refine RowIn.drewN ?_ _ | refine below_drewN ?_ _ | refine Blk.drew ?_ | refine RowIn.drew ?_ | refine Below.drew ?_) | (with_reducible refine Blk.new' ?_ ?_ <;> first | (with_reducible rfl) | (simp; done)) | (with_reducible first | refine Blk.alloc ?_ _ | refine RowIn.alloc ?_ _ | refine Below.alloc ?_ ?_ _ | apply Blk.set' | apply Blk.far' | refine RowIn.far' ?_ ?_ _ | refine Below.far' ?_ ?_ _) | (exact (Eq.refl _ : (_ : List Value) = _)) | omega | go_size))) hxl (by omega)).mono ?_
  rintro e w2 ⟨Ab, mb, cb, xb, rfl, hcb, rb, HXb, b2⟩
  have Lb : xb.length ≤ L ∧ L ≤ xb.length := by rw [HXb.out]; rw [show (codeP Cad.Code.start xsl nl).length = L from HL.out]; exact ⟨Nat.le_refl _, Nat.le_refl _⟩
  obtain ⟨Lb1, Lb2⟩ := Lb
  replace rb := rb.mono (lo' := w1.heap.size + 0) (by go_size) (Nat.le_refl _)
  have s2 := b2.size
  try simp only [World.size_alloc, World.size_setCell, World.size_drew, size_drewN] at s2
  obtain ⟨rl_2, rt_2, rb_2, bb_2⟩ : RowIn .u32 w2 (0) (w.heap.size) Al nl xsl ∧ RowIn .u8 w2 (0) (w.heap.size) (some ⟨0, 0, none⟩) 64 dbTab ∧ RowIn .u8 w2 (w1.heap.size + 0) (w2.heap.size) Ab mb (pack xb) ∧ Below w.heap.size w w2 := by
    refine ⟨?_, ?_, ?_, ?_⟩
    all_goals repeat' (first | (with_reducible first | assumption | exact Below.refl _ _ | refine Blk.drewN ?_ _ | refine RowIn.drewN ?_ _ | refine below_drewN ?_ _ | refine Blk.drew ?_ | refine RowIn.drew ?_ | refine Below.drew ?_) | (with_reducible refine Blk.new' ?_ ?_ <;> first | (with_reducible rfl) | (simp; done)) | (with_reducible first | refine Blk.alloc ?_ _ | refine RowIn.alloc ?_ _ | refine Below.alloc ?_ ?_ _ | apply Blk.set' | apply Blk.far' | refine RowIn.far' ?_ ?_ _ | refine Below.far' ?_ ?_ _ | refine Blk.after ?_ b2 | refine RowIn.belowS ?_ b2 | refine Below.after ?_ b2 ?_) | (exact (Eq.refl _ : (_ : List Value) = _)) | omega | go_size)
  clear rl_1 rt_1 bb_1 b2
  clear rb
  have hmb := rb_2.len
  rw [pack_len] at hmb
  have HMB := Lib.hid hmb
  have hmb5 : mb ≤ 410 := by unfold bytesFor at hmb; omega
  clear hmb
  have HPL : Hid ((pack xb).length = mb) := Lib.hid (by rw [pack_len]; exact HMB.out)
  go_wp2_with fail
  refine (bpack_ok Ab mb cb xb _ (by exact RowIn.row (lo := w1.heap.size + 0) (hi := w2.heap.size) (by repeat' (first | (with_reducible first | assumption | exact Below.refl _ _ | refine Blk.drewN ?_ _ | refine RowIn.drewN ?_ _ | refine below_drewN ?_ _ | refine Blk.drew ?_ | refine RowIn.drew ?_ | refine Below.drew ?_) | (with_reducible refine Blk.new' ?_ ?_ <;> first | (with_reducible rfl) | (simp; done)) | (with_reducible first | refine Blk.alloc ?_ _ | refine RowIn.alloc ?_ _ | refine Below.alloc ?_ ?_ _ | apply Blk.set' | apply Blk.far' | refine RowIn.far' ?_ ?_ _ | refine Below.far' ?_ ?_ _) | (exact (Eq.refl _ : (_ : List Value) = _)) | omega | go_size))) hcb (by omega)).mono ?_
  rintro e w3 ⟨Ap, mp, cp, xp, rfl, hcp, rp, HXp, b3⟩
  have LNp := rp.len
  have Lp : mp ≤ mb + 4 ∧ mb + 4 ≤ mp := by rw [← LNp, HXp.out]; rw [sealed_len, HPL.out]; omega
  obtain ⟨Lp1, Lp2⟩ := Lp
  replace LNp := Lib.hid LNp
  replace rp := rp.mono (lo' := w2.heap.size + 1) (by go_size) (Nat.le_refl _)
  have s3 := b3.size
  try simp only [World.size_alloc, World.size_setCell, World.size_drew, size_drewN] at s3
  obtain ⟨zb_3, rl_3, rt_3, rb_3, rp_3, bb_3⟩ : Blk w3 (w2.heap.size) 26 [.slice Ab mb cb, .int .i64 ((xb.length : Nat) : Int)] ∧ RowIn .u32 w3 (0) (w.heap.size) Al nl xsl ∧ RowIn .u8 w3 (0) (w.heap.size) (some ⟨0, 0, none⟩) 64 dbTab ∧ RowIn .u8 w3 (w1.heap.size + 0) (w2.heap.size) Ab mb (pack xb) ∧ RowIn .u8 w3 (w2.heap.size + 1) (w3.heap.size) Ap mp xp ∧ Below w.heap.size w w3 := by
    refine ⟨?_, ?_, ?_, ?_, ?_, ?_⟩
    all_goals repeat' (first | (with_reducible first | assumption | exact Below.refl _ _ | refine Blk.drewN ?_ _ | refine RowIn.drewN ?_ _ | refine below_drewN ?_ _ | refine Blk.drew ?_ | refine RowIn.drew ?_ | refine Below.drew ?_) | (with_reducible refine Blk.new' ?_ ?_ <;> first | (with_reducible rfl) | (simp; done)) | (with_reducible first | refine Blk.alloc ?_ _ | refine RowIn.alloc ?_ _ | refine Below.alloc ?_ ?_ _ | apply Blk.set' | apply Blk.far' | refine RowIn.far' ?_ ?_ _ | refine Below.far' ?_ ?_ _ | refine Blk.after ?_ b3 | refine RowIn.belowS ?_ b3 | refine Below.after ?_ b3 ?_) | (exact (Eq.refl _ : (_ : List Value) = _)) | omega | go_size)
  clear rl_2 rt_2 rb_2 bb_2 b3
  have kb_3 := zb_3.cell; have fb_3 := zb_3.frozen; have lb_3 := zb_3.lt
  clear rp
  have hpw : Within 0 255 xp := by rw [HXp.out]; exact sealed_within (pack_u8 _)
  have HPW := Lib.hid hpw
  have HUP : Hid (unpR xp = (unpack (pack xb), 0)) := Lib.hid (by rw [HXp.out]; exact unp_sealed (by omega))
  have HQ : Hid (sizeB (lenP Cad.Code.start xsl nl) = mp) := Lib.hid (by rw [HL.out]; unfold sizeB; have h := HMB.out; unfold bytesFor at h; omega)
  go_wp2_with fail
  refine (kbytes_c Al nl cl xsl mp _ (by exact RowIn.row (lo := 0) (hi := w.heap.size) (by repeat' (first | (with_reducible first | assumption | exact Below.refl _ _ | refine Blk.drewN ?_ _ | refine RowIn.drewN ?_ _ | refine below_drewN ?_ _ | refine Blk.drew ?_ | refine RowIn.drew ?_ | refine Below.drew ?_) | (with_reducible refine Blk.new' ?_ ?_ <;> first | (with_reducible rfl) | (simp; done)) | (with_reducible first | refine Blk.alloc ?_ _ | refine RowIn.alloc ?_ _ | refine Below.alloc ?_ ?_ _ | apply Blk.set' | apply Blk.far' | refine RowIn.far' ?_ ?_ _ | refine Below.far' ?_ ?_ _) | (exact (Eq.refl _ : (_ : List Value) = _)) | omega | go_size))) hxl (by omega) HQ.out).mono ?_
  rintro e w4 ⟨rfl, b4⟩
  have s4 := b4.size
  try simp only [World.size_alloc, World.size_setCell, World.size_drew, size_drewN] at s4
  obtain ⟨zb_4, rl_4, rt_4, rp_4, bb_4⟩ : Blk w4 (w2.heap.size) 26 [.slice Ab mb cb, .int .i64 ((xb.length : Nat) : Int)] ∧ RowIn .u32 w4 (0) (w.heap.size) Al nl xsl ∧ RowIn .u8 w4 (0) (w.heap.size) (some ⟨0, 0, none⟩) 64 dbTab ∧ RowIn .u8 w4 (w2.heap.size + 1) (w3.heap.size) Ap mp xp ∧ Below w.heap.size w w4 := by
    refine ⟨?_, ?_, ?_, ?_, ?_⟩
    all_goals repeat' (first | (with_reducible first | assumption | exact Below.refl _ _ | refine Blk.drewN ?_ _ | refine RowIn.drewN ?_ _ | refine below_drewN ?_ _ | refine Blk.drew ?_ | refine RowIn.drew ?_ | refine Below.drew ?_) | (with_reducible refine Blk.new' ?_ ?_ <;> first | (with_reducible rfl) | (simp; done)) | (with_reducible first | refine Blk.alloc ?_ _ | refine RowIn.alloc ?_ _ | refine Below.alloc ?_ ?_ _ | apply Blk.set' | apply Blk.far' | refine RowIn.far' ?_ ?_ _ | refine Below.far' ?_ ?_ _ | refine Blk.after ?_ b4 | refine RowIn.belowS ?_ b4 | refine Below.after ?_ b4 ?_) | (exact (Eq.refl _ : (_ : List Value) = _)) | omega | go_size)
  clear zb_3 rl_3 rt_3 rb_3 rp_3 bb_3 kb_3 fb_3 lb_3 b4
  have kb_4 := zb_4.cell; have fb_4 := zb_4.frozen; have lb_4 := zb_4.lt
  go_wp2_with fail
  refine (teach_ok Al nl cl xsl _ (by exact RowIn.row (lo := 0) (hi := w.heap.size) (by repeat' (first | (with_reducible first | assumption | exact Below.refl _ _ | refine Blk.drewN ?_ _ | refine RowIn.drewN ?_ _ | refine below_drewN ?_ _ | refine Blk.drew ?_ | refine RowIn.drew ?_ | refine Below.drew ?_) | (with_reducible refine Blk.new' ?_ ?_ <;> first | (with_reducible rfl) | (simp; done)) | (with_reducible first | refine Blk.alloc ?_ _ | refine RowIn.alloc ?_ _ | refine Below.alloc ?_ ?_ _ | apply Blk.set' | apply Blk.far' | refine RowIn.far' ?_ ?_ _ | refine Below.far' ?_ ?_ _) | (exact (Eq.refl _ : (_ : List Value) = _)) | omega | go_size))) hxl (by omega)).mono ?_
  rintro e w5 ⟨Ae, me, ce, ye, rfl, hce, re, HYe, b5⟩
  have lne := re.len
  replace re := re.mono (lo' := w4.heap.size + 0) (by go_size) (Nat.le_refl _)
  have s5 := b5.size
  try simp only [World.size_alloc, World.size_setCell, World.size_drew, size_drewN] at s5
  obtain ⟨zb_5, rl_5, rt_5, rp_5, re_5, bb_5⟩ : Blk w5 (w2.heap.size) 26 [.slice Ab mb cb, .int .i64 ((xb.length : Nat) : Int)] ∧ RowIn .u32 w5 (0) (w.heap.size) Al nl xsl ∧ RowIn .u8 w5 (0) (w.heap.size) (some ⟨0, 0, none⟩) 64 dbTab ∧ RowIn .u8 w5 (w2.heap.size + 1) (w3.heap.size) Ap mp xp ∧ RowIn .i64 w5 (w4.heap.size + 0) (w5.heap.size) Ae me ye ∧ Below w.heap.size w w5 := by
    refine ⟨?_, ?_, ?_, ?_, ?_, ?_⟩
    all_goals repeat' (first | (with_reducible first | assumption | exact Below.refl _ _ | refine Blk.drewN ?_ _ | refine RowIn.drewN ?_ _ | refine below_drewN ?_ _ | refine Blk.drew ?_ | refine RowIn.drew ?_ | refine Below.drew ?_) | (with_reducible refine Blk.new' ?_ ?_ <;> first | (with_reducible rfl) | (simp; done)) | (with_reducible first | refine Blk.alloc ?_ _ | refine RowIn.alloc ?_ _ | refine Below.alloc ?_ ?_ _ | apply Blk.set' | apply Blk.far' | refine RowIn.far' ?_ ?_ _ | refine Below.far' ?_ ?_ _ | refine Blk.after ?_ b5 | refine RowIn.belowS ?_ b5 | refine Below.after ?_ b5 ?_) | (exact (Eq.refl _ : (_ : List Value) = _)) | omega | go_size)
  clear zb_4 rl_4 rt_4 rp_4 bb_4 kb_4 fb_4 lb_4 b5
  have kb_5 := zb_5.cell; have fb_5 := zb_5.frozen; have lb_5 := zb_5.lt
  clear re
  go_wp2_with fail
  refine (unp_c Ap mp cp xp _ (unpack (pack xb)) 0 (by exact RowIn.row (lo := w2.heap.size + 1) (hi := w3.heap.size) (by repeat' (first | (with_reducible first | assumption | exact Below.refl _ _ | refine Blk.drewN ?_ _ | refine RowIn.drewN ?_ _ | refine below_drewN ?_ _ | refine Blk.drew ?_ | refine RowIn.drew ?_ | refine Below.drew ?_) | (with_reducible refine Blk.new' ?_ ?_ <;> first | (with_reducible rfl) | (simp; done)) | (with_reducible first | refine Blk.alloc ?_ _ | refine RowIn.alloc ?_ _ | refine Below.alloc ?_ ?_ _ | apply Blk.set' | apply Blk.far' | refine RowIn.far' ?_ ?_ _ | refine Below.far' ?_ ?_ _) | (exact (Eq.refl _ : (_ : List Value) = _)) | omega | go_size))) HPW.out hcp HUP.out).mono ?_
  rintro e w6 ⟨Ac, mc, cc, xc, rfl, hcc, rc, HXc, b6⟩
  replace rc := rc.mono (lo' := w5.heap.size + 0) (by go_size) (Nat.le_refl _)
  have s6 := b6.size
  try simp only [World.size_alloc, World.size_setCell, World.size_drew, size_drewN] at s6
  obtain ⟨zb_6, rl_6, rt_6, rp_6, re_6, rc_6, bb_6⟩ : Blk w6 (w2.heap.size) 26 [.slice Ab mb cb, .int .i64 ((xb.length : Nat) : Int)] ∧ RowIn .u32 w6 (0) (w.heap.size) Al nl xsl ∧ RowIn .u8 w6 (0) (w.heap.size) (some ⟨0, 0, none⟩) 64 dbTab ∧ RowIn .u8 w6 (w2.heap.size + 1) (w3.heap.size) Ap mp xp ∧ RowIn .i64 w6 (w4.heap.size + 0) (w5.heap.size) Ae me ye ∧ RowIn .u8 w6 (w5.heap.size + 0) (w6.heap.size) Ac mc (pack xc) ∧ Below w.heap.size w w6 := by
    refine ⟨?_, ?_, ?_, ?_, ?_, ?_, ?_⟩
    all_goals repeat' (first | (with_reducible first | assumption | exact Below.refl _ _ | refine Blk.drewN ?_ _ | refine RowIn.drewN ?_ _ | refine below_drewN ?_ _ | refine Blk.drew ?_ | refine RowIn.drew ?_ | refine Below.drew ?_) | (with_reducible refine Blk.new' ?_ ?_ <;> first | (with_reducible rfl) | (simp; done)) | (with_reducible first | refine Blk.alloc ?_ _ | refine RowIn.alloc ?_ _ | refine Below.alloc ?_ ?_ _ | apply Blk.set' | apply Blk.far' | refine RowIn.far' ?_ ?_ _ | refine Below.far' ?_ ?_ _ | refine Blk.after ?_ b6 | refine RowIn.belowS ?_ b6 | refine Below.after ?_ b6 ?_) | (exact (Eq.refl _ : (_ : List Value) = _)) | omega | go_size)
  clear zb_5 rl_5 rt_5 rp_5 re_5 bb_5 kb_5 fb_5 lb_5 b6
  have kb_6 := zb_6.cell; have fb_6 := zb_6.frozen; have lb_6 := zb_6.lt
  clear rc
  have lc : xc.length ≤ 330000 := by rw [HXc.out, unpack_len, HPL.out]; omega
  have HDE : Hid (decR xc (nl : Int) = (pre xsl nl, ((L : Nat) : Int), 0)) := Lib.hid (by rw [HXc.out, HXb.out, ← HL.out]; exact decR_code hxl (by omega))
  have hme : (me : Int) = (nl : Int) := by rw [← lne, HYe.out, lens_len]
  have e2 : ((mp : Int) != (mp : Int)) = false := by simp
  have e3 : ((me : Int) != (nl : Int)) = false := by rw [bne_eq_false_iff_eq]; omega
  have e4 : decide ((mp : Int) < 4) = false := decide_eq_false (by omega)
  have e5 : ((L : Int) != ((xb.length : Nat) : Int)) = false := by rw [bne_eq_false_iff_eq]; omega
  replace hme := Lib.hid hme
  clear lne
  go_wp2_with fail
  refine (cdec_c Ac mc cc xc nl (pre xsl nl) _ 0 _ (by exact RowIn.row (lo := w5.heap.size + 0) (hi := w6.heap.size) (by repeat' (first | (with_reducible first | assumption | exact Below.refl _ _ | refine Blk.drewN ?_ _ | refine RowIn.drewN ?_ _ | refine below_drewN ?_ _ | refine Blk.drew ?_ | refine RowIn.drew ?_ | refine Below.drew ?_) | (with_reducible refine Blk.new' ?_ ?_ <;> first | (with_reducible rfl) | (simp; done)) | (with_reducible first | refine Blk.alloc ?_ _ | refine RowIn.alloc ?_ _ | refine Below.alloc ?_ ?_ _ | apply Blk.set' | apply Blk.far' | refine RowIn.far' ?_ ?_ _ | refine Below.far' ?_ ?_ _) | (exact (Eq.refl _ : (_ : List Value) = _)) | omega | go_size))) hcc lc (by omega) (by exact RowIn.row (lo := 0) (hi := w.heap.size) (by repeat' (first | (with_reducible first | assumption | exact Below.refl _ _ | refine Blk.drewN ?_ _ | refine RowIn.drewN ?_ _ | refine below_drewN ?_ _ | refine Blk.drew ?_ | refine RowIn.drew ?_ | refine Below.drew ?_) | (with_reducible refine Blk.new' ?_ ?_ <;> first | (with_reducible rfl) | (simp; done)) | (with_reducible first | refine Blk.alloc ?_ _ | refine RowIn.alloc ?_ _ | refine Below.alloc ?_ ?_ _ | apply Blk.set' | apply Blk.far' | refine RowIn.far' ?_ ?_ _ | refine Below.far' ?_ ?_ _) | (exact (Eq.refl _ : (_ : List Value) = _)) | omega | go_size))) HDE.out).mono ?_
  rintro e w7 ⟨Am, mm, cm, ym, rfl, hcm, rm, HYm, b7⟩
  have lnm := rm.len
  replace rm := rm.mono (lo' := w6.heap.size + 0) (by go_size) (Nat.le_refl _)
  have s7 := b7.size
  try simp only [World.size_alloc, World.size_setCell, World.size_drew, size_drewN] at s7
  obtain ⟨zb_7, zc_7, rl_7, rt_7, rp_7, re_7, rc_7, rm_7, bb_7⟩ : Blk w7 (w2.heap.size) 26 [.slice Ab mb cb, .int .i64 ((xb.length : Nat) : Int)] ∧ Blk w7 (w6.heap.size) 26 [.slice Ac mc cc, .int .i64 ((xc.length : Nat) : Int)] ∧ RowIn .u32 w7 (0) (w.heap.size) Al nl xsl ∧ RowIn .u8 w7 (0) (w.heap.size) (some ⟨0, 0, none⟩) 64 dbTab ∧ RowIn .u8 w7 (w2.heap.size + 1) (w3.heap.size) Ap mp xp ∧ RowIn .i64 w7 (w4.heap.size + 0) (w5.heap.size) Ae me ye ∧ RowIn .u8 w7 (w5.heap.size + 0) (w6.heap.size) Ac mc (pack xc) ∧ RowIn .u32 w7 (w6.heap.size + 0) (w7.heap.size) Am mm ym ∧ Below w.heap.size w w7 := by
    refine ⟨?_, ?_, ?_, ?_, ?_, ?_, ?_, ?_, ?_⟩
    all_goals repeat' (first | (with_reducible first | assumption | exact Below.refl _ _ | refine Blk.drewN ?_ _ | refine RowIn.drewN ?_ _ | refine below_drewN ?_ _ | refine Blk.drew ?_ | refine RowIn.drew ?_ | refine Below.drew ?_) | (with_reducible refine Blk.new' ?_ ?_ <;> first | (with_reducible rfl) | (simp; done)) | (with_reducible first | refine Blk.alloc ?_ _ | refine RowIn.alloc ?_ _ | refine Below.alloc ?_ ?_ _ | apply Blk.set' | apply Blk.far' | refine RowIn.far' ?_ ?_ _ | refine Below.far' ?_ ?_ _ | refine Blk.after ?_ b7 | refine RowIn.belowS ?_ b7 | refine Below.after ?_ b7 ?_) | (exact (Eq.refl _ : (_ : List Value) = _)) | omega | go_size)
  clear zb_6 rl_6 rt_6 rp_6 re_6 rc_6 bb_6 kb_6 fb_6 lb_6 b7
  have kb_7 := zb_7.cell; have fb_7 := zb_7.frozen; have lb_7 := zb_7.lt
  have kc_7 := zc_7.cell; have fc_7 := zc_7.frozen; have lc_7 := zc_7.lt
  clear rm
  have HEM : Hid (xsl = ym) := Lib.hid (by rw [HYm.out]; exact (ints_pre hxl HLl.out).symm)
  clear lnm
  go_wp2_with fail
  refine (r9same_eq Al Am nl cl mm cm xsl ym _ (by exact RowIn.row (lo := 0) (hi := w.heap.size) (by repeat' (first | (with_reducible first | assumption | exact Below.refl _ _ | refine Blk.drewN ?_ _ | refine RowIn.drewN ?_ _ | refine below_drewN ?_ _ | refine Blk.drew ?_ | refine RowIn.drew ?_ | refine Below.drew ?_) | (with_reducible refine Blk.new' ?_ ?_ <;> first | (with_reducible rfl) | (simp; done)) | (with_reducible first | refine Blk.alloc ?_ _ | refine RowIn.alloc ?_ _ | refine Below.alloc ?_ ?_ _ | apply Blk.set' | apply Blk.far' | refine RowIn.far' ?_ ?_ _ | refine Below.far' ?_ ?_ _) | (exact (Eq.refl _ : (_ : List Value) = _)) | omega | go_size))) (by exact RowIn.row (lo := w6.heap.size + 0) (hi := w7.heap.size) (by repeat' (first | (with_reducible first | assumption | exact Below.refl _ _ | refine Blk.drewN ?_ _ | refine RowIn.drewN ?_ _ | refine below_drewN ?_ _ | refine Blk.drew ?_ | refine RowIn.drew ?_ | refine Below.drew ?_) | (with_reducible refine Blk.new' ?_ ?_ <;> first | (with_reducible rfl) | (simp; done)) | (with_reducible first | refine Blk.alloc ?_ _ | refine RowIn.alloc ?_ _ | refine Below.alloc ?_ ?_ _ | apply Blk.set' | apply Blk.far' | refine RowIn.far' ?_ ?_ _ | refine Below.far' ?_ ?_ _) | (exact (Eq.refl _ : (_ : List Value) = _)) | omega | go_size))) (by omega) HEM.out).mono ?_
  rintro e w8 ⟨rfl, b8⟩
  have s8 := b8.size
  try simp only [World.size_alloc, World.size_setCell, World.size_drew, size_drewN] at s8
  obtain ⟨zb_8, rl_8, rt_8, rp_8, re_8, rm_8, bb_8⟩ : Blk w8 (w2.heap.size) 26 [.slice Ab mb cb, .int .i64 ((xb.length : Nat) : Int)] ∧ RowIn .u32 w8 (0) (w.heap.size) Al nl xsl ∧ RowIn .u8 w8 (0) (w.heap.size) (some ⟨0, 0, none⟩) 64 dbTab ∧ RowIn .u8 w8 (w2.heap.size + 1) (w3.heap.size) Ap mp xp ∧ RowIn .i64 w8 (w4.heap.size + 0) (w5.heap.size) Ae me ye ∧ RowIn .u32 w8 (w6.heap.size + 0) (w7.heap.size) Am mm ym ∧ Below w.heap.size w w8 := by
    refine ⟨?_, ?_, ?_, ?_, ?_, ?_, ?_⟩
    all_goals repeat' (first | (with_reducible first | assumption | exact Below.refl _ _ | refine Blk.drewN ?_ _ | refine RowIn.drewN ?_ _ | refine below_drewN ?_ _ | refine Blk.drew ?_ | refine RowIn.drew ?_ | refine Below.drew ?_) | (with_reducible refine Blk.new' ?_ ?_ <;> first | (with_reducible rfl) | (simp; done)) | (with_reducible first | refine Blk.alloc ?_ _ | refine RowIn.alloc ?_ _ | refine Below.alloc ?_ ?_ _ | apply Blk.set' | apply Blk.far' | refine RowIn.far' ?_ ?_ _ | refine Below.far' ?_ ?_ _ | refine Blk.after ?_ b8 | refine RowIn.belowS ?_ b8 | refine Below.after ?_ b8 ?_) | (exact (Eq.refl _ : (_ : List Value) = _)) | omega | go_size)
  clear zb_7 zc_7 rl_7 rt_7 rp_7 re_7 rc_7 rm_7 bb_7 kb_7 fb_7 lb_7 kc_7 fc_7 lc_7 b8
  have kb_8 := zb_8.cell; have fb_8 := zb_8.frozen; have lb_8 := zb_8.lt
  go_wp2_with fail
  refine (rst_ok nl _ (by omega)).mono ?_
  rintro e w9 ⟨rfl, b9⟩
  have s9 := b9.size
  try simp only [World.size_alloc, World.size_setCell, World.size_drew, size_drewN] at s9
  obtain ⟨rl_9, rt_9, rp_9, re_9, bb_9⟩ : RowIn .u32 w9 (0) (w.heap.size) Al nl xsl ∧ RowIn .u8 w9 (0) (w.heap.size) (some ⟨0, 0, none⟩) 64 dbTab ∧ RowIn .u8 w9 (w2.heap.size + 1) (w3.heap.size) Ap mp xp ∧ RowIn .i64 w9 (w4.heap.size + 0) (w5.heap.size) Ae me ye ∧ Below w.heap.size w w9 := by
    refine ⟨?_, ?_, ?_, ?_, ?_⟩
    all_goals repeat' (first | (with_reducible first | assumption | exact Below.refl _ _ | refine Blk.drewN ?_ _ | refine RowIn.drewN ?_ _ | refine below_drewN ?_ _ | refine Blk.drew ?_ | refine RowIn.drew ?_ | refine Below.drew ?_) | (with_reducible refine Blk.new' ?_ ?_ <;> first | (with_reducible rfl) | (simp; done)) | (with_reducible first | refine Blk.alloc ?_ _ | refine RowIn.alloc ?_ _ | refine Below.alloc ?_ ?_ _ | apply Blk.set' | apply Blk.far' | refine RowIn.far' ?_ ?_ _ | refine Below.far' ?_ ?_ _ | refine Blk.after ?_ b9 | refine RowIn.belowS ?_ b9 | refine Below.after ?_ b9 ?_) | (exact (Eq.refl _ : (_ : List Value) = _)) | omega | go_size)
  clear zb_8 rl_8 rt_8 rp_8 re_8 rm_8 bb_8 kb_8 fb_8 lb_8 b9
  go_wp2_with fail
  obtain ⟨tt, hft⟩ := feed_pack (n := nl) hxl
  rw [← HXb.out] at hft
  have HFULL := Lib.hid hft
  clear hft
  have hmp4 : (mp : Int) - 4 = (mb : Int) := by omega
  have s0z : w.heap.size ≤ w9.heap.size := bb_9.size
  go_loopg [21, 22] mb (fun k vall vi wr => ∃ (i n' p0 p1 q0 q1 m' c' j d lo hi : Nat) (A' B : Option Addr) (r : List Bool) (us : List Nat) (zs : List Int), i + k = mb ∧ vi = .int .i64 (i : Nat) ∧ vall = .slice B j d ∧ Hid (feed nl Cad.Code.start (unpack ((pack xb).take (i))) = .ok us n' ⟨p0, p1, q0, q1⟩ r) ∧ Hid (FOk n' ⟨p0, p1, q0, q1⟩ r) ∧ j + n' ≤ nl ∧ (m' ≤ c' ∧ c' ≤ 9223372036854775807) ∧ Hid (zs = ints us) ∧ Own wr (w9.heap.size + 1) 27 .u32 B j d zs ∧ Blk wr (w9.heap.size) 64 [.int .i64 (n' : Int), .int .i64 (p0 : Int), .int .i64 (p1 : Int), .int .u64 (q0 : Int), .int .u64 (q1 : Int), .slice A' m' c', .int .i64 (((r.length : Nat)) : Int)] ∧ RowIn .u8 wr lo hi A' m' (pack r) ∧ (w9.heap.size < lo ∨ hi ≤ w9.heap.size) ∧ hi ≤ wr.heap.size ∧ Below (w9.heap.size) w9 wr ∧ w9.heap.size < wr.heap.size)
  case atStart =>
    refine ⟨0, nl, 10, 10, 16384, 16384, 0, 0, 0, 0, 0, 0, none, none, [], [], [], by omega, rfl, rfl, Lib.hid ?_, Lib.hid (fok10 (by omega)), by omega, by omega, Lib.hid rfl, Own.nil _ _ _ _, ?_, RowIn.nil, Or.inr (by omega), by go_size, ?_, by go_size⟩
    · rw [List.take_zero]; exact feed_stays (fok10 (by omega))
    all_goals repeat' (first | (with_reducible first | assumption | exact Below.refl _ _ | refine Blk.drewN ?_ _ | refine RowIn.drewN ?_ _ | refine below_drewN ?_ _ | refine Blk.drew ?_ | refine RowIn.drew ?_ | refine Below.drew ?_) | (with_reducible refine Blk.new' ?_ ?_ <;> first | (with_reducible rfl) | (simp; done)) | (with_reducible first | refine Blk.alloc ?_ _ | refine RowIn.alloc ?_ _ | refine Below.alloc ?_ ?_ _ | apply Blk.set' | apply Blk.far' | refine RowIn.far' ?_ ?_ _ | refine Below.far' ?_ ?_ _) | (exact (Eq.refl _ : (_ : List Value) = _)) | omega | go_size)
  case round =>
    obtain ⟨i, n', p0, p1, q0, q1, m', c', j, d, lo, hi, A', B, r, us, zs, hik, rfl, rfl, HG, HFO, hjn, hcA, HZ, own5, zs_20, ra_20, hlo, hhi, bz_20, sw1⟩ := hrel
    by_cases hlti0 : i < mb
    · have rt_20 := rt_9.below bz_20 (by omega)
      have rp_20 := rp_9.below bz_20 (by go_size)
      have rq_20 : RowIn .u8 wr 0 (w9.heap.size) (Ap.map (·.add i)) 1 [nth xp i] := (RowIn.one rp_20 (i := i) (by omega)).mono (Nat.zero_le _) (by omega)
      have bb_20 := bz_20
      have s20 := bz_20.size
      have ks_20 := zs_20.cell; have fs_20 := zs_20.frozen; have ls_20 := zs_20.lt
      clear rp_20
      clear rl_9 rt_9 rp_9 re_9 bb_9
      have hrl := HFO.out.short
      have hlti : (i : Int) < (mp : Int) - 4 := by omega
      have hicp : (i : Int) + 1 ≤ (cp : Int) := by omega
      have hcpi : cp ≠ i := by omega
      have HXQ : Hid (Within 0 255 [nth xp i]) := Lib.hid (one_within (HPW.out.nth (by decide) (by decide) i))
      have hip : i < (pack xb).length := by rw [HPL.out]; omega
      obtain ⟨vs2, n2, d2, r2, hfd, hnx⟩ := feed_byte start_ok HFULL.out hip HG.out
      have hnq : nth xp i = nth (pack xb) i := by rw [HXp.out]; exact nth_sealed hip
      rw [← hnq] at hfd
      obtain ⟨⟨t0, t1, t2, t3⟩, hd2⟩ : ∃ q, q = d2 := ⟨_, rfl⟩
      subst hd2
      obtain ⟨f1, f2, f3, f4, f5⟩ := feed_ok HFO.out.1 hfd
      have HFD := Lib.hid hfd
      have HF1 := Lib.hid f1
      have HNX := Lib.hid hnx
      clear hfd hnx f1 f3 f4 f5 hnq hip
      have HOB : Hid (∀ q, blockOf B = some q → q < wr.heap.size) := Lib.hid (fun q h => (own5.block q h).2)
      have HOG : Hid (∀ q, blockOf B = some q → w9.heap.size + 1 ≤ q) := Lib.hid (fun q h => (own5.block q h).1)
      go_wp2_with fail
      have hwi : IntKind.i64.wrap ((i : Int) + 1) = (i : Int) + 1 := IntWalk.i64_in _ (by omega)
      have h0i : (0 : Int) ≤ (i : Int) := by omega
      have h0j : (0 : Int) ≤ (i : Int) + 1 := by omega
      have hij : (i : Int) ≤ (i : Int) + 1 := by omega
      have himp : (i : Int) + 1 ≤ (mp : Int) := by omega
      apply merge10 (fun (Ax : Option Addr) (mx : Nat) (cx : Nat) (xx : List Bool) (Bx : Option Addr) (kx : Nat) (dx : Nat) (zx : List Int) (gy : Nat) (wz : World) => Blk wz gy 64 [.int .i64 (n2 : Int), .int .i64 (t0 : Int), .int .i64 (t1 : Int), .int .u64 (t2 : Int), .int .u64 (t3 : Int), .slice Ax mx cx, .int .i64 (((xx.length : Nat)) : Int)] ∧ (mx ≤ cx ∧ cx ≤ 9223372036854775807) ∧ Hid (xx = r2) ∧ (kx ≤ dx ∧ dx ≤ 9223372036854775807) ∧ Hid (zx = ints vs2) ∧ wr.heap.size ≤ gy ∧ (∃ lo hi : Nat, wr.heap.size ≤ lo ∧ hi ≤ wz.heap.size ∧ RowIn .u8 wz lo hi Ax mx (pack xx)) ∧ (∃ lo hi : Nat, wr.heap.size ≤ lo ∧ hi ≤ wz.heap.size ∧ RowIn .u32 wz lo hi Bx kx zx) ∧ Own wz (w9.heap.size + 1) 27 .u32 B j d zs ∧ Blk wz (w9.heap.size) 64 [.int .i64 (n' : Int), .int .i64 (p0 : Int), .int .i64 (p1 : Int), .int .u64 (q0 : Int), .int .u64 (q1 : Int), .slice A' m' c', .int .i64 (((r.length : Nat)) : Int)] ∧ RowIn .u8 wz (lo) (hi) A' m' (pack r) ∧ RowIn .u8 wz (0) (w.heap.size) (some ⟨0, 0, none⟩) 64 dbTab ∧ RowIn .u8 wz (0) (w9.heap.size) (Ap.map (·.add i)) 1 [nth xp i] ∧ Below w9.heap.size w9 wz ∧ wr.heap.size ≤ wz.heap.size)
      case main =>
        intro key
        have na_0 : w9.heap.size ≤ wr.heap.size := by omega
        have nas_0 : w9.heap.size ≠ wr.heap.size := by omega
        have nra_0 : wr.heap.size < lo ∨ hi ≤ wr.heap.size := by omega
        have nrt_0 : wr.heap.size < 0 ∨ w.heap.size ≤ wr.heap.size := by omega
        have nrq_0 : wr.heap.size < 0 ∨ w9.heap.size ≤ wr.heap.size := by omega
        go_region_held3 (fun w' => (∀ a, w'.cell? ⟨w9.heap.size, a, none⟩ = [.int .i64 (n' : Int), .int .i64 (p0 : Int), .int .i64 (p1 : Int), .int .u64 (q0 : Int), .int .u64 (q1 : Int), .slice A' m' c', .int .i64 (((r.length : Nat)) : Int)][a]?)) (first | with_reducible exact ks_20 | (refine Blk.cell (t := 64) ?_; all_goals repeat' (first | (with_reducible first | assumption | exact Below.refl _ _ | refine Blk.drewN ?_ _ | refine RowIn.drewN ?_ _ | refine below_drewN ?_ _ | refine Blk.drew ?_ | refine RowIn.drew ?_ | refine Below.drew ?_) | (with_reducible refine Blk.new' ?_ ?_ <;> first | (with_reducible rfl) | (simp; done)) | (with_reducible first | refine Blk.alloc ?_ _ | refine RowIn.alloc ?_ _ | refine Below.alloc ?_ ?_ _ | apply Blk.set' | apply Blk.far4 | apply RowIn.far4 | apply Below.far4 | apply Blk.far2 | apply RowIn.far2 | apply Below.far2 | apply Blk.far' | refine RowIn.far' ?_ ?_ _ | refine Below.far' ?_ ?_ _ | refine Blk.after ?_ bq | refine RowIn.belowS ?_ bq | refine Below.after ?_ bq ?_) | (exact (Eq.refl _ : (_ : List Value) = _)) | omega | go_size))) (
          (go_simp; go_at_call 28; refine (rfeed_c n' p0 p1 q0 q1 m' c' A' r (Ap.map (·.add i)) 1 (cp - i) [nth xp i] _ (by omega) HFO.out (by exact RowIn.row (lo := lo) (hi := hi) (by repeat' (first | (with_reducible first | assumption | exact Below.refl _ _ | refine Blk.drewN ?_ _ | refine RowIn.drewN ?_ _ | refine below_drewN ?_ _ | refine Blk.drew ?_ | refine RowIn.drew ?_ | refine Below.drew ?_) | (with_reducible refine Blk.new' ?_ ?_ <;> first | (with_reducible rfl) | (simp; done)) | (with_reducible first | refine Blk.alloc ?_ _ | refine RowIn.alloc ?_ _ | refine Below.alloc ?_ ?_ _ | apply Blk.set' | apply Blk.far' | refine RowIn.far' ?_ ?_ _ | refine Below.far' ?_ ?_ _) | (exact (Eq.refl _ : (_ : List Value) = _)) | omega | go_size))) hcA (by exact RowIn.row (lo := 0) (hi := w9.heap.size) (by repeat' (first | (with_reducible first | assumption | exact Below.refl _ _ | refine Blk.drewN ?_ _ | refine RowIn.drewN ?_ _ | refine below_drewN ?_ _ | refine Blk.drew ?_ | refine RowIn.drew ?_ | refine Below.drew ?_) | (with_reducible refine Blk.new' ?_ ?_ <;> first | (with_reducible rfl) | (simp; done)) | (with_reducible first | refine Blk.alloc ?_ _ | refine RowIn.alloc ?_ _ | refine Below.alloc ?_ ?_ _ | apply Blk.set' | apply Blk.far' | refine RowIn.far' ?_ ?_ _ | refine Below.far' ?_ ?_ _) | (exact (Eq.refl _ : (_ : List Value) = _)) | omega | go_size))) (by omega) HXQ.out (by exact RowIn.row (lo := 0) (hi := w.heap.size) (by repeat' (first | (with_reducible first | assumption | exact Below.refl _ _ | refine Blk.drewN ?_ _ | refine RowIn.drewN ?_ _ | refine below_drewN ?_ _ | refine Blk.drew ?_ | refine RowIn.drew ?_ | refine Below.drew ?_) | (with_reducible refine Blk.new' ?_ ?_ <;> first | (with_reducible rfl) | (simp; done)) | (with_reducible first | refine Blk.alloc ?_ _ | refine RowIn.alloc ?_ _ | refine Below.alloc ?_ ?_ _ | apply Blk.set' | apply Blk.far' | refine RowIn.far' ?_ ?_ _ | refine Below.far' ?_ ?_ _) | (exact (Eq.refl _ : (_ : List Value) = _)) | omega | go_size))) (by omega) HFD.out).mono ?_; rintro e wq ⟨mx, cx, kx, dx, Ax, Bx, xx, zx, rfl, hcx, HXx, rx, hdx, HZx, rz, bq⟩
           have sq := bq.size
           try simp only [World.size_alloc, World.size_setCell, World.size_drew, size_drewN] at sq
           obtain ⟨lox, hlox1, hlox2, rx, rz⟩ := pick_both rx rz
           try simp only [World.size_alloc, World.size_drew, size_drewN] at hlox1
           try simp only [World.size_alloc, World.size_drew, size_drewN] at hlox2
           obtain ⟨zs_q, ra_q, rt_q, rq_q, bb_q⟩ : Blk wq (w9.heap.size) 64 [.int .i64 (n' : Int), .int .i64 (p0 : Int), .int .i64 (p1 : Int), .int .u64 (q0 : Int), .int .u64 (q1 : Int), .slice A' m' c', .int .i64 (((r.length : Nat)) : Int)] ∧ RowIn .u8 wq (lo) (hi) A' m' (pack r) ∧ RowIn .u8 wq (0) (w.heap.size) (some ⟨0, 0, none⟩) 64 dbTab ∧ RowIn .u8 wq (0) (w9.heap.size) (Ap.map (·.add i)) 1 [nth xp i] ∧ Below w9.heap.size w9 wq := (by
             refine ⟨?_, ?_, ?_, ?_, ?_⟩
             all_goals repeat' (first | (with_reducible first | assumption | exact Below.refl _ _ | refine Blk.drewN ?_ _ | refine RowIn.drewN ?_ _ | refine below_drewN ?_ _ | refine Blk.drew ?_ | refine RowIn.drew ?_ | refine Below.drew ?_) | (with_reducible refine Blk.new' ?_ ?_ <;> first | (with_reducible rfl) | (simp; done)) | (with_reducible first | refine Blk.alloc ?_ _ | refine RowIn.alloc ?_ _ | refine Below.alloc ?_ ?_ _ | apply Blk.set' | apply Blk.far4 | apply RowIn.far4 | apply Below.far4 | apply Blk.far2 | apply RowIn.far2 | apply Below.far2 | apply Blk.far' | refine RowIn.far' ?_ ?_ _ | refine Below.far' ?_ ?_ _ | refine Blk.after ?_ bq | refine RowIn.belowS ?_ bq | refine Below.after ?_ bq ?_) | (exact (Eq.refl _ : (_ : List Value) = _)) | omega | go_size))
           have own_q : Own wq (w9.heap.size + 1) 27 .u32 B j d zs := (by
             repeat' (first | (with_reducible exact own5) | (with_reducible refine Own.drew ?_) | (with_reducible refine Own.alloc ?_ _) | (refine Own.below ?_ bq (Nat.le_refl _))))
           try (with_reducible (have zq1 := Blk.after (Blk.drew (Blk.new' (g := wr.heap.size) (t := 64) (l := [.int .i64 0, .int .i64 0, .int .i64 0, .int .u64 0, .int .u64 0, .slice none 0 0, .int .i64 0]) rfl rfl)) bq); have kq1 := zq1.cell; have fq1 := zq1.frozen; have lq1 := zq1.lt)))
        all_goals
          refine gen_world (fun wz hwz => ?_)
          first
          | (generalize hg0 : wq.heap.size = gy; refine key Ax mx cx xx Bx kx dx zx gy wz ?_; subst hg0; subst hwz; refine ⟨?_, ?_, ?_, ?_, ?_, ?_, ?_, ?_, ?_, ?_, ?_, ?_, ?_, ?_, ?_⟩ <;> ((repeat' (first | (refine ⟨lox, wq.heap.size, by omega, by go_size, ?_⟩) | (refine ⟨lox, wq.heap.size, by omega, by go_size, ?_⟩) | (exact fun h => absurd (HOB.out _ h) (by omega)) | (with_reducible assumption) | (with_reducible exact Below.refl _ _) | (with_reducible refine Blk.new' ?_ ?_ <;> first | (with_reducible rfl) | (simp; done)) | (with_reducible refine Blk.alloc ?_ _) | (with_reducible refine RowIn.alloc ?_ _) | (with_reducible refine Below.alloc ?_ ?_ _) | (with_reducible refine Own.alloc ?_ _) | (with_reducible apply Blk.set7) | (with_reducible refine Blk.far7 ?_ ?_) | (with_reducible refine RowIn.far7 ?_ ?_) | (with_reducible refine Below.far7 ?_ ?_) | (with_reducible refine Own.far7 ?_ ?_) | (exact (Eq.refl _ : (_ : List Value) = _)) | omega | go_size)); done))
          | (generalize hg0 : wr.heap.size = gy; refine key Ax mx cx xx Bx kx dx zx gy wz ?_; subst hg0; subst hwz; refine ⟨?_, ?_, ?_, ?_, ?_, ?_, ?_, ?_, ?_, ?_, ?_, ?_, ?_, ?_, ?_⟩ <;> ((repeat' (first | (refine ⟨lox, wq.heap.size, by omega, by go_size, ?_⟩) | (refine ⟨lox, wq.heap.size, by omega, by go_size, ?_⟩) | (exact fun h => absurd (HOB.out _ h) (by omega)) | (with_reducible assumption) | (with_reducible exact Below.refl _ _) | (with_reducible refine Blk.new' ?_ ?_ <;> first | (with_reducible rfl) | (simp; done)) | (with_reducible refine Blk.alloc ?_ _) | (with_reducible refine RowIn.alloc ?_ _) | (with_reducible refine Below.alloc ?_ ?_ _) | (with_reducible refine Own.alloc ?_ _) | (with_reducible apply Blk.set7) | (with_reducible refine Blk.far7 ?_ ?_) | (with_reducible refine RowIn.far7 ?_ ?_) | (with_reducible refine Below.far7 ?_ ?_) | (with_reducible refine Own.far7 ?_ ?_) | (exact (Eq.refl _ : (_ : List Value) = _)) | omega | go_size)); done))
      case k =>
        intro Ax mx cx xx Bx kx dx zx gy w21 hF
        obtain ⟨zy0, hcx, HXx, hdx, HZx, hgy, hrx, hrz, own6, zs_21, ra_21, rt_21, rq_21, bb_21, s21⟩ := hF
        clear rt_20 rq_20 ra_20 zs_20 bb_20 ks_20 fs_20 ls_20
        have ks_21 := zs_21.cell; have fs_21 := zs_21.frozen; have ls_21 := zs_21.lt
        obtain ⟨lox, hix, hlox, hhix, rx0⟩ := hrx
        obtain ⟨loz, hiz, hloz, hhiz, rz0⟩ := hrz
        have zy_21 := zy0; have ky_21 := zy_21.cell; have fy_21 := zy_21.frozen; have ly_21 := zy_21.lt
        have hneS : blockOf B ≠ some (w9.heap.size) := own6.ne_blk zs_21 (by decide)
        have hlz : kx = vs2.length := by rw [← rz0.len, HZx.out, ints_len]
        have hkx1 : kx ≤ 4000 := by omega
        have hsw : w9.heap.size + 1 ≤ w21.heap.size := by omega
        have hlz2 : w9.heap.size < loz ∨ hiz ≤ w9.heap.size := Or.inl (by omega)
        have hk3 : j + kx + n2 ≤ nl := by omega
        clear hlz
        go_wp2_with (at_builtin; refine wpList_app _ u32E rfl _ _ rfl (w9.heap.size + 1) _ _ _ _ rfl (by exact own6.far7 hneS) _ _ _ zx rfl (by exact (rz0.far7 hlz2).row) (by omega) (by go_size) ?_)
        intro B8 d8 w8 own8 hg8 hat8
        have zs_8 : Blk w8 (w9.heap.size) 64 [.int .i64 (n2 : Int), .int .i64 (t0 : Int), .int .i64 (t1 : Int), .int .u64 (t2 : Int), .int .u64 (t3 : Int), .slice Ax mx cx, .int .i64 (((xx.length : Nat)) : Int)] := (Blk.set7 zs_21).grown hg8 (fun e => hneS e.symm)
        have ra_8 : RowIn .u8 w8 lox hix Ax mx (pack xx) := row_grown (RowIn.far7 rx0 (Or.inl (by omega))) hg8 (fun q e => Or.inl (by have := HOB.out q e; omega))
        have bb_8 : Below (w9.heap.size) w9 w8 := (Below.far7 bb_21 (Nat.le_refl _)).grown hg8 (by go_size) (fun q e => by have := HOG.out q e; omega)
        have s8 : w21.heap.size ≤ w8.heap.size := by have h := hg8.size; simpa [World.setCell] using h
        have HZ2 : Hid (zs ++ zx = ints (us ++ vs2)) := Lib.hid (by rw [HZ.out, HZx.out, ints_app])
        have HG2 : Hid (feed nl Cad.Code.start (unpack ((pack xb).take (i + 1))) = .ok (us ++ vs2) n2 ⟨t0, t1, t2, t3⟩ xx) := Lib.hid (by rw [HXx.out]; exact HNX.out)
        have HFO2 : Hid (FOk n2 ⟨t0, t1, t2, t3⟩ xx) := Lib.hid (by rw [HXx.out]; exact HF1.out)
        clear hg8 hat8
        go_wp2
        go_roundg (mb - (i + 1))
        case measure => omega
        case rel => exact ⟨i + 1, n2, t0, t1, t2, t3, mx, cx, j + kx, d8, lox, hix, Ax, B8, xx, us ++ vs2, zs ++ zx, by omega, by go_num, rfl, HG2, HFO2, hk3, hcx, HZ2, own8, zs_8, ra_8, Or.inl (by omega), by omega, bb_8, by omega⟩
    · obtain rfl : i = mb := by omega
      have hnlt : ¬ (i : Int) < (mp : Int) - 4 := by omega
      have hfu := HFULL.out
      have hgg := HG.out
      rw [List.take_of_length_le (by rw [HPL.out]; omega), hfu] at hgg
      injection hgg with g1 g2 g3 g4
      have HP := Lib.hid g3
      have HUS : Hid (zs = xsl) := Lib.hid (by rw [HZ.out, ← g1]; exact ints_pre hxl HLl.out)
      obtain rfl : n' = 0 := g2.symm
      clear hfu g1 g2 g3 g4 HG HZ HFO HFULL
      have hcapd := own5.cap
      obtain ⟨GH, hGH⟩ : ∃ q, q = wr.heap.size := ⟨_, rfl⟩
      have rg : RowIn .u32 wr (w9.heap.size + 1) GH B j zs := by rw [hGH]; exact own5.rowIn
      have hjl := rg.len
      have hjnl : j ≤ nl ∧ nl ≤ j := by rw [← hjl, HUS.out, HLl.out]; omega
      obtain ⟨hjn1, hjn2⟩ := hjnl
      have rg_20 := rg
      have s20 := bz_20.size
      have rl_20 := rl_9.below bz_20 (by omega)
      have rt_20 := rt_9.below bz_20 (by omega)
      have rp_20 := rp_9.below bz_20 (by omega)
      have re_20 := re_9.below bz_20 (by omega)
      have bb_20 : Below w.heap.size w wr := Below.after bb_9 bz_20 s0z
      have ks_20 := zs_20.cell; have fs_20 := zs_20.frozen; have ls_20 := zs_20.lt
      clear rl_9 rt_9 rp_9 re_9 bb_9 own5 rg ra_20
      go_wp2_with fail
      refine (dstart_ok _).mono ?_
      rintro e w21 ⟨rfl, b21⟩
      have s21 := b21.size
      try simp only [World.size_alloc, World.size_setCell, World.size_drew, size_drewN] at s21
      obtain ⟨zs_21, rl_21, rt_21, rp_21, re_21, rg_21, bb_21⟩ : Blk w21 (w9.heap.size) 64 [.int .i64 (0 : Int), .int .i64 (p0 : Int), .int .i64 (p1 : Int), .int .u64 (q0 : Int), .int .u64 (q1 : Int), .slice A' m' c', .int .i64 (((r.length : Nat)) : Int)] ∧ RowIn .u32 w21 (0) (w.heap.size) Al nl xsl ∧ RowIn .u8 w21 (0) (w.heap.size) (some ⟨0, 0, none⟩) 64 dbTab ∧ RowIn .u8 w21 (w2.heap.size + 1) (w3.heap.size) Ap mp xp ∧ RowIn .i64 w21 (w4.heap.size + 0) (w5.heap.size) Ae me ye ∧ RowIn .u32 w21 (w9.heap.size + 1) (GH) B j zs ∧ Below w.heap.size w w21 := by
        refine ⟨?_, ?_, ?_, ?_, ?_, ?_, ?_⟩
        all_goals repeat' (first | (with_reducible first | assumption | exact Below.refl _ _ | refine Blk.drewN ?_ _ | refine RowIn.drewN ?_ _ | refine below_drewN ?_ _ | refine Blk.drew ?_ | refine RowIn.drew ?_ | refine Below.drew ?_) | (with_reducible refine Blk.new' ?_ ?_ <;> first | (with_reducible rfl) | (simp; done)) | (with_reducible first | refine Blk.alloc ?_ _ | refine RowIn.alloc ?_ _ | refine Below.alloc ?_ ?_ _ | apply Blk.set' | apply Blk.far' | refine RowIn.far' ?_ ?_ _ | refine Below.far' ?_ ?_ _ | refine Blk.after ?_ b21 | refine RowIn.belowS ?_ b21 | refine Below.after ?_ b21 ?_) | (exact (Eq.refl _ : (_ : List Value) = _)) | omega | go_size)
      clear rl_20 rt_20 rp_20 re_20 rg_20 zs_20 bb_20 ks_20 fs_20 ls_20 b21
      have ks_21 := zs_21.cell; have fs_21 := zs_21.frozen; have ls_21 := zs_21.lt
      go_wp2_with fail
      have HP0 := HP
      have s0d : w.heap.size ≤ w21.heap.size := bb_21.size
      go_loopg [27] nl (fun k v wt => ∃ a a0 a1 b0 b1 : Nat, a + k = nl ∧ v = .int .i64 (a : Nat) ∧ Hid ((⟨a0, a1, b0, b1⟩ : Dual) = stP Cad.Code.start xsl a) ∧ Blk wt (w21.heap.size) 62 [.int .i64 (a0 : Int), .int .i64 (a1 : Int), .int .u64 (b0 : Int), .int .u64 (b1 : Int)] ∧ Below (w21.heap.size) w21 wt)
      case atStart =>
        refine ⟨0, 10, 10, 16384, 16384, by omega, rfl, Lib.hid rfl, ?_, ?_⟩
        all_goals repeat' (first | (with_reducible first | assumption | exact Below.refl _ _ | refine Blk.drewN ?_ _ | refine RowIn.drewN ?_ _ | refine below_drewN ?_ _ | refine Blk.drew ?_ | refine RowIn.drew ?_ | refine Below.drew ?_) | (with_reducible refine Blk.new' ?_ ?_ <;> first | (with_reducible rfl) | (simp; done)) | (with_reducible first | refine Blk.alloc ?_ _ | refine RowIn.alloc ?_ _ | refine Below.alloc ?_ ?_ _ | apply Blk.set' | apply Blk.far' | refine RowIn.far' ?_ ?_ _ | refine Below.far' ?_ ?_ _) | (exact (Eq.refl _ : (_ : List Value) = _)) | omega | go_size)
      case round =>
        obtain ⟨a, a0, a1, b0, b1, hak, rfl, HPA, zd_40, bz_40⟩ := hrel
        by_cases hlta : a < nl
        · have s40 := bz_40.size
          have rl_40 := rl_21.below bz_40 (by omega)
          have re_40 := re_21.below bz_40 (by omega)
          have kd_40 := zd_40.cell; have fd_40 := zd_40.frozen; have ld_40 := zd_40.lt
          have bb_40 := bz_40
          have bbD := bb_21
          clear zs_21 rl_21 rt_21 rp_21 re_21 rg_21 bb_21 ks_21 fs_21 ls_21
          have hme2 := hme.out
          obtain ⟨be, oe, rfl, hbe1, hbe2, hcell⟩ := re_40.2 (by omega)
          obtain ⟨bl, ol, rfl, hbl, hcelll⟩ := hal.at (by omega)
          obtain ⟨x, HX⟩ : ∃ x : Nat, Hid (lenAt Cad.Code.start xsl a = x) := ⟨_, Lib.hid rfl⟩
          have hx := lenAt_le start_ok hxl a
          rw [HX.out] at hx
          obtain ⟨hx1, hx2⟩ := hx
          obtain ⟨v, hv⟩ : ∃ v, nth xsl a = v := ⟨_, rfl⟩
          have hvb := hxl.nth (by decide) (by decide) a
          rw [hv] at hvb
          obtain ⟨v, rfl⟩ := Int.eq_ofNat_of_zero_le hvb.1
          have hv32 : v < 4294967296 := by omega
          have HV : Hid ((nth xsl a).toNat = v) := Lib.hid (by rw [hv]; rfl)
          have HNE : Hid (nth ye a = (x : Int)) := Lib.hid (by rw [HYe.out, nth_lens _ _ hlta, HX.out])
          have ham : a < me := by omega
          have HAM := Lib.hid ham
          have cl0 : w21.cell? ⟨bl, ol + a, none⟩ = some (.int .u32 (v : Int)) := (bbD.cell (p := ⟨bl, ol + a, none⟩) hbl).trans (by rw [hcelll a hlta, hv])
          have CL := Lib.hid cl0
          have hbL : bl < w21.heap.size := by omega
          clear cl0 hcell hcelll hv
          have hlt1 : (a : Int) < (nl : Int) := by omega
          have hlt2 : (a : Int) < (me : Int) := by omega
          clear hme2 ham
          have hpo : Dual.Ok ⟨a0, a1, b0, b1⟩ := by rw [HPA.out]; exact stP_ok start_ok hxl a
          have HPO := Lib.hid hpo
          have hdk : DOk (a0 : Int) (a1 : Int) (b0 : Int) (b1 : Int) := by obtain ⟨d0, d1, d2, d3⟩ : a0 ≤ 24 ∧ a1 ≤ 24 ∧ b0 ≤ 68719476735 ∧ b1 ≤ 68719476735 := id hpo; unfold DOk; omega
          have HDK := Lib.hid hdk
          clear hdk hpo
          have HXD : Hid (lenD ⟨a0, a1, b0, b1⟩ v = x) := Lib.hid (by rw [HPA.out, ← HV.out]; exact HX.out)
          obtain ⟨u0, u1, v0, v1, hu⟩ := Dual.four (learn ⟨a0, a1, b0, b1⟩ v)
          have HU := Lib.hid hu
          clear hu
          have HP2 : Hid ((⟨u0, u1, v0, v1⟩ : Dual) = stP Cad.Code.start xsl (a + 1)) := Lib.hid (by rw [stP_next, ← HPA.out, HV.out, HU.out])
          clear HPA
          have ex : ((x : Int) != (x : Int)) = false := by simp
          have cL_40 : wr.cell? ⟨bl, ol + a, none⟩ = some (.int .u32 (v : Int)) := (bb_40.cell (p := ⟨bl, ol + a, none⟩) hbL).trans CL.out
          go_wp2_with fail
          have kd_40d := (Blk.drew zd_40).cell
          have cL_40d : wr.drew.cell? ⟨bl, ol + a, none⟩ = some (.int .u32 (v : Int)) := cL_40
          go_region_held3 (fun w' => (∀ a, w'.cell? ⟨w21.heap.size, a, none⟩ = [.int .i64 (a0 : Int), .int .i64 (a1 : Int), .int .u64 (b0 : Int), .int .u64 (b1 : Int)][a]?) ∧ w'.cell? ⟨bl, ol + a, none⟩ = some (.int .u32 (v : Int))) (first | with_reducible exact ⟨kd_40, cL_40⟩ | with_reducible exact ⟨kd_40d, cL_40d⟩ | with_reducible exact ⟨kd_41, cL_41⟩ | with_reducible exact ⟨kd_42, cL_42⟩) (first
            | (go_simp; go_at_call 30; refine (rdcheck_any (a0 : Int) (a1 : Int) (b0 : Int) (b1 : Int) 0 _ (by omega) (by omega) (by rw [if_pos HDK.out])).mono ?_
               rintro e w41 ⟨rfl, b41⟩
               have s41 : wr.heap.size ≤ w41.heap.size := b41.size
               have zd_41 := ((Blk.drew zd_40)).after b41; have kd_41 := zd_41.cell; have fd_41 := zd_41.frozen; have ld_41 := zd_41.lt
               have rl_41 := ((RowIn.drew rl_40)).belowS b41
               have re_41 := ((RowIn.drew re_40)).belowS b41
               have bb_41 := Below.after (Below.drew bb_40) b41 bb_40.size
               have cL_41 : w41.cell? ⟨bl, ol + a, none⟩ = some (.int .u32 (v : Int)) := (bb_41.cell (p := ⟨bl, ol + a, none⟩) hbL).trans CL.out)
            | (go_simp; go_at_call 31; refine (apart12_ok _ HPO.out hv32).mono ?_
               rintro e w42 ⟨rfl, b42⟩
               have s42 : w41.heap.size ≤ w42.heap.size := b42.size
               have zd_42 := (zd_41).after b42; have kd_42 := zd_42.cell; have fd_42 := zd_42.frozen; have ld_42 := zd_42.lt
               have rl_42 := (rl_41).belowS b42
               have re_42 := (re_41).belowS b42
               have bb_42 := Below.after bb_41 b42 bb_41.size
               have cL_42 : w42.cell? ⟨bl, ol + a, none⟩ = some (.int .u32 (v : Int)) := (bb_42.cell (p := ⟨bl, ol + a, none⟩) hbL).trans CL.out))
          all_goals
            go_wp2_with fail
            have kd_42d := (Blk.drew zd_42).cell
            have cL_42d : w42.drew.cell? ⟨bl, ol + a, none⟩ = some (.int .u32 (v : Int)) := cL_42
            go_region_held3 (fun w' => (∀ a, w'.cell? ⟨w21.heap.size, a, none⟩ = [.int .i64 (a0 : Int), .int .i64 (a1 : Int), .int .u64 (b0 : Int), .int .u64 (b1 : Int)][a]?) ∧ w'.cell? ⟨bl, ol + a, none⟩ = some (.int .u32 (v : Int))) (first | with_reducible exact ⟨kd_42, cL_42⟩ | with_reducible exact ⟨kd_42d, cL_42d⟩ | with_reducible exact ⟨kd_43, cL_43⟩) (first
              | (go_simp; go_at_call 32; refine (dlen_c _ HPO.out hv32 HXD.out).mono ?_
                 rintro e w43 ⟨rfl, b43⟩
                 have s43 : w42.heap.size ≤ w43.heap.size := b43.size
                 have zd_43 := ((Blk.drew zd_42)).after b43; have kd_43 := zd_43.cell; have fd_43 := zd_43.frozen; have ld_43 := zd_43.lt
                 have rl_43 := ((RowIn.drew rl_42)).belowS b43
                 have re_43 := ((RowIn.drew re_42)).belowS b43
                 have bb_43 := Below.after (Below.drew bb_42) b43 bb_42.size
                 have cL_43 : w43.cell? ⟨bl, ol + a, none⟩ = some (.int .u32 (v : Int)) := (bb_43.cell (p := ⟨bl, ol + a, none⟩) hbL).trans CL.out))
            all_goals
              go_wp2_with fail
              apply merge2 (fun (gz : Nat) (wz : World) => Blk wz gz 62 [.int .i64 (u0 : Int), .int .i64 (u1 : Int), .int .u64 (v0 : Int), .int .u64 (v1 : Int)] ∧ w43.heap.size ≤ gz ∧ Blk wz (w21.heap.size) 62 [.int .i64 (a0 : Int), .int .i64 (a1 : Int), .int .u64 (b0 : Int), .int .u64 (b1 : Int)] ∧ RowIn .u32 wz (0) (w.heap.size) (some ⟨bl, ol, none⟩) nl xsl ∧ RowIn .i64 wz (w4.heap.size + 0) (w5.heap.size) (some ⟨be, oe, none⟩) me ye ∧ Below w21.heap.size w21 wz ∧ w43.heap.size ≤ wz.heap.size)
              case main =>
                intro key
                have na_0 : w21.heap.size ≤ w43.heap.size := by omega
                have nad_0 : w21.heap.size ≠ w43.heap.size := by omega
                have nrl_0 : w43.heap.size < 0 ∨ w.heap.size ≤ w43.heap.size := by omega
                have nre_0 : w43.heap.size < w4.heap.size + 0 ∨ w5.heap.size ≤ w43.heap.size := by omega
                go_region_held3 (fun w' => (∀ a, w'.cell? ⟨w21.heap.size, a, none⟩ = [.int .i64 (a0 : Int), .int .i64 (a1 : Int), .int .u64 (b0 : Int), .int .u64 (b1 : Int)][a]?) ∧ w'.cell? ⟨bl, ol + a, none⟩ = some (.int .u32 (v : Int))) (first | with_reducible exact ⟨kd_43, cL_43⟩ | (refine ⟨Blk.cell (t := 62) ?_, (Below.cell (p := ⟨bl, ol + a, none⟩) (B := w21.heap.size) (w := w21) ?_ hbL).trans CL.out⟩; all_goals repeat' (first | (with_reducible first | assumption | exact Below.refl _ _ | refine Blk.drewN ?_ _ | refine RowIn.drewN ?_ _ | refine below_drewN ?_ _ | refine Blk.drew ?_ | refine RowIn.drew ?_ | refine Below.drew ?_) | (with_reducible refine Blk.new' ?_ ?_ <;> first | (with_reducible rfl) | (simp; done)) | (with_reducible first | refine Blk.alloc ?_ _ | refine RowIn.alloc ?_ _ | refine Below.alloc ?_ ?_ _ | apply Blk.set' | apply Blk.far4 | apply RowIn.far4 | apply Below.far4 | apply Blk.far2 | apply RowIn.far2 | apply Below.far2 | apply Blk.far' | refine RowIn.far' ?_ ?_ _ | refine Below.far' ?_ ?_ _ | refine Blk.after ?_ bq | refine RowIn.belowS ?_ bq | refine Below.after ?_ bq ?_) | (exact (Eq.refl _ : (_ : List Value) = _)) | omega | go_size))) (
                  (go_simp; go_at_call 33; refine (dlearn_c _ HPO.out hv32 HU.out).mono ?_; rintro e wq ⟨rfl, bq⟩
                   have sq := bq.size
                   try simp only [World.size_alloc, World.size_setCell, World.size_drew, size_drewN] at sq
                   try (with_reducible (have zq1 := Blk.after (Blk.drew (Blk.new' (g := w43.heap.size) (t := 62) (l := [.int .i64 0, .int .i64 0, .int .u64 0, .int .u64 0]) rfl rfl)) bq); have kq1 := zq1.cell; have fq1 := zq1.frozen; have lq1 := zq1.lt)))
                all_goals
                  refine gen_world (fun wz hwz => ?_)
                  first
                  | (generalize hg0 : wq.heap.size = gz; refine key gz wz ?_; subst hg0; subst hwz; refine ⟨?_, ?_, ?_, ?_, ?_, ?_, ?_⟩ <;> ((repeat' (first | (with_reducible first | assumption | exact Below.refl _ _ | refine Blk.drewN ?_ _ | refine RowIn.drewN ?_ _ | refine below_drewN ?_ _ | refine Blk.drew ?_ | refine RowIn.drew ?_ | refine Below.drew ?_) | (with_reducible refine Blk.new' ?_ ?_ <;> first | (with_reducible rfl) | (simp; done)) | (with_reducible first | refine Blk.alloc ?_ _ | refine RowIn.alloc ?_ _ | refine Below.alloc ?_ ?_ _ | apply Blk.set' | apply Blk.far4 | apply RowIn.far4 | apply Below.far4 | apply Blk.far2 | apply RowIn.far2 | apply Below.far2 | apply Blk.far' | refine RowIn.far' ?_ ?_ _ | refine Below.far' ?_ ?_ _ | refine Blk.after ?_ bq | refine RowIn.belowS ?_ bq | refine Below.after ?_ bq ?_) | (exact (Eq.refl _ : (_ : List Value) = _)) | omega | go_size)); done))
                  | (generalize hg0 : w43.heap.size = gz; refine key gz wz ?_; subst hg0; subst hwz; refine ⟨?_, ?_, ?_, ?_, ?_, ?_, ?_⟩ <;> ((repeat' (first | (with_reducible first | assumption | exact Below.refl _ _ | refine Blk.drewN ?_ _ | refine RowIn.drewN ?_ _ | refine below_drewN ?_ _ | refine Blk.drew ?_ | refine RowIn.drew ?_ | refine Below.drew ?_) | (with_reducible refine Blk.new' ?_ ?_ <;> first | (with_reducible rfl) | (simp; done)) | (with_reducible first | refine Blk.alloc ?_ _ | refine RowIn.alloc ?_ _ | refine Below.alloc ?_ ?_ _ | apply Blk.set' | apply Blk.far4 | apply RowIn.far4 | apply Below.far4 | apply Blk.far2 | apply RowIn.far2 | apply Below.far2 | apply Blk.far' | refine RowIn.far' ?_ ?_ _ | refine Below.far' ?_ ?_ _ | refine Blk.after ?_ bq | refine RowIn.belowS ?_ bq | refine Below.after ?_ bq ?_) | (exact (Eq.refl _ : (_ : List Value) = _)) | omega | go_size)); done))
              case k =>
                intro gz w44 hF
                obtain ⟨zz0, hgz, zd_44, rl_44, re_44, bb_44, s44⟩ := hF
                clear zd_43 rl_43 re_43 bb_43 kd_43 fd_43 ld_43 cL_43
                have kd_44 := zd_44.cell; have fd_44 := zd_44.frozen; have ld_44 := zd_44.lt
                have zz_44 := zz0; have kz_44 := zz_44.cell; have fz_44 := zz_44.frozen; have lz_44 := zz_44.lt
                have c0_44 := RowIn.cellAt re_44 HAM.out HNE.out
                have hgdz : w21.heap.size ≠ gz := by omega
                go_wp2_with fail
                go_roundg (nl - (a + 1))
                case measure => omega
                case rel =>
                  refine ⟨a + 1, u0, u1, v0, v1, by omega, by go_num, HP2, ?_, ?_⟩
                  · first | (with_reducible exact Blk.drew (Blk.set4 zd_44)) | (with_reducible exact Blk.set4 zd_44) | exact Blk.set4 zd_44
                  all_goals repeat' (first | (with_reducible first | assumption | exact Below.refl _ _ | refine Blk.drewN ?_ _ | refine RowIn.drewN ?_ _ | refine below_drewN ?_ _ | refine Blk.drew ?_ | refine RowIn.drew ?_ | refine Below.drew ?_) | (with_reducible refine Blk.new' ?_ ?_ <;> first | (with_reducible rfl) | (simp; done)) | (with_reducible first | refine Blk.alloc ?_ _ | refine RowIn.alloc ?_ _ | refine Below.alloc ?_ ?_ _ | apply Blk.set' | apply Blk.far' | refine RowIn.far' ?_ ?_ _ | refine Below.far' ?_ ?_ _) | (exact (Eq.refl _ : (_ : List Value) = _)) | omega | go_size)
        · obtain rfl : a = nl := by omega
          have s40 := bz_40.size
          have rl_40 := rl_21.below bz_40 (by omega)
          have rp_40 := rp_21.below bz_40 (by omega)
          have rg_40 := rg_21.below bz_40 (by omega)
          have kd_40 := zd_40.cell; have fd_40 := zd_40.frozen; have ld_40 := zd_40.lt
          have zs_40 := zs_21.below bz_40 (by omega)
          have ks_40 := zs_40.cell; have fs_40 := zs_40.frozen; have ls_40 := zs_40.lt
          have bb_40 : Below w.heap.size w wr := Below.after bb_21 bz_40 s0d
          clear zs_21 rl_21 rt_21 rp_21 re_21 rg_21 bb_21 ks_21 fs_21 ls_21
          have hee := HPA.out
          rw [HP0.out] at hee
          injection hee with he0 he1 he2 he3
          obtain rfl : p0 = a0 := he0.symm
          obtain rfl : p1 = a1 := he1.symm
          obtain rfl : q0 = b0 := he2.symm
          obtain rfl : q1 = b1 := he3.symm
          have hnlt : ¬ (a : Int) < (a : Int) := by omega
          by_cases hx0 : ix < 0
          · have t1 : decide (ix < 0) = true := decide_eq_true (by omega)
            go_wp2_with fail
            refine (r9same_eq Al B a cl j d xsl zs _ (by exact RowIn.row (lo := 0) (hi := w.heap.size) (by repeat' (first | (with_reducible first | assumption | exact Below.refl _ _ | refine Blk.drewN ?_ _ | refine RowIn.drewN ?_ _ | refine below_drewN ?_ _ | refine Blk.drew ?_ | refine RowIn.drew ?_ | refine Below.drew ?_) | (with_reducible refine Blk.new' ?_ ?_ <;> first | (with_reducible rfl) | (simp; done)) | (with_reducible first | refine Blk.alloc ?_ _ | refine RowIn.alloc ?_ _ | refine Below.alloc ?_ ?_ _ | apply Blk.set' | apply Blk.far' | refine RowIn.far' ?_ ?_ _ | refine Below.far' ?_ ?_ _) | (exact (Eq.refl _ : (_ : List Value) = _)) | omega | go_size))) (by exact RowIn.row (lo := w9.heap.size + 1) (hi := GH) (by repeat' (first | (with_reducible first | assumption | exact Below.refl _ _ | refine Blk.drewN ?_ _ | refine RowIn.drewN ?_ _ | refine below_drewN ?_ _ | refine Blk.drew ?_ | refine RowIn.drew ?_ | refine Below.drew ?_) | (with_reducible refine Blk.new' ?_ ?_ <;> first | (with_reducible rfl) | (simp; done)) | (with_reducible first | refine Blk.alloc ?_ _ | refine RowIn.alloc ?_ _ | refine Below.alloc ?_ ?_ _ | apply Blk.set' | apply Blk.far' | refine RowIn.far' ?_ ?_ _ | refine Below.far' ?_ ?_ _) | (exact (Eq.refl _ : (_ : List Value) = _)) | omega | go_size))) (by omega) HUS.out.symm).mono ?_
            rintro e w41 ⟨rfl, b41⟩
            have s41 := b41.size
            try simp only [World.size_alloc, World.size_setCell, World.size_drew, size_drewN] at s41
            obtain ⟨zd_41, zs_41, rl_41, rp_41, rg_41, bb_41⟩ : Blk w41 (w21.heap.size) 62 [.int .i64 (p0 : Int), .int .i64 (p1 : Int), .int .u64 (q0 : Int), .int .u64 (q1 : Int)] ∧ Blk w41 (w9.heap.size) 64 [.int .i64 (0 : Int), .int .i64 (p0 : Int), .int .i64 (p1 : Int), .int .u64 (q0 : Int), .int .u64 (q1 : Int), .slice A' m' c', .int .i64 (((r.length : Nat)) : Int)] ∧ RowIn .u32 w41 (0) (w.heap.size) Al a xsl ∧ RowIn .u8 w41 (w2.heap.size + 1) (w3.heap.size) Ap mp xp ∧ RowIn .u32 w41 (w9.heap.size + 1) (GH) B j zs ∧ Below w.heap.size w w41 := by
              refine ⟨?_, ?_, ?_, ?_, ?_, ?_⟩
              all_goals repeat' (first | (with_reducible first | assumption | exact Below.refl _ _ | refine Blk.drewN ?_ _ | refine RowIn.drewN ?_ _ | refine below_drewN ?_ _ | refine Blk.drew ?_ | refine RowIn.drew ?_ | refine Below.drew ?_) | (with_reducible refine Blk.new' ?_ ?_ <;> first | (with_reducible rfl) | (simp; done)) | (with_reducible first | refine Blk.alloc ?_ _ | refine RowIn.alloc ?_ _ | refine Below.alloc ?_ ?_ _ | apply Blk.set' | apply Blk.far' | refine RowIn.far' ?_ ?_ _ | refine Below.far' ?_ ?_ _ | refine Blk.after ?_ b41 | refine RowIn.belowS ?_ b41 | refine Below.after ?_ b41 ?_) | (exact (Eq.refl _ : (_ : List Value) = _)) | omega | go_size)
            clear rl_40 rp_40 rg_40 zd_40 zs_40 bb_40 kd_40 ks_40 fd_40 fs_40 ld_40 ls_40 b41
            have kd_41 := zd_41.cell; have fd_41 := zd_41.frozen; have ld_41 := zd_41.lt
            have ks_41 := zs_41.cell; have fs_41 := zs_41.frozen; have ls_41 := zs_41.lt
            go_wp2
            go_ret
            refine ⟨rfl, ?_⟩
            repeat' (first | (with_reducible first | assumption | exact Below.refl _ _ | refine Blk.drewN ?_ _ | refine RowIn.drewN ?_ _ | refine below_drewN ?_ _ | refine Blk.drew ?_ | refine RowIn.drew ?_ | refine Below.drew ?_) | (with_reducible refine Blk.new' ?_ ?_ <;> first | (with_reducible rfl) | (simp; done)) | (with_reducible first | refine Blk.alloc ?_ _ | refine RowIn.alloc ?_ _ | refine Below.alloc ?_ ?_ _ | apply Blk.set' | apply Blk.far' | refine RowIn.far' ?_ ?_ _ | refine Below.far' ?_ ?_ _) | (exact (Eq.refl _ : (_ : List Value) = _)) | omega | go_size)
          have t1 : decide (ix < 0) = false := decide_eq_false (by omega)
          obtain ⟨y, rfl⟩ := Int.eq_ofNat_of_zero_le (by omega : 0 ≤ ix)
          by_cases hx2 : mp ≤ y
          · have t2 : decide ((mp : Int) ≤ (y : Int)) = true := decide_eq_true (by omega)
            go_wp2_with fail
            refine (r9same_eq Al B a cl j d xsl zs _ (by exact RowIn.row (lo := 0) (hi := w.heap.size) (by repeat' (first | (with_reducible first | assumption | exact Below.refl _ _ | refine Blk.drewN ?_ _ | refine RowIn.drewN ?_ _ | refine below_drewN ?_ _ | refine Blk.drew ?_ | refine RowIn.drew ?_ | refine Below.drew ?_) | (with_reducible refine Blk.new' ?_ ?_ <;> first | (with_reducible rfl) | (simp; done)) | (with_reducible first | refine Blk.alloc ?_ _ | refine RowIn.alloc ?_ _ | refine Below.alloc ?_ ?_ _ | apply Blk.set' | apply Blk.far' | refine RowIn.far' ?_ ?_ _ | refine Below.far' ?_ ?_ _) | (exact (Eq.refl _ : (_ : List Value) = _)) | omega | go_size))) (by exact RowIn.row (lo := w9.heap.size + 1) (hi := GH) (by repeat' (first | (with_reducible first | assumption | exact Below.refl _ _ | refine Blk.drewN ?_ _ | refine RowIn.drewN ?_ _ | refine below_drewN ?_ _ | refine Blk.drew ?_ | refine RowIn.drew ?_ | refine Below.drew ?_) | (with_reducible refine Blk.new' ?_ ?_ <;> first | (with_reducible rfl) | (simp; done)) | (with_reducible first | refine Blk.alloc ?_ _ | refine RowIn.alloc ?_ _ | refine Below.alloc ?_ ?_ _ | apply Blk.set' | apply Blk.far' | refine RowIn.far' ?_ ?_ _ | refine Below.far' ?_ ?_ _) | (exact (Eq.refl _ : (_ : List Value) = _)) | omega | go_size))) (by omega) HUS.out.symm).mono ?_
            rintro e w41 ⟨rfl, b41⟩
            have s41 := b41.size
            try simp only [World.size_alloc, World.size_setCell, World.size_drew, size_drewN] at s41
            obtain ⟨zd_41, zs_41, rl_41, rp_41, rg_41, bb_41⟩ : Blk w41 (w21.heap.size) 62 [.int .i64 (p0 : Int), .int .i64 (p1 : Int), .int .u64 (q0 : Int), .int .u64 (q1 : Int)] ∧ Blk w41 (w9.heap.size) 64 [.int .i64 (0 : Int), .int .i64 (p0 : Int), .int .i64 (p1 : Int), .int .u64 (q0 : Int), .int .u64 (q1 : Int), .slice A' m' c', .int .i64 (((r.length : Nat)) : Int)] ∧ RowIn .u32 w41 (0) (w.heap.size) Al a xsl ∧ RowIn .u8 w41 (w2.heap.size + 1) (w3.heap.size) Ap mp xp ∧ RowIn .u32 w41 (w9.heap.size + 1) (GH) B j zs ∧ Below w.heap.size w w41 := by
              refine ⟨?_, ?_, ?_, ?_, ?_, ?_⟩
              all_goals repeat' (first | (with_reducible first | assumption | exact Below.refl _ _ | refine Blk.drewN ?_ _ | refine RowIn.drewN ?_ _ | refine below_drewN ?_ _ | refine Blk.drew ?_ | refine RowIn.drew ?_ | refine Below.drew ?_) | (with_reducible refine Blk.new' ?_ ?_ <;> first | (with_reducible rfl) | (simp; done)) | (with_reducible first | refine Blk.alloc ?_ _ | refine RowIn.alloc ?_ _ | refine Below.alloc ?_ ?_ _ | apply Blk.set' | apply Blk.far' | refine RowIn.far' ?_ ?_ _ | refine Below.far' ?_ ?_ _ | refine Blk.after ?_ b41 | refine RowIn.belowS ?_ b41 | refine Below.after ?_ b41 ?_) | (exact (Eq.refl _ : (_ : List Value) = _)) | omega | go_size)
            clear rl_40 rp_40 rg_40 zd_40 zs_40 bb_40 kd_40 ks_40 fd_40 fs_40 ld_40 ls_40 b41
            have kd_41 := zd_41.cell; have fd_41 := zd_41.frozen; have ld_41 := zd_41.lt
            have ks_41 := zs_41.cell; have fs_41 := zs_41.frozen; have ls_41 := zs_41.lt
            go_wp2
            go_ret
            refine ⟨rfl, ?_⟩
            repeat' (first | (with_reducible first | assumption | exact Below.refl _ _ | refine Blk.drewN ?_ _ | refine RowIn.drewN ?_ _ | refine below_drewN ?_ _ | refine Blk.drew ?_ | refine RowIn.drew ?_ | refine Below.drew ?_) | (with_reducible refine Blk.new' ?_ ?_ <;> first | (with_reducible rfl) | (simp; done)) | (with_reducible first | refine Blk.alloc ?_ _ | refine RowIn.alloc ?_ _ | refine Below.alloc ?_ ?_ _ | apply Blk.set' | apply Blk.far' | refine RowIn.far' ?_ ?_ _ | refine Below.far' ?_ ?_ _) | (exact (Eq.refl _ : (_ : List Value) = _)) | omega | go_size)
          have t2 : decide ((mp : Int) ≤ (y : Int)) = false := decide_eq_false (by omega)
          go_wp2_with fail
          refine (r9same_eq Al B a cl j d xsl zs _ (by exact RowIn.row (lo := 0) (hi := w.heap.size) (by repeat' (first | (with_reducible first | assumption | exact Below.refl _ _ | refine Blk.drewN ?_ _ | refine RowIn.drewN ?_ _ | refine below_drewN ?_ _ | refine Blk.drew ?_ | refine RowIn.drew ?_ | refine Below.drew ?_) | (with_reducible refine Blk.new' ?_ ?_ <;> first | (with_reducible rfl) | (simp; done)) | (with_reducible first | refine Blk.alloc ?_ _ | refine RowIn.alloc ?_ _ | refine Below.alloc ?_ ?_ _ | apply Blk.set' | apply Blk.far' | refine RowIn.far' ?_ ?_ _ | refine Below.far' ?_ ?_ _) | (exact (Eq.refl _ : (_ : List Value) = _)) | omega | go_size))) (by exact RowIn.row (lo := w9.heap.size + 1) (hi := GH) (by repeat' (first | (with_reducible first | assumption | exact Below.refl _ _ | refine Blk.drewN ?_ _ | refine RowIn.drewN ?_ _ | refine below_drewN ?_ _ | refine Blk.drew ?_ | refine RowIn.drew ?_ | refine Below.drew ?_) | (with_reducible refine Blk.new' ?_ ?_ <;> first | (with_reducible rfl) | (simp; done)) | (with_reducible first | refine Blk.alloc ?_ _ | refine RowIn.alloc ?_ _ | refine Below.alloc ?_ ?_ _ | apply Blk.set' | apply Blk.far' | refine RowIn.far' ?_ ?_ _ | refine Below.far' ?_ ?_ _) | (exact (Eq.refl _ : (_ : List Value) = _)) | omega | go_size))) (by omega) HUS.out.symm).mono ?_
          rintro e w41 ⟨rfl, b41⟩
          have s41 := b41.size
          try simp only [World.size_alloc, World.size_setCell, World.size_drew, size_drewN] at s41
          obtain ⟨zd_41, zs_41, rl_41, rp_41, rg_41, bb_41⟩ : Blk w41 (w21.heap.size) 62 [.int .i64 (p0 : Int), .int .i64 (p1 : Int), .int .u64 (q0 : Int), .int .u64 (q1 : Int)] ∧ Blk w41 (w9.heap.size) 64 [.int .i64 (0 : Int), .int .i64 (p0 : Int), .int .i64 (p1 : Int), .int .u64 (q0 : Int), .int .u64 (q1 : Int), .slice A' m' c', .int .i64 (((r.length : Nat)) : Int)] ∧ RowIn .u32 w41 (0) (w.heap.size) Al a xsl ∧ RowIn .u8 w41 (w2.heap.size + 1) (w3.heap.size) Ap mp xp ∧ RowIn .u32 w41 (w9.heap.size + 1) (GH) B j zs ∧ Below w.heap.size w w41 := by
            refine ⟨?_, ?_, ?_, ?_, ?_, ?_⟩
            all_goals repeat' (first | (with_reducible first | assumption | exact Below.refl _ _ | refine Blk.drewN ?_ _ | refine RowIn.drewN ?_ _ | refine below_drewN ?_ _ | refine Blk.drew ?_ | refine RowIn.drew ?_ | refine Below.drew ?_) | (with_reducible refine Blk.new' ?_ ?_ <;> first | (with_reducible rfl) | (simp; done)) | (with_reducible first | refine Blk.alloc ?_ _ | refine RowIn.alloc ?_ _ | refine Below.alloc ?_ ?_ _ | apply Blk.set' | apply Blk.far' | refine RowIn.far' ?_ ?_ _ | refine Below.far' ?_ ?_ _ | refine Blk.after ?_ b41 | refine RowIn.belowS ?_ b41 | refine Below.after ?_ b41 ?_) | (exact (Eq.refl _ : (_ : List Value) = _)) | omega | go_size)
          clear rl_40 rp_40 rg_40 zd_40 zs_40 bb_40 kd_40 ks_40 fd_40 fs_40 ld_40 ls_40 b41
          have kd_41 := zd_41.cell; have fd_41 := zd_41.frozen; have ld_41 := zd_41.lt
          have ks_41 := zs_41.cell; have fs_41 := zs_41.frozen; have ls_41 := zs_41.lt
          go_wp2_with (at_builtin; refine wpList_app _ u8E rfl _ _ rfl w41.heap.size _ _ _ [] rfl (own_empty w41 _ _ (Nat.le_refl _)) _ _ _ xp rfl (rp_41.row.alloc _) (by omega) (by simp) ?_)
          intro Ao co w42 own1 hg1 _
          have b42 : Below w41.heap.size w41 w42 := Below.grown ((Below.refl _ _).alloc (Nat.le_refl _) _) hg1 (by simp) (fun g e => by simp [blockOf] at e; omega)
          try rw [List.nil_append] at own1
          try simp only [Nat.zero_add] at own1
          try simp only [Nat.zero_add]
          have s42 := b42.size
          try simp only [World.size_alloc, World.size_setCell, World.size_drew, size_drewN] at s42
          have bb_42 : Below w.heap.size w w42 := by
            repeat' (first | (with_reducible first | assumption | exact Below.refl _ _ | refine Blk.drewN ?_ _ | refine RowIn.drewN ?_ _ | refine below_drewN ?_ _ | refine Blk.drew ?_ | refine RowIn.drew ?_ | refine Below.drew ?_) | (with_reducible refine Blk.new' ?_ ?_ <;> first | (with_reducible rfl) | (simp; done)) | (with_reducible first | refine Blk.alloc ?_ _ | refine RowIn.alloc ?_ _ | refine Below.alloc ?_ ?_ _ | apply Blk.set' | apply Blk.far' | refine RowIn.far' ?_ ?_ _ | refine Below.far' ?_ ?_ _ | refine Blk.after ?_ b42 | refine RowIn.belowS ?_ b42 | refine Below.after ?_ b42 ?_) | (exact (Eq.refl _ : (_ : List Value) = _)) | omega | go_size)
          clear zd_41 zs_41 rl_41 rp_41 rg_41 bb_41 kd_41 fd_41 ld_41 ks_41 fs_41 ls_41 b42
          obtain ⟨hA0, hn0, _, _⟩ | ⟨g, rest, rfl, hbg, hnc, hcm, hcr, hblk⟩ := own1.cases
          · omega
          have hll : xp.length = mp := own1.len
          clear own1 hg1
          obtain ⟨z, hz⟩ : ∃ z : Nat, nth xp y = (z : Int) := ⟨(nth xp y).toNat, by have := HPW.out.nth (by decide) (by decide) y; omega⟩
          have hz8 : z < 256 := by have := HPW.out.nth (by decide) (by decide) y; omega
          have hzi : ((z : Nat) : Int) < 256 := by omega
          have kc : w42.cell? ⟨g, y, none⟩ = some (.int .u8 (z : Int)) := by
            rw [hblk.cell, List.getElem?_append_left (by rw [List.length_map, hll]; omega), getElem?_map_nth (by rw [hll]; omega), hz]
          have kf : w42.frozen? ⟨g, y, none⟩ = false := hblk.frozen y
          have hyi : (y : Int) < (mp : Int) := by omega
          have HXO : Hid (bits .xor .u8 (z : Int) 64 = ((z ^^^ 64 : Nat) : Int)) := Lib.hid (xor_u8 z 64 hz8 (by decide))
          have HB2 := Lib.hid hblk
          have HUF : Hid (unpR (xp.set y (((z ^^^ 64 : Nat)) : Int)) = ([], 22)) := Lib.hid (by
            have h := unp_flip64 (pack_u8 xb) (by rw [HPL.out]; omega) (i := y) (by rw [← HXp.out, hll]; omega)
            rw [← HXp.out, hz, Int.toNat_natCast] at h
            exact h)
          have HWF : Hid (Within 0 255 (xp.set y (((z ^^^ 64 : Nat)) : Int))) := Lib.hid (set_within HPW.out (xor64_lt hz8))
          have HLL := Lib.hid hll
          have HCR := Lib.hid hcr
          clear hblk hz hll hcr
          go_wp2_with fail
          clear kc kf
          have own2 := Own.mk (base := w41.heap.size) hbg (by rw [List.length_set, HLL.out]) HCR.out hcm (show Blk (w42.setCell ⟨g, y, none⟩ (.int .u8 ((z ^^^ 64 : Nat) : Int))) g 5 ((xp.set y (((z ^^^ 64 : Nat)) : Int)).map (Value.int .u8) ++ rest) by
            have hb := HB2.out.set y (.int .u8 ((z ^^^ 64 : Nat) : Int))
            rw [List.set_append_left _ _ (by rw [List.length_map, HLL.out]; omega), ← List.map_set] at hb
            exact hb)
          rw [HXO.out]
          have rq := own2.rowIn
          have hcq := own2.rowC.2
          have bbq : Below w.heap.size w (w42.setCell ⟨g, y, none⟩ (.int .u8 ((z ^^^ 64 : Nat) : Int))) := Below.far' bb_42 (by omega) _
          refine (unp_c (some ⟨g, 0, none⟩) mp co (xp.set y (((z ^^^ 64 : Nat)) : Int)) _ [] 22 (by first | exact rq.row | exact rq.drew.row | exact (rq.alloc _).row) HWF.out hcq HUF.out).mono ?_
          rintro e wf ⟨Af, mf, cf, xf, rfl, hcf, rf, HXf, bf⟩
          have sbf := bf.size
          have sbq := bbq.size
          try simp only [World.size_alloc, World.size_setCell, World.size_drew, size_drewN] at sbf sbq
          have sbz : w.heap.size ≤ wf.heap.size := by omega
          go_wp2
          go_ret
          refine ⟨rfl, ?_⟩
          repeat' (first | (with_reducible first | assumption | exact Below.refl _ _ | refine Blk.drewN ?_ _ | refine RowIn.drewN ?_ _ | refine below_drewN ?_ _ | refine Blk.drew ?_ | refine RowIn.drew ?_ | refine Below.drew ?_) | (with_reducible refine Blk.new' ?_ ?_ <;> first | (with_reducible rfl) | (simp; done)) | (with_reducible first | refine Blk.alloc ?_ _ | refine RowIn.alloc ?_ _ | refine Below.alloc ?_ ?_ _ | apply Blk.set' | apply Blk.far' | refine RowIn.far' ?_ ?_ _ | refine Below.far' ?_ ?_ _ | refine Blk.after ?_ bf | refine RowIn.belowS ?_ bf | refine Below.after ?_ bf ?_) | (exact (Eq.refl _ : (_ : List Value) = _)) | omega | go_size)


end Go.Proofs.YtpohaikbbfochaaDoor
