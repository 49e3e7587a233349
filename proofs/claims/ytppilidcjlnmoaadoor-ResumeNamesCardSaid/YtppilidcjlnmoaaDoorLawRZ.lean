/-
  The examples of chapter 10.
-/
import Derived.Test.YtppilidcjlnmoaaDoorResC
namespace Go.Proofs.YtppilidcjlnmoaaDoor
open Go.RowKit Cad Cad.Bit Cad.Code
set_option linter.unusedVariables false
set_option linter.unusedSimpArgs false


def PSt (n p0 p1 q0 q1 m c : Nat) (A : Option Addr) (bs : List Bool) : Value := .agg #[.int .i64 (n : Int), .int .i64 (p0 : Int), .int .i64 (p1 : Int), .int .u64 (q0 : Int), .int .u64 (q1 : Int), .slice A m c, .int .i64 (((bs.length : Nat)) : Int)]
/-- What Feed hands back where all goes well, its results named. -/
theorem rfeed_c (n x0 x1 y0 y1 m c : Nat) (A : Option Addr) (bs : List Bool) (D : Option Addr) (nb cb : Nat) (xs : List Int) {vs : List Nat} {n2 u0 u1 v0 v1 : Nat} {r : List Bool} (w : World) (hn : n ≤ 4000) (hf : FOk n ⟨x0, x1, y0, y1⟩ bs) (ha : Row .u8 w A m (pack bs)) (hc : m ≤ c ∧ c ≤ 9223372036854775807) (hd : Row .u8 w D nb xs) (hdc : nb ≤ cb ∧ cb ≤ 9223372036854775807) (hx : Within 0 255 xs) (ht : Tab w) (hb : nb ≤ 41000) (he : feed n ⟨x0, x1, y0, y1⟩ (bs ++ unpack xs) = .ok vs n2 ⟨u0, u1, v0, v1⟩ r) :
    Calls Tryd.prog 24 #[.agg #[.int .i64 (n : Int), .int .i64 (x0 : Int), .int .i64 (x1 : Int), .int .u64 (y0 : Int), .int .u64 (y1 : Int), .slice A m c, .int .i64 (((bs.length : Nat)) : Int)], .slice D nb cb] w fun e w' => ∃ (m' c' k d : Nat) (A' B : Option Addr) (r' : List Bool) (zs : List Int), e = .returned (.tuple #[.agg #[.int .i64 (n2 : Int), .int .i64 (u0 : Int), .int .i64 (u1 : Int), .int .u64 (v0 : Int), .int .u64 (v1 : Int), .slice A' m' c', .int .i64 (((r'.length : Nat)) : Int)], .slice B k d, .int .i64 0]) ∧ (m' ≤ c' ∧ c' ≤ 9223372036854775807) ∧ Hid (r' = r) ∧ RowIn .u8 w' w.heap.size w'.heap.size A' m' (pack r') ∧ (k ≤ d ∧ d ≤ 9223372036854775807) ∧ Hid (zs = ints vs) ∧ RowIn .u32 w' w.heap.size w'.heap.size B k zs ∧ Below w.heap.size w w' := by
  have h := rfeed_ok n x0 x1 y0 y1 m c A bs D nb cb xs w hn hf ha hc hd hdc hx ht hb
  rw [he] at h
  refine h.mono ?_
  rintro e w' ⟨hbel, p0, p1, q0, q1, m', c', k, d, A', B, r', zs, rfl, HD, h1, h2, h3, h4, h5, h6⟩
  have hd2 := HD.out
  injection hd2 with e1 e2 e3 e4
  exact ⟨m', c', k, d, A', B, r', zs, by rw [e1, e2, e3, e4], h1, h2, h3, h4, h5, h6, hbel⟩
theorem rfeed_e (n x0 x1 y0 y1 m c : Nat) (A : Option Addr) (bs : List Bool) (D : Option Addr) (nb cb : Nat) (xs : List Int) {er : Nat} (w : World) (hn : n ≤ 4000) (hf : FOk n ⟨x0, x1, y0, y1⟩ bs) (ha : Row .u8 w A m (pack bs)) (hc : m ≤ c ∧ c ≤ 9223372036854775807) (hd : Row .u8 w D nb xs) (hdc : nb ≤ cb ∧ cb ≤ 9223372036854775807) (hx : Within 0 255 xs) (ht : Tab w) (hb : nb ≤ 41000) (he : feed n ⟨x0, x1, y0, y1⟩ (bs ++ unpack xs) = .err er) :
    Calls Tryd.prog 24 #[.agg #[.int .i64 (n : Int), .int .i64 (x0 : Int), .int .i64 (x1 : Int), .int .u64 (y0 : Int), .int .u64 (y1 : Int), .slice A m c, .int .i64 (((bs.length : Nat)) : Int)], .slice D nb cb] w (RetF w (.err er)) := by
  have h := rfeed_ok n x0 x1 y0 y1 m c A bs D nb cb xs w hn hf ha hc hd hdc hx ht hb
  rw [he] at h; exact h
theorem ex10a : feed 1 Cad.Code.start ([] ++ unpack [10]) = .ok [] 1 ⟨10, 10, 16384, 16384⟩ (lowBits 10 8) := by rfl
theorem ex10b : feed 1 Cad.Code.start (lowBits 10 8 ++ unpack [0]) = .ok [5] 0 ⟨9, 10, 15365, 16384⟩ [false, false, false, false, false] := by rfl
theorem fok10 {n : Nat} (hn : n ≤ 4000) : FOk n Cad.Code.start [] := ⟨start_ok, by
  split
  · simp
  · rfl⟩
theorem fok10b : FOk 1 Cad.Code.start (lowBits 10 8) := ⟨start_ok, by rw [if_neg (by omega)]; rfl⟩
set_option maxRecDepth 100000 in
set_option maxHeartbeats 4000000 in
theorem alive10 (w : World) (ht : Tab w) :
    Calls Tryd.prog 38 #[] w fun e w' => e = .returned (.bool true) ∧ Below w.heap.size w w' := by
  have hti : RowIn .u8 w 0 w.heap.size (some ⟨0, 0, none⟩) 64 dbTab := ht.rowIn
  go_enter Tryd.func38, Tryd.ntmps38
  go_wp2_with fail
  refine (rst_ok 1 _ (by omega)).mono ?_
  rintro e w1 ⟨rfl, b1⟩
  have s1 := b1.size
  try simp only [World.size_alloc, World.size_setCell, World.size_drew, size_drewN] at s1
  obtain ⟨rt_1, bb_1⟩ : RowIn .u8 w1 (0) (w.heap.size) (some ⟨0, 0, none⟩) 64 dbTab ∧ Below w.heap.size w w1 := by
    refine ⟨?_, ?_⟩
    all_goals repeat' (first | (with_reducible assumption) | (with_reducible exact Below.refl _ _) | (with_reducible refine Blk.drewN ?_ _) | (with_reducible refine RowIn.drewN ?_ _) | (with_reducible refine below_drewN ?_ _) | (with_reducible refine Blk.drew ?_) | (with_reducible refine RowIn.drew ?_) | (with_reducible refine Below.drew ?_) | (with_reducible refine Blk.new' ?_ ?_ <;> first | (with_reducible rfl) | (simp; done)) | (with_reducible refine Blk.alloc ?_ _) | (with_reducible refine RowIn.alloc ?_ _) | (with_reducible refine Below.alloc ?_ ?_ _) | (with_reducible apply Blk.set') | (with_reducible apply Blk.far') | (with_reducible refine RowIn.far' ?_ ?_ _) | (with_reducible refine Below.far' ?_ ?_ _) | (with_reducible refine Blk.after ?_ b1) | (with_reducible refine RowIn.belowS ?_ b1) | (with_reducible refine Below.after ?_ b1 ?_) | rfl | omega | go_size)
  clear b1
  go_wp2_with fail
  have rp : Row .u8 ((w1.alloc (.cells #[.int .i64 1, .int .i64 10, .int .i64 10, .int .u64 16384, .int .u64 16384, .slice none 0 0, .int .i64 0] 40)).alloc (.cells #[.int .u8 10] 5)) (some ⟨w1.heap.size + 1, 0, none⟩) 1 [10] := row_one' (by simp)
  refine (rfeed_c 1 10 10 16384 16384 0 0 none [] (some ⟨w1.heap.size + 1, 0, none⟩) 1 1 [10] _ (by omega) (fok10 (by omega)) Row.nil ⟨Nat.le_refl _, Nat.zero_le _⟩ rp ⟨Nat.le_refl _, by omega⟩ (by intro x hx; simp at hx; omega) (by exact RowIn.row (lo := 0) (hi := w.heap.size) (by repeat' (first | (with_reducible assumption) | (with_reducible exact Below.refl _ _) | (with_reducible refine Blk.drewN ?_ _) | (with_reducible refine RowIn.drewN ?_ _) | (with_reducible refine below_drewN ?_ _) | (with_reducible refine Blk.drew ?_) | (with_reducible refine RowIn.drew ?_) | (with_reducible refine Below.drew ?_) | (with_reducible refine Blk.new' ?_ ?_ <;> first | (with_reducible rfl) | (simp; done)) | (with_reducible refine Blk.alloc ?_ _) | (with_reducible refine RowIn.alloc ?_ _) | (with_reducible refine Below.alloc ?_ ?_ _) | (with_reducible apply Blk.set') | (with_reducible apply Blk.far') | (with_reducible refine RowIn.far' ?_ ?_ _) | (with_reducible refine Below.far' ?_ ?_ _) | rfl | omega | go_size))) (by omega) ex10a).mono ?_
  rintro e w2 ⟨ma, ca, ka, da, Aa, Ba, xa, za, rfl, hca, HXa, ra, hda, HZa, rla, b2⟩
  have lna := rla.len
  replace ra := ra.mono (lo' := w1.heap.size + 1) (by go_size) (Nat.le_refl _)
  replace rla := rla.mono (lo' := w1.heap.size + 1) (by go_size) (Nat.le_refl _)
  have s2 := b2.size
  try simp only [World.size_alloc, World.size_setCell, World.size_drew, size_drewN] at s2
  obtain ⟨zs_2, rt_2, ra_2, rla_2, bb_2⟩ : Blk w2 (w1.heap.size) 40 [.int .i64 1, .int .i64 10, .int .i64 10, .int .u64 16384, .int .u64 16384, .slice none 0 0, .int .i64 0] ∧ RowIn .u8 w2 (0) (w.heap.size) (some ⟨0, 0, none⟩) 64 dbTab ∧ RowIn .u8 w2 (w1.heap.size + 1) (w2.heap.size) Aa ma (pack xa) ∧ RowIn .u32 w2 (w1.heap.size + 1) (w2.heap.size) Ba ka za ∧ Below w.heap.size w w2 := by
    refine ⟨?_, ?_, ?_, ?_, ?_⟩
    all_goals repeat' (first | (with_reducible assumption) | (with_reducible exact Below.refl _ _) | (with_reducible refine Blk.drewN ?_ _) | (with_reducible refine RowIn.drewN ?_ _) | (with_reducible refine below_drewN ?_ _) | (with_reducible refine Blk.drew ?_) | (with_reducible refine RowIn.drew ?_) | (with_reducible refine Below.drew ?_) | (with_reducible refine Blk.new' ?_ ?_ <;> first | (with_reducible rfl) | (simp; done)) | (with_reducible refine Blk.alloc ?_ _) | (with_reducible refine RowIn.alloc ?_ _) | (with_reducible refine Below.alloc ?_ ?_ _) | (with_reducible apply Blk.set') | (with_reducible apply Blk.far') | (with_reducible refine RowIn.far' ?_ ?_ _) | (with_reducible refine Below.far' ?_ ?_ _) | (with_reducible refine Blk.after ?_ b2) | (with_reducible refine RowIn.belowS ?_ b2) | (with_reducible refine Below.after ?_ b2 ?_) | rfl | omega | go_size)
  clear rt_1 bb_1 b2
  have ks_2 := zs_2.cell; have fs_2 := zs_2.frozen; have ls_2 := zs_2.lt
  clear ra rla
  have HA8 : Hid (xa = lowBits 10 8) := HXa
  have Lxa : xa.length ≤ 8 ∧ 8 ≤ xa.length := by rw [HA8.out, lowBits_len]; omega
  obtain ⟨Lxa1, Lxa2⟩ := Lxa
  have ta8 : (((xa.length : Nat) : Int) == 8) = true := beq_iff_eq.2 (by omega)
  obtain rfl : ka = 0 := by rw [← lna, HZa.out]; rfl
  go_wp2_with fail
  have rp2 : Row .u8 ((w2.alloc (.cells #[.int .i64 1, .int .i64 10, .int .i64 10, .int .u64 16384, .int .u64 16384, .slice Aa ma ca, .int .i64 ((xa.length : Nat) : Int)] 40)).alloc (.cells #[.int .u8 0] 5)) (some ⟨w2.heap.size + 1, 0, none⟩) 1 [0] := row_one' (by simp)
  refine (rfeed_c 1 10 10 16384 16384 ma ca Aa xa (some ⟨w2.heap.size + 1, 0, none⟩) 1 1 [0] _ (by omega) (by rw [HA8.out]; exact fok10b) (by exact RowIn.row (lo := w1.heap.size + 1) (hi := w2.heap.size) (by repeat' (first | (with_reducible assumption) | (with_reducible exact Below.refl _ _) | (with_reducible refine Blk.drewN ?_ _) | (with_reducible refine RowIn.drewN ?_ _) | (with_reducible refine below_drewN ?_ _) | (with_reducible refine Blk.drew ?_) | (with_reducible refine RowIn.drew ?_) | (with_reducible refine Below.drew ?_) | (with_reducible refine Blk.new' ?_ ?_ <;> first | (with_reducible rfl) | (simp; done)) | (with_reducible refine Blk.alloc ?_ _) | (with_reducible refine RowIn.alloc ?_ _) | (with_reducible refine Below.alloc ?_ ?_ _) | (with_reducible apply Blk.set') | (with_reducible apply Blk.far') | (with_reducible refine RowIn.far' ?_ ?_ _) | (with_reducible refine Below.far' ?_ ?_ _) | rfl | omega | go_size))) hca rp2 ⟨Nat.le_refl _, by omega⟩ (by intro x hx; simp at hx; omega) (by exact RowIn.row (lo := 0) (hi := w.heap.size) (by repeat' (first | (with_reducible assumption) | (with_reducible exact Below.refl _ _) | (with_reducible refine Blk.drewN ?_ _) | (with_reducible refine RowIn.drewN ?_ _) | (with_reducible refine below_drewN ?_ _) | (with_reducible refine Blk.drew ?_) | (with_reducible refine RowIn.drew ?_) | (with_reducible refine Below.drew ?_) | (with_reducible refine Blk.new' ?_ ?_ <;> first | (with_reducible rfl) | (simp; done)) | (with_reducible refine Blk.alloc ?_ _) | (with_reducible refine RowIn.alloc ?_ _) | (with_reducible refine Below.alloc ?_ ?_ _) | (with_reducible apply Blk.set') | (with_reducible apply Blk.far') | (with_reducible refine RowIn.far' ?_ ?_ _) | (with_reducible refine Below.far' ?_ ?_ _) | rfl | omega | go_size))) (by omega) (by rw [HA8.out]; exact ex10b)).mono ?_
  rintro e w3 ⟨mb, cb, kb, db, Ab, Bb, xb, zb, rfl, hcb, HXb, rb, hdb, HZb, rlb, b3⟩
  have lnb := rlb.len
  replace rb := rb.mono (lo' := w2.heap.size + 1) (by go_size) (Nat.le_refl _)
  replace rlb := rlb.mono (lo' := w2.heap.size + 1) (by go_size) (Nat.le_refl _)
  have s3 := b3.size
  try simp only [World.size_alloc, World.size_setCell, World.size_drew, size_drewN] at s3
  obtain ⟨zs_3, za_3, rt_3, ra_3, rb_3, rlb_3, bb_3⟩ : Blk w3 (w1.heap.size) 40 [.int .i64 1, .int .i64 10, .int .i64 10, .int .u64 16384, .int .u64 16384, .slice none 0 0, .int .i64 0] ∧ Blk w3 (w2.heap.size) 40 [.int .i64 1, .int .i64 10, .int .i64 10, .int .u64 16384, .int .u64 16384, .slice Aa ma ca, .int .i64 ((xa.length : Nat) : Int)] ∧ RowIn .u8 w3 (0) (w.heap.size) (some ⟨0, 0, none⟩) 64 dbTab ∧ RowIn .u8 w3 (w1.heap.size + 1) (w2.heap.size) Aa ma (pack xa) ∧ RowIn .u8 w3 (w2.heap.size + 1) (w3.heap.size) Ab mb (pack xb) ∧ RowIn .u32 w3 (w2.heap.size + 1) (w3.heap.size) Bb kb zb ∧ Below w.heap.size w w3 := by
    refine ⟨?_, ?_, ?_, ?_, ?_, ?_, ?_⟩
    all_goals repeat' (first | (with_reducible assumption) | (with_reducible exact Below.refl _ _) | (with_reducible refine Blk.drewN ?_ _) | (with_reducible refine RowIn.drewN ?_ _) | (with_reducible refine below_drewN ?_ _) | (with_reducible refine Blk.drew ?_) | (with_reducible refine RowIn.drew ?_) | (with_reducible refine Below.drew ?_) | (with_reducible refine Blk.new' ?_ ?_ <;> first | (with_reducible rfl) | (simp; done)) | (with_reducible refine Blk.alloc ?_ _) | (with_reducible refine RowIn.alloc ?_ _) | (with_reducible refine Below.alloc ?_ ?_ _) | (with_reducible apply Blk.set') | (with_reducible apply Blk.far') | (with_reducible refine RowIn.far' ?_ ?_ _) | (with_reducible refine Below.far' ?_ ?_ _) | (with_reducible refine Blk.after ?_ b3) | (with_reducible refine RowIn.belowS ?_ b3) | (with_reducible refine Below.after ?_ b3 ?_) | rfl | omega | go_size)
  clear zs_2 rt_2 ra_2 rla_2 bb_2 ks_2 fs_2 ls_2 b3
  have ks_3 := zs_3.cell; have fs_3 := zs_3.frozen; have ls_3 := zs_3.lt
  have ka_3 := za_3.cell; have fa_3 := za_3.frozen; have la_3 := za_3.lt
  clear rb rlb
  have tb5 : (((xb.length : Nat) : Int) == 5) = true := beq_iff_eq.2 (by rw [HXb.out]; rfl)
  obtain rfl : kb = 1 := by rw [← lnb, HZb.out]; rfl
  go_wp2_with fail
  have r5 : Row .u32 ((w3.alloc (.cells #[.int .i64 0, .int .i64 9, .int .i64 10, .int .u64 15365, .int .u64 16384, .slice Ab mb cb, .int .i64 ((xb.length : Nat) : Int)] 40)).alloc (.cells #[.int .u32 5] 55)) (some ⟨w3.heap.size + 1, 0, none⟩) 1 [5] := row_one' (by simp)
  refine (r9same_eq Bb _ 1 db 1 1 zb [5] _ (by exact RowIn.row (lo := w2.heap.size + 1) (hi := w3.heap.size) (by repeat' (first | (with_reducible assumption) | (with_reducible exact Below.refl _ _) | (with_reducible refine Blk.drewN ?_ _) | (with_reducible refine RowIn.drewN ?_ _) | (with_reducible refine below_drewN ?_ _) | (with_reducible refine Blk.drew ?_) | (with_reducible refine RowIn.drew ?_) | (with_reducible refine Below.drew ?_) | (with_reducible refine Blk.new' ?_ ?_ <;> first | (with_reducible rfl) | (simp; done)) | (with_reducible refine Blk.alloc ?_ _) | (with_reducible refine RowIn.alloc ?_ _) | (with_reducible refine Below.alloc ?_ ?_ _) | (with_reducible apply Blk.set') | (with_reducible apply Blk.far') | (with_reducible refine RowIn.far' ?_ ?_ _) | (with_reducible refine Below.far' ?_ ?_ _) | rfl | omega | go_size))) r5 (by omega) (by rw [HZb.out]; rfl)).mono ?_
  rintro e w4 ⟨rfl, b4⟩
  have s4 := b4.size
  try simp only [World.size_alloc, World.size_setCell, World.size_drew, size_drewN] at s4
  obtain ⟨zs_4, za_4, zb_4, rt_4, ra_4, rb_4, rlb_4, bb_4⟩ : Blk w4 (w1.heap.size) 40 [.int .i64 1, .int .i64 10, .int .i64 10, .int .u64 16384, .int .u64 16384, .slice none 0 0, .int .i64 0] ∧ Blk w4 (w2.heap.size) 40 [.int .i64 1, .int .i64 10, .int .i64 10, .int .u64 16384, .int .u64 16384, .slice Aa ma ca, .int .i64 ((xa.length : Nat) : Int)] ∧ Blk w4 (w3.heap.size) 40 [.int .i64 0, .int .i64 9, .int .i64 10, .int .u64 15365, .int .u64 16384, .slice Ab mb cb, .int .i64 ((xb.length : Nat) : Int)] ∧ RowIn .u8 w4 (0) (w.heap.size) (some ⟨0, 0, none⟩) 64 dbTab ∧ RowIn .u8 w4 (w1.heap.size + 1) (w2.heap.size) Aa ma (pack xa) ∧ RowIn .u8 w4 (w2.heap.size + 1) (w3.heap.size) Ab mb (pack xb) ∧ RowIn .u32 w4 (w2.heap.size + 1) (w3.heap.size) Bb 1 zb ∧ Below w.heap.size w w4 := by
    refine ⟨?_, ?_, ?_, ?_, ?_, ?_, ?_, ?_⟩
    all_goals repeat' (first | (with_reducible assumption) | (with_reducible exact Below.refl _ _) | (with_reducible refine Blk.drewN ?_ _) | (with_reducible refine RowIn.drewN ?_ _) | (with_reducible refine below_drewN ?_ _) | (with_reducible refine Blk.drew ?_) | (with_reducible refine RowIn.drew ?_) | (with_reducible refine Below.drew ?_) | (with_reducible refine Blk.new' ?_ ?_ <;> first | (with_reducible rfl) | (simp; done)) | (with_reducible refine Blk.alloc ?_ _) | (with_reducible refine RowIn.alloc ?_ _) | (with_reducible refine Below.alloc ?_ ?_ _) | (with_reducible apply Blk.set') | (with_reducible apply Blk.far') | (with_reducible refine RowIn.far' ?_ ?_ _) | (with_reducible refine Below.far' ?_ ?_ _) | (with_reducible refine Blk.after ?_ b4) | (with_reducible refine RowIn.belowS ?_ b4) | (with_reducible refine Below.after ?_ b4 ?_) | rfl | omega | go_size)
  clear zs_3 za_3 rt_3 ra_3 rb_3 rlb_3 bb_3 ks_3 fs_3 ls_3 ka_3 fa_3 la_3 b4
  have ks_4 := zs_4.cell; have fs_4 := zs_4.frozen; have ls_4 := zs_4.lt
  have ka_4 := za_4.cell; have fa_4 := za_4.frozen; have la_4 := za_4.lt
  have kb_4 := zb_4.cell; have fb_4 := zb_4.frozen; have lb_4 := zb_4.lt
  go_wp2
  go_ret
  refine ⟨rfl, ?_⟩
  repeat' (first | (with_reducible assumption) | (with_reducible exact Below.refl _ _) | (with_reducible refine Blk.drewN ?_ _) | (with_reducible refine RowIn.drewN ?_ _) | (with_reducible refine below_drewN ?_ _) | (with_reducible refine Blk.drew ?_) | (with_reducible refine RowIn.drew ?_) | (with_reducible refine Below.drew ?_) | (with_reducible refine Blk.new' ?_ ?_ <;> first | (with_reducible rfl) | (simp; done)) | (with_reducible refine Blk.alloc ?_ _) | (with_reducible refine RowIn.alloc ?_ _) | (with_reducible refine Below.alloc ?_ ?_ _) | (with_reducible apply Blk.set') | (with_reducible apply Blk.far') | (with_reducible refine RowIn.far' ?_ ?_ _) | (with_reducible refine Below.far' ?_ ?_ _) | rfl | omega | go_size)


end Go.Proofs.YtppilidcjlnmoaaDoor
