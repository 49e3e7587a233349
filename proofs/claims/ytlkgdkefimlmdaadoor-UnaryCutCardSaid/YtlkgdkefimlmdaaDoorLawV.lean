/-
  The walk of UnaryCut.
-/
import Derived.Test.YtlkgdkefimlmdaaDoorLawU
import Derived.Test.YtlkgdkefimlmdaaDoorUnaB
namespace Go.Proofs.YtlkgdkefimlmdaaDoor
open Go.RowKit Cad Cad.Bit Cad.Code
set_option linter.unusedVariables false
set_option linter.unusedSimpArgs false


set_option maxRecDepth 100000 in
set_option maxHeartbeats 1000000 in
theorem lawUnaryCut (w : World) (ht : Tab w) (n : Int) (hn : -9223372036854775808 ≤ n ∧ n ≤ 9223372036854775807) (l : Int) (hl : -9223372036854775808 ≤ l ∧ l ≤ 9223372036854775807) (Ab : Option Addr) (nb cb : Nat) (Nb : Int) (xsb : List Int) (hAb : RowC .u8 w Ab nb cb xsb) (hxb : Within 0 255 xsb) (hNb : -9223372036854775808 ≤ Nb ∧ Nb ≤ 9223372036854775807) :
    Calls Tryd.prog 7 #[.int .i64 n, .int .i64 l, .agg #[.slice Ab nb cb, .int .i64 Nb]] w fun e w' => e = .returned (.bool true) ∧ Below w.heap.size w w' := by
  have hab := hAb.row
  have hcb := hAb.2
  have hrib := hab.rowIn
  have hti : RowIn .u8 w 0 w.heap.size (some ⟨0, 0, none⟩) 64 dbTab := ht.rowIn
  by_cases h1 : n < 0
  · go_enter Tryd.func7, Tryd.ntmps7
    go_wp2_with fail
    refine (alive06 _).mono ?_
    rintro e w1 ⟨rfl, b1⟩
    have s1 := b1.size
    try simp only [World.size_alloc, World.size_setCell, World.size_drew, size_drewN] at s1
    have bb_1 : Below w.heap.size w w1 := by
      repeat' (first | (with_reducible assumption) | (with_reducible exact Below.refl _ _) | (with_reducible refine Blk.after ?_ b1) | (with_reducible refine RowIn.belowS ?_ b1) | (with_reducible refine Below.after ?_ b1 ?_) | (with_reducible refine Blk.drewN ?_ _) | (with_reducible refine RowIn.drewN ?_ _) | (with_reducible refine below_drewN ?_ _) | (with_reducible refine Blk.drew ?_) | (with_reducible refine RowIn.drew ?_) | (with_reducible refine Below.drew ?_) | (with_reducible refine Blk.new' ?_ ?_ <;> first | (with_reducible rfl) | (simp; done)) | (with_reducible refine Blk.alloc ?_ _) | (with_reducible refine RowIn.alloc ?_ _) | (with_reducible refine Below.alloc ?_ ?_ _) | (with_reducible apply Blk.set') | (with_reducible refine Blk.far' ?_ ?_ _) | (with_reducible refine RowIn.far' ?_ ?_ _) | (with_reducible refine Below.far' ?_ ?_ _) | rfl | omega | go_size)
    clear b1
    go_wp2
    go_ret
    refine ⟨rfl, ?_⟩
    repeat' (first | (with_reducible assumption) | (with_reducible exact Below.refl _ _) | (with_reducible refine Blk.drewN ?_ _) | (with_reducible refine RowIn.drewN ?_ _) | (with_reducible refine below_drewN ?_ _) | (with_reducible refine Blk.drew ?_) | (with_reducible refine RowIn.drew ?_) | (with_reducible refine Below.drew ?_) | (with_reducible refine Blk.new' ?_ ?_ <;> first | (with_reducible rfl) | (simp; done)) | (with_reducible refine Blk.alloc ?_ _) | (with_reducible refine RowIn.alloc ?_ _) | (with_reducible refine Below.alloc ?_ ?_ _) | (with_reducible apply Blk.set') | (with_reducible refine Blk.far' ?_ ?_ _) | (with_reducible refine RowIn.far' ?_ ?_ _) | (with_reducible refine Below.far' ?_ ?_ _) | rfl | omega | go_size)
  by_cases h2 : 48 < n
  · go_enter Tryd.func7, Tryd.ntmps7
    go_wp2_with fail
    refine (alive06 _).mono ?_
    rintro e w1 ⟨rfl, b1⟩
    have s1 := b1.size
    try simp only [World.size_alloc, World.size_setCell, World.size_drew, size_drewN] at s1
    have bb_1 : Below w.heap.size w w1 := by
      repeat' (first | (with_reducible assumption) | (with_reducible exact Below.refl _ _) | (with_reducible refine Blk.after ?_ b1) | (with_reducible refine RowIn.belowS ?_ b1) | (with_reducible refine Below.after ?_ b1 ?_) | (with_reducible refine Blk.drewN ?_ _) | (with_reducible refine RowIn.drewN ?_ _) | (with_reducible refine below_drewN ?_ _) | (with_reducible refine Blk.drew ?_) | (with_reducible refine RowIn.drew ?_) | (with_reducible refine Below.drew ?_) | (with_reducible refine Blk.new' ?_ ?_ <;> first | (with_reducible rfl) | (simp; done)) | (with_reducible refine Blk.alloc ?_ _) | (with_reducible refine RowIn.alloc ?_ _) | (with_reducible refine Below.alloc ?_ ?_ _) | (with_reducible apply Blk.set') | (with_reducible refine Blk.far' ?_ ?_ _) | (with_reducible refine RowIn.far' ?_ ?_ _) | (with_reducible refine Below.far' ?_ ?_ _) | rfl | omega | go_size)
    clear b1
    go_wp2
    go_ret
    refine ⟨rfl, ?_⟩
    repeat' (first | (with_reducible assumption) | (with_reducible exact Below.refl _ _) | (with_reducible refine Blk.drewN ?_ _) | (with_reducible refine RowIn.drewN ?_ _) | (with_reducible refine below_drewN ?_ _) | (with_reducible refine Blk.drew ?_) | (with_reducible refine RowIn.drew ?_) | (with_reducible refine Below.drew ?_) | (with_reducible refine Blk.new' ?_ ?_ <;> first | (with_reducible rfl) | (simp; done)) | (with_reducible refine Blk.alloc ?_ _) | (with_reducible refine RowIn.alloc ?_ _) | (with_reducible refine Below.alloc ?_ ?_ _) | (with_reducible apply Blk.set') | (with_reducible refine Blk.far' ?_ ?_ _) | (with_reducible refine RowIn.far' ?_ ?_ _) | (with_reducible refine Below.far' ?_ ?_ _) | rfl | omega | go_size)
  by_cases hvb : ¬ Valid xsb Nb
  · go_enter Tryd.func7, Tryd.ntmps7
    go_wp2_with fail
    refine (rcheck_bad Ab nb cb Nb xsb _ (by exact hab.alloc _) hxb (by omega) hvb).mono ?_
    rintro e w1 ⟨rfl, b1⟩
    have s1 := b1.size
    try simp only [World.size_alloc, World.size_setCell, World.size_drew, size_drewN] at s1
    obtain ⟨zb_1, rb_1, rt_1, bb_1⟩ : Blk w1 (w.heap.size) 24 [.slice Ab nb cb, .int .i64 Nb] ∧ RowIn .u8 w1 (0) (w.heap.size) Ab nb xsb ∧ RowIn .u8 w1 (0) (w.heap.size) (some ⟨0, 0, none⟩) 64 dbTab ∧ Below w.heap.size w w1 := by
      refine ⟨?_, ?_, ?_, ?_⟩
      all_goals repeat' (first | (with_reducible assumption) | (with_reducible exact Below.refl _ _) | (with_reducible refine Blk.after ?_ b1) | (with_reducible refine RowIn.belowS ?_ b1) | (with_reducible refine Below.after ?_ b1 ?_) | (with_reducible refine Blk.drewN ?_ _) | (with_reducible refine RowIn.drewN ?_ _) | (with_reducible refine below_drewN ?_ _) | (with_reducible refine Blk.drew ?_) | (with_reducible refine RowIn.drew ?_) | (with_reducible refine Below.drew ?_) | (with_reducible refine Blk.new' ?_ ?_ <;> first | (with_reducible rfl) | (simp; done)) | (with_reducible refine Blk.alloc ?_ _) | (with_reducible refine RowIn.alloc ?_ _) | (with_reducible refine Below.alloc ?_ ?_ _) | (with_reducible apply Blk.set') | (with_reducible refine Blk.far' ?_ ?_ _) | (with_reducible refine RowIn.far' ?_ ?_ _) | (with_reducible refine Below.far' ?_ ?_ _) | rfl | omega | go_size)
    clear b1
    have kb_1 := zb_1.cell; have fb_1 := zb_1.frozen; have lb_1 := zb_1.lt
    go_wp2_with fail
    refine (alive06 _).mono ?_
    rintro e w2 ⟨rfl, b2⟩
    have s2 := b2.size
    try simp only [World.size_alloc, World.size_setCell, World.size_drew, size_drewN] at s2
    have bb_2 : Below w.heap.size w w2 := by
      repeat' (first | (with_reducible assumption) | (with_reducible exact Below.refl _ _) | (with_reducible refine Blk.after ?_ b2) | (with_reducible refine RowIn.belowS ?_ b2) | (with_reducible refine Below.after ?_ b2 ?_) | (with_reducible refine Blk.drewN ?_ _) | (with_reducible refine RowIn.drewN ?_ _) | (with_reducible refine below_drewN ?_ _) | (with_reducible refine Blk.drew ?_) | (with_reducible refine RowIn.drew ?_) | (with_reducible refine Below.drew ?_) | (with_reducible refine Blk.new' ?_ ?_ <;> first | (with_reducible rfl) | (simp; done)) | (with_reducible refine Blk.alloc ?_ _) | (with_reducible refine RowIn.alloc ?_ _) | (with_reducible refine Below.alloc ?_ ?_ _) | (with_reducible apply Blk.set') | (with_reducible refine Blk.far' ?_ ?_ _) | (with_reducible refine RowIn.far' ?_ ?_ _) | (with_reducible refine Below.far' ?_ ?_ _) | rfl | omega | go_size)
    clear zb_1 rb_1 rt_1 bb_1 kb_1 fb_1 lb_1 b2
    go_wp2
    go_ret
    refine ⟨rfl, ?_⟩
    repeat' (first | (with_reducible assumption) | (with_reducible exact Below.refl _ _) | (with_reducible refine Blk.drewN ?_ _) | (with_reducible refine RowIn.drewN ?_ _) | (with_reducible refine below_drewN ?_ _) | (with_reducible refine Blk.drew ?_) | (with_reducible refine RowIn.drew ?_) | (with_reducible refine Below.drew ?_) | (with_reducible refine Blk.new' ?_ ?_ <;> first | (with_reducible rfl) | (simp; done)) | (with_reducible refine Blk.alloc ?_ _) | (with_reducible refine RowIn.alloc ?_ _) | (with_reducible refine Below.alloc ?_ ?_ _) | (with_reducible apply Blk.set') | (with_reducible refine Blk.far' ?_ ?_ _) | (with_reducible refine RowIn.far' ?_ ?_ _) | (with_reducible refine Below.far' ?_ ?_ _) | rfl | omega | go_size)
  obtain ⟨xb, rfl, rfl, hlb⟩ := valid_bits hxb (Decidable.not_not.1 hvb)
  clear hvb
  by_cases h3 : 500 < xb.length
  · go_enter Tryd.func7, Tryd.ntmps7
    go_wp2_with fail
    refine (rcheck_ok Ab nb cb xb _ (by exact hab.alloc _) (by omega) hlb).mono ?_
    rintro e w1 ⟨rfl, b1⟩
    have s1 := b1.size
    try simp only [World.size_alloc, World.size_setCell, World.size_drew, size_drewN] at s1
    obtain ⟨zb_1, rb_1, rt_1, bb_1⟩ : Blk w1 (w.heap.size) 24 [.slice Ab nb cb, .int .i64 ((xb.length : Nat) : Int)] ∧ RowIn .u8 w1 (0) (w.heap.size) Ab nb (pack xb) ∧ RowIn .u8 w1 (0) (w.heap.size) (some ⟨0, 0, none⟩) 64 dbTab ∧ Below w.heap.size w w1 := by
      refine ⟨?_, ?_, ?_, ?_⟩
      all_goals repeat' (first | (with_reducible assumption) | (with_reducible exact Below.refl _ _) | (with_reducible refine Blk.after ?_ b1) | (with_reducible refine RowIn.belowS ?_ b1) | (with_reducible refine Below.after ?_ b1 ?_) | (with_reducible refine Blk.drewN ?_ _) | (with_reducible refine RowIn.drewN ?_ _) | (with_reducible refine below_drewN ?_ _) | (with_reducible refine Blk.drew ?_) | (with_reducible refine RowIn.drew ?_) | (with_reducible refine Below.drew ?_) | (with_reducible refine Blk.new' ?_ ?_ <;> first | (with_reducible rfl) | (simp; done)) | (with_reducible refine Blk.alloc ?_ _) | (with_reducible refine RowIn.alloc ?_ _) | (with_reducible refine Below.alloc ?_ ?_ _) | (with_reducible apply Blk.set') | (with_reducible refine Blk.far' ?_ ?_ _) | (with_reducible refine RowIn.far' ?_ ?_ _) | (with_reducible refine Below.far' ?_ ?_ _) | rfl | omega | go_size)
    clear b1
    have kb_1 := zb_1.cell; have fb_1 := zb_1.frozen; have lb_1 := zb_1.lt
    go_wp2_with fail
    refine (alive06 _).mono ?_
    rintro e w2 ⟨rfl, b2⟩
    have s2 := b2.size
    try simp only [World.size_alloc, World.size_setCell, World.size_drew, size_drewN] at s2
    have bb_2 : Below w.heap.size w w2 := by
      repeat' (first | (with_reducible assumption) | (with_reducible exact Below.refl _ _) | (with_reducible refine Blk.after ?_ b2) | (with_reducible refine RowIn.belowS ?_ b2) | (with_reducible refine Below.after ?_ b2 ?_) | (with_reducible refine Blk.drewN ?_ _) | (with_reducible refine RowIn.drewN ?_ _) | (with_reducible refine below_drewN ?_ _) | (with_reducible refine Blk.drew ?_) | (with_reducible refine RowIn.drew ?_) | (with_reducible refine Below.drew ?_) | (with_reducible refine Blk.new' ?_ ?_ <;> first | (with_reducible rfl) | (simp; done)) | (with_reducible refine Blk.alloc ?_ _) | (with_reducible refine RowIn.alloc ?_ _) | (with_reducible refine Below.alloc ?_ ?_ _) | (with_reducible apply Blk.set') | (with_reducible refine Blk.far' ?_ ?_ _) | (with_reducible refine RowIn.far' ?_ ?_ _) | (with_reducible refine Below.far' ?_ ?_ _) | rfl | omega | go_size)
    clear zb_1 rb_1 rt_1 bb_1 kb_1 fb_1 lb_1 b2
    go_wp2
    go_ret
    refine ⟨rfl, ?_⟩
    repeat' (first | (with_reducible assumption) | (with_reducible exact Below.refl _ _) | (with_reducible refine Blk.drewN ?_ _) | (with_reducible refine RowIn.drewN ?_ _) | (with_reducible refine below_drewN ?_ _) | (with_reducible refine Blk.drew ?_) | (with_reducible refine RowIn.drew ?_) | (with_reducible refine Below.drew ?_) | (with_reducible refine Blk.new' ?_ ?_ <;> first | (with_reducible rfl) | (simp; done)) | (with_reducible refine Blk.alloc ?_ _) | (with_reducible refine RowIn.alloc ?_ _) | (with_reducible refine Below.alloc ?_ ?_ _) | (with_reducible apply Blk.set') | (with_reducible refine Blk.far' ?_ ?_ _) | (with_reducible refine RowIn.far' ?_ ?_ _) | (with_reducible refine Below.far' ?_ ?_ _) | rfl | omega | go_size)
  obtain ⟨n, rfl⟩ := Int.eq_ofNat_of_zero_le (by omega : 0 ≤ n)
  have hn48 : n ≤ 48 := by omega
  have hrl : runLen n ≤ 48 := by unfold runLen; omega
  go_enter Tryd.func7, Tryd.ntmps7
  go_wp2_with fail
  refine (rcheck_ok Ab nb cb xb _ (by exact hab.alloc _) (by omega) hlb).mono ?_
  rintro e w1 ⟨rfl, b1⟩
  have s1 := b1.size
  try simp only [World.size_alloc, World.size_setCell, World.size_drew, size_drewN] at s1
  obtain ⟨zb_1, rb_1, rt_1, bb_1⟩ : Blk w1 (w.heap.size) 24 [.slice Ab nb cb, .int .i64 ((xb.length : Nat) : Int)] ∧ RowIn .u8 w1 (0) (w.heap.size) Ab nb (pack xb) ∧ RowIn .u8 w1 (0) (w.heap.size) (some ⟨0, 0, none⟩) 64 dbTab ∧ Below w.heap.size w w1 := by
    refine ⟨?_, ?_, ?_, ?_⟩
    all_goals repeat' (first | (with_reducible assumption) | (with_reducible exact Below.refl _ _) | (with_reducible refine Blk.after ?_ b1) | (with_reducible refine RowIn.belowS ?_ b1) | (with_reducible refine Below.after ?_ b1 ?_) | (with_reducible refine Blk.drewN ?_ _) | (with_reducible refine RowIn.drewN ?_ _) | (with_reducible refine below_drewN ?_ _) | (with_reducible refine Blk.drew ?_) | (with_reducible refine RowIn.drew ?_) | (with_reducible refine Below.drew ?_) | (with_reducible refine Blk.new' ?_ ?_ <;> first | (with_reducible rfl) | (simp; done)) | (with_reducible refine Blk.alloc ?_ _) | (with_reducible refine RowIn.alloc ?_ _) | (with_reducible refine Below.alloc ?_ ?_ _) | (with_reducible apply Blk.set') | (with_reducible refine Blk.far' ?_ ?_ _) | (with_reducible refine RowIn.far' ?_ ?_ _) | (with_reducible refine Below.far' ?_ ?_ _) | rfl | omega | go_size)
  clear b1
  have kb_1 := zb_1.cell; have fb_1 := zb_1.frozen; have lb_1 := zb_1.lt
  go_wp2_with fail
  refine (uwrite_ok none 0 0 [] (n : Nat) _ Row.nil ⟨Nat.le_refl _, Nat.zero_le _⟩ (by omega) (by rw [Int.toNat_natCast]; simp; omega)).mono ?_
  rintro e w2 ⟨Ar, mr, cr, xr, rfl, hcr, rr, HXr, b2⟩
  have Lr : xr.length ≤ runLen n ∧ runLen n ≤ xr.length := by rw [HXr.out]; rw [Int.toNat_natCast, List.nil_append, run_len hn48]; omega
  obtain ⟨Lr1, Lr2⟩ := Lr
  replace rr := rr.mono (lo' := w1.heap.size + 0) (by go_size) (Nat.le_refl _)
  have s2 := b2.size
  try simp only [World.size_alloc, World.size_setCell, World.size_drew, size_drewN] at s2
  obtain ⟨zb_2, rb_2, rt_2, rr_2, bb_2⟩ : Blk w2 (w.heap.size) 24 [.slice Ab nb cb, .int .i64 ((xb.length : Nat) : Int)] ∧ RowIn .u8 w2 (0) (w.heap.size) Ab nb (pack xb) ∧ RowIn .u8 w2 (0) (w.heap.size) (some ⟨0, 0, none⟩) 64 dbTab ∧ RowIn .u8 w2 (w1.heap.size + 0) (w2.heap.size) Ar mr (pack xr) ∧ Below w.heap.size w w2 := by
    refine ⟨?_, ?_, ?_, ?_, ?_⟩
    all_goals repeat' (first | (with_reducible assumption) | (with_reducible exact Below.refl _ _) | (with_reducible refine Blk.after ?_ b2) | (with_reducible refine RowIn.belowS ?_ b2) | (with_reducible refine Below.after ?_ b2 ?_) | (with_reducible refine Blk.drewN ?_ _) | (with_reducible refine RowIn.drewN ?_ _) | (with_reducible refine below_drewN ?_ _) | (with_reducible refine Blk.drew ?_) | (with_reducible refine RowIn.drew ?_) | (with_reducible refine Below.drew ?_) | (with_reducible refine Blk.new' ?_ ?_ <;> first | (with_reducible rfl) | (simp; done)) | (with_reducible refine Blk.alloc ?_ _) | (with_reducible refine RowIn.alloc ?_ _) | (with_reducible refine Below.alloc ?_ ?_ _) | (with_reducible apply Blk.set') | (with_reducible refine Blk.far' ?_ ?_ _) | (with_reducible refine RowIn.far' ?_ ?_ _) | (with_reducible refine Below.far' ?_ ?_ _) | rfl | omega | go_size)
  clear zb_1 rb_1 rt_1 bb_1 kb_1 fb_1 lb_1 b2
  have kb_2 := zb_2.cell; have fb_2 := zb_2.frozen; have lb_2 := zb_2.lt
  clear rr
  go_wp2_with fail
  refine (bjoin_ok Ar Ab mr cr nb cb xr xb _ (by exact (rr_2.row.alloc _)) (by exact (rb_2.row.alloc _)) hcr hcb (by omega)).mono ?_
  rintro e w3 ⟨Aa, ma, ca, xa, rfl, hca, ra, HXa, b3⟩
  have La : xa.length ≤ runLen n + xb.length ∧ runLen n + xb.length ≤ xa.length := by rw [HXa.out]; simp only [List.length_append, lowBits_len, List.length_nil, List.length_take, List.length_drop, unpack_len]; omega
  obtain ⟨La1, La2⟩ := La
  replace ra := ra.mono (lo' := w2.heap.size + 1) (by go_size) (Nat.le_refl _)
  have s3 := b3.size
  try simp only [World.size_alloc, World.size_setCell, World.size_drew, size_drewN] at s3
  obtain ⟨zb_3, zr_3, rb_3, rt_3, rr_3, ra_3, bb_3⟩ : Blk w3 (w.heap.size) 24 [.slice Ab nb cb, .int .i64 ((xb.length : Nat) : Int)] ∧ Blk w3 (w2.heap.size) 24 [.slice Ar mr cr, .int .i64 ((xr.length : Nat) : Int)] ∧ RowIn .u8 w3 (0) (w.heap.size) Ab nb (pack xb) ∧ RowIn .u8 w3 (0) (w.heap.size) (some ⟨0, 0, none⟩) 64 dbTab ∧ RowIn .u8 w3 (w1.heap.size + 0) (w2.heap.size) Ar mr (pack xr) ∧ RowIn .u8 w3 (w2.heap.size + 1) (w3.heap.size) Aa ma (pack xa) ∧ Below w.heap.size w w3 := by
    refine ⟨?_, ?_, ?_, ?_, ?_, ?_, ?_⟩
    all_goals repeat' (first | (with_reducible assumption) | (with_reducible exact Below.refl _ _) | (with_reducible refine Blk.after ?_ b3) | (with_reducible refine RowIn.belowS ?_ b3) | (with_reducible refine Below.after ?_ b3 ?_) | (with_reducible refine Blk.drewN ?_ _) | (with_reducible refine RowIn.drewN ?_ _) | (with_reducible refine below_drewN ?_ _) | (with_reducible refine Blk.drew ?_) | (with_reducible refine RowIn.drew ?_) | (with_reducible refine Below.drew ?_) | (with_reducible refine Blk.new' ?_ ?_ <;> first | (with_reducible rfl) | (simp; done)) | (with_reducible refine Blk.alloc ?_ _) | (with_reducible refine RowIn.alloc ?_ _) | (with_reducible refine Below.alloc ?_ ?_ _) | (with_reducible apply Blk.set') | (with_reducible refine Blk.far' ?_ ?_ _) | (with_reducible refine RowIn.far' ?_ ?_ _) | (with_reducible refine Below.far' ?_ ?_ _) | rfl | omega | go_size)
  clear zb_2 rb_2 rt_2 rr_2 bb_2 kb_2 fb_2 lb_2 b3
  have kb_3 := zb_3.cell; have fb_3 := zb_3.frozen; have lb_3 := zb_3.lt
  have kr_3 := zr_3.cell; have fr_3 := zr_3.frozen; have lr_3 := zr_3.lt
  clear ra
  have HRD : Hid (readU (xa.drop ((0 : Int).toNat)) = .ok n (runLen n)) := by
    refine Lib.hid ?_
    rw [HXa.out, HXr.out, Int.toNat_natCast, List.nil_append, show ((0 : Int).toNat) = 0 from rfl, List.drop_zero]
    exact readU_run hn48 _
  go_wp2_with fail
  refine (uread_ok Aa ma ca xa 0 n (runLen n) _ (by exact (ra_3.row.alloc _)) hca (by omega) (by omega) HRD.out (by exact (rt_3.row.alloc _))).mono ?_
  rintro e w4 ⟨z, rfl, HZ, b4⟩
  have s4 := b4.size
  try simp only [World.size_alloc, World.size_setCell, World.size_drew, size_drewN] at s4
  obtain ⟨zb_4, zr_4, za_4, rb_4, rt_4, rr_4, ra_4, bb_4⟩ : Blk w4 (w.heap.size) 24 [.slice Ab nb cb, .int .i64 ((xb.length : Nat) : Int)] ∧ Blk w4 (w2.heap.size) 24 [.slice Ar mr cr, .int .i64 ((xr.length : Nat) : Int)] ∧ Blk w4 (w3.heap.size) 24 [.slice Aa ma ca, .int .i64 ((xa.length : Nat) : Int)] ∧ RowIn .u8 w4 (0) (w.heap.size) Ab nb (pack xb) ∧ RowIn .u8 w4 (0) (w.heap.size) (some ⟨0, 0, none⟩) 64 dbTab ∧ RowIn .u8 w4 (w1.heap.size + 0) (w2.heap.size) Ar mr (pack xr) ∧ RowIn .u8 w4 (w2.heap.size + 1) (w3.heap.size) Aa ma (pack xa) ∧ Below w.heap.size w w4 := by
    refine ⟨?_, ?_, ?_, ?_, ?_, ?_, ?_, ?_⟩
    all_goals repeat' (first | (with_reducible assumption) | (with_reducible exact Below.refl _ _) | (with_reducible refine Blk.after ?_ b4) | (with_reducible refine RowIn.belowS ?_ b4) | (with_reducible refine Below.after ?_ b4 ?_) | (with_reducible refine Blk.drewN ?_ _) | (with_reducible refine RowIn.drewN ?_ _) | (with_reducible refine below_drewN ?_ _) | (with_reducible refine Blk.drew ?_) | (with_reducible refine RowIn.drew ?_) | (with_reducible refine Below.drew ?_) | (with_reducible refine Blk.new' ?_ ?_ <;> first | (with_reducible rfl) | (simp; done)) | (with_reducible refine Blk.alloc ?_ _) | (with_reducible refine RowIn.alloc ?_ _) | (with_reducible refine Below.alloc ?_ ?_ _) | (with_reducible apply Blk.set') | (with_reducible refine Blk.far' ?_ ?_ _) | (with_reducible refine RowIn.far' ?_ ?_ _) | (with_reducible refine Below.far' ?_ ?_ _) | rfl | omega | go_size)
  clear zb_3 zr_3 rb_3 rt_3 rr_3 ra_3 bb_3 kb_3 fb_3 lb_3 kr_3 fr_3 lr_3 b4
  have kb_4 := zb_4.cell; have fb_4 := zb_4.frozen; have lb_4 := zb_4.lt
  have kr_4 := zr_4.cell; have fr_4 := zr_4.frozen; have lr_4 := zr_4.lt
  have ka_4 := za_4.cell; have fa_4 := za_4.frozen; have la_4 := za_4.lt
  have t1 : ((z : Int) != ((xr.length : Nat) : Int)) = false := by rw [bne_eq_false_iff_eq]; have h := HZ.out; rw [show ((0 : Int).toNat) = 0 from rfl] at h; omega
  by_cases h4 : l < 0
  · go_wp2_with fail
    refine (alive06 _).mono ?_
    rintro e w5 ⟨rfl, b5⟩
    have s5 := b5.size
    try simp only [World.size_alloc, World.size_setCell, World.size_drew, size_drewN] at s5
    have bb_5 : Below w.heap.size w w5 := by
      repeat' (first | (with_reducible assumption) | (with_reducible exact Below.refl _ _) | (with_reducible refine Blk.after ?_ b5) | (with_reducible refine RowIn.belowS ?_ b5) | (with_reducible refine Below.after ?_ b5 ?_) | (with_reducible refine Blk.drewN ?_ _) | (with_reducible refine RowIn.drewN ?_ _) | (with_reducible refine below_drewN ?_ _) | (with_reducible refine Blk.drew ?_) | (with_reducible refine RowIn.drew ?_) | (with_reducible refine Below.drew ?_) | (with_reducible refine Blk.new' ?_ ?_ <;> first | (with_reducible rfl) | (simp; done)) | (with_reducible refine Blk.alloc ?_ _) | (with_reducible refine RowIn.alloc ?_ _) | (with_reducible refine Below.alloc ?_ ?_ _) | (with_reducible apply Blk.set') | (with_reducible refine Blk.far' ?_ ?_ _) | (with_reducible refine RowIn.far' ?_ ?_ _) | (with_reducible refine Below.far' ?_ ?_ _) | rfl | omega | go_size)
    clear zb_4 zr_4 za_4 rb_4 rt_4 rr_4 ra_4 bb_4 kb_4 fb_4 lb_4 kr_4 fr_4 lr_4 ka_4 fa_4 la_4 b5
    go_wp2
    go_ret
    refine ⟨rfl, ?_⟩
    repeat' (first | (with_reducible assumption) | (with_reducible exact Below.refl _ _) | (with_reducible refine Blk.drewN ?_ _) | (with_reducible refine RowIn.drewN ?_ _) | (with_reducible refine below_drewN ?_ _) | (with_reducible refine Blk.drew ?_) | (with_reducible refine RowIn.drew ?_) | (with_reducible refine Below.drew ?_) | (with_reducible refine Blk.new' ?_ ?_ <;> first | (with_reducible rfl) | (simp; done)) | (with_reducible refine Blk.alloc ?_ _) | (with_reducible refine RowIn.alloc ?_ _) | (with_reducible refine Below.alloc ?_ ?_ _) | (with_reducible apply Blk.set') | (with_reducible refine Blk.far' ?_ ?_ _) | (with_reducible refine RowIn.far' ?_ ?_ _) | (with_reducible refine Below.far' ?_ ?_ _) | rfl | omega | go_size)
  by_cases h5 : (xr.length : Int) ≤ l
  · go_wp2_with fail
    refine (alive06 _).mono ?_
    rintro e w5 ⟨rfl, b5⟩
    have s5 := b5.size
    try simp only [World.size_alloc, World.size_setCell, World.size_drew, size_drewN] at s5
    have bb_5 : Below w.heap.size w w5 := by
      repeat' (first | (with_reducible assumption) | (with_reducible exact Below.refl _ _) | (with_reducible refine Blk.after ?_ b5) | (with_reducible refine RowIn.belowS ?_ b5) | (with_reducible refine Below.after ?_ b5 ?_) | (with_reducible refine Blk.drewN ?_ _) | (with_reducible refine RowIn.drewN ?_ _) | (with_reducible refine below_drewN ?_ _) | (with_reducible refine Blk.drew ?_) | (with_reducible refine RowIn.drew ?_) | (with_reducible refine Below.drew ?_) | (with_reducible refine Blk.new' ?_ ?_ <;> first | (with_reducible rfl) | (simp; done)) | (with_reducible refine Blk.alloc ?_ _) | (with_reducible refine RowIn.alloc ?_ _) | (with_reducible refine Below.alloc ?_ ?_ _) | (with_reducible apply Blk.set') | (with_reducible refine Blk.far' ?_ ?_ _) | (with_reducible refine RowIn.far' ?_ ?_ _) | (with_reducible refine Below.far' ?_ ?_ _) | rfl | omega | go_size)
    clear zb_4 zr_4 za_4 rb_4 rt_4 rr_4 ra_4 bb_4 kb_4 fb_4 lb_4 kr_4 fr_4 lr_4 ka_4 fa_4 la_4 b5
    go_wp2
    go_ret
    refine ⟨rfl, ?_⟩
    repeat' (first | (with_reducible assumption) | (with_reducible exact Below.refl _ _) | (with_reducible refine Blk.drewN ?_ _) | (with_reducible refine RowIn.drewN ?_ _) | (with_reducible refine below_drewN ?_ _) | (with_reducible refine Blk.drew ?_) | (with_reducible refine RowIn.drew ?_) | (with_reducible refine Below.drew ?_) | (with_reducible refine Blk.new' ?_ ?_ <;> first | (with_reducible rfl) | (simp; done)) | (with_reducible refine Blk.alloc ?_ _) | (with_reducible refine RowIn.alloc ?_ _) | (with_reducible refine Below.alloc ?_ ?_ _) | (with_reducible apply Blk.set') | (with_reducible refine Blk.far' ?_ ?_ _) | (with_reducible refine RowIn.far' ?_ ?_ _) | (with_reducible refine Below.far' ?_ ?_ _) | rfl | omega | go_size)
  obtain ⟨l, rfl⟩ := Int.eq_ofNat_of_zero_le (by omega : 0 ≤ l)
  go_wp2_with fail
  refine (bcut_ok Ar mr cr xr _ _ _ rr_4.row hcr (by omega) (by omega) (by omega) (by omega)).mono ?_
  rintro e w5 ⟨Ap, mp, cp, xp, rfl, hcp, rp, HXp, b5⟩
  have Lp : xp.length ≤ l ∧ l ≤ xp.length := by rw [HXp.out]; rw [List.length_take, List.length_drop]; omega
  obtain ⟨Lp1, Lp2⟩ := Lp
  replace rp := rp.mono (lo' := w4.heap.size + 0) (by go_size) (Nat.le_refl _)
  have s5 := b5.size
  try simp only [World.size_alloc, World.size_setCell, World.size_drew, size_drewN] at s5
  obtain ⟨zb_5, zr_5, za_5, rb_5, rt_5, rr_5, ra_5, rp_5, bb_5⟩ : Blk w5 (w.heap.size) 24 [.slice Ab nb cb, .int .i64 ((xb.length : Nat) : Int)] ∧ Blk w5 (w2.heap.size) 24 [.slice Ar mr cr, .int .i64 ((xr.length : Nat) : Int)] ∧ Blk w5 (w3.heap.size) 24 [.slice Aa ma ca, .int .i64 ((xa.length : Nat) : Int)] ∧ RowIn .u8 w5 (0) (w.heap.size) Ab nb (pack xb) ∧ RowIn .u8 w5 (0) (w.heap.size) (some ⟨0, 0, none⟩) 64 dbTab ∧ RowIn .u8 w5 (w1.heap.size + 0) (w2.heap.size) Ar mr (pack xr) ∧ RowIn .u8 w5 (w2.heap.size + 1) (w3.heap.size) Aa ma (pack xa) ∧ RowIn .u8 w5 (w4.heap.size + 0) (w5.heap.size) Ap mp (pack xp) ∧ Below w.heap.size w w5 := by
    refine ⟨?_, ?_, ?_, ?_, ?_, ?_, ?_, ?_, ?_⟩
    all_goals repeat' (first | (with_reducible assumption) | (with_reducible exact Below.refl _ _) | (with_reducible refine Blk.after ?_ b5) | (with_reducible refine RowIn.belowS ?_ b5) | (with_reducible refine Below.after ?_ b5 ?_) | (with_reducible refine Blk.drewN ?_ _) | (with_reducible refine RowIn.drewN ?_ _) | (with_reducible refine below_drewN ?_ _) | (with_reducible refine Blk.drew ?_) | (with_reducible refine RowIn.drew ?_) | (with_reducible refine Below.drew ?_) | (with_reducible refine Blk.new' ?_ ?_ <;> first | (with_reducible rfl) | (simp; done)) | (with_reducible refine Blk.alloc ?_ _) | (with_reducible refine RowIn.alloc ?_ _) | (with_reducible refine Below.alloc ?_ ?_ _) | (with_reducible apply Blk.set') | (with_reducible refine Blk.far' ?_ ?_ _) | (with_reducible refine RowIn.far' ?_ ?_ _) | (with_reducible refine Below.far' ?_ ?_ _) | rfl | omega | go_size)
  clear zb_4 zr_4 za_4 rb_4 rt_4 rr_4 ra_4 bb_4 kb_4 fb_4 lb_4 kr_4 fr_4 lr_4 ka_4 fa_4 la_4 b5
  have kb_5 := zb_5.cell; have fb_5 := zb_5.frozen; have lb_5 := zb_5.lt
  have kr_5 := zr_5.cell; have fr_5 := zr_5.frozen; have lr_5 := zr_5.lt
  have ka_5 := za_5.cell; have fa_5 := za_5.frozen; have la_5 := za_5.lt
  clear rp
  have HRS : Hid (readU (xp.drop ((0 : Int).toNat)) = .err 24) := by
    refine Lib.hid ?_
    rw [HXp.out, HXr.out]
    simp only [Int.toNat_natCast, List.nil_append, show ((0 : Int).toNat) = 0 from rfl, List.drop_zero, Nat.sub_zero]
    exact readU_cut hn48 (by omega)
  go_wp2_with fail
  refine (uread_short Ap mp cp xp 0 24 _ (by exact (rp_5.row.alloc _)) hcp (by omega) (by omega) HRS.out (by exact (rt_5.row.alloc _))).mono ?_
  rintro e w6 ⟨rfl, b6⟩
  have s6 := b6.size
  try simp only [World.size_alloc, World.size_setCell, World.size_drew, size_drewN] at s6
  obtain ⟨zb_6, zr_6, za_6, zp_6, rb_6, rt_6, rr_6, ra_6, rp_6, bb_6⟩ : Blk w6 (w.heap.size) 24 [.slice Ab nb cb, .int .i64 ((xb.length : Nat) : Int)] ∧ Blk w6 (w2.heap.size) 24 [.slice Ar mr cr, .int .i64 ((xr.length : Nat) : Int)] ∧ Blk w6 (w3.heap.size) 24 [.slice Aa ma ca, .int .i64 ((xa.length : Nat) : Int)] ∧ Blk w6 (w5.heap.size) 24 [.slice Ap mp cp, .int .i64 ((xp.length : Nat) : Int)] ∧ RowIn .u8 w6 (0) (w.heap.size) Ab nb (pack xb) ∧ RowIn .u8 w6 (0) (w.heap.size) (some ⟨0, 0, none⟩) 64 dbTab ∧ RowIn .u8 w6 (w1.heap.size + 0) (w2.heap.size) Ar mr (pack xr) ∧ RowIn .u8 w6 (w2.heap.size + 1) (w3.heap.size) Aa ma (pack xa) ∧ RowIn .u8 w6 (w4.heap.size + 0) (w5.heap.size) Ap mp (pack xp) ∧ Below w.heap.size w w6 := by
    refine ⟨?_, ?_, ?_, ?_, ?_, ?_, ?_, ?_, ?_, ?_⟩
    all_goals repeat' (first | (with_reducible assumption) | (with_reducible exact Below.refl _ _) | (with_reducible refine Blk.after ?_ b6) | (with_reducible refine RowIn.belowS ?_ b6) | (with_reducible refine Below.after ?_ b6 ?_) | (with_reducible refine Blk.drewN ?_ _) | (with_reducible refine RowIn.drewN ?_ _) | (with_reducible refine below_drewN ?_ _) | (with_reducible refine Blk.drew ?_) | (with_reducible refine RowIn.drew ?_) | (with_reducible refine Below.drew ?_) | (with_reducible refine Blk.new' ?_ ?_ <;> first | (with_reducible rfl) | (simp; done)) | (with_reducible refine Blk.alloc ?_ _) | (with_reducible refine RowIn.alloc ?_ _) | (with_reducible refine Below.alloc ?_ ?_ _) | (with_reducible apply Blk.set') | (with_reducible refine Blk.far' ?_ ?_ _) | (with_reducible refine RowIn.far' ?_ ?_ _) | (with_reducible refine Below.far' ?_ ?_ _) | rfl | omega | go_size)
  clear zb_5 zr_5 za_5 rb_5 rt_5 rr_5 ra_5 rp_5 bb_5 kb_5 fb_5 lb_5 kr_5 fr_5 lr_5 ka_5 fa_5 la_5 b6
  have kb_6 := zb_6.cell; have fb_6 := zb_6.frozen; have lb_6 := zb_6.lt
  have kr_6 := zr_6.cell; have fr_6 := zr_6.frozen; have lr_6 := zr_6.lt
  have ka_6 := za_6.cell; have fa_6 := za_6.frozen; have la_6 := za_6.lt
  have kp_6 := zp_6.cell; have fp_6 := zp_6.frozen; have lp_6 := zp_6.lt
  go_wp2_with fail
  refine (alive06 _).mono ?_
  rintro e w7 ⟨rfl, b7⟩
  have s7 := b7.size
  try simp only [World.size_alloc, World.size_setCell, World.size_drew, size_drewN] at s7
  have bb_7 : Below w.heap.size w w7 := by
    repeat' (first | (with_reducible assumption) | (with_reducible exact Below.refl _ _) | (with_reducible refine Blk.after ?_ b7) | (with_reducible refine RowIn.belowS ?_ b7) | (with_reducible refine Below.after ?_ b7 ?_) | (with_reducible refine Blk.drewN ?_ _) | (with_reducible refine RowIn.drewN ?_ _) | (with_reducible refine below_drewN ?_ _) | (with_reducible refine Blk.drew ?_) | (with_reducible refine RowIn.drew ?_) | (with_reducible refine Below.drew ?_) | (with_reducible refine Blk.new' ?_ ?_ <;> first | (with_reducible rfl) | (simp; done)) | (with_reducible refine Blk.alloc ?_ _) | (with_reducible refine RowIn.alloc ?_ _) | (with_reducible refine Below.alloc ?_ ?_ _) | (with_reducible apply Blk.set') | (with_reducible refine Blk.far' ?_ ?_ _) | (with_reducible refine RowIn.far' ?_ ?_ _) | (with_reducible refine Below.far' ?_ ?_ _) | rfl | omega | go_size)
  clear zb_6 zr_6 za_6 zp_6 rb_6 rt_6 rr_6 ra_6 rp_6 bb_6 kb_6 fb_6 lb_6 kr_6 fr_6 lr_6 ka_6 fa_6 la_6 kp_6 fp_6 lp_6 b7
  go_wp2
  go_ret
  refine ⟨rfl, ?_⟩
  repeat' (first | (with_reducible assumption) | (with_reducible exact Below.refl _ _) | (with_reducible refine Blk.drewN ?_ _) | (with_reducible refine RowIn.drewN ?_ _) | (with_reducible refine below_drewN ?_ _) | (with_reducible refine Blk.drew ?_) | (with_reducible refine RowIn.drew ?_) | (with_reducible refine Below.drew ?_) | (with_reducible refine Blk.new' ?_ ?_ <;> first | (with_reducible rfl) | (simp; done)) | (with_reducible refine Blk.alloc ?_ _) | (with_reducible refine RowIn.alloc ?_ _) | (with_reducible refine Below.alloc ?_ ?_ _) | (with_reducible apply Blk.set') | (with_reducible refine Blk.far' ?_ ?_ _) | (with_reducible refine RowIn.far' ?_ ?_ _) | (with_reducible refine Below.far' ?_ ?_ _) | rfl | omega | go_size)


end Go.Proofs.YtlkgdkefimlmdaaDoor
