/-
  The walk of UnaryShort.
-/
import Derived.Test.YtlkgdkefimlmdaaDoorLawU
import Derived.Test.YtlkgdkefimlmdaaDoorUnaB
import Derived.Test.YtlkgdkefimlmdaaDoorRefD
namespace Go.Proofs.YtlkgdkefimlmdaaDoor
open Go.RowKit Cad Cad.Bit Cad.Code
set_option linter.unusedVariables false
set_option linter.unusedSimpArgs false

theorem ones_next {l : List Bool} {j : Nat} (hj : j ≤ ones l) (hb : bitAt l j = true) : j + 1 ≤ ones l := by
  rcases Nat.lt_or_ge j (ones l) with h | h
  · exact h
  · exfalso
    obtain rfl : j = ones l := by omega
    rcases Nat.lt_or_ge (ones l) l.length with h2 | h2
    · have := ones_end h2
      rw [List.getElem?_eq_getElem h2] at this
      rw [bitAt_eq h2] at hb
      rw [hb] at this; cases this
    · unfold bitAt at hb
      rw [List.getD_eq_getElem?_getD, List.getElem?_eq_none h2] at hb; cases hb
theorem ones_stop {l : List Bool} {j : Nat} (hj : j ≤ ones l) (hb : bitAt l j = false) : j = ones l := by
  rcases Nat.lt_or_ge j (ones l) with h | h
  · exfalso
    have h2 := ones_get h
    unfold bitAt at hb
    rw [List.getD_eq_getElem?_getD, h2] at hb; cases hb
  · omega
theorem bitAt_drop (l : List Bool) (i j : Nat) : bitAt (l.drop i) j = bitAt l (i + j) := by unfold bitAt; rw [List.getD_eq_getElem?_getD, List.getD_eq_getElem?_getD, List.getElem?_drop]


set_option maxRecDepth 100000 in
set_option maxHeartbeats 1000000 in
theorem lawUnaryShort (w : World) (ht : Tab w) (Ab : Option Addr) (nb cb : Nat) (Nb : Int) (xsb : List Int) (hAb : RowC .u8 w Ab nb cb xsb) (hxb : Within 0 255 xsb) (hNb : -9223372036854775808 ≤ Nb ∧ Nb ≤ 9223372036854775807) (p : Int) (hp : -9223372036854775808 ≤ p ∧ p ≤ 9223372036854775807) :
    Calls Tryd.prog 6 #[.agg #[.slice Ab nb cb, .int .i64 Nb], .int .i64 p] w fun e w' => e = .returned (.bool true) ∧ Below w.heap.size w w' := by
  have hab := hAb.row
  have hcb := hAb.2
  have hrib := hab.rowIn
  have hti : RowIn .u8 w 0 w.heap.size (some ⟨0, 0, none⟩) 64 dbTab := ht.rowIn
  by_cases hvb : ¬ Valid xsb Nb
  · go_enter Tryd.func6, Tryd.ntmps6
    go_wp2_with fail
    refine (rcheck_bad Ab nb cb Nb xsb _ (by exact hab.alloc _) hxb (by omega) hvb).mono ?_
    rintro e w1 ⟨rfl, b1⟩
    have s1 := b1.size
    try simp only [World.size_alloc, World.size_setCell, World.size_drew, size_drewN] at s1
    obtain ⟨zb_1, rb_1, rt_1, bb_1⟩ : Blk w1 (w.heap.size) 24 [.slice Ab nb cb, .int .i64 Nb] ∧ RowIn .u8 w1 (0) (w.heap.size) Ab nb xsb ∧ RowIn .u8 w1 (0) (w.heap.size) (some ⟨0, 0, none⟩) 64 dbTab ∧ Below w.heap.size w w1 := by
      refine ⟨?_, ?_, ?_, ?_⟩
      all_goals repeat' (first | (with_reducible assumption) | (with_reducible exact Below.refl _ _) | (with_reducible refine Blk.after ?_ b1) | (with_reducible refine RowIn.belowS ?_ b1) | (with_reducible refine Below.after ?_ b1 ?_) | (with_reducible refine Blk.drewN ?_ _) | (with_reducible refine RowIn.drewN ?_ _) | (with_reducible refine below_drewN ?_ _) | (with_reducible refine Blk.drew ?_) | (with_reducible refine RowIn.drew ?_) | (with_reducible refine Below.drew ?_) | (with_reducible refine Blk.new' ?_ ?_ <;> first | (with_reducible rfl) | (simp; done)) | (with_reducible refine Blk.alloc ?_ _) | (with_reducible refine RowIn.alloc ?_ _) | (with_reducible refine Below.alloc ?_ ?_ _) | (with_reducible apply Blk.set') | (with_reducible refine Blk.far' ?_ ?_ _) | (with_reducible refine RowIn.far' ?_ ?_ _) | (with_reducible refine Below.far' ?_ ?_ _) | rfl | omega | go_size)
    clear b1
    have kb_1 := zb_1.cell; have fb_1 := zb_1.frozen; have lb_1 := zb_1.lt
    go_wp2_with fail
    refine (alive06 _).mono ?_
    rintro e w2 ⟨rfl, b2⟩
    have s2 := b2.size
    try simp only [World.size_alloc, World.size_setCell, World.size_drew, size_drewN] at s2
    have bb_2 : Below w.heap.size w w2 := by
      repeat' (first | (with_reducible assumption) | (with_reducible exact Below.refl _ _) | (with_reducible refine Blk.after ?_ b2) | (with_reducible refine RowIn.belowS ?_ b2) | (with_reducible refine Below.after ?_ b2 ?_) | (with_reducible refine Blk.drewN ?_ _) | (with_reducible refine RowIn.drewN ?_ _) | (with_reducible refine below_drewN ?_ _) | (with_reducible refine Blk.drew ?_) | (with_reducible refine RowIn.drew ?_) | (with_reducible refine Below.drew ?_) | (with_reducible refine Blk.new' ?_ ?_ <;> first | (with_reducible rfl) | (simp; done)) | (with_reducible refine Blk.alloc ?_ _) | (with_reducible refine RowIn.alloc ?_ _) | (with_reducible refine Below.alloc ?_ ?_ _) | (with_reducible apply Blk.set') | (with_reducible refine Blk.far' ?_ ?_ _) | (with_reducible refine RowIn.far' ?_ ?_ _) | (with_reducible refine Below.far' ?_ ?_ _) | rfl | omega | go_size)
    clear zb_1 rb_1 rt_1 bb_1 kb_1 fb_1 lb_1 b2
    go_wp2
    go_ret
    refine ⟨rfl, ?_⟩
    repeat' (first | (with_reducible assumption) | (with_reducible exact Below.refl _ _) | (with_reducible refine Blk.drewN ?_ _) | (with_reducible refine RowIn.drewN ?_ _) | (with_reducible refine below_drewN ?_ _) | (with_reducible refine Blk.drew ?_) | (with_reducible refine RowIn.drew ?_) | (with_reducible refine Below.drew ?_) | (with_reducible refine Blk.new' ?_ ?_ <;> first | (with_reducible rfl) | (simp; done)) | (with_reducible refine Blk.alloc ?_ _) | (with_reducible refine RowIn.alloc ?_ _) | (with_reducible refine Below.alloc ?_ ?_ _) | (with_reducible apply Blk.set') | (with_reducible refine Blk.far' ?_ ?_ _) | (with_reducible refine RowIn.far' ?_ ?_ _) | (with_reducible refine Below.far' ?_ ?_ _) | rfl | omega | go_size)
  obtain ⟨xb, rfl, rfl, hlb⟩ := valid_bits hxb (Decidable.not_not.1 hvb)
  clear hvb
  by_cases h1 : 1500 < xb.length
  · go_enter Tryd.func6, Tryd.ntmps6
    go_wp2_with fail
    refine (rcheck_ok Ab nb cb xb _ (by exact hab.alloc _) (by omega) hlb).mono ?_
    rintro e w1 ⟨rfl, b1⟩
    have s1 := b1.size
    try simp only [World.size_alloc, World.size_setCell, World.size_drew, size_drewN] at s1
    obtain ⟨zb_1, rb_1, rt_1, bb_1⟩ : Blk w1 (w.heap.size) 24 [.slice Ab nb cb, .int .i64 ((xb.length : Nat) : Int)] ∧ RowIn .u8 w1 (0) (w.heap.size) Ab nb (pack xb) ∧ RowIn .u8 w1 (0) (w.heap.size) (some ⟨0, 0, none⟩) 64 dbTab ∧ Below w.heap.size w w1 := by
      refine ⟨?_, ?_, ?_, ?_⟩
      all_goals repeat' (first | (with_reducible assumption) | (with_reducible exact Below.refl _ _) | (with_reducible refine Blk.after ?_ b1) | (with_reducible refine RowIn.belowS ?_ b1) | (with_reducible refine Below.after ?_ b1 ?_) | (with_reducible refine Blk.drewN ?_ _) | (with_reducible refine RowIn.drewN ?_ _) | (with_reducible refine below_drewN ?_ _) | (with_reducible refine Blk.drew ?_) | (with_reducible refine RowIn.drew ?_) | (with_reducible refine Below.drew ?_) | (with_reducible refine Blk.new' ?_ ?_ <;> first | (with_reducible rfl) | (simp; done)) | (with_reducible refine Blk.alloc ?_ _) | (with_reducible refine RowIn.alloc ?_ _) | (with_reducible refine Below.alloc ?_ ?_ _) | (with_reducible apply Blk.set') | (with_reducible refine Blk.far' ?_ ?_ _) | (with_reducible refine RowIn.far' ?_ ?_ _) | (with_reducible refine Below.far' ?_ ?_ _) | rfl | omega | go_size)
    clear b1
    have kb_1 := zb_1.cell; have fb_1 := zb_1.frozen; have lb_1 := zb_1.lt
    go_wp2_with fail
    refine (alive06 _).mono ?_
    rintro e w2 ⟨rfl, b2⟩
    have s2 := b2.size
    try simp only [World.size_alloc, World.size_setCell, World.size_drew, size_drewN] at s2
    have bb_2 : Below w.heap.size w w2 := by
      repeat' (first | (with_reducible assumption) | (with_reducible exact Below.refl _ _) | (with_reducible refine Blk.after ?_ b2) | (with_reducible refine RowIn.belowS ?_ b2) | (with_reducible refine Below.after ?_ b2 ?_) | (with_reducible refine Blk.drewN ?_ _) | (with_reducible refine RowIn.drewN ?_ _) | (with_reducible refine below_drewN ?_ _) | (with_reducible refine Blk.drew ?_) | (with_reducible refine RowIn.drew ?_) | (with_reducible refine Below.drew ?_) | (with_reducible refine Blk.new' ?_ ?_ <;> first | (with_reducible rfl) | (simp; done)) | (with_reducible refine Blk.alloc ?_ _) | (with_reducible refine RowIn.alloc ?_ _) | (with_reducible refine Below.alloc ?_ ?_ _) | (with_reducible apply Blk.set') | (with_reducible refine Blk.far' ?_ ?_ _) | (with_reducible refine RowIn.far' ?_ ?_ _) | (with_reducible refine Below.far' ?_ ?_ _) | rfl | omega | go_size)
    clear zb_1 rb_1 rt_1 bb_1 kb_1 fb_1 lb_1 b2
    go_wp2
    go_ret
    refine ⟨rfl, ?_⟩
    repeat' (first | (with_reducible assumption) | (with_reducible exact Below.refl _ _) | (with_reducible refine Blk.drewN ?_ _) | (with_reducible refine RowIn.drewN ?_ _) | (with_reducible refine below_drewN ?_ _) | (with_reducible refine Blk.drew ?_) | (with_reducible refine RowIn.drew ?_) | (with_reducible refine Below.drew ?_) | (with_reducible refine Blk.new' ?_ ?_ <;> first | (with_reducible rfl) | (simp; done)) | (with_reducible refine Blk.alloc ?_ _) | (with_reducible refine RowIn.alloc ?_ _) | (with_reducible refine Below.alloc ?_ ?_ _) | (with_reducible apply Blk.set') | (with_reducible refine Blk.far' ?_ ?_ _) | (with_reducible refine RowIn.far' ?_ ?_ _) | (with_reducible refine Below.far' ?_ ?_ _) | rfl | omega | go_size)
  by_cases h2 : p < 0
  · go_enter Tryd.func6, Tryd.ntmps6
    go_wp2_with fail
    refine (rcheck_ok Ab nb cb xb _ (by exact hab.alloc _) (by omega) hlb).mono ?_
    rintro e w1 ⟨rfl, b1⟩
    have s1 := b1.size
    try simp only [World.size_alloc, World.size_setCell, World.size_drew, size_drewN] at s1
    obtain ⟨zb_1, rb_1, rt_1, bb_1⟩ : Blk w1 (w.heap.size) 24 [.slice Ab nb cb, .int .i64 ((xb.length : Nat) : Int)] ∧ RowIn .u8 w1 (0) (w.heap.size) Ab nb (pack xb) ∧ RowIn .u8 w1 (0) (w.heap.size) (some ⟨0, 0, none⟩) 64 dbTab ∧ Below w.heap.size w w1 := by
      refine ⟨?_, ?_, ?_, ?_⟩
      all_goals repeat' (first | (with_reducible assumption) | (with_reducible exact Below.refl _ _) | (with_reducible refine Blk.after ?_ b1) | (with_reducible refine RowIn.belowS ?_ b1) | (with_reducible refine Below.after ?_ b1 ?_) | (with_reducible refine Blk.drewN ?_ _) | (with_reducible refine RowIn.drewN ?_ _) | (with_reducible refine below_drewN ?_ _) | (with_reducible refine Blk.drew ?_) | (with_reducible refine RowIn.drew ?_) | (with_reducible refine Below.drew ?_) | (with_reducible refine Blk.new' ?_ ?_ <;> first | (with_reducible rfl) | (simp; done)) | (with_reducible refine Blk.alloc ?_ _) | (with_reducible refine RowIn.alloc ?_ _) | (with_reducible refine Below.alloc ?_ ?_ _) | (with_reducible apply Blk.set') | (with_reducible refine Blk.far' ?_ ?_ _) | (with_reducible refine RowIn.far' ?_ ?_ _) | (with_reducible refine Below.far' ?_ ?_ _) | rfl | omega | go_size)
    clear b1
    have kb_1 := zb_1.cell; have fb_1 := zb_1.frozen; have lb_1 := zb_1.lt
    go_wp2_with fail
    refine (alive06 _).mono ?_
    rintro e w2 ⟨rfl, b2⟩
    have s2 := b2.size
    try simp only [World.size_alloc, World.size_setCell, World.size_drew, size_drewN] at s2
    have bb_2 : Below w.heap.size w w2 := by
      repeat' (first | (with_reducible assumption) | (with_reducible exact Below.refl _ _) | (with_reducible refine Blk.after ?_ b2) | (with_reducible refine RowIn.belowS ?_ b2) | (with_reducible refine Below.after ?_ b2 ?_) | (with_reducible refine Blk.drewN ?_ _) | (with_reducible refine RowIn.drewN ?_ _) | (with_reducible refine below_drewN ?_ _) | (with_reducible refine Blk.drew ?_) | (with_reducible refine RowIn.drew ?_) | (with_reducible refine Below.drew ?_) | (with_reducible refine Blk.new' ?_ ?_ <;> first | (with_reducible rfl) | (simp; done)) | (with_reducible refine Blk.alloc ?_ _) | (with_reducible refine RowIn.alloc ?_ _) | (with_reducible refine Below.alloc ?_ ?_ _) | (with_reducible apply Blk.set') | (with_reducible refine Blk.far' ?_ ?_ _) | (with_reducible refine RowIn.far' ?_ ?_ _) | (with_reducible refine Below.far' ?_ ?_ _) | rfl | omega | go_size)
    clear zb_1 rb_1 rt_1 bb_1 kb_1 fb_1 lb_1 b2
    go_wp2
    go_ret
    refine ⟨rfl, ?_⟩
    repeat' (first | (with_reducible assumption) | (with_reducible exact Below.refl _ _) | (with_reducible refine Blk.drewN ?_ _) | (with_reducible refine RowIn.drewN ?_ _) | (with_reducible refine below_drewN ?_ _) | (with_reducible refine Blk.drew ?_) | (with_reducible refine RowIn.drew ?_) | (with_reducible refine Below.drew ?_) | (with_reducible refine Blk.new' ?_ ?_ <;> first | (with_reducible rfl) | (simp; done)) | (with_reducible refine Blk.alloc ?_ _) | (with_reducible refine RowIn.alloc ?_ _) | (with_reducible refine Below.alloc ?_ ?_ _) | (with_reducible apply Blk.set') | (with_reducible refine Blk.far' ?_ ?_ _) | (with_reducible refine RowIn.far' ?_ ?_ _) | (with_reducible refine Below.far' ?_ ?_ _) | rfl | omega | go_size)
  by_cases h3 : (xb.length : Int) < p
  · go_enter Tryd.func6, Tryd.ntmps6
    go_wp2_with fail
    refine (rcheck_ok Ab nb cb xb _ (by exact hab.alloc _) (by omega) hlb).mono ?_
    rintro e w1 ⟨rfl, b1⟩
    have s1 := b1.size
    try simp only [World.size_alloc, World.size_setCell, World.size_drew, size_drewN] at s1
    obtain ⟨zb_1, rb_1, rt_1, bb_1⟩ : Blk w1 (w.heap.size) 24 [.slice Ab nb cb, .int .i64 ((xb.length : Nat) : Int)] ∧ RowIn .u8 w1 (0) (w.heap.size) Ab nb (pack xb) ∧ RowIn .u8 w1 (0) (w.heap.size) (some ⟨0, 0, none⟩) 64 dbTab ∧ Below w.heap.size w w1 := by
      refine ⟨?_, ?_, ?_, ?_⟩
      all_goals repeat' (first | (with_reducible assumption) | (with_reducible exact Below.refl _ _) | (with_reducible refine Blk.after ?_ b1) | (with_reducible refine RowIn.belowS ?_ b1) | (with_reducible refine Below.after ?_ b1 ?_) | (with_reducible refine Blk.drewN ?_ _) | (with_reducible refine RowIn.drewN ?_ _) | (with_reducible refine below_drewN ?_ _) | (with_reducible refine Blk.drew ?_) | (with_reducible refine RowIn.drew ?_) | (with_reducible refine Below.drew ?_) | (with_reducible refine Blk.new' ?_ ?_ <;> first | (with_reducible rfl) | (simp; done)) | (with_reducible refine Blk.alloc ?_ _) | (with_reducible refine RowIn.alloc ?_ _) | (with_reducible refine Below.alloc ?_ ?_ _) | (with_reducible apply Blk.set') | (with_reducible refine Blk.far' ?_ ?_ _) | (with_reducible refine RowIn.far' ?_ ?_ _) | (with_reducible refine Below.far' ?_ ?_ _) | rfl | omega | go_size)
    clear b1
    have kb_1 := zb_1.cell; have fb_1 := zb_1.frozen; have lb_1 := zb_1.lt
    go_wp2_with fail
    refine (alive06 _).mono ?_
    rintro e w2 ⟨rfl, b2⟩
    have s2 := b2.size
    try simp only [World.size_alloc, World.size_setCell, World.size_drew, size_drewN] at s2
    have bb_2 : Below w.heap.size w w2 := by
      repeat' (first | (with_reducible assumption) | (with_reducible exact Below.refl _ _) | (with_reducible refine Blk.after ?_ b2) | (with_reducible refine RowIn.belowS ?_ b2) | (with_reducible refine Below.after ?_ b2 ?_) | (with_reducible refine Blk.drewN ?_ _) | (with_reducible refine RowIn.drewN ?_ _) | (with_reducible refine below_drewN ?_ _) | (with_reducible refine Blk.drew ?_) | (with_reducible refine RowIn.drew ?_) | (with_reducible refine Below.drew ?_) | (with_reducible refine Blk.new' ?_ ?_ <;> first | (with_reducible rfl) | (simp; done)) | (with_reducible refine Blk.alloc ?_ _) | (with_reducible refine RowIn.alloc ?_ _) | (with_reducible refine Below.alloc ?_ ?_ _) | (with_reducible apply Blk.set') | (with_reducible refine Blk.far' ?_ ?_ _) | (with_reducible refine RowIn.far' ?_ ?_ _) | (with_reducible refine Below.far' ?_ ?_ _) | rfl | omega | go_size)
    clear zb_1 rb_1 rt_1 bb_1 kb_1 fb_1 lb_1 b2
    go_wp2
    go_ret
    refine ⟨rfl, ?_⟩
    repeat' (first | (with_reducible assumption) | (with_reducible exact Below.refl _ _) | (with_reducible refine Blk.drewN ?_ _) | (with_reducible refine RowIn.drewN ?_ _) | (with_reducible refine below_drewN ?_ _) | (with_reducible refine Blk.drew ?_) | (with_reducible refine RowIn.drew ?_) | (with_reducible refine Below.drew ?_) | (with_reducible refine Blk.new' ?_ ?_ <;> first | (with_reducible rfl) | (simp; done)) | (with_reducible refine Blk.alloc ?_ _) | (with_reducible refine RowIn.alloc ?_ _) | (with_reducible refine Below.alloc ?_ ?_ _) | (with_reducible apply Blk.set') | (with_reducible refine Blk.far' ?_ ?_ _) | (with_reducible refine RowIn.far' ?_ ?_ _) | (with_reducible refine Below.far' ?_ ?_ _) | rfl | omega | go_size)
  obtain ⟨i, rfl⟩ := Int.eq_ofNat_of_zero_le (by omega : 0 ≤ p)
  have hi : i ≤ xb.length := by omega
  have t1 : decide ((1500 : Int) < (xb.length : Int)) = false := decide_eq_false (by omega)
  have t2 : decide ((i : Int) < 0) = false := decide_eq_false (by omega)
  have t3 : decide (xb.length < i) = false := decide_eq_false (by omega)
  obtain ⟨L, hL⟩ : ∃ L, xb.drop i = L := ⟨_, rfl⟩
  have hLl : L.length = xb.length - i := by rw [← hL, List.length_drop]
  have hon := ones_le L
  have HL := Lib.hid hL
  have HLl := Lib.hid hLl
  have hLl1 : L.length + i ≤ xb.length := by omega
  have hLl2 : xb.length ≤ L.length + i := by omega
  clear h1 h2 h3 hL hLl
  cases hr : readU L with
  | err e =>
    obtain ⟨_, he1, he2⟩ := readU_err hr
    have HR := Lib.hid hr
    clear hr
    have he3 : L.length ≤ ones L := by omega
    clear he1
    go_enter Tryd.func6, Tryd.ntmps6
    go_wp2_with fail
    refine (rcheck_ok Ab nb cb xb _ (by exact hab.alloc _) (by omega) hlb).mono ?_
    rintro e w1 ⟨rfl, b1⟩
    have s1 := b1.size
    try simp only [World.size_alloc, World.size_setCell, World.size_drew, size_drewN] at s1
    obtain ⟨zb_1, rb_1, rt_1, bb_1⟩ : Blk w1 (w.heap.size) 24 [.slice Ab nb cb, .int .i64 ((xb.length : Nat) : Int)] ∧ RowIn .u8 w1 (0) (w.heap.size) Ab nb (pack xb) ∧ RowIn .u8 w1 (0) (w.heap.size) (some ⟨0, 0, none⟩) 64 dbTab ∧ Below w.heap.size w w1 := by
      refine ⟨?_, ?_, ?_, ?_⟩
      all_goals repeat' (first | (with_reducible assumption) | (with_reducible exact Below.refl _ _) | (with_reducible refine Blk.after ?_ b1) | (with_reducible refine RowIn.belowS ?_ b1) | (with_reducible refine Below.after ?_ b1 ?_) | (with_reducible refine Blk.drewN ?_ _) | (with_reducible refine RowIn.drewN ?_ _) | (with_reducible refine below_drewN ?_ _) | (with_reducible refine Blk.drew ?_) | (with_reducible refine RowIn.drew ?_) | (with_reducible refine Below.drew ?_) | (with_reducible refine Blk.new' ?_ ?_ <;> first | (with_reducible rfl) | (simp; done)) | (with_reducible refine Blk.alloc ?_ _) | (with_reducible refine RowIn.alloc ?_ _) | (with_reducible refine Below.alloc ?_ ?_ _) | (with_reducible apply Blk.set') | (with_reducible refine Blk.far' ?_ ?_ _) | (with_reducible refine RowIn.far' ?_ ?_ _) | (with_reducible refine Below.far' ?_ ?_ _) | rfl | omega | go_size)
    clear b1
    have kb_1 := zb_1.cell; have fb_1 := zb_1.frozen; have lb_1 := zb_1.lt
    go_wp2_with fail
    refine (uread_short Ab nb cb xb (i : Nat) e _ rb_1.row hcb hlb (by omega) (by rw [Int.toNat_natCast, HL.out]; exact HR.out) rt_1.row).mono ?_
    rintro e w2 ⟨rfl, b2⟩
    have s2 := b2.size
    try simp only [World.size_alloc, World.size_setCell, World.size_drew, size_drewN] at s2
    obtain ⟨zb_2, rb_2, rt_2, bb_2⟩ : Blk w2 (w.heap.size) 24 [.slice Ab nb cb, .int .i64 ((xb.length : Nat) : Int)] ∧ RowIn .u8 w2 (0) (w.heap.size) Ab nb (pack xb) ∧ RowIn .u8 w2 (0) (w.heap.size) (some ⟨0, 0, none⟩) 64 dbTab ∧ Below w.heap.size w w2 := by
      refine ⟨?_, ?_, ?_, ?_⟩
      all_goals repeat' (first | (with_reducible assumption) | (with_reducible exact Below.refl _ _) | (with_reducible refine Blk.after ?_ b2) | (with_reducible refine RowIn.belowS ?_ b2) | (with_reducible refine Below.after ?_ b2 ?_) | (with_reducible refine Blk.drewN ?_ _) | (with_reducible refine RowIn.drewN ?_ _) | (with_reducible refine below_drewN ?_ _) | (with_reducible refine Blk.drew ?_) | (with_reducible refine RowIn.drew ?_) | (with_reducible refine Below.drew ?_) | (with_reducible refine Blk.new' ?_ ?_ <;> first | (with_reducible rfl) | (simp; done)) | (with_reducible refine Blk.alloc ?_ _) | (with_reducible refine RowIn.alloc ?_ _) | (with_reducible refine Below.alloc ?_ ?_ _) | (with_reducible apply Blk.set') | (with_reducible refine Blk.far' ?_ ?_ _) | (with_reducible refine RowIn.far' ?_ ?_ _) | (with_reducible refine Below.far' ?_ ?_ _) | rfl | omega | go_size)
    clear zb_1 rb_1 rt_1 bb_1 kb_1 fb_1 lb_1 b2
    have kb_2 := zb_2.cell; have fb_2 := zb_2.frozen; have lb_2 := zb_2.lt
    go_wp2_with fail
    go_loopg [8] L.length (fun k v wr => ∃ j : Nat, j + k = L.length ∧ v = .int .i64 (j : Nat) ∧ Hid (j ≤ ones L) ∧ Below w2.heap.size w2 wr)
    case atStart => exact ⟨0, by omega, rfl, Lib.hid (Nat.zero_le _), Below.refl _ _⟩
    case round =>
      obtain ⟨j, hj, rfl, HJ, b9⟩ := hrel
      have s9 := b9.size
      try simp only [World.size_alloc, World.size_setCell, World.size_drew, size_drewN] at s9
      obtain ⟨zb_9, rb_9, rt_9, bb_9⟩ : Blk wr (w.heap.size) 24 [.slice Ab nb cb, .int .i64 ((xb.length : Nat) : Int)] ∧ RowIn .u8 wr (0) (w.heap.size) Ab nb (pack xb) ∧ RowIn .u8 wr (0) (w.heap.size) (some ⟨0, 0, none⟩) 64 dbTab ∧ Below w.heap.size w wr := by
        refine ⟨?_, ?_, ?_, ?_⟩
        all_goals repeat' (first | (with_reducible assumption) | (with_reducible exact Below.refl _ _) | (with_reducible refine Blk.after ?_ b9) | (with_reducible refine RowIn.belowS ?_ b9) | (with_reducible refine Below.after ?_ b9 ?_) | (with_reducible refine Blk.drewN ?_ _) | (with_reducible refine RowIn.drewN ?_ _) | (with_reducible refine below_drewN ?_ _) | (with_reducible refine Blk.drew ?_) | (with_reducible refine RowIn.drew ?_) | (with_reducible refine Below.drew ?_) | (with_reducible refine Blk.new' ?_ ?_ <;> first | (with_reducible rfl) | (simp; done)) | (with_reducible refine Blk.alloc ?_ _) | (with_reducible refine RowIn.alloc ?_ _) | (with_reducible refine Below.alloc ?_ ?_ _) | (with_reducible apply Blk.set') | (with_reducible refine Blk.far' ?_ ?_ _) | (with_reducible refine RowIn.far' ?_ ?_ _) | (with_reducible refine Below.far' ?_ ?_ _) | rfl | omega | go_size)
      have kb_9 := zb_9.cell; have fb_9 := zb_9.frozen; have lb_9 := zb_9.lt
      by_cases hlt : j < L.length
      · go_wp2_with fail
        refine (rat_bit Ab nb cb _ xb _ _ rb_9.row (by omega) (by omega) hlb (by omega)).mono ?_
        rintro e w10 ⟨v, rfl, HV, hv, b10⟩
        have s10 := b10.size
        try simp only [World.size_alloc, World.size_setCell, World.size_drew, size_drewN] at s10
        obtain ⟨zb_10, rb_10, rt_10, bb_10⟩ : Blk w10 (w.heap.size) 24 [.slice Ab nb cb, .int .i64 ((xb.length : Nat) : Int)] ∧ RowIn .u8 w10 (0) (w.heap.size) Ab nb (pack xb) ∧ RowIn .u8 w10 (0) (w.heap.size) (some ⟨0, 0, none⟩) 64 dbTab ∧ Below w.heap.size w w10 := by
          refine ⟨?_, ?_, ?_, ?_⟩
          all_goals repeat' (first | (with_reducible assumption) | (with_reducible exact Below.refl _ _) | (with_reducible refine Blk.after ?_ b10) | (with_reducible refine RowIn.belowS ?_ b10) | (with_reducible refine Below.after ?_ b10 ?_) | (with_reducible refine Blk.drewN ?_ _) | (with_reducible refine RowIn.drewN ?_ _) | (with_reducible refine below_drewN ?_ _) | (with_reducible refine Blk.drew ?_) | (with_reducible refine RowIn.drew ?_) | (with_reducible refine Below.drew ?_) | (with_reducible refine Blk.new' ?_ ?_ <;> first | (with_reducible rfl) | (simp; done)) | (with_reducible refine Blk.alloc ?_ _) | (with_reducible refine RowIn.alloc ?_ _) | (with_reducible refine Below.alloc ?_ ?_ _) | (with_reducible apply Blk.set') | (with_reducible refine Blk.far' ?_ ?_ _) | (with_reducible refine RowIn.far' ?_ ?_ _) | (with_reducible refine Below.far' ?_ ?_ _) | rfl | omega | go_size)
        have kb_10 := zb_10.cell; have fb_10 := zb_10.frozen; have lb_10 := zb_10.lt
        have hidx : ((i : Int) + (j : Int)).toNat = i + j := by omega
        rw [hidx, ← bitAt_drop, HL.out] at HV
        clear hidx
        by_cases hb : bitAt L j = true
        · have hv1 : v = 1 := by have := HV.out; rw [hb] at this; simp at this; omega
          subst hv1
          have hj1 := Lib.hid (ones_next HJ.out hb)
          have HB := Lib.hid hb
          clear hb
          go_wp2
          go_roundg (L.length - (j + 1))
          case measure => omega
          case rel => exact ⟨j + 1, by omega, by go_num, hj1, Below.after b9 b10 b9.size⟩
        · have hb0 : bitAt L j = false := by simpa using hb
          have hv0 : v = 0 := by have := HV.out; rw [hb0] at this; simp at this; omega
          subst hv0
          have HE := Lib.hid (ones_stop HJ.out hb0)
          have hE1 : j ≤ ones L ∧ ones L ≤ j := by have := HE.out; omega
          obtain ⟨hE1, hE2⟩ := hE1
          clear hb hb0 HV b10 b9
          exfalso
          omega
      · have hE1 : j ≤ ones L ∧ ones L ≤ j := by have := HJ.out; omega
        obtain ⟨hE1, hE2⟩ := hE1
        clear b9
        have t5 : ((i : Int) + (j : Int) == (xb.length : Int)) = true := beq_iff_eq.2 (by omega)
        go_wp2_with fail
        refine (alive06 _).mono ?_
        rintro e w10 ⟨rfl, b10⟩
        have s10 := b10.size
        try simp only [World.size_alloc, World.size_setCell, World.size_drew, size_drewN] at s10
        have bb_10 : Below w.heap.size w w10 := by
          repeat' (first | (with_reducible assumption) | (with_reducible exact Below.refl _ _) | (with_reducible refine Blk.after ?_ b10) | (with_reducible refine RowIn.belowS ?_ b10) | (with_reducible refine Below.after ?_ b10 ?_) | (with_reducible refine Blk.drewN ?_ _) | (with_reducible refine RowIn.drewN ?_ _) | (with_reducible refine below_drewN ?_ _) | (with_reducible refine Blk.drew ?_) | (with_reducible refine RowIn.drew ?_) | (with_reducible refine Below.drew ?_) | (with_reducible refine Blk.new' ?_ ?_ <;> first | (with_reducible rfl) | (simp; done)) | (with_reducible refine Blk.alloc ?_ _) | (with_reducible refine RowIn.alloc ?_ _) | (with_reducible refine Below.alloc ?_ ?_ _) | (with_reducible apply Blk.set') | (with_reducible refine Blk.far' ?_ ?_ _) | (with_reducible refine RowIn.far' ?_ ?_ _) | (with_reducible refine Below.far' ?_ ?_ _) | rfl | omega | go_size)
        clear zb_9 rb_9 rt_9 bb_9 kb_9 fb_9 lb_9 b10
        go_wp2
        go_ret
        refine ⟨rfl, ?_⟩
        repeat' (first | (with_reducible assumption) | (with_reducible exact Below.refl _ _) | (with_reducible refine Blk.drewN ?_ _) | (with_reducible refine RowIn.drewN ?_ _) | (with_reducible refine below_drewN ?_ _) | (with_reducible refine Blk.drew ?_) | (with_reducible refine RowIn.drew ?_) | (with_reducible refine Below.drew ?_) | (with_reducible refine Blk.new' ?_ ?_ <;> first | (with_reducible rfl) | (simp; done)) | (with_reducible refine Blk.alloc ?_ _) | (with_reducible refine RowIn.alloc ?_ _) | (with_reducible refine Below.alloc ?_ ?_ _) | (with_reducible apply Blk.set') | (with_reducible refine Blk.far' ?_ ?_ _) | (with_reducible refine RowIn.far' ?_ ?_ _) | (with_reducible refine Below.far' ?_ ?_ _) | rfl | omega | go_size)
  | ok n m =>
    obtain ⟨hn48, hm, t, htt⟩ := readU_inv hr
    have hnm : n ≤ ones L ∧ (ones L ≤ 48 → ones L ≤ n) ∧ (48 ≤ ones L → 48 ≤ n) ∧ m ≤ L.length := by
      have h1 : ones (L.take 48) = n := by
        have h2 := hr
        unfold readU at h2
        split at h2
        · injection h2 with h3 _; omega
        · split at h2
          · injection h2
          · cases h2
      rw [ones_take] at h1
      have h4 := congrArg List.length htt
      rw [List.length_append, run_len hn48, ← hm] at h4
      omega
    obtain ⟨hq1, hq2, hq3, hq4⟩ := hnm
    have HM := Lib.hid hm; have HT := Lib.hid htt; have HR := Lib.hid hr; have HQ2 := Lib.hid hq2; have HQ3 := Lib.hid hq3
    clear hm htt hr hq2 hq3
    have hrl : runLen n ≤ 48 := by unfold runLen; omega
    go_enter Tryd.func6, Tryd.ntmps6
    go_wp2_with fail
    refine (rcheck_ok Ab nb cb xb _ (by exact hab.alloc _) (by omega) hlb).mono ?_
    rintro e w1 ⟨rfl, b1⟩
    have s1 := b1.size
    try simp only [World.size_alloc, World.size_setCell, World.size_drew, size_drewN] at s1
    obtain ⟨zb_1, rb_1, rt_1, bb_1⟩ : Blk w1 (w.heap.size) 24 [.slice Ab nb cb, .int .i64 ((xb.length : Nat) : Int)] ∧ RowIn .u8 w1 (0) (w.heap.size) Ab nb (pack xb) ∧ RowIn .u8 w1 (0) (w.heap.size) (some ⟨0, 0, none⟩) 64 dbTab ∧ Below w.heap.size w w1 := by
      refine ⟨?_, ?_, ?_, ?_⟩
      all_goals repeat' (first | (with_reducible assumption) | (with_reducible exact Below.refl _ _) | (with_reducible refine Blk.after ?_ b1) | (with_reducible refine RowIn.belowS ?_ b1) | (with_reducible refine Below.after ?_ b1 ?_) | (with_reducible refine Blk.drewN ?_ _) | (with_reducible refine RowIn.drewN ?_ _) | (with_reducible refine below_drewN ?_ _) | (with_reducible refine Blk.drew ?_) | (with_reducible refine RowIn.drew ?_) | (with_reducible refine Below.drew ?_) | (with_reducible refine Blk.new' ?_ ?_ <;> first | (with_reducible rfl) | (simp; done)) | (with_reducible refine Blk.alloc ?_ _) | (with_reducible refine RowIn.alloc ?_ _) | (with_reducible refine Below.alloc ?_ ?_ _) | (with_reducible apply Blk.set') | (with_reducible refine Blk.far' ?_ ?_ _) | (with_reducible refine RowIn.far' ?_ ?_ _) | (with_reducible refine Below.far' ?_ ?_ _) | rfl | omega | go_size)
    clear b1
    have kb_1 := zb_1.cell; have fb_1 := zb_1.frozen; have lb_1 := zb_1.lt
    go_wp2_with fail
    refine (uread_ok Ab nb cb xb (i : Nat) n m _ rb_1.row hcb hlb (by omega) (by rw [Int.toNat_natCast, HL.out]; exact HR.out) rt_1.row).mono ?_
    rintro e w2 ⟨z, rfl, HZ, b2⟩
    have s2 := b2.size
    try simp only [World.size_alloc, World.size_setCell, World.size_drew, size_drewN] at s2
    obtain ⟨zb_2, rb_2, rt_2, bb_2⟩ : Blk w2 (w.heap.size) 24 [.slice Ab nb cb, .int .i64 ((xb.length : Nat) : Int)] ∧ RowIn .u8 w2 (0) (w.heap.size) Ab nb (pack xb) ∧ RowIn .u8 w2 (0) (w.heap.size) (some ⟨0, 0, none⟩) 64 dbTab ∧ Below w.heap.size w w2 := by
      refine ⟨?_, ?_, ?_, ?_⟩
      all_goals repeat' (first | (with_reducible assumption) | (with_reducible exact Below.refl _ _) | (with_reducible refine Blk.after ?_ b2) | (with_reducible refine RowIn.belowS ?_ b2) | (with_reducible refine Below.after ?_ b2 ?_) | (with_reducible refine Blk.drewN ?_ _) | (with_reducible refine RowIn.drewN ?_ _) | (with_reducible refine below_drewN ?_ _) | (with_reducible refine Blk.drew ?_) | (with_reducible refine RowIn.drew ?_) | (with_reducible refine Below.drew ?_) | (with_reducible refine Blk.new' ?_ ?_ <;> first | (with_reducible rfl) | (simp; done)) | (with_reducible refine Blk.alloc ?_ _) | (with_reducible refine RowIn.alloc ?_ _) | (with_reducible refine Below.alloc ?_ ?_ _) | (with_reducible apply Blk.set') | (with_reducible refine Blk.far' ?_ ?_ _) | (with_reducible refine RowIn.far' ?_ ?_ _) | (with_reducible refine Below.far' ?_ ?_ _) | rfl | omega | go_size)
    clear zb_1 rb_1 rt_1 bb_1 kb_1 fb_1 lb_1 b2
    have kb_2 := zb_2.cell; have fb_2 := zb_2.frozen; have lb_2 := zb_2.lt
    rw [Int.toNat_natCast] at HZ
    have hz1 : z ≤ i + m ∧ i + m ≤ z := by have := HZ.out; omega
    obtain ⟨hz1, hz2⟩ := hz1
    go_wp2_with fail
    go_loopg [8] L.length (fun k v wr => ∃ j : Nat, j + k = L.length ∧ v = .int .i64 (j : Nat) ∧ Hid (j ≤ ones L) ∧ Below w2.heap.size w2 wr)
    case atStart => exact ⟨0, by omega, rfl, Lib.hid (Nat.zero_le _), Below.refl _ _⟩
    case round =>
      obtain ⟨j, hj, rfl, HJ, b9⟩ := hrel
      have s9 := b9.size
      try simp only [World.size_alloc, World.size_setCell, World.size_drew, size_drewN] at s9
      obtain ⟨zb_9, rb_9, rt_9, bb_9⟩ : Blk wr (w.heap.size) 24 [.slice Ab nb cb, .int .i64 ((xb.length : Nat) : Int)] ∧ RowIn .u8 wr (0) (w.heap.size) Ab nb (pack xb) ∧ RowIn .u8 wr (0) (w.heap.size) (some ⟨0, 0, none⟩) 64 dbTab ∧ Below w.heap.size w wr := by
        refine ⟨?_, ?_, ?_, ?_⟩
        all_goals repeat' (first | (with_reducible assumption) | (with_reducible exact Below.refl _ _) | (with_reducible refine Blk.after ?_ b9) | (with_reducible refine RowIn.belowS ?_ b9) | (with_reducible refine Below.after ?_ b9 ?_) | (with_reducible refine Blk.drewN ?_ _) | (with_reducible refine RowIn.drewN ?_ _) | (with_reducible refine below_drewN ?_ _) | (with_reducible refine Blk.drew ?_) | (with_reducible refine RowIn.drew ?_) | (with_reducible refine Below.drew ?_) | (with_reducible refine Blk.new' ?_ ?_ <;> first | (with_reducible rfl) | (simp; done)) | (with_reducible refine Blk.alloc ?_ _) | (with_reducible refine RowIn.alloc ?_ _) | (with_reducible refine Below.alloc ?_ ?_ _) | (with_reducible apply Blk.set') | (with_reducible refine Blk.far' ?_ ?_ _) | (with_reducible refine RowIn.far' ?_ ?_ _) | (with_reducible refine Below.far' ?_ ?_ _) | rfl | omega | go_size)
      have kb_9 := zb_9.cell; have fb_9 := zb_9.frozen; have lb_9 := zb_9.lt
      by_cases hlt : j < L.length
      · go_wp2_with fail
        refine (rat_bit Ab nb cb _ xb _ _ rb_9.row (by omega) (by omega) hlb (by omega)).mono ?_
        rintro e w10 ⟨v, rfl, HV, hv, b10⟩
        have s10 := b10.size
        try simp only [World.size_alloc, World.size_setCell, World.size_drew, size_drewN] at s10
        obtain ⟨zb_10, rb_10, rt_10, bb_10⟩ : Blk w10 (w.heap.size) 24 [.slice Ab nb cb, .int .i64 ((xb.length : Nat) : Int)] ∧ RowIn .u8 w10 (0) (w.heap.size) Ab nb (pack xb) ∧ RowIn .u8 w10 (0) (w.heap.size) (some ⟨0, 0, none⟩) 64 dbTab ∧ Below w.heap.size w w10 := by
          refine ⟨?_, ?_, ?_, ?_⟩
          all_goals repeat' (first | (with_reducible assumption) | (with_reducible exact Below.refl _ _) | (with_reducible refine Blk.after ?_ b10) | (with_reducible refine RowIn.belowS ?_ b10) | (with_reducible refine Below.after ?_ b10 ?_) | (with_reducible refine Blk.drewN ?_ _) | (with_reducible refine RowIn.drewN ?_ _) | (with_reducible refine below_drewN ?_ _) | (with_reducible refine Blk.drew ?_) | (with_reducible refine RowIn.drew ?_) | (with_reducible refine Below.drew ?_) | (with_reducible refine Blk.new' ?_ ?_ <;> first | (with_reducible rfl) | (simp; done)) | (with_reducible refine Blk.alloc ?_ _) | (with_reducible refine RowIn.alloc ?_ _) | (with_reducible refine Below.alloc ?_ ?_ _) | (with_reducible apply Blk.set') | (with_reducible refine Blk.far' ?_ ?_ _) | (with_reducible refine RowIn.far' ?_ ?_ _) | (with_reducible refine Below.far' ?_ ?_ _) | rfl | omega | go_size)
        have kb_10 := zb_10.cell; have fb_10 := zb_10.frozen; have lb_10 := zb_10.lt
        have hidx : ((i : Int) + (j : Int)).toNat = i + j := by omega
        rw [hidx, ← bitAt_drop, HL.out] at HV
        clear hidx
        by_cases hb : bitAt L j = true
        · have hv1 : v = 1 := by have := HV.out; rw [hb] at this; simp at this; omega
          subst hv1
          have hj1 := Lib.hid (ones_next HJ.out hb)
          have HB := Lib.hid hb
          clear hb
          go_wp2
          go_roundg (L.length - (j + 1))
          case measure => omega
          case rel => exact ⟨j + 1, by omega, by go_num, hj1, Below.after b9 b10 b9.size⟩
        · have hb0 : bitAt L j = false := by simpa using hb
          have hv0 : v = 0 := by have := HV.out; rw [hb0] at this; simp at this; omega
          subst hv0
          have HE := Lib.hid (ones_stop HJ.out hb0)
          have hE1 : j ≤ ones L ∧ ones L ≤ j := by have := HE.out; omega
          obtain ⟨hE1, hE2⟩ := hE1
          clear hb hb0 HV b10 b9
          by_cases h48 : j ≤ 48
          · have hjn : n ≤ j ∧ j ≤ n := by have := HQ2.out; omega
            obtain ⟨hjn1, hjn2⟩ := hjn
            have t5 : ((n : Int) != (j : Int)) = false := by rw [bne_eq_false_iff_eq]; omega
            have hm1 : (j : Int) ≤ 48 := by omega
            have hm2 : ¬ (48 : Int) < (j : Int) := by omega
            go_wp2_with fail
            refine (bcut_ok Ab nb cb xb _ _ _ rb_10.row hcb hlb (by omega) (by omega) (by omega)).mono ?_
            rintro e w11 ⟨Ap, mp, cp, xp, rfl, hcp, rp, HXp, b11⟩
            have Lp : xp.length ≤ m ∧ m ≤ xp.length := by rw [HXp.out]; rw [List.length_take, List.length_drop]; omega
            obtain ⟨Lp1, Lp2⟩ := Lp
            replace rp := rp.mono (lo' := w10.heap.size + 0) (by go_size) (Nat.le_refl _)
            have s11 := b11.size
            try simp only [World.size_alloc, World.size_setCell, World.size_drew, size_drewN] at s11
            obtain ⟨zb_11, rb_11, rt_11, rp_11, bb_11⟩ : Blk w11 (w.heap.size) 24 [.slice Ab nb cb, .int .i64 ((xb.length : Nat) : Int)] ∧ RowIn .u8 w11 (0) (w.heap.size) Ab nb (pack xb) ∧ RowIn .u8 w11 (0) (w.heap.size) (some ⟨0, 0, none⟩) 64 dbTab ∧ RowIn .u8 w11 (w10.heap.size + 0) (w11.heap.size) Ap mp (pack xp) ∧ Below w.heap.size w w11 := by
              refine ⟨?_, ?_, ?_, ?_, ?_⟩
              all_goals repeat' (first | (with_reducible assumption) | (with_reducible exact Below.refl _ _) | (with_reducible refine Blk.after ?_ b11) | (with_reducible refine RowIn.belowS ?_ b11) | (with_reducible refine Below.after ?_ b11 ?_) | (with_reducible refine Blk.drewN ?_ _) | (with_reducible refine RowIn.drewN ?_ _) | (with_reducible refine below_drewN ?_ _) | (with_reducible refine Blk.drew ?_) | (with_reducible refine RowIn.drew ?_) | (with_reducible refine Below.drew ?_) | (with_reducible refine Blk.new' ?_ ?_ <;> first | (with_reducible rfl) | (simp; done)) | (with_reducible refine Blk.alloc ?_ _) | (with_reducible refine RowIn.alloc ?_ _) | (with_reducible refine Below.alloc ?_ ?_ _) | (with_reducible apply Blk.set') | (with_reducible refine Blk.far' ?_ ?_ _) | (with_reducible refine RowIn.far' ?_ ?_ _) | (with_reducible refine Below.far' ?_ ?_ _) | rfl | omega | go_size)
            clear zb_10 rb_10 rt_10 bb_10 kb_10 fb_10 lb_10 b11
            have kb_11 := zb_11.cell; have fb_11 := zb_11.frozen; have lb_11 := zb_11.lt
            clear rp
            go_wp2_with fail
            refine (uwrite_ok none 0 0 [] (n : Nat) _ Row.nil ⟨Nat.le_refl _, Nat.zero_le _⟩ (by omega) (by rw [Int.toNat_natCast]; simp; omega)).mono ?_
            rintro e w12 ⟨Ar, mr, cr, xr, rfl, hcr, rr, HXr, b12⟩
            have Lr : xr.length ≤ runLen n ∧ runLen n ≤ xr.length := by rw [HXr.out]; rw [Int.toNat_natCast, List.nil_append, run_len hn48]; omega
            obtain ⟨Lr1, Lr2⟩ := Lr
            replace rr := rr.mono (lo' := w11.heap.size + 1) (by go_size) (Nat.le_refl _)
            have s12 := b12.size
            try simp only [World.size_alloc, World.size_setCell, World.size_drew, size_drewN] at s12
            obtain ⟨zb_12, zp_12, rb_12, rt_12, rp_12, rr_12, bb_12⟩ : Blk w12 (w.heap.size) 24 [.slice Ab nb cb, .int .i64 ((xb.length : Nat) : Int)] ∧ Blk w12 (w11.heap.size) 24 [.slice Ap mp cp, .int .i64 ((xp.length : Nat) : Int)] ∧ RowIn .u8 w12 (0) (w.heap.size) Ab nb (pack xb) ∧ RowIn .u8 w12 (0) (w.heap.size) (some ⟨0, 0, none⟩) 64 dbTab ∧ RowIn .u8 w12 (w10.heap.size + 0) (w11.heap.size) Ap mp (pack xp) ∧ RowIn .u8 w12 (w11.heap.size + 1) (w12.heap.size) Ar mr (pack xr) ∧ Below w.heap.size w w12 := by
              refine ⟨?_, ?_, ?_, ?_, ?_, ?_, ?_⟩
              all_goals repeat' (first | (with_reducible assumption) | (with_reducible exact Below.refl _ _) | (with_reducible refine Blk.after ?_ b12) | (with_reducible refine RowIn.belowS ?_ b12) | (with_reducible refine Below.after ?_ b12 ?_) | (with_reducible refine Blk.drewN ?_ _) | (with_reducible refine RowIn.drewN ?_ _) | (with_reducible refine below_drewN ?_ _) | (with_reducible refine Blk.drew ?_) | (with_reducible refine RowIn.drew ?_) | (with_reducible refine Below.drew ?_) | (with_reducible refine Blk.new' ?_ ?_ <;> first | (with_reducible rfl) | (simp; done)) | (with_reducible refine Blk.alloc ?_ _) | (with_reducible refine RowIn.alloc ?_ _) | (with_reducible refine Below.alloc ?_ ?_ _) | (with_reducible apply Blk.set') | (with_reducible refine Blk.far' ?_ ?_ _) | (with_reducible refine RowIn.far' ?_ ?_ _) | (with_reducible refine Below.far' ?_ ?_ _) | rfl | omega | go_size)
            clear zb_11 rb_11 rt_11 rp_11 bb_11 kb_11 fb_11 lb_11 b12
            have kb_12 := zb_12.cell; have fb_12 := zb_12.frozen; have lb_12 := zb_12.lt
            have kp_12 := zp_12.cell; have fp_12 := zp_12.frozen; have lp_12 := zp_12.lt
            clear rr
            have HE3 : Hid (xp = xr) := by
              refine Lib.hid ?_
              rw [HXp.out, HXr.out, Int.toNat_natCast, Int.toNat_natCast, Int.toNat_natCast, HL.out, List.nil_append, HZ.out, show i + m - i = m by omega, HT.out, HM.out, ← run_len hn48, List.take_left]
            go_wp2_with fail
            refine (rsame_bits Ap Ar mp mr cp cr xp xr _ (by exact (rp_12.row.alloc _)) (by exact (rr_12.row.alloc _)) HE3.out).mono ?_
            rintro e w13 ⟨rfl, b13⟩
            have s13 := b13.size
            try simp only [World.size_alloc, World.size_setCell, World.size_drew, size_drewN] at s13
            obtain ⟨zb_13, zp_13, zr_13, rb_13, rt_13, rp_13, rr_13, bb_13⟩ : Blk w13 (w.heap.size) 24 [.slice Ab nb cb, .int .i64 ((xb.length : Nat) : Int)] ∧ Blk w13 (w11.heap.size) 24 [.slice Ap mp cp, .int .i64 ((xp.length : Nat) : Int)] ∧ Blk w13 (w12.heap.size) 24 [.slice Ar mr cr, .int .i64 ((xr.length : Nat) : Int)] ∧ RowIn .u8 w13 (0) (w.heap.size) Ab nb (pack xb) ∧ RowIn .u8 w13 (0) (w.heap.size) (some ⟨0, 0, none⟩) 64 dbTab ∧ RowIn .u8 w13 (w10.heap.size + 0) (w11.heap.size) Ap mp (pack xp) ∧ RowIn .u8 w13 (w11.heap.size + 1) (w12.heap.size) Ar mr (pack xr) ∧ Below w.heap.size w w13 := by
              refine ⟨?_, ?_, ?_, ?_, ?_, ?_, ?_, ?_⟩
              all_goals repeat' (first | (with_reducible assumption) | (with_reducible exact Below.refl _ _) | (with_reducible refine Blk.after ?_ b13) | (with_reducible refine RowIn.belowS ?_ b13) | (with_reducible refine Below.after ?_ b13 ?_) | (with_reducible refine Blk.drewN ?_ _) | (with_reducible refine RowIn.drewN ?_ _) | (with_reducible refine below_drewN ?_ _) | (with_reducible refine Blk.drew ?_) | (with_reducible refine RowIn.drew ?_) | (with_reducible refine Below.drew ?_) | (with_reducible refine Blk.new' ?_ ?_ <;> first | (with_reducible rfl) | (simp; done)) | (with_reducible refine Blk.alloc ?_ _) | (with_reducible refine RowIn.alloc ?_ _) | (with_reducible refine Below.alloc ?_ ?_ _) | (with_reducible apply Blk.set') | (with_reducible refine Blk.far' ?_ ?_ _) | (with_reducible refine RowIn.far' ?_ ?_ _) | (with_reducible refine Below.far' ?_ ?_ _) | rfl | omega | go_size)
            clear zb_12 zp_12 rb_12 rt_12 rp_12 rr_12 bb_12 kb_12 fb_12 lb_12 kp_12 fp_12 lp_12 b13
            have kb_13 := zb_13.cell; have fb_13 := zb_13.frozen; have lb_13 := zb_13.lt
            have kp_13 := zp_13.cell; have fp_13 := zp_13.frozen; have lp_13 := zp_13.lt
            have kr_13 := zr_13.cell; have fr_13 := zr_13.frozen; have lr_13 := zr_13.lt
            go_wp2_with fail
            refine (alive06 _).mono ?_
            rintro e w14 ⟨rfl, b14⟩
            have s14 := b14.size
            try simp only [World.size_alloc, World.size_setCell, World.size_drew, size_drewN] at s14
            have bb_14 : Below w.heap.size w w14 := by
              repeat' (first | (with_reducible assumption) | (with_reducible exact Below.refl _ _) | (with_reducible refine Blk.after ?_ b14) | (with_reducible refine RowIn.belowS ?_ b14) | (with_reducible refine Below.after ?_ b14 ?_) | (with_reducible refine Blk.drewN ?_ _) | (with_reducible refine RowIn.drewN ?_ _) | (with_reducible refine below_drewN ?_ _) | (with_reducible refine Blk.drew ?_) | (with_reducible refine RowIn.drew ?_) | (with_reducible refine Below.drew ?_) | (with_reducible refine Blk.new' ?_ ?_ <;> first | (with_reducible rfl) | (simp; done)) | (with_reducible refine Blk.alloc ?_ _) | (with_reducible refine RowIn.alloc ?_ _) | (with_reducible refine Below.alloc ?_ ?_ _) | (with_reducible apply Blk.set') | (with_reducible refine Blk.far' ?_ ?_ _) | (with_reducible refine RowIn.far' ?_ ?_ _) | (with_reducible refine Below.far' ?_ ?_ _) | rfl | omega | go_size)
            clear zb_13 zp_13 zr_13 rb_13 rt_13 rp_13 rr_13 bb_13 kb_13 fb_13 lb_13 kp_13 fp_13 lp_13 kr_13 fr_13 lr_13 b14
            go_wp2
            go_ret
            refine ⟨rfl, ?_⟩
            repeat' (first | (with_reducible assumption) | (with_reducible exact Below.refl _ _) | (with_reducible refine Blk.drewN ?_ _) | (with_reducible refine RowIn.drewN ?_ _) | (with_reducible refine below_drewN ?_ _) | (with_reducible refine Blk.drew ?_) | (with_reducible refine RowIn.drew ?_) | (with_reducible refine Below.drew ?_) | (with_reducible refine Blk.new' ?_ ?_ <;> first | (with_reducible rfl) | (simp; done)) | (with_reducible refine Blk.alloc ?_ _) | (with_reducible refine RowIn.alloc ?_ _) | (with_reducible refine Below.alloc ?_ ?_ _) | (with_reducible apply Blk.set') | (with_reducible refine Blk.far' ?_ ?_ _) | (with_reducible refine RowIn.far' ?_ ?_ _) | (with_reducible refine Below.far' ?_ ?_ _) | rfl | omega | go_size)
          · have hjn : n ≤ 48 ∧ 48 ≤ n := by have := HQ3.out; omega
            obtain ⟨hjn1, hjn2⟩ := hjn
            have t5 : ((n : Int) != 48) = false := by rw [bne_eq_false_iff_eq]; omega
            have hm1 : (48 : Int) < (j : Int) := by omega
            go_wp2_with fail
            refine (bcut_ok Ab nb cb xb _ _ _ rb_10.row hcb hlb (by omega) (by omega) (by omega)).mono ?_
            rintro e w11 ⟨Ap, mp, cp, xp, rfl, hcp, rp, HXp, b11⟩
            have Lp : xp.length ≤ m ∧ m ≤ xp.length := by rw [HXp.out]; rw [List.length_take, List.length_drop]; omega
            obtain ⟨Lp1, Lp2⟩ := Lp
            replace rp := rp.mono (lo' := w10.heap.size + 0) (by go_size) (Nat.le_refl _)
            have s11 := b11.size
            try simp only [World.size_alloc, World.size_setCell, World.size_drew, size_drewN] at s11
            obtain ⟨zb_11, rb_11, rt_11, rp_11, bb_11⟩ : Blk w11 (w.heap.size) 24 [.slice Ab nb cb, .int .i64 ((xb.length : Nat) : Int)] ∧ RowIn .u8 w11 (0) (w.heap.size) Ab nb (pack xb) ∧ RowIn .u8 w11 (0) (w.heap.size) (some ⟨0, 0, none⟩) 64 dbTab ∧ RowIn .u8 w11 (w10.heap.size + 0) (w11.heap.size) Ap mp (pack xp) ∧ Below w.heap.size w w11 := by
              refine ⟨?_, ?_, ?_, ?_, ?_⟩
              all_goals repeat' (first | (with_reducible assumption) | (with_reducible exact Below.refl _ _) | (with_reducible refine Blk.after ?_ b11) | (with_reducible refine RowIn.belowS ?_ b11) | (with_reducible refine Below.after ?_ b11 ?_) | (with_reducible refine Blk.drewN ?_ _) | (with_reducible refine RowIn.drewN ?_ _) | (with_reducible refine below_drewN ?_ _) | (with_reducible refine Blk.drew ?_) | (with_reducible refine RowIn.drew ?_) | (with_reducible refine Below.drew ?_) | (with_reducible refine Blk.new' ?_ ?_ <;> first | (with_reducible rfl) | (simp; done)) | (with_reducible refine Blk.alloc ?_ _) | (with_reducible refine RowIn.alloc ?_ _) | (with_reducible refine Below.alloc ?_ ?_ _) | (with_reducible apply Blk.set') | (with_reducible refine Blk.far' ?_ ?_ _) | (with_reducible refine RowIn.far' ?_ ?_ _) | (with_reducible refine Below.far' ?_ ?_ _) | rfl | omega | go_size)
            clear zb_10 rb_10 rt_10 bb_10 kb_10 fb_10 lb_10 b11
            have kb_11 := zb_11.cell; have fb_11 := zb_11.frozen; have lb_11 := zb_11.lt
            clear rp
            go_wp2_with fail
            refine (uwrite_ok none 0 0 [] (n : Nat) _ Row.nil ⟨Nat.le_refl _, Nat.zero_le _⟩ (by omega) (by rw [Int.toNat_natCast]; simp; omega)).mono ?_
            rintro e w12 ⟨Ar, mr, cr, xr, rfl, hcr, rr, HXr, b12⟩
            have Lr : xr.length ≤ runLen n ∧ runLen n ≤ xr.length := by rw [HXr.out]; rw [Int.toNat_natCast, List.nil_append, run_len hn48]; omega
            obtain ⟨Lr1, Lr2⟩ := Lr
            replace rr := rr.mono (lo' := w11.heap.size + 1) (by go_size) (Nat.le_refl _)
            have s12 := b12.size
            try simp only [World.size_alloc, World.size_setCell, World.size_drew, size_drewN] at s12
            obtain ⟨zb_12, zp_12, rb_12, rt_12, rp_12, rr_12, bb_12⟩ : Blk w12 (w.heap.size) 24 [.slice Ab nb cb, .int .i64 ((xb.length : Nat) : Int)] ∧ Blk w12 (w11.heap.size) 24 [.slice Ap mp cp, .int .i64 ((xp.length : Nat) : Int)] ∧ RowIn .u8 w12 (0) (w.heap.size) Ab nb (pack xb) ∧ RowIn .u8 w12 (0) (w.heap.size) (some ⟨0, 0, none⟩) 64 dbTab ∧ RowIn .u8 w12 (w10.heap.size + 0) (w11.heap.size) Ap mp (pack xp) ∧ RowIn .u8 w12 (w11.heap.size + 1) (w12.heap.size) Ar mr (pack xr) ∧ Below w.heap.size w w12 := by
              refine ⟨?_, ?_, ?_, ?_, ?_, ?_, ?_⟩
              all_goals repeat' (first | (with_reducible assumption) | (with_reducible exact Below.refl _ _) | (with_reducible refine Blk.after ?_ b12) | (with_reducible refine RowIn.belowS ?_ b12) | (with_reducible refine Below.after ?_ b12 ?_) | (with_reducible refine Blk.drewN ?_ _) | (with_reducible refine RowIn.drewN ?_ _) | (with_reducible refine below_drewN ?_ _) | (with_reducible refine Blk.drew ?_) | (with_reducible refine RowIn.drew ?_) | (with_reducible refine Below.drew ?_) | (with_reducible refine Blk.new' ?_ ?_ <;> first | (with_reducible rfl) | (simp; done)) | (with_reducible refine Blk.alloc ?_ _) | (with_reducible refine RowIn.alloc ?_ _) | (with_reducible refine Below.alloc ?_ ?_ _) | (with_reducible apply Blk.set') | (with_reducible refine Blk.far' ?_ ?_ _) | (with_reducible refine RowIn.far' ?_ ?_ _) | (with_reducible refine Below.far' ?_ ?_ _) | rfl | omega | go_size)
            clear zb_11 rb_11 rt_11 rp_11 bb_11 kb_11 fb_11 lb_11 b12
            have kb_12 := zb_12.cell; have fb_12 := zb_12.frozen; have lb_12 := zb_12.lt
            have kp_12 := zp_12.cell; have fp_12 := zp_12.frozen; have lp_12 := zp_12.lt
            clear rr
            have HE3 : Hid (xp = xr) := by
              refine Lib.hid ?_
              rw [HXp.out, HXr.out, Int.toNat_natCast, Int.toNat_natCast, Int.toNat_natCast, HL.out, List.nil_append, HZ.out, show i + m - i = m by omega, HT.out, HM.out, ← run_len hn48, List.take_left]
            go_wp2_with fail
            refine (rsame_bits Ap Ar mp mr cp cr xp xr _ (by exact (rp_12.row.alloc _)) (by exact (rr_12.row.alloc _)) HE3.out).mono ?_
            rintro e w13 ⟨rfl, b13⟩
            have s13 := b13.size
            try simp only [World.size_alloc, World.size_setCell, World.size_drew, size_drewN] at s13
            obtain ⟨zb_13, zp_13, zr_13, rb_13, rt_13, rp_13, rr_13, bb_13⟩ : Blk w13 (w.heap.size) 24 [.slice Ab nb cb, .int .i64 ((xb.length : Nat) : Int)] ∧ Blk w13 (w11.heap.size) 24 [.slice Ap mp cp, .int .i64 ((xp.length : Nat) : Int)] ∧ Blk w13 (w12.heap.size) 24 [.slice Ar mr cr, .int .i64 ((xr.length : Nat) : Int)] ∧ RowIn .u8 w13 (0) (w.heap.size) Ab nb (pack xb) ∧ RowIn .u8 w13 (0) (w.heap.size) (some ⟨0, 0, none⟩) 64 dbTab ∧ RowIn .u8 w13 (w10.heap.size + 0) (w11.heap.size) Ap mp (pack xp) ∧ RowIn .u8 w13 (w11.heap.size + 1) (w12.heap.size) Ar mr (pack xr) ∧ Below w.heap.size w w13 := by
              refine ⟨?_, ?_, ?_, ?_, ?_, ?_, ?_, ?_⟩
              all_goals repeat' (first | (with_reducible assumption) | (with_reducible exact Below.refl _ _) | (with_reducible refine Blk.after ?_ b13) | (with_reducible refine RowIn.belowS ?_ b13) | (with_reducible refine Below.after ?_ b13 ?_) | (with_reducible refine Blk.drewN ?_ _) | (with_reducible refine RowIn.drewN ?_ _) | (with_reducible refine below_drewN ?_ _) | (with_reducible refine Blk.drew ?_) | (with_reducible refine RowIn.drew ?_) | (with_reducible refine Below.drew ?_) | (with_reducible refine Blk.new' ?_ ?_ <;> first | (with_reducible rfl) | (simp; done)) | (with_reducible refine Blk.alloc ?_ _) | (with_reducible refine RowIn.alloc ?_ _) | (with_reducible refine Below.alloc ?_ ?_ _) | (with_reducible apply Blk.set') | (with_reducible refine Blk.far' ?_ ?_ _) | (with_reducible refine RowIn.far' ?_ ?_ _) | (with_reducible refine Below.far' ?_ ?_ _) | rfl | omega | go_size)
            clear zb_12 zp_12 rb_12 rt_12 rp_12 rr_12 bb_12 kb_12 fb_12 lb_12 kp_12 fp_12 lp_12 b13
            have kb_13 := zb_13.cell; have fb_13 := zb_13.frozen; have lb_13 := zb_13.lt
            have kp_13 := zp_13.cell; have fp_13 := zp_13.frozen; have lp_13 := zp_13.lt
            have kr_13 := zr_13.cell; have fr_13 := zr_13.frozen; have lr_13 := zr_13.lt
            go_wp2_with fail
            refine (alive06 _).mono ?_
            rintro e w14 ⟨rfl, b14⟩
            have s14 := b14.size
            try simp only [World.size_alloc, World.size_setCell, World.size_drew, size_drewN] at s14
            have bb_14 : Below w.heap.size w w14 := by
              repeat' (first | (with_reducible assumption) | (with_reducible exact Below.refl _ _) | (with_reducible refine Blk.after ?_ b14) | (with_reducible refine RowIn.belowS ?_ b14) | (with_reducible refine Below.after ?_ b14 ?_) | (with_reducible refine Blk.drewN ?_ _) | (with_reducible refine RowIn.drewN ?_ _) | (with_reducible refine below_drewN ?_ _) | (with_reducible refine Blk.drew ?_) | (with_reducible refine RowIn.drew ?_) | (with_reducible refine Below.drew ?_) | (with_reducible refine Blk.new' ?_ ?_ <;> first | (with_reducible rfl) | (simp; done)) | (with_reducible refine Blk.alloc ?_ _) | (with_reducible refine RowIn.alloc ?_ _) | (with_reducible refine Below.alloc ?_ ?_ _) | (with_reducible apply Blk.set') | (with_reducible refine Blk.far' ?_ ?_ _) | (with_reducible refine RowIn.far' ?_ ?_ _) | (with_reducible refine Below.far' ?_ ?_ _) | rfl | omega | go_size)
            clear zb_13 zp_13 zr_13 rb_13 rt_13 rp_13 rr_13 bb_13 kb_13 fb_13 lb_13 kp_13 fp_13 lp_13 kr_13 fr_13 lr_13 b14
            go_wp2
            go_ret
            refine ⟨rfl, ?_⟩
            repeat' (first | (with_reducible assumption) | (with_reducible exact Below.refl _ _) | (with_reducible refine Blk.drewN ?_ _) | (with_reducible refine RowIn.drewN ?_ _) | (with_reducible refine below_drewN ?_ _) | (with_reducible refine Blk.drew ?_) | (with_reducible refine RowIn.drew ?_) | (with_reducible refine Below.drew ?_) | (with_reducible refine Blk.new' ?_ ?_ <;> first | (with_reducible rfl) | (simp; done)) | (with_reducible refine Blk.alloc ?_ _) | (with_reducible refine RowIn.alloc ?_ _) | (with_reducible refine Below.alloc ?_ ?_ _) | (with_reducible apply Blk.set') | (with_reducible refine Blk.far' ?_ ?_ _) | (with_reducible refine RowIn.far' ?_ ?_ _) | (with_reducible refine Below.far' ?_ ?_ _) | rfl | omega | go_size)
      · have hE1 : j ≤ ones L ∧ ones L ≤ j := by have := HJ.out; omega
        obtain ⟨hE1, hE2⟩ := hE1
        clear b9
        by_cases h48 : j ≤ 48
        · have hjn : n ≤ j ∧ j ≤ n := by have := HQ2.out; omega
          obtain ⟨hjn1, hjn2⟩ := hjn
          have t5 : ((n : Int) != (j : Int)) = false := by rw [bne_eq_false_iff_eq]; omega
          have hm1 : (j : Int) ≤ 48 := by omega
          have hm2 : ¬ (48 : Int) < (j : Int) := by omega
          go_wp2_with fail
          refine (bcut_ok Ab nb cb xb _ _ _ rb_9.row hcb hlb (by omega) (by omega) (by omega)).mono ?_
          rintro e w10 ⟨Ap, mp, cp, xp, rfl, hcp, rp, HXp, b10⟩
          have Lp : xp.length ≤ m ∧ m ≤ xp.length := by rw [HXp.out]; rw [List.length_take, List.length_drop]; omega
          obtain ⟨Lp1, Lp2⟩ := Lp
          replace rp := rp.mono (lo' := wr.heap.size + 0) (by go_size) (Nat.le_refl _)
          have s10 := b10.size
          try simp only [World.size_alloc, World.size_setCell, World.size_drew, size_drewN] at s10
          obtain ⟨zb_10, rb_10, rt_10, rp_10, bb_10⟩ : Blk w10 (w.heap.size) 24 [.slice Ab nb cb, .int .i64 ((xb.length : Nat) : Int)] ∧ RowIn .u8 w10 (0) (w.heap.size) Ab nb (pack xb) ∧ RowIn .u8 w10 (0) (w.heap.size) (some ⟨0, 0, none⟩) 64 dbTab ∧ RowIn .u8 w10 (wr.heap.size + 0) (w10.heap.size) Ap mp (pack xp) ∧ Below w.heap.size w w10 := by
            refine ⟨?_, ?_, ?_, ?_, ?_⟩
            all_goals repeat' (first | (with_reducible assumption) | (with_reducible exact Below.refl _ _) | (with_reducible refine Blk.after ?_ b10) | (with_reducible refine RowIn.belowS ?_ b10) | (with_reducible refine Below.after ?_ b10 ?_) | (with_reducible refine Blk.drewN ?_ _) | (with_reducible refine RowIn.drewN ?_ _) | (with_reducible refine below_drewN ?_ _) | (with_reducible refine Blk.drew ?_) | (with_reducible refine RowIn.drew ?_) | (with_reducible refine Below.drew ?_) | (with_reducible refine Blk.new' ?_ ?_ <;> first | (with_reducible rfl) | (simp; done)) | (with_reducible refine Blk.alloc ?_ _) | (with_reducible refine RowIn.alloc ?_ _) | (with_reducible refine Below.alloc ?_ ?_ _) | (with_reducible apply Blk.set') | (with_reducible refine Blk.far' ?_ ?_ _) | (with_reducible refine RowIn.far' ?_ ?_ _) | (with_reducible refine Below.far' ?_ ?_ _) | rfl | omega | go_size)
          clear zb_9 rb_9 rt_9 bb_9 kb_9 fb_9 lb_9 b10
          have kb_10 := zb_10.cell; have fb_10 := zb_10.frozen; have lb_10 := zb_10.lt
          clear rp
          go_wp2_with fail
          refine (uwrite_ok none 0 0 [] (n : Nat) _ Row.nil ⟨Nat.le_refl _, Nat.zero_le _⟩ (by omega) (by rw [Int.toNat_natCast]; simp; omega)).mono ?_
          rintro e w11 ⟨Ar, mr, cr, xr, rfl, hcr, rr, HXr, b11⟩
          have Lr : xr.length ≤ runLen n ∧ runLen n ≤ xr.length := by rw [HXr.out]; rw [Int.toNat_natCast, List.nil_append, run_len hn48]; omega
          obtain ⟨Lr1, Lr2⟩ := Lr
          replace rr := rr.mono (lo' := w10.heap.size + 1) (by go_size) (Nat.le_refl _)
          have s11 := b11.size
          try simp only [World.size_alloc, World.size_setCell, World.size_drew, size_drewN] at s11
          obtain ⟨zb_11, zp_11, rb_11, rt_11, rp_11, rr_11, bb_11⟩ : Blk w11 (w.heap.size) 24 [.slice Ab nb cb, .int .i64 ((xb.length : Nat) : Int)] ∧ Blk w11 (w10.heap.size) 24 [.slice Ap mp cp, .int .i64 ((xp.length : Nat) : Int)] ∧ RowIn .u8 w11 (0) (w.heap.size) Ab nb (pack xb) ∧ RowIn .u8 w11 (0) (w.heap.size) (some ⟨0, 0, none⟩) 64 dbTab ∧ RowIn .u8 w11 (wr.heap.size + 0) (w10.heap.size) Ap mp (pack xp) ∧ RowIn .u8 w11 (w10.heap.size + 1) (w11.heap.size) Ar mr (pack xr) ∧ Below w.heap.size w w11 := by
            refine ⟨?_, ?_, ?_, ?_, ?_, ?_, ?_⟩
            all_goals repeat' (first | (with_reducible assumption) | (with_reducible exact Below.refl _ _) | (with_reducible refine Blk.after ?_ b11) | (with_reducible refine RowIn.belowS ?_ b11) | (with_reducible refine Below.after ?_ b11 ?_) | (with_reducible refine Blk.drewN ?_ _) | (with_reducible refine RowIn.drewN ?_ _) | (with_reducible refine below_drewN ?_ _) | (with_reducible refine Blk.drew ?_) | (with_reducible refine RowIn.drew ?_) | (with_reducible refine Below.drew ?_) | (with_reducible refine Blk.new' ?_ ?_ <;> first | (with_reducible rfl) | (simp; done)) | (with_reducible refine Blk.alloc ?_ _) | (with_reducible refine RowIn.alloc ?_ _) | (with_reducible refine Below.alloc ?_ ?_ _) | (with_reducible apply Blk.set') | (with_reducible refine Blk.far' ?_ ?_ _) | (with_reducible refine RowIn.far' ?_ ?_ _) | (with_reducible refine Below.far' ?_ ?_ _) | rfl | omega | go_size)
          clear zb_10 rb_10 rt_10 rp_10 bb_10 kb_10 fb_10 lb_10 b11
          have kb_11 := zb_11.cell; have fb_11 := zb_11.frozen; have lb_11 := zb_11.lt
          have kp_11 := zp_11.cell; have fp_11 := zp_11.frozen; have lp_11 := zp_11.lt
          clear rr
          have HE3 : Hid (xp = xr) := by
            refine Lib.hid ?_
            rw [HXp.out, HXr.out, Int.toNat_natCast, Int.toNat_natCast, Int.toNat_natCast, HL.out, List.nil_append, HZ.out, show i + m - i = m by omega, HT.out, HM.out, ← run_len hn48, List.take_left]
          go_wp2_with fail
          refine (rsame_bits Ap Ar mp mr cp cr xp xr _ (by exact (rp_11.row.alloc _)) (by exact (rr_11.row.alloc _)) HE3.out).mono ?_
          rintro e w12 ⟨rfl, b12⟩
          have s12 := b12.size
          try simp only [World.size_alloc, World.size_setCell, World.size_drew, size_drewN] at s12
          obtain ⟨zb_12, zp_12, zr_12, rb_12, rt_12, rp_12, rr_12, bb_12⟩ : Blk w12 (w.heap.size) 24 [.slice Ab nb cb, .int .i64 ((xb.length : Nat) : Int)] ∧ Blk w12 (w10.heap.size) 24 [.slice Ap mp cp, .int .i64 ((xp.length : Nat) : Int)] ∧ Blk w12 (w11.heap.size) 24 [.slice Ar mr cr, .int .i64 ((xr.length : Nat) : Int)] ∧ RowIn .u8 w12 (0) (w.heap.size) Ab nb (pack xb) ∧ RowIn .u8 w12 (0) (w.heap.size) (some ⟨0, 0, none⟩) 64 dbTab ∧ RowIn .u8 w12 (wr.heap.size + 0) (w10.heap.size) Ap mp (pack xp) ∧ RowIn .u8 w12 (w10.heap.size + 1) (w11.heap.size) Ar mr (pack xr) ∧ Below w.heap.size w w12 := by
            refine ⟨?_, ?_, ?_, ?_, ?_, ?_, ?_, ?_⟩
            all_goals repeat' (first | (with_reducible assumption) | (with_reducible exact Below.refl _ _) | (with_reducible refine Blk.after ?_ b12) | (with_reducible refine RowIn.belowS ?_ b12) | (with_reducible refine Below.after ?_ b12 ?_) | (with_reducible refine Blk.drewN ?_ _) | (with_reducible refine RowIn.drewN ?_ _) | (with_reducible refine below_drewN ?_ _) | (with_reducible refine Blk.drew ?_) | (with_reducible refine RowIn.drew ?_) | (with_reducible refine Below.drew ?_) | (with_reducible refine Blk.new' ?_ ?_ <;> first | (with_reducible rfl) | (simp; done)) | (with_reducible refine Blk.alloc ?_ _) | (with_reducible refine RowIn.alloc ?_ _) | (with_reducible refine Below.alloc ?_ ?_ _) | (with_reducible apply Blk.set') | (with_reducible refine Blk.far' ?_ ?_ _) | (with_reducible refine RowIn.far' ?_ ?_ _) | (with_reducible refine Below.far' ?_ ?_ _) | rfl | omega | go_size)
          clear zb_11 zp_11 rb_11 rt_11 rp_11 rr_11 bb_11 kb_11 fb_11 lb_11 kp_11 fp_11 lp_11 b12
          have kb_12 := zb_12.cell; have fb_12 := zb_12.frozen; have lb_12 := zb_12.lt
          have kp_12 := zp_12.cell; have fp_12 := zp_12.frozen; have lp_12 := zp_12.lt
          have kr_12 := zr_12.cell; have fr_12 := zr_12.frozen; have lr_12 := zr_12.lt
          go_wp2_with fail
          refine (alive06 _).mono ?_
          rintro e w13 ⟨rfl, b13⟩
          have s13 := b13.size
          try simp only [World.size_alloc, World.size_setCell, World.size_drew, size_drewN] at s13
          have bb_13 : Below w.heap.size w w13 := by
            repeat' (first | (with_reducible assumption) | (with_reducible exact Below.refl _ _) | (with_reducible refine Blk.after ?_ b13) | (with_reducible refine RowIn.belowS ?_ b13) | (with_reducible refine Below.after ?_ b13 ?_) | (with_reducible refine Blk.drewN ?_ _) | (with_reducible refine RowIn.drewN ?_ _) | (with_reducible refine below_drewN ?_ _) | (with_reducible refine Blk.drew ?_) | (with_reducible refine RowIn.drew ?_) | (with_reducible refine Below.drew ?_) | (with_reducible refine Blk.new' ?_ ?_ <;> first | (with_reducible rfl) | (simp; done)) | (with_reducible refine Blk.alloc ?_ _) | (with_reducible refine RowIn.alloc ?_ _) | (with_reducible refine Below.alloc ?_ ?_ _) | (with_reducible apply Blk.set') | (with_reducible refine Blk.far' ?_ ?_ _) | (with_reducible refine RowIn.far' ?_ ?_ _) | (with_reducible refine Below.far' ?_ ?_ _) | rfl | omega | go_size)
          clear zb_12 zp_12 zr_12 rb_12 rt_12 rp_12 rr_12 bb_12 kb_12 fb_12 lb_12 kp_12 fp_12 lp_12 kr_12 fr_12 lr_12 b13
          go_wp2
          go_ret
          refine ⟨rfl, ?_⟩
          repeat' (first | (with_reducible assumption) | (with_reducible exact Below.refl _ _) | (with_reducible refine Blk.drewN ?_ _) | (with_reducible refine RowIn.drewN ?_ _) | (with_reducible refine below_drewN ?_ _) | (with_reducible refine Blk.drew ?_) | (with_reducible refine RowIn.drew ?_) | (with_reducible refine Below.drew ?_) | (with_reducible refine Blk.new' ?_ ?_ <;> first | (with_reducible rfl) | (simp; done)) | (with_reducible refine Blk.alloc ?_ _) | (with_reducible refine RowIn.alloc ?_ _) | (with_reducible refine Below.alloc ?_ ?_ _) | (with_reducible apply Blk.set') | (with_reducible refine Blk.far' ?_ ?_ _) | (with_reducible refine RowIn.far' ?_ ?_ _) | (with_reducible refine Below.far' ?_ ?_ _) | rfl | omega | go_size)
        · have hjn : n ≤ 48 ∧ 48 ≤ n := by have := HQ3.out; omega
          obtain ⟨hjn1, hjn2⟩ := hjn
          have t5 : ((n : Int) != 48) = false := by rw [bne_eq_false_iff_eq]; omega
          have hm1 : (48 : Int) < (j : Int) := by omega
          go_wp2_with fail
          refine (bcut_ok Ab nb cb xb _ _ _ rb_9.row hcb hlb (by omega) (by omega) (by omega)).mono ?_
          rintro e w10 ⟨Ap, mp, cp, xp, rfl, hcp, rp, HXp, b10⟩
          have Lp : xp.length ≤ m ∧ m ≤ xp.length := by rw [HXp.out]; rw [List.length_take, List.length_drop]; omega
          obtain ⟨Lp1, Lp2⟩ := Lp
          replace rp := rp.mono (lo' := wr.heap.size + 0) (by go_size) (Nat.le_refl _)
          have s10 := b10.size
          try simp only [World.size_alloc, World.size_setCell, World.size_drew, size_drewN] at s10
          obtain ⟨zb_10, rb_10, rt_10, rp_10, bb_10⟩ : Blk w10 (w.heap.size) 24 [.slice Ab nb cb, .int .i64 ((xb.length : Nat) : Int)] ∧ RowIn .u8 w10 (0) (w.heap.size) Ab nb (pack xb) ∧ RowIn .u8 w10 (0) (w.heap.size) (some ⟨0, 0, none⟩) 64 dbTab ∧ RowIn .u8 w10 (wr.heap.size + 0) (w10.heap.size) Ap mp (pack xp) ∧ Below w.heap.size w w10 := by
            refine ⟨?_, ?_, ?_, ?_, ?_⟩
            all_goals repeat' (first | (with_reducible assumption) | (with_reducible exact Below.refl _ _) | (with_reducible refine Blk.after ?_ b10) | (with_reducible refine RowIn.belowS ?_ b10) | (with_reducible refine Below.after ?_ b10 ?_) | (with_reducible refine Blk.drewN ?_ _) | (with_reducible refine RowIn.drewN ?_ _) | (with_reducible refine below_drewN ?_ _) | (with_reducible refine Blk.drew ?_) | (with_reducible refine RowIn.drew ?_) | (with_reducible refine Below.drew ?_) | (with_reducible refine Blk.new' ?_ ?_ <;> first | (with_reducible rfl) | (simp; done)) | (with_reducible refine Blk.alloc ?_ _) | (with_reducible refine RowIn.alloc ?_ _) | (with_reducible refine Below.alloc ?_ ?_ _) | (with_reducible apply Blk.set') | (with_reducible refine Blk.far' ?_ ?_ _) | (with_reducible refine RowIn.far' ?_ ?_ _) | (with_reducible refine Below.far' ?_ ?_ _) | rfl | omega | go_size)
          clear zb_9 rb_9 rt_9 bb_9 kb_9 fb_9 lb_9 b10
          have kb_10 := zb_10.cell; have fb_10 := zb_10.frozen; have lb_10 := zb_10.lt
          clear rp
          go_wp2_with fail
          refine (uwrite_ok none 0 0 [] (n : Nat) _ Row.nil ⟨Nat.le_refl _, Nat.zero_le _⟩ (by omega) (by rw [Int.toNat_natCast]; simp; omega)).mono ?_
          rintro e w11 ⟨Ar, mr, cr, xr, rfl, hcr, rr, HXr, b11⟩
          have Lr : xr.length ≤ runLen n ∧ runLen n ≤ xr.length := by rw [HXr.out]; rw [Int.toNat_natCast, List.nil_append, run_len hn48]; omega
          obtain ⟨Lr1, Lr2⟩ := Lr
          replace rr := rr.mono (lo' := w10.heap.size + 1) (by go_size) (Nat.le_refl _)
          have s11 := b11.size
          try simp only [World.size_alloc, World.size_setCell, World.size_drew, size_drewN] at s11
          obtain ⟨zb_11, zp_11, rb_11, rt_11, rp_11, rr_11, bb_11⟩ : Blk w11 (w.heap.size) 24 [.slice Ab nb cb, .int .i64 ((xb.length : Nat) : Int)] ∧ Blk w11 (w10.heap.size) 24 [.slice Ap mp cp, .int .i64 ((xp.length : Nat) : Int)] ∧ RowIn .u8 w11 (0) (w.heap.size) Ab nb (pack xb) ∧ RowIn .u8 w11 (0) (w.heap.size) (some ⟨0, 0, none⟩) 64 dbTab ∧ RowIn .u8 w11 (wr.heap.size + 0) (w10.heap.size) Ap mp (pack xp) ∧ RowIn .u8 w11 (w10.heap.size + 1) (w11.heap.size) Ar mr (pack xr) ∧ Below w.heap.size w w11 := by
            refine ⟨?_, ?_, ?_, ?_, ?_, ?_, ?_⟩
            all_goals repeat' (first | (with_reducible assumption) | (with_reducible exact Below.refl _ _) | (with_reducible refine Blk.after ?_ b11) | (with_reducible refine RowIn.belowS ?_ b11) | (with_reducible refine Below.after ?_ b11 ?_) | (with_reducible refine Blk.drewN ?_ _) | (with_reducible refine RowIn.drewN ?_ _) | (with_reducible refine below_drewN ?_ _) | (with_reducible refine Blk.drew ?_) | (with_reducible refine RowIn.drew ?_) | (with_reducible refine Below.drew ?_) | (with_reducible refine Blk.new' ?_ ?_ <;> first | (with_reducible rfl) | (simp; done)) | (with_reducible refine Blk.alloc ?_ _) | (with_reducible refine RowIn.alloc ?_ _) | (with_reducible refine Below.alloc ?_ ?_ _) | (with_reducible apply Blk.set') | (with_reducible refine Blk.far' ?_ ?_ _) | (with_reducible refine RowIn.far' ?_ ?_ _) | (with_reducible refine Below.far' ?_ ?_ _) | rfl | omega | go_size)
          clear zb_10 rb_10 rt_10 rp_10 bb_10 kb_10 fb_10 lb_10 b11
          have kb_11 := zb_11.cell; have fb_11 := zb_11.frozen; have lb_11 := zb_11.lt
          have kp_11 := zp_11.cell; have fp_11 := zp_11.frozen; have lp_11 := zp_11.lt
          clear rr
          have HE3 : Hid (xp = xr) := by
            refine Lib.hid ?_
            rw [HXp.out, HXr.out, Int.toNat_natCast, Int.toNat_natCast, Int.toNat_natCast, HL.out, List.nil_append, HZ.out, show i + m - i = m by omega, HT.out, HM.out, ← run_len hn48, List.take_left]
          go_wp2_with fail
          refine (rsame_bits Ap Ar mp mr cp cr xp xr _ (by exact (rp_11.row.alloc _)) (by exact (rr_11.row.alloc _)) HE3.out).mono ?_
          rintro e w12 ⟨rfl, b12⟩
          have s12 := b12.size
          try simp only [World.size_alloc, World.size_setCell, World.size_drew, size_drewN] at s12
          obtain ⟨zb_12, zp_12, zr_12, rb_12, rt_12, rp_12, rr_12, bb_12⟩ : Blk w12 (w.heap.size) 24 [.slice Ab nb cb, .int .i64 ((xb.length : Nat) : Int)] ∧ Blk w12 (w10.heap.size) 24 [.slice Ap mp cp, .int .i64 ((xp.length : Nat) : Int)] ∧ Blk w12 (w11.heap.size) 24 [.slice Ar mr cr, .int .i64 ((xr.length : Nat) : Int)] ∧ RowIn .u8 w12 (0) (w.heap.size) Ab nb (pack xb) ∧ RowIn .u8 w12 (0) (w.heap.size) (some ⟨0, 0, none⟩) 64 dbTab ∧ RowIn .u8 w12 (wr.heap.size + 0) (w10.heap.size) Ap mp (pack xp) ∧ RowIn .u8 w12 (w10.heap.size + 1) (w11.heap.size) Ar mr (pack xr) ∧ Below w.heap.size w w12 := by
            refine ⟨?_, ?_, ?_, ?_, ?_, ?_, ?_, ?_⟩
            all_goals repeat' (first | (with_reducible assumption) | (with_reducible exact Below.refl _ _) | (with_reducible refine Blk.after ?_ b12) | (with_reducible refine RowIn.belowS ?_ b12) | (with_reducible refine Below.after ?_ b12 ?_) | (with_reducible refine Blk.drewN ?_ _) | (with_reducible refine RowIn.drewN ?_ _) | (with_reducible refine below_drewN ?_ _) | (with_reducible refine Blk.drew ?_) | (with_reducible refine RowIn.drew ?_) | (with_reducible refine Below.drew ?_) | (with_reducible refine Blk.new' ?_ ?_ <;> first | (with_reducible rfl) | (simp; done)) | (with_reducible refine Blk.alloc ?_ _) | (with_reducible refine RowIn.alloc ?_ _) | (with_reducible refine Below.alloc ?_ ?_ _) | (with_reducible apply Blk.set') | (with_reducible refine Blk.far' ?_ ?_ _) | (with_reducible refine RowIn.far' ?_ ?_ _) | (with_reducible refine Below.far' ?_ ?_ _) | rfl | omega | go_size)
          clear zb_11 zp_11 rb_11 rt_11 rp_11 rr_11 bb_11 kb_11 fb_11 lb_11 kp_11 fp_11 lp_11 b12
          have kb_12 := zb_12.cell; have fb_12 := zb_12.frozen; have lb_12 := zb_12.lt
          have kp_12 := zp_12.cell; have fp_12 := zp_12.frozen; have lp_12 := zp_12.lt
          have kr_12 := zr_12.cell; have fr_12 := zr_12.frozen; have lr_12 := zr_12.lt
          go_wp2_with fail
          refine (alive06 _).mono ?_
          rintro e w13 ⟨rfl, b13⟩
          have s13 := b13.size
          try simp only [World.size_alloc, World.size_setCell, World.size_drew, size_drewN] at s13
          have bb_13 : Below w.heap.size w w13 := by
            repeat' (first | (with_reducible assumption) | (with_reducible exact Below.refl _ _) | (with_reducible refine Blk.after ?_ b13) | (with_reducible refine RowIn.belowS ?_ b13) | (with_reducible refine Below.after ?_ b13 ?_) | (with_reducible refine Blk.drewN ?_ _) | (with_reducible refine RowIn.drewN ?_ _) | (with_reducible refine below_drewN ?_ _) | (with_reducible refine Blk.drew ?_) | (with_reducible refine RowIn.drew ?_) | (with_reducible refine Below.drew ?_) | (with_reducible refine Blk.new' ?_ ?_ <;> first | (with_reducible rfl) | (simp; done)) | (with_reducible refine Blk.alloc ?_ _) | (with_reducible refine RowIn.alloc ?_ _) | (with_reducible refine Below.alloc ?_ ?_ _) | (with_reducible apply Blk.set') | (with_reducible refine Blk.far' ?_ ?_ _) | (with_reducible refine RowIn.far' ?_ ?_ _) | (with_reducible refine Below.far' ?_ ?_ _) | rfl | omega | go_size)
          clear zb_12 zp_12 zr_12 rb_12 rt_12 rp_12 rr_12 bb_12 kb_12 fb_12 lb_12 kp_12 fp_12 lp_12 kr_12 fr_12 lr_12 b13
          go_wp2
          go_ret
          refine ⟨rfl, ?_⟩
          repeat' (first | (with_reducible assumption) | (with_reducible exact Below.refl _ _) | (with_reducible refine Blk.drewN ?_ _) | (with_reducible refine RowIn.drewN ?_ _) | (with_reducible refine below_drewN ?_ _) | (with_reducible refine Blk.drew ?_) | (with_reducible refine RowIn.drew ?_) | (with_reducible refine Below.drew ?_) | (with_reducible refine Blk.new' ?_ ?_ <;> first | (with_reducible rfl) | (simp; done)) | (with_reducible refine Blk.alloc ?_ _) | (with_reducible refine RowIn.alloc ?_ _) | (with_reducible refine Below.alloc ?_ ?_ _) | (with_reducible apply Blk.set') | (with_reducible refine Blk.far' ?_ ?_ _) | (with_reducible refine RowIn.far' ?_ ?_ _) | (with_reducible refine Below.far' ?_ ?_ _) | rfl | omega | go_size)


end Go.Proofs.YtlkgdkefimlmdaaDoor
