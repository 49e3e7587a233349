/-
  The walk of BlockBurst.
-/
import Derived.Test.YtncmnfnminjchaaLawS
import Derived.Test.YtncmnfnminjchaaBurst
namespace Go.Proofs.Ytncmnfnminjchaa
open Go.RowKit Cad Cad.Bit Cad.Crc Cad.Le
set_option linter.unusedVariables false
set_option linter.unusedSimpArgs false


set_option maxRecDepth 100000 in
set_option maxHeartbeats 1000000 in
theorem lawBlockBurst (w : World) (Ab : Option Addr) (nb cb : Nat) (Nb : Int) (xsb : List Int) (hAb : RowC .u8 w Ab nb cb xsb) (hxb : Within 0 255 xsb) (hNb : -9223372036854775808 ≤ Nb ∧ Nb ≤ 9223372036854775807) (q : Int) (hq : -9223372036854775808 ≤ q ∧ q ≤ 9223372036854775807) (v : Int) (hv : 0 ≤ v ∧ v ≤ 4294967295) :
    Calls Try.prog 7 #[.agg #[.slice Ab nb cb, .int .i64 Nb], .int .i64 q, .int .u32 v] w fun e w' => e = .returned (.bool true) ∧ Below w.heap.size w w' := by
  have hab := hAb.row
  have hcb := hAb.2
  have hrib := hab.rowIn
  by_cases hvb : ¬ Valid xsb Nb
  · go_enter Try.func7, Try.ntmps7
    go_wp2_with fail
    refine (rcheck_bad Ab nb cb Nb xsb _ (by exact RowIn.row (lo := 0) (hi := w.heap.size) (by repeat' (first | (with_reducible assumption) | (with_reducible exact Below.refl _ _) | (with_reducible refine Blk.drewN ?_ _) | (with_reducible refine RowIn.drewN ?_ _) | (with_reducible refine below_drewN ?_ _) | (with_reducible refine Blk.drew ?_) | (with_reducible refine RowIn.drew ?_) | (with_reducible refine Below.drew ?_) | (with_reducible refine Blk.new' ?_ ?_ <;> first | (with_reducible rfl) | (simp; done)) | (with_reducible refine Blk.alloc ?_ _) | (with_reducible refine RowIn.alloc ?_ _) | (with_reducible refine Below.alloc ?_ ?_ _) | (with_reducible apply Blk.set') | (with_reducible apply Blk.far') | (with_reducible refine RowIn.far' ?_ ?_ _) | (with_reducible refine Below.far' ?_ ?_ _) | rfl | omega | go_size))) hxb (by omega) hvb).mono ?_
    rintro e w1 ⟨rfl, b1⟩
    have s1 := b1.size
    try simp only [World.size_alloc, World.size_setCell, World.size_drew, size_drewN] at s1
    obtain ⟨zb_1, rb_1, bb_1⟩ : Blk w1 (w.heap.size) 25 [.slice Ab nb cb, .int .i64 Nb] ∧ RowIn .u8 w1 (0) (w.heap.size) Ab nb xsb ∧ Below w.heap.size w w1 := by
      refine ⟨?_, ?_, ?_⟩
      all_goals repeat' (first | (with_reducible assumption) | (with_reducible exact Below.refl _ _) | (with_reducible refine Blk.after ?_ b1) | (with_reducible refine RowIn.belowS ?_ b1) | (with_reducible refine Below.after ?_ b1 ?_) | (with_reducible refine Blk.drewN ?_ _) | (with_reducible refine RowIn.drewN ?_ _) | (with_reducible refine below_drewN ?_ _) | (with_reducible refine Blk.drew ?_) | (with_reducible refine RowIn.drew ?_) | (with_reducible refine Below.drew ?_) | (with_reducible refine Blk.new' ?_ ?_ <;> first | (with_reducible rfl) | (simp; done)) | (with_reducible refine Blk.alloc ?_ _) | (with_reducible refine RowIn.alloc ?_ _) | (with_reducible refine Below.alloc ?_ ?_ _) | (with_reducible apply Blk.set') | (with_reducible apply Blk.far') | (with_reducible refine RowIn.far' ?_ ?_ _) | (with_reducible refine Below.far' ?_ ?_ _) | rfl | omega | go_size)
    clear b1
    have kb_1 := zb_1.cell; have fb_1 := zb_1.frozen; have lb_1 := zb_1.lt
    go_wp2_with fail
    refine (alive11 _).mono ?_
    rintro e w2 ⟨rfl, b2⟩
    have s2 := b2.size
    try simp only [World.size_alloc, World.size_setCell, World.size_drew, size_drewN] at s2
    have bb_2 : Below w.heap.size w w2 := by
      repeat' (first | (with_reducible assumption) | (with_reducible exact Below.refl _ _) | (with_reducible refine Blk.after ?_ b2) | (with_reducible refine RowIn.belowS ?_ b2) | (with_reducible refine Below.after ?_ b2 ?_) | (with_reducible refine Blk.drewN ?_ _) | (with_reducible refine RowIn.drewN ?_ _) | (with_reducible refine below_drewN ?_ _) | (with_reducible refine Blk.drew ?_) | (with_reducible refine RowIn.drew ?_) | (with_reducible refine Below.drew ?_) | (with_reducible refine Blk.new' ?_ ?_ <;> first | (with_reducible rfl) | (simp; done)) | (with_reducible refine Blk.alloc ?_ _) | (with_reducible refine RowIn.alloc ?_ _) | (with_reducible refine Below.alloc ?_ ?_ _) | (with_reducible apply Blk.set') | (with_reducible apply Blk.far') | (with_reducible refine RowIn.far' ?_ ?_ _) | (with_reducible refine Below.far' ?_ ?_ _) | rfl | omega | go_size)
    clear zb_1 rb_1 bb_1 kb_1 fb_1 lb_1 b2
    go_wp2
    go_ret
    refine ⟨rfl, ?_⟩
    repeat' (first | (with_reducible assumption) | (with_reducible exact Below.refl _ _) | (with_reducible refine Blk.drewN ?_ _) | (with_reducible refine RowIn.drewN ?_ _) | (with_reducible refine below_drewN ?_ _) | (with_reducible refine Blk.drew ?_) | (with_reducible refine RowIn.drew ?_) | (with_reducible refine Below.drew ?_) | (with_reducible refine Blk.new' ?_ ?_ <;> first | (with_reducible rfl) | (simp; done)) | (with_reducible refine Blk.alloc ?_ _) | (with_reducible refine RowIn.alloc ?_ _) | (with_reducible refine Below.alloc ?_ ?_ _) | (with_reducible apply Blk.set') | (with_reducible apply Blk.far') | (with_reducible refine RowIn.far' ?_ ?_ _) | (with_reducible refine Below.far' ?_ ?_ _) | rfl | omega | go_size)
  obtain ⟨xb, rfl, rfl, hlb⟩ := valid_bits hxb (Decidable.not_not.1 hvb)
  clear hvb
  by_cases h1 : 1500 < xb.length
  · go_enter Try.func7, Try.ntmps7
    go_wp2_with fail
    refine (rcheck_ok Ab nb cb xb _ (by exact RowIn.row (lo := 0) (hi := w.heap.size) (by repeat' (first | (with_reducible assumption) | (with_reducible exact Below.refl _ _) | (with_reducible refine Blk.drewN ?_ _) | (with_reducible refine RowIn.drewN ?_ _) | (with_reducible refine below_drewN ?_ _) | (with_reducible refine Blk.drew ?_) | (with_reducible refine RowIn.drew ?_) | (with_reducible refine Below.drew ?_) | (with_reducible refine Blk.new' ?_ ?_ <;> first | (with_reducible rfl) | (simp; done)) | (with_reducible refine Blk.alloc ?_ _) | (with_reducible refine RowIn.alloc ?_ _) | (with_reducible refine Below.alloc ?_ ?_ _) | (with_reducible apply Blk.set') | (with_reducible apply Blk.far') | (with_reducible refine RowIn.far' ?_ ?_ _) | (with_reducible refine Below.far' ?_ ?_ _) | rfl | omega | go_size))) (by omega) hlb).mono ?_
    rintro e w1 ⟨rfl, b1⟩
    have s1 := b1.size
    try simp only [World.size_alloc, World.size_setCell, World.size_drew, size_drewN] at s1
    obtain ⟨zb_1, rb_1, bb_1⟩ : Blk w1 (w.heap.size) 25 [.slice Ab nb cb, .int .i64 ((xb.length : Nat) : Int)] ∧ RowIn .u8 w1 (0) (w.heap.size) Ab nb (pack xb) ∧ Below w.heap.size w w1 := by
      refine ⟨?_, ?_, ?_⟩
      all_goals repeat' (first | (with_reducible assumption) | (with_reducible exact Below.refl _ _) | (with_reducible refine Blk.after ?_ b1) | (with_reducible refine RowIn.belowS ?_ b1) | (with_reducible refine Below.after ?_ b1 ?_) | (with_reducible refine Blk.drewN ?_ _) | (with_reducible refine RowIn.drewN ?_ _) | (with_reducible refine below_drewN ?_ _) | (with_reducible refine Blk.drew ?_) | (with_reducible refine RowIn.drew ?_) | (with_reducible refine Below.drew ?_) | (with_reducible refine Blk.new' ?_ ?_ <;> first | (with_reducible rfl) | (simp; done)) | (with_reducible refine Blk.alloc ?_ _) | (with_reducible refine RowIn.alloc ?_ _) | (with_reducible refine Below.alloc ?_ ?_ _) | (with_reducible apply Blk.set') | (with_reducible apply Blk.far') | (with_reducible refine RowIn.far' ?_ ?_ _) | (with_reducible refine Below.far' ?_ ?_ _) | rfl | omega | go_size)
    clear b1
    have kb_1 := zb_1.cell; have fb_1 := zb_1.frozen; have lb_1 := zb_1.lt
    go_wp2_with fail
    refine (alive11 _).mono ?_
    rintro e w2 ⟨rfl, b2⟩
    have s2 := b2.size
    try simp only [World.size_alloc, World.size_setCell, World.size_drew, size_drewN] at s2
    have bb_2 : Below w.heap.size w w2 := by
      repeat' (first | (with_reducible assumption) | (with_reducible exact Below.refl _ _) | (with_reducible refine Blk.after ?_ b2) | (with_reducible refine RowIn.belowS ?_ b2) | (with_reducible refine Below.after ?_ b2 ?_) | (with_reducible refine Blk.drewN ?_ _) | (with_reducible refine RowIn.drewN ?_ _) | (with_reducible refine below_drewN ?_ _) | (with_reducible refine Blk.drew ?_) | (with_reducible refine RowIn.drew ?_) | (with_reducible refine Below.drew ?_) | (with_reducible refine Blk.new' ?_ ?_ <;> first | (with_reducible rfl) | (simp; done)) | (with_reducible refine Blk.alloc ?_ _) | (with_reducible refine RowIn.alloc ?_ _) | (with_reducible refine Below.alloc ?_ ?_ _) | (with_reducible apply Blk.set') | (with_reducible apply Blk.far') | (with_reducible refine RowIn.far' ?_ ?_ _) | (with_reducible refine Below.far' ?_ ?_ _) | rfl | omega | go_size)
    clear zb_1 rb_1 bb_1 kb_1 fb_1 lb_1 b2
    go_wp2
    go_ret
    refine ⟨rfl, ?_⟩
    repeat' (first | (with_reducible assumption) | (with_reducible exact Below.refl _ _) | (with_reducible refine Blk.drewN ?_ _) | (with_reducible refine RowIn.drewN ?_ _) | (with_reducible refine below_drewN ?_ _) | (with_reducible refine Blk.drew ?_) | (with_reducible refine RowIn.drew ?_) | (with_reducible refine Below.drew ?_) | (with_reducible refine Blk.new' ?_ ?_ <;> first | (with_reducible rfl) | (simp; done)) | (with_reducible refine Blk.alloc ?_ _) | (with_reducible refine RowIn.alloc ?_ _) | (with_reducible refine Below.alloc ?_ ?_ _) | (with_reducible apply Blk.set') | (with_reducible apply Blk.far') | (with_reducible refine RowIn.far' ?_ ?_ _) | (with_reducible refine Below.far' ?_ ?_ _) | rfl | omega | go_size)
  have hlen := hab.len
  have hnb : nb ≤ 188 := by rw [pack_len] at hlen; unfold bytesFor at hlen; omega
  replace hlen := Lib.hid hlen
  by_cases h2 : q < 0
  · go_enter Try.func7, Try.ntmps7
    go_wp2_with fail
    refine (rcheck_ok Ab nb cb xb _ (by exact RowIn.row (lo := 0) (hi := w.heap.size) (by repeat' (first | (with_reducible assumption) | (with_reducible exact Below.refl _ _) | (with_reducible refine Blk.drewN ?_ _) | (with_reducible refine RowIn.drewN ?_ _) | (with_reducible refine below_drewN ?_ _) | (with_reducible refine Blk.drew ?_) | (with_reducible refine RowIn.drew ?_) | (with_reducible refine Below.drew ?_) | (with_reducible refine Blk.new' ?_ ?_ <;> first | (with_reducible rfl) | (simp; done)) | (with_reducible refine Blk.alloc ?_ _) | (with_reducible refine RowIn.alloc ?_ _) | (with_reducible refine Below.alloc ?_ ?_ _) | (with_reducible apply Blk.set') | (with_reducible apply Blk.far') | (with_reducible refine RowIn.far' ?_ ?_ _) | (with_reducible refine Below.far' ?_ ?_ _) | rfl | omega | go_size))) (by omega) hlb).mono ?_
    rintro e w1 ⟨rfl, b1⟩
    have s1 := b1.size
    try simp only [World.size_alloc, World.size_setCell, World.size_drew, size_drewN] at s1
    obtain ⟨zb_1, rb_1, bb_1⟩ : Blk w1 (w.heap.size) 25 [.slice Ab nb cb, .int .i64 ((xb.length : Nat) : Int)] ∧ RowIn .u8 w1 (0) (w.heap.size) Ab nb (pack xb) ∧ Below w.heap.size w w1 := by
      refine ⟨?_, ?_, ?_⟩
      all_goals repeat' (first | (with_reducible assumption) | (with_reducible exact Below.refl _ _) | (with_reducible refine Blk.after ?_ b1) | (with_reducible refine RowIn.belowS ?_ b1) | (with_reducible refine Below.after ?_ b1 ?_) | (with_reducible refine Blk.drewN ?_ _) | (with_reducible refine RowIn.drewN ?_ _) | (with_reducible refine below_drewN ?_ _) | (with_reducible refine Blk.drew ?_) | (with_reducible refine RowIn.drew ?_) | (with_reducible refine Below.drew ?_) | (with_reducible refine Blk.new' ?_ ?_ <;> first | (with_reducible rfl) | (simp; done)) | (with_reducible refine Blk.alloc ?_ _) | (with_reducible refine RowIn.alloc ?_ _) | (with_reducible refine Below.alloc ?_ ?_ _) | (with_reducible apply Blk.set') | (with_reducible apply Blk.far') | (with_reducible refine RowIn.far' ?_ ?_ _) | (with_reducible refine Below.far' ?_ ?_ _) | rfl | omega | go_size)
    clear b1
    have kb_1 := zb_1.cell; have fb_1 := zb_1.frozen; have lb_1 := zb_1.lt
    go_wp2_with fail
    refine (bpack_ok Ab nb cb xb _ (by exact RowIn.row (lo := 0) (hi := w.heap.size) (by repeat' (first | (with_reducible assumption) | (with_reducible exact Below.refl _ _) | (with_reducible refine Blk.drewN ?_ _) | (with_reducible refine RowIn.drewN ?_ _) | (with_reducible refine below_drewN ?_ _) | (with_reducible refine Blk.drew ?_) | (with_reducible refine RowIn.drew ?_) | (with_reducible refine Below.drew ?_) | (with_reducible refine Blk.new' ?_ ?_ <;> first | (with_reducible rfl) | (simp; done)) | (with_reducible refine Blk.alloc ?_ _) | (with_reducible refine RowIn.alloc ?_ _) | (with_reducible refine Below.alloc ?_ ?_ _) | (with_reducible apply Blk.set') | (with_reducible apply Blk.far') | (with_reducible refine RowIn.far' ?_ ?_ _) | (with_reducible refine Below.far' ?_ ?_ _) | rfl | omega | go_size))) hcb hlb).mono ?_
    rintro e w2 ⟨Ap, mp, cp, xp, rfl, hcp, rp, HXp, b2⟩
    have LNp := rp.len
    have Lp : mp ≤ nb + 4 ∧ nb + 4 ≤ mp := by rw [← LNp, HXp.out]; rw [sealed_len]; have := hlen.out; omega
    obtain ⟨Lp1, Lp2⟩ := Lp
    replace LNp := Lib.hid LNp
    replace rp := rp.mono (lo' := w1.heap.size + 0) (by go_size) (Nat.le_refl _)
    have s2 := b2.size
    try simp only [World.size_alloc, World.size_setCell, World.size_drew, size_drewN] at s2
    obtain ⟨zb_2, rb_2, rp_2, bb_2⟩ : Blk w2 (w.heap.size) 25 [.slice Ab nb cb, .int .i64 ((xb.length : Nat) : Int)] ∧ RowIn .u8 w2 (0) (w.heap.size) Ab nb (pack xb) ∧ RowIn .u8 w2 (w1.heap.size + 0) (w2.heap.size) Ap mp xp ∧ Below w.heap.size w w2 := by
      refine ⟨?_, ?_, ?_, ?_⟩
      all_goals repeat' (first | (with_reducible assumption) | (with_reducible exact Below.refl _ _) | (with_reducible refine Blk.after ?_ b2) | (with_reducible refine RowIn.belowS ?_ b2) | (with_reducible refine Below.after ?_ b2 ?_) | (with_reducible refine Blk.drewN ?_ _) | (with_reducible refine RowIn.drewN ?_ _) | (with_reducible refine below_drewN ?_ _) | (with_reducible refine Blk.drew ?_) | (with_reducible refine RowIn.drew ?_) | (with_reducible refine Below.drew ?_) | (with_reducible refine Blk.new' ?_ ?_ <;> first | (with_reducible rfl) | (simp; done)) | (with_reducible refine Blk.alloc ?_ _) | (with_reducible refine RowIn.alloc ?_ _) | (with_reducible refine Below.alloc ?_ ?_ _) | (with_reducible apply Blk.set') | (with_reducible apply Blk.far') | (with_reducible refine RowIn.far' ?_ ?_ _) | (with_reducible refine Below.far' ?_ ?_ _) | rfl | omega | go_size)
    clear zb_1 rb_1 bb_1 kb_1 fb_1 lb_1 b2
    have kb_2 := zb_2.cell; have fb_2 := zb_2.frozen; have lb_2 := zb_2.lt
    clear rp
    obtain rfl : mp = nb + 4 := by omega
    go_wp2_with fail
    refine (alive11 _).mono ?_
    rintro e w3 ⟨rfl, b3⟩
    have s3 := b3.size
    try simp only [World.size_alloc, World.size_setCell, World.size_drew, size_drewN] at s3
    have bb_3 : Below w.heap.size w w3 := by
      repeat' (first | (with_reducible assumption) | (with_reducible exact Below.refl _ _) | (with_reducible refine Blk.after ?_ b3) | (with_reducible refine RowIn.belowS ?_ b3) | (with_reducible refine Below.after ?_ b3 ?_) | (with_reducible refine Blk.drewN ?_ _) | (with_reducible refine RowIn.drewN ?_ _) | (with_reducible refine below_drewN ?_ _) | (with_reducible refine Blk.drew ?_) | (with_reducible refine RowIn.drew ?_) | (with_reducible refine Below.drew ?_) | (with_reducible refine Blk.new' ?_ ?_ <;> first | (with_reducible rfl) | (simp; done)) | (with_reducible refine Blk.alloc ?_ _) | (with_reducible refine RowIn.alloc ?_ _) | (with_reducible refine Below.alloc ?_ ?_ _) | (with_reducible apply Blk.set') | (with_reducible apply Blk.far') | (with_reducible refine RowIn.far' ?_ ?_ _) | (with_reducible refine Below.far' ?_ ?_ _) | rfl | omega | go_size)
    clear zb_2 rb_2 rp_2 bb_2 kb_2 fb_2 lb_2 b3
    go_wp2
    go_ret
    refine ⟨rfl, ?_⟩
    repeat' (first | (with_reducible assumption) | (with_reducible exact Below.refl _ _) | (with_reducible refine Blk.drewN ?_ _) | (with_reducible refine RowIn.drewN ?_ _) | (with_reducible refine below_drewN ?_ _) | (with_reducible refine Blk.drew ?_) | (with_reducible refine RowIn.drew ?_) | (with_reducible refine Below.drew ?_) | (with_reducible refine Blk.new' ?_ ?_ <;> first | (with_reducible rfl) | (simp; done)) | (with_reducible refine Blk.alloc ?_ _) | (with_reducible refine RowIn.alloc ?_ _) | (with_reducible refine Below.alloc ?_ ?_ _) | (with_reducible apply Blk.set') | (with_reducible apply Blk.far') | (with_reducible refine RowIn.far' ?_ ?_ _) | (with_reducible refine Below.far' ?_ ?_ _) | rfl | omega | go_size)
  obtain ⟨q, rfl⟩ := Int.eq_ofNat_of_zero_le (by omega : 0 ≤ q)
  by_cases h3 : 8 * (nb + 4) ≤ q
  · go_enter Try.func7, Try.ntmps7
    go_wp2_with fail
    refine (rcheck_ok Ab nb cb xb _ (by exact RowIn.row (lo := 0) (hi := w.heap.size) (by repeat' (first | (with_reducible assumption) | (with_reducible exact Below.refl _ _) | (with_reducible refine Blk.drewN ?_ _) | (with_reducible refine RowIn.drewN ?_ _) | (with_reducible refine below_drewN ?_ _) | (with_reducible refine Blk.drew ?_) | (with_reducible refine RowIn.drew ?_) | (with_reducible refine Below.drew ?_) | (with_reducible refine Blk.new' ?_ ?_ <;> first | (with_reducible rfl) | (simp; done)) | (with_reducible refine Blk.alloc ?_ _) | (with_reducible refine RowIn.alloc ?_ _) | (with_reducible refine Below.alloc ?_ ?_ _) | (with_reducible apply Blk.set') | (with_reducible apply Blk.far') | (with_reducible refine RowIn.far' ?_ ?_ _) | (with_reducible refine Below.far' ?_ ?_ _) | rfl | omega | go_size))) (by omega) hlb).mono ?_
    rintro e w1 ⟨rfl, b1⟩
    have s1 := b1.size
    try simp only [World.size_alloc, World.size_setCell, World.size_drew, size_drewN] at s1
    obtain ⟨zb_1, rb_1, bb_1⟩ : Blk w1 (w.heap.size) 25 [.slice Ab nb cb, .int .i64 ((xb.length : Nat) : Int)] ∧ RowIn .u8 w1 (0) (w.heap.size) Ab nb (pack xb) ∧ Below w.heap.size w w1 := by
      refine ⟨?_, ?_, ?_⟩
      all_goals repeat' (first | (with_reducible assumption) | (with_reducible exact Below.refl _ _) | (with_reducible refine Blk.after ?_ b1) | (with_reducible refine RowIn.belowS ?_ b1) | (with_reducible refine Below.after ?_ b1 ?_) | (with_reducible refine Blk.drewN ?_ _) | (with_reducible refine RowIn.drewN ?_ _) | (with_reducible refine below_drewN ?_ _) | (with_reducible refine Blk.drew ?_) | (with_reducible refine RowIn.drew ?_) | (with_reducible refine Below.drew ?_) | (with_reducible refine Blk.new' ?_ ?_ <;> first | (with_reducible rfl) | (simp; done)) | (with_reducible refine Blk.alloc ?_ _) | (with_reducible refine RowIn.alloc ?_ _) | (with_reducible refine Below.alloc ?_ ?_ _) | (with_reducible apply Blk.set') | (with_reducible apply Blk.far') | (with_reducible refine RowIn.far' ?_ ?_ _) | (with_reducible refine Below.far' ?_ ?_ _) | rfl | omega | go_size)
    clear b1
    have kb_1 := zb_1.cell; have fb_1 := zb_1.frozen; have lb_1 := zb_1.lt
    go_wp2_with fail
    refine (bpack_ok Ab nb cb xb _ (by exact RowIn.row (lo := 0) (hi := w.heap.size) (by repeat' (first | (with_reducible assumption) | (with_reducible exact Below.refl _ _) | (with_reducible refine Blk.drewN ?_ _) | (with_reducible refine RowIn.drewN ?_ _) | (with_reducible refine below_drewN ?_ _) | (with_reducible refine Blk.drew ?_) | (with_reducible refine RowIn.drew ?_) | (with_reducible refine Below.drew ?_) | (with_reducible refine Blk.new' ?_ ?_ <;> first | (with_reducible rfl) | (simp; done)) | (with_reducible refine Blk.alloc ?_ _) | (with_reducible refine RowIn.alloc ?_ _) | (with_reducible refine Below.alloc ?_ ?_ _) | (with_reducible apply Blk.set') | (with_reducible apply Blk.far') | (with_reducible refine RowIn.far' ?_ ?_ _) | (with_reducible refine Below.far' ?_ ?_ _) | rfl | omega | go_size))) hcb hlb).mono ?_
    rintro e w2 ⟨Ap, mp, cp, xp, rfl, hcp, rp, HXp, b2⟩
    have LNp := rp.len
    have Lp : mp ≤ nb + 4 ∧ nb + 4 ≤ mp := by rw [← LNp, HXp.out]; rw [sealed_len]; have := hlen.out; omega
    obtain ⟨Lp1, Lp2⟩ := Lp
    replace LNp := Lib.hid LNp
    replace rp := rp.mono (lo' := w1.heap.size + 0) (by go_size) (Nat.le_refl _)
    have s2 := b2.size
    try simp only [World.size_alloc, World.size_setCell, World.size_drew, size_drewN] at s2
    obtain ⟨zb_2, rb_2, rp_2, bb_2⟩ : Blk w2 (w.heap.size) 25 [.slice Ab nb cb, .int .i64 ((xb.length : Nat) : Int)] ∧ RowIn .u8 w2 (0) (w.heap.size) Ab nb (pack xb) ∧ RowIn .u8 w2 (w1.heap.size + 0) (w2.heap.size) Ap mp xp ∧ Below w.heap.size w w2 := by
      refine ⟨?_, ?_, ?_, ?_⟩
      all_goals repeat' (first | (with_reducible assumption) | (with_reducible exact Below.refl _ _) | (with_reducible refine Blk.after ?_ b2) | (with_reducible refine RowIn.belowS ?_ b2) | (with_reducible refine Below.after ?_ b2 ?_) | (with_reducible refine Blk.drewN ?_ _) | (with_reducible refine RowIn.drewN ?_ _) | (with_reducible refine below_drewN ?_ _) | (with_reducible refine Blk.drew ?_) | (with_reducible refine RowIn.drew ?_) | (with_reducible refine Below.drew ?_) | (with_reducible refine Blk.new' ?_ ?_ <;> first | (with_reducible rfl) | (simp; done)) | (with_reducible refine Blk.alloc ?_ _) | (with_reducible refine RowIn.alloc ?_ _) | (with_reducible refine Below.alloc ?_ ?_ _) | (with_reducible apply Blk.set') | (with_reducible apply Blk.far') | (with_reducible refine RowIn.far' ?_ ?_ _) | (with_reducible refine Below.far' ?_ ?_ _) | rfl | omega | go_size)
    clear zb_1 rb_1 bb_1 kb_1 fb_1 lb_1 b2
    have kb_2 := zb_2.cell; have fb_2 := zb_2.frozen; have lb_2 := zb_2.lt
    clear rp
    obtain rfl : mp = nb + 4 := by omega
    go_wp2_with fail
    refine (alive11 _).mono ?_
    rintro e w3 ⟨rfl, b3⟩
    have s3 := b3.size
    try simp only [World.size_alloc, World.size_setCell, World.size_drew, size_drewN] at s3
    have bb_3 : Below w.heap.size w w3 := by
      repeat' (first | (with_reducible assumption) | (with_reducible exact Below.refl _ _) | (with_reducible refine Blk.after ?_ b3) | (with_reducible refine RowIn.belowS ?_ b3) | (with_reducible refine Below.after ?_ b3 ?_) | (with_reducible refine Blk.drewN ?_ _) | (with_reducible refine RowIn.drewN ?_ _) | (with_reducible refine below_drewN ?_ _) | (with_reducible refine Blk.drew ?_) | (with_reducible refine RowIn.drew ?_) | (with_reducible refine Below.drew ?_) | (with_reducible refine Blk.new' ?_ ?_ <;> first | (with_reducible rfl) | (simp; done)) | (with_reducible refine Blk.alloc ?_ _) | (with_reducible refine RowIn.alloc ?_ _) | (with_reducible refine Below.alloc ?_ ?_ _) | (with_reducible apply Blk.set') | (with_reducible apply Blk.far') | (with_reducible refine RowIn.far' ?_ ?_ _) | (with_reducible refine Below.far' ?_ ?_ _) | rfl | omega | go_size)
    clear zb_2 rb_2 rp_2 bb_2 kb_2 fb_2 lb_2 b3
    go_wp2
    go_ret
    refine ⟨rfl, ?_⟩
    repeat' (first | (with_reducible assumption) | (with_reducible exact Below.refl _ _) | (with_reducible refine Blk.drewN ?_ _) | (with_reducible refine RowIn.drewN ?_ _) | (with_reducible refine below_drewN ?_ _) | (with_reducible refine Blk.drew ?_) | (with_reducible refine RowIn.drew ?_) | (with_reducible refine Below.drew ?_) | (with_reducible refine Blk.new' ?_ ?_ <;> first | (with_reducible rfl) | (simp; done)) | (with_reducible refine Blk.alloc ?_ _) | (with_reducible refine RowIn.alloc ?_ _) | (with_reducible refine Below.alloc ?_ ?_ _) | (with_reducible apply Blk.set') | (with_reducible apply Blk.far') | (with_reducible refine RowIn.far' ?_ ?_ _) | (with_reducible refine Below.far' ?_ ?_ _) | rfl | omega | go_size)
  have b1 : decide (1500 < ((xb.length : Nat) : Int)) = false := decide_eq_false (by omega)
  have b2 : decide (((q : Nat) : Int) < 0) = false := decide_eq_false (by omega)
  have b3 : decide (8 * (((nb : Nat) : Int) + 4) ≤ ((q : Nat) : Int)) = false := decide_eq_false (by omega)
  go_enter Try.func7, Try.ntmps7
  go_wp2_with fail
  refine (rcheck_ok Ab nb cb xb _ (by exact RowIn.row (lo := 0) (hi := w.heap.size) (by repeat' (first | (with_reducible assumption) | (with_reducible exact Below.refl _ _) | (with_reducible refine Blk.drewN ?_ _) | (with_reducible refine RowIn.drewN ?_ _) | (with_reducible refine below_drewN ?_ _) | (with_reducible refine Blk.drew ?_) | (with_reducible refine RowIn.drew ?_) | (with_reducible refine Below.drew ?_) | (with_reducible refine Blk.new' ?_ ?_ <;> first | (with_reducible rfl) | (simp; done)) | (with_reducible refine Blk.alloc ?_ _) | (with_reducible refine RowIn.alloc ?_ _) | (with_reducible refine Below.alloc ?_ ?_ _) | (with_reducible apply Blk.set') | (with_reducible apply Blk.far') | (with_reducible refine RowIn.far' ?_ ?_ _) | (with_reducible refine Below.far' ?_ ?_ _) | rfl | omega | go_size))) (by omega) hlb).mono ?_
  rintro e w1 ⟨rfl, b1⟩
  have s1 := b1.size
  try simp only [World.size_alloc, World.size_setCell, World.size_drew, size_drewN] at s1
  obtain ⟨zb_1, rb_1, bb_1⟩ : Blk w1 (w.heap.size) 25 [.slice Ab nb cb, .int .i64 ((xb.length : Nat) : Int)] ∧ RowIn .u8 w1 (0) (w.heap.size) Ab nb (pack xb) ∧ Below w.heap.size w w1 := by
    refine ⟨?_, ?_, ?_⟩
    all_goals repeat' (first | (with_reducible assumption) | (with_reducible exact Below.refl _ _) | (with_reducible refine Blk.after ?_ b1) | (with_reducible refine RowIn.belowS ?_ b1) | (with_reducible refine Below.after ?_ b1 ?_) | (with_reducible refine Blk.drewN ?_ _) | (with_reducible refine RowIn.drewN ?_ _) | (with_reducible refine below_drewN ?_ _) | (with_reducible refine Blk.drew ?_) | (with_reducible refine RowIn.drew ?_) | (with_reducible refine Below.drew ?_) | (with_reducible refine Blk.new' ?_ ?_ <;> first | (with_reducible rfl) | (simp; done)) | (with_reducible refine Blk.alloc ?_ _) | (with_reducible refine RowIn.alloc ?_ _) | (with_reducible refine Below.alloc ?_ ?_ _) | (with_reducible apply Blk.set') | (with_reducible apply Blk.far') | (with_reducible refine RowIn.far' ?_ ?_ _) | (with_reducible refine Below.far' ?_ ?_ _) | rfl | omega | go_size)
  clear b1
  have kb_1 := zb_1.cell; have fb_1 := zb_1.frozen; have lb_1 := zb_1.lt
  go_wp2_with fail
  refine (bpack_ok Ab nb cb xb _ (by exact RowIn.row (lo := 0) (hi := w.heap.size) (by repeat' (first | (with_reducible assumption) | (with_reducible exact Below.refl _ _) | (with_reducible refine Blk.drewN ?_ _) | (with_reducible refine RowIn.drewN ?_ _) | (with_reducible refine below_drewN ?_ _) | (with_reducible refine Blk.drew ?_) | (with_reducible refine RowIn.drew ?_) | (with_reducible refine Below.drew ?_) | (with_reducible refine Blk.new' ?_ ?_ <;> first | (with_reducible rfl) | (simp; done)) | (with_reducible refine Blk.alloc ?_ _) | (with_reducible refine RowIn.alloc ?_ _) | (with_reducible refine Below.alloc ?_ ?_ _) | (with_reducible apply Blk.set') | (with_reducible apply Blk.far') | (with_reducible refine RowIn.far' ?_ ?_ _) | (with_reducible refine Below.far' ?_ ?_ _) | rfl | omega | go_size))) hcb hlb).mono ?_
  rintro e w2 ⟨Ap, mp, cp, xp, rfl, hcp, rp, HXp, b2⟩
  have LNp := rp.len
  have Lp : mp ≤ nb + 4 ∧ nb + 4 ≤ mp := by rw [← LNp, HXp.out]; rw [sealed_len]; have := hlen.out; omega
  obtain ⟨Lp1, Lp2⟩ := Lp
  replace LNp := Lib.hid LNp
  replace rp := rp.mono (lo' := w1.heap.size + 0) (by go_size) (Nat.le_refl _)
  have s2 := b2.size
  try simp only [World.size_alloc, World.size_setCell, World.size_drew, size_drewN] at s2
  obtain ⟨zb_2, rb_2, rp_2, bb_2⟩ : Blk w2 (w.heap.size) 25 [.slice Ab nb cb, .int .i64 ((xb.length : Nat) : Int)] ∧ RowIn .u8 w2 (0) (w.heap.size) Ab nb (pack xb) ∧ RowIn .u8 w2 (w1.heap.size + 0) (w2.heap.size) Ap mp xp ∧ Below w.heap.size w w2 := by
    refine ⟨?_, ?_, ?_, ?_⟩
    all_goals repeat' (first | (with_reducible assumption) | (with_reducible exact Below.refl _ _) | (with_reducible refine Blk.after ?_ b2) | (with_reducible refine RowIn.belowS ?_ b2) | (with_reducible refine Below.after ?_ b2 ?_) | (with_reducible refine Blk.drewN ?_ _) | (with_reducible refine RowIn.drewN ?_ _) | (with_reducible refine below_drewN ?_ _) | (with_reducible refine Blk.drew ?_) | (with_reducible refine RowIn.drew ?_) | (with_reducible refine Below.drew ?_) | (with_reducible refine Blk.new' ?_ ?_ <;> first | (with_reducible rfl) | (simp; done)) | (with_reducible refine Blk.alloc ?_ _) | (with_reducible refine RowIn.alloc ?_ _) | (with_reducible refine Below.alloc ?_ ?_ _) | (with_reducible apply Blk.set') | (with_reducible apply Blk.far') | (with_reducible refine RowIn.far' ?_ ?_ _) | (with_reducible refine Below.far' ?_ ?_ _) | rfl | omega | go_size)
  clear zb_1 rb_1 bb_1 kb_1 fb_1 lb_1 b2
  have kb_2 := zb_2.cell; have fb_2 := zb_2.frozen; have lb_2 := zb_2.lt
  clear rp
  obtain rfl : mp = nb + 4 := by omega
  have hz1 : w.heap.size ≤ w2.heap.size := bb_2.size
  obtain ⟨v, rfl⟩ := Int.eq_ofNat_of_zero_le hv.1
  have hpw : Within 0 255 xp := by rw [HXp.out]; exact sealed_within (pack_u8 _)
  go_wp2_with (at_builtin; refine wpList_app _ u8E rfl _ _ rfl w2.heap.size _ _ _ [] rfl (own_empty w2 _ _ (Nat.le_refl _)) _ _ _ xp rfl (rp_2.row.alloc _) (by omega) (by simp) ?_)
  intro Ao co w3 own1 hg1 _
  have b3 : Below w2.heap.size w2 w3 := Below.grown ((Below.refl _ _).alloc (Nat.le_refl _) _) hg1 (by simp) (fun g e => by simp [blockOf] at e; omega)
  try rw [List.nil_append] at own1
  try simp only [Nat.zero_add] at own1
  try simp only [Nat.zero_add]
  have s3 := b3.size
  try simp only [World.size_alloc, World.size_setCell, World.size_drew, size_drewN] at s3
  obtain ⟨zb_3, rb_3, rp_3, bb_3⟩ : Blk w3 (w.heap.size) 25 [.slice Ab nb cb, .int .i64 ((xb.length : Nat) : Int)] ∧ RowIn .u8 w3 (0) (w.heap.size) Ab nb (pack xb) ∧ RowIn .u8 w3 (w1.heap.size + 0) (w2.heap.size) Ap (nb + 4) xp ∧ Below w.heap.size w w3 := by
    refine ⟨?_, ?_, ?_, ?_⟩
    all_goals repeat' (first | (with_reducible assumption) | (with_reducible exact Below.refl _ _) | (with_reducible refine Blk.after ?_ b3) | (with_reducible refine RowIn.belowS ?_ b3) | (with_reducible refine Below.after ?_ b3 ?_) | (with_reducible refine Blk.drewN ?_ _) | (with_reducible refine RowIn.drewN ?_ _) | (with_reducible refine below_drewN ?_ _) | (with_reducible refine Blk.drew ?_) | (with_reducible refine RowIn.drew ?_) | (with_reducible refine Below.drew ?_) | (with_reducible refine Blk.new' ?_ ?_ <;> first | (with_reducible rfl) | (simp; done)) | (with_reducible refine Blk.alloc ?_ _) | (with_reducible refine RowIn.alloc ?_ _) | (with_reducible refine Below.alloc ?_ ?_ _) | (with_reducible apply Blk.set') | (with_reducible apply Blk.far') | (with_reducible refine RowIn.far' ?_ ?_ _) | (with_reducible refine Below.far' ?_ ?_ _) | rfl | omega | go_size)
  clear zb_2 rb_2 rp_2 bb_2 kb_2 fb_2 lb_2 b3
  have kb_3 := zb_3.cell; have fb_3 := zb_3.frozen; have lb_3 := zb_3.lt
  have hr0 : Below w.heap.size w w3 := bb_3
  have HXX := HXp
  obtain ⟨HB0⟩ : Nonempty (Hid (Burst xp xp q v 0)) := ⟨Lib.hid (Burst.zero hpw _ _)⟩
  skip
  go_wp2_with fail
  go_loopg [9, 11] 32 (fun r d i wr => ∃ (k : Nat) (l : List Int) (df : Bool), k + r = 32 ∧ i = .int .i64 (k : Int) ∧ d = .bool df ∧ q + k ≤ 8 * (nb + 4) ∧ Hid (Burst xp l q v k) ∧ Hid (df = decide (v % 2 ^ k ≠ 0)) ∧ Own wr w2.heap.size 5 .u8 Ao (nb + 4) co l ∧ Below w.heap.size w wr)
  case atStart => exact ⟨0, xp, false, by omega, rfl, rfl, by omega, HB0, Lib.hid (by rw [Nat.pow_zero, Nat.mod_one]; rfl), own1, hr0⟩
  case round =>
    obtain ⟨k, l, df, hk, rfl, rfl, hqk, HBU, HDF, own, hbel⟩ := hrel
    clear own1
    have HPL : Hid (xp.length = nb + 4) := Lib.hid (by rw [← HBU.out.len]; exact own.len)
    have hhi : 0 < nb + 4 := by omega
    obtain ⟨hA0, hn0, _, _⟩ | ⟨g, rest, rfl, hbg, hnc, hcm, hcr, hblk⟩ := own.cases
    · omega
    have hsp := hcr
    by_cases h32 : k < 32
    · have t1 : decide ((k : Int) < 32) = true := decide_eq_true (by omega)
      obtain ⟨z, hz⟩ : ∃ z, q + k = z := ⟨_, rfl⟩
      have hzi : (q : Int) + (k : Int) = (z : Int) := by omega
      by_cases hzb : z < 8 * (nb + 4)
      · have t2 : decide ((z : Int) < 8 * ((nb : Int) + 4)) = true := decide_eq_true (by omega)
        obtain ⟨u, HU⟩ : ∃ u, Hid (u = v / 2 ^ k) := ⟨_, Lib.hid rfl⟩
        have hu : (v : Int) / 2 ^ k = (u : Int) := by rw [HU.out, pow_cast, ← Int.natCast_ediv]
        have hu32 : u < 4294967296 := by rw [HU.out]; exact Nat.lt_of_le_of_lt (Nat.div_le_self _ _) (by omega)
        have hand := and1_u32 u hu32
        by_cases hbit : u % 2 = 1
        · have t3 : (bits .and .u32 (u : Int) 1 == 1) = true := by rw [hand, hbit]; rfl
          obtain ⟨d, HD⟩ : ∃ d, Hid (d = z / 8) := ⟨_, Lib.hid rfl⟩
          obtain ⟨s, HS⟩ : ∃ s, Hid (s = z % 8) := ⟨_, Lib.hid rfl⟩
          have hd : (z : Int) / 8 = (d : Int) := by rw [HD.out]; omega
          have hs : (z : Int) % 8 = (s : Int) := by rw [HS.out]; omega
          have hd4 : d < nb + 4 := by rw [HD.out]; omega
          have hs8 : s < 8 := by rw [HS.out]; omega
          have hll : l.length = nb + 4 := own.len
          obtain ⟨y, hy⟩ : ∃ y : Nat, nth l d = (y : Int) := ⟨(nth l d).toNat, by have := HBU.out.within.nth (by decide) (by decide) d; omega⟩
          have hy8 : y < 256 := by have := HBU.out.within.nth (by decide) (by decide) d; omega
          have kc : wr.cell? ⟨g, d, none⟩ = some (.int .u8 (y : Int)) := by
            rw [hblk.cell, List.getElem?_append_left (by rw [List.length_map, hll]; omega), getElem?_map_nth (by rw [hll]; omega), hy]
          have kf : wr.frozen? ⟨g, d, none⟩ = false := hblk.frozen d
          have HY := Lib.hid hy; have HBLK := Lib.hid hblk; have HLL := Lib.hid hll
          clear hy hblk hll hz hand
          have hps : 2 ^ s < 256 := by have h : 2 ^ s < 2 ^ 8 := Nat.pow_lt_pow_right (by omega) hs8; exact h
          have h256 : ((2 ^ s : Nat) : Int) % 256 = ((2 ^ s : Nat) : Int) := Int.emod_eq_of_lt (Int.natCast_nonneg _) (Int.ofNat_lt.2 hps)
          have HXO : Hid (bits .xor .u8 (y : Int) (2 ^ s % 256) = ((y ^^^ 2 ^ s : Nat) : Int)) := by rw [pow_cast, h256]; exact Lib.hid (xor_u8 y (2 ^ s) hy8 hps)
          clear hps h256
          go_wp2_with fail
          go_region
          all_goals
            clear t1 t2 t3 hu hd hs kc kf
            go_wp2
            go_roundg (32 - (k + 1))
            case measure => omega
            case rel =>
              have hbu := HBU.out.yes (by rw [HPL.out]; omega) (by rw [← HU.out]; exact hbit)
              refine ⟨k + 1, flip l (q + k), true, by omega, by go_num, rfl, by omega, Lib.hid hbu.1, Lib.hid (decide_eq_true hbu.2).symm, ?_, ?_⟩
              · have hb := HBLK.out.set d (.int .u8 (bits .xor .u8 (y : Int) (2 ^ s % 256)))
                rw [HXO.out, List.set_append_left _ _ (by rw [List.length_map, HLL.out]; omega), ← List.map_set] at hb
                have e : flip l (q + k) = l.set d ((y ^^^ 2 ^ s : Nat) : Int) := by
                  unfold flip
                  rw [show q + k = z by omega, ← HD.out, ← HS.out, HY.out, Int.toNat_natCast]
                rw [e, HXO.out]
                exact Own.mk hbg (by rw [List.length_set, HLL.out]) hsp hcm hb.drew
              · exact (Below.far' hbel (by omega) _).drew
        · have t3 : (bits .and .u32 (u : Int) 1 == 1) = false := by rw [hand, show u % 2 = 0 by omega]; rfl
          clear hblk hcr hand
          go_wp2
          go_roundg (32 - (k + 1))
          case measure => omega
          case rel =>
            have hbu := HBU.out.no (by rw [← HU.out]; exact hbit)
            exact ⟨k + 1, l, df, by omega, by go_num, rfl, by omega, Lib.hid hbu.1, by rw [hbu.2]; exact HDF, own, hbel⟩
      · have t2 : decide ((z : Int) < 8 * ((nb : Int) + 4)) = false := decide_eq_false (by omega)
        clear hblk hcr

        cases df
        · have hen := burst_end (pack_u8 xb) (by rw [hlen.out]; omega) (show Burst (sealed (pack xb)) l q v k by rw [← HXX.out]; exact HBU.out) (by omega)
          have HU2 : Hid (unpR l = (unpack (pack xb), 0)) := Lib.hid (hen.1 (Decidable.not_not.1 (of_decide_eq_false HDF.out.symm)))
          have hlw := HBU.out.within
          have hrow := own.row.rowIn
          have hco := own.rowC.2
          have hsz := hbel.size
          clear hen own
          go_wp2_with fail
          refine (unp_c (some ⟨g, 0, none⟩) (nb + 4) co l _ (unpack (pack xb)) 0 (by exact RowIn.row (lo := 0) (hi := wr.heap.size) (by repeat' (first | (with_reducible assumption) | (with_reducible exact Below.refl _ _) | (with_reducible refine Blk.drewN ?_ _) | (with_reducible refine RowIn.drewN ?_ _) | (with_reducible refine below_drewN ?_ _) | (with_reducible refine Blk.drew ?_) | (with_reducible refine RowIn.drew ?_) | (with_reducible refine Below.drew ?_) | (with_reducible refine Blk.new' ?_ ?_ <;> first | (with_reducible rfl) | (simp; done)) | (with_reducible refine Blk.alloc ?_ _) | (with_reducible refine RowIn.alloc ?_ _) | (with_reducible refine Below.alloc ?_ ?_ _) | (with_reducible apply Blk.set') | (with_reducible apply Blk.far') | (with_reducible refine RowIn.far' ?_ ?_ _) | (with_reducible refine Below.far' ?_ ?_ _) | rfl | omega | go_size))) hlw hco HU2.out).mono ?_
          rintro e w11 ⟨Ax, mx, cx, xx, rfl, hcx, rx, HXx, b11⟩
          replace rx := rx.mono (lo' := wr.heap.size + 0) (by go_size) (Nat.le_refl _)
          have s11 := b11.size
          try simp only [World.size_alloc, World.size_setCell, World.size_drew, size_drewN] at s11
          obtain ⟨rl_11, rx_11, bb_11⟩ : RowIn .u8 w11 (0) (wr.heap.size) (some ⟨g, 0, none⟩) (nb + 4) l ∧ RowIn .u8 w11 (wr.heap.size + 0) (w11.heap.size) Ax mx (pack xx) ∧ Below w.heap.size w w11 := by
            refine ⟨?_, ?_, ?_⟩
            all_goals repeat' (first | (with_reducible assumption) | (with_reducible exact Below.refl _ _) | (with_reducible refine Blk.after ?_ b11) | (with_reducible refine RowIn.belowS ?_ b11) | (with_reducible refine Below.after ?_ b11 ?_) | (with_reducible refine Blk.drewN ?_ _) | (with_reducible refine RowIn.drewN ?_ _) | (with_reducible refine below_drewN ?_ _) | (with_reducible refine Blk.drew ?_) | (with_reducible refine RowIn.drew ?_) | (with_reducible refine Below.drew ?_) | (with_reducible refine Blk.new' ?_ ?_ <;> first | (with_reducible rfl) | (simp; done)) | (with_reducible refine Blk.alloc ?_ _) | (with_reducible refine RowIn.alloc ?_ _) | (with_reducible refine Below.alloc ?_ ?_ _) | (with_reducible apply Blk.set') | (with_reducible apply Blk.far') | (with_reducible refine RowIn.far' ?_ ?_ _) | (with_reducible refine Below.far' ?_ ?_ _) | rfl | omega | go_size)
          clear b11
          clear rx
          go_wp2_with fail
          refine (alive11 _).mono ?_
          rintro e w12 ⟨rfl, b12⟩
          have s12 := b12.size
          try simp only [World.size_alloc, World.size_setCell, World.size_drew, size_drewN] at s12
          have bb_12 : Below w.heap.size w w12 := by
            repeat' (first | (with_reducible assumption) | (with_reducible exact Below.refl _ _) | (with_reducible refine Blk.after ?_ b12) | (with_reducible refine RowIn.belowS ?_ b12) | (with_reducible refine Below.after ?_ b12 ?_) | (with_reducible refine Blk.drewN ?_ _) | (with_reducible refine RowIn.drewN ?_ _) | (with_reducible refine below_drewN ?_ _) | (with_reducible refine Blk.drew ?_) | (with_reducible refine RowIn.drew ?_) | (with_reducible refine Below.drew ?_) | (with_reducible refine Blk.new' ?_ ?_ <;> first | (with_reducible rfl) | (simp; done)) | (with_reducible refine Blk.alloc ?_ _) | (with_reducible refine RowIn.alloc ?_ _) | (with_reducible refine Below.alloc ?_ ?_ _) | (with_reducible apply Blk.set') | (with_reducible apply Blk.far') | (with_reducible refine RowIn.far' ?_ ?_ _) | (with_reducible refine Below.far' ?_ ?_ _) | rfl | omega | go_size)
          clear rl_11 rx_11 bb_11 b12
          go_wp2
          go_ret
          refine ⟨rfl, ?_⟩
          repeat' (first | (with_reducible assumption) | (with_reducible exact Below.refl _ _) | (with_reducible refine Blk.drewN ?_ _) | (with_reducible refine RowIn.drewN ?_ _) | (with_reducible refine below_drewN ?_ _) | (with_reducible refine Blk.drew ?_) | (with_reducible refine RowIn.drew ?_) | (with_reducible refine Below.drew ?_) | (with_reducible refine Blk.new' ?_ ?_ <;> first | (with_reducible rfl) | (simp; done)) | (with_reducible refine Blk.alloc ?_ _) | (with_reducible refine RowIn.alloc ?_ _) | (with_reducible refine Below.alloc ?_ ?_ _) | (with_reducible apply Blk.set') | (with_reducible apply Blk.far') | (with_reducible refine RowIn.far' ?_ ?_ _) | (with_reducible refine Below.far' ?_ ?_ _) | rfl | omega | go_size)
        · have hen := burst_end (pack_u8 xb) (by rw [hlen.out]; omega) (show Burst (sealed (pack xb)) l q v k by rw [← HXX.out]; exact HBU.out) (by omega)
          have HU2 : Hid (unpR l = ([], 22)) := Lib.hid (hen.2 (of_decide_eq_true HDF.out.symm))
          have hlw := HBU.out.within
          have hrow := own.row.rowIn
          have hco := own.rowC.2
          have hsz := hbel.size
          clear hen own
          go_wp2_with fail
          refine (unp_c (some ⟨g, 0, none⟩) (nb + 4) co l _ [] 22 (by exact RowIn.row (lo := 0) (hi := wr.heap.size) (by repeat' (first | (with_reducible assumption) | (with_reducible exact Below.refl _ _) | (with_reducible refine Blk.drewN ?_ _) | (with_reducible refine RowIn.drewN ?_ _) | (with_reducible refine below_drewN ?_ _) | (with_reducible refine Blk.drew ?_) | (with_reducible refine RowIn.drew ?_) | (with_reducible refine Below.drew ?_) | (with_reducible refine Blk.new' ?_ ?_ <;> first | (with_reducible rfl) | (simp; done)) | (with_reducible refine Blk.alloc ?_ _) | (with_reducible refine RowIn.alloc ?_ _) | (with_reducible refine Below.alloc ?_ ?_ _) | (with_reducible apply Blk.set') | (with_reducible apply Blk.far') | (with_reducible refine RowIn.far' ?_ ?_ _) | (with_reducible refine Below.far' ?_ ?_ _) | rfl | omega | go_size))) hlw hco HU2.out).mono ?_
          rintro e w11 ⟨Ax, mx, cx, xx, rfl, hcx, rx, HXx, b11⟩
          replace rx := rx.mono (lo' := wr.heap.size + 0) (by go_size) (Nat.le_refl _)
          have s11 := b11.size
          try simp only [World.size_alloc, World.size_setCell, World.size_drew, size_drewN] at s11
          obtain ⟨rl_11, rx_11, bb_11⟩ : RowIn .u8 w11 (0) (wr.heap.size) (some ⟨g, 0, none⟩) (nb + 4) l ∧ RowIn .u8 w11 (wr.heap.size + 0) (w11.heap.size) Ax mx (pack xx) ∧ Below w.heap.size w w11 := by
            refine ⟨?_, ?_, ?_⟩
            all_goals repeat' (first | (with_reducible assumption) | (with_reducible exact Below.refl _ _) | (with_reducible refine Blk.after ?_ b11) | (with_reducible refine RowIn.belowS ?_ b11) | (with_reducible refine Below.after ?_ b11 ?_) | (with_reducible refine Blk.drewN ?_ _) | (with_reducible refine RowIn.drewN ?_ _) | (with_reducible refine below_drewN ?_ _) | (with_reducible refine Blk.drew ?_) | (with_reducible refine RowIn.drew ?_) | (with_reducible refine Below.drew ?_) | (with_reducible refine Blk.new' ?_ ?_ <;> first | (with_reducible rfl) | (simp; done)) | (with_reducible refine Blk.alloc ?_ _) | (with_reducible refine RowIn.alloc ?_ _) | (with_reducible refine Below.alloc ?_ ?_ _) | (with_reducible apply Blk.set') | (with_reducible apply Blk.far') | (with_reducible refine RowIn.far' ?_ ?_ _) | (with_reducible refine Below.far' ?_ ?_ _) | rfl | omega | go_size)
          clear b11
          clear rx
          go_wp2_with fail
          refine (alive11 _).mono ?_
          rintro e w12 ⟨rfl, b12⟩
          have s12 := b12.size
          try simp only [World.size_alloc, World.size_setCell, World.size_drew, size_drewN] at s12
          have bb_12 : Below w.heap.size w w12 := by
            repeat' (first | (with_reducible assumption) | (with_reducible exact Below.refl _ _) | (with_reducible refine Blk.after ?_ b12) | (with_reducible refine RowIn.belowS ?_ b12) | (with_reducible refine Below.after ?_ b12 ?_) | (with_reducible refine Blk.drewN ?_ _) | (with_reducible refine RowIn.drewN ?_ _) | (with_reducible refine below_drewN ?_ _) | (with_reducible refine Blk.drew ?_) | (with_reducible refine RowIn.drew ?_) | (with_reducible refine Below.drew ?_) | (with_reducible refine Blk.new' ?_ ?_ <;> first | (with_reducible rfl) | (simp; done)) | (with_reducible refine Blk.alloc ?_ _) | (with_reducible refine RowIn.alloc ?_ _) | (with_reducible refine Below.alloc ?_ ?_ _) | (with_reducible apply Blk.set') | (with_reducible apply Blk.far') | (with_reducible refine RowIn.far' ?_ ?_ _) | (with_reducible refine Below.far' ?_ ?_ _) | rfl | omega | go_size)
          clear rl_11 rx_11 bb_11 b12
          go_wp2
          go_ret
          refine ⟨rfl, ?_⟩
          repeat' (first | (with_reducible assumption) | (with_reducible exact Below.refl _ _) | (with_reducible refine Blk.drewN ?_ _) | (with_reducible refine RowIn.drewN ?_ _) | (with_reducible refine below_drewN ?_ _) | (with_reducible refine Blk.drew ?_) | (with_reducible refine RowIn.drew ?_) | (with_reducible refine Below.drew ?_) | (with_reducible refine Blk.new' ?_ ?_ <;> first | (with_reducible rfl) | (simp; done)) | (with_reducible refine Blk.alloc ?_ _) | (with_reducible refine RowIn.alloc ?_ _) | (with_reducible refine Below.alloc ?_ ?_ _) | (with_reducible apply Blk.set') | (with_reducible apply Blk.far') | (with_reducible refine RowIn.far' ?_ ?_ _) | (with_reducible refine Below.far' ?_ ?_ _) | rfl | omega | go_size)
    · have t1 : decide ((k : Int) < 32) = false := decide_eq_false (by omega)
      clear hblk hcr
      cases df
      · have hen := burst_end (pack_u8 xb) (by rw [hlen.out]; omega) (show Burst (sealed (pack xb)) l q v k by rw [← HXX.out]; exact HBU.out) (by omega)
        have HU2 : Hid (unpR l = (unpack (pack xb), 0)) := Lib.hid (hen.1 (Decidable.not_not.1 (of_decide_eq_false HDF.out.symm)))
        have hlw := HBU.out.within
        have hrow := own.row.rowIn
        have hco := own.rowC.2
        have hsz := hbel.size
        clear hen own
        go_wp2_with fail
        refine (unp_c (some ⟨g, 0, none⟩) (nb + 4) co l _ (unpack (pack xb)) 0 (by exact RowIn.row (lo := 0) (hi := wr.heap.size) (by repeat' (first | (with_reducible assumption) | (with_reducible exact Below.refl _ _) | (with_reducible refine Blk.drewN ?_ _) | (with_reducible refine RowIn.drewN ?_ _) | (with_reducible refine below_drewN ?_ _) | (with_reducible refine Blk.drew ?_) | (with_reducible refine RowIn.drew ?_) | (with_reducible refine Below.drew ?_) | (with_reducible refine Blk.new' ?_ ?_ <;> first | (with_reducible rfl) | (simp; done)) | (with_reducible refine Blk.alloc ?_ _) | (with_reducible refine RowIn.alloc ?_ _) | (with_reducible refine Below.alloc ?_ ?_ _) | (with_reducible apply Blk.set') | (with_reducible apply Blk.far') | (with_reducible refine RowIn.far' ?_ ?_ _) | (with_reducible refine Below.far' ?_ ?_ _) | rfl | omega | go_size))) hlw hco HU2.out).mono ?_
        rintro e w11 ⟨Ax, mx, cx, xx, rfl, hcx, rx, HXx, b11⟩
        replace rx := rx.mono (lo' := wr.heap.size + 0) (by go_size) (Nat.le_refl _)
        have s11 := b11.size
        try simp only [World.size_alloc, World.size_setCell, World.size_drew, size_drewN] at s11
        obtain ⟨rl_11, rx_11, bb_11⟩ : RowIn .u8 w11 (0) (wr.heap.size) (some ⟨g, 0, none⟩) (nb + 4) l ∧ RowIn .u8 w11 (wr.heap.size + 0) (w11.heap.size) Ax mx (pack xx) ∧ Below w.heap.size w w11 := by
          refine ⟨?_, ?_, ?_⟩
          all_goals repeat' (first | (with_reducible assumption) | (with_reducible exact Below.refl _ _) | (with_reducible refine Blk.after ?_ b11) | (with_reducible refine RowIn.belowS ?_ b11) | (with_reducible refine Below.after ?_ b11 ?_) | (with_reducible refine Blk.drewN ?_ _) | (with_reducible refine RowIn.drewN ?_ _) | (with_reducible refine below_drewN ?_ _) | (with_reducible refine Blk.drew ?_) | (with_reducible refine RowIn.drew ?_) | (with_reducible refine Below.drew ?_) | (with_reducible refine Blk.new' ?_ ?_ <;> first | (with_reducible rfl) | (simp; done)) | (with_reducible refine Blk.alloc ?_ _) | (with_reducible refine RowIn.alloc ?_ _) | (with_reducible refine Below.alloc ?_ ?_ _) | (with_reducible apply Blk.set') | (with_reducible apply Blk.far') | (with_reducible refine RowIn.far' ?_ ?_ _) | (with_reducible refine Below.far' ?_ ?_ _) | rfl | omega | go_size)
        clear b11
        clear rx
        go_wp2_with fail
        refine (alive11 _).mono ?_
        rintro e w12 ⟨rfl, b12⟩
        have s12 := b12.size
        try simp only [World.size_alloc, World.size_setCell, World.size_drew, size_drewN] at s12
        have bb_12 : Below w.heap.size w w12 := by
          repeat' (first | (with_reducible assumption) | (with_reducible exact Below.refl _ _) | (with_reducible refine Blk.after ?_ b12) | (with_reducible refine RowIn.belowS ?_ b12) | (with_reducible refine Below.after ?_ b12 ?_) | (with_reducible refine Blk.drewN ?_ _) | (with_reducible refine RowIn.drewN ?_ _) | (with_reducible refine below_drewN ?_ _) | (with_reducible refine Blk.drew ?_) | (with_reducible refine RowIn.drew ?_) | (with_reducible refine Below.drew ?_) | (with_reducible refine Blk.new' ?_ ?_ <;> first | (with_reducible rfl) | (simp; done)) | (with_reducible refine Blk.alloc ?_ _) | (with_reducible refine RowIn.alloc ?_ _) | (with_reducible refine Below.alloc ?_ ?_ _) | (with_reducible apply Blk.set') | (with_reducible apply Blk.far') | (with_reducible refine RowIn.far' ?_ ?_ _) | (with_reducible refine Below.far' ?_ ?_ _) | rfl | omega | go_size)
        clear rl_11 rx_11 bb_11 b12
        go_wp2
        go_ret
        refine ⟨rfl, ?_⟩
        repeat' (first | (with_reducible assumption) | (with_reducible exact Below.refl _ _) | (with_reducible refine Blk.drewN ?_ _) | (with_reducible refine RowIn.drewN ?_ _) | (with_reducible refine below_drewN ?_ _) | (with_reducible refine Blk.drew ?_) | (with_reducible refine RowIn.drew ?_) | (with_reducible refine Below.drew ?_) | (with_reducible refine Blk.new' ?_ ?_ <;> first | (with_reducible rfl) | (simp; done)) | (with_reducible refine Blk.alloc ?_ _) | (with_reducible refine RowIn.alloc ?_ _) | (with_reducible refine Below.alloc ?_ ?_ _) | (with_reducible apply Blk.set') | (with_reducible apply Blk.far') | (with_reducible refine RowIn.far' ?_ ?_ _) | (with_reducible refine Below.far' ?_ ?_ _) | rfl | omega | go_size)
      · have hen := burst_end (pack_u8 xb) (by rw [hlen.out]; omega) (show Burst (sealed (pack xb)) l q v k by rw [← HXX.out]; exact HBU.out) (by omega)
        have HU2 : Hid (unpR l = ([], 22)) := Lib.hid (hen.2 (of_decide_eq_true HDF.out.symm))
        have hlw := HBU.out.within
        have hrow := own.row.rowIn
        have hco := own.rowC.2
        have hsz := hbel.size
        clear hen own
        go_wp2_with fail
        refine (unp_c (some ⟨g, 0, none⟩) (nb + 4) co l _ [] 22 (by exact RowIn.row (lo := 0) (hi := wr.heap.size) (by repeat' (first | (with_reducible assumption) | (with_reducible exact Below.refl _ _) | (with_reducible refine Blk.drewN ?_ _) | (with_reducible refine RowIn.drewN ?_ _) | (with_reducible refine below_drewN ?_ _) | (with_reducible refine Blk.drew ?_) | (with_reducible refine RowIn.drew ?_) | (with_reducible refine Below.drew ?_) | (with_reducible refine Blk.new' ?_ ?_ <;> first | (with_reducible rfl) | (simp; done)) | (with_reducible refine Blk.alloc ?_ _) | (with_reducible refine RowIn.alloc ?_ _) | (with_reducible refine Below.alloc ?_ ?_ _) | (with_reducible apply Blk.set') | (with_reducible apply Blk.far') | (with_reducible refine RowIn.far' ?_ ?_ _) | (with_reducible refine Below.far' ?_ ?_ _) | rfl | omega | go_size))) hlw hco HU2.out).mono ?_
        rintro e w11 ⟨Ax, mx, cx, xx, rfl, hcx, rx, HXx, b11⟩
        replace rx := rx.mono (lo' := wr.heap.size + 0) (by go_size) (Nat.le_refl _)
        have s11 := b11.size
        try simp only [World.size_alloc, World.size_setCell, World.size_drew, size_drewN] at s11
        obtain ⟨rl_11, rx_11, bb_11⟩ : RowIn .u8 w11 (0) (wr.heap.size) (some ⟨g, 0, none⟩) (nb + 4) l ∧ RowIn .u8 w11 (wr.heap.size + 0) (w11.heap.size) Ax mx (pack xx) ∧ Below w.heap.size w w11 := by
          refine ⟨?_, ?_, ?_⟩
          all_goals repeat' (first | (with_reducible assumption) | (with_reducible exact Below.refl _ _) | (with_reducible refine Blk.after ?_ b11) | (with_reducible refine RowIn.belowS ?_ b11) | (with_reducible refine Below.after ?_ b11 ?_) | (with_reducible refine Blk.drewN ?_ _) | (with_reducible refine RowIn.drewN ?_ _) | (with_reducible refine below_drewN ?_ _) | (with_reducible refine Blk.drew ?_) | (with_reducible refine RowIn.drew ?_) | (with_reducible refine Below.drew ?_) | (with_reducible refine Blk.new' ?_ ?_ <;> first | (with_reducible rfl) | (simp; done)) | (with_reducible refine Blk.alloc ?_ _) | (with_reducible refine RowIn.alloc ?_ _) | (with_reducible refine Below.alloc ?_ ?_ _) | (with_reducible apply Blk.set') | (with_reducible apply Blk.far') | (with_reducible refine RowIn.far' ?_ ?_ _) | (with_reducible refine Below.far' ?_ ?_ _) | rfl | omega | go_size)
        clear b11
        clear rx
        go_wp2_with fail
        refine (alive11 _).mono ?_
        rintro e w12 ⟨rfl, b12⟩
        have s12 := b12.size
        try simp only [World.size_alloc, World.size_setCell, World.size_drew, size_drewN] at s12
        have bb_12 : Below w.heap.size w w12 := by
          repeat' (first | (with_reducible assumption) | (with_reducible exact Below.refl _ _) | (with_reducible refine Blk.after ?_ b12) | (with_reducible refine RowIn.belowS ?_ b12) | (with_reducible refine Below.after ?_ b12 ?_) | (with_reducible refine Blk.drewN ?_ _) | (with_reducible refine RowIn.drewN ?_ _) | (with_reducible refine below_drewN ?_ _) | (with_reducible refine Blk.drew ?_) | (with_reducible refine RowIn.drew ?_) | (with_reducible refine Below.drew ?_) | (with_reducible refine Blk.new' ?_ ?_ <;> first | (with_reducible rfl) | (simp; done)) | (with_reducible refine Blk.alloc ?_ _) | (with_reducible refine RowIn.alloc ?_ _) | (with_reducible refine Below.alloc ?_ ?_ _) | (with_reducible apply Blk.set') | (with_reducible apply Blk.far') | (with_reducible refine RowIn.far' ?_ ?_ _) | (with_reducible refine Below.far' ?_ ?_ _) | rfl | omega | go_size)
        clear rl_11 rx_11 bb_11 b12
        go_wp2
        go_ret
        refine ⟨rfl, ?_⟩
        repeat' (first | (with_reducible assumption) | (with_reducible exact Below.refl _ _) | (with_reducible refine Blk.drewN ?_ _) | (with_reducible refine RowIn.drewN ?_ _) | (with_reducible refine below_drewN ?_ _) | (with_reducible refine Blk.drew ?_) | (with_reducible refine RowIn.drew ?_) | (with_reducible refine Below.drew ?_) | (with_reducible refine Blk.new' ?_ ?_ <;> first | (with_reducible rfl) | (simp; done)) | (with_reducible refine Blk.alloc ?_ _) | (with_reducible refine RowIn.alloc ?_ _) | (with_reducible refine Below.alloc ?_ ?_ _) | (with_reducible apply Blk.set') | (with_reducible apply Blk.far') | (with_reducible refine RowIn.far' ?_ ?_ _) | (with_reducible refine Below.far' ?_ ?_ _) | rfl | omega | go_size)


end Go.Proofs.Ytncmnfnminjchaa
