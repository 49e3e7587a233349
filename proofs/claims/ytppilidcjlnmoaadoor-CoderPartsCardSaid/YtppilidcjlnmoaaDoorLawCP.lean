/-
  The walk of CoderParts.
-/
import Derived.Test.YtppilidcjlnmoaaDoorCodM
import Derived.Test.YtppilidcjlnmoaaDoorRefT
import Derived.Test.YtppilidcjlnmoaaDoorRefB
import Derived.Test.YtppilidcjlnmoaaDoorPartRow
namespace Go.Proofs.YtppilidcjlnmoaaDoor
open Go.RowKit Cad Cad.Bit Cad.Code
set_option linter.unusedVariables false
set_option linter.unusedSimpArgs false


set_option maxRecDepth 100000 in
set_option maxHeartbeats 16000000 in
theorem lawCoderParts (w : World) (ht : Tab w) (Al : Option Addr) (nl cl : Nat) (xsl : List Int) (hAl : RowC .u32 w Al nl cl xsl) (hxl : Within 0 4294967295 xsl) (p : Int) (hp : -9223372036854775808 ≤ p ∧ p ≤ 9223372036854775807) :
    Calls Tryd.prog 13 #[.slice Al nl cl, .int .i64 p] w fun e w' => e = .returned (.bool true) ∧ Below w.heap.size w w' := by
  have hal := hAl.row
  have hcl := hAl.2
  have hril := hal.rowIn
  have HLl := Lib.hid hal.len
  have hti : RowIn .u8 w 0 w.heap.size (some ⟨0, 0, none⟩) 64 dbTab := ht.rowIn
  by_cases h0 : 100 < nl
  · have t0 : decide ((100 : Int) < (nl : Int)) = true := decide_eq_true (by omega)
    go_enter Tryd.func13, Tryd.ntmps13
    go_wp2_with fail
    refine (alive09 _ (by exact RowIn.row (lo := 0) (hi := w.heap.size) (by repeat' (first | (with_reducible assumption) | (with_reducible exact Below.refl _ _) | (with_reducible refine Blk.drewN ?_ _) | (with_reducible refine RowIn.drewN ?_ _) | (with_reducible refine below_drewN ?_ _) | (with_reducible refine Blk.drew ?_) | (with_reducible refine RowIn.drew ?_) | (with_reducible refine Below.drew ?_) | (with_reducible refine Blk.new' ?_ ?_ <;> first | (with_reducible rfl) | (simp; done)) | (with_reducible refine Blk.alloc ?_ _) | (with_reducible refine RowIn.alloc ?_ _) | (with_reducible refine Below.alloc ?_ ?_ _) | (with_reducible apply Blk.set') | (with_reducible apply Blk.far') | (with_reducible refine RowIn.far' ?_ ?_ _) | (with_reducible refine Below.far' ?_ ?_ _) | (exact (Eq.refl _ : (_ : List Value) = _)) | omega | go_size)))).mono ?_
    rintro e w1 ⟨rfl, b1⟩
    have s1 := b1.size
    try simp only [World.size_alloc, World.size_setCell, World.size_drew, size_drewN] at s1
    have bb_1 : Below w.heap.size w w1 := by
      repeat' (first | (with_reducible assumption) | (with_reducible exact Below.refl _ _) | (with_reducible refine Blk.drewN ?_ _) | (with_reducible refine RowIn.drewN ?_ _) | (with_reducible refine below_drewN ?_ _) | (with_reducible refine Blk.drew ?_) | (with_reducible refine RowIn.drew ?_) | (with_reducible refine Below.drew ?_) | (with_reducible refine Blk.new' ?_ ?_ <;> first | (with_reducible rfl) | (simp; done)) | (with_reducible refine Blk.alloc ?_ _) | (with_reducible refine RowIn.alloc ?_ _) | (with_reducible refine Below.alloc ?_ ?_ _) | (with_reducible apply Blk.set') | (with_reducible apply Blk.far') | (with_reducible refine RowIn.far' ?_ ?_ _) | (with_reducible refine Below.far' ?_ ?_ _) | (with_reducible refine Blk.after ?_ b1) | (with_reducible refine RowIn.belowS ?_ b1) | (with_reducible refine Below.after ?_ b1 ?_) | (exact (Eq.refl _ : (_ : List Value) = _)) | omega | go_size)
    clear b1
    go_wp2
    go_ret
    refine ⟨rfl, ?_⟩
    repeat' (first | (with_reducible assumption) | (with_reducible exact Below.refl _ _) | (with_reducible refine Blk.drewN ?_ _) | (with_reducible refine RowIn.drewN ?_ _) | (with_reducible refine below_drewN ?_ _) | (with_reducible refine Blk.drew ?_) | (with_reducible refine RowIn.drew ?_) | (with_reducible refine Below.drew ?_) | (with_reducible refine Blk.new' ?_ ?_ <;> first | (with_reducible rfl) | (simp; done)) | (with_reducible refine Blk.alloc ?_ _) | (with_reducible refine RowIn.alloc ?_ _) | (with_reducible refine Below.alloc ?_ ?_ _) | (with_reducible apply Blk.set') | (with_reducible apply Blk.far') | (with_reducible refine RowIn.far' ?_ ?_ _) | (with_reducible refine Below.far' ?_ ?_ _) | (exact (Eq.refl _ : (_ : List Value) = _)) | omega | go_size)
  have t0 : decide ((100 : Int) < (nl : Int)) = false := decide_eq_false (by omega)
  by_cases h1 : p < 0
  · go_enter Tryd.func13, Tryd.ntmps13
    go_wp2_with fail
    refine (alive09 _ (by exact RowIn.row (lo := 0) (hi := w.heap.size) (by repeat' (first | (with_reducible assumption) | (with_reducible exact Below.refl _ _) | (with_reducible refine Blk.drewN ?_ _) | (with_reducible refine RowIn.drewN ?_ _) | (with_reducible refine below_drewN ?_ _) | (with_reducible refine Blk.drew ?_) | (with_reducible refine RowIn.drew ?_) | (with_reducible refine Below.drew ?_) | (with_reducible refine Blk.new' ?_ ?_ <;> first | (with_reducible rfl) | (simp; done)) | (with_reducible refine Blk.alloc ?_ _) | (with_reducible refine RowIn.alloc ?_ _) | (with_reducible refine Below.alloc ?_ ?_ _) | (with_reducible apply Blk.set') | (with_reducible apply Blk.far') | (with_reducible refine RowIn.far' ?_ ?_ _) | (with_reducible refine Below.far' ?_ ?_ _) | (exact (Eq.refl _ : (_ : List Value) = _)) | omega | go_size)))).mono ?_
    rintro e w1 ⟨rfl, b1⟩
    have s1 := b1.size
    try simp only [World.size_alloc, World.size_setCell, World.size_drew, size_drewN] at s1
    have bb_1 : Below w.heap.size w w1 := by
      repeat' (first | (with_reducible assumption) | (with_reducible exact Below.refl _ _) | (with_reducible refine Blk.drewN ?_ _) | (with_reducible refine RowIn.drewN ?_ _) | (with_reducible refine below_drewN ?_ _) | (with_reducible refine Blk.drew ?_) | (with_reducible refine RowIn.drew ?_) | (with_reducible refine Below.drew ?_) | (with_reducible refine Blk.new' ?_ ?_ <;> first | (with_reducible rfl) | (simp; done)) | (with_reducible refine Blk.alloc ?_ _) | (with_reducible refine RowIn.alloc ?_ _) | (with_reducible refine Below.alloc ?_ ?_ _) | (with_reducible apply Blk.set') | (with_reducible apply Blk.far') | (with_reducible refine RowIn.far' ?_ ?_ _) | (with_reducible refine Below.far' ?_ ?_ _) | (with_reducible refine Blk.after ?_ b1) | (with_reducible refine RowIn.belowS ?_ b1) | (with_reducible refine Below.after ?_ b1 ?_) | (exact (Eq.refl _ : (_ : List Value) = _)) | omega | go_size)
    clear b1
    go_wp2
    go_ret
    refine ⟨rfl, ?_⟩
    repeat' (first | (with_reducible assumption) | (with_reducible exact Below.refl _ _) | (with_reducible refine Blk.drewN ?_ _) | (with_reducible refine RowIn.drewN ?_ _) | (with_reducible refine below_drewN ?_ _) | (with_reducible refine Blk.drew ?_) | (with_reducible refine RowIn.drew ?_) | (with_reducible refine Below.drew ?_) | (with_reducible refine Blk.new' ?_ ?_ <;> first | (with_reducible rfl) | (simp; done)) | (with_reducible refine Blk.alloc ?_ _) | (with_reducible refine RowIn.alloc ?_ _) | (with_reducible refine Below.alloc ?_ ?_ _) | (with_reducible apply Blk.set') | (with_reducible apply Blk.far') | (with_reducible refine RowIn.far' ?_ ?_ _) | (with_reducible refine Below.far' ?_ ?_ _) | (exact (Eq.refl _ : (_ : List Value) = _)) | omega | go_size)
  by_cases h2 : (nl : Int) < p
  · go_enter Tryd.func13, Tryd.ntmps13
    go_wp2_with fail
    refine (alive09 _ (by exact RowIn.row (lo := 0) (hi := w.heap.size) (by repeat' (first | (with_reducible assumption) | (with_reducible exact Below.refl _ _) | (with_reducible refine Blk.drewN ?_ _) | (with_reducible refine RowIn.drewN ?_ _) | (with_reducible refine below_drewN ?_ _) | (with_reducible refine Blk.drew ?_) | (with_reducible refine RowIn.drew ?_) | (with_reducible refine Below.drew ?_) | (with_reducible refine Blk.new' ?_ ?_ <;> first | (with_reducible rfl) | (simp; done)) | (with_reducible refine Blk.alloc ?_ _) | (with_reducible refine RowIn.alloc ?_ _) | (with_reducible refine Below.alloc ?_ ?_ _) | (with_reducible apply Blk.set') | (with_reducible apply Blk.far') | (with_reducible refine RowIn.far' ?_ ?_ _) | (with_reducible refine Below.far' ?_ ?_ _) | (exact (Eq.refl _ : (_ : List Value) = _)) | omega | go_size)))).mono ?_
    rintro e w1 ⟨rfl, b1⟩
    have s1 := b1.size
    try simp only [World.size_alloc, World.size_setCell, World.size_drew, size_drewN] at s1
    have bb_1 : Below w.heap.size w w1 := by
      repeat' (first | (with_reducible assumption) | (with_reducible exact Below.refl _ _) | (with_reducible refine Blk.drewN ?_ _) | (with_reducible refine RowIn.drewN ?_ _) | (with_reducible refine below_drewN ?_ _) | (with_reducible refine Blk.drew ?_) | (with_reducible refine RowIn.drew ?_) | (with_reducible refine Below.drew ?_) | (with_reducible refine Blk.new' ?_ ?_ <;> first | (with_reducible rfl) | (simp; done)) | (with_reducible refine Blk.alloc ?_ _) | (with_reducible refine RowIn.alloc ?_ _) | (with_reducible refine Below.alloc ?_ ?_ _) | (with_reducible apply Blk.set') | (with_reducible apply Blk.far') | (with_reducible refine RowIn.far' ?_ ?_ _) | (with_reducible refine Below.far' ?_ ?_ _) | (with_reducible refine Blk.after ?_ b1) | (with_reducible refine RowIn.belowS ?_ b1) | (with_reducible refine Below.after ?_ b1 ?_) | (exact (Eq.refl _ : (_ : List Value) = _)) | omega | go_size)
    clear b1
    go_wp2
    go_ret
    refine ⟨rfl, ?_⟩
    repeat' (first | (with_reducible assumption) | (with_reducible exact Below.refl _ _) | (with_reducible refine Blk.drewN ?_ _) | (with_reducible refine RowIn.drewN ?_ _) | (with_reducible refine below_drewN ?_ _) | (with_reducible refine Blk.drew ?_) | (with_reducible refine RowIn.drew ?_) | (with_reducible refine Below.drew ?_) | (with_reducible refine Blk.new' ?_ ?_ <;> first | (with_reducible rfl) | (simp; done)) | (with_reducible refine Blk.alloc ?_ _) | (with_reducible refine RowIn.alloc ?_ _) | (with_reducible refine Below.alloc ?_ ?_ _) | (with_reducible apply Blk.set') | (with_reducible apply Blk.far') | (with_reducible refine RowIn.far' ?_ ?_ _) | (with_reducible refine Below.far' ?_ ?_ _) | (exact (Eq.refl _ : (_ : List Value) = _)) | omega | go_size)
  obtain ⟨p, rfl⟩ := Int.eq_ofNat_of_zero_le (by omega : 0 ≤ p)
  have t1 : decide ((p : Int) < 0) = false := decide_eq_false (by omega)
  have t2 : decide ((nl : Int) < (p : Int)) = false := decide_eq_false (by omega)
  have hpn : p ≤ nl := by omega
  have hpc : (p : Int) ≤ (cl : Int) := by omega
  clear h1 h2
  go_enter Tryd.func13, Tryd.ntmps13
  go_wp2_with fail
  refine (cenc_ok Al nl cl xsl _ (by exact RowIn.row (lo := 0) (hi := w.heap.size) (by repeat' (first | (with_reducible assumption) | (with_reducible exact Below.refl _ _) | (with_reducible refine Blk.drewN ?_ _) | (with_reducible refine RowIn.drewN ?_ _) | (with_reducible refine below_drewN ?_ _) | (with_reducible refine Blk.drew ?_) | (with_reducible refine RowIn.drew ?_) | (with_reducible refine Below.drew ?_) | (with_reducible refine Blk.new' ?_ ?_ <;> first | (with_reducible rfl) | (simp; done)) | (with_reducible refine Blk.alloc ?_ _) | (with_reducible refine RowIn.alloc ?_ _) | (with_reducible refine Below.alloc ?_ ?_ _) | (with_reducible apply Blk.set') | (with_reducible apply Blk.far') | (with_reducible refine RowIn.far' ?_ ?_ _) | (with_reducible refine Below.far' ?_ ?_ _) | (exact (Eq.refl _ : (_ : List Value) = _)) | omega | go_size))) hxl (by omega)).mono ?_
  rintro e w1 ⟨Aa, ma, ca, xa, rfl, hca, ra, HXa, b1⟩
  replace ra := ra.mono (lo' := w.heap.size + 0) (by go_size) (Nat.le_refl _)
  have s1 := b1.size
  try simp only [World.size_alloc, World.size_setCell, World.size_drew, size_drewN] at s1
  obtain ⟨rl_1, rt_1, ra_1, bb_1⟩ : RowIn .u32 w1 (0) (w.heap.size) Al nl xsl ∧ RowIn .u8 w1 (0) (w.heap.size) (some ⟨0, 0, none⟩) 64 dbTab ∧ RowIn .u8 w1 (w.heap.size + 0) (w1.heap.size) Aa ma (pack xa) ∧ Below w.heap.size w w1 := by
    refine ⟨?_, ?_, ?_, ?_⟩
    all_goals repeat' (first | (with_reducible assumption) | (with_reducible exact Below.refl _ _) | (with_reducible refine Blk.drewN ?_ _) | (with_reducible refine RowIn.drewN ?_ _) | (with_reducible refine below_drewN ?_ _) | (with_reducible refine Blk.drew ?_) | (with_reducible refine RowIn.drew ?_) | (with_reducible refine Below.drew ?_) | (with_reducible refine Blk.new' ?_ ?_ <;> first | (with_reducible rfl) | (simp; done)) | (with_reducible refine Blk.alloc ?_ _) | (with_reducible refine RowIn.alloc ?_ _) | (with_reducible refine Below.alloc ?_ ?_ _) | (with_reducible apply Blk.set') | (with_reducible apply Blk.far') | (with_reducible refine RowIn.far' ?_ ?_ _) | (with_reducible refine Below.far' ?_ ?_ _) | (with_reducible refine Blk.after ?_ b1) | (with_reducible refine RowIn.belowS ?_ b1) | (with_reducible refine Below.after ?_ b1 ?_) | (exact (Eq.refl _ : (_ : List Value) = _)) | omega | go_size)
  clear b1
  clear ra
  have hal := codeP_le start_ok hxl nl
  rw [← HXa.out] at hal
  obtain ⟨hal1, hal2⟩ := hal
  go_wp2_with fail
  refine (cenc_ok _ p _ (xsl.take p) _ (by first | exact (part_row2 (show RowIn .u32 _ 0 w.heap.size Al nl xsl by repeat' (first | (with_reducible assumption) | (with_reducible exact Below.refl _ _) | (with_reducible refine Blk.drewN ?_ _) | (with_reducible refine RowIn.drewN ?_ _) | (with_reducible refine below_drewN ?_ _) | (with_reducible refine Blk.drew ?_) | (with_reducible refine RowIn.drew ?_) | (with_reducible refine Below.drew ?_) | (with_reducible refine Blk.new' ?_ ?_ <;> first | (with_reducible rfl) | (simp; done)) | (with_reducible refine Blk.alloc ?_ _) | (with_reducible refine RowIn.alloc ?_ _) | (with_reducible refine Below.alloc ?_ ?_ _) | (with_reducible apply Blk.set') | (with_reducible apply Blk.far') | (with_reducible refine RowIn.far' ?_ ?_ _) | (with_reducible refine Below.far' ?_ ?_ _) | (exact (Eq.refl _ : (_ : List Value) = _)) | omega | go_size)) hpn).row | exact (part_row2 (show RowIn .u32 _ 0 w.heap.size Al nl xsl by repeat' (first | (with_reducible assumption) | (with_reducible exact Below.refl _ _) | (with_reducible refine Blk.drewN ?_ _) | (with_reducible refine RowIn.drewN ?_ _) | (with_reducible refine below_drewN ?_ _) | (with_reducible refine Blk.drew ?_) | (with_reducible refine RowIn.drew ?_) | (with_reducible refine Below.drew ?_) | (with_reducible refine Blk.new' ?_ ?_ <;> first | (with_reducible rfl) | (simp; done)) | (with_reducible refine Blk.alloc ?_ _) | (with_reducible refine RowIn.alloc ?_ _) | (with_reducible refine Below.alloc ?_ ?_ _) | (with_reducible apply Blk.set') | (with_reducible apply Blk.far') | (with_reducible refine RowIn.far' ?_ ?_ _) | (with_reducible refine Below.far' ?_ ?_ _) | (exact (Eq.refl _ : (_ : List Value) = _)) | omega | go_size)) hpn).row) (within_take2 hxl p) (by omega)).mono ?_
  rintro e w2 ⟨Ab, mb, cb, xb, rfl, hcb, rb, HXb, b2⟩
  replace rb := rb.mono (lo' := w1.heap.size + 1) (by go_size) (Nat.le_refl _)
  have s2 := b2.size
  try simp only [World.size_alloc, World.size_setCell, World.size_drew, size_drewN] at s2
  obtain ⟨za_2, rl_2, rt_2, ra_2, rb_2, bb_2⟩ : Blk w2 (w1.heap.size) 24 [.slice Aa ma ca, .int .i64 ((xa.length : Nat) : Int)] ∧ RowIn .u32 w2 (0) (w.heap.size) Al nl xsl ∧ RowIn .u8 w2 (0) (w.heap.size) (some ⟨0, 0, none⟩) 64 dbTab ∧ RowIn .u8 w2 (w.heap.size + 0) (w1.heap.size) Aa ma (pack xa) ∧ RowIn .u8 w2 (w1.heap.size + 1) (w2.heap.size) Ab mb (pack xb) ∧ Below w.heap.size w w2 := by
    refine ⟨?_, ?_, ?_, ?_, ?_, ?_⟩
    all_goals repeat' (first | (with_reducible assumption) | (with_reducible exact Below.refl _ _) | (with_reducible refine Blk.drewN ?_ _) | (with_reducible refine RowIn.drewN ?_ _) | (with_reducible refine below_drewN ?_ _) | (with_reducible refine Blk.drew ?_) | (with_reducible refine RowIn.drew ?_) | (with_reducible refine Below.drew ?_) | (with_reducible refine Blk.new' ?_ ?_ <;> first | (with_reducible rfl) | (simp; done)) | (with_reducible refine Blk.alloc ?_ _) | (with_reducible refine RowIn.alloc ?_ _) | (with_reducible refine Below.alloc ?_ ?_ _) | (with_reducible apply Blk.set') | (with_reducible apply Blk.far') | (with_reducible refine RowIn.far' ?_ ?_ _) | (with_reducible refine Below.far' ?_ ?_ _) | (with_reducible refine Blk.after ?_ b2) | (with_reducible refine RowIn.belowS ?_ b2) | (with_reducible refine Below.after ?_ b2 ?_) | (exact (Eq.refl _ : (_ : List Value) = _)) | omega | go_size)
  clear rl_1 rt_1 ra_1 bb_1 b2
  have ka_2 := za_2.cell; have fa_2 := za_2.frozen; have la_2 := za_2.lt
  clear rb
  have HB0 : Hid (xb = codeP Cad.Code.start xsl p) := Lib.hid (by rw [HXb.out, codeP_row _ _ (Nat.le_refl _)])
  have hbl : xb.length ≤ 81 * p := by rw [HB0.out]; exact (codeP_le start_ok hxl p).2
  clear HXb
  go_wp2_with fail
  refine (cafter_ok _ p _ (xsl.take p) _ (by first | exact (part_row2 (show RowIn .u32 _ 0 w.heap.size Al nl xsl by repeat' (first | (with_reducible assumption) | (with_reducible exact Below.refl _ _) | (with_reducible refine Blk.drewN ?_ _) | (with_reducible refine RowIn.drewN ?_ _) | (with_reducible refine below_drewN ?_ _) | (with_reducible refine Blk.drew ?_) | (with_reducible refine RowIn.drew ?_) | (with_reducible refine Below.drew ?_) | (with_reducible refine Blk.new' ?_ ?_ <;> first | (with_reducible rfl) | (simp; done)) | (with_reducible refine Blk.alloc ?_ _) | (with_reducible refine RowIn.alloc ?_ _) | (with_reducible refine Below.alloc ?_ ?_ _) | (with_reducible apply Blk.set') | (with_reducible apply Blk.far') | (with_reducible refine RowIn.far' ?_ ?_ _) | (with_reducible refine Below.far' ?_ ?_ _) | (exact (Eq.refl _ : (_ : List Value) = _)) | omega | go_size)) hpn).row | exact (part_row2 (show RowIn .u32 _ 0 w.heap.size Al nl xsl by repeat' (first | (with_reducible assumption) | (with_reducible exact Below.refl _ _) | (with_reducible refine Blk.drewN ?_ _) | (with_reducible refine RowIn.drewN ?_ _) | (with_reducible refine below_drewN ?_ _) | (with_reducible refine Blk.drew ?_) | (with_reducible refine RowIn.drew ?_) | (with_reducible refine Below.drew ?_) | (with_reducible refine Blk.new' ?_ ?_ <;> first | (with_reducible rfl) | (simp; done)) | (with_reducible refine Blk.alloc ?_ _) | (with_reducible refine RowIn.alloc ?_ _) | (with_reducible refine Below.alloc ?_ ?_ _) | (with_reducible apply Blk.set') | (with_reducible apply Blk.far') | (with_reducible refine RowIn.far' ?_ ?_ _) | (with_reducible refine Below.far' ?_ ?_ _) | (exact (Eq.refl _ : (_ : List Value) = _)) | omega | go_size)) hpn).row) (within_take2 hxl p) (by omega)).mono ?_
  rintro e w3 ⟨p0, p1, q0, q1, rfl, HSd, b3⟩
  have s3 := b3.size
  try simp only [World.size_alloc, World.size_setCell, World.size_drew, size_drewN] at s3
  obtain ⟨za_3, zb_3, rl_3, rt_3, ra_3, rb_3, bb_3⟩ : Blk w3 (w1.heap.size) 24 [.slice Aa ma ca, .int .i64 ((xa.length : Nat) : Int)] ∧ Blk w3 (w2.heap.size) 24 [.slice Ab mb cb, .int .i64 ((xb.length : Nat) : Int)] ∧ RowIn .u32 w3 (0) (w.heap.size) Al nl xsl ∧ RowIn .u8 w3 (0) (w.heap.size) (some ⟨0, 0, none⟩) 64 dbTab ∧ RowIn .u8 w3 (w.heap.size + 0) (w1.heap.size) Aa ma (pack xa) ∧ RowIn .u8 w3 (w1.heap.size + 1) (w2.heap.size) Ab mb (pack xb) ∧ Below w.heap.size w w3 := by
    refine ⟨?_, ?_, ?_, ?_, ?_, ?_, ?_⟩
    all_goals repeat' (first | (with_reducible assumption) | (with_reducible exact Below.refl _ _) | (with_reducible refine Blk.drewN ?_ _) | (with_reducible refine RowIn.drewN ?_ _) | (with_reducible refine below_drewN ?_ _) | (with_reducible refine Blk.drew ?_) | (with_reducible refine RowIn.drew ?_) | (with_reducible refine Below.drew ?_) | (with_reducible refine Blk.new' ?_ ?_ <;> first | (with_reducible rfl) | (simp; done)) | (with_reducible refine Blk.alloc ?_ _) | (with_reducible refine RowIn.alloc ?_ _) | (with_reducible refine Below.alloc ?_ ?_ _) | (with_reducible apply Blk.set') | (with_reducible apply Blk.far') | (with_reducible refine RowIn.far' ?_ ?_ _) | (with_reducible refine Below.far' ?_ ?_ _) | (with_reducible refine Blk.after ?_ b3) | (with_reducible refine RowIn.belowS ?_ b3) | (with_reducible refine Below.after ?_ b3 ?_) | (exact (Eq.refl _ : (_ : List Value) = _)) | omega | go_size)
  clear za_2 rl_2 rt_2 ra_2 rb_2 bb_2 ka_2 fa_2 la_2 b3
  have ka_3 := za_3.cell; have fa_3 := za_3.frozen; have la_3 := za_3.lt
  have kb_3 := zb_3.cell; have fb_3 := zb_3.frozen; have lb_3 := zb_3.lt
  have HD0 : Hid ((⟨p0, p1, q0, q1⟩ : Dual) = stP Cad.Code.start xsl p) := Lib.hid (by rw [HSd.out, stP_row _ _ (Nat.le_refl _)])
  clear HSd
  have HDK : Hid (DOk (p0 : Int) (p1 : Int) (q0 : Int) (q1 : Int)) := Lib.hid (by have h : Dual.Ok ⟨p0, p1, q0, q1⟩ := by (rw [HD0.out]; exact stP_ok start_ok hxl p)
                                                                                  unfold Dual.Ok at h; unfold DOk; simp only at h; omega)
  go_wp2_with fail
  refine (rdcheck_any (p0 : Int) (p1 : Int) (q0 : Int) (q1 : Int) 0 _ (by omega) (by omega) (by rw [if_pos HDK.out])).mono ?_
  rintro e w4 ⟨rfl, b4⟩
  have s4 := b4.size
  try simp only [World.size_alloc, World.size_setCell, World.size_drew, size_drewN] at s4
  obtain ⟨za_4, zb_4, zd_4, rl_4, rt_4, ra_4, rb_4, bb_4⟩ : Blk w4 (w1.heap.size) 24 [.slice Aa ma ca, .int .i64 ((xa.length : Nat) : Int)] ∧ Blk w4 (w2.heap.size) 24 [.slice Ab mb cb, .int .i64 ((xb.length : Nat) : Int)] ∧ Blk w4 (w3.heap.size) 38 [.int .i64 (p0 : Int), .int .i64 (p1 : Int), .int .u64 (q0 : Int), .int .u64 (q1 : Int)] ∧ RowIn .u32 w4 (0) (w.heap.size) Al nl xsl ∧ RowIn .u8 w4 (0) (w.heap.size) (some ⟨0, 0, none⟩) 64 dbTab ∧ RowIn .u8 w4 (w.heap.size + 0) (w1.heap.size) Aa ma (pack xa) ∧ RowIn .u8 w4 (w1.heap.size + 1) (w2.heap.size) Ab mb (pack xb) ∧ Below w.heap.size w w4 := by
    refine ⟨?_, ?_, ?_, ?_, ?_, ?_, ?_, ?_⟩
    all_goals repeat' (first | (with_reducible assumption) | (with_reducible exact Below.refl _ _) | (with_reducible refine Blk.drewN ?_ _) | (with_reducible refine RowIn.drewN ?_ _) | (with_reducible refine below_drewN ?_ _) | (with_reducible refine Blk.drew ?_) | (with_reducible refine RowIn.drew ?_) | (with_reducible refine Below.drew ?_) | (with_reducible refine Blk.new' ?_ ?_ <;> first | (with_reducible rfl) | (simp; done)) | (with_reducible refine Blk.alloc ?_ _) | (with_reducible refine RowIn.alloc ?_ _) | (with_reducible refine Below.alloc ?_ ?_ _) | (with_reducible apply Blk.set') | (with_reducible apply Blk.far') | (with_reducible refine RowIn.far' ?_ ?_ _) | (with_reducible refine Below.far' ?_ ?_ _) | (with_reducible refine Blk.after ?_ b4) | (with_reducible refine RowIn.belowS ?_ b4) | (with_reducible refine Below.after ?_ b4 ?_) | (exact (Eq.refl _ : (_ : List Value) = _)) | omega | go_size)
  clear za_3 zb_3 rl_3 rt_3 ra_3 rb_3 bb_3 ka_3 fa_3 la_3 kb_3 fb_3 lb_3 b4
  have ka_4 := za_4.cell; have fa_4 := za_4.frozen; have la_4 := za_4.lt
  have kb_4 := zb_4.cell; have fb_4 := zb_4.frozen; have lb_4 := zb_4.lt
  have kd_4 := zd_4.cell; have fd_4 := zd_4.frozen; have ld_4 := zd_4.lt
  go_wp2_with fail
  have hgs : w.heap.size ≤ w1.heap.size ∧ w1.heap.size < w2.heap.size ∧ w2.heap.size < w3.heap.size := by omega
  obtain ⟨hgs1, hgs2, hgs3⟩ := hgs
  have la0 := za_4.lt; have lb0 := zb_4.lt; have ld0 := zd_4.lt
  obtain ⟨loa, hia, hloa, hhia, ra0⟩ : ∃ lo hi : Nat, lo ≤ lo ∧ hi ≤ w4.heap.size ∧ RowIn .u8 w4 lo hi Aa ma (pack xa) := ⟨_, _, Nat.le_refl _, by have h1 : w1.heap.size ≤ w4.heap.size := (by omega); exact h1, ra_4⟩
  go_loopg [11] (nl - p) (fun k v wr => ∃ (j : Nat) (B : Option Addr) (m c lo hi : Nat) (y : List Bool) (p0 p1 q0 q1 : Nat), j + k = nl ∧ p ≤ j ∧ v = .int .i64 (j : Nat) ∧ Hid (y = codeP Cad.Code.start xsl j) ∧ y.length ≤ 81 * j ∧ (m ≤ c ∧ c ≤ 9223372036854775807) ∧ Hid ((⟨p0, p1, q0, q1⟩ : Dual) = stP Cad.Code.start xsl j) ∧ Blk wr w1.heap.size 24 [.slice Aa ma ca, .int .i64 ((xa.length : Nat) : Int)] ∧ Blk wr w2.heap.size 24 [.slice B m c, .int .i64 ((y.length : Nat) : Int)] ∧ Blk wr w3.heap.size 38 [.int .i64 (p0 : Int), .int .i64 (p1 : Int), .int .u64 (q0 : Int), .int .u64 (q1 : Int)] ∧ RowIn .u8 wr (w.heap.size + 0) (w1.heap.size) Aa ma (pack xa) ∧ RowIn .u8 wr lo hi B m (pack y) ∧ (w2.heap.size < lo ∨ hi ≤ w2.heap.size) ∧ (w3.heap.size < lo ∨ hi ≤ w3.heap.size) ∧ hi ≤ wr.heap.size ∧ Below w.heap.size w wr ∧ w4.heap.size ≤ wr.heap.size)
  case atStart =>
    refine ⟨p, Ab, mb, cb, w1.heap.size + 1, w2.heap.size, xb, p0, p1, q0, q1, by omega, Nat.le_refl _, rfl, HB0, by omega, hcb, HD0, ?_, ?_, ?_, ?_, ?_, Or.inr (by omega), Or.inr (by omega), by go_size, ?_, by go_size⟩
    all_goals repeat' (first | (with_reducible assumption) | (with_reducible exact Below.refl _ _) | (with_reducible refine Blk.drewN ?_ _) | (with_reducible refine RowIn.drewN ?_ _) | (with_reducible refine below_drewN ?_ _) | (with_reducible refine Blk.drew ?_) | (with_reducible refine RowIn.drew ?_) | (with_reducible refine Below.drew ?_) | (with_reducible refine Blk.new' ?_ ?_ <;> first | (with_reducible rfl) | (simp; done)) | (with_reducible refine Blk.alloc ?_ _) | (with_reducible refine RowIn.alloc ?_ _) | (with_reducible refine Below.alloc ?_ ?_ _) | (with_reducible apply Blk.set') | (with_reducible apply Blk.far') | (with_reducible refine RowIn.far' ?_ ?_ _) | (with_reducible refine Below.far' ?_ ?_ _) | (exact (Eq.refl _ : (_ : List Value) = _)) | omega | go_size)
  case round =>
    have HAL := Lib.hid (hAl.row)
    clear HB0 HD0 HDK
    obtain ⟨j, B, m, c, lo, hi, y, p0, p1, q0, q1, hj, hpj, rfl, HY, hyl, hcy, HP, za, zb, zd, ra, ry, hlo, hlo2, hhi, bb, sw⟩ := hrel
    clear za_4 zb_4 zd_4 rl_4 rt_4 ra_4 rb_4 bb_4 ka_4 fa_4 la_4 kb_4 fb_4 lb_4 kd_4 fd_4 ld_4
    have s5 := bb.size
    have rt : RowIn .u8 wr 0 w.heap.size (some ⟨0, 0, none⟩) 64 dbTab := hti.below bb (Nat.le_refl _)
    obtain ⟨za_5, zb_5, zd_5, ra_5, rt_5, ry_5, bb_5⟩ := And.intro za (And.intro zb (And.intro zd (And.intro ra (And.intro rt (And.intro ry bb)))))
    clear za zb zd ra rt ry bb
    have ka_5 := za_5.cell; have fa_5 := za_5.frozen; have la_5 := za_5.lt
    have kb_5 := zb_5.cell; have fb_5 := zb_5.frozen; have lb_5 := zb_5.lt
    have kd_5 := zd_5.cell; have fd_5 := zd_5.frozen; have ld_5 := zd_5.lt
    by_cases hlt : j < nl
    · obtain ⟨bl, ol, rfl, hbl, hcell⟩ := HAL.out.at (by omega)
      obtain ⟨v, hv⟩ : ∃ v, nth xsl j = v := ⟨_, rfl⟩
      have hvb := hxl.nth (by decide) (by decide) j
      rw [hv] at hvb
      have c0 : w.cell? ⟨bl, ol + j, none⟩ = some (.int .u32 v) := by rw [hcell j hlt, hv]
      obtain ⟨v, rfl⟩ := Int.eq_ofNat_of_zero_le hvb.1
      have hv32 : v < 4294967296 := by omega
      have CL := Lib.hid c0
      have HV : Hid ((nth xsl j).toNat = v) := Lib.hid (by rw [hv]; rfl)
      have hbL := hbl
      clear c0 hcell hv
      have hpo : Dual.Ok ⟨p0, p1, q0, q1⟩ := by rw [HP.out]; exact stP_ok start_ok hxl j
      have HPO := Lib.hid hpo
      clear hpo
      obtain ⟨u0, u1, v0, v1, hu⟩ := Dual.four (learn ⟨p0, p1, q0, q1⟩ v)
      have HU := Lib.hid hu
      clear hu
      obtain ⟨L, hL⟩ : ∃ L, lenD ⟨p0, p1, q0, q1⟩ v = L := ⟨_, rfl⟩
      have hL2 : 1 ≤ L ∧ L ≤ 81 := by rw [← hL]; exact lenD_le HPO.out v
      have HL := Lib.hid hL
      clear hL
      obtain ⟨hL3, hL4⟩ := hL2
      have cL_5 : wr.cell? ⟨bl, ol + j, none⟩ = some (.int .u32 (v : Int)) := (bb_5.cell (p := ⟨bl, ol + j, none⟩) hbL).trans CL.out
      have l0b := lb_5; have l0n := ld_5
      have hlt1 : (j : Int) < (nl : Int) := by omega
      go_wp2_with fail
      have hcl0 : (codeD ⟨p0, p1, q0, q1⟩ v).length = L := by rw [codeD_len]; exact HL.out
      have HCL := Lib.hid hcl0
      clear hcl0
      have HDW : Hid (dwR y ⟨p0, p1, q0, q1⟩ v = (y ++ codeD ⟨p0, p1, q0, q1⟩ v, ⟨u0, u1, v0, v1⟩, 0)) := Lib.hid (by unfold dwR; rw [if_neg (by have := HL.out; omega), HU.out])
      apply merge7 (fun (Ax : Option Addr) (mx : Nat) (cx : Nat) (xx : List Bool) (gy : Nat) (gz : Nat) (wz : World) => Blk wz gy 24 [.slice Ax mx cx, .int .i64 ((xx.length : Nat) : Int)] ∧ Blk wz gz 38 [.int .i64 (u0 : Int), .int .i64 (u1 : Int), .int .u64 (v0 : Int), .int .u64 (v1 : Int)] ∧ (mx ≤ cx ∧ cx ≤ 9223372036854775807) ∧ Hid (xx = y ++ codeD ⟨p0, p1, q0, q1⟩ v) ∧ wr.heap.size ≤ gy ∧ wr.heap.size ≤ gz ∧ gy ≠ gz ∧ (∃ lo hi : Nat, wr.heap.size ≤ lo ∧ hi ≤ wz.heap.size ∧ RowIn .u8 wz lo hi Ax mx (pack xx)) ∧ Blk wz (w1.heap.size) 24 [.slice Aa ma ca, .int .i64 ((xa.length : Nat) : Int)] ∧ Blk wz (w2.heap.size) 24 [.slice B m c, .int .i64 ((y.length : Nat) : Int)] ∧ Blk wz (w3.heap.size) 38 [.int .i64 (p0 : Int), .int .i64 (p1 : Int), .int .u64 (q0 : Int), .int .u64 (q1 : Int)] ∧ RowIn .u8 wz (0) (w.heap.size) (some ⟨0, 0, none⟩) 64 dbTab ∧ RowIn .u8 wz (lo) (hi) B m (pack y) ∧ RowIn .u8 wz (w.heap.size + 0) (w1.heap.size) Aa ma (pack xa) ∧ Below w.heap.size w wz ∧ wr.heap.size ≤ wz.heap.size)
      case main =>
        intro key
        have na_0 : w.heap.size ≤ wr.heap.size := by omega
        have naa_0 : w1.heap.size ≠ wr.heap.size := by omega
        have nab_0 : w2.heap.size ≠ wr.heap.size := by omega
        have nad_0 : w3.heap.size ≠ wr.heap.size := by omega
        have nrt_0 : wr.heap.size < 0 ∨ w.heap.size ≤ wr.heap.size := by omega
        have nry_0 : wr.heap.size < lo ∨ hi ≤ wr.heap.size := by omega
        have nra_0 : wr.heap.size < w.heap.size + 0 ∨ w1.heap.size ≤ wr.heap.size := by omega
        have na_1 : w.heap.size ≤ wr.heap.size + 1 := by omega
        have naa_1 : w1.heap.size ≠ wr.heap.size + 1 := by omega
        have nab_1 : w2.heap.size ≠ wr.heap.size + 1 := by omega
        have nad_1 : w3.heap.size ≠ wr.heap.size + 1 := by omega
        have nrt_1 : wr.heap.size + 1 < 0 ∨ w.heap.size ≤ wr.heap.size + 1 := by omega
        have nry_1 : wr.heap.size + 1 < lo ∨ hi ≤ wr.heap.size + 1 := by omega
        have nra_1 : wr.heap.size + 1 < w.heap.size + 0 ∨ w1.heap.size ≤ wr.heap.size + 1 := by omega
        go_region_held3 (fun w' => (∀ a, w'.cell? ⟨w2.heap.size, a, none⟩ = [.slice B m c, .int .i64 ((y.length : Nat) : Int)][a]?) ∧ (∀ a, w'.cell? ⟨w3.heap.size, a, none⟩ = [.int .i64 (p0 : Int), .int .i64 (p1 : Int), .int .u64 (q0 : Int), .int .u64 (q1 : Int)][a]?) ∧ w'.cell? ⟨bl, ol + j, none⟩ = some (.int .u32 (v : Int))) (first | with_reducible exact ⟨kb_5, kd_5, cL_5⟩ | (refine ⟨Blk.cell (t := 24) ?_, Blk.cell (t := 38) ?_, (Below.cell (p := ⟨bl, ol + j, none⟩) (B := w.heap.size) (w := w) ?_ hbL).trans CL.out⟩; all_goals repeat' (first | (with_reducible assumption) | (with_reducible exact Below.refl _ _) | (with_reducible refine Blk.drewN ?_ _) | (with_reducible refine RowIn.drewN ?_ _) | (with_reducible refine below_drewN ?_ _) | (with_reducible refine Blk.drew ?_) | (with_reducible refine RowIn.drew ?_) | (with_reducible refine Below.drew ?_) | (with_reducible refine Blk.new' ?_ ?_ <;> first | (with_reducible rfl) | (simp; done)) | (with_reducible refine Blk.alloc ?_ _) | (with_reducible refine RowIn.alloc ?_ _) | (with_reducible refine Below.alloc ?_ ?_ _) | (with_reducible apply Blk.set') | (with_reducible apply Blk.far4) | (with_reducible apply RowIn.far4) | (with_reducible apply Below.far4) | (with_reducible apply Blk.far2) | (with_reducible apply RowIn.far2) | (with_reducible apply Below.far2) | (with_reducible apply Blk.far') | (with_reducible refine RowIn.far' ?_ ?_ _) | (with_reducible refine Below.far' ?_ ?_ _) | (with_reducible refine Blk.after ?_ bq) | (with_reducible refine RowIn.belowS ?_ bq) | (with_reducible refine Below.after ?_ bq ?_) | (exact (Eq.refl _ : (_ : List Value) = _)) | omega | go_size))) (
          (go_simp; go_at_call 32; refine (dwrite_c B m c y (y ++ codeD ⟨p0, p1, q0, q1⟩ v) _ (by exact RowIn.row (lo := lo) (hi := hi) (by repeat' (first | (with_reducible assumption) | (with_reducible exact Below.refl _ _) | (with_reducible refine Blk.drewN ?_ _) | (with_reducible refine RowIn.drewN ?_ _) | (with_reducible refine below_drewN ?_ _) | (with_reducible refine Blk.drew ?_) | (with_reducible refine RowIn.drew ?_) | (with_reducible refine Below.drew ?_) | (with_reducible refine Blk.new' ?_ ?_ <;> first | (with_reducible rfl) | (simp; done)) | (with_reducible refine Blk.alloc ?_ _) | (with_reducible refine RowIn.alloc ?_ _) | (with_reducible refine Below.alloc ?_ ?_ _) | (with_reducible apply Blk.set') | (with_reducible apply Blk.far') | (with_reducible refine RowIn.far' ?_ ?_ _) | (with_reducible refine Below.far' ?_ ?_ _) | (exact (Eq.refl _ : (_ : List Value) = _)) | omega | go_size))) hcy (by omega) HPO.out hv32 0 HDW.out).mono ?_; rintro e wq ⟨Ax, mx, cx, xx, rfl, hcx, rx, HXx, bq⟩
           have sq := bq.size
           try simp only [World.size_alloc, World.size_setCell, World.size_drew, size_drewN] at sq
           obtain ⟨lox, hlox1, hlox2, rx⟩ := RowIn.pick2 rx
           try simp only [World.size_alloc, World.size_drew, size_drewN] at hlox1
           try simp only [World.size_alloc, World.size_drew, size_drewN] at hlox2
           try (with_reducible (have zq1 := Blk.after (Blk.drew (Blk.new' (g := wr.heap.size) (t := 24) (l := [.slice none 0 0, .int .i64 0]) rfl rfl)) bq); have kq1 := zq1.cell; have fq1 := zq1.frozen; have lq1 := zq1.lt)
           try (with_reducible (have zq2 := Blk.after (Blk.drew (Blk.new0 (w := wr) (t := 24) (l := [.slice none 0 0, .int .i64 0]) rfl)) bq); have kq2 := zq2.cell; have fq2 := zq2.frozen; have lq2 := zq2.lt)
           try (with_reducible (have zq3 := Blk.after (Blk.drew (Blk.new1 (w := wr) (t := 24) (l := [.slice none 0 0, .int .i64 0]) rfl)) bq); have kq3 := zq3.cell; have fq3 := zq3.frozen; have lq3 := zq3.lt)
           try (with_reducible (have zq4 := Blk.after (Blk.drew (Blk.new' (g := wr.heap.size) (t := 38) (l := [.int .i64 0, .int .i64 0, .int .u64 0, .int .u64 0]) rfl rfl)) bq); have kq4 := zq4.cell; have fq4 := zq4.frozen; have lq4 := zq4.lt)
           try (with_reducible (have zq5 := Blk.after (Blk.drew (Blk.new0 (w := wr) (t := 38) (l := [.int .i64 0, .int .i64 0, .int .u64 0, .int .u64 0]) rfl)) bq); have kq5 := zq5.cell; have fq5 := zq5.frozen; have lq5 := zq5.lt)
           try (with_reducible (have zq6 := Blk.after (Blk.drew (Blk.new1 (w := wr) (t := 38) (l := [.int .i64 0, .int .i64 0, .int .u64 0, .int .u64 0]) rfl)) bq); have kq6 := zq6.cell; have fq6 := zq6.frozen; have lq6 := zq6.lt)))
        all_goals
          refine gen_world (fun wz hwz => ?_)
          first
          | (generalize hg0 : wq.heap.size + 1 = gz; generalize hg1 : wq.heap.size = gy; refine key Ax mx cx xx gy gz wz ?_; subst hg1; subst hg0; subst hwz; refine ⟨?_, ?_, ?_, ?_, ?_, ?_, ?_, ?_, ?_, ?_, ?_, ?_, ?_, ?_, ?_, ?_⟩ <;> ((repeat' (first | (refine ⟨lox, wq.heap.size, by omega, by go_size, ?_⟩) | (with_reducible assumption) | (with_reducible exact Below.refl _ _) | (with_reducible refine Blk.drewN ?_ _) | (with_reducible refine RowIn.drewN ?_ _) | (with_reducible refine below_drewN ?_ _) | (with_reducible refine Blk.drew ?_) | (with_reducible refine RowIn.drew ?_) | (with_reducible refine Below.drew ?_) | (with_reducible refine Blk.new' ?_ ?_ <;> first | (with_reducible rfl) | (simp; done)) | (with_reducible refine Blk.alloc ?_ _) | (with_reducible refine RowIn.alloc ?_ _) | (with_reducible refine Below.alloc ?_ ?_ _) | (with_reducible apply Blk.set') | (with_reducible apply Blk.far4) | (with_reducible apply RowIn.far4) | (with_reducible apply Below.far4) | (with_reducible apply Blk.far2) | (with_reducible apply RowIn.far2) | (with_reducible apply Below.far2) | (with_reducible apply Blk.far') | (with_reducible refine RowIn.far' ?_ ?_ _) | (with_reducible refine Below.far' ?_ ?_ _) | (with_reducible refine Blk.after ?_ bq) | (with_reducible refine RowIn.belowS ?_ bq) | (with_reducible refine Below.after ?_ bq ?_) | (exact (Eq.refl _ : (_ : List Value) = _)) | omega | go_size)); done))
          | (generalize hg0 : wq.heap.size + 1 = gy; generalize hg1 : wq.heap.size = gz; refine key Ax mx cx xx gy gz wz ?_; subst hg1; subst hg0; subst hwz; refine ⟨?_, ?_, ?_, ?_, ?_, ?_, ?_, ?_, ?_, ?_, ?_, ?_, ?_, ?_, ?_, ?_⟩ <;> ((repeat' (first | (refine ⟨lox, wq.heap.size, by omega, by go_size, ?_⟩) | (with_reducible assumption) | (with_reducible exact Below.refl _ _) | (with_reducible refine Blk.drewN ?_ _) | (with_reducible refine RowIn.drewN ?_ _) | (with_reducible refine below_drewN ?_ _) | (with_reducible refine Blk.drew ?_) | (with_reducible refine RowIn.drew ?_) | (with_reducible refine Below.drew ?_) | (with_reducible refine Blk.new' ?_ ?_ <;> first | (with_reducible rfl) | (simp; done)) | (with_reducible refine Blk.alloc ?_ _) | (with_reducible refine RowIn.alloc ?_ _) | (with_reducible refine Below.alloc ?_ ?_ _) | (with_reducible apply Blk.set') | (with_reducible apply Blk.far4) | (with_reducible apply RowIn.far4) | (with_reducible apply Below.far4) | (with_reducible apply Blk.far2) | (with_reducible apply RowIn.far2) | (with_reducible apply Below.far2) | (with_reducible apply Blk.far') | (with_reducible refine RowIn.far' ?_ ?_ _) | (with_reducible refine Below.far' ?_ ?_ _) | (with_reducible refine Blk.after ?_ bq) | (with_reducible refine RowIn.belowS ?_ bq) | (with_reducible refine Below.after ?_ bq ?_) | (exact (Eq.refl _ : (_ : List Value) = _)) | omega | go_size)); done))
          | (generalize hg0 : wq.heap.size = gz; generalize hg1 : wr.heap.size = gy; refine key Ax mx cx xx gy gz wz ?_; subst hg1; subst hg0; subst hwz; refine ⟨?_, ?_, ?_, ?_, ?_, ?_, ?_, ?_, ?_, ?_, ?_, ?_, ?_, ?_, ?_, ?_⟩ <;> ((repeat' (first | (refine ⟨lox, wq.heap.size, by omega, by go_size, ?_⟩) | (with_reducible assumption) | (with_reducible exact Below.refl _ _) | (with_reducible refine Blk.drewN ?_ _) | (with_reducible refine RowIn.drewN ?_ _) | (with_reducible refine below_drewN ?_ _) | (with_reducible refine Blk.drew ?_) | (with_reducible refine RowIn.drew ?_) | (with_reducible refine Below.drew ?_) | (with_reducible refine Blk.new' ?_ ?_ <;> first | (with_reducible rfl) | (simp; done)) | (with_reducible refine Blk.alloc ?_ _) | (with_reducible refine RowIn.alloc ?_ _) | (with_reducible refine Below.alloc ?_ ?_ _) | (with_reducible apply Blk.set') | (with_reducible apply Blk.far4) | (with_reducible apply RowIn.far4) | (with_reducible apply Below.far4) | (with_reducible apply Blk.far2) | (with_reducible apply RowIn.far2) | (with_reducible apply Below.far2) | (with_reducible apply Blk.far') | (with_reducible refine RowIn.far' ?_ ?_ _) | (with_reducible refine Below.far' ?_ ?_ _) | (with_reducible refine Blk.after ?_ bq) | (with_reducible refine RowIn.belowS ?_ bq) | (with_reducible refine Below.after ?_ bq ?_) | (exact (Eq.refl _ : (_ : List Value) = _)) | omega | go_size)); done))
          | (generalize hg0 : wq.heap.size = gy; generalize hg1 : wr.heap.size = gz; refine key Ax mx cx xx gy gz wz ?_; subst hg1; subst hg0; subst hwz; refine ⟨?_, ?_, ?_, ?_, ?_, ?_, ?_, ?_, ?_, ?_, ?_, ?_, ?_, ?_, ?_, ?_⟩ <;> ((repeat' (first | (refine ⟨lox, wq.heap.size, by omega, by go_size, ?_⟩) | (with_reducible assumption) | (with_reducible exact Below.refl _ _) | (with_reducible refine Blk.drewN ?_ _) | (with_reducible refine RowIn.drewN ?_ _) | (with_reducible refine below_drewN ?_ _) | (with_reducible refine Blk.drew ?_) | (with_reducible refine RowIn.drew ?_) | (with_reducible refine Below.drew ?_) | (with_reducible refine Blk.new' ?_ ?_ <;> first | (with_reducible rfl) | (simp; done)) | (with_reducible refine Blk.alloc ?_ _) | (with_reducible refine RowIn.alloc ?_ _) | (with_reducible refine Below.alloc ?_ ?_ _) | (with_reducible apply Blk.set') | (with_reducible apply Blk.far4) | (with_reducible apply RowIn.far4) | (with_reducible apply Below.far4) | (with_reducible apply Blk.far2) | (with_reducible apply RowIn.far2) | (with_reducible apply Below.far2) | (with_reducible apply Blk.far') | (with_reducible refine RowIn.far' ?_ ?_ _) | (with_reducible refine Below.far' ?_ ?_ _) | (with_reducible refine Blk.after ?_ bq) | (with_reducible refine RowIn.belowS ?_ bq) | (with_reducible refine Below.after ?_ bq ?_) | (exact (Eq.refl _ : (_ : List Value) = _)) | omega | go_size)); done))
          | (generalize hg0 : wr.heap.size + 1 = gz; generalize hg1 : wr.heap.size = gy; refine key Ax mx cx xx gy gz wz ?_; subst hg1; subst hg0; subst hwz; refine ⟨?_, ?_, ?_, ?_, ?_, ?_, ?_, ?_, ?_, ?_, ?_, ?_, ?_, ?_, ?_, ?_⟩ <;> ((repeat' (first | (refine ⟨lox, wq.heap.size, by omega, by go_size, ?_⟩) | (with_reducible assumption) | (with_reducible exact Below.refl _ _) | (with_reducible refine Blk.drewN ?_ _) | (with_reducible refine RowIn.drewN ?_ _) | (with_reducible refine below_drewN ?_ _) | (with_reducible refine Blk.drew ?_) | (with_reducible refine RowIn.drew ?_) | (with_reducible refine Below.drew ?_) | (with_reducible refine Blk.new' ?_ ?_ <;> first | (with_reducible rfl) | (simp; done)) | (with_reducible refine Blk.alloc ?_ _) | (with_reducible refine RowIn.alloc ?_ _) | (with_reducible refine Below.alloc ?_ ?_ _) | (with_reducible apply Blk.set') | (with_reducible apply Blk.far4) | (with_reducible apply RowIn.far4) | (with_reducible apply Below.far4) | (with_reducible apply Blk.far2) | (with_reducible apply RowIn.far2) | (with_reducible apply Below.far2) | (with_reducible apply Blk.far') | (with_reducible refine RowIn.far' ?_ ?_ _) | (with_reducible refine Below.far' ?_ ?_ _) | (with_reducible refine Blk.after ?_ bq) | (with_reducible refine RowIn.belowS ?_ bq) | (with_reducible refine Below.after ?_ bq ?_) | (exact (Eq.refl _ : (_ : List Value) = _)) | omega | go_size)); done))
          | (generalize hg0 : wr.heap.size + 1 = gy; generalize hg1 : wr.heap.size = gz; refine key Ax mx cx xx gy gz wz ?_; subst hg1; subst hg0; subst hwz; refine ⟨?_, ?_, ?_, ?_, ?_, ?_, ?_, ?_, ?_, ?_, ?_, ?_, ?_, ?_, ?_, ?_⟩ <;> ((repeat' (first | (refine ⟨lox, wq.heap.size, by omega, by go_size, ?_⟩) | (with_reducible assumption) | (with_reducible exact Below.refl _ _) | (with_reducible refine Blk.drewN ?_ _) | (with_reducible refine RowIn.drewN ?_ _) | (with_reducible refine below_drewN ?_ _) | (with_reducible refine Blk.drew ?_) | (with_reducible refine RowIn.drew ?_) | (with_reducible refine Below.drew ?_) | (with_reducible refine Blk.new' ?_ ?_ <;> first | (with_reducible rfl) | (simp; done)) | (with_reducible refine Blk.alloc ?_ _) | (with_reducible refine RowIn.alloc ?_ _) | (with_reducible refine Below.alloc ?_ ?_ _) | (with_reducible apply Blk.set') | (with_reducible apply Blk.far4) | (with_reducible apply RowIn.far4) | (with_reducible apply Below.far4) | (with_reducible apply Blk.far2) | (with_reducible apply RowIn.far2) | (with_reducible apply Below.far2) | (with_reducible apply Blk.far') | (with_reducible refine RowIn.far' ?_ ?_ _) | (with_reducible refine Below.far' ?_ ?_ _) | (with_reducible refine Blk.after ?_ bq) | (with_reducible refine RowIn.belowS ?_ bq) | (with_reducible refine Below.after ?_ bq ?_) | (exact (Eq.refl _ : (_ : List Value) = _)) | omega | go_size)); done))
      case k =>
        intro Ax mx cx xx gy gz w6 hF
        obtain ⟨zy0, zz0, hcx, HXx, hgy, hgz, hgyz, hrx, za_6, zb_6, zd_6, rt_6, ry_6, ra_6, bb_6, s6⟩ := hF
        clear za_5 zb_5 zd_5 ra_5 rt_5 ry_5 bb_5 ka_5 fa_5 la_5 kb_5 fb_5 lb_5 kd_5 fd_5 ld_5 cL_5
        have ka_6 := za_6.cell; have fa_6 := za_6.frozen; have la_6 := za_6.lt
        have kb_6 := zb_6.cell; have fb_6 := zb_6.frozen; have lb_6 := zb_6.lt
        have kd_6 := zd_6.cell; have fd_6 := zd_6.frozen; have ld_6 := zd_6.lt
        have cL_6 : w6.cell? ⟨bl, ol + j, none⟩ = some (.int .u32 (v : Int)) := (bb_6.cell (p := ⟨bl, ol + j, none⟩) hbL).trans CL.out
        obtain ⟨lox, hix, hlox, hhix, rx0⟩ := hrx
        have hq1 : w2.heap.size < lox := by omega
        have hq2 : w3.heap.size < lox := by omega
        have hq3 : gy ≠ w2.heap.size := by omega
        have hq4 : gy ≠ w3.heap.size := by omega
        have hq5 : gz ≠ w2.heap.size := by omega
        have hq6 : gz ≠ w3.heap.size := by omega
        have hq7 : w2.heap.size ≠ w3.heap.size := by omega
        have zy_6 := zy0; have ky_6 := zy_6.cell; have fy_6 := zy_6.frozen; have ly_6 := zy_6.lt; have zz_6 := zz0; have kz_6 := zz_6.cell; have fz_6 := zz_6.frozen; have lz_6 := zz_6.lt; have rx_6 := rx0
        clear zy0 zz0 rx0
        have Lx : xx.length ≤ y.length + L ∧ y.length + L ≤ xx.length := by rw [HXx.out, List.length_append, HCL.out]; omega
        obtain ⟨Lx1, Lx2⟩ := Lx
        have HY2 : Hid (xx = codeP Cad.Code.start xsl (j + 1)) := Lib.hid (by rw [HXx.out, HY.out, codeP_next, ← HP.out, HV.out])
        have HP2 : Hid ((⟨u0, u1, v0, v1⟩ : Dual) = stP Cad.Code.start xsl (j + 1)) := Lib.hid (by rw [stP_next, ← HP.out, HV.out, HU.out])
        clear HXx HY HP HDW HU
        go_wp2
        first | (go_region_held3 (fun w' => (∀ a, w'.cell? ⟨gy, a, none⟩ = [.slice Ax mx cx, .int .i64 ((xx.length : Nat) : Int)][a]?) ∧ (∀ a, w'.cell? ⟨gz, a, none⟩ = [.int .i64 (u0 : Int), .int .i64 (u1 : Int), .int .u64 (v0 : Int), .int .u64 (v1 : Int)][a]?)) ((refine ⟨Blk.cell (t := 24) ?_, Blk.cell (t := 38) ?_⟩; all_goals repeat' (first | (with_reducible assumption) | (with_reducible exact Below.refl _ _) | (with_reducible refine Blk.drewN ?_ _) | (with_reducible refine RowIn.drewN ?_ _) | (with_reducible refine below_drewN ?_ _) | (with_reducible refine Blk.drew ?_) | (with_reducible refine RowIn.drew ?_) | (with_reducible refine Below.drew ?_) | (with_reducible refine Blk.new' ?_ ?_ <;> first | (with_reducible rfl) | (simp; done)) | (with_reducible refine Blk.alloc ?_ _) | (with_reducible refine RowIn.alloc ?_ _) | (with_reducible refine Below.alloc ?_ ?_ _) | (with_reducible apply Blk.set') | (with_reducible apply Blk.far4) | (with_reducible apply RowIn.far4) | (with_reducible apply Below.far4) | (with_reducible apply Blk.far2) | (with_reducible apply RowIn.far2) | (with_reducible apply Below.far2) | (with_reducible apply Blk.far') | (with_reducible refine RowIn.far' ?_ ?_ _) | (with_reducible refine Below.far' ?_ ?_ _) | (with_reducible refine Blk.after ?_ bq) | (with_reducible refine RowIn.belowS ?_ bq) | (with_reducible refine Below.after ?_ bq ?_) | (exact (Eq.refl _ : (_ : List Value) = _)) | omega | go_size))) (fail)) | go_region
        all_goals try go_wp2
        go_roundg (nl - (j + 1))
        case measure => omega
        case rel =>
          refine ⟨j + 1, Ax, mx, cx, lox, hix, xx, u0, u1, v0, v1, by omega, by omega, by go_num, HY2, by omega, hcx, HP2, ?_, ?_, ?_, ?_, ?_, Or.inl (by omega), Or.inl (by omega), by go_size, ?_, by go_size⟩
          all_goals have na1 : w3.heap.size ≠ w2.heap.size := hq7.symm
          all_goals have na2 : w1.heap.size ≠ w2.heap.size ∧ w1.heap.size ≠ w3.heap.size ∧ w.heap.size ≤ w2.heap.size ∧ w.heap.size ≤ w3.heap.size := by omega
          all_goals obtain ⟨na3, na4, na5, na6⟩ := na2
          · first | (with_reducible exact Blk.drew (Blk.far4 (Blk.far2 za_6 na3) na4)) | (with_reducible exact Blk.far4 (Blk.far2 za_6 na3) na4)
          · first | (with_reducible exact Blk.drew (Blk.far4 (Blk.set2 zb_6) hq7)) | (with_reducible exact Blk.far4 (Blk.set2 zb_6) hq7)
          · first | (with_reducible exact Blk.drew (Blk.set4 (Blk.far2 zd_6 na1))) | (with_reducible exact Blk.set4 (Blk.far2 zd_6 na1))
          all_goals repeat' (first | (with_reducible assumption) | (with_reducible exact Below.refl _ _) | (with_reducible refine Blk.drewN ?_ _) | (with_reducible refine RowIn.drewN ?_ _) | (with_reducible refine below_drewN ?_ _) | (with_reducible refine Blk.drew ?_) | (with_reducible refine RowIn.drew ?_) | (with_reducible refine Below.drew ?_) | (with_reducible refine Blk.new' ?_ ?_ <;> first | (with_reducible rfl) | (simp; done)) | (with_reducible refine Blk.alloc ?_ _) | (with_reducible refine RowIn.alloc ?_ _) | (with_reducible refine Below.alloc ?_ ?_ _) | (with_reducible apply Blk.set') | (with_reducible apply Blk.far4) | (with_reducible apply RowIn.far4) | (with_reducible apply Below.far4) | (with_reducible apply Blk.far2) | (with_reducible apply RowIn.far2) | (with_reducible apply Below.far2) | (with_reducible apply Blk.far') | (with_reducible refine RowIn.far' ?_ ?_ _) | (with_reducible refine Below.far' ?_ ?_ _) | (with_reducible refine Blk.after ?_ bq) | (with_reducible refine RowIn.belowS ?_ bq) | (with_reducible refine Below.after ?_ bq ?_) | (exact (Eq.refl _ : (_ : List Value) = _)) | omega | go_size)
    · obtain rfl : j = nl := by omega
      have rl_5 : RowIn .u32 wr 0 w.heap.size Al j xsl := (HAL.out.rowIn).below bb_5 (Nat.le_refl _)
      go_wp2_with fail
      refine (cafter_ok Al j cl xsl _ (by exact RowIn.row (lo := 0) (hi := w.heap.size) (by repeat' (first | (with_reducible assumption) | (with_reducible exact Below.refl _ _) | (with_reducible refine Blk.drewN ?_ _) | (with_reducible refine RowIn.drewN ?_ _) | (with_reducible refine below_drewN ?_ _) | (with_reducible refine Blk.drew ?_) | (with_reducible refine RowIn.drew ?_) | (with_reducible refine Below.drew ?_) | (with_reducible refine Blk.new' ?_ ?_ <;> first | (with_reducible rfl) | (simp; done)) | (with_reducible refine Blk.alloc ?_ _) | (with_reducible refine RowIn.alloc ?_ _) | (with_reducible refine Below.alloc ?_ ?_ _) | (with_reducible apply Blk.set') | (with_reducible apply Blk.far') | (with_reducible refine RowIn.far' ?_ ?_ _) | (with_reducible refine Below.far' ?_ ?_ _) | (exact (Eq.refl _ : (_ : List Value) = _)) | omega | go_size))) hxl (by omega)).mono ?_
      rintro e w6 ⟨s0, s1, t0, t1, rfl, HSz, b6⟩
      have s6 := b6.size
      try simp only [World.size_alloc, World.size_setCell, World.size_drew, size_drewN] at s6
      obtain ⟨za_6, zb_6, zd_6, rt_6, ry_6, ra_6, rl_6, bb_6⟩ : Blk w6 (w1.heap.size) 24 [.slice Aa ma ca, .int .i64 ((xa.length : Nat) : Int)] ∧ Blk w6 (w2.heap.size) 24 [.slice B m c, .int .i64 ((y.length : Nat) : Int)] ∧ Blk w6 (w3.heap.size) 38 [.int .i64 (p0 : Int), .int .i64 (p1 : Int), .int .u64 (q0 : Int), .int .u64 (q1 : Int)] ∧ RowIn .u8 w6 (0) (w.heap.size) (some ⟨0, 0, none⟩) 64 dbTab ∧ RowIn .u8 w6 (lo) (hi) B m (pack y) ∧ RowIn .u8 w6 (w.heap.size + 0) (w1.heap.size) Aa ma (pack xa) ∧ RowIn .u32 w6 (0) (w.heap.size) Al j xsl ∧ Below w.heap.size w w6 := by
        refine ⟨?_, ?_, ?_, ?_, ?_, ?_, ?_, ?_⟩
        all_goals repeat' (first | (with_reducible assumption) | (with_reducible exact Below.refl _ _) | (with_reducible refine Blk.drewN ?_ _) | (with_reducible refine RowIn.drewN ?_ _) | (with_reducible refine below_drewN ?_ _) | (with_reducible refine Blk.drew ?_) | (with_reducible refine RowIn.drew ?_) | (with_reducible refine Below.drew ?_) | (with_reducible refine Blk.new' ?_ ?_ <;> first | (with_reducible rfl) | (simp; done)) | (with_reducible refine Blk.alloc ?_ _) | (with_reducible refine RowIn.alloc ?_ _) | (with_reducible refine Below.alloc ?_ ?_ _) | (with_reducible apply Blk.set') | (with_reducible apply Blk.far') | (with_reducible refine RowIn.far' ?_ ?_ _) | (with_reducible refine Below.far' ?_ ?_ _) | (with_reducible refine Blk.after ?_ b6) | (with_reducible refine RowIn.belowS ?_ b6) | (with_reducible refine Below.after ?_ b6 ?_) | (exact (Eq.refl _ : (_ : List Value) = _)) | omega | go_size)
      clear za_5 zb_5 zd_5 ra_5 rt_5 ry_5 bb_5 ka_5 fa_5 la_5 kb_5 fb_5 lb_5 kd_5 fd_5 ld_5 rl_5 b6
      have ka_6 := za_6.cell; have fa_6 := za_6.frozen; have la_6 := za_6.lt
      have kb_6 := zb_6.cell; have fb_6 := zb_6.frozen; have lb_6 := zb_6.lt
      have kd_6 := zd_6.cell; have fd_6 := zd_6.frozen; have ld_6 := zd_6.lt
      have he := HSz.out.trans HP.out.symm
      injection he with he0 he1 he2 he3
      obtain rfl : s0 = p0 := he0
      obtain rfl : s1 = p1 := he1
      obtain rfl : t0 = q0 := he2
      obtain rfl : t1 = q1 := he3
      clear HSz HP
      have HE : Hid (xa = y) := Lib.hid (by rw [HXa.out, HY.out])
      go_wp2_with fail
      refine (rsame_bits Aa B ma m ca c xa y _ (by exact RowIn.row (lo := w.heap.size + 0) (hi := w1.heap.size) (by repeat' (first | (with_reducible assumption) | (with_reducible exact Below.refl _ _) | (with_reducible refine Blk.drewN ?_ _) | (with_reducible refine RowIn.drewN ?_ _) | (with_reducible refine below_drewN ?_ _) | (with_reducible refine Blk.drew ?_) | (with_reducible refine RowIn.drew ?_) | (with_reducible refine Below.drew ?_) | (with_reducible refine Blk.new' ?_ ?_ <;> first | (with_reducible rfl) | (simp; done)) | (with_reducible refine Blk.alloc ?_ _) | (with_reducible refine RowIn.alloc ?_ _) | (with_reducible refine Below.alloc ?_ ?_ _) | (with_reducible apply Blk.set') | (with_reducible apply Blk.far') | (with_reducible refine RowIn.far' ?_ ?_ _) | (with_reducible refine Below.far' ?_ ?_ _) | (exact (Eq.refl _ : (_ : List Value) = _)) | omega | go_size))) (by exact RowIn.row (lo := lo) (hi := hi) (by repeat' (first | (with_reducible assumption) | (with_reducible exact Below.refl _ _) | (with_reducible refine Blk.drewN ?_ _) | (with_reducible refine RowIn.drewN ?_ _) | (with_reducible refine below_drewN ?_ _) | (with_reducible refine Blk.drew ?_) | (with_reducible refine RowIn.drew ?_) | (with_reducible refine Below.drew ?_) | (with_reducible refine Blk.new' ?_ ?_ <;> first | (with_reducible rfl) | (simp; done)) | (with_reducible refine Blk.alloc ?_ _) | (with_reducible refine RowIn.alloc ?_ _) | (with_reducible refine Below.alloc ?_ ?_ _) | (with_reducible apply Blk.set') | (with_reducible apply Blk.far') | (with_reducible refine RowIn.far' ?_ ?_ _) | (with_reducible refine Below.far' ?_ ?_ _) | (exact (Eq.refl _ : (_ : List Value) = _)) | omega | go_size))) HE.out).mono ?_
      rintro e w7 ⟨rfl, b7⟩
      have s7 := b7.size
      try simp only [World.size_alloc, World.size_setCell, World.size_drew, size_drewN] at s7
      obtain ⟨za_7, zb_7, zd_7, zz_7, rt_7, ry_7, ra_7, rl_7, bb_7⟩ : Blk w7 (w1.heap.size) 24 [.slice Aa ma ca, .int .i64 ((xa.length : Nat) : Int)] ∧ Blk w7 (w2.heap.size) 24 [.slice B m c, .int .i64 ((y.length : Nat) : Int)] ∧ Blk w7 (w3.heap.size) 38 [.int .i64 (s0 : Int), .int .i64 (s1 : Int), .int .u64 (t0 : Int), .int .u64 (t1 : Int)] ∧ Blk w7 (w6.heap.size) 38 [.int .i64 (s0 : Int), .int .i64 (s1 : Int), .int .u64 (t0 : Int), .int .u64 (t1 : Int)] ∧ RowIn .u8 w7 (0) (w.heap.size) (some ⟨0, 0, none⟩) 64 dbTab ∧ RowIn .u8 w7 (lo) (hi) B m (pack y) ∧ RowIn .u8 w7 (w.heap.size + 0) (w1.heap.size) Aa ma (pack xa) ∧ RowIn .u32 w7 (0) (w.heap.size) Al j xsl ∧ Below w.heap.size w w7 := by
        refine ⟨?_, ?_, ?_, ?_, ?_, ?_, ?_, ?_, ?_⟩
        all_goals repeat' (first | (with_reducible assumption) | (with_reducible exact Below.refl _ _) | (with_reducible refine Blk.drewN ?_ _) | (with_reducible refine RowIn.drewN ?_ _) | (with_reducible refine below_drewN ?_ _) | (with_reducible refine Blk.drew ?_) | (with_reducible refine RowIn.drew ?_) | (with_reducible refine Below.drew ?_) | (with_reducible refine Blk.new' ?_ ?_ <;> first | (with_reducible rfl) | (simp; done)) | (with_reducible refine Blk.alloc ?_ _) | (with_reducible refine RowIn.alloc ?_ _) | (with_reducible refine Below.alloc ?_ ?_ _) | (with_reducible apply Blk.set') | (with_reducible apply Blk.far') | (with_reducible refine RowIn.far' ?_ ?_ _) | (with_reducible refine Below.far' ?_ ?_ _) | (with_reducible refine Blk.after ?_ b7) | (with_reducible refine RowIn.belowS ?_ b7) | (with_reducible refine Below.after ?_ b7 ?_) | (exact (Eq.refl _ : (_ : List Value) = _)) | omega | go_size)
      clear za_6 zb_6 zd_6 rt_6 ry_6 ra_6 rl_6 bb_6 ka_6 fa_6 la_6 kb_6 fb_6 lb_6 kd_6 fd_6 ld_6 b7
      have ka_7 := za_7.cell; have fa_7 := za_7.frozen; have la_7 := za_7.lt
      have kb_7 := zb_7.cell; have fb_7 := zb_7.frozen; have lb_7 := zb_7.lt
      have kd_7 := zd_7.cell; have fd_7 := zd_7.frozen; have ld_7 := zd_7.lt
      have kz_7 := zz_7.cell; have fz_7 := zz_7.frozen; have lz_7 := zz_7.lt
      go_wp2_with fail
      go_wp2_with fail
      refine (alive09 _ (by exact RowIn.row (lo := 0) (hi := w.heap.size) (by repeat' (first | (with_reducible assumption) | (with_reducible exact Below.refl _ _) | (with_reducible refine Blk.drewN ?_ _) | (with_reducible refine RowIn.drewN ?_ _) | (with_reducible refine below_drewN ?_ _) | (with_reducible refine Blk.drew ?_) | (with_reducible refine RowIn.drew ?_) | (with_reducible refine Below.drew ?_) | (with_reducible refine Blk.new' ?_ ?_ <;> first | (with_reducible rfl) | (simp; done)) | (with_reducible refine Blk.alloc ?_ _) | (with_reducible refine RowIn.alloc ?_ _) | (with_reducible refine Below.alloc ?_ ?_ _) | (with_reducible apply Blk.set') | (with_reducible apply Blk.far') | (with_reducible refine RowIn.far' ?_ ?_ _) | (with_reducible refine Below.far' ?_ ?_ _) | (exact (Eq.refl _ : (_ : List Value) = _)) | omega | go_size)))).mono ?_
      rintro e w8 ⟨rfl, b8⟩
      have s8 := b8.size
      try simp only [World.size_alloc, World.size_setCell, World.size_drew, size_drewN] at s8
      have bb_8 : Below w.heap.size w w8 := by
        repeat' (first | (with_reducible assumption) | (with_reducible exact Below.refl _ _) | (with_reducible refine Blk.drewN ?_ _) | (with_reducible refine RowIn.drewN ?_ _) | (with_reducible refine below_drewN ?_ _) | (with_reducible refine Blk.drew ?_) | (with_reducible refine RowIn.drew ?_) | (with_reducible refine Below.drew ?_) | (with_reducible refine Blk.new' ?_ ?_ <;> first | (with_reducible rfl) | (simp; done)) | (with_reducible refine Blk.alloc ?_ _) | (with_reducible refine RowIn.alloc ?_ _) | (with_reducible refine Below.alloc ?_ ?_ _) | (with_reducible apply Blk.set') | (with_reducible apply Blk.far') | (with_reducible refine RowIn.far' ?_ ?_ _) | (with_reducible refine Below.far' ?_ ?_ _) | (with_reducible refine Blk.after ?_ b8) | (with_reducible refine RowIn.belowS ?_ b8) | (with_reducible refine Below.after ?_ b8 ?_) | (exact (Eq.refl _ : (_ : List Value) = _)) | omega | go_size)
      clear za_7 zb_7 zd_7 zz_7 rt_7 ry_7 ra_7 rl_7 bb_7 ka_7 fa_7 la_7 kb_7 fb_7 lb_7 kd_7 fd_7 ld_7 kz_7 fz_7 lz_7 b8
      go_wp2
      go_ret
      refine ⟨rfl, ?_⟩
      repeat' (first | (with_reducible assumption) | (with_reducible exact Below.refl _ _) | (with_reducible refine Blk.drewN ?_ _) | (with_reducible refine RowIn.drewN ?_ _) | (with_reducible refine below_drewN ?_ _) | (with_reducible refine Blk.drew ?_) | (with_reducible refine RowIn.drew ?_) | (with_reducible refine Below.drew ?_) | (with_reducible refine Blk.new' ?_ ?_ <;> first | (with_reducible rfl) | (simp; done)) | (with_reducible refine Blk.alloc ?_ _) | (with_reducible refine RowIn.alloc ?_ _) | (with_reducible refine Below.alloc ?_ ?_ _) | (with_reducible apply Blk.set') | (with_reducible apply Blk.far') | (with_reducible refine RowIn.far' ?_ ?_ _) | (with_reducible refine Below.far' ?_ ?_ _) | (exact (Eq.refl _ : (_ : List Value) = _)) | omega | go_size)


end Go.Proofs.YtppilidcjlnmoaaDoor
