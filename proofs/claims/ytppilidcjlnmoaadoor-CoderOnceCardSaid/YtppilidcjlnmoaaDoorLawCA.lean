/-
  The examples of chapter 9.
-/
import Derived.Test.YtppilidcjlnmoaaDoorCodE
import Derived.Test.YtppilidcjlnmoaaDoorCodD
import Derived.Test.YtppilidcjlnmoaaDoorRefCA
namespace Go.Proofs.YtppilidcjlnmoaaDoor
open Go.RowKit Cad Cad.Bit Cad.Code
set_option linter.unusedVariables false
set_option linter.unusedSimpArgs false


theorem cenc_c (A : Option Addr) (n c : Nat) (xs : List Int) (l : List Bool) (w : World) (ha : Row .u32 w A n xs) (hx : Within 0 4294967295 xs) (hn : n ≤ 4000) (he : codeP Cad.Code.start xs n = l) :
    Calls Tryd.prog 43 #[.slice A n c] w (RetB w l 0) := by
  rw [← he]; exact cenc_ok A n c xs w ha hx hn
theorem cdec_c (A : Option Addr) (m c : Nat) (bs : List Bool) (n : Int) (l : List Nat) (y er : Int) (w : World) (ha : Row .u8 w A m (pack bs)) (hc : m ≤ c ∧ c ≤ 9223372036854775807) (hl : bs.length ≤ 330000) (hn : -9223372036854775808 ≤ n ∧ n ≤ 9223372036854775807) (ht : Tab w) (he : decR bs n = (l, y, er)) :
    Calls Tryd.prog 19 #[.agg #[.slice A m c, .int .i64 ((bs.length : Nat) : Int)], .int .i64 n] w (RetL w l y er) := by
  have h := cdec_ret A m c bs n w ha hc hl hn ht
  rw [he] at h; exact h
/-- The bits of the examples. -/
def exBits : List Bool := codeP Cad.Code.start [5, 2000] 2
theorem ex_len : exBits.length = 24 := by decide +kernel
theorem ex_dec : decR exBits 2 = ([5, 2000], 24, 0) := by decide +kernel
theorem within_ex : Within 0 4294967295 [5, 2000] := by intro x hx; simp at hx; omega
set_option maxRecDepth 100000 in
set_option maxHeartbeats 1000000 in
theorem alive09 (w : World) (ht : Tab w) :
    Calls Tryd.prog 42 #[] w fun e w' => e = .returned (.bool true) ∧ Below w.heap.size w w' := by
  have hti : RowIn .u8 w 0 w.heap.size (some ⟨0, 0, none⟩) 64 dbTab := ht.rowIn
  go_enter Tryd.func42, Tryd.ntmps42
  go_wp2_with fail
  have rl : RowIn .u32 (w.alloc (.cells #[.int .u32 5, .int .u32 2000] 55)) 0 (w.heap.size + 1) (some ⟨w.heap.size, 0, none⟩) 2 [5, 2000] := by have h := (row_new .u32 w [5, 2000] 55).rowIn; simpa using h
  refine (cenc_c _ 2 2 [5, 2000] exBits _ (by exact rl.row) within_ex (by omega) rfl).mono ?_
  rintro e w1 ⟨Ab, mb, cb, xb, rfl, hcb, rb, HXb, b1⟩
  have Lb : xb.length ≤ 24 ∧ 24 ≤ xb.length := by rw [HXb.out]; rw [ex_len]; omega
  obtain ⟨Lb1, Lb2⟩ := Lb
  replace rb := rb.mono (lo' := w.heap.size + 0) (by go_size) (Nat.le_refl _)
  have s1 := b1.size
  try simp only [World.size_alloc, World.size_setCell, World.size_drew, size_drewN] at s1
  obtain ⟨rt_1, rb_1, bb_1⟩ : RowIn .u8 w1 (0) (w.heap.size) (some ⟨0, 0, none⟩) 64 dbTab ∧ RowIn .u8 w1 (w.heap.size + 0) (w1.heap.size) Ab mb (pack xb) ∧ Below w.heap.size w w1 := by
    refine ⟨?_, ?_, ?_⟩
    all_goals repeat' (first | (with_reducible assumption) | (with_reducible exact Below.refl _ _) | (with_reducible refine Blk.drewN ?_ _) | (with_reducible refine RowIn.drewN ?_ _) | (with_reducible refine below_drewN ?_ _) | (with_reducible refine Blk.drew ?_) | (with_reducible refine RowIn.drew ?_) | (with_reducible refine Below.drew ?_) | (with_reducible refine Blk.new' ?_ ?_ <;> first | (with_reducible rfl) | (simp; done)) | (with_reducible refine Blk.alloc ?_ _) | (with_reducible refine RowIn.alloc ?_ _) | (with_reducible refine Below.alloc ?_ ?_ _) | (with_reducible apply Blk.set') | (with_reducible apply Blk.far') | (with_reducible refine RowIn.far' ?_ ?_ _) | (with_reducible refine Below.far' ?_ ?_ _) | (with_reducible refine Blk.after ?_ b1) | (with_reducible refine RowIn.belowS ?_ b1) | (with_reducible refine Below.after ?_ b1 ?_) | rfl | omega | go_size)
  clear b1
  clear rb
  have tl : (((xb.length : Nat) : Int) == 24) = true := beq_iff_eq.2 (by omega)
  go_wp2_with fail
  refine (cdec_c Ab mb cb xb 2 [5, 2000] 24 0 _ (by exact RowIn.row (lo := w.heap.size + 0) (hi := w1.heap.size) (by repeat' (first | (with_reducible assumption) | (with_reducible exact Below.refl _ _) | (with_reducible refine Blk.drewN ?_ _) | (with_reducible refine RowIn.drewN ?_ _) | (with_reducible refine below_drewN ?_ _) | (with_reducible refine Blk.drew ?_) | (with_reducible refine RowIn.drew ?_) | (with_reducible refine Below.drew ?_) | (with_reducible refine Blk.new' ?_ ?_ <;> first | (with_reducible rfl) | (simp; done)) | (with_reducible refine Blk.alloc ?_ _) | (with_reducible refine RowIn.alloc ?_ _) | (with_reducible refine Below.alloc ?_ ?_ _) | (with_reducible apply Blk.set') | (with_reducible apply Blk.far') | (with_reducible refine RowIn.far' ?_ ?_ _) | (with_reducible refine Below.far' ?_ ?_ _) | rfl | omega | go_size))) hcb (by omega) (by omega) (by exact RowIn.row (lo := 0) (hi := w.heap.size) (by repeat' (first | (with_reducible assumption) | (with_reducible exact Below.refl _ _) | (with_reducible refine Blk.drewN ?_ _) | (with_reducible refine RowIn.drewN ?_ _) | (with_reducible refine below_drewN ?_ _) | (with_reducible refine Blk.drew ?_) | (with_reducible refine RowIn.drew ?_) | (with_reducible refine Below.drew ?_) | (with_reducible refine Blk.new' ?_ ?_ <;> first | (with_reducible rfl) | (simp; done)) | (with_reducible refine Blk.alloc ?_ _) | (with_reducible refine RowIn.alloc ?_ _) | (with_reducible refine Below.alloc ?_ ?_ _) | (with_reducible apply Blk.set') | (with_reducible apply Blk.far') | (with_reducible refine RowIn.far' ?_ ?_ _) | (with_reducible refine Below.far' ?_ ?_ _) | rfl | omega | go_size))) (by rw [HXb.out]; exact ex_dec)).mono ?_
  rintro e w9 ⟨B, k, d, ys, rfl, hcB, rB, HYS, b9⟩
  replace rB := rB.mono (lo' := w1.heap.size) (by go_size) (Nat.le_refl _)
  have s9 := b9.size
  try simp only [World.size_alloc, World.size_setCell, World.size_drew, size_drewN] at s9
  obtain ⟨zb_9, rt_9, rb_9, rm_9, bb_9⟩ : Blk w9 (w1.heap.size) 24 [.slice Ab mb cb, .int .i64 ((xb.length : Nat) : Int)] ∧ RowIn .u8 w9 (0) (w.heap.size) (some ⟨0, 0, none⟩) 64 dbTab ∧ RowIn .u8 w9 (w.heap.size + 0) (w1.heap.size) Ab mb (pack xb) ∧ RowIn .u32 w9 (w1.heap.size) (w9.heap.size) B k ys ∧ Below w.heap.size w w9 := by
    refine ⟨?_, ?_, ?_, ?_, ?_⟩
    all_goals repeat' (first | (with_reducible assumption) | (with_reducible exact Below.refl _ _) | (with_reducible refine Blk.drewN ?_ _) | (with_reducible refine RowIn.drewN ?_ _) | (with_reducible refine below_drewN ?_ _) | (with_reducible refine Blk.drew ?_) | (with_reducible refine RowIn.drew ?_) | (with_reducible refine Below.drew ?_) | (with_reducible refine Blk.new' ?_ ?_ <;> first | (with_reducible rfl) | (simp; done)) | (with_reducible refine Blk.alloc ?_ _) | (with_reducible refine RowIn.alloc ?_ _) | (with_reducible refine Below.alloc ?_ ?_ _) | (with_reducible apply Blk.set') | (with_reducible apply Blk.far') | (with_reducible refine RowIn.far' ?_ ?_ _) | (with_reducible refine Below.far' ?_ ?_ _) | (with_reducible refine Blk.after ?_ b9) | (with_reducible refine RowIn.belowS ?_ b9) | (with_reducible refine Below.after ?_ b9 ?_) | rfl | omega | go_size)
  clear rt_1 rb_1 bb_1 b9
  have kb_9 := zb_9.cell; have fb_9 := zb_9.frozen; have lb_9 := zb_9.lt
  go_wp2_with fail
  have r2 : Row .u32 (w9.alloc (.cells #[.int .u32 5, .int .u32 2000] 55)) (some ⟨w9.heap.size, 0, none⟩) 2 [5, 2000] := row_new .u32 w9 [5, 2000] 55
  refine (r9same_eq B _ k d 2 2 ys [5, 2000] _ (by exact RowIn.row (lo := w1.heap.size) (hi := w9.heap.size) (by repeat' (first | (with_reducible assumption) | (with_reducible exact Below.refl _ _) | (with_reducible refine Blk.drewN ?_ _) | (with_reducible refine RowIn.drewN ?_ _) | (with_reducible refine below_drewN ?_ _) | (with_reducible refine Blk.drew ?_) | (with_reducible refine RowIn.drew ?_) | (with_reducible refine Below.drew ?_) | (with_reducible refine Blk.new' ?_ ?_ <;> first | (with_reducible rfl) | (simp; done)) | (with_reducible refine Blk.alloc ?_ _) | (with_reducible refine RowIn.alloc ?_ _) | (with_reducible refine Below.alloc ?_ ?_ _) | (with_reducible apply Blk.set') | (with_reducible apply Blk.far') | (with_reducible refine RowIn.far' ?_ ?_ _) | (with_reducible refine Below.far' ?_ ?_ _) | rfl | omega | go_size))) r2 (by have h := HYS.out; have h2 := rm_9.len; rw [h] at h2; have h3 : (ints [5, 2000]).length = 2 := rfl; omega) (by rw [HYS.out]; rfl)).mono ?_
  rintro e w10 ⟨rfl, b10⟩
  have s10 := b10.size
  try simp only [World.size_alloc, World.size_setCell, World.size_drew, size_drewN] at s10
  obtain ⟨zb_10, rt_10, rb_10, rm_10, bb_10⟩ : Blk w10 (w1.heap.size) 24 [.slice Ab mb cb, .int .i64 ((xb.length : Nat) : Int)] ∧ RowIn .u8 w10 (0) (w.heap.size) (some ⟨0, 0, none⟩) 64 dbTab ∧ RowIn .u8 w10 (w.heap.size + 0) (w1.heap.size) Ab mb (pack xb) ∧ RowIn .u32 w10 (w1.heap.size) (w9.heap.size) B k ys ∧ Below w.heap.size w w10 := by
    refine ⟨?_, ?_, ?_, ?_, ?_⟩
    all_goals repeat' (first | (with_reducible assumption) | (with_reducible exact Below.refl _ _) | (with_reducible refine Blk.drewN ?_ _) | (with_reducible refine RowIn.drewN ?_ _) | (with_reducible refine below_drewN ?_ _) | (with_reducible refine Blk.drew ?_) | (with_reducible refine RowIn.drew ?_) | (with_reducible refine Below.drew ?_) | (with_reducible refine Blk.new' ?_ ?_ <;> first | (with_reducible rfl) | (simp; done)) | (with_reducible refine Blk.alloc ?_ _) | (with_reducible refine RowIn.alloc ?_ _) | (with_reducible refine Below.alloc ?_ ?_ _) | (with_reducible apply Blk.set') | (with_reducible apply Blk.far') | (with_reducible refine RowIn.far' ?_ ?_ _) | (with_reducible refine Below.far' ?_ ?_ _) | (with_reducible refine Blk.after ?_ b10) | (with_reducible refine RowIn.belowS ?_ b10) | (with_reducible refine Below.after ?_ b10 ?_) | rfl | omega | go_size)
  clear zb_9 rt_9 rb_9 rm_9 bb_9 kb_9 fb_9 lb_9 b10
  have kb_10 := zb_10.cell; have fb_10 := zb_10.frozen; have lb_10 := zb_10.lt
  go_wp2
  go_ret
  refine ⟨rfl, ?_⟩
  repeat' (first | (with_reducible assumption) | (with_reducible exact Below.refl _ _) | (with_reducible refine Blk.drewN ?_ _) | (with_reducible refine RowIn.drewN ?_ _) | (with_reducible refine below_drewN ?_ _) | (with_reducible refine Blk.drew ?_) | (with_reducible refine RowIn.drew ?_) | (with_reducible refine Below.drew ?_) | (with_reducible refine Blk.new' ?_ ?_ <;> first | (with_reducible rfl) | (simp; done)) | (with_reducible refine Blk.alloc ?_ _) | (with_reducible refine RowIn.alloc ?_ _) | (with_reducible refine Below.alloc ?_ ?_ _) | (with_reducible apply Blk.set') | (with_reducible apply Blk.far') | (with_reducible refine RowIn.far' ?_ ?_ _) | (with_reducible refine Below.far' ?_ ?_ _) | rfl | omega | go_size)


end Go.Proofs.YtppilidcjlnmoaaDoor
