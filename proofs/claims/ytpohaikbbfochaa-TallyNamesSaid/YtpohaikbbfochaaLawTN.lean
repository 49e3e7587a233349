/-
  The walk of TallyNames.
-/
import Derived.Test.YtpohaikbbfochaaLawTA
namespace Go.Proofs.Ytpohaikbbfochaa
open Go.RowKit Cad Cad.Bit Cad.Code
set_option linter.unusedVariables false
set_option linter.unusedSimpArgs false


theorem within_z12 : Within 0 4294967295 [0] := by intro x hx; simp at hx; omega
theorem tmost_c (n y : Int) (w : World) (h : ¬ (n < 0 ∨ 4000 < n)) (he : 81 * n = y) :
    Calls Try.prog 18 #[.int .i64 n] w fun e w' => e = .returned (.tuple #[.int .i64 y, .int .i64 0]) ∧ w' = w := by rw [← he]; exact tmost_ok n w h
theorem within_g12 : Within 0 4294967295 [4294967295, 4294967295] := by intro x hx; simp at hx; omega
theorem ex12_none : fitsAt Cad.Code.start [0] 4 0 1 = 0 := by decide +kernel
theorem ex12_great : lens Cad.Code.start [4294967295, 4294967295] 2 = [81, 81] := by decide +kernel


set_option maxRecDepth 100000 in
set_option maxHeartbeats 8000000 in
theorem lawTallyNames (w : World)  :
    Calls Try.prog 6 #[] w fun e w' => e = .returned (.bool true) ∧ Below w.heap.size w w' := by
  have hmk : ∀ W, (Instr.makeSlice 22 (.int .i64 4001) (.int .i64 4001)).run Try.prog W = .ok (.slice (some ⟨W.heap.size, 0, none⟩) 4001 4001) (W.alloc (.cells (zeroRow .u32 4001) 43)) := fun W => run_mk u32T 4001 (by omega) .i64 .i64 W
  go_enter Try.func6, Try.ntmps6
  go_wp2_with fail
  refine (teach_many _ 4001 4001 _ (by omega)).mono ?_
  rintro e w1 ⟨Aa, ma, ca, ya, rfl, hca, ra, HYa, b1⟩
  have lna := ra.len
  replace ra := ra.mono (lo' := w.heap.size + 0) (by go_size) (Nat.le_refl _)
  have s1 := b1.size
  try simp only [World.size_alloc, World.size_setCell, World.size_drew, size_drewN] at s1
  obtain ⟨ra_1, bb_1⟩ : RowIn .i64 w1 (w.heap.size + 0) (w1.heap.size) Aa ma ya ∧ Below w.heap.size w w1 := by
    refine ⟨?_, ?_⟩
    all_goals repeat' (first | (with_reducible first | assumption | exact Below.refl _ _ | refine Blk.drewN ?_ _ | refine RowIn.drewN ?_ _ | refine below_drewN ?_ _ | refine Blk.drew ?_ | refine RowIn.drew ?_ | refine Below.drew ?_) | (with_reducible refine Blk.new' ?_ ?_ <;> first | (with_reducible rfl) | (simp; done)) | (with_reducible first | refine Blk.alloc ?_ _ | refine RowIn.alloc ?_ _ | refine Below.alloc ?_ ?_ _ | apply Blk.set' | apply Blk.far' | refine RowIn.far' ?_ ?_ _ | refine Below.far' ?_ ?_ _ | refine Blk.after ?_ b1 | refine RowIn.belowS ?_ b1 | refine Below.after ?_ b1 ?_) | (exact (Eq.refl _ : (_ : List Value) = _)) | omega | go_size)
  clear b1
  clear ra
  clear hmk HYa
  go_wp2_with fail
  refine (tlen_many _ 4001 4001 _ (by omega)).mono ?_
  rintro e w2 ⟨rfl, b2⟩
  have s2 := b2.size
  try simp only [World.size_alloc, World.size_setCell, World.size_drew, size_drewN] at s2
  have bb_2 : Below w.heap.size w w2 := by
    repeat' (first | (with_reducible first | assumption | exact Below.refl _ _ | refine Blk.drewN ?_ _ | refine RowIn.drewN ?_ _ | refine below_drewN ?_ _ | refine Blk.drew ?_ | refine RowIn.drew ?_ | refine Below.drew ?_) | (with_reducible refine Blk.new' ?_ ?_ <;> first | (with_reducible rfl) | (simp; done)) | (with_reducible first | refine Blk.alloc ?_ _ | refine RowIn.alloc ?_ _ | refine Below.alloc ?_ ?_ _ | apply Blk.set' | apply Blk.far' | refine RowIn.far' ?_ ?_ _ | refine Below.far' ?_ ?_ _ | refine Blk.after ?_ b2 | refine RowIn.belowS ?_ b2 | refine Below.after ?_ b2 ?_) | (exact (Eq.refl _ : (_ : List Value) = _)) | omega | go_size)
  clear ra_1 bb_1 b2
  go_wp2_with fail
  refine (tbytes_many _ 4001 4001 _ (by omega)).mono ?_
  rintro e w3 ⟨rfl, b3⟩
  have s3 := b3.size
  try simp only [World.size_alloc, World.size_setCell, World.size_drew, size_drewN] at s3
  have bb_3 : Below w.heap.size w w3 := by
    repeat' (first | (with_reducible first | assumption | exact Below.refl _ _ | refine Blk.drewN ?_ _ | refine RowIn.drewN ?_ _ | refine below_drewN ?_ _ | refine Blk.drew ?_ | refine RowIn.drew ?_ | refine Below.drew ?_) | (with_reducible refine Blk.new' ?_ ?_ <;> first | (with_reducible rfl) | (simp; done)) | (with_reducible first | refine Blk.alloc ?_ _ | refine RowIn.alloc ?_ _ | refine Below.alloc ?_ ?_ _ | apply Blk.set' | apply Blk.far' | refine RowIn.far' ?_ ?_ _ | refine Below.far' ?_ ?_ _ | refine Blk.after ?_ b3 | refine RowIn.belowS ?_ b3 | refine Below.after ?_ b3 ?_) | (exact (Eq.refl _ : (_ : List Value) = _)) | omega | go_size)
  clear bb_2 b3
  go_wp2_with fail
  refine (tfits_many _ 4001 4001 3 _ (by omega)).mono ?_
  rintro e w4 ⟨rfl, b4⟩
  have s4 := b4.size
  try simp only [World.size_alloc, World.size_setCell, World.size_drew, size_drewN] at s4
  have bb_4 : Below w.heap.size w w4 := by
    repeat' (first | (with_reducible first | assumption | exact Below.refl _ _ | refine Blk.drewN ?_ _ | refine RowIn.drewN ?_ _ | refine below_drewN ?_ _ | refine Blk.drew ?_ | refine RowIn.drew ?_ | refine Below.drew ?_) | (with_reducible refine Blk.new' ?_ ?_ <;> first | (with_reducible rfl) | (simp; done)) | (with_reducible first | refine Blk.alloc ?_ _ | refine RowIn.alloc ?_ _ | refine Below.alloc ?_ ?_ _ | apply Blk.set' | apply Blk.far' | refine RowIn.far' ?_ ?_ _ | refine Below.far' ?_ ?_ _ | refine Blk.after ?_ b4 | refine RowIn.belowS ?_ b4 | refine Below.after ?_ b4 ?_) | (exact (Eq.refl _ : (_ : List Value) = _)) | omega | go_size)
  clear bb_3 b4
  go_wp2_with fail
  refine (tfits_few none 0 0 3 _ (by omega) (by omega)).mono ?_
  rintro e w5 ⟨rfl, b5⟩
  have s5 := b5.size
  try simp only [World.size_alloc, World.size_setCell, World.size_drew, size_drewN] at s5
  have bb_5 : Below w.heap.size w w5 := by
    repeat' (first | (with_reducible first | assumption | exact Below.refl _ _ | refine Blk.drewN ?_ _ | refine RowIn.drewN ?_ _ | refine below_drewN ?_ _ | refine Blk.drew ?_ | refine RowIn.drew ?_ | refine Below.drew ?_) | (with_reducible refine Blk.new' ?_ ?_ <;> first | (with_reducible rfl) | (simp; done)) | (with_reducible first | refine Blk.alloc ?_ _ | refine RowIn.alloc ?_ _ | refine Below.alloc ?_ ?_ _ | apply Blk.set' | apply Blk.far' | refine RowIn.far' ?_ ?_ _ | refine Below.far' ?_ ?_ _ | refine Blk.after ?_ b5 | refine RowIn.belowS ?_ b5 | refine Below.after ?_ b5 ?_) | (exact (Eq.refl _ : (_ : List Value) = _)) | omega | go_size)
  clear bb_4 b5
  go_wp2_with fail
  have r1 : Row .u32 (w5.alloc (.cells #[.int .u32 0] 43)) (some ⟨w5.heap.size, 0, none⟩) 1 [0] := row_new .u32 w5 [0] 43
  refine (tfits_c _ 1 1 [0] 4 0 _ r1 within_z12 (by omega) (by omega) ex12_none).mono ?_
  rintro e w6 ⟨rfl, b6⟩
  have s6 := b6.size
  try simp only [World.size_alloc, World.size_setCell, World.size_drew, size_drewN] at s6
  have bb_6 : Below w.heap.size w w6 := by
    repeat' (first | (with_reducible first | assumption | exact Below.refl _ _ | refine Blk.drewN ?_ _ | refine RowIn.drewN ?_ _ | refine below_drewN ?_ _ | refine Blk.drew ?_ | refine RowIn.drew ?_ | refine Below.drew ?_) | (with_reducible refine Blk.new' ?_ ?_ <;> first | (with_reducible rfl) | (simp; done)) | (with_reducible first | refine Blk.alloc ?_ _ | refine RowIn.alloc ?_ _ | refine Below.alloc ?_ ?_ _ | apply Blk.set' | apply Blk.far' | refine RowIn.far' ?_ ?_ _ | refine Below.far' ?_ ?_ _ | refine Blk.after ?_ b6 | refine RowIn.belowS ?_ b6 | refine Below.after ?_ b6 ?_) | (exact (Eq.refl _ : (_ : List Value) = _)) | omega | go_size)
  clear bb_5 b6
  clear r1
  go_wp2_with fail
  refine (tmost_bad (-1) _ (by omega)).mono ?_
  rintro e _ ⟨rfl, rfl⟩
  go_wp2_with fail
  refine (tmost_bad 4001 _ (by omega)).mono ?_
  rintro e _ ⟨rfl, rfl⟩
  go_wp2_with fail
  refine (tmost_c 4000 324000 _ (by omega) rfl).mono ?_
  rintro e _ ⟨rfl, rfl⟩
  go_wp2_with fail
  refine (tmost_c 0 0 _ (by omega) rfl).mono ?_
  rintro e _ ⟨rfl, rfl⟩
  go_wp2_with fail
  refine (tbytes_c none 0 0 [] 4 _ Row.nil (by intro x hx; cases hx) (by omega) rfl).mono ?_
  rintro e w7 ⟨rfl, b7⟩
  have s7 := b7.size
  try simp only [World.size_alloc, World.size_setCell, World.size_drew, size_drewN] at s7
  have bb_7 : Below w.heap.size w w7 := by
    repeat' (first | (with_reducible first | assumption | exact Below.refl _ _ | refine Blk.drewN ?_ _ | refine RowIn.drewN ?_ _ | refine below_drewN ?_ _ | refine Blk.drew ?_ | refine RowIn.drew ?_ | refine Below.drew ?_) | (with_reducible refine Blk.new' ?_ ?_ <;> first | (with_reducible rfl) | (simp; done)) | (with_reducible first | refine Blk.alloc ?_ _ | refine RowIn.alloc ?_ _ | refine Below.alloc ?_ ?_ _ | apply Blk.set' | apply Blk.far' | refine RowIn.far' ?_ ?_ _ | refine Below.far' ?_ ?_ _ | refine Blk.after ?_ b7 | refine RowIn.belowS ?_ b7 | refine Below.after ?_ b7 ?_) | (exact (Eq.refl _ : (_ : List Value) = _)) | omega | go_size)
  clear bb_6 b7
  go_wp2_with fail
  have r1 : Row .u32 (w7.alloc (.cells #[.int .u32 4294967295, .int .u32 4294967295] 43)) (some ⟨w7.heap.size, 0, none⟩) 2 [4294967295, 4294967295] := row_new .u32 w7 [4294967295, 4294967295] 43
  refine (teach_c _ 2 2 [4294967295, 4294967295] [81, 81] _ r1 within_g12 (by omega) ex12_great).mono ?_
  rintro e w8 ⟨Ag, mg, cg, yg, rfl, hcg, rg, HYg, b8⟩
  have lng := rg.len
  replace rg := rg.mono (lo' := w7.heap.size + 0) (by go_size) (Nat.le_refl _)
  have s8 := b8.size
  try simp only [World.size_alloc, World.size_setCell, World.size_drew, size_drewN] at s8
  obtain ⟨rg_8, bb_8⟩ : RowIn .i64 w8 (w7.heap.size + 0) (w8.heap.size) Ag mg yg ∧ Below w.heap.size w w8 := by
    refine ⟨?_, ?_⟩
    all_goals repeat' (first | (with_reducible first | assumption | exact Below.refl _ _ | refine Blk.drewN ?_ _ | refine RowIn.drewN ?_ _ | refine below_drewN ?_ _ | refine Blk.drew ?_ | refine RowIn.drew ?_ | refine Below.drew ?_) | (with_reducible refine Blk.new' ?_ ?_ <;> first | (with_reducible rfl) | (simp; done)) | (with_reducible first | refine Blk.alloc ?_ _ | refine RowIn.alloc ?_ _ | refine Below.alloc ?_ ?_ _ | apply Blk.set' | apply Blk.far' | refine RowIn.far' ?_ ?_ _ | refine Below.far' ?_ ?_ _ | refine Blk.after ?_ b8 | refine RowIn.belowS ?_ b8 | refine Below.after ?_ b8 ?_) | (exact (Eq.refl _ : (_ : List Value) = _)) | omega | go_size)
  clear bb_7 b8
  clear rg
  clear r1
  go_wp2_with fail
  have hmg : mg = 2 := by rw [← lng, HYg.out]; rfl
  have r2 : Row .i64 (w8.alloc (.cells #[.int .i64 81, .int .i64 81] 3)) (some ⟨w8.heap.size, 0, none⟩) 2 [81, 81] := row_new .i64 w8 [81, 81] 3
  refine (r12same_eq Ag _ mg cg 2 2 yg [81, 81] _ (by exact RowIn.row (lo := w7.heap.size + 0) (hi := w8.heap.size) (by repeat' (first | (with_reducible first | assumption | exact Below.refl _ _ | refine Blk.drewN ?_ _ | refine RowIn.drewN ?_ _ | refine below_drewN ?_ _ | refine Blk.drew ?_ | refine RowIn.drew ?_ | refine Below.drew ?_) | (with_reducible refine Blk.new' ?_ ?_ <;> first | (with_reducible rfl) | (simp; done)) | (with_reducible first | refine Blk.alloc ?_ _ | refine RowIn.alloc ?_ _ | refine Below.alloc ?_ ?_ _ | apply Blk.set' | apply Blk.far' | refine RowIn.far' ?_ ?_ _ | refine Below.far' ?_ ?_ _) | (exact (Eq.refl _ : (_ : List Value) = _)) | omega | go_size))) r2 (by omega) HYg.out).mono ?_
  rintro e w9 ⟨rfl, b9⟩
  have s9 := b9.size
  try simp only [World.size_alloc, World.size_setCell, World.size_drew, size_drewN] at s9
  obtain ⟨rg_9, bb_9⟩ : RowIn .i64 w9 (w7.heap.size + 0) (w8.heap.size) Ag mg yg ∧ Below w.heap.size w w9 := by
    refine ⟨?_, ?_⟩
    all_goals repeat' (first | (with_reducible first | assumption | exact Below.refl _ _ | refine Blk.drewN ?_ _ | refine RowIn.drewN ?_ _ | refine below_drewN ?_ _ | refine Blk.drew ?_ | refine RowIn.drew ?_ | refine Below.drew ?_) | (with_reducible refine Blk.new' ?_ ?_ <;> first | (with_reducible rfl) | (simp; done)) | (with_reducible first | refine Blk.alloc ?_ _ | refine RowIn.alloc ?_ _ | refine Below.alloc ?_ ?_ _ | apply Blk.set' | apply Blk.far' | refine RowIn.far' ?_ ?_ _ | refine Below.far' ?_ ?_ _ | refine Blk.after ?_ b9 | refine RowIn.belowS ?_ b9 | refine Below.after ?_ b9 ?_) | (exact (Eq.refl _ : (_ : List Value) = _)) | omega | go_size)
  clear rg_8 bb_8 b9
  go_wp2_with fail
  refine (alive12 _).mono ?_
  rintro e w10 ⟨rfl, b10⟩
  have s10 := b10.size
  try simp only [World.size_alloc, World.size_setCell, World.size_drew, size_drewN] at s10
  have bb_10 : Below w.heap.size w w10 := by
    repeat' (first | (with_reducible first | assumption | exact Below.refl _ _ | refine Blk.drewN ?_ _ | refine RowIn.drewN ?_ _ | refine below_drewN ?_ _ | refine Blk.drew ?_ | refine RowIn.drew ?_ | refine Below.drew ?_) | (with_reducible refine Blk.new' ?_ ?_ <;> first | (with_reducible rfl) | (simp; done)) | (with_reducible first | refine Blk.alloc ?_ _ | refine RowIn.alloc ?_ _ | refine Below.alloc ?_ ?_ _ | apply Blk.set' | apply Blk.far' | refine RowIn.far' ?_ ?_ _ | refine Below.far' ?_ ?_ _ | refine Blk.after ?_ b10 | refine RowIn.belowS ?_ b10 | refine Below.after ?_ b10 ?_) | (exact (Eq.refl _ : (_ : List Value) = _)) | omega | go_size)
  clear rg_9 bb_9 b10
  go_wp2
  go_ret
  refine ⟨rfl, ?_⟩
  repeat' (first | (with_reducible first | assumption | exact Below.refl _ _ | refine Blk.drewN ?_ _ | refine RowIn.drewN ?_ _ | refine below_drewN ?_ _ | refine Blk.drew ?_ | refine RowIn.drew ?_ | refine Below.drew ?_) | (with_reducible refine Blk.new' ?_ ?_ <;> first | (with_reducible rfl) | (simp; done)) | (with_reducible first | refine Blk.alloc ?_ _ | refine RowIn.alloc ?_ _ | refine Below.alloc ?_ ?_ _ | apply Blk.set' | apply Blk.far' | refine RowIn.far' ?_ ?_ _ | refine Below.far' ?_ ?_ _) | (exact (Eq.refl _ : (_ : List Value) = _)) | omega | go_size)


end Go.Proofs.Ytpohaikbbfochaa
