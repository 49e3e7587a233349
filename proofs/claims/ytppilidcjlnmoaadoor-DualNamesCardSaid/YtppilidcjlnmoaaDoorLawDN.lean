/-
  The walk of DualNames.
-/
import Derived.Test.YtppilidcjlnmoaaDoorLawDC
import Derived.Test.YtppilidcjlnmoaaDoorLawDR
import Derived.Test.YtppilidcjlnmoaaDoorRefAB
import Derived.Test.YtppilidcjlnmoaaDoorBitG
import Derived.Test.YtppilidcjlnmoaaDoorMerge
namespace Go.Proofs.YtppilidcjlnmoaaDoor
open Go.RowKit Cad Cad.Bit Cad.Code
set_option linter.unusedVariables false
set_option linter.unusedSimpArgs false

theorem not_valid8 : ¬ Valid [] 1 := by decide
theorem ex8a : drR [true] (-1) ⟨0, 0, 0, 0⟩ = (0, 0, ⟨0, 0, 0, 0⟩, 2) := rfl
theorem ex8b : drR [true] 1 ⟨0, 0, 0, 0⟩ = (0, 0, ⟨0, 0, 0, 0⟩, 24) := rfl
theorem ex8c : drR [true] 0 ⟨0, 0, 0, 0⟩ = (0, 0, ⟨0, 0, 0, 0⟩, 24) := rfl
theorem ex8d : drR [true] 9223372036854775807 ⟨0, 0, 0, 0⟩ = (0, 0, ⟨0, 0, 0, 0⟩, 24) := by
  unfold drR
  rw [if_neg (by decide), List.drop_eq_nil_of_le (by decide)]
  rfl
theorem ex8e : drR (true :: (lowBits 281474976710655 48 ++ lowBits 4294967295 32)) 0 ⟨0, 0, 0, 0⟩ = (0, 0, ⟨0, 0, 0, 0⟩, 12) := by decide +kernel
theorem row_made8 {k : IntKind} {n : Nat} {w : World} {e : TypeId} {g : Nat} (hg : g = w.heap.size) : Row k (w.alloc (.cells (zeroRow k n) e)) (some ⟨g, 0, none⟩) n (zeros n) := by
  subst hg
  have h := row_new k w (zeros n) e
  rw [zeros_len] at h; exact h


set_option maxRecDepth 100000 in
set_option maxHeartbeats 16000000 in
theorem lawDualNames (w : World) (ht : Tab w)  :
    Calls Tryd.prog 5 #[] w fun e w' => e = .returned (.bool true) ∧ Below w.heap.size w w' := by
  have hti : RowIn .u8 w 0 w.heap.size (some ⟨0, 0, none⟩) 64 dbTab := ht.rowIn
  have hmk : ∀ W, (Instr.makeSlice 22 (.int .i64 41250) (.int .i64 41250)).run Tryd.prog W = .ok (.slice (some ⟨W.heap.size, 0, none⟩) 41250 41250) (W.alloc (.cells (zeroRow .u8 41250) 5)) := fun W => run_mk u8E 41250 (by omega) .i64 .i64 W
  go_enter Tryd.func5, Tryd.ntmps5
  go_wp2_with fail
  refine (bput_ok none 0 0 [] 1 1 _ Row.nil ⟨Nat.le_refl _, Nat.zero_le _⟩ (by omega) (by omega) (by decide) (by simp)).mono ?_
  rintro e w1 ⟨Ao, mo, co, xo, rfl, hco, ro, HXo, b1⟩
  have Lo : xo.length ≤ 1 ∧ 1 ≤ xo.length := by rw [HXo.out]; simp
  obtain ⟨Lo1, Lo2⟩ := Lo
  replace ro := ro.mono (lo' := w.heap.size + 0) (by go_size) (Nat.le_refl _)
  have s1 := b1.size
  try simp only [World.size_alloc, World.size_setCell, World.size_drew, size_drewN] at s1
  obtain ⟨rt_1, ro_1, bb_1⟩ : RowIn .u8 w1 (0) (w.heap.size) (some ⟨0, 0, none⟩) 64 dbTab ∧ RowIn .u8 w1 (w.heap.size + 0) (w1.heap.size) Ao mo (pack xo) ∧ Below w.heap.size w w1 := by
    refine ⟨?_, ?_, ?_⟩
    all_goals repeat' (first | (with_reducible first | assumption | exact Below.refl _ _ | refine Blk.drewN ?_ _ | refine RowIn.drewN ?_ _ | refine below_drewN ?_ _ | refine Blk.drew ?_ | refine RowIn.drew ?_ | refine Below.drew ?_) | (with_reducible refine Blk.new' ?_ ?_ <;> first | (with_reducible rfl) | (simp; done)) | (with_reducible first | refine Blk.alloc ?_ _ | refine RowIn.alloc ?_ _ | refine Below.alloc ?_ ?_ _ | apply Blk.set' | apply Blk.far' | refine RowIn.far' ?_ ?_ _ | refine Below.far' ?_ ?_ _ | refine Blk.after ?_ b1 | refine RowIn.belowS ?_ b1 | refine Below.after ?_ b1 ?_) | (exact (Eq.refl _ : (_ : List Value) = _)) | omega | go_size)
  clear b1
  clear ro
  have HO : Hid (xo = [true]) := by rw [HXo.out]; exact Lib.hid rfl
  clear HXo
  go_wp2_with fail
  obtain ⟨w2, hw2⟩ : ∃ w2, w2 = (w1.alloc (.cells #[.slice Ao mo co, .int .i64 ((xo.length : Nat) : Int)] 24)).alloc (.cells #[.int .i64 (-1), .int .i64 (0), .int .u64 0, .int .u64 0, .int .i64 (0), .int .i64 (-1), .int .u64 0, .int .u64 0, .int .i64 (25), .int .i64 (0), .int .u64 0, .int .u64 0, .int .i64 (0), .int .i64 (25), .int .u64 0, .int .u64 0, .int .i64 (0), .int .i64 (0), .int .u64 68719476736, .int .u64 0, .int .i64 (0), .int .i64 (0), .int .u64 0, .int .u64 68719476736, .int .i64 (25), .int .i64 (0), .int .u64 9223372036854775808, .int .u64 0] 38) := ⟨_, rfl⟩
  obtain ⟨zo_2, zl_2, rt_2, ro_2, bb_2, s2⟩ : Blk w2 (w1.heap.size) 24 [.slice Ao mo co, .int .i64 ((xo.length : Nat) : Int)] ∧ Blk w2 (w1.heap.size + 1) 38 [.int .i64 (-1), .int .i64 (0), .int .u64 0, .int .u64 0, .int .i64 (0), .int .i64 (-1), .int .u64 0, .int .u64 0, .int .i64 (25), .int .i64 (0), .int .u64 0, .int .u64 0, .int .i64 (0), .int .i64 (25), .int .u64 0, .int .u64 0, .int .i64 (0), .int .i64 (0), .int .u64 68719476736, .int .u64 0, .int .i64 (0), .int .i64 (0), .int .u64 0, .int .u64 68719476736, .int .i64 (25), .int .i64 (0), .int .u64 9223372036854775808, .int .u64 0] ∧ RowIn .u8 w2 (0) (w.heap.size) (some ⟨0, 0, none⟩) 64 dbTab ∧ RowIn .u8 w2 (w.heap.size + 0) (w1.heap.size) Ao mo (pack xo) ∧ Below w.heap.size w w2 ∧ w1.heap.size ≤ w2.heap.size := by
    rw [hw2]
    refine ⟨?_, ?_, ?_, ?_, ?_, by go_size⟩
    all_goals repeat' (first | (with_reducible first | assumption | exact Below.refl _ _ | refine Blk.drewN ?_ _ | refine RowIn.drewN ?_ _ | refine below_drewN ?_ _ | refine Blk.drew ?_ | refine RowIn.drew ?_ | refine Below.drew ?_) | (with_reducible refine Blk.new' ?_ ?_ <;> first | (with_reducible rfl) | (simp; done)) | (with_reducible first | refine Blk.alloc ?_ _ | refine RowIn.alloc ?_ _ | refine Below.alloc ?_ ?_ _ | apply Blk.set' | apply Blk.far' | refine RowIn.far' ?_ ?_ _ | refine Below.far' ?_ ?_ _) | (exact (Eq.refl _ : (_ : List Value) = _)) | omega | go_size)
  rw [← hw2]
  clear hw2
  clear rt_1 ro_1 bb_1
  have ko_2 := zo_2.cell; have fo_2 := zo_2.frozen; have lo_2 := zo_2.lt
  have kl_2 := zl_2.cell; have fl_2 := zl_2.frozen; have ll_2 := zl_2.lt
  go_loopg [4] 7 (fun r v wr => ∃ j : Nat, j + r = 7 ∧ v = .int .i64 (j : Nat) ∧ Below w2.heap.size w2 wr)
  case atStart => exact ⟨0, by omega, rfl, Below.refl _ _⟩
  case round =>
    obtain ⟨j, hj, rfl, b3⟩ := hrel
    have s3 := b3.size
    try simp only [World.size_alloc, World.size_setCell, World.size_drew, size_drewN] at s3
    obtain ⟨zo_3, rt_3, ro_3, bb_3⟩ : Blk wr (w1.heap.size) 24 [.slice Ao mo co, .int .i64 ((xo.length : Nat) : Int)] ∧ RowIn .u8 wr (0) (w.heap.size) (some ⟨0, 0, none⟩) 64 dbTab ∧ RowIn .u8 wr (w.heap.size + 0) (w1.heap.size) Ao mo (pack xo) ∧ Below w2.heap.size w2 wr := by
      refine ⟨?_, ?_, ?_, ?_⟩
      all_goals repeat' (first | (with_reducible first | assumption | exact Below.refl _ _ | refine Blk.drewN ?_ _ | refine RowIn.drewN ?_ _ | refine below_drewN ?_ _ | refine Blk.drew ?_ | refine RowIn.drew ?_ | refine Below.drew ?_) | (with_reducible refine Blk.new' ?_ ?_ <;> first | (with_reducible rfl) | (simp; done)) | (with_reducible first | refine Blk.alloc ?_ _ | refine RowIn.alloc ?_ _ | refine Below.alloc ?_ ?_ _ | apply Blk.set' | apply Blk.far' | refine RowIn.far' ?_ ?_ _ | refine Below.far' ?_ ?_ _ | refine Blk.after ?_ b3 | refine RowIn.belowS ?_ b3 | refine Below.after ?_ b3 ?_) | (exact (Eq.refl _ : (_ : List Value) = _)) | omega | go_size)
    have ko_3 := zo_3.cell; have fo_3 := zo_3.frozen; have lo_3 := zo_3.lt
    by_cases hlt : j < 7
    · have hel : ∃ p0 p1 q0 q1 : Int, w2.cell? ⟨w1.heap.size + 1, j * 4, none⟩ = some (.int .i64 p0) ∧ w2.cell? ⟨w1.heap.size + 1, j * 4 + 1, none⟩ = some (.int .i64 p1) ∧ w2.cell? ⟨w1.heap.size + 1, j * 4 + 2, none⟩ = some (.int .u64 q0) ∧ w2.cell? ⟨w1.heap.size + 1, j * 4 + 3, none⟩ = some (.int .u64 q1) ∧ 0 ≤ q0 ∧ 0 ≤ q1 ∧ ¬ DOk p0 p1 q0 q1 := by
        rcases (show j = 0 ∨ j = 1 ∨ j = 2 ∨ j = 3 ∨ j = 4 ∨ j = 5 ∨ j = 6 by omega) with rfl | rfl | rfl | rfl | rfl | rfl | rfl
        · exact ⟨-1, 0, 0, 0, (kl_2 _).trans rfl, (kl_2 _).trans rfl, (kl_2 _).trans rfl, (kl_2 _).trans rfl, by decide, by decide, by unfold DOk; decide⟩
        · exact ⟨0, -1, 0, 0, (kl_2 _).trans rfl, (kl_2 _).trans rfl, (kl_2 _).trans rfl, (kl_2 _).trans rfl, by decide, by decide, by unfold DOk; decide⟩
        · exact ⟨25, 0, 0, 0, (kl_2 _).trans rfl, (kl_2 _).trans rfl, (kl_2 _).trans rfl, (kl_2 _).trans rfl, by decide, by decide, by unfold DOk; decide⟩
        · exact ⟨0, 25, 0, 0, (kl_2 _).trans rfl, (kl_2 _).trans rfl, (kl_2 _).trans rfl, (kl_2 _).trans rfl, by decide, by decide, by unfold DOk; decide⟩
        · exact ⟨0, 0, 68719476736, 0, (kl_2 _).trans rfl, (kl_2 _).trans rfl, (kl_2 _).trans rfl, (kl_2 _).trans rfl, by decide, by decide, by unfold DOk; decide⟩
        · exact ⟨0, 0, 0, 68719476736, (kl_2 _).trans rfl, (kl_2 _).trans rfl, (kl_2 _).trans rfl, (kl_2 _).trans rfl, by decide, by decide, by unfold DOk; decide⟩
        · exact ⟨25, 0, 9223372036854775808, 0, (kl_2 _).trans rfl, (kl_2 _).trans rfl, (kl_2 _).trans rfl, (kl_2 _).trans rfl, by decide, by decide, by unfold DOk; decide⟩
      obtain ⟨p0, p1, q0, q1, c0, c1, c2, c3, hq0, hq1, hdk⟩ := hel
      have HN := Lib.hid hdk
      clear hdk
      have C0 := Lib.hid c0; have C1 := Lib.hid c1; have C2 := Lib.hid c2; have C3 := Lib.hid c3
      have hb0 : w1.heap.size + 1 < w2.heap.size := ll_2
      have hb1 := hb0; have hb2 := hb0; have hb3 := hb0
      clear c0 c1 c2 c3 kl_2
      have h7 : (j : Int) < 7 := by omega
      have h0 : (0 : Int) ≤ (j : Int) := by omega
      have c0_3 : wr.cell? ⟨w1.heap.size + 1, j * 4, none⟩ = some (.int .i64 p0) := (bb_3.cell (p := ⟨w1.heap.size + 1, j * 4, none⟩) hb0).trans C0.out
      have c1_3 : wr.cell? ⟨w1.heap.size + 1, j * 4 + 1, none⟩ = some (.int .i64 p1) := (bb_3.cell (p := ⟨w1.heap.size + 1, j * 4 + 1, none⟩) hb1).trans C1.out
      have c2_3 : wr.cell? ⟨w1.heap.size + 1, j * 4 + 2, none⟩ = some (.int .u64 q0) := (bb_3.cell (p := ⟨w1.heap.size + 1, j * 4 + 2, none⟩) hb2).trans C2.out
      have c3_3 : wr.cell? ⟨w1.heap.size + 1, j * 4 + 3, none⟩ = some (.int .u64 q1) := (bb_3.cell (p := ⟨w1.heap.size + 1, j * 4 + 3, none⟩) hb3).trans C3.out
      have ho3 := ko_3
      go_wp2_with fail
      refine (dLearn_bad p0 p1 q0 q1 hq0 hq1 0 _ HN.out).mono ?_
      rintro e w4 ⟨rfl, b4⟩
      have s4 := b4.size
      try simp only [World.size_alloc, World.size_setCell, World.size_drew, size_drewN] at s4
      obtain ⟨zo_4, rt_4, ro_4, bb_4⟩ : Blk w4 (w1.heap.size) 24 [.slice Ao mo co, .int .i64 ((xo.length : Nat) : Int)] ∧ RowIn .u8 w4 (0) (w.heap.size) (some ⟨0, 0, none⟩) 64 dbTab ∧ RowIn .u8 w4 (w.heap.size + 0) (w1.heap.size) Ao mo (pack xo) ∧ Below w2.heap.size w2 w4 := by
        refine ⟨?_, ?_, ?_, ?_⟩
        all_goals repeat' (first | (with_reducible first | assumption | exact Below.refl _ _ | refine Blk.drewN ?_ _ | refine RowIn.drewN ?_ _ | refine below_drewN ?_ _ | refine Blk.drew ?_ | refine RowIn.drew ?_ | refine Below.drew ?_) | (with_reducible refine Blk.new' ?_ ?_ <;> first | (with_reducible rfl) | (simp; done)) | (with_reducible first | refine Blk.alloc ?_ _ | refine RowIn.alloc ?_ _ | refine Below.alloc ?_ ?_ _ | apply Blk.set' | apply Blk.far' | refine RowIn.far' ?_ ?_ _ | refine Below.far' ?_ ?_ _ | refine Blk.after ?_ b4 | refine RowIn.belowS ?_ b4 | refine Below.after ?_ b4 ?_) | (exact (Eq.refl _ : (_ : List Value) = _)) | omega | go_size)
      clear zo_3 rt_3 ro_3 bb_3 ko_3 fo_3 lo_3 c0_3 c1_3 c2_3 c3_3 b4
      have ko_4 := zo_4.cell; have fo_4 := zo_4.frozen; have lo_4 := zo_4.lt
      have c0_4 : w4.cell? ⟨w1.heap.size + 1, j * 4, none⟩ = some (.int .i64 p0) := (bb_4.cell (p := ⟨w1.heap.size + 1, j * 4, none⟩) hb0).trans C0.out
      have c1_4 : w4.cell? ⟨w1.heap.size + 1, j * 4 + 1, none⟩ = some (.int .i64 p1) := (bb_4.cell (p := ⟨w1.heap.size + 1, j * 4 + 1, none⟩) hb1).trans C1.out
      have c2_4 : w4.cell? ⟨w1.heap.size + 1, j * 4 + 2, none⟩ = some (.int .u64 q0) := (bb_4.cell (p := ⟨w1.heap.size + 1, j * 4 + 2, none⟩) hb2).trans C2.out
      have c3_4 : w4.cell? ⟨w1.heap.size + 1, j * 4 + 3, none⟩ = some (.int .u64 q1) := (bb_4.cell (p := ⟨w1.heap.size + 1, j * 4 + 3, none⟩) hb3).trans C3.out
      have hbk4 : w1.heap.size + 1 < w4.heap.size := by have := bb_4.size; omega
      go_wp2_with fail
      refine (dLength_bad p0 p1 q0 q1 hq0 hq1 0 _ HN.out).mono ?_
      rintro e w5 ⟨rfl, b5⟩
      have s5 := b5.size
      try simp only [World.size_alloc, World.size_setCell, World.size_drew, size_drewN] at s5
      obtain ⟨zo_5, rt_5, ro_5, bb_5⟩ : Blk w5 (w1.heap.size) 24 [.slice Ao mo co, .int .i64 ((xo.length : Nat) : Int)] ∧ RowIn .u8 w5 (0) (w.heap.size) (some ⟨0, 0, none⟩) 64 dbTab ∧ RowIn .u8 w5 (w.heap.size + 0) (w1.heap.size) Ao mo (pack xo) ∧ Below w2.heap.size w2 w5 := by
        refine ⟨?_, ?_, ?_, ?_⟩
        all_goals repeat' (first | (with_reducible first | assumption | exact Below.refl _ _ | refine Blk.drewN ?_ _ | refine RowIn.drewN ?_ _ | refine below_drewN ?_ _ | refine Blk.drew ?_ | refine RowIn.drew ?_ | refine Below.drew ?_) | (with_reducible refine Blk.new' ?_ ?_ <;> first | (with_reducible rfl) | (simp; done)) | (with_reducible first | refine Blk.alloc ?_ _ | refine RowIn.alloc ?_ _ | refine Below.alloc ?_ ?_ _ | apply Blk.set' | apply Blk.far' | refine RowIn.far' ?_ ?_ _ | refine Below.far' ?_ ?_ _ | refine Blk.after ?_ b5 | refine RowIn.belowS ?_ b5 | refine Below.after ?_ b5 ?_) | (exact (Eq.refl _ : (_ : List Value) = _)) | omega | go_size)
      clear zo_4 rt_4 ro_4 bb_4 ko_4 fo_4 lo_4 c0_4 c1_4 c2_4 c3_4 b5
      have ko_5 := zo_5.cell; have fo_5 := zo_5.frozen; have lo_5 := zo_5.lt
      have c0_5 : w5.cell? ⟨w1.heap.size + 1, j * 4, none⟩ = some (.int .i64 p0) := (bb_5.cell (p := ⟨w1.heap.size + 1, j * 4, none⟩) hb0).trans C0.out
      have c1_5 : w5.cell? ⟨w1.heap.size + 1, j * 4 + 1, none⟩ = some (.int .i64 p1) := (bb_5.cell (p := ⟨w1.heap.size + 1, j * 4 + 1, none⟩) hb1).trans C1.out
      have c2_5 : w5.cell? ⟨w1.heap.size + 1, j * 4 + 2, none⟩ = some (.int .u64 q0) := (bb_5.cell (p := ⟨w1.heap.size + 1, j * 4 + 2, none⟩) hb2).trans C2.out
      have c3_5 : w5.cell? ⟨w1.heap.size + 1, j * 4 + 3, none⟩ = some (.int .u64 q1) := (bb_5.cell (p := ⟨w1.heap.size + 1, j * 4 + 3, none⟩) hb3).trans C3.out
      have hbk5 : w1.heap.size + 1 < w5.heap.size := by have := bb_5.size; omega
      go_wp2_with fail
      have sw2 : w2.heap.size ≤ w5.heap.size := bb_5.size
      apply merge11 (fun (Ap : Option Addr) (mp : Nat) (cp : Nat) (xp : List Bool) (a0 : Nat) (a1 : Nat) (e0 : Nat) (e1 : Nat) (gy : Nat) (gz : Nat) (wz : World) => w5.heap.size ≤ gy ∧ w5.heap.size ≤ gz ∧ gy ≠ gz ∧ Blk wz (w1.heap.size) 24 [.slice Ao mo co, .int .i64 ((xo.length : Nat) : Int)] ∧ RowIn .u8 wz (0) (w.heap.size) (some ⟨0, 0, none⟩) 64 dbTab ∧ RowIn .u8 wz (w.heap.size + 0) (w1.heap.size) Ao mo (pack xo) ∧ Below w2.heap.size w2 wz ∧ w5.heap.size ≤ wz.heap.size)
      case main =>
        intro key
        have na_0 : w2.heap.size ≤ w5.heap.size := by omega
        have nao_0 : w1.heap.size ≠ w5.heap.size := by omega
        have nrt_0 : w5.heap.size < 0 ∨ w.heap.size ≤ w5.heap.size := by omega
        have nro_0 : w5.heap.size < w.heap.size + 0 ∨ w1.heap.size ≤ w5.heap.size := by omega
        have na_1 : w2.heap.size ≤ w5.heap.size + 1 := by omega
        have nao_1 : w1.heap.size ≠ w5.heap.size + 1 := by omega
        have nrt_1 : w5.heap.size + 1 < 0 ∨ w.heap.size ≤ w5.heap.size + 1 := by omega
        have nro_1 : w5.heap.size + 1 < w.heap.size + 0 ∨ w1.heap.size ≤ w5.heap.size + 1 := by omega
        go_region_held3 (fun w' => (∀ a, w'.cell? ⟨w1.heap.size, a, none⟩ = [.slice Ao mo co, .int .i64 ((xo.length : Nat) : Int)][a]?) ∧ w'.cell? ⟨w1.heap.size + 1, j * 4, none⟩ = some (.int .i64 p0) ∧ w'.cell? ⟨w1.heap.size + 1, j * 4 + 1, none⟩ = some (.int .i64 p1) ∧ w'.cell? ⟨w1.heap.size + 1, j * 4 + 2, none⟩ = some (.int .u64 q0) ∧ w'.cell? ⟨w1.heap.size + 1, j * 4 + 3, none⟩ = some (.int .u64 q1)) (first | with_reducible exact ⟨ko_5, c0_5, c1_5, c2_5, c3_5⟩ | (refine ⟨Blk.cell (t := 24) ?_, (Below.cell (p := ⟨w1.heap.size + 1, j * 4, none⟩) (B := w2.heap.size) (w := w2) ?_ hb0).trans C0.out, (Below.cell (p := ⟨w1.heap.size + 1, j * 4 + 1, none⟩) (B := w2.heap.size) (w := w2) ?_ hb1).trans C1.out, (Below.cell (p := ⟨w1.heap.size + 1, j * 4 + 2, none⟩) (B := w2.heap.size) (w := w2) ?_ hb2).trans C2.out, (Below.cell (p := ⟨w1.heap.size + 1, j * 4 + 3, none⟩) (B := w2.heap.size) (w := w2) ?_ hb3).trans C3.out⟩; all_goals repeat' (first | (with_reducible first | assumption | exact Below.refl _ _ | refine Blk.drewN ?_ _ | refine RowIn.drewN ?_ _ | refine below_drewN ?_ _ | refine Blk.drew ?_ | refine RowIn.drew ?_ | refine Below.drew ?_) | (with_reducible refine Blk.new' ?_ ?_ <;> first | (with_reducible rfl) | (simp; done)) | (with_reducible first | refine Blk.alloc ?_ _ | refine RowIn.alloc ?_ _ | refine Below.alloc ?_ ?_ _ | apply Blk.set' | apply Blk.far4 | apply RowIn.far4 | apply Below.far4 | apply Blk.far2 | apply RowIn.far2 | apply Below.far2 | apply Blk.far' | refine RowIn.far' ?_ ?_ _ | refine Below.far' ?_ ?_ _ | refine Blk.after ?_ bq | refine RowIn.belowS ?_ bq | refine Below.after ?_ bq ?_) | (exact (Eq.refl _ : (_ : List Value) = _)) | omega | go_size))) (
          (go_simp; go_at_call 32; refine (dWrite_none Ao mo co xo p0 p1 q0 q1 0 _ (by exact RowIn.row (lo := w.heap.size + 0) (hi := w1.heap.size) (by repeat' (first | (with_reducible first | assumption | exact Below.refl _ _ | refine Blk.drewN ?_ _ | refine RowIn.drewN ?_ _ | refine below_drewN ?_ _ | refine Blk.drew ?_ | refine RowIn.drew ?_ | refine Below.drew ?_) | (with_reducible refine Blk.new' ?_ ?_ <;> first | (with_reducible rfl) | (simp; done)) | (with_reducible first | refine Blk.alloc ?_ _ | refine RowIn.alloc ?_ _ | refine Below.alloc ?_ ?_ _ | apply Blk.set' | apply Blk.far' | refine RowIn.far' ?_ ?_ _ | refine Below.far' ?_ ?_ _) | (exact (Eq.refl _ : (_ : List Value) = _)) | omega | go_size))) hco (by omega) hq0 hq1 HN.out).mono ?_; rintro e wq ⟨Ap, mp, cp, xp, a0, a1, e0, e1, rfl, hcp, rp, HXp, HDp, bq⟩
           have sq := bq.size
           try simp only [World.size_alloc, World.size_setCell, World.size_drew, size_drewN] at sq
           try (with_reducible (have zq1 := Blk.after (Blk.drew (Blk.new' (g := w5.heap.size) (t := 24) (l := [.slice none 0 0, .int .i64 0]) rfl rfl)) bq); have kq1 := zq1.cell; have fq1 := zq1.frozen; have lq1 := zq1.lt)
           try (with_reducible (have zq2 := Blk.after (Blk.drew (Blk.new0 (w := w5) (t := 24) (l := [.slice none 0 0, .int .i64 0]) rfl)) bq); have kq2 := zq2.cell; have fq2 := zq2.frozen; have lq2 := zq2.lt)
           try (with_reducible (have zq3 := Blk.after (Blk.drew (Blk.new1 (w := w5) (t := 24) (l := [.slice none 0 0, .int .i64 0]) rfl)) bq); have kq3 := zq3.cell; have fq3 := zq3.frozen; have lq3 := zq3.lt)
           try (with_reducible (have zq4 := Blk.after (Blk.drew (Blk.new' (g := w5.heap.size) (t := 38) (l := [.int .i64 0, .int .i64 0, .int .u64 0, .int .u64 0]) rfl rfl)) bq); have kq4 := zq4.cell; have fq4 := zq4.frozen; have lq4 := zq4.lt)
           try (with_reducible (have zq5 := Blk.after (Blk.drew (Blk.new0 (w := w5) (t := 38) (l := [.int .i64 0, .int .i64 0, .int .u64 0, .int .u64 0]) rfl)) bq); have kq5 := zq5.cell; have fq5 := zq5.frozen; have lq5 := zq5.lt)
           try (with_reducible (have zq6 := Blk.after (Blk.drew (Blk.new1 (w := w5) (t := 38) (l := [.int .i64 0, .int .i64 0, .int .u64 0, .int .u64 0]) rfl)) bq); have kq6 := zq6.cell; have fq6 := zq6.frozen; have lq6 := zq6.lt)))
        all_goals
          refine gen_world (fun wz hwz => ?_)
          first
          | (generalize hg0 : wq.heap.size + 1 = gz; generalize hg1 : wq.heap.size = gy; refine key Ap mp cp xp a0 a1 e0 e1 gy gz wz ?_; subst hg1; subst hg0; subst hwz; refine ⟨?_, ?_, ?_, ?_, ?_, ?_, ?_, ?_⟩ <;> ((repeat' (first | (with_reducible first | assumption | exact Below.refl _ _ | refine Blk.drewN ?_ _ | refine RowIn.drewN ?_ _ | refine below_drewN ?_ _ | refine Blk.drew ?_ | refine RowIn.drew ?_ | refine Below.drew ?_) | (with_reducible refine Blk.new' ?_ ?_ <;> first | (with_reducible rfl) | (simp; done)) | (with_reducible first | refine Blk.alloc ?_ _ | refine RowIn.alloc ?_ _ | refine Below.alloc ?_ ?_ _ | apply Blk.set' | apply Blk.far4 | apply RowIn.far4 | apply Below.far4 | apply Blk.far2 | apply RowIn.far2 | apply Below.far2 | apply Blk.far' | refine RowIn.far' ?_ ?_ _ | refine Below.far' ?_ ?_ _ | refine Blk.after ?_ bq | refine RowIn.belowS ?_ bq | refine Below.after ?_ bq ?_) | (exact (Eq.refl _ : (_ : List Value) = _)) | omega | go_size)); done))
          | (generalize hg0 : wq.heap.size + 1 = gy; generalize hg1 : wq.heap.size = gz; refine key Ap mp cp xp a0 a1 e0 e1 gy gz wz ?_; subst hg1; subst hg0; subst hwz; refine ⟨?_, ?_, ?_, ?_, ?_, ?_, ?_, ?_⟩ <;> ((repeat' (first | (with_reducible first | assumption | exact Below.refl _ _ | refine Blk.drewN ?_ _ | refine RowIn.drewN ?_ _ | refine below_drewN ?_ _ | refine Blk.drew ?_ | refine RowIn.drew ?_ | refine Below.drew ?_) | (with_reducible refine Blk.new' ?_ ?_ <;> first | (with_reducible rfl) | (simp; done)) | (with_reducible first | refine Blk.alloc ?_ _ | refine RowIn.alloc ?_ _ | refine Below.alloc ?_ ?_ _ | apply Blk.set' | apply Blk.far4 | apply RowIn.far4 | apply Below.far4 | apply Blk.far2 | apply RowIn.far2 | apply Below.far2 | apply Blk.far' | refine RowIn.far' ?_ ?_ _ | refine Below.far' ?_ ?_ _ | refine Blk.after ?_ bq | refine RowIn.belowS ?_ bq | refine Below.after ?_ bq ?_) | (exact (Eq.refl _ : (_ : List Value) = _)) | omega | go_size)); done))
          | (generalize hg0 : wq.heap.size = gz; generalize hg1 : w5.heap.size = gy; refine key Ap mp cp xp a0 a1 e0 e1 gy gz wz ?_; subst hg1; subst hg0; subst hwz; refine ⟨?_, ?_, ?_, ?_, ?_, ?_, ?_, ?_⟩ <;> ((repeat' (first | (with_reducible first | assumption | exact Below.refl _ _ | refine Blk.drewN ?_ _ | refine RowIn.drewN ?_ _ | refine below_drewN ?_ _ | refine Blk.drew ?_ | refine RowIn.drew ?_ | refine Below.drew ?_) | (with_reducible refine Blk.new' ?_ ?_ <;> first | (with_reducible rfl) | (simp; done)) | (with_reducible first | refine Blk.alloc ?_ _ | refine RowIn.alloc ?_ _ | refine Below.alloc ?_ ?_ _ | apply Blk.set' | apply Blk.far4 | apply RowIn.far4 | apply Below.far4 | apply Blk.far2 | apply RowIn.far2 | apply Below.far2 | apply Blk.far' | refine RowIn.far' ?_ ?_ _ | refine Below.far' ?_ ?_ _ | refine Blk.after ?_ bq | refine RowIn.belowS ?_ bq | refine Below.after ?_ bq ?_) | (exact (Eq.refl _ : (_ : List Value) = _)) | omega | go_size)); done))
          | (generalize hg0 : wq.heap.size = gy; generalize hg1 : w5.heap.size = gz; refine key Ap mp cp xp a0 a1 e0 e1 gy gz wz ?_; subst hg1; subst hg0; subst hwz; refine ⟨?_, ?_, ?_, ?_, ?_, ?_, ?_, ?_⟩ <;> ((repeat' (first | (with_reducible first | assumption | exact Below.refl _ _ | refine Blk.drewN ?_ _ | refine RowIn.drewN ?_ _ | refine below_drewN ?_ _ | refine Blk.drew ?_ | refine RowIn.drew ?_ | refine Below.drew ?_) | (with_reducible refine Blk.new' ?_ ?_ <;> first | (with_reducible rfl) | (simp; done)) | (with_reducible first | refine Blk.alloc ?_ _ | refine RowIn.alloc ?_ _ | refine Below.alloc ?_ ?_ _ | apply Blk.set' | apply Blk.far4 | apply RowIn.far4 | apply Below.far4 | apply Blk.far2 | apply RowIn.far2 | apply Below.far2 | apply Blk.far' | refine RowIn.far' ?_ ?_ _ | refine Below.far' ?_ ?_ _ | refine Blk.after ?_ bq | refine RowIn.belowS ?_ bq | refine Below.after ?_ bq ?_) | (exact (Eq.refl _ : (_ : List Value) = _)) | omega | go_size)); done))
          | (generalize hg0 : w5.heap.size + 1 = gz; generalize hg1 : w5.heap.size = gy; refine key Ap mp cp xp a0 a1 e0 e1 gy gz wz ?_; subst hg1; subst hg0; subst hwz; refine ⟨?_, ?_, ?_, ?_, ?_, ?_, ?_, ?_⟩ <;> ((repeat' (first | (with_reducible first | assumption | exact Below.refl _ _ | refine Blk.drewN ?_ _ | refine RowIn.drewN ?_ _ | refine below_drewN ?_ _ | refine Blk.drew ?_ | refine RowIn.drew ?_ | refine Below.drew ?_) | (with_reducible refine Blk.new' ?_ ?_ <;> first | (with_reducible rfl) | (simp; done)) | (with_reducible first | refine Blk.alloc ?_ _ | refine RowIn.alloc ?_ _ | refine Below.alloc ?_ ?_ _ | apply Blk.set' | apply Blk.far4 | apply RowIn.far4 | apply Below.far4 | apply Blk.far2 | apply RowIn.far2 | apply Below.far2 | apply Blk.far' | refine RowIn.far' ?_ ?_ _ | refine Below.far' ?_ ?_ _ | refine Blk.after ?_ bq | refine RowIn.belowS ?_ bq | refine Below.after ?_ bq ?_) | (exact (Eq.refl _ : (_ : List Value) = _)) | omega | go_size)); done))
          | (generalize hg0 : w5.heap.size + 1 = gy; generalize hg1 : w5.heap.size = gz; refine key Ap mp cp xp a0 a1 e0 e1 gy gz wz ?_; subst hg1; subst hg0; subst hwz; refine ⟨?_, ?_, ?_, ?_, ?_, ?_, ?_, ?_⟩ <;> ((repeat' (first | (with_reducible first | assumption | exact Below.refl _ _ | refine Blk.drewN ?_ _ | refine RowIn.drewN ?_ _ | refine below_drewN ?_ _ | refine Blk.drew ?_ | refine RowIn.drew ?_ | refine Below.drew ?_) | (with_reducible refine Blk.new' ?_ ?_ <;> first | (with_reducible rfl) | (simp; done)) | (with_reducible first | refine Blk.alloc ?_ _ | refine RowIn.alloc ?_ _ | refine Below.alloc ?_ ?_ _ | apply Blk.set' | apply Blk.far4 | apply RowIn.far4 | apply Below.far4 | apply Blk.far2 | apply RowIn.far2 | apply Below.far2 | apply Blk.far' | refine RowIn.far' ?_ ?_ _ | refine Below.far' ?_ ?_ _ | refine Blk.after ?_ bq | refine RowIn.belowS ?_ bq | refine Below.after ?_ bq ?_) | (exact (Eq.refl _ : (_ : List Value) = _)) | omega | go_size)); done))
      case k =>
        intro Ap mp cp xp a0 a1 e0 e1 gy gz w6 hF
        obtain ⟨hgy, hgz, hgyz, zo_6, rt_6, ro_6, bb_6, s6⟩ := hF
        clear zo_5 rt_5 ro_5 bb_5 ko_5 fo_5 lo_5 c0_5 c1_5 c2_5 c3_5
        have ko_6 := zo_6.cell; have fo_6 := zo_6.frozen; have lo_6 := zo_6.lt
        have c0_6 : w6.cell? ⟨w1.heap.size + 1, j * 4, none⟩ = some (.int .i64 p0) := (bb_6.cell (p := ⟨w1.heap.size + 1, j * 4, none⟩) hb0).trans C0.out
        have c1_6 : w6.cell? ⟨w1.heap.size + 1, j * 4 + 1, none⟩ = some (.int .i64 p1) := (bb_6.cell (p := ⟨w1.heap.size + 1, j * 4 + 1, none⟩) hb1).trans C1.out
        have c2_6 : w6.cell? ⟨w1.heap.size + 1, j * 4 + 2, none⟩ = some (.int .u64 q0) := (bb_6.cell (p := ⟨w1.heap.size + 1, j * 4 + 2, none⟩) hb2).trans C2.out
        have c3_6 : w6.cell? ⟨w1.heap.size + 1, j * 4 + 3, none⟩ = some (.int .u64 q1) := (bb_6.cell (p := ⟨w1.heap.size + 1, j * 4 + 3, none⟩) hb3).trans C3.out
        have hbk6 : w1.heap.size + 1 < w6.heap.size := by have := bb_6.size; omega
        go_wp2_with fail
        have sw2b : w2.heap.size ≤ w6.heap.size := bb_6.size
        apply merge2 (fun (gx : Nat) (wz : World) => w6.heap.size ≤ gx ∧ Blk wz (w1.heap.size) 24 [.slice Ao mo co, .int .i64 ((xo.length : Nat) : Int)] ∧ RowIn .u8 wz (0) (w.heap.size) (some ⟨0, 0, none⟩) 64 dbTab ∧ RowIn .u8 wz (w.heap.size + 0) (w1.heap.size) Ao mo (pack xo) ∧ Below w2.heap.size w2 wz ∧ w6.heap.size ≤ wz.heap.size)
        case main =>
          intro key
          have na_0 : w2.heap.size ≤ w6.heap.size := by omega
          have nao_0 : w1.heap.size ≠ w6.heap.size := by omega
          have nrt_0 : w6.heap.size < 0 ∨ w.heap.size ≤ w6.heap.size := by omega
          have nro_0 : w6.heap.size < w.heap.size + 0 ∨ w1.heap.size ≤ w6.heap.size := by omega
          go_region_held3 (fun w' => (∀ a, w'.cell? ⟨w1.heap.size, a, none⟩ = [.slice Ao mo co, .int .i64 ((xo.length : Nat) : Int)][a]?) ∧ w'.cell? ⟨w1.heap.size + 1, j * 4, none⟩ = some (.int .i64 p0) ∧ w'.cell? ⟨w1.heap.size + 1, j * 4 + 1, none⟩ = some (.int .i64 p1) ∧ w'.cell? ⟨w1.heap.size + 1, j * 4 + 2, none⟩ = some (.int .u64 q0) ∧ w'.cell? ⟨w1.heap.size + 1, j * 4 + 3, none⟩ = some (.int .u64 q1)) (first | with_reducible exact ⟨ko_6, c0_6, c1_6, c2_6, c3_6⟩ | (refine ⟨Blk.cell (t := 24) ?_, (Below.cell (p := ⟨w1.heap.size + 1, j * 4, none⟩) (B := w2.heap.size) (w := w2) ?_ hb0).trans C0.out, (Below.cell (p := ⟨w1.heap.size + 1, j * 4 + 1, none⟩) (B := w2.heap.size) (w := w2) ?_ hb1).trans C1.out, (Below.cell (p := ⟨w1.heap.size + 1, j * 4 + 2, none⟩) (B := w2.heap.size) (w := w2) ?_ hb2).trans C2.out, (Below.cell (p := ⟨w1.heap.size + 1, j * 4 + 3, none⟩) (B := w2.heap.size) (w := w2) ?_ hb3).trans C3.out⟩; all_goals repeat' (first | (with_reducible first | assumption | exact Below.refl _ _ | refine Blk.drewN ?_ _ | refine RowIn.drewN ?_ _ | refine below_drewN ?_ _ | refine Blk.drew ?_ | refine RowIn.drew ?_ | refine Below.drew ?_) | (with_reducible refine Blk.new' ?_ ?_ <;> first | (with_reducible rfl) | (simp; done)) | (with_reducible first | refine Blk.alloc ?_ _ | refine RowIn.alloc ?_ _ | refine Below.alloc ?_ ?_ _ | apply Blk.set' | apply Blk.far4 | apply RowIn.far4 | apply Below.far4 | apply Blk.far2 | apply RowIn.far2 | apply Below.far2 | apply Blk.far' | refine RowIn.far' ?_ ?_ _ | refine Below.far' ?_ ?_ _ | refine Blk.after ?_ bq | refine RowIn.belowS ?_ bq | refine Below.after ?_ bq ?_) | (exact (Eq.refl _ : (_ : List Value) = _)) | omega | go_size))) (
            (go_simp; go_at_call 33; refine (dRead_none Ao mo co xo (-1) p0 p1 q0 q1 _ (by exact RowIn.row (lo := w.heap.size + 0) (hi := w1.heap.size) (by repeat' (first | (with_reducible first | assumption | exact Below.refl _ _ | refine Blk.drewN ?_ _ | refine RowIn.drewN ?_ _ | refine below_drewN ?_ _ | refine Blk.drew ?_ | refine RowIn.drew ?_ | refine Below.drew ?_) | (with_reducible refine Blk.new' ?_ ?_ <;> first | (with_reducible rfl) | (simp; done)) | (with_reducible first | refine Blk.alloc ?_ _ | refine RowIn.alloc ?_ _ | refine Below.alloc ?_ ?_ _ | apply Blk.set' | apply Blk.far' | refine RowIn.far' ?_ ?_ _ | refine Below.far' ?_ ?_ _) | (exact (Eq.refl _ : (_ : List Value) = _)) | omega | go_size))) hco (by omega) hq0 hq1 HN.out).mono ?_; rintro e wq ⟨rfl, bq⟩
             have sq := bq.size
             try simp only [World.size_alloc, World.size_setCell, World.size_drew, size_drewN] at sq
             try (with_reducible (have zq1 := Blk.after (Blk.drew (Blk.new' (g := w6.heap.size) (t := 38) (l := [.int .i64 0, .int .i64 0, .int .u64 0, .int .u64 0]) rfl rfl)) bq); have kq1 := zq1.cell; have fq1 := zq1.frozen; have lq1 := zq1.lt)))
          all_goals
            refine gen_world (fun wz hwz => ?_)
            first
            | (generalize hg0 : wq.heap.size = gx; refine key gx wz ?_; subst hg0; subst hwz; refine ⟨?_, ?_, ?_, ?_, ?_, ?_⟩ <;> ((repeat' (first | (with_reducible first | assumption | exact Below.refl _ _ | refine Blk.drewN ?_ _ | refine RowIn.drewN ?_ _ | refine below_drewN ?_ _ | refine Blk.drew ?_ | refine RowIn.drew ?_ | refine Below.drew ?_) | (with_reducible refine Blk.new' ?_ ?_ <;> first | (with_reducible rfl) | (simp; done)) | (with_reducible first | refine Blk.alloc ?_ _ | refine RowIn.alloc ?_ _ | refine Below.alloc ?_ ?_ _ | apply Blk.set' | apply Blk.far4 | apply RowIn.far4 | apply Below.far4 | apply Blk.far2 | apply RowIn.far2 | apply Below.far2 | apply Blk.far' | refine RowIn.far' ?_ ?_ _ | refine Below.far' ?_ ?_ _ | refine Blk.after ?_ bq | refine RowIn.belowS ?_ bq | refine Below.after ?_ bq ?_) | (exact (Eq.refl _ : (_ : List Value) = _)) | omega | go_size)); done))
            | (generalize hg0 : w6.heap.size = gx; refine key gx wz ?_; subst hg0; subst hwz; refine ⟨?_, ?_, ?_, ?_, ?_, ?_⟩ <;> ((repeat' (first | (with_reducible first | assumption | exact Below.refl _ _ | refine Blk.drewN ?_ _ | refine RowIn.drewN ?_ _ | refine below_drewN ?_ _ | refine Blk.drew ?_ | refine RowIn.drew ?_ | refine Below.drew ?_) | (with_reducible refine Blk.new' ?_ ?_ <;> first | (with_reducible rfl) | (simp; done)) | (with_reducible first | refine Blk.alloc ?_ _ | refine RowIn.alloc ?_ _ | refine Below.alloc ?_ ?_ _ | apply Blk.set' | apply Blk.far4 | apply RowIn.far4 | apply Below.far4 | apply Blk.far2 | apply RowIn.far2 | apply Below.far2 | apply Blk.far' | refine RowIn.far' ?_ ?_ _ | refine Below.far' ?_ ?_ _ | refine Blk.after ?_ bq | refine RowIn.belowS ?_ bq | refine Below.after ?_ bq ?_) | (exact (Eq.refl _ : (_ : List Value) = _)) | omega | go_size)); done))
        case k =>
          intro gx w7 hF
          obtain ⟨hgx, zo_7, rt_7, ro_7, bb_7, s7⟩ := hF
          clear zo_6 rt_6 ro_6 bb_6 s6 ko_6 fo_6 lo_6 c0_6 c1_6 c2_6 c3_6
          have ko_7 := zo_7.cell; have fo_7 := zo_7.frozen; have lo_7 := zo_7.lt
          have c0_7 : w7.cell? ⟨w1.heap.size + 1, j * 4, none⟩ = some (.int .i64 p0) := (bb_7.cell (p := ⟨w1.heap.size + 1, j * 4, none⟩) hb0).trans C0.out
          have c1_7 : w7.cell? ⟨w1.heap.size + 1, j * 4 + 1, none⟩ = some (.int .i64 p1) := (bb_7.cell (p := ⟨w1.heap.size + 1, j * 4 + 1, none⟩) hb1).trans C1.out
          have c2_7 : w7.cell? ⟨w1.heap.size + 1, j * 4 + 2, none⟩ = some (.int .u64 q0) := (bb_7.cell (p := ⟨w1.heap.size + 1, j * 4 + 2, none⟩) hb2).trans C2.out
          have c3_7 : w7.cell? ⟨w1.heap.size + 1, j * 4 + 3, none⟩ = some (.int .u64 q1) := (bb_7.cell (p := ⟨w1.heap.size + 1, j * 4 + 3, none⟩) hb3).trans C3.out
          have hbk7 : w1.heap.size + 1 < w7.heap.size := by have := bb_7.size; omega
          go_wp2_with fail
          refine (dcheck_bad p0 p1 q0 q1 _ hq0 hq1 HN.out).mono ?_
          rintro e w8 ⟨rfl, b8⟩
          have s8 := b8.size
          try simp only [World.size_alloc, World.size_setCell, World.size_drew, size_drewN] at s8
          obtain ⟨zo_8, rt_8, ro_8, bb_8⟩ : Blk w8 (w1.heap.size) 24 [.slice Ao mo co, .int .i64 ((xo.length : Nat) : Int)] ∧ RowIn .u8 w8 (0) (w.heap.size) (some ⟨0, 0, none⟩) 64 dbTab ∧ RowIn .u8 w8 (w.heap.size + 0) (w1.heap.size) Ao mo (pack xo) ∧ Below w2.heap.size w2 w8 := by
            refine ⟨?_, ?_, ?_, ?_⟩
            all_goals repeat' (first | (with_reducible first | assumption | exact Below.refl _ _ | refine Blk.drewN ?_ _ | refine RowIn.drewN ?_ _ | refine below_drewN ?_ _ | refine Blk.drew ?_ | refine RowIn.drew ?_ | refine Below.drew ?_) | (with_reducible refine Blk.new' ?_ ?_ <;> first | (with_reducible rfl) | (simp; done)) | (with_reducible first | refine Blk.alloc ?_ _ | refine RowIn.alloc ?_ _ | refine Below.alloc ?_ ?_ _ | apply Blk.set' | apply Blk.far' | refine RowIn.far' ?_ ?_ _ | refine Below.far' ?_ ?_ _ | refine Blk.after ?_ b8 | refine RowIn.belowS ?_ b8 | refine Below.after ?_ b8 ?_) | (exact (Eq.refl _ : (_ : List Value) = _)) | omega | go_size)
          clear zo_7 rt_7 ro_7 bb_7 s7 ko_7 fo_7 lo_7 c0_7 c1_7 c2_7 c3_7 b8
          have ko_8 := zo_8.cell; have fo_8 := zo_8.frozen; have lo_8 := zo_8.lt
          have c0_8 : w8.cell? ⟨w1.heap.size + 1, j * 4, none⟩ = some (.int .i64 p0) := (bb_8.cell (p := ⟨w1.heap.size + 1, j * 4, none⟩) hb0).trans C0.out
          have c1_8 : w8.cell? ⟨w1.heap.size + 1, j * 4 + 1, none⟩ = some (.int .i64 p1) := (bb_8.cell (p := ⟨w1.heap.size + 1, j * 4 + 1, none⟩) hb1).trans C1.out
          have c2_8 : w8.cell? ⟨w1.heap.size + 1, j * 4 + 2, none⟩ = some (.int .u64 q0) := (bb_8.cell (p := ⟨w1.heap.size + 1, j * 4 + 2, none⟩) hb2).trans C2.out
          have c3_8 : w8.cell? ⟨w1.heap.size + 1, j * 4 + 3, none⟩ = some (.int .u64 q1) := (bb_8.cell (p := ⟨w1.heap.size + 1, j * 4 + 3, none⟩) hb3).trans C3.out
          go_wp2
          go_roundg (7 - (j + 1))
          case measure => omega
          case rel => exact ⟨j + 1, by omega, by go_num, bb_8⟩
    · go_wp2_with fail
      go_wp2_with fail
      refine (dlearn_c (p0 := 24) (p1 := 24) (q0 := 68719476735) (q1 := 68719476735) (v := 4294967295) (u0 := 24) (u1 := 24) (v0 := 68719476735) (v1 := 68702699519) _ (by decide) (by decide) (by decide)).mono ?_
      rintro e w4 ⟨rfl, b4⟩
      have s4 := b4.size
      try simp only [World.size_alloc, World.size_setCell, World.size_drew, size_drewN] at s4
      obtain ⟨zo_4, rt_4, ro_4, bb_4⟩ : Blk w4 (w1.heap.size) 24 [.slice Ao mo co, .int .i64 ((xo.length : Nat) : Int)] ∧ RowIn .u8 w4 (0) (w.heap.size) (some ⟨0, 0, none⟩) 64 dbTab ∧ RowIn .u8 w4 (w.heap.size + 0) (w1.heap.size) Ao mo (pack xo) ∧ Below w2.heap.size w2 w4 := by
        refine ⟨?_, ?_, ?_, ?_⟩
        all_goals repeat' (first | (with_reducible first | assumption | exact Below.refl _ _ | refine Blk.drewN ?_ _ | refine RowIn.drewN ?_ _ | refine below_drewN ?_ _ | refine Blk.drew ?_ | refine RowIn.drew ?_ | refine Below.drew ?_) | (with_reducible refine Blk.new' ?_ ?_ <;> first | (with_reducible rfl) | (simp; done)) | (with_reducible first | refine Blk.alloc ?_ _ | refine RowIn.alloc ?_ _ | refine Below.alloc ?_ ?_ _ | apply Blk.set' | apply Blk.far' | refine RowIn.far' ?_ ?_ _ | refine Below.far' ?_ ?_ _ | refine Blk.after ?_ b4 | refine RowIn.belowS ?_ b4 | refine Below.after ?_ b4 ?_) | (exact (Eq.refl _ : (_ : List Value) = _)) | omega | go_size)
      clear zo_3 rt_3 ro_3 bb_3 ko_3 fo_3 lo_3 b4
      have ko_4 := zo_4.cell; have fo_4 := zo_4.frozen; have lo_4 := zo_4.lt
      go_wp2_with fail
      refine (dlearn_c (p0 := 0) (p1 := 0) (q0 := 0) (q1 := 0) (v := 0) (u0 := 0) (u1 := 0) (v0 := 0) (v1 := 0) _ (by decide) (by decide) (by decide)).mono ?_
      rintro e w5 ⟨rfl, b5⟩
      have s5 := b5.size
      try simp only [World.size_alloc, World.size_setCell, World.size_drew, size_drewN] at s5
      obtain ⟨zo_5, zsame_5, rt_5, ro_5, bb_5⟩ : Blk w5 (w1.heap.size) 24 [.slice Ao mo co, .int .i64 ((xo.length : Nat) : Int)] ∧ Blk w5 (w4.heap.size) 38 [.int .i64 24, .int .i64 24, .int .u64 68719476735, .int .u64 68702699519] ∧ RowIn .u8 w5 (0) (w.heap.size) (some ⟨0, 0, none⟩) 64 dbTab ∧ RowIn .u8 w5 (w.heap.size + 0) (w1.heap.size) Ao mo (pack xo) ∧ Below w2.heap.size w2 w5 := by
        refine ⟨?_, ?_, ?_, ?_, ?_⟩
        all_goals repeat' (first | (with_reducible first | assumption | exact Below.refl _ _ | refine Blk.drewN ?_ _ | refine RowIn.drewN ?_ _ | refine below_drewN ?_ _ | refine Blk.drew ?_ | refine RowIn.drew ?_ | refine Below.drew ?_) | (with_reducible refine Blk.new' ?_ ?_ <;> first | (with_reducible rfl) | (simp; done)) | (with_reducible first | refine Blk.alloc ?_ _ | refine RowIn.alloc ?_ _ | refine Below.alloc ?_ ?_ _ | apply Blk.set' | apply Blk.far' | refine RowIn.far' ?_ ?_ _ | refine Below.far' ?_ ?_ _ | refine Blk.after ?_ b5 | refine RowIn.belowS ?_ b5 | refine Below.after ?_ b5 ?_) | (exact (Eq.refl _ : (_ : List Value) = _)) | omega | go_size)
      clear zo_4 rt_4 ro_4 bb_4 ko_4 fo_4 lo_4 b5
      have ko_5 := zo_5.cell; have fo_5 := zo_5.frozen; have lo_5 := zo_5.lt
      have ksame_5 := zsame_5.cell; have fsame_5 := zsame_5.frozen; have lsame_5 := zsame_5.lt
      go_wp2_with fail
      refine (dlearn_c (p0 := 0) (p1 := 0) (q0 := 32) (q1 := 32) (v := 3) (u0 := 1) (u1 := 0) (v0 := 33) (v1 := 32) _ (by decide) (by decide) (by decide)).mono ?_
      rintro e w6 ⟨rfl, b6⟩
      have s6 := b6.size
      try simp only [World.size_alloc, World.size_setCell, World.size_drew, size_drewN] at s6
      obtain ⟨zo_6, zsame_6, zlow_6, rt_6, ro_6, bb_6⟩ : Blk w6 (w1.heap.size) 24 [.slice Ao mo co, .int .i64 ((xo.length : Nat) : Int)] ∧ Blk w6 (w4.heap.size) 38 [.int .i64 24, .int .i64 24, .int .u64 68719476735, .int .u64 68702699519] ∧ Blk w6 (w5.heap.size) 38 [.int .i64 0, .int .i64 0, .int .u64 0, .int .u64 0] ∧ RowIn .u8 w6 (0) (w.heap.size) (some ⟨0, 0, none⟩) 64 dbTab ∧ RowIn .u8 w6 (w.heap.size + 0) (w1.heap.size) Ao mo (pack xo) ∧ Below w2.heap.size w2 w6 := by
        refine ⟨?_, ?_, ?_, ?_, ?_, ?_⟩
        all_goals repeat' (first | (with_reducible first | assumption | exact Below.refl _ _ | refine Blk.drewN ?_ _ | refine RowIn.drewN ?_ _ | refine below_drewN ?_ _ | refine Blk.drew ?_ | refine RowIn.drew ?_ | refine Below.drew ?_) | (with_reducible refine Blk.new' ?_ ?_ <;> first | (with_reducible rfl) | (simp; done)) | (with_reducible first | refine Blk.alloc ?_ _ | refine RowIn.alloc ?_ _ | refine Below.alloc ?_ ?_ _ | apply Blk.set' | apply Blk.far' | refine RowIn.far' ?_ ?_ _ | refine Below.far' ?_ ?_ _ | refine Blk.after ?_ b6 | refine RowIn.belowS ?_ b6 | refine Below.after ?_ b6 ?_) | (exact (Eq.refl _ : (_ : List Value) = _)) | omega | go_size)
      clear zo_5 zsame_5 rt_5 ro_5 bb_5 ko_5 fo_5 lo_5 ksame_5 fsame_5 lsame_5 b6
      have ko_6 := zo_6.cell; have fo_6 := zo_6.frozen; have lo_6 := zo_6.lt
      have ksame_6 := zsame_6.cell; have fsame_6 := zsame_6.frozen; have lsame_6 := zsame_6.lt
      have klow_6 := zlow_6.cell; have flow_6 := zlow_6.frozen; have llow_6 := zlow_6.lt
      go_wp2_with fail
      refine (dlen_c (p0 := 0) (p1 := 0) (q0 := 0) (q1 := 0) (v := 4294967295) (y := 81) _ (by decide) (by decide) (by decide)).mono ?_
      rintro e w7 ⟨rfl, b7⟩
      have s7 := b7.size
      try simp only [World.size_alloc, World.size_setCell, World.size_drew, size_drewN] at s7
      obtain ⟨zo_7, zsame_7, zlow_7, zup_7, rt_7, ro_7, bb_7⟩ : Blk w7 (w1.heap.size) 24 [.slice Ao mo co, .int .i64 ((xo.length : Nat) : Int)] ∧ Blk w7 (w4.heap.size) 38 [.int .i64 24, .int .i64 24, .int .u64 68719476735, .int .u64 68702699519] ∧ Blk w7 (w5.heap.size) 38 [.int .i64 0, .int .i64 0, .int .u64 0, .int .u64 0] ∧ Blk w7 (w6.heap.size) 38 [.int .i64 1, .int .i64 0, .int .u64 33, .int .u64 32] ∧ RowIn .u8 w7 (0) (w.heap.size) (some ⟨0, 0, none⟩) 64 dbTab ∧ RowIn .u8 w7 (w.heap.size + 0) (w1.heap.size) Ao mo (pack xo) ∧ Below w2.heap.size w2 w7 := by
        refine ⟨?_, ?_, ?_, ?_, ?_, ?_, ?_⟩
        all_goals repeat' (first | (with_reducible first | assumption | exact Below.refl _ _ | refine Blk.drewN ?_ _ | refine RowIn.drewN ?_ _ | refine below_drewN ?_ _ | refine Blk.drew ?_ | refine RowIn.drew ?_ | refine Below.drew ?_) | (with_reducible refine Blk.new' ?_ ?_ <;> first | (with_reducible rfl) | (simp; done)) | (with_reducible first | refine Blk.alloc ?_ _ | refine RowIn.alloc ?_ _ | refine Below.alloc ?_ ?_ _ | apply Blk.set' | apply Blk.far' | refine RowIn.far' ?_ ?_ _ | refine Below.far' ?_ ?_ _ | refine Blk.after ?_ b7 | refine RowIn.belowS ?_ b7 | refine Below.after ?_ b7 ?_) | (exact (Eq.refl _ : (_ : List Value) = _)) | omega | go_size)
      clear zo_6 zsame_6 zlow_6 rt_6 ro_6 bb_6 ko_6 fo_6 lo_6 ksame_6 fsame_6 lsame_6 klow_6 flow_6 llow_6 b7
      have ko_7 := zo_7.cell; have fo_7 := zo_7.frozen; have lo_7 := zo_7.lt
      have ksame_7 := zsame_7.cell; have fsame_7 := zsame_7.frozen; have lsame_7 := zsame_7.lt
      have klow_7 := zlow_7.cell; have flow_7 := zlow_7.frozen; have llow_7 := zlow_7.lt
      have kup_7 := zup_7.cell; have fup_7 := zup_7.frozen; have lup_7 := zup_7.lt
      go_wp2_with fail
      refine (dWrite_bad none 0 0 1 [] 0 0 0 0 0 _ Row.nil (by intro x hx; cases hx) ⟨Nat.le_refl _, Nat.zero_le _⟩ not_valid8).mono ?_
      rintro e w8 ⟨Ap, mp, cp, xp, a0, a1, e0, e1, rfl, hcp, rp, HXp, HDp, b8⟩
      clear rp HXp HDp hcp
      have s8 := b8.size
      try simp only [World.size_alloc, World.size_setCell, World.size_drew, size_drewN] at s8
      obtain ⟨zo_8, zsame_8, zlow_8, zup_8, zwrong_8, rt_8, ro_8, bb_8⟩ : Blk w8 (w1.heap.size) 24 [.slice Ao mo co, .int .i64 ((xo.length : Nat) : Int)] ∧ Blk w8 (w4.heap.size) 38 [.int .i64 24, .int .i64 24, .int .u64 68719476735, .int .u64 68702699519] ∧ Blk w8 (w5.heap.size) 38 [.int .i64 0, .int .i64 0, .int .u64 0, .int .u64 0] ∧ Blk w8 (w6.heap.size) 38 [.int .i64 1, .int .i64 0, .int .u64 33, .int .u64 32] ∧ Blk w8 (w7.heap.size) 24 [.slice none 0 0, .int .i64 1] ∧ RowIn .u8 w8 (0) (w.heap.size) (some ⟨0, 0, none⟩) 64 dbTab ∧ RowIn .u8 w8 (w.heap.size + 0) (w1.heap.size) Ao mo (pack xo) ∧ Below w2.heap.size w2 w8 := by
        refine ⟨?_, ?_, ?_, ?_, ?_, ?_, ?_, ?_⟩
        all_goals repeat' (first | (with_reducible first | assumption | exact Below.refl _ _ | refine Blk.drewN ?_ _ | refine RowIn.drewN ?_ _ | refine below_drewN ?_ _ | refine Blk.drew ?_ | refine RowIn.drew ?_ | refine Below.drew ?_) | (with_reducible refine Blk.new' ?_ ?_ <;> first | (with_reducible rfl) | (simp; done)) | (with_reducible first | refine Blk.alloc ?_ _ | refine RowIn.alloc ?_ _ | refine Below.alloc ?_ ?_ _ | apply Blk.set' | apply Blk.far' | refine RowIn.far' ?_ ?_ _ | refine Below.far' ?_ ?_ _ | refine Blk.after ?_ b8 | refine RowIn.belowS ?_ b8 | refine Below.after ?_ b8 ?_) | (exact (Eq.refl _ : (_ : List Value) = _)) | omega | go_size)
      clear zo_7 zsame_7 zlow_7 zup_7 rt_7 ro_7 bb_7 ko_7 fo_7 lo_7 ksame_7 fsame_7 lsame_7 klow_7 flow_7 llow_7 kup_7 fup_7 lup_7 b8
      have ko_8 := zo_8.cell; have fo_8 := zo_8.frozen; have lo_8 := zo_8.lt
      have ksame_8 := zsame_8.cell; have fsame_8 := zsame_8.frozen; have lsame_8 := zsame_8.lt
      have klow_8 := zlow_8.cell; have flow_8 := zlow_8.frozen; have llow_8 := zlow_8.lt
      have kup_8 := zup_8.cell; have fup_8 := zup_8.frozen; have lup_8 := zup_8.lt
      have kwrong_8 := zwrong_8.cell; have fwrong_8 := zwrong_8.frozen; have lwrong_8 := zwrong_8.lt
      go_wp2_with fail
      refine (dRead_bad none 0 0 1 [] (-1) 0 0 0 0 _ Row.nil (by intro x hx; cases hx) ⟨Nat.le_refl _, Nat.zero_le _⟩ not_valid8).mono ?_
      rintro e w9 ⟨rfl, b9⟩
      have s9 := b9.size
      try simp only [World.size_alloc, World.size_setCell, World.size_drew, size_drewN] at s9
      obtain ⟨zo_9, zsame_9, zlow_9, zup_9, zwrong_9, rt_9, ro_9, bb_9⟩ : Blk w9 (w1.heap.size) 24 [.slice Ao mo co, .int .i64 ((xo.length : Nat) : Int)] ∧ Blk w9 (w4.heap.size) 38 [.int .i64 24, .int .i64 24, .int .u64 68719476735, .int .u64 68702699519] ∧ Blk w9 (w5.heap.size) 38 [.int .i64 0, .int .i64 0, .int .u64 0, .int .u64 0] ∧ Blk w9 (w6.heap.size) 38 [.int .i64 1, .int .i64 0, .int .u64 33, .int .u64 32] ∧ Blk w9 (w7.heap.size) 24 [.slice none 0 0, .int .i64 1] ∧ RowIn .u8 w9 (0) (w.heap.size) (some ⟨0, 0, none⟩) 64 dbTab ∧ RowIn .u8 w9 (w.heap.size + 0) (w1.heap.size) Ao mo (pack xo) ∧ Below w2.heap.size w2 w9 := by
        refine ⟨?_, ?_, ?_, ?_, ?_, ?_, ?_, ?_⟩
        all_goals repeat' (first | (with_reducible first | assumption | exact Below.refl _ _ | refine Blk.drewN ?_ _ | refine RowIn.drewN ?_ _ | refine below_drewN ?_ _ | refine Blk.drew ?_ | refine RowIn.drew ?_ | refine Below.drew ?_) | (with_reducible refine Blk.new' ?_ ?_ <;> first | (with_reducible rfl) | (simp; done)) | (with_reducible first | refine Blk.alloc ?_ _ | refine RowIn.alloc ?_ _ | refine Below.alloc ?_ ?_ _ | apply Blk.set' | apply Blk.far' | refine RowIn.far' ?_ ?_ _ | refine Below.far' ?_ ?_ _ | refine Blk.after ?_ b9 | refine RowIn.belowS ?_ b9 | refine Below.after ?_ b9 ?_) | (exact (Eq.refl _ : (_ : List Value) = _)) | omega | go_size)
      clear zo_8 zsame_8 zlow_8 zup_8 zwrong_8 rt_8 ro_8 bb_8 ko_8 fo_8 lo_8 ksame_8 fsame_8 lsame_8 klow_8 flow_8 llow_8 kup_8 fup_8 lup_8 kwrong_8 fwrong_8 lwrong_8 b9
      have ko_9 := zo_9.cell; have fo_9 := zo_9.frozen; have lo_9 := zo_9.lt
      have ksame_9 := zsame_9.cell; have fsame_9 := zsame_9.frozen; have lsame_9 := zsame_9.lt
      have klow_9 := zlow_9.cell; have flow_9 := zlow_9.frozen; have llow_9 := zlow_9.lt
      have kup_9 := zup_9.cell; have fup_9 := zup_9.frozen; have lup_9 := zup_9.lt
      have kwrong_9 := zwrong_9.cell; have fwrong_9 := zwrong_9.frozen; have lwrong_9 := zwrong_9.lt
      go_wp2_with fail
      refine (dread_c Ao mo co xo (-1) (p0 := 0) (p1 := 0) (q0 := 0) (q1 := 0) (u0 := 0) (u1 := 0) (v0 := 0) (v1 := 0) (x := 0) (y := 0) (er := 2) _ (by exact RowIn.row (lo := w.heap.size + 0) (hi := w1.heap.size) (by repeat' (first | (with_reducible first | assumption | exact Below.refl _ _ | refine Blk.drewN ?_ _ | refine RowIn.drewN ?_ _ | refine below_drewN ?_ _ | refine Blk.drew ?_ | refine RowIn.drew ?_ | refine Below.drew ?_) | (with_reducible refine Blk.new' ?_ ?_ <;> first | (with_reducible rfl) | (simp; done)) | (with_reducible first | refine Blk.alloc ?_ _ | refine RowIn.alloc ?_ _ | refine Below.alloc ?_ ?_ _ | apply Blk.set' | apply Blk.far' | refine RowIn.far' ?_ ?_ _ | refine Below.far' ?_ ?_ _) | (exact (Eq.refl _ : (_ : List Value) = _)) | omega | go_size))) hco (by omega) (by omega) (by decide) (by exact RowIn.row (lo := 0) (hi := w.heap.size) (by repeat' (first | (with_reducible first | assumption | exact Below.refl _ _ | refine Blk.drewN ?_ _ | refine RowIn.drewN ?_ _ | refine below_drewN ?_ _ | refine Blk.drew ?_ | refine RowIn.drew ?_ | refine Below.drew ?_) | (with_reducible refine Blk.new' ?_ ?_ <;> first | (with_reducible rfl) | (simp; done)) | (with_reducible first | refine Blk.alloc ?_ _ | refine RowIn.alloc ?_ _ | refine Below.alloc ?_ ?_ _ | apply Blk.set' | apply Blk.far' | refine RowIn.far' ?_ ?_ _ | refine Below.far' ?_ ?_ _) | (exact (Eq.refl _ : (_ : List Value) = _)) | omega | go_size))) (by rw [HO.out]; exact ex8a)).mono ?_
      rintro e w10 ⟨rfl, b10⟩
      have s10 := b10.size
      try simp only [World.size_alloc, World.size_setCell, World.size_drew, size_drewN] at s10
      obtain ⟨zo_10, zsame_10, zlow_10, zup_10, rt_10, ro_10, bb_10⟩ : Blk w10 (w1.heap.size) 24 [.slice Ao mo co, .int .i64 ((xo.length : Nat) : Int)] ∧ Blk w10 (w4.heap.size) 38 [.int .i64 24, .int .i64 24, .int .u64 68719476735, .int .u64 68702699519] ∧ Blk w10 (w5.heap.size) 38 [.int .i64 0, .int .i64 0, .int .u64 0, .int .u64 0] ∧ Blk w10 (w6.heap.size) 38 [.int .i64 1, .int .i64 0, .int .u64 33, .int .u64 32] ∧ RowIn .u8 w10 (0) (w.heap.size) (some ⟨0, 0, none⟩) 64 dbTab ∧ RowIn .u8 w10 (w.heap.size + 0) (w1.heap.size) Ao mo (pack xo) ∧ Below w2.heap.size w2 w10 := by
        refine ⟨?_, ?_, ?_, ?_, ?_, ?_, ?_⟩
        all_goals repeat' (first | (with_reducible first | assumption | exact Below.refl _ _ | refine Blk.drewN ?_ _ | refine RowIn.drewN ?_ _ | refine below_drewN ?_ _ | refine Blk.drew ?_ | refine RowIn.drew ?_ | refine Below.drew ?_) | (with_reducible refine Blk.new' ?_ ?_ <;> first | (with_reducible rfl) | (simp; done)) | (with_reducible first | refine Blk.alloc ?_ _ | refine RowIn.alloc ?_ _ | refine Below.alloc ?_ ?_ _ | apply Blk.set' | apply Blk.far' | refine RowIn.far' ?_ ?_ _ | refine Below.far' ?_ ?_ _ | refine Blk.after ?_ b10 | refine RowIn.belowS ?_ b10 | refine Below.after ?_ b10 ?_) | (exact (Eq.refl _ : (_ : List Value) = _)) | omega | go_size)
      clear zo_9 zsame_9 zlow_9 zup_9 zwrong_9 rt_9 ro_9 bb_9 ko_9 fo_9 lo_9 ksame_9 fsame_9 lsame_9 klow_9 flow_9 llow_9 kup_9 fup_9 lup_9 kwrong_9 fwrong_9 lwrong_9 b10
      have ko_10 := zo_10.cell; have fo_10 := zo_10.frozen; have lo_10 := zo_10.lt
      have ksame_10 := zsame_10.cell; have fsame_10 := zsame_10.frozen; have lsame_10 := zsame_10.lt
      have klow_10 := zlow_10.cell; have flow_10 := zlow_10.frozen; have llow_10 := zlow_10.lt
      have kup_10 := zup_10.cell; have fup_10 := zup_10.frozen; have lup_10 := zup_10.lt
      go_wp2_with fail
      refine (dread_c Ao mo co xo 1 (p0 := 0) (p1 := 0) (q0 := 0) (q1 := 0) (u0 := 0) (u1 := 0) (v0 := 0) (v1 := 0) (x := 0) (y := 0) (er := 24) _ (by exact RowIn.row (lo := w.heap.size + 0) (hi := w1.heap.size) (by repeat' (first | (with_reducible first | assumption | exact Below.refl _ _ | refine Blk.drewN ?_ _ | refine RowIn.drewN ?_ _ | refine below_drewN ?_ _ | refine Blk.drew ?_ | refine RowIn.drew ?_ | refine Below.drew ?_) | (with_reducible refine Blk.new' ?_ ?_ <;> first | (with_reducible rfl) | (simp; done)) | (with_reducible first | refine Blk.alloc ?_ _ | refine RowIn.alloc ?_ _ | refine Below.alloc ?_ ?_ _ | apply Blk.set' | apply Blk.far' | refine RowIn.far' ?_ ?_ _ | refine Below.far' ?_ ?_ _) | (exact (Eq.refl _ : (_ : List Value) = _)) | omega | go_size))) hco (by omega) (by omega) (by decide) (by exact RowIn.row (lo := 0) (hi := w.heap.size) (by repeat' (first | (with_reducible first | assumption | exact Below.refl _ _ | refine Blk.drewN ?_ _ | refine RowIn.drewN ?_ _ | refine below_drewN ?_ _ | refine Blk.drew ?_ | refine RowIn.drew ?_ | refine Below.drew ?_) | (with_reducible refine Blk.new' ?_ ?_ <;> first | (with_reducible rfl) | (simp; done)) | (with_reducible first | refine Blk.alloc ?_ _ | refine RowIn.alloc ?_ _ | refine Below.alloc ?_ ?_ _ | apply Blk.set' | apply Blk.far' | refine RowIn.far' ?_ ?_ _ | refine Below.far' ?_ ?_ _) | (exact (Eq.refl _ : (_ : List Value) = _)) | omega | go_size))) (by rw [HO.out]; exact ex8b)).mono ?_
      rintro e w11 ⟨rfl, b11⟩
      have s11 := b11.size
      try simp only [World.size_alloc, World.size_setCell, World.size_drew, size_drewN] at s11
      obtain ⟨zo_11, zsame_11, zlow_11, zup_11, rt_11, ro_11, bb_11⟩ : Blk w11 (w1.heap.size) 24 [.slice Ao mo co, .int .i64 ((xo.length : Nat) : Int)] ∧ Blk w11 (w4.heap.size) 38 [.int .i64 24, .int .i64 24, .int .u64 68719476735, .int .u64 68702699519] ∧ Blk w11 (w5.heap.size) 38 [.int .i64 0, .int .i64 0, .int .u64 0, .int .u64 0] ∧ Blk w11 (w6.heap.size) 38 [.int .i64 1, .int .i64 0, .int .u64 33, .int .u64 32] ∧ RowIn .u8 w11 (0) (w.heap.size) (some ⟨0, 0, none⟩) 64 dbTab ∧ RowIn .u8 w11 (w.heap.size + 0) (w1.heap.size) Ao mo (pack xo) ∧ Below w2.heap.size w2 w11 := by
        refine ⟨?_, ?_, ?_, ?_, ?_, ?_, ?_⟩
        all_goals repeat' (first | (with_reducible first | assumption | exact Below.refl _ _ | refine Blk.drewN ?_ _ | refine RowIn.drewN ?_ _ | refine below_drewN ?_ _ | refine Blk.drew ?_ | refine RowIn.drew ?_ | refine Below.drew ?_) | (with_reducible refine Blk.new' ?_ ?_ <;> first | (with_reducible rfl) | (simp; done)) | (with_reducible first | refine Blk.alloc ?_ _ | refine RowIn.alloc ?_ _ | refine Below.alloc ?_ ?_ _ | apply Blk.set' | apply Blk.far' | refine RowIn.far' ?_ ?_ _ | refine Below.far' ?_ ?_ _ | refine Blk.after ?_ b11 | refine RowIn.belowS ?_ b11 | refine Below.after ?_ b11 ?_) | (exact (Eq.refl _ : (_ : List Value) = _)) | omega | go_size)
      clear zo_10 zsame_10 zlow_10 zup_10 rt_10 ro_10 bb_10 ko_10 fo_10 lo_10 ksame_10 fsame_10 lsame_10 klow_10 flow_10 llow_10 kup_10 fup_10 lup_10 b11
      have ko_11 := zo_11.cell; have fo_11 := zo_11.frozen; have lo_11 := zo_11.lt
      have ksame_11 := zsame_11.cell; have fsame_11 := zsame_11.frozen; have lsame_11 := zsame_11.lt
      have klow_11 := zlow_11.cell; have flow_11 := zlow_11.frozen; have llow_11 := zlow_11.lt
      have kup_11 := zup_11.cell; have fup_11 := zup_11.frozen; have lup_11 := zup_11.lt
      go_wp2_with fail
      refine (dread_c Ao mo co xo 0 (p0 := 0) (p1 := 0) (q0 := 0) (q1 := 0) (u0 := 0) (u1 := 0) (v0 := 0) (v1 := 0) (x := 0) (y := 0) (er := 24) _ (by exact RowIn.row (lo := w.heap.size + 0) (hi := w1.heap.size) (by repeat' (first | (with_reducible first | assumption | exact Below.refl _ _ | refine Blk.drewN ?_ _ | refine RowIn.drewN ?_ _ | refine below_drewN ?_ _ | refine Blk.drew ?_ | refine RowIn.drew ?_ | refine Below.drew ?_) | (with_reducible refine Blk.new' ?_ ?_ <;> first | (with_reducible rfl) | (simp; done)) | (with_reducible first | refine Blk.alloc ?_ _ | refine RowIn.alloc ?_ _ | refine Below.alloc ?_ ?_ _ | apply Blk.set' | apply Blk.far' | refine RowIn.far' ?_ ?_ _ | refine Below.far' ?_ ?_ _) | (exact (Eq.refl _ : (_ : List Value) = _)) | omega | go_size))) hco (by omega) (by omega) (by decide) (by exact RowIn.row (lo := 0) (hi := w.heap.size) (by repeat' (first | (with_reducible first | assumption | exact Below.refl _ _ | refine Blk.drewN ?_ _ | refine RowIn.drewN ?_ _ | refine below_drewN ?_ _ | refine Blk.drew ?_ | refine RowIn.drew ?_ | refine Below.drew ?_) | (with_reducible refine Blk.new' ?_ ?_ <;> first | (with_reducible rfl) | (simp; done)) | (with_reducible first | refine Blk.alloc ?_ _ | refine RowIn.alloc ?_ _ | refine Below.alloc ?_ ?_ _ | apply Blk.set' | apply Blk.far' | refine RowIn.far' ?_ ?_ _ | refine Below.far' ?_ ?_ _) | (exact (Eq.refl _ : (_ : List Value) = _)) | omega | go_size))) (by rw [HO.out]; exact ex8c)).mono ?_
      rintro e w12 ⟨rfl, b12⟩
      have s12 := b12.size
      try simp only [World.size_alloc, World.size_setCell, World.size_drew, size_drewN] at s12
      obtain ⟨zo_12, zsame_12, zlow_12, zup_12, rt_12, ro_12, bb_12⟩ : Blk w12 (w1.heap.size) 24 [.slice Ao mo co, .int .i64 ((xo.length : Nat) : Int)] ∧ Blk w12 (w4.heap.size) 38 [.int .i64 24, .int .i64 24, .int .u64 68719476735, .int .u64 68702699519] ∧ Blk w12 (w5.heap.size) 38 [.int .i64 0, .int .i64 0, .int .u64 0, .int .u64 0] ∧ Blk w12 (w6.heap.size) 38 [.int .i64 1, .int .i64 0, .int .u64 33, .int .u64 32] ∧ RowIn .u8 w12 (0) (w.heap.size) (some ⟨0, 0, none⟩) 64 dbTab ∧ RowIn .u8 w12 (w.heap.size + 0) (w1.heap.size) Ao mo (pack xo) ∧ Below w2.heap.size w2 w12 := by
        refine ⟨?_, ?_, ?_, ?_, ?_, ?_, ?_⟩
        all_goals repeat' (first | (with_reducible first | assumption | exact Below.refl _ _ | refine Blk.drewN ?_ _ | refine RowIn.drewN ?_ _ | refine below_drewN ?_ _ | refine Blk.drew ?_ | refine RowIn.drew ?_ | refine Below.drew ?_) | (with_reducible refine Blk.new' ?_ ?_ <;> first | (with_reducible rfl) | (simp; done)) | (with_reducible first | refine Blk.alloc ?_ _ | refine RowIn.alloc ?_ _ | refine Below.alloc ?_ ?_ _ | apply Blk.set' | apply Blk.far' | refine RowIn.far' ?_ ?_ _ | refine Below.far' ?_ ?_ _ | refine Blk.after ?_ b12 | refine RowIn.belowS ?_ b12 | refine Below.after ?_ b12 ?_) | (exact (Eq.refl _ : (_ : List Value) = _)) | omega | go_size)
      clear zo_11 zsame_11 zlow_11 zup_11 rt_11 ro_11 bb_11 ko_11 fo_11 lo_11 ksame_11 fsame_11 lsame_11 klow_11 flow_11 llow_11 kup_11 fup_11 lup_11 b12
      have ko_12 := zo_12.cell; have fo_12 := zo_12.frozen; have lo_12 := zo_12.lt
      have ksame_12 := zsame_12.cell; have fsame_12 := zsame_12.frozen; have lsame_12 := zsame_12.lt
      have klow_12 := zlow_12.cell; have flow_12 := zlow_12.frozen; have llow_12 := zlow_12.lt
      have kup_12 := zup_12.cell; have fup_12 := zup_12.frozen; have lup_12 := zup_12.lt
      go_wp2_with fail
      refine (dread_c Ao mo co xo 9223372036854775807 (p0 := 0) (p1 := 0) (q0 := 0) (q1 := 0) (u0 := 0) (u1 := 0) (v0 := 0) (v1 := 0) (x := 0) (y := 0) (er := 24) _ (by exact RowIn.row (lo := w.heap.size + 0) (hi := w1.heap.size) (by repeat' (first | (with_reducible first | assumption | exact Below.refl _ _ | refine Blk.drewN ?_ _ | refine RowIn.drewN ?_ _ | refine below_drewN ?_ _ | refine Blk.drew ?_ | refine RowIn.drew ?_ | refine Below.drew ?_) | (with_reducible refine Blk.new' ?_ ?_ <;> first | (with_reducible rfl) | (simp; done)) | (with_reducible first | refine Blk.alloc ?_ _ | refine RowIn.alloc ?_ _ | refine Below.alloc ?_ ?_ _ | apply Blk.set' | apply Blk.far' | refine RowIn.far' ?_ ?_ _ | refine Below.far' ?_ ?_ _) | (exact (Eq.refl _ : (_ : List Value) = _)) | omega | go_size))) hco (by omega) (by omega) (by decide) (by exact RowIn.row (lo := 0) (hi := w.heap.size) (by repeat' (first | (with_reducible first | assumption | exact Below.refl _ _ | refine Blk.drewN ?_ _ | refine RowIn.drewN ?_ _ | refine below_drewN ?_ _ | refine Blk.drew ?_ | refine RowIn.drew ?_ | refine Below.drew ?_) | (with_reducible refine Blk.new' ?_ ?_ <;> first | (with_reducible rfl) | (simp; done)) | (with_reducible first | refine Blk.alloc ?_ _ | refine RowIn.alloc ?_ _ | refine Below.alloc ?_ ?_ _ | apply Blk.set' | apply Blk.far' | refine RowIn.far' ?_ ?_ _ | refine Below.far' ?_ ?_ _) | (exact (Eq.refl _ : (_ : List Value) = _)) | omega | go_size))) (by rw [HO.out]; exact ex8d)).mono ?_
      rintro e w13 ⟨rfl, b13⟩
      have s13 := b13.size
      try simp only [World.size_alloc, World.size_setCell, World.size_drew, size_drewN] at s13
      obtain ⟨zo_13, zsame_13, zlow_13, zup_13, rt_13, ro_13, bb_13⟩ : Blk w13 (w1.heap.size) 24 [.slice Ao mo co, .int .i64 ((xo.length : Nat) : Int)] ∧ Blk w13 (w4.heap.size) 38 [.int .i64 24, .int .i64 24, .int .u64 68719476735, .int .u64 68702699519] ∧ Blk w13 (w5.heap.size) 38 [.int .i64 0, .int .i64 0, .int .u64 0, .int .u64 0] ∧ Blk w13 (w6.heap.size) 38 [.int .i64 1, .int .i64 0, .int .u64 33, .int .u64 32] ∧ RowIn .u8 w13 (0) (w.heap.size) (some ⟨0, 0, none⟩) 64 dbTab ∧ RowIn .u8 w13 (w.heap.size + 0) (w1.heap.size) Ao mo (pack xo) ∧ Below w2.heap.size w2 w13 := by
        refine ⟨?_, ?_, ?_, ?_, ?_, ?_, ?_⟩
        all_goals repeat' (first | (with_reducible first | assumption | exact Below.refl _ _ | refine Blk.drewN ?_ _ | refine RowIn.drewN ?_ _ | refine below_drewN ?_ _ | refine Blk.drew ?_ | refine RowIn.drew ?_ | refine Below.drew ?_) | (with_reducible refine Blk.new' ?_ ?_ <;> first | (with_reducible rfl) | (simp; done)) | (with_reducible first | refine Blk.alloc ?_ _ | refine RowIn.alloc ?_ _ | refine Below.alloc ?_ ?_ _ | apply Blk.set' | apply Blk.far' | refine RowIn.far' ?_ ?_ _ | refine Below.far' ?_ ?_ _ | refine Blk.after ?_ b13 | refine RowIn.belowS ?_ b13 | refine Below.after ?_ b13 ?_) | (exact (Eq.refl _ : (_ : List Value) = _)) | omega | go_size)
      clear zo_12 zsame_12 zlow_12 zup_12 rt_12 ro_12 bb_12 ko_12 fo_12 lo_12 ksame_12 fsame_12 lsame_12 klow_12 flow_12 llow_12 kup_12 fup_12 lup_12 b13
      have ko_13 := zo_13.cell; have fo_13 := zo_13.frozen; have lo_13 := zo_13.lt
      have ksame_13 := zsame_13.cell; have fsame_13 := zsame_13.frozen; have lsame_13 := zsame_13.lt
      have klow_13 := zlow_13.cell; have flow_13 := zlow_13.frozen; have llow_13 := zlow_13.lt
      have kup_13 := zup_13.cell; have fup_13 := zup_13.frozen; have lup_13 := zup_13.lt
      go_wp2_with fail
      refine (bput_ok Ao mo co xo 281474976710655 48 _ (by exact RowIn.row (lo := w.heap.size + 0) (hi := w1.heap.size) (by repeat' (first | (with_reducible first | assumption | exact Below.refl _ _ | refine Blk.drewN ?_ _ | refine RowIn.drewN ?_ _ | refine below_drewN ?_ _ | refine Blk.drew ?_ | refine RowIn.drew ?_ | refine Below.drew ?_) | (with_reducible refine Blk.new' ?_ ?_ <;> first | (with_reducible rfl) | (simp; done)) | (with_reducible first | refine Blk.alloc ?_ _ | refine RowIn.alloc ?_ _ | refine Below.alloc ?_ ?_ _ | apply Blk.set' | apply Blk.far' | refine RowIn.far' ?_ ?_ _ | refine Below.far' ?_ ?_ _) | (exact (Eq.refl _ : (_ : List Value) = _)) | omega | go_size))) hco (by omega) (by omega) (by decide) (by rw [HO.out]; decide)).mono ?_
      rintro e w14 ⟨Ag, mg, cg, xg, rfl, hcg, rg, HXg, b14⟩
      have Lg : xg.length ≤ 49 ∧ 49 ≤ xg.length := by rw [HXg.out]; rw [HO.out]; decide
      obtain ⟨Lg1, Lg2⟩ := Lg
      replace rg := rg.mono (lo' := w13.heap.size + 0) (by go_size) (Nat.le_refl _)
      have s14 := b14.size
      try simp only [World.size_alloc, World.size_setCell, World.size_drew, size_drewN] at s14
      obtain ⟨zo_14, zsame_14, zlow_14, zup_14, rt_14, ro_14, rg_14, bb_14⟩ : Blk w14 (w1.heap.size) 24 [.slice Ao mo co, .int .i64 ((xo.length : Nat) : Int)] ∧ Blk w14 (w4.heap.size) 38 [.int .i64 24, .int .i64 24, .int .u64 68719476735, .int .u64 68702699519] ∧ Blk w14 (w5.heap.size) 38 [.int .i64 0, .int .i64 0, .int .u64 0, .int .u64 0] ∧ Blk w14 (w6.heap.size) 38 [.int .i64 1, .int .i64 0, .int .u64 33, .int .u64 32] ∧ RowIn .u8 w14 (0) (w.heap.size) (some ⟨0, 0, none⟩) 64 dbTab ∧ RowIn .u8 w14 (w.heap.size + 0) (w1.heap.size) Ao mo (pack xo) ∧ RowIn .u8 w14 (w13.heap.size + 0) (w14.heap.size) Ag mg (pack xg) ∧ Below w2.heap.size w2 w14 := by
        refine ⟨?_, ?_, ?_, ?_, ?_, ?_, ?_, ?_⟩
        all_goals repeat' (first | (with_reducible first | assumption | exact Below.refl _ _ | refine Blk.drewN ?_ _ | refine RowIn.drewN ?_ _ | refine below_drewN ?_ _ | refine Blk.drew ?_ | refine RowIn.drew ?_ | refine Below.drew ?_) | (with_reducible refine Blk.new' ?_ ?_ <;> first | (with_reducible rfl) | (simp; done)) | (with_reducible first | refine Blk.alloc ?_ _ | refine RowIn.alloc ?_ _ | refine Below.alloc ?_ ?_ _ | apply Blk.set' | apply Blk.far' | refine RowIn.far' ?_ ?_ _ | refine Below.far' ?_ ?_ _ | refine Blk.after ?_ b14 | refine RowIn.belowS ?_ b14 | refine Below.after ?_ b14 ?_) | (exact (Eq.refl _ : (_ : List Value) = _)) | omega | go_size)
      clear zo_13 zsame_13 zlow_13 zup_13 rt_13 ro_13 bb_13 ko_13 fo_13 lo_13 ksame_13 fsame_13 lsame_13 klow_13 flow_13 llow_13 kup_13 fup_13 lup_13 b14
      have ko_14 := zo_14.cell; have fo_14 := zo_14.frozen; have lo_14 := zo_14.lt
      have ksame_14 := zsame_14.cell; have fsame_14 := zsame_14.frozen; have lsame_14 := zsame_14.lt
      have klow_14 := zlow_14.cell; have flow_14 := zlow_14.frozen; have llow_14 := zlow_14.lt
      have kup_14 := zup_14.cell; have fup_14 := zup_14.frozen; have lup_14 := zup_14.lt
      clear rg
      have HG1 : Hid (xg = true :: lowBits 281474976710655 48) := Lib.hid (by rw [HXg.out, HO.out]; rfl)
      clear HXg
      go_wp2_with fail
      refine (bput_ok Ag mg cg xg 4294967295 32 _ (by exact RowIn.row (lo := w13.heap.size + 0) (hi := w14.heap.size) (by repeat' (first | (with_reducible first | assumption | exact Below.refl _ _ | refine Blk.drewN ?_ _ | refine RowIn.drewN ?_ _ | refine below_drewN ?_ _ | refine Blk.drew ?_ | refine RowIn.drew ?_ | refine Below.drew ?_) | (with_reducible refine Blk.new' ?_ ?_ <;> first | (with_reducible rfl) | (simp; done)) | (with_reducible first | refine Blk.alloc ?_ _ | refine RowIn.alloc ?_ _ | refine Below.alloc ?_ ?_ _ | apply Blk.set' | apply Blk.far' | refine RowIn.far' ?_ ?_ _ | refine Below.far' ?_ ?_ _) | (exact (Eq.refl _ : (_ : List Value) = _)) | omega | go_size))) hcg (by omega) (by omega) (by decide) (by have h32 : (32 : Int).toNat = 32 := rfl; omega)).mono ?_
      rintro e w15 ⟨Ah, mh, ch, xh, rfl, hch, rh, HXh, b15⟩
      have Lh : xh.length ≤ 81 ∧ 81 ≤ xh.length := by rw [HXh.out]; rw [HG1.out]; decide
      obtain ⟨Lh1, Lh2⟩ := Lh
      replace rh := rh.mono (lo' := w14.heap.size + 1) (by go_size) (Nat.le_refl _)
      have s15 := b15.size
      try simp only [World.size_alloc, World.size_setCell, World.size_drew, size_drewN] at s15
      obtain ⟨zo_15, zsame_15, zlow_15, zup_15, zg_15, rt_15, ro_15, rg_15, rh_15, bb_15⟩ : Blk w15 (w1.heap.size) 24 [.slice Ao mo co, .int .i64 ((xo.length : Nat) : Int)] ∧ Blk w15 (w4.heap.size) 38 [.int .i64 24, .int .i64 24, .int .u64 68719476735, .int .u64 68702699519] ∧ Blk w15 (w5.heap.size) 38 [.int .i64 0, .int .i64 0, .int .u64 0, .int .u64 0] ∧ Blk w15 (w6.heap.size) 38 [.int .i64 1, .int .i64 0, .int .u64 33, .int .u64 32] ∧ Blk w15 (w14.heap.size) 24 [.slice Ag mg cg, .int .i64 ((xg.length : Nat) : Int)] ∧ RowIn .u8 w15 (0) (w.heap.size) (some ⟨0, 0, none⟩) 64 dbTab ∧ RowIn .u8 w15 (w.heap.size + 0) (w1.heap.size) Ao mo (pack xo) ∧ RowIn .u8 w15 (w13.heap.size + 0) (w14.heap.size) Ag mg (pack xg) ∧ RowIn .u8 w15 (w14.heap.size + 1) (w15.heap.size) Ah mh (pack xh) ∧ Below w2.heap.size w2 w15 := by
        refine ⟨?_, ?_, ?_, ?_, ?_, ?_, ?_, ?_, ?_, ?_⟩
        all_goals repeat' (first | (with_reducible first | assumption | exact Below.refl _ _ | refine Blk.drewN ?_ _ | refine RowIn.drewN ?_ _ | refine below_drewN ?_ _ | refine Blk.drew ?_ | refine RowIn.drew ?_ | refine Below.drew ?_) | (with_reducible refine Blk.new' ?_ ?_ <;> first | (with_reducible rfl) | (simp; done)) | (with_reducible first | refine Blk.alloc ?_ _ | refine RowIn.alloc ?_ _ | refine Below.alloc ?_ ?_ _ | apply Blk.set' | apply Blk.far' | refine RowIn.far' ?_ ?_ _ | refine Below.far' ?_ ?_ _ | refine Blk.after ?_ b15 | refine RowIn.belowS ?_ b15 | refine Below.after ?_ b15 ?_) | (exact (Eq.refl _ : (_ : List Value) = _)) | omega | go_size)
      clear zo_14 zsame_14 zlow_14 zup_14 rt_14 ro_14 rg_14 bb_14 ko_14 fo_14 lo_14 ksame_14 fsame_14 lsame_14 klow_14 flow_14 llow_14 kup_14 fup_14 lup_14 b15
      have ko_15 := zo_15.cell; have fo_15 := zo_15.frozen; have lo_15 := zo_15.lt
      have ksame_15 := zsame_15.cell; have fsame_15 := zsame_15.frozen; have lsame_15 := zsame_15.lt
      have klow_15 := zlow_15.cell; have flow_15 := zlow_15.frozen; have llow_15 := zlow_15.lt
      have kup_15 := zup_15.cell; have fup_15 := zup_15.frozen; have lup_15 := zup_15.lt
      have kg_15 := zg_15.cell; have fg_15 := zg_15.frozen; have lg_15 := zg_15.lt
      clear rh
      have HG2 : Hid (xh = true :: (lowBits 281474976710655 48 ++ lowBits 4294967295 32)) := Lib.hid (by rw [HXh.out, HG1.out]; rfl)
      clear HXh
      go_wp2_with fail
      obtain ⟨w16, hw16⟩ : ∃ w16, w16 = (w15.setCell ⟨w14.heap.size, 0, none⟩ (.slice Ah mh ch)).setCell ⟨w14.heap.size, 1, none⟩ (.int .i64 ((xh.length : Nat) : Int)) := ⟨_, rfl⟩
      obtain ⟨zo_16, zsame_16, zlow_16, zup_16, zg_16, rt_16, ro_16, rh_16, bb_16, s16⟩ : Blk w16 (w1.heap.size) 24 [.slice Ao mo co, .int .i64 ((xo.length : Nat) : Int)] ∧ Blk w16 (w4.heap.size) 38 [.int .i64 24, .int .i64 24, .int .u64 68719476735, .int .u64 68702699519] ∧ Blk w16 (w5.heap.size) 38 [.int .i64 0, .int .i64 0, .int .u64 0, .int .u64 0] ∧ Blk w16 (w6.heap.size) 38 [.int .i64 1, .int .i64 0, .int .u64 33, .int .u64 32] ∧ Blk w16 (w14.heap.size) 24 [.slice Ah mh ch, .int .i64 ((xh.length : Nat) : Int)] ∧ RowIn .u8 w16 (0) (w.heap.size) (some ⟨0, 0, none⟩) 64 dbTab ∧ RowIn .u8 w16 (w.heap.size + 0) (w1.heap.size) Ao mo (pack xo) ∧ RowIn .u8 w16 (w14.heap.size + 1) (w15.heap.size) Ah mh (pack xh) ∧ Below w2.heap.size w2 w16 ∧ w15.heap.size ≤ w16.heap.size := by
        rw [hw16]
        refine ⟨?_, ?_, ?_, ?_, ?_, ?_, ?_, ?_, ?_, by go_size⟩
        all_goals repeat' (first | (with_reducible first | assumption | exact Below.refl _ _ | refine Blk.drewN ?_ _ | refine RowIn.drewN ?_ _ | refine below_drewN ?_ _ | refine Blk.drew ?_ | refine RowIn.drew ?_ | refine Below.drew ?_) | (with_reducible refine Blk.new' ?_ ?_ <;> first | (with_reducible rfl) | (simp; done)) | (with_reducible first | refine Blk.alloc ?_ _ | refine RowIn.alloc ?_ _ | refine Below.alloc ?_ ?_ _ | apply Blk.set' | apply Blk.far' | refine RowIn.far' ?_ ?_ _ | refine Below.far' ?_ ?_ _) | (exact (Eq.refl _ : (_ : List Value) = _)) | omega | go_size)
      rw [← hw16]
      clear hw16
      clear zo_15 zsame_15 zlow_15 zup_15 zg_15 rt_15 ro_15 rg_15 rh_15 bb_15 ko_15 fo_15 lo_15 ksame_15 fsame_15 lsame_15 klow_15 flow_15 llow_15 kup_15 fup_15 lup_15 kg_15 fg_15 lg_15
      have ko_16 := zo_16.cell; have fo_16 := zo_16.frozen; have lo_16 := zo_16.lt
      have ksame_16 := zsame_16.cell; have fsame_16 := zsame_16.frozen; have lsame_16 := zsame_16.lt
      have klow_16 := zlow_16.cell; have flow_16 := zlow_16.frozen; have llow_16 := zlow_16.lt
      have kup_16 := zup_16.cell; have fup_16 := zup_16.frozen; have lup_16 := zup_16.lt
      have kg_16 := zg_16.cell; have fg_16 := zg_16.frozen; have lg_16 := zg_16.lt
      refine (dread_c Ah mh ch xh 0 (p0 := 0) (p1 := 0) (q0 := 0) (q1 := 0) (u0 := 0) (u1 := 0) (v0 := 0) (v1 := 0) (x := 0) (y := 0) (er := 12) _ (by exact RowIn.row (lo := w14.heap.size + 1) (hi := w15.heap.size) (by repeat' (first | (with_reducible first | assumption | exact Below.refl _ _ | refine Blk.drewN ?_ _ | refine RowIn.drewN ?_ _ | refine below_drewN ?_ _ | refine Blk.drew ?_ | refine RowIn.drew ?_ | refine Below.drew ?_) | (with_reducible refine Blk.new' ?_ ?_ <;> first | (with_reducible rfl) | (simp; done)) | (with_reducible first | refine Blk.alloc ?_ _ | refine RowIn.alloc ?_ _ | refine Below.alloc ?_ ?_ _ | apply Blk.set' | apply Blk.far' | refine RowIn.far' ?_ ?_ _ | refine Below.far' ?_ ?_ _) | (exact (Eq.refl _ : (_ : List Value) = _)) | omega | go_size))) hch (by omega) (by omega) (by decide) (by exact RowIn.row (lo := 0) (hi := w.heap.size) (by repeat' (first | (with_reducible first | assumption | exact Below.refl _ _ | refine Blk.drewN ?_ _ | refine RowIn.drewN ?_ _ | refine below_drewN ?_ _ | refine Blk.drew ?_ | refine RowIn.drew ?_ | refine Below.drew ?_) | (with_reducible refine Blk.new' ?_ ?_ <;> first | (with_reducible rfl) | (simp; done)) | (with_reducible first | refine Blk.alloc ?_ _ | refine RowIn.alloc ?_ _ | refine Below.alloc ?_ ?_ _ | apply Blk.set' | apply Blk.far' | refine RowIn.far' ?_ ?_ _ | refine Below.far' ?_ ?_ _) | (exact (Eq.refl _ : (_ : List Value) = _)) | omega | go_size))) (by rw [HG2.out]; exact ex8e)).mono ?_
      rintro e w17 ⟨rfl, b17⟩
      have s17 := b17.size
      try simp only [World.size_alloc, World.size_setCell, World.size_drew, size_drewN] at s17
      obtain ⟨zo_17, zsame_17, zlow_17, zup_17, zg_17, rt_17, ro_17, rh_17, bb_17⟩ : Blk w17 (w1.heap.size) 24 [.slice Ao mo co, .int .i64 ((xo.length : Nat) : Int)] ∧ Blk w17 (w4.heap.size) 38 [.int .i64 24, .int .i64 24, .int .u64 68719476735, .int .u64 68702699519] ∧ Blk w17 (w5.heap.size) 38 [.int .i64 0, .int .i64 0, .int .u64 0, .int .u64 0] ∧ Blk w17 (w6.heap.size) 38 [.int .i64 1, .int .i64 0, .int .u64 33, .int .u64 32] ∧ Blk w17 (w14.heap.size) 24 [.slice Ah mh ch, .int .i64 ((xh.length : Nat) : Int)] ∧ RowIn .u8 w17 (0) (w.heap.size) (some ⟨0, 0, none⟩) 64 dbTab ∧ RowIn .u8 w17 (w.heap.size + 0) (w1.heap.size) Ao mo (pack xo) ∧ RowIn .u8 w17 (w14.heap.size + 1) (w15.heap.size) Ah mh (pack xh) ∧ Below w2.heap.size w2 w17 := by
        refine ⟨?_, ?_, ?_, ?_, ?_, ?_, ?_, ?_, ?_⟩
        all_goals repeat' (first | (with_reducible first | assumption | exact Below.refl _ _ | refine Blk.drewN ?_ _ | refine RowIn.drewN ?_ _ | refine below_drewN ?_ _ | refine Blk.drew ?_ | refine RowIn.drew ?_ | refine Below.drew ?_) | (with_reducible refine Blk.new' ?_ ?_ <;> first | (with_reducible rfl) | (simp; done)) | (with_reducible first | refine Blk.alloc ?_ _ | refine RowIn.alloc ?_ _ | refine Below.alloc ?_ ?_ _ | apply Blk.set' | apply Blk.far' | refine RowIn.far' ?_ ?_ _ | refine Below.far' ?_ ?_ _ | refine Blk.after ?_ b17 | refine RowIn.belowS ?_ b17 | refine Below.after ?_ b17 ?_) | (exact (Eq.refl _ : (_ : List Value) = _)) | omega | go_size)
      clear zo_16 zsame_16 zlow_16 zup_16 zg_16 rt_16 ro_16 rh_16 bb_16 ko_16 fo_16 lo_16 ksame_16 fsame_16 lsame_16 klow_16 flow_16 llow_16 kup_16 fup_16 lup_16 kg_16 fg_16 lg_16 b17
      have ko_17 := zo_17.cell; have fo_17 := zo_17.frozen; have lo_17 := zo_17.lt
      have ksame_17 := zsame_17.cell; have fsame_17 := zsame_17.frozen; have lsame_17 := zsame_17.lt
      have klow_17 := zlow_17.cell; have flow_17 := zlow_17.frozen; have llow_17 := zlow_17.lt
      have kup_17 := zup_17.cell; have fup_17 := zup_17.frozen; have lup_17 := zup_17.lt
      have kg_17 := zg_17.cell; have fg_17 := zg_17.frozen; have lg_17 := zg_17.lt
      go_wp2_with fail
      refine (bof_ok (some ⟨w17.heap.size + 1, 0, none⟩) 41250 41250 (zeros 41250) _ (by exact row_made8 (by simp)) (by unfold zeros; intro x hx; have := List.eq_of_mem_replicate hx; omega) (by omega) (by rw [zeros_len]; omega)).mono ?_
      rintro e w18 ⟨Af, mf, cf, xf, rfl, hcf, rf, HXf, b18⟩
      have Lf : xf.length ≤ 330000 ∧ 330000 ≤ xf.length := by rw [HXf.out]; rw [unpack_len, zeros_len]; omega
      obtain ⟨Lf1, Lf2⟩ := Lf
      replace rf := rf.mono (lo' := w17.heap.size + 2) (by go_size) (Nat.le_refl _)
      have s18 := b18.size
      try simp only [World.size_alloc, World.size_setCell, World.size_drew, size_drewN] at s18
      obtain ⟨zo_18, zsame_18, zlow_18, zup_18, rt_18, ro_18, rf_18, bb_18⟩ : Blk w18 (w1.heap.size) 24 [.slice Ao mo co, .int .i64 ((xo.length : Nat) : Int)] ∧ Blk w18 (w4.heap.size) 38 [.int .i64 24, .int .i64 24, .int .u64 68719476735, .int .u64 68702699519] ∧ Blk w18 (w5.heap.size) 38 [.int .i64 0, .int .i64 0, .int .u64 0, .int .u64 0] ∧ Blk w18 (w6.heap.size) 38 [.int .i64 1, .int .i64 0, .int .u64 33, .int .u64 32] ∧ RowIn .u8 w18 (0) (w.heap.size) (some ⟨0, 0, none⟩) 64 dbTab ∧ RowIn .u8 w18 (w.heap.size + 0) (w1.heap.size) Ao mo (pack xo) ∧ RowIn .u8 w18 (w17.heap.size + 2) (w18.heap.size) Af mf (pack xf) ∧ Below w2.heap.size w2 w18 := by
        refine ⟨?_, ?_, ?_, ?_, ?_, ?_, ?_, ?_⟩
        all_goals repeat' (first | (with_reducible first | assumption | exact Below.refl _ _ | refine Blk.drewN ?_ _ | refine RowIn.drewN ?_ _ | refine below_drewN ?_ _ | refine Blk.drew ?_ | refine RowIn.drew ?_ | refine Below.drew ?_) | (with_reducible refine Blk.new' ?_ ?_ <;> first | (with_reducible rfl) | (simp; done)) | (with_reducible first | refine Blk.alloc ?_ _ | refine RowIn.alloc ?_ _ | refine Below.alloc ?_ ?_ _ | apply Blk.set' | apply Blk.far' | refine RowIn.far' ?_ ?_ _ | refine Below.far' ?_ ?_ _ | refine Blk.after ?_ b18 | refine RowIn.belowS ?_ b18 | refine Below.after ?_ b18 ?_) | (exact (Eq.refl _ : (_ : List Value) = _)) | omega | go_size)
      clear zo_17 zsame_17 zlow_17 zup_17 zg_17 rt_17 ro_17 rh_17 bb_17 ko_17 fo_17 lo_17 ksame_17 fsame_17 lsame_17 klow_17 flow_17 llow_17 kup_17 fup_17 lup_17 kg_17 fg_17 lg_17 b18
      have ko_18 := zo_18.cell; have fo_18 := zo_18.frozen; have lo_18 := zo_18.lt
      have ksame_18 := zsame_18.cell; have fsame_18 := zsame_18.frozen; have lsame_18 := zsame_18.lt
      have klow_18 := zlow_18.cell; have flow_18 := zlow_18.frozen; have llow_18 := zlow_18.lt
      have kup_18 := zup_18.cell; have fup_18 := zup_18.frozen; have lup_18 := zup_18.lt
      clear rf
      go_wp2_with fail
      refine (dwrite_c Af mf cf xf [] (p0 := 0) (p1 := 0) (q0 := 0) (q1 := 0) (v := 0) (u0 := 0) (u1 := 0) (v0 := 0) (v1 := 0) _ (by exact RowIn.row (lo := w17.heap.size + 2) (hi := w18.heap.size) (by repeat' (first | (with_reducible first | assumption | exact Below.refl _ _ | refine Blk.drewN ?_ _ | refine RowIn.drewN ?_ _ | refine below_drewN ?_ _ | refine Blk.drew ?_ | refine RowIn.drew ?_ | refine Below.drew ?_) | (with_reducible refine Blk.new' ?_ ?_ <;> first | (with_reducible rfl) | (simp; done)) | (with_reducible first | refine Blk.alloc ?_ _ | refine RowIn.alloc ?_ _ | refine Below.alloc ?_ ?_ _ | apply Blk.set' | apply Blk.far' | refine RowIn.far' ?_ ?_ _ | refine Below.far' ?_ ?_ _) | (exact (Eq.refl _ : (_ : List Value) = _)) | omega | go_size))) hcf (by omega) (by decide) (by decide) 18 (by unfold dwR; rw [if_pos (show 330000 < xf.length + lenD ⟨0, 0, 0, 0⟩ 0 by have : lenD ⟨0, 0, 0, 0⟩ 0 = 1 := rfl; omega)]; rfl)).mono ?_
      rintro e w19 ⟨Ap, mp, cp, xp, rfl, hcp, rp, HXp, b19⟩
      clear rp HXp hcp
      have s19 := b19.size
      try simp only [World.size_alloc, World.size_setCell, World.size_drew, size_drewN] at s19
      obtain ⟨zo_19, zsame_19, zlow_19, zup_19, zf_19, rt_19, ro_19, rf_19, bb_19⟩ : Blk w19 (w1.heap.size) 24 [.slice Ao mo co, .int .i64 ((xo.length : Nat) : Int)] ∧ Blk w19 (w4.heap.size) 38 [.int .i64 24, .int .i64 24, .int .u64 68719476735, .int .u64 68702699519] ∧ Blk w19 (w5.heap.size) 38 [.int .i64 0, .int .i64 0, .int .u64 0, .int .u64 0] ∧ Blk w19 (w6.heap.size) 38 [.int .i64 1, .int .i64 0, .int .u64 33, .int .u64 32] ∧ Blk w19 (w18.heap.size) 24 [.slice Af mf cf, .int .i64 ((xf.length : Nat) : Int)] ∧ RowIn .u8 w19 (0) (w.heap.size) (some ⟨0, 0, none⟩) 64 dbTab ∧ RowIn .u8 w19 (w.heap.size + 0) (w1.heap.size) Ao mo (pack xo) ∧ RowIn .u8 w19 (w17.heap.size + 2) (w18.heap.size) Af mf (pack xf) ∧ Below w2.heap.size w2 w19 := by
        refine ⟨?_, ?_, ?_, ?_, ?_, ?_, ?_, ?_, ?_⟩
        all_goals repeat' (first | (with_reducible first | assumption | exact Below.refl _ _ | refine Blk.drewN ?_ _ | refine RowIn.drewN ?_ _ | refine below_drewN ?_ _ | refine Blk.drew ?_ | refine RowIn.drew ?_ | refine Below.drew ?_) | (with_reducible refine Blk.new' ?_ ?_ <;> first | (with_reducible rfl) | (simp; done)) | (with_reducible first | refine Blk.alloc ?_ _ | refine RowIn.alloc ?_ _ | refine Below.alloc ?_ ?_ _ | apply Blk.set' | apply Blk.far' | refine RowIn.far' ?_ ?_ _ | refine Below.far' ?_ ?_ _ | refine Blk.after ?_ b19 | refine RowIn.belowS ?_ b19 | refine Below.after ?_ b19 ?_) | (exact (Eq.refl _ : (_ : List Value) = _)) | omega | go_size)
      clear zo_18 zsame_18 zlow_18 zup_18 rt_18 ro_18 rf_18 bb_18 ko_18 fo_18 lo_18 ksame_18 fsame_18 lsame_18 klow_18 flow_18 llow_18 kup_18 fup_18 lup_18 b19
      have ko_19 := zo_19.cell; have fo_19 := zo_19.frozen; have lo_19 := zo_19.lt
      have ksame_19 := zsame_19.cell; have fsame_19 := zsame_19.frozen; have lsame_19 := zsame_19.lt
      have klow_19 := zlow_19.cell; have flow_19 := zlow_19.frozen; have llow_19 := zlow_19.lt
      have kup_19 := zup_19.cell; have fup_19 := zup_19.frozen; have lup_19 := zup_19.lt
      have kf_19 := zf_19.cell; have ff_19 := zf_19.frozen; have lf_19 := zf_19.lt
      go_wp2_with fail
      refine (alive08 _).mono ?_
      rintro e w20 ⟨rfl, b20⟩
      have s20 := b20.size
      try simp only [World.size_alloc, World.size_setCell, World.size_drew, size_drewN] at s20
      have bb_20 : Below w2.heap.size w2 w20 := by
        repeat' (first | (with_reducible first | assumption | exact Below.refl _ _ | refine Blk.drewN ?_ _ | refine RowIn.drewN ?_ _ | refine below_drewN ?_ _ | refine Blk.drew ?_ | refine RowIn.drew ?_ | refine Below.drew ?_) | (with_reducible refine Blk.new' ?_ ?_ <;> first | (with_reducible rfl) | (simp; done)) | (with_reducible first | refine Blk.alloc ?_ _ | refine RowIn.alloc ?_ _ | refine Below.alloc ?_ ?_ _ | apply Blk.set' | apply Blk.far' | refine RowIn.far' ?_ ?_ _ | refine Below.far' ?_ ?_ _ | refine Blk.after ?_ b20 | refine RowIn.belowS ?_ b20 | refine Below.after ?_ b20 ?_) | (exact (Eq.refl _ : (_ : List Value) = _)) | omega | go_size)
      clear zo_19 zsame_19 zlow_19 zup_19 zf_19 rt_19 ro_19 rf_19 bb_19 ko_19 fo_19 lo_19 ksame_19 fsame_19 lsame_19 klow_19 flow_19 llow_19 kup_19 fup_19 lup_19 kf_19 ff_19 lf_19 b20
      go_wp2
      go_ret
      refine ⟨rfl, ?_⟩
      exact bb_2.trans (bb_20.mono bb_2.size)


end Go.Proofs.YtppilidcjlnmoaaDoor
