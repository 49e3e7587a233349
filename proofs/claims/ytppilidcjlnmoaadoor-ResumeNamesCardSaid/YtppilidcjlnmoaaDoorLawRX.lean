/-
  The walk of ResumeNames.
-/
import Derived.Test.YtppilidcjlnmoaaDoorLawRZ
import Derived.Test.YtppilidcjlnmoaaDoorRefFG
import Derived.Test.YtppilidcjlnmoaaDoorMerge
namespace Go.Proofs.YtppilidcjlnmoaaDoor
open Go.RowKit Cad Cad.Bit Cad.Code
set_option linter.unusedVariables false
set_option linter.unusedSimpArgs false

theorem row_first8 {w : World} {g : Nat} {t : TypeId} {xs : List Int} {l : List Value} (h : Blk w g t (xs.map (Value.int .u8) ++ l)) : RowIn .u8 w g (g + 1) (some ⟨g, 0, none⟩) xs.length xs := row_first h
theorem row_made10 {k : IntKind} {n : Nat} {w : World} {e : TypeId} {g : Nat} (hg : g = w.heap.size) : Row k (w.alloc (.cells (zeroRow k n) e)) (some ⟨g, 0, none⟩) n (zeros n) := by
  subst hg
  have h := row_new k w (zeros n) e
  rw [zeros_len] at h; exact h
theorem row_lit {k : IntKind} {xs : List Int} {w : World} {e : TypeId} {g : Nat} (hg : g = w.heap.size) : Row k (w.alloc (.cells (xs.map (Value.int k)).toArray e)) (some ⟨g, 0, none⟩) xs.length xs := by subst hg; exact row_new k w xs e
theorem zeros_within10 (n : Nat) : Within 0 255 (zeros n) := by
  intro x hx
  unfold zeros at hx
  have := List.eq_of_mem_replicate hx
  omega
theorem exn0 : feed 4000 ⟨10, 10, 16384, 16384⟩ ([] ++ unpack []) = .ok [] 4000 ⟨10, 10, 16384, 16384⟩ [] := feed_stays (fok10 (by omega))
theorem exn1 : feed 0 ⟨10, 10, 16384, 16384⟩ ([] ++ unpack [0]) = .err 38 := by rfl
theorem exn2 : feed 0 ⟨10, 10, 16384, 16384⟩ ([] ++ unpack []) = .ok [] 0 ⟨10, 10, 16384, 16384⟩ [] := by rfl
theorem exn3 : feed 1 ⟨10, 10, 16384, 16384⟩ ([] ++ unpack [0, 0]) = .ok [0] 0 ⟨9, 10, 15360, 16384⟩ [false, false, false, false, false] := by rfl
theorem exn4 : feed 1 ⟨10, 10, 16384, 16384⟩ ([] ++ unpack [0, 0, 0]) = .err 38 := by rfl
theorem exn5 : feed 1 ⟨10, 10, 16384, 16384⟩ ([] ++ unpack [255, 255, 255, 255, 255, 255, 1, 0, 0, 0, 0]) = .err 12 := by rfl
theorem exn6 : feed 1 ⟨10, 10, 16384, 16384⟩ ([] ++ unpack [255, 255, 255, 255, 255, 255, 1, 0, 0, 0]) = .ok [] 1 ⟨10, 10, 16384, 16384⟩ (unpack [255, 255, 255, 255, 255, 255, 1, 0, 0, 0]) := by rfl
theorem nrs0 : ¬ RS (-1) 0 0 0 0 [] 0 := by rintro ⟨n, a0, a1, b0, b1, x, h1, _⟩; omega
theorem nrs1 : ¬ RS 4001 0 0 0 0 [] 0 := by rintro ⟨n, a0, a1, b0, b1, x, h1, h2, h3, h4, h5, h6, h7, h8, h9, hf⟩; omega
theorem nrs2 : ¬ RS 1 25 0 0 0 [] 0 := by
  rintro ⟨n, a0, a1, b0, b1, x, h1, h2, h3, h4, h5, h6, h7, h8, h9, hf⟩
  have h : a0 ≤ 24 := hf.1.1
  omega
theorem nrs3 : ¬ RS 1 0 0 0 0 [] 1 := by
  rintro ⟨n, a0, a1, b0, b1, x, h1, h2, h3, h4, h5, h6, h7, h8, h9, hf⟩
  have h := congrArg List.length h6
  rw [pack_len] at h
  unfold bytesFor at h
  simp only [List.length_nil] at h
  omega
theorem nrs4 : ¬ RS 0 0 0 0 0 [1] 8 := by
  rintro ⟨n, a0, a1, b0, b1, x, h1, h2, h3, h4, h5, h6, h7, h8, h9, hf⟩
  have h := hf.2
  rw [if_pos (by omega)] at h
  omega
theorem nrs5 : ¬ RS 1 0 0 0 0 [0] 1 := by
  rintro ⟨n, a0, a1, b0, b1, x, h1, h2, h3, h4, h5, h6, h7, h8, h9, hf⟩
  obtain rfl : n = 1 := by omega
  obtain rfl : a0 = 0 := by omega
  obtain rfl : a1 = 0 := by omega
  obtain rfl : b0 = 0 := by omega
  obtain rfl : b1 = 0 := by omega
  have hl : x.length = 1 := by omega
  have h := hf.2
  rw [if_neg (by omega)] at h
  match x, hl with
  | [true], _ => exact absurd h6 (by decide)
  | [false], _ => exact absurd h (by intro h; cases h)


set_option maxRecDepth 100000 in
set_option maxHeartbeats 16000000 in
theorem lawResumeNames (w : World) (ht : Tab w)  :
    Calls Tryd.prog 6 #[] w fun e w' => e = .returned (.bool true) ∧ Below w.heap.size w w' := by
  have hti : RowIn .u8 w 0 w.heap.size (some ⟨0, 0, none⟩) 64 dbTab := ht.rowIn
  have hmk : ∀ W, (Instr.makeSlice 22 (.int .i64 41001) (.int .i64 41001)).run Tryd.prog W = .ok (.slice (some ⟨W.heap.size, 0, none⟩) 41001 41001) (W.alloc (.cells (zeroRow .u8 41001) 5)) := fun W => run_mk u8E 41001 (by omega) .i64 .i64 W
  go_enter Tryd.func6, Tryd.ntmps6
  go_wp2_with fail
  refine (rst_bad (-1) 2 _ (Or.inl ⟨by omega, rfl⟩)).mono ?_
  rintro e w1 ⟨rfl, b1⟩
  have s1 := b1.size
  try simp only [World.size_alloc, World.size_setCell, World.size_drew, size_drewN] at s1
  obtain ⟨rt_1, bb_1⟩ : RowIn .u8 w1 (0) (w.heap.size) (some ⟨0, 0, none⟩) 64 dbTab ∧ Below w.heap.size w w1 := by
    refine ⟨?_, ?_⟩
    all_goals repeat' (first | (with_reducible first | assumption | exact Below.refl _ _ | refine Blk.drewN ?_ _ | refine RowIn.drewN ?_ _ | refine below_drewN ?_ _ | refine Blk.drew ?_ | refine RowIn.drew ?_ | refine Below.drew ?_) | (with_reducible refine Blk.new' ?_ ?_ <;> first | (with_reducible rfl) | (simp; done)) | (with_reducible first | refine Blk.alloc ?_ _ | refine RowIn.alloc ?_ _ | refine Below.alloc ?_ ?_ _ | apply Blk.set' | apply Blk.far' | refine RowIn.far' ?_ ?_ _ | refine Below.far' ?_ ?_ _ | refine Blk.after ?_ b1 | refine RowIn.belowS ?_ b1 | refine Below.after ?_ b1 ?_) | (exact (Eq.refl _ : (_ : List Value) = _)) | omega | go_size)
  clear b1
  go_wp2_with fail
  refine (rst_bad 4001 4 _ (Or.inr ⟨by omega, rfl⟩)).mono ?_
  rintro e w2 ⟨rfl, b2⟩
  have s2 := b2.size
  try simp only [World.size_alloc, World.size_setCell, World.size_drew, size_drewN] at s2
  obtain ⟨rt_2, bb_2⟩ : RowIn .u8 w2 (0) (w.heap.size) (some ⟨0, 0, none⟩) 64 dbTab ∧ Below w.heap.size w w2 := by
    refine ⟨?_, ?_⟩
    all_goals repeat' (first | (with_reducible first | assumption | exact Below.refl _ _ | refine Blk.drewN ?_ _ | refine RowIn.drewN ?_ _ | refine below_drewN ?_ _ | refine Blk.drew ?_ | refine RowIn.drew ?_ | refine Below.drew ?_) | (with_reducible refine Blk.new' ?_ ?_ <;> first | (with_reducible rfl) | (simp; done)) | (with_reducible first | refine Blk.alloc ?_ _ | refine RowIn.alloc ?_ _ | refine Below.alloc ?_ ?_ _ | apply Blk.set' | apply Blk.far' | refine RowIn.far' ?_ ?_ _ | refine Below.far' ?_ ?_ _ | refine Blk.after ?_ b2 | refine RowIn.belowS ?_ b2 | refine Below.after ?_ b2 ?_) | (exact (Eq.refl _ : (_ : List Value) = _)) | omega | go_size)
  clear rt_1 bb_1 b2
  go_wp2_with fail
  refine (rst_ok 4000 _ (by omega)).mono ?_
  rintro e w3 ⟨rfl, b3⟩
  have s3 := b3.size
  try simp only [World.size_alloc, World.size_setCell, World.size_drew, size_drewN] at s3
  obtain ⟨rt_3, bb_3⟩ : RowIn .u8 w3 (0) (w.heap.size) (some ⟨0, 0, none⟩) 64 dbTab ∧ Below w.heap.size w w3 := by
    refine ⟨?_, ?_⟩
    all_goals repeat' (first | (with_reducible first | assumption | exact Below.refl _ _ | refine Blk.drewN ?_ _ | refine RowIn.drewN ?_ _ | refine below_drewN ?_ _ | refine Blk.drew ?_ | refine RowIn.drew ?_ | refine Below.drew ?_) | (with_reducible refine Blk.new' ?_ ?_ <;> first | (with_reducible rfl) | (simp; done)) | (with_reducible first | refine Blk.alloc ?_ _ | refine RowIn.alloc ?_ _ | refine Below.alloc ?_ ?_ _ | apply Blk.set' | apply Blk.far' | refine RowIn.far' ?_ ?_ _ | refine Below.far' ?_ ?_ _ | refine Blk.after ?_ b3 | refine RowIn.belowS ?_ b3 | refine Below.after ?_ b3 ?_) | (exact (Eq.refl _ : (_ : List Value) = _)) | omega | go_size)
  clear rt_2 bb_2 b3
  go_wp2_with fail
  refine (rst_ok 0 _ (by omega)).mono ?_
  rintro e w4 ⟨rfl, b4⟩
  have s4 := b4.size
  try simp only [World.size_alloc, World.size_setCell, World.size_drew, size_drewN] at s4
  obtain ⟨zm_4, rt_4, bb_4⟩ : Blk w4 (w3.heap.size) 40 [.int .i64 4000, .int .i64 10, .int .i64 10, .int .u64 16384, .int .u64 16384, .slice none 0 0, .int .i64 0] ∧ RowIn .u8 w4 (0) (w.heap.size) (some ⟨0, 0, none⟩) 64 dbTab ∧ Below w.heap.size w w4 := by
    refine ⟨?_, ?_, ?_⟩
    all_goals repeat' (first | (with_reducible first | assumption | exact Below.refl _ _ | refine Blk.drewN ?_ _ | refine RowIn.drewN ?_ _ | refine below_drewN ?_ _ | refine Blk.drew ?_ | refine RowIn.drew ?_ | refine Below.drew ?_) | (with_reducible refine Blk.new' ?_ ?_ <;> first | (with_reducible rfl) | (simp; done)) | (with_reducible first | refine Blk.alloc ?_ _ | refine RowIn.alloc ?_ _ | refine Below.alloc ?_ ?_ _ | apply Blk.set' | apply Blk.far' | refine RowIn.far' ?_ ?_ _ | refine Below.far' ?_ ?_ _ | refine Blk.after ?_ b4 | refine RowIn.belowS ?_ b4 | refine Below.after ?_ b4 ?_) | (exact (Eq.refl _ : (_ : List Value) = _)) | omega | go_size)
  clear rt_3 bb_3 b4
  have km_4 := zm_4.cell; have fm_4 := zm_4.frozen; have lm_4 := zm_4.lt
  go_wp2_with fail
  obtain ⟨w5, hw5⟩ : ∃ w5, w5 = (((((w4.alloc (.cells #[.int .i64 0, .int .i64 10, .int .i64 10, .int .u64 16384, .int .u64 16384, .slice none 0 0, .int .i64 0] 40)).alloc (.cells #[.int .u8 1] 5)).alloc (.cells #[.slice (some ⟨w4.heap.size + 1, 0, none⟩) 1 1, .int .i64 8] 24)).alloc (.cells #[.int .u8 0] 5)).alloc (.cells #[.int .i64 (-1), .int .i64 0, .int .i64 0, .int .u64 0, .int .u64 0, .slice none 0 0, .int .i64 0, .int .i64 4001, .int .i64 0, .int .i64 0, .int .u64 0, .int .u64 0, .slice none 0 0, .int .i64 0, .int .i64 1, .int .i64 25, .int .i64 0, .int .u64 0, .int .u64 0, .slice none 0 0, .int .i64 0, .int .i64 1, .int .i64 0, .int .i64 0, .int .u64 0, .int .u64 0, .slice none 0 0, .int .i64 1, .int .i64 0, .int .i64 0, .int .i64 0, .int .u64 0, .int .u64 0, .slice (some ⟨w4.heap.size + 1, 0, none⟩) 1 1, .int .i64 8, .int .i64 1, .int .i64 0, .int .i64 0, .int .u64 0, .int .u64 0, .slice (some ⟨w4.heap.size + 1 + 1 + 1, 0, none⟩) 1 1, .int .i64 1] 40)) := ⟨_, rfl⟩
  obtain ⟨zm_5, zn_5, zpb_5, zzb_5, zl_5, rt_5, bb_5, s5⟩ : Blk w5 (w3.heap.size) 40 [.int .i64 4000, .int .i64 10, .int .i64 10, .int .u64 16384, .int .u64 16384, .slice none 0 0, .int .i64 0] ∧ Blk w5 (w4.heap.size) 40 [.int .i64 0, .int .i64 10, .int .i64 10, .int .u64 16384, .int .u64 16384, .slice none 0 0, .int .i64 0] ∧ Blk w5 (w4.heap.size + 1) 5 [.int .u8 1] ∧ Blk w5 (w4.heap.size + 1 + 1 + 1) 5 [.int .u8 0] ∧ Blk w5 (w4.heap.size + 1 + 1 + 1 + 1) 40 [.int .i64 (-1), .int .i64 0, .int .i64 0, .int .u64 0, .int .u64 0, .slice none 0 0, .int .i64 0, .int .i64 4001, .int .i64 0, .int .i64 0, .int .u64 0, .int .u64 0, .slice none 0 0, .int .i64 0, .int .i64 1, .int .i64 25, .int .i64 0, .int .u64 0, .int .u64 0, .slice none 0 0, .int .i64 0, .int .i64 1, .int .i64 0, .int .i64 0, .int .u64 0, .int .u64 0, .slice none 0 0, .int .i64 1, .int .i64 0, .int .i64 0, .int .i64 0, .int .u64 0, .int .u64 0, .slice (some ⟨w4.heap.size + 1, 0, none⟩) 1 1, .int .i64 8, .int .i64 1, .int .i64 0, .int .i64 0, .int .u64 0, .int .u64 0, .slice (some ⟨w4.heap.size + 1 + 1 + 1, 0, none⟩) 1 1, .int .i64 1] ∧ RowIn .u8 w5 (0) (w.heap.size) (some ⟨0, 0, none⟩) 64 dbTab ∧ Below w.heap.size w w5 ∧ w4.heap.size ≤ w5.heap.size := by
    rw [hw5]
    refine ⟨?_, ?_, ?_, ?_, ?_, ?_, ?_, by go_size⟩
    all_goals repeat' (first | (with_reducible first | assumption | exact Below.refl _ _ | refine Blk.drewN ?_ _ | refine RowIn.drewN ?_ _ | refine below_drewN ?_ _ | refine Blk.drew ?_ | refine RowIn.drew ?_ | refine Below.drew ?_) | (with_reducible refine Blk.new' ?_ ?_ <;> first | (with_reducible rfl) | (simp; done)) | (with_reducible first | refine Blk.alloc ?_ _ | refine RowIn.alloc ?_ _ | refine Below.alloc ?_ ?_ _ | apply Blk.set' | apply Blk.far' | refine RowIn.far' ?_ ?_ _ | refine Below.far' ?_ ?_ _) | (exact (Eq.refl _ : (_ : List Value) = _)) | omega | go_size)
  rw [← hw5]
  clear hw5
  clear zm_4 rt_4 bb_4 km_4 fm_4 lm_4
  have km_5 := zm_5.cell; have fm_5 := zm_5.frozen; have lm_5 := zm_5.lt
  have kn_5 := zn_5.cell; have fn_5 := zn_5.frozen; have ln_5 := zn_5.lt
  have kpb_5 := zpb_5.cell; have fpb_5 := zpb_5.frozen; have lpb_5 := zpb_5.lt
  have kzb_5 := zzb_5.cell; have fzb_5 := zzb_5.frozen; have lzb_5 := zzb_5.lt
  have kl_5 := zl_5.cell; have fl_5 := zl_5.frozen; have ll_5 := zl_5.lt
  have rp_5 : RowIn .u8 w5 (w4.heap.size + 1) (w4.heap.size + 1 + 1) (some ⟨w4.heap.size + 1, 0, none⟩) 1 [1] := row_first8 (xs := [1]) (l := []) zpb_5
  have rz_5 : RowIn .u8 w5 (w4.heap.size + 1 + 1 + 1) (w4.heap.size + 1 + 1 + 1 + 1) (some ⟨w4.heap.size + 1 + 1 + 1, 0, none⟩) 1 [0] := row_first8 (xs := [0]) (l := []) zzb_5
  go_loopg [11] 6 (fun r v wr => ∃ j : Nat, j + r = 6 ∧ v = .int .i64 (j : Nat) ∧ Below w5.heap.size w5 wr)
  case atStart => exact ⟨0, by omega, rfl, Below.refl _ _⟩
  case round =>
    obtain ⟨j, hj, rfl, b9⟩ := hrel
    have s9 := b9.size
    try simp only [World.size_alloc, World.size_setCell, World.size_drew, size_drewN] at s9
    obtain ⟨zm_9, zn_9, rt_9, rp_9, rz_9, bb_9⟩ : Blk wr (w3.heap.size) 40 [.int .i64 4000, .int .i64 10, .int .i64 10, .int .u64 16384, .int .u64 16384, .slice none 0 0, .int .i64 0] ∧ Blk wr (w4.heap.size) 40 [.int .i64 0, .int .i64 10, .int .i64 10, .int .u64 16384, .int .u64 16384, .slice none 0 0, .int .i64 0] ∧ RowIn .u8 wr (0) (w.heap.size) (some ⟨0, 0, none⟩) 64 dbTab ∧ RowIn .u8 wr (w4.heap.size + 1) (w4.heap.size + 1 + 1) (some ⟨w4.heap.size + 1, 0, none⟩) 1 [1] ∧ RowIn .u8 wr (w4.heap.size + 1 + 1 + 1) (w4.heap.size + 1 + 1 + 1 + 1) (some ⟨w4.heap.size + 1 + 1 + 1, 0, none⟩) 1 [0] ∧ Below w5.heap.size w5 wr := by
      refine ⟨?_, ?_, ?_, ?_, ?_, ?_⟩
      all_goals repeat' (first | (with_reducible first | assumption | exact Below.refl _ _ | refine Blk.drewN ?_ _ | refine RowIn.drewN ?_ _ | refine below_drewN ?_ _ | refine Blk.drew ?_ | refine RowIn.drew ?_ | refine Below.drew ?_) | (with_reducible refine Blk.new' ?_ ?_ <;> first | (with_reducible rfl) | (simp; done)) | (with_reducible first | refine Blk.alloc ?_ _ | refine RowIn.alloc ?_ _ | refine Below.alloc ?_ ?_ _ | apply Blk.set' | apply Blk.far' | refine RowIn.far' ?_ ?_ _ | refine Below.far' ?_ ?_ _ | refine Blk.after ?_ b9 | refine RowIn.belowS ?_ b9 | refine Below.after ?_ b9 ?_) | (exact (Eq.refl _ : (_ : List Value) = _)) | omega | go_size)
    have km_9 := zm_9.cell; have fm_9 := zm_9.frozen; have lm_9 := zm_9.lt
    have kn_9 := zn_9.cell; have fn_9 := zn_9.frozen; have ln_9 := zn_9.lt
    by_cases hlt : j < 6
    · have hel : ∃ (L p0 p1 q0 q1 N : Int) (A : Option Addr) (m c : Nat) (xs : List Int), w5.cell? ⟨w4.heap.size + 1 + 1 + 1 + 1, j * 7, none⟩ = some (.int .i64 L) ∧ w5.cell? ⟨w4.heap.size + 1 + 1 + 1 + 1, j * 7 + 1, none⟩ = some (.int .i64 p0) ∧ w5.cell? ⟨w4.heap.size + 1 + 1 + 1 + 1, j * 7 + 2, none⟩ = some (.int .i64 p1) ∧ w5.cell? ⟨w4.heap.size + 1 + 1 + 1 + 1, j * 7 + 3, none⟩ = some (.int .u64 q0) ∧ w5.cell? ⟨w4.heap.size + 1 + 1 + 1 + 1, j * 7 + 4, none⟩ = some (.int .u64 q1) ∧ w5.cell? ⟨w4.heap.size + 1 + 1 + 1 + 1, j * 7 + 5, none⟩ = some (.slice A m c) ∧ w5.cell? ⟨w4.heap.size + 1 + 1 + 1 + 1, j * 7 + 6, none⟩ = some (.int .i64 N) ∧ (-9223372036854775808 ≤ L ∧ L ≤ 9223372036854775807) ∧ 0 ≤ q0 ∧ 0 ≤ q1 ∧ RowIn .u8 w5 0 w5.heap.size A m xs ∧ Within 0 255 xs ∧ (m ≤ c ∧ c ≤ 9223372036854775807) ∧ ¬ RS L p0 p1 q0 q1 xs N := by
        rcases (show j = 0 ∨ j = 1 ∨ j = 2 ∨ j = 3 ∨ j = 4 ∨ j = 5 by omega) with rfl | rfl | rfl | rfl | rfl | rfl
        · exact ⟨-1, 0, 0, 0, 0, 0, none, 0, 0, [], (kl_5 _).trans rfl, (kl_5 _).trans rfl, (kl_5 _).trans rfl, (kl_5 _).trans rfl, (kl_5 _).trans rfl, (kl_5 _).trans rfl, (kl_5 _).trans rfl, by omega, by omega, by omega, RowIn.nil, by intro x hx; simp at hx; try omega, by omega, nrs0⟩
        · exact ⟨4001, 0, 0, 0, 0, 0, none, 0, 0, [], (kl_5 _).trans rfl, (kl_5 _).trans rfl, (kl_5 _).trans rfl, (kl_5 _).trans rfl, (kl_5 _).trans rfl, (kl_5 _).trans rfl, (kl_5 _).trans rfl, by omega, by omega, by omega, RowIn.nil, by intro x hx; simp at hx; try omega, by omega, nrs1⟩
        · exact ⟨1, 25, 0, 0, 0, 0, none, 0, 0, [], (kl_5 _).trans rfl, (kl_5 _).trans rfl, (kl_5 _).trans rfl, (kl_5 _).trans rfl, (kl_5 _).trans rfl, (kl_5 _).trans rfl, (kl_5 _).trans rfl, by omega, by omega, by omega, RowIn.nil, by intro x hx; simp at hx; try omega, by omega, nrs2⟩
        · exact ⟨1, 0, 0, 0, 0, 1, none, 0, 0, [], (kl_5 _).trans rfl, (kl_5 _).trans rfl, (kl_5 _).trans rfl, (kl_5 _).trans rfl, (kl_5 _).trans rfl, (kl_5 _).trans rfl, (kl_5 _).trans rfl, by omega, by omega, by omega, RowIn.nil, by intro x hx; simp at hx; try omega, by omega, nrs3⟩
        · exact ⟨0, 0, 0, 0, 0, 8, (some ⟨w4.heap.size + 1, 0, none⟩), 1, 1, [1], (kl_5 _).trans rfl, (kl_5 _).trans rfl, (kl_5 _).trans rfl, (kl_5 _).trans rfl, (kl_5 _).trans rfl, (kl_5 _).trans rfl, (kl_5 _).trans rfl, by omega, by omega, by omega, rp_5.mono (Nat.zero_le _) (by omega), by intro x hx; simp at hx; try omega, by omega, nrs4⟩
        · exact ⟨1, 0, 0, 0, 0, 1, (some ⟨w4.heap.size + 1 + 1 + 1, 0, none⟩), 1, 1, [0], (kl_5 _).trans rfl, (kl_5 _).trans rfl, (kl_5 _).trans rfl, (kl_5 _).trans rfl, (kl_5 _).trans rfl, (kl_5 _).trans rfl, (kl_5 _).trans rfl, by omega, by omega, by omega, rz_5.mono (Nat.zero_le _) (by omega), by intro x hx; simp at hx; try omega, by omega, nrs5⟩
      obtain ⟨L, p0, p1, q0, q1, N, A, m, c, xs, c0, c1, c2, c3, c4, c5, c6, hL, hq0, hq1, rb0, hxs, hmc, hrs⟩ := hel
      have HN := Lib.hid hrs
      have HXS := Lib.hid hxs
      clear hrs hxs
      have C0 := Lib.hid c0
      have C1 := Lib.hid c1
      have C2 := Lib.hid c2
      have C3 := Lib.hid c3
      have C4 := Lib.hid c4
      have C5 := Lib.hid c5
      have C6 := Lib.hid c6
      have hb0 : w4.heap.size + 1 + 1 + 1 + 1 < w5.heap.size := ll_5
      have hb1 := hb0
      have hb2 := hb0
      have hb3 := hb0
      have hb4 := hb0
      have hb5 := hb0
      have hb6 := hb0
      clear c0 c1 c2 c3 c4 c5 c6 kl_5
      have h7 : (j : Int) < 6 := by omega
      have h0 : (0 : Int) ≤ (j : Int) := by omega
      have rb_9 : RowIn .u8 wr 0 w5.heap.size A m xs := rb0.below bb_9 (Nat.le_refl _)
      clear rb0
      have c0_9 : wr.cell? ⟨w4.heap.size + 1 + 1 + 1 + 1, j * 7, none⟩ = some (.int .i64 L) := (bb_9.cell (p := ⟨w4.heap.size + 1 + 1 + 1 + 1, j * 7, none⟩) hb0).trans C0.out
      have c1_9 : wr.cell? ⟨w4.heap.size + 1 + 1 + 1 + 1, j * 7 + 1, none⟩ = some (.int .i64 p0) := (bb_9.cell (p := ⟨w4.heap.size + 1 + 1 + 1 + 1, j * 7 + 1, none⟩) hb1).trans C1.out
      have c2_9 : wr.cell? ⟨w4.heap.size + 1 + 1 + 1 + 1, j * 7 + 2, none⟩ = some (.int .i64 p1) := (bb_9.cell (p := ⟨w4.heap.size + 1 + 1 + 1 + 1, j * 7 + 2, none⟩) hb2).trans C2.out
      have c3_9 : wr.cell? ⟨w4.heap.size + 1 + 1 + 1 + 1, j * 7 + 3, none⟩ = some (.int .u64 q0) := (bb_9.cell (p := ⟨w4.heap.size + 1 + 1 + 1 + 1, j * 7 + 3, none⟩) hb3).trans C3.out
      have c4_9 : wr.cell? ⟨w4.heap.size + 1 + 1 + 1 + 1, j * 7 + 4, none⟩ = some (.int .u64 q1) := (bb_9.cell (p := ⟨w4.heap.size + 1 + 1 + 1 + 1, j * 7 + 4, none⟩) hb4).trans C4.out
      have c5_9 : wr.cell? ⟨w4.heap.size + 1 + 1 + 1 + 1, j * 7 + 5, none⟩ = some (.slice A m c) := (bb_9.cell (p := ⟨w4.heap.size + 1 + 1 + 1 + 1, j * 7 + 5, none⟩) hb5).trans C5.out
      have c6_9 : wr.cell? ⟨w4.heap.size + 1 + 1 + 1 + 1, j * 7 + 6, none⟩ = some (.int .i64 N) := (bb_9.cell (p := ⟨w4.heap.size + 1 + 1 + 1 + 1, j * 7 + 6, none⟩) hb6).trans C6.out
      go_wp2_with fail
      have swb : w5.heap.size ≤ wr.heap.size := bb_9.size
      apply merge3 (fun (ge : Nat) (gx : Nat) (wz : World) => wr.heap.size ≤ gx ∧ Blk wz (w3.heap.size) 40 [.int .i64 4000, .int .i64 10, .int .i64 10, .int .u64 16384, .int .u64 16384, .slice none 0 0, .int .i64 0] ∧ Blk wz (w4.heap.size) 40 [.int .i64 0, .int .i64 10, .int .i64 10, .int .u64 16384, .int .u64 16384, .slice none 0 0, .int .i64 0] ∧ RowIn .u8 wz (0) (w.heap.size) (some ⟨0, 0, none⟩) 64 dbTab ∧ RowIn .u8 wz (w4.heap.size + 1) (w4.heap.size + 1 + 1) (some ⟨w4.heap.size + 1, 0, none⟩) 1 [1] ∧ RowIn .u8 wz (w4.heap.size + 1 + 1 + 1) (w4.heap.size + 1 + 1 + 1 + 1) (some ⟨w4.heap.size + 1 + 1 + 1, 0, none⟩) 1 [0] ∧ RowIn .u8 wz (0) (w5.heap.size) A m xs ∧ Below w5.heap.size w5 wz ∧ wr.heap.size ≤ wz.heap.size)
      case main =>
        intro key
        have na_0 : w5.heap.size ≤ wr.heap.size := by omega
        have nam_0 : w3.heap.size ≠ wr.heap.size := by omega
        have nan_0 : w4.heap.size ≠ wr.heap.size := by omega
        have nrt_0 : wr.heap.size < 0 ∨ w.heap.size ≤ wr.heap.size := by omega
        have nrp_0 : wr.heap.size < w4.heap.size + 1 ∨ w4.heap.size + 1 + 1 ≤ wr.heap.size := by omega
        have nrz_0 : wr.heap.size < w4.heap.size + 1 + 1 + 1 ∨ w4.heap.size + 1 + 1 + 1 + 1 ≤ wr.heap.size := by omega
        have nrb_0 : wr.heap.size < 0 ∨ w5.heap.size ≤ wr.heap.size := by omega
        have na_1 : w5.heap.size ≤ wr.heap.size + 1 := by omega
        have nam_1 : w3.heap.size ≠ wr.heap.size + 1 := by omega
        have nan_1 : w4.heap.size ≠ wr.heap.size + 1 := by omega
        have nrt_1 : wr.heap.size + 1 < 0 ∨ w.heap.size ≤ wr.heap.size + 1 := by omega
        have nrp_1 : wr.heap.size + 1 < w4.heap.size + 1 ∨ w4.heap.size + 1 + 1 ≤ wr.heap.size + 1 := by omega
        have nrz_1 : wr.heap.size + 1 < w4.heap.size + 1 + 1 + 1 ∨ w4.heap.size + 1 + 1 + 1 + 1 ≤ wr.heap.size + 1 := by omega
        have nrb_1 : wr.heap.size + 1 < 0 ∨ w5.heap.size ≤ wr.heap.size + 1 := by omega
        go_region_held3 (fun w' => w'.cell? ⟨w4.heap.size + 1 + 1 + 1 + 1, j * 7, none⟩ = some (.int .i64 L) ∧ w'.cell? ⟨w4.heap.size + 1 + 1 + 1 + 1, j * 7 + 1, none⟩ = some (.int .i64 p0) ∧ w'.cell? ⟨w4.heap.size + 1 + 1 + 1 + 1, j * 7 + 2, none⟩ = some (.int .i64 p1) ∧ w'.cell? ⟨w4.heap.size + 1 + 1 + 1 + 1, j * 7 + 3, none⟩ = some (.int .u64 q0) ∧ w'.cell? ⟨w4.heap.size + 1 + 1 + 1 + 1, j * 7 + 4, none⟩ = some (.int .u64 q1) ∧ w'.cell? ⟨w4.heap.size + 1 + 1 + 1 + 1, j * 7 + 5, none⟩ = some (.slice A m c) ∧ w'.cell? ⟨w4.heap.size + 1 + 1 + 1 + 1, j * 7 + 6, none⟩ = some (.int .i64 N)) (first | with_reducible exact ⟨c0_9, c1_9, c2_9, c3_9, c4_9, c5_9, c6_9⟩ | (refine ⟨(Below.cell (p := ⟨w4.heap.size + 1 + 1 + 1 + 1, j * 7, none⟩) (B := w5.heap.size) (w := w5) ?_ hb0).trans C0.out, (Below.cell (p := ⟨w4.heap.size + 1 + 1 + 1 + 1, j * 7 + 1, none⟩) (B := w5.heap.size) (w := w5) ?_ hb1).trans C1.out, (Below.cell (p := ⟨w4.heap.size + 1 + 1 + 1 + 1, j * 7 + 2, none⟩) (B := w5.heap.size) (w := w5) ?_ hb2).trans C2.out, (Below.cell (p := ⟨w4.heap.size + 1 + 1 + 1 + 1, j * 7 + 3, none⟩) (B := w5.heap.size) (w := w5) ?_ hb3).trans C3.out, (Below.cell (p := ⟨w4.heap.size + 1 + 1 + 1 + 1, j * 7 + 4, none⟩) (B := w5.heap.size) (w := w5) ?_ hb4).trans C4.out, (Below.cell (p := ⟨w4.heap.size + 1 + 1 + 1 + 1, j * 7 + 5, none⟩) (B := w5.heap.size) (w := w5) ?_ hb5).trans C5.out, (Below.cell (p := ⟨w4.heap.size + 1 + 1 + 1 + 1, j * 7 + 6, none⟩) (B := w5.heap.size) (w := w5) ?_ hb6).trans C6.out⟩; all_goals repeat' (first | (with_reducible first | assumption | exact Below.refl _ _ | refine Blk.drewN ?_ _ | refine RowIn.drewN ?_ _ | refine below_drewN ?_ _ | refine Blk.drew ?_ | refine RowIn.drew ?_ | refine Below.drew ?_) | (with_reducible refine Blk.new' ?_ ?_ <;> first | (with_reducible rfl) | (simp; done)) | (with_reducible first | refine Blk.alloc ?_ _ | refine RowIn.alloc ?_ _ | refine Below.alloc ?_ ?_ _ | apply Blk.set' | apply Blk.far4 | apply RowIn.far4 | apply Below.far4 | apply Blk.far2 | apply RowIn.far2 | apply Below.far2 | apply Blk.far' | refine RowIn.far' ?_ ?_ _ | refine Below.far' ?_ ?_ _ | refine Blk.after ?_ bq | refine RowIn.belowS ?_ bq | refine Below.after ?_ bq ?_) | (exact (Eq.refl _ : (_ : List Value) = _)) | omega | go_size))) (
          (go_simp; go_at_call 24; refine (rfeed_none L p0 p1 q0 q1 N m c A xs _ 41001 41001 _ hL hq0 hq1 (by exact RowIn.row (lo := 0) (hi := w5.heap.size) (by repeat' (first | (with_reducible first | assumption | exact Below.refl _ _ | refine Blk.drewN ?_ _ | refine RowIn.drewN ?_ _ | refine below_drewN ?_ _ | refine Blk.drew ?_ | refine RowIn.drew ?_ | refine Below.drew ?_) | (with_reducible refine Blk.new' ?_ ?_ <;> first | (with_reducible rfl) | (simp; done)) | (with_reducible first | refine Blk.alloc ?_ _ | refine RowIn.alloc ?_ _ | refine Below.alloc ?_ ?_ _ | apply Blk.set' | apply Blk.far' | refine RowIn.far' ?_ ?_ _ | refine Below.far' ?_ ?_ _) | (exact (Eq.refl _ : (_ : List Value) = _)) | omega | go_size))) HXS.out hmc (by exact RowIn.row (lo := 0) (hi := w.heap.size) (by repeat' (first | (with_reducible first | assumption | exact Below.refl _ _ | refine Blk.drewN ?_ _ | refine RowIn.drewN ?_ _ | refine below_drewN ?_ _ | refine Blk.drew ?_ | refine RowIn.drew ?_ | refine Below.drew ?_) | (with_reducible refine Blk.new' ?_ ?_ <;> first | (with_reducible rfl) | (simp; done)) | (with_reducible first | refine Blk.alloc ?_ _ | refine RowIn.alloc ?_ _ | refine Below.alloc ?_ ?_ _ | apply Blk.set' | apply Blk.far' | refine RowIn.far' ?_ ?_ _ | refine Below.far' ?_ ?_ _) | (exact (Eq.refl _ : (_ : List Value) = _)) | omega | go_size))) HN.out).mono ?_; rintro e wq ⟨bq, hres⟩
           have hres2 : e = _ := hres
           subst hres2
           have sq := bq.size
           try simp only [World.size_alloc, World.size_setCell, World.size_drew, size_drewN] at sq
           obtain ⟨zm_q, zn_q, rt_q, rp_q, rz_q, rb_q, bb_q⟩ : Blk wq (w3.heap.size) 40 [.int .i64 4000, .int .i64 10, .int .i64 10, .int .u64 16384, .int .u64 16384, .slice none 0 0, .int .i64 0] ∧ Blk wq (w4.heap.size) 40 [.int .i64 0, .int .i64 10, .int .i64 10, .int .u64 16384, .int .u64 16384, .slice none 0 0, .int .i64 0] ∧ RowIn .u8 wq (0) (w.heap.size) (some ⟨0, 0, none⟩) 64 dbTab ∧ RowIn .u8 wq (w4.heap.size + 1) (w4.heap.size + 1 + 1) (some ⟨w4.heap.size + 1, 0, none⟩) 1 [1] ∧ RowIn .u8 wq (w4.heap.size + 1 + 1 + 1) (w4.heap.size + 1 + 1 + 1 + 1) (some ⟨w4.heap.size + 1 + 1 + 1, 0, none⟩) 1 [0] ∧ RowIn .u8 wq (0) (w5.heap.size) A m xs ∧ Below w5.heap.size w5 wq := (by
             refine ⟨?_, ?_, ?_, ?_, ?_, ?_, ?_⟩
             all_goals repeat' (first | (with_reducible first | assumption | exact Below.refl _ _ | refine Blk.drewN ?_ _ | refine RowIn.drewN ?_ _ | refine below_drewN ?_ _ | refine Blk.drew ?_ | refine RowIn.drew ?_ | refine Below.drew ?_) | (with_reducible refine Blk.new' ?_ ?_ <;> first | (with_reducible rfl) | (simp; done)) | (with_reducible first | refine Blk.alloc ?_ _ | refine RowIn.alloc ?_ _ | refine Below.alloc ?_ ?_ _ | apply Blk.set' | apply Blk.far4 | apply RowIn.far4 | apply Below.far4 | apply Blk.far2 | apply RowIn.far2 | apply Below.far2 | apply Blk.far' | refine RowIn.far' ?_ ?_ _ | refine Below.far' ?_ ?_ _ | refine Blk.after ?_ bq | refine RowIn.belowS ?_ bq | refine Below.after ?_ bq ?_) | (exact (Eq.refl _ : (_ : List Value) = _)) | omega | go_size))
           try (have zq1 := Blk.after (Blk.drew (Blk.alloc (Blk.new' (g := wr.heap.size) (t := 40) (l := [.int .i64 0, .int .i64 0, .int .i64 0, .int .u64 0, .int .u64 0, .slice none 0 0, .int .i64 0]) rfl rfl) _)) bq; have kq1 := zq1.cell; have fq1 := zq1.frozen; have lq1 := zq1.lt)
           try (have zq2 := Blk.after (Blk.drew (Blk.new' (g := wr.heap.size + 1) (t := 40) (l := [.int .i64 0, .int .i64 0, .int .i64 0, .int .u64 0, .int .u64 0, .slice none 0 0, .int .i64 0]) (by simp) rfl)) bq; have kq2 := zq2.cell; have fq2 := zq2.frozen; have lq2 := zq2.lt)))
        all_goals
          refine gen_world (fun wz hwz => ?_)
          first
          | (generalize hg0 : wq.heap.size = gx; generalize hg1 : wr.heap.size = ge; refine key ge gx wz ?_; subst hg1; subst hg0; subst hwz; refine ⟨?_, ?_, ?_, ?_, ?_, ?_, ?_, ?_, ?_⟩ <;> ((repeat' (first | (with_reducible assumption) | (with_reducible exact Below.refl _ _) | (with_reducible refine Blk.new' ?_ ?_ <;> first | (with_reducible rfl) | (simp; done)) | (with_reducible refine Blk.alloc ?_ _) | (with_reducible refine RowIn.alloc ?_ _) | (with_reducible refine Below.alloc ?_ ?_ _) | (with_reducible refine Own.alloc ?_ _) | (with_reducible apply Blk.set7) | (with_reducible refine Blk.far7 ?_ ?_) | (with_reducible refine RowIn.far7 ?_ ?_) | (with_reducible refine Below.far7 ?_ ?_) | (with_reducible refine Own.far7 ?_ ?_) | (exact (Eq.refl _ : (_ : List Value) = _)) | omega | go_size)); done))
          | (generalize hg0 : wr.heap.size + 1 = gx; generalize hg1 : wr.heap.size = ge; refine key ge gx wz ?_; subst hg1; subst hg0; subst hwz; refine ⟨?_, ?_, ?_, ?_, ?_, ?_, ?_, ?_, ?_⟩ <;> ((repeat' (first | (with_reducible assumption) | (with_reducible exact Below.refl _ _) | (with_reducible refine Blk.new' ?_ ?_ <;> first | (with_reducible rfl) | (simp; done)) | (with_reducible refine Blk.alloc ?_ _) | (with_reducible refine RowIn.alloc ?_ _) | (with_reducible refine Below.alloc ?_ ?_ _) | (with_reducible refine Own.alloc ?_ _) | (with_reducible apply Blk.set7) | (with_reducible refine Blk.far7 ?_ ?_) | (with_reducible refine RowIn.far7 ?_ ?_) | (with_reducible refine Below.far7 ?_ ?_) | (with_reducible refine Own.far7 ?_ ?_) | (exact (Eq.refl _ : (_ : List Value) = _)) | omega | go_size)); done))
          | (generalize hg0 : wr.heap.size + 1 = ge; generalize hg1 : wr.heap.size = gx; refine key ge gx wz ?_; subst hg1; subst hg0; subst hwz; refine ⟨?_, ?_, ?_, ?_, ?_, ?_, ?_, ?_, ?_⟩ <;> ((repeat' (first | (with_reducible assumption) | (with_reducible exact Below.refl _ _) | (with_reducible refine Blk.new' ?_ ?_ <;> first | (with_reducible rfl) | (simp; done)) | (with_reducible refine Blk.alloc ?_ _) | (with_reducible refine RowIn.alloc ?_ _) | (with_reducible refine Below.alloc ?_ ?_ _) | (with_reducible refine Own.alloc ?_ _) | (with_reducible apply Blk.set7) | (with_reducible refine Blk.far7 ?_ ?_) | (with_reducible refine RowIn.far7 ?_ ?_) | (with_reducible refine Below.far7 ?_ ?_) | (with_reducible refine Own.far7 ?_ ?_) | (exact (Eq.refl _ : (_ : List Value) = _)) | omega | go_size)); done))
      case k =>
        intro ge gx w10 hF
        obtain ⟨hgx, zm_10, zn_10, rt_10, rp_10, rz_10, rb_10, bb_10, s10⟩ := hF
        clear zm_9 zn_9 rt_9 rp_9 rz_9 bb_9 km_9 fm_9 lm_9 kn_9 fn_9 ln_9 rb_9 c0_9 c1_9 c2_9 c3_9 c4_9 c5_9 c6_9
        have km_10 := zm_10.cell; have fm_10 := zm_10.frozen; have lm_10 := zm_10.lt
        have kn_10 := zn_10.cell; have fn_10 := zn_10.frozen; have ln_10 := zn_10.lt
        have c0_10 : w10.cell? ⟨w4.heap.size + 1 + 1 + 1 + 1, j * 7, none⟩ = some (.int .i64 L) := (bb_10.cell (p := ⟨w4.heap.size + 1 + 1 + 1 + 1, j * 7, none⟩) hb0).trans C0.out
        have c1_10 : w10.cell? ⟨w4.heap.size + 1 + 1 + 1 + 1, j * 7 + 1, none⟩ = some (.int .i64 p0) := (bb_10.cell (p := ⟨w4.heap.size + 1 + 1 + 1 + 1, j * 7 + 1, none⟩) hb1).trans C1.out
        have c2_10 : w10.cell? ⟨w4.heap.size + 1 + 1 + 1 + 1, j * 7 + 2, none⟩ = some (.int .i64 p1) := (bb_10.cell (p := ⟨w4.heap.size + 1 + 1 + 1 + 1, j * 7 + 2, none⟩) hb2).trans C2.out
        have c3_10 : w10.cell? ⟨w4.heap.size + 1 + 1 + 1 + 1, j * 7 + 3, none⟩ = some (.int .u64 q0) := (bb_10.cell (p := ⟨w4.heap.size + 1 + 1 + 1 + 1, j * 7 + 3, none⟩) hb3).trans C3.out
        have c4_10 : w10.cell? ⟨w4.heap.size + 1 + 1 + 1 + 1, j * 7 + 4, none⟩ = some (.int .u64 q1) := (bb_10.cell (p := ⟨w4.heap.size + 1 + 1 + 1 + 1, j * 7 + 4, none⟩) hb4).trans C4.out
        have c5_10 : w10.cell? ⟨w4.heap.size + 1 + 1 + 1 + 1, j * 7 + 5, none⟩ = some (.slice A m c) := (bb_10.cell (p := ⟨w4.heap.size + 1 + 1 + 1 + 1, j * 7 + 5, none⟩) hb5).trans C5.out
        have c6_10 : w10.cell? ⟨w4.heap.size + 1 + 1 + 1 + 1, j * 7 + 6, none⟩ = some (.int .i64 N) := (bb_10.cell (p := ⟨w4.heap.size + 1 + 1 + 1 + 1, j * 7 + 6, none⟩) hb6).trans C6.out
        have hbk : w4.heap.size + 1 + 1 + 1 + 1 < w10.heap.size := by have := bb_10.size; omega
        go_wp2_with fail
        refine (rsc_any L p0 p1 q0 q1 N m c A xs _ hL hq0 hq1 (by exact RowIn.row (lo := 0) (hi := w5.heap.size) (by repeat' (first | (with_reducible first | assumption | exact Below.refl _ _ | refine Blk.drewN ?_ _ | refine RowIn.drewN ?_ _ | refine below_drewN ?_ _ | refine Blk.drew ?_ | refine RowIn.drew ?_ | refine Below.drew ?_) | (with_reducible refine Blk.new' ?_ ?_ <;> first | (with_reducible rfl) | (simp; done)) | (with_reducible first | refine Blk.alloc ?_ _ | refine RowIn.alloc ?_ _ | refine Below.alloc ?_ ?_ _ | apply Blk.set' | apply Blk.far' | refine RowIn.far' ?_ ?_ _ | refine Below.far' ?_ ?_ _) | (exact (Eq.refl _ : (_ : List Value) = _)) | omega | go_size))) HXS.out hmc (by exact RowIn.row (lo := 0) (hi := w.heap.size) (by repeat' (first | (with_reducible first | assumption | exact Below.refl _ _ | refine Blk.drewN ?_ _ | refine RowIn.drewN ?_ _ | refine below_drewN ?_ _ | refine Blk.drew ?_ | refine RowIn.drew ?_ | refine Below.drew ?_) | (with_reducible refine Blk.new' ?_ ?_ <;> first | (with_reducible rfl) | (simp; done)) | (with_reducible first | refine Blk.alloc ?_ _ | refine RowIn.alloc ?_ _ | refine Below.alloc ?_ ?_ _ | apply Blk.set' | apply Blk.far' | refine RowIn.far' ?_ ?_ _ | refine Below.far' ?_ ?_ _) | (exact (Eq.refl _ : (_ : List Value) = _)) | omega | go_size))) HN.out).mono ?_
        rintro e w11 ⟨rfl, b11⟩
        have s11 := b11.size
        try simp only [World.size_alloc, World.size_setCell, World.size_drew, size_drewN] at s11
        obtain ⟨zm_11, zn_11, rt_11, rp_11, rz_11, rb_11, bb_11⟩ : Blk w11 (w3.heap.size) 40 [.int .i64 4000, .int .i64 10, .int .i64 10, .int .u64 16384, .int .u64 16384, .slice none 0 0, .int .i64 0] ∧ Blk w11 (w4.heap.size) 40 [.int .i64 0, .int .i64 10, .int .i64 10, .int .u64 16384, .int .u64 16384, .slice none 0 0, .int .i64 0] ∧ RowIn .u8 w11 (0) (w.heap.size) (some ⟨0, 0, none⟩) 64 dbTab ∧ RowIn .u8 w11 (w4.heap.size + 1) (w4.heap.size + 1 + 1) (some ⟨w4.heap.size + 1, 0, none⟩) 1 [1] ∧ RowIn .u8 w11 (w4.heap.size + 1 + 1 + 1) (w4.heap.size + 1 + 1 + 1 + 1) (some ⟨w4.heap.size + 1 + 1 + 1, 0, none⟩) 1 [0] ∧ RowIn .u8 w11 (0) (w5.heap.size) A m xs ∧ Below w5.heap.size w5 w11 := by
          refine ⟨?_, ?_, ?_, ?_, ?_, ?_, ?_⟩
          all_goals repeat' (first | (with_reducible first | assumption | exact Below.refl _ _ | refine Blk.drewN ?_ _ | refine RowIn.drewN ?_ _ | refine below_drewN ?_ _ | refine Blk.drew ?_ | refine RowIn.drew ?_ | refine Below.drew ?_) | (with_reducible refine Blk.new' ?_ ?_ <;> first | (with_reducible rfl) | (simp; done)) | (with_reducible first | refine Blk.alloc ?_ _ | refine RowIn.alloc ?_ _ | refine Below.alloc ?_ ?_ _ | apply Blk.set' | apply Blk.far' | refine RowIn.far' ?_ ?_ _ | refine Below.far' ?_ ?_ _ | refine Blk.after ?_ b11 | refine RowIn.belowS ?_ b11 | refine Below.after ?_ b11 ?_) | (exact (Eq.refl _ : (_ : List Value) = _)) | omega | go_size)
        clear zm_10 zn_10 rt_10 rp_10 rz_10 rb_10 bb_10 s10 km_10 fm_10 lm_10 kn_10 fn_10 ln_10 c0_10 c1_10 c2_10 c3_10 c4_10 c5_10 c6_10 b11
        have km_11 := zm_11.cell; have fm_11 := zm_11.frozen; have lm_11 := zm_11.lt
        have kn_11 := zn_11.cell; have fn_11 := zn_11.frozen; have ln_11 := zn_11.lt
        have c0_11 : w11.cell? ⟨w4.heap.size + 1 + 1 + 1 + 1, j * 7, none⟩ = some (.int .i64 L) := (bb_11.cell (p := ⟨w4.heap.size + 1 + 1 + 1 + 1, j * 7, none⟩) hb0).trans C0.out
        have c1_11 : w11.cell? ⟨w4.heap.size + 1 + 1 + 1 + 1, j * 7 + 1, none⟩ = some (.int .i64 p0) := (bb_11.cell (p := ⟨w4.heap.size + 1 + 1 + 1 + 1, j * 7 + 1, none⟩) hb1).trans C1.out
        have c2_11 : w11.cell? ⟨w4.heap.size + 1 + 1 + 1 + 1, j * 7 + 2, none⟩ = some (.int .i64 p1) := (bb_11.cell (p := ⟨w4.heap.size + 1 + 1 + 1 + 1, j * 7 + 2, none⟩) hb2).trans C2.out
        have c3_11 : w11.cell? ⟨w4.heap.size + 1 + 1 + 1 + 1, j * 7 + 3, none⟩ = some (.int .u64 q0) := (bb_11.cell (p := ⟨w4.heap.size + 1 + 1 + 1 + 1, j * 7 + 3, none⟩) hb3).trans C3.out
        have c4_11 : w11.cell? ⟨w4.heap.size + 1 + 1 + 1 + 1, j * 7 + 4, none⟩ = some (.int .u64 q1) := (bb_11.cell (p := ⟨w4.heap.size + 1 + 1 + 1 + 1, j * 7 + 4, none⟩) hb4).trans C4.out
        have c5_11 : w11.cell? ⟨w4.heap.size + 1 + 1 + 1 + 1, j * 7 + 5, none⟩ = some (.slice A m c) := (bb_11.cell (p := ⟨w4.heap.size + 1 + 1 + 1 + 1, j * 7 + 5, none⟩) hb5).trans C5.out
        have c6_11 : w11.cell? ⟨w4.heap.size + 1 + 1 + 1 + 1, j * 7 + 6, none⟩ = some (.int .i64 N) := (bb_11.cell (p := ⟨w4.heap.size + 1 + 1 + 1 + 1, j * 7 + 6, none⟩) hb6).trans C6.out
        go_wp2
        go_roundg (6 - (j + 1))
        case measure => omega
        case rel => exact ⟨j + 1, by omega, by go_num, bb_11⟩
    · go_wp2_with fail
      apply merge3 (fun (ge : Nat) (gx : Nat) (wz : World) => wr.heap.size ≤ gx ∧ Blk wz (w3.heap.size) 40 [.int .i64 4000, .int .i64 10, .int .i64 10, .int .u64 16384, .int .u64 16384, .slice none 0 0, .int .i64 0] ∧ Blk wz (w4.heap.size) 40 [.int .i64 0, .int .i64 10, .int .i64 10, .int .u64 16384, .int .u64 16384, .slice none 0 0, .int .i64 0] ∧ RowIn .u8 wz (0) (w.heap.size) (some ⟨0, 0, none⟩) 64 dbTab ∧ RowIn .u8 wz (w4.heap.size + 1) (w4.heap.size + 1 + 1) (some ⟨w4.heap.size + 1, 0, none⟩) 1 [1] ∧ RowIn .u8 wz (w4.heap.size + 1 + 1 + 1) (w4.heap.size + 1 + 1 + 1 + 1) (some ⟨w4.heap.size + 1 + 1 + 1, 0, none⟩) 1 [0] ∧ Below w5.heap.size w5 wz ∧ wr.heap.size ≤ wz.heap.size)
      case main =>
        intro key
        have na_0 : w5.heap.size ≤ wr.heap.size := by omega
        have nam_0 : w3.heap.size ≠ wr.heap.size := by omega
        have nan_0 : w4.heap.size ≠ wr.heap.size := by omega
        have nrt_0 : wr.heap.size < 0 ∨ w.heap.size ≤ wr.heap.size := by omega
        have nrp_0 : wr.heap.size < w4.heap.size + 1 ∨ w4.heap.size + 1 + 1 ≤ wr.heap.size := by omega
        have nrz_0 : wr.heap.size < w4.heap.size + 1 + 1 + 1 ∨ w4.heap.size + 1 + 1 + 1 + 1 ≤ wr.heap.size := by omega
        have na_1 : w5.heap.size ≤ wr.heap.size + 1 := by omega
        have nam_1 : w3.heap.size ≠ wr.heap.size + 1 := by omega
        have nan_1 : w4.heap.size ≠ wr.heap.size + 1 := by omega
        have nrt_1 : wr.heap.size + 1 < 0 ∨ w.heap.size ≤ wr.heap.size + 1 := by omega
        have nrp_1 : wr.heap.size + 1 < w4.heap.size + 1 ∨ w4.heap.size + 1 + 1 ≤ wr.heap.size + 1 := by omega
        have nrz_1 : wr.heap.size + 1 < w4.heap.size + 1 + 1 + 1 ∨ w4.heap.size + 1 + 1 + 1 + 1 ≤ wr.heap.size + 1 := by omega
        go_region_held3 (fun w' => (∀ a, w'.cell? ⟨w3.heap.size, a, none⟩ = [.int .i64 4000, .int .i64 10, .int .i64 10, .int .u64 16384, .int .u64 16384, .slice none 0 0, .int .i64 0][a]?)) (first | with_reducible exact km_9 | (refine Blk.cell (t := 40) ?_; repeat' (first | (with_reducible first | assumption | exact Below.refl _ _ | refine Blk.drewN ?_ _ | refine RowIn.drewN ?_ _ | refine below_drewN ?_ _ | refine Blk.drew ?_ | refine RowIn.drew ?_ | refine Below.drew ?_) | (with_reducible refine Blk.new' ?_ ?_ <;> first | (with_reducible rfl) | (simp; done)) | (with_reducible first | refine Blk.alloc ?_ _ | refine RowIn.alloc ?_ _ | refine Below.alloc ?_ ?_ _ | apply Blk.set' | apply Blk.far4 | apply RowIn.far4 | apply Below.far4 | apply Blk.far2 | apply RowIn.far2 | apply Below.far2 | apply Blk.far' | refine RowIn.far' ?_ ?_ _ | refine Below.far' ?_ ?_ _ | refine Blk.after ?_ bq | refine RowIn.belowS ?_ bq | refine Below.after ?_ bq ?_) | (exact (Eq.refl _ : (_ : List Value) = _)) | omega | go_size))) (
          (go_simp; go_at_call 24; refine (rfeed_many 4000 10 10 16384 16384 0 0 none [] _ 41001 41001 (zeros 41001) _ (by omega) (fok10 (by omega)) Row.nil ⟨Nat.le_refl _, Nat.zero_le _⟩ (by refine Row.drew ?_; first | exact row_made10 (by simp) | exact Row.alloc (row_made10 (by simp)) _) (by omega) (zeros_within10 _) (by exact RowIn.row (lo := 0) (hi := w.heap.size) (by repeat' (first | (with_reducible first | assumption | exact Below.refl _ _ | refine Blk.drewN ?_ _ | refine RowIn.drewN ?_ _ | refine below_drewN ?_ _ | refine Blk.drew ?_ | refine RowIn.drew ?_ | refine Below.drew ?_) | (with_reducible refine Blk.new' ?_ ?_ <;> first | (with_reducible rfl) | (simp; done)) | (with_reducible first | refine Blk.alloc ?_ _ | refine RowIn.alloc ?_ _ | refine Below.alloc ?_ ?_ _ | apply Blk.set' | apply Blk.far' | refine RowIn.far' ?_ ?_ _ | refine Below.far' ?_ ?_ _) | (exact (Eq.refl _ : (_ : List Value) = _)) | omega | go_size))) (by omega)).mono ?_; rintro e wq ⟨bq, hres⟩
           have hres2 : e = _ := hres
           subst hres2
           have sq := bq.size
           try simp only [World.size_alloc, World.size_setCell, World.size_drew, size_drewN] at sq
           obtain ⟨zm_q, zn_q, rt_q, rp_q, rz_q, bb_q⟩ : Blk wq (w3.heap.size) 40 [.int .i64 4000, .int .i64 10, .int .i64 10, .int .u64 16384, .int .u64 16384, .slice none 0 0, .int .i64 0] ∧ Blk wq (w4.heap.size) 40 [.int .i64 0, .int .i64 10, .int .i64 10, .int .u64 16384, .int .u64 16384, .slice none 0 0, .int .i64 0] ∧ RowIn .u8 wq (0) (w.heap.size) (some ⟨0, 0, none⟩) 64 dbTab ∧ RowIn .u8 wq (w4.heap.size + 1) (w4.heap.size + 1 + 1) (some ⟨w4.heap.size + 1, 0, none⟩) 1 [1] ∧ RowIn .u8 wq (w4.heap.size + 1 + 1 + 1) (w4.heap.size + 1 + 1 + 1 + 1) (some ⟨w4.heap.size + 1 + 1 + 1, 0, none⟩) 1 [0] ∧ Below w5.heap.size w5 wq := (by
             refine ⟨?_, ?_, ?_, ?_, ?_, ?_⟩
             all_goals repeat' (first | (with_reducible first | assumption | exact Below.refl _ _ | refine Blk.drewN ?_ _ | refine RowIn.drewN ?_ _ | refine below_drewN ?_ _ | refine Blk.drew ?_ | refine RowIn.drew ?_ | refine Below.drew ?_) | (with_reducible refine Blk.new' ?_ ?_ <;> first | (with_reducible rfl) | (simp; done)) | (with_reducible first | refine Blk.alloc ?_ _ | refine RowIn.alloc ?_ _ | refine Below.alloc ?_ ?_ _ | apply Blk.set' | apply Blk.far4 | apply RowIn.far4 | apply Below.far4 | apply Blk.far2 | apply RowIn.far2 | apply Below.far2 | apply Blk.far' | refine RowIn.far' ?_ ?_ _ | refine Below.far' ?_ ?_ _ | refine Blk.after ?_ bq | refine RowIn.belowS ?_ bq | refine Below.after ?_ bq ?_) | (exact (Eq.refl _ : (_ : List Value) = _)) | omega | go_size))
           try (have zq1 := Blk.after (Blk.drew (Blk.alloc (Blk.new' (g := wr.heap.size) (t := 40) (l := [.int .i64 0, .int .i64 0, .int .i64 0, .int .u64 0, .int .u64 0, .slice none 0 0, .int .i64 0]) rfl rfl) _)) bq; have kq1 := zq1.cell; have fq1 := zq1.frozen; have lq1 := zq1.lt)
           try (have zq2 := Blk.after (Blk.drew (Blk.new' (g := wr.heap.size + 1) (t := 40) (l := [.int .i64 0, .int .i64 0, .int .i64 0, .int .u64 0, .int .u64 0, .slice none 0 0, .int .i64 0]) (by simp) rfl)) bq; have kq2 := zq2.cell; have fq2 := zq2.frozen; have lq2 := zq2.lt)))
        all_goals
          refine gen_world (fun wz hwz => ?_)
          first
          | (generalize hg0 : wq.heap.size = gx; generalize hg1 : wr.heap.size = ge; refine key ge gx wz ?_; subst hg1; subst hg0; subst hwz; refine ⟨?_, ?_, ?_, ?_, ?_, ?_, ?_, ?_⟩ <;> ((repeat' (first | (with_reducible assumption) | (with_reducible exact Below.refl _ _) | (with_reducible refine Blk.new' ?_ ?_ <;> first | (with_reducible rfl) | (simp; done)) | (with_reducible refine Blk.alloc ?_ _) | (with_reducible refine RowIn.alloc ?_ _) | (with_reducible refine Below.alloc ?_ ?_ _) | (with_reducible refine Own.alloc ?_ _) | (with_reducible apply Blk.set7) | (with_reducible refine Blk.far7 ?_ ?_) | (with_reducible refine RowIn.far7 ?_ ?_) | (with_reducible refine Below.far7 ?_ ?_) | (with_reducible refine Own.far7 ?_ ?_) | (exact (Eq.refl _ : (_ : List Value) = _)) | omega | go_size)); done))
          | (generalize hg0 : wr.heap.size + 1 = gx; generalize hg1 : wr.heap.size = ge; refine key ge gx wz ?_; subst hg1; subst hg0; subst hwz; refine ⟨?_, ?_, ?_, ?_, ?_, ?_, ?_, ?_⟩ <;> ((repeat' (first | (with_reducible assumption) | (with_reducible exact Below.refl _ _) | (with_reducible refine Blk.new' ?_ ?_ <;> first | (with_reducible rfl) | (simp; done)) | (with_reducible refine Blk.alloc ?_ _) | (with_reducible refine RowIn.alloc ?_ _) | (with_reducible refine Below.alloc ?_ ?_ _) | (with_reducible refine Own.alloc ?_ _) | (with_reducible apply Blk.set7) | (with_reducible refine Blk.far7 ?_ ?_) | (with_reducible refine RowIn.far7 ?_ ?_) | (with_reducible refine Below.far7 ?_ ?_) | (with_reducible refine Own.far7 ?_ ?_) | (exact (Eq.refl _ : (_ : List Value) = _)) | omega | go_size)); done))
          | (generalize hg0 : wr.heap.size + 1 = ge; generalize hg1 : wr.heap.size = gx; refine key ge gx wz ?_; subst hg1; subst hg0; subst hwz; refine ⟨?_, ?_, ?_, ?_, ?_, ?_, ?_, ?_⟩ <;> ((repeat' (first | (with_reducible assumption) | (with_reducible exact Below.refl _ _) | (with_reducible refine Blk.new' ?_ ?_ <;> first | (with_reducible rfl) | (simp; done)) | (with_reducible refine Blk.alloc ?_ _) | (with_reducible refine RowIn.alloc ?_ _) | (with_reducible refine Below.alloc ?_ ?_ _) | (with_reducible refine Own.alloc ?_ _) | (with_reducible apply Blk.set7) | (with_reducible refine Blk.far7 ?_ ?_) | (with_reducible refine RowIn.far7 ?_ ?_) | (with_reducible refine Below.far7 ?_ ?_) | (with_reducible refine Own.far7 ?_ ?_) | (exact (Eq.refl _ : (_ : List Value) = _)) | omega | go_size)); done))
      case k =>
        intro ge gx w10 hF
        obtain ⟨hgx, zm_10, zn_10, rt_10, rp_10, rz_10, bb_10, s10⟩ := hF
        clear zm_9 zn_9 rt_9 rp_9 rz_9 bb_9 km_9 fm_9 lm_9 kn_9 fn_9 ln_9
        have km_10 := zm_10.cell; have fm_10 := zm_10.frozen; have lm_10 := zm_10.lt
        have kn_10 := zn_10.cell; have fn_10 := zn_10.frozen; have ln_10 := zn_10.lt
        have s10b := s10
        go_wp2_with fail
        refine (rfeed_c 4000 10 10 16384 16384 0 0 none [] none 0 0 [] _ (by omega) (fok10 (by omega)) Row.nil ⟨Nat.le_refl _, Nat.zero_le _⟩ Row.nil ⟨Nat.le_refl _, Nat.zero_le _⟩ (fun x hx => by simp at hx) (by exact RowIn.row (lo := 0) (hi := w.heap.size) (by repeat' (first | (with_reducible first | assumption | exact Below.refl _ _ | refine Blk.drewN ?_ _ | refine RowIn.drewN ?_ _ | refine below_drewN ?_ _ | refine Blk.drew ?_ | refine RowIn.drew ?_ | refine Below.drew ?_) | (with_reducible refine Blk.new' ?_ ?_ <;> first | (with_reducible rfl) | (simp; done)) | (with_reducible first | refine Blk.alloc ?_ _ | refine RowIn.alloc ?_ _ | refine Below.alloc ?_ ?_ _ | apply Blk.set' | apply Blk.far' | refine RowIn.far' ?_ ?_ _ | refine Below.far' ?_ ?_ _) | (exact (Eq.refl _ : (_ : List Value) = _)) | omega | go_size))) (by omega) exn0).mono ?_
        rintro e w11 ⟨mv, cv, kv, dv, Av, Bv, xv, zv, rfl, hcv, HXv, rv, hdv, HZv, rlv, b11⟩
        have lnv := rlv.len
        replace rv := rv.mono (lo' := w10.heap.size + 0) (by go_size) (Nat.le_refl _)
        replace rlv := rlv.mono (lo' := w10.heap.size + 0) (by go_size) (Nat.le_refl _)
        have s11 := b11.size
        try simp only [World.size_alloc, World.size_setCell, World.size_drew, size_drewN] at s11
        obtain ⟨zm_11, zn_11, rt_11, rp_11, rz_11, rv_11, rlv_11, bb_11⟩ : Blk w11 (w3.heap.size) 40 [.int .i64 4000, .int .i64 10, .int .i64 10, .int .u64 16384, .int .u64 16384, .slice none 0 0, .int .i64 0] ∧ Blk w11 (w4.heap.size) 40 [.int .i64 0, .int .i64 10, .int .i64 10, .int .u64 16384, .int .u64 16384, .slice none 0 0, .int .i64 0] ∧ RowIn .u8 w11 (0) (w.heap.size) (some ⟨0, 0, none⟩) 64 dbTab ∧ RowIn .u8 w11 (w4.heap.size + 1) (w4.heap.size + 1 + 1) (some ⟨w4.heap.size + 1, 0, none⟩) 1 [1] ∧ RowIn .u8 w11 (w4.heap.size + 1 + 1 + 1) (w4.heap.size + 1 + 1 + 1 + 1) (some ⟨w4.heap.size + 1 + 1 + 1, 0, none⟩) 1 [0] ∧ RowIn .u8 w11 (w10.heap.size + 0) (w11.heap.size) Av mv (pack xv) ∧ RowIn .u32 w11 (w10.heap.size + 0) (w11.heap.size) Bv kv zv ∧ Below w5.heap.size w5 w11 := by
          refine ⟨?_, ?_, ?_, ?_, ?_, ?_, ?_, ?_⟩
          all_goals repeat' (first | (with_reducible first | assumption | exact Below.refl _ _ | refine Blk.drewN ?_ _ | refine RowIn.drewN ?_ _ | refine below_drewN ?_ _ | refine Blk.drew ?_ | refine RowIn.drew ?_ | refine Below.drew ?_) | (with_reducible refine Blk.new' ?_ ?_ <;> first | (with_reducible rfl) | (simp; done)) | (with_reducible first | refine Blk.alloc ?_ _ | refine RowIn.alloc ?_ _ | refine Below.alloc ?_ ?_ _ | apply Blk.set' | apply Blk.far' | refine RowIn.far' ?_ ?_ _ | refine Below.far' ?_ ?_ _ | refine Blk.after ?_ b11 | refine RowIn.belowS ?_ b11 | refine Below.after ?_ b11 ?_) | (exact (Eq.refl _ : (_ : List Value) = _)) | omega | go_size)
        clear zm_10 zn_10 rt_10 rp_10 rz_10 bb_10 s10 km_10 fm_10 lm_10 kn_10 fn_10 ln_10 b11
        have km_11 := zm_11.cell; have fm_11 := zm_11.frozen; have lm_11 := zm_11.lt
        have kn_11 := zn_11.cell; have fn_11 := zn_11.frozen; have ln_11 := zn_11.lt
        clear rv rlv
        obtain rfl : kv = 0 := by rw [← lnv, HZv.out]; rfl
        go_wp2_with fail
        refine (rfeed_e 0 10 10 16384 16384 0 0 none [] (some ⟨w11.heap.size + 1, 0, none⟩) 1 1 [0] _ (by omega) (fok10 (by omega)) Row.nil ⟨Nat.le_refl _, Nat.zero_le _⟩ (by exact row_lit (k := .u8) (xs := [0]) (by simp)) (by omega) (by intro x hx; simp at hx; omega) (by exact RowIn.row (lo := 0) (hi := w.heap.size) (by repeat' (first | (with_reducible first | assumption | exact Below.refl _ _ | refine Blk.drewN ?_ _ | refine RowIn.drewN ?_ _ | refine below_drewN ?_ _ | refine Blk.drew ?_ | refine RowIn.drew ?_ | refine Below.drew ?_) | (with_reducible refine Blk.new' ?_ ?_ <;> first | (with_reducible rfl) | (simp; done)) | (with_reducible first | refine Blk.alloc ?_ _ | refine RowIn.alloc ?_ _ | refine Below.alloc ?_ ?_ _ | apply Blk.set' | apply Blk.far' | refine RowIn.far' ?_ ?_ _ | refine Below.far' ?_ ?_ _) | (exact (Eq.refl _ : (_ : List Value) = _)) | omega | go_size))) (by omega) exn1).mono ?_
        rintro e w12 ⟨b12, hres⟩
        have hres2 : e = _ := hres
        subst hres2
        clear hres
        have s12 := b12.size
        try simp only [World.size_alloc, World.size_setCell, World.size_drew, size_drewN] at s12
        obtain ⟨zm_12, zn_12, zv_12, rt_12, rp_12, rz_12, rv_12, bb_12⟩ : Blk w12 (w3.heap.size) 40 [.int .i64 4000, .int .i64 10, .int .i64 10, .int .u64 16384, .int .u64 16384, .slice none 0 0, .int .i64 0] ∧ Blk w12 (w4.heap.size) 40 [.int .i64 0, .int .i64 10, .int .i64 10, .int .u64 16384, .int .u64 16384, .slice none 0 0, .int .i64 0] ∧ Blk w12 (w11.heap.size) 40 [.int .i64 4000, .int .i64 10, .int .i64 10, .int .u64 16384, .int .u64 16384, .slice Av mv cv, .int .i64 ((xv.length : Nat) : Int)] ∧ RowIn .u8 w12 (0) (w.heap.size) (some ⟨0, 0, none⟩) 64 dbTab ∧ RowIn .u8 w12 (w4.heap.size + 1) (w4.heap.size + 1 + 1) (some ⟨w4.heap.size + 1, 0, none⟩) 1 [1] ∧ RowIn .u8 w12 (w4.heap.size + 1 + 1 + 1) (w4.heap.size + 1 + 1 + 1 + 1) (some ⟨w4.heap.size + 1 + 1 + 1, 0, none⟩) 1 [0] ∧ RowIn .u8 w12 (w10.heap.size + 0) (w11.heap.size) Av mv (pack xv) ∧ Below w5.heap.size w5 w12 := by
          refine ⟨?_, ?_, ?_, ?_, ?_, ?_, ?_, ?_⟩
          all_goals repeat' (first | (with_reducible first | assumption | exact Below.refl _ _ | refine Blk.drewN ?_ _ | refine RowIn.drewN ?_ _ | refine below_drewN ?_ _ | refine Blk.drew ?_ | refine RowIn.drew ?_ | refine Below.drew ?_) | (with_reducible refine Blk.new' ?_ ?_ <;> first | (with_reducible rfl) | (simp; done)) | (with_reducible first | refine Blk.alloc ?_ _ | refine RowIn.alloc ?_ _ | refine Below.alloc ?_ ?_ _ | apply Blk.set' | apply Blk.far' | refine RowIn.far' ?_ ?_ _ | refine Below.far' ?_ ?_ _ | refine Blk.after ?_ b12 | refine RowIn.belowS ?_ b12 | refine Below.after ?_ b12 ?_) | (exact (Eq.refl _ : (_ : List Value) = _)) | omega | go_size)
        clear zm_11 zn_11 rt_11 rp_11 rz_11 rv_11 rlv_11 bb_11 km_11 fm_11 lm_11 kn_11 fn_11 ln_11 b12
        have km_12 := zm_12.cell; have fm_12 := zm_12.frozen; have lm_12 := zm_12.lt
        have kn_12 := zn_12.cell; have fn_12 := zn_12.frozen; have ln_12 := zn_12.lt
        have kv_12 := zv_12.cell; have fv_12 := zv_12.frozen; have lv_12 := zv_12.lt
        go_wp2_with fail
        refine (rfeed_c 0 10 10 16384 16384 0 0 none [] none 0 0 [] _ (by omega) (fok10 (by omega)) Row.nil ⟨Nat.le_refl _, Nat.zero_le _⟩ Row.nil ⟨Nat.le_refl _, Nat.zero_le _⟩ (fun x hx => by simp at hx) (by exact RowIn.row (lo := 0) (hi := w.heap.size) (by repeat' (first | (with_reducible first | assumption | exact Below.refl _ _ | refine Blk.drewN ?_ _ | refine RowIn.drewN ?_ _ | refine below_drewN ?_ _ | refine Blk.drew ?_ | refine RowIn.drew ?_ | refine Below.drew ?_) | (with_reducible refine Blk.new' ?_ ?_ <;> first | (with_reducible rfl) | (simp; done)) | (with_reducible first | refine Blk.alloc ?_ _ | refine RowIn.alloc ?_ _ | refine Below.alloc ?_ ?_ _ | apply Blk.set' | apply Blk.far' | refine RowIn.far' ?_ ?_ _ | refine Below.far' ?_ ?_ _) | (exact (Eq.refl _ : (_ : List Value) = _)) | omega | go_size))) (by omega) exn2).mono ?_
        rintro e w13 ⟨mp, cp, kp, dp, Ap, Bp, xp, zp, rfl, hcp, HXp, rp, hdp, HZp, rlp, b13⟩
        have lnp := rlp.len
        replace rp := rp.mono (lo' := w12.heap.size + 1) (by go_size) (Nat.le_refl _)
        replace rlp := rlp.mono (lo' := w12.heap.size + 1) (by go_size) (Nat.le_refl _)
        have s13 := b13.size
        try simp only [World.size_alloc, World.size_setCell, World.size_drew, size_drewN] at s13
        obtain ⟨zm_13, zn_13, zv_13, rt_13, rp_13, rz_13, rv_13, rlp_13, bb_13⟩ : Blk w13 (w3.heap.size) 40 [.int .i64 4000, .int .i64 10, .int .i64 10, .int .u64 16384, .int .u64 16384, .slice none 0 0, .int .i64 0] ∧ Blk w13 (w4.heap.size) 40 [.int .i64 0, .int .i64 10, .int .i64 10, .int .u64 16384, .int .u64 16384, .slice none 0 0, .int .i64 0] ∧ Blk w13 (w11.heap.size) 40 [.int .i64 4000, .int .i64 10, .int .i64 10, .int .u64 16384, .int .u64 16384, .slice Av mv cv, .int .i64 ((xv.length : Nat) : Int)] ∧ RowIn .u8 w13 (0) (w.heap.size) (some ⟨0, 0, none⟩) 64 dbTab ∧ RowIn .u8 w13 (w12.heap.size + 1) (w13.heap.size) Ap mp (pack xp) ∧ RowIn .u8 w13 (w4.heap.size + 1 + 1 + 1) (w4.heap.size + 1 + 1 + 1 + 1) (some ⟨w4.heap.size + 1 + 1 + 1, 0, none⟩) 1 [0] ∧ RowIn .u8 w13 (w10.heap.size + 0) (w11.heap.size) Av mv (pack xv) ∧ RowIn .u32 w13 (w12.heap.size + 1) (w13.heap.size) Bp kp zp ∧ Below w5.heap.size w5 w13 := by
          refine ⟨?_, ?_, ?_, ?_, ?_, ?_, ?_, ?_, ?_⟩
          all_goals repeat' (first | (with_reducible first | assumption | exact Below.refl _ _ | refine Blk.drewN ?_ _ | refine RowIn.drewN ?_ _ | refine below_drewN ?_ _ | refine Blk.drew ?_ | refine RowIn.drew ?_ | refine Below.drew ?_) | (with_reducible refine Blk.new' ?_ ?_ <;> first | (with_reducible rfl) | (simp; done)) | (with_reducible first | refine Blk.alloc ?_ _ | refine RowIn.alloc ?_ _ | refine Below.alloc ?_ ?_ _ | apply Blk.set' | apply Blk.far' | refine RowIn.far' ?_ ?_ _ | refine Below.far' ?_ ?_ _ | refine Blk.after ?_ b13 | refine RowIn.belowS ?_ b13 | refine Below.after ?_ b13 ?_) | (exact (Eq.refl _ : (_ : List Value) = _)) | omega | go_size)
        clear zm_12 zn_12 zv_12 rt_12 rp_12 rz_12 rv_12 bb_12 km_12 fm_12 lm_12 kn_12 fn_12 ln_12 kv_12 fv_12 lv_12 b13
        have km_13 := zm_13.cell; have fm_13 := zm_13.frozen; have lm_13 := zm_13.lt
        have kn_13 := zn_13.cell; have fn_13 := zn_13.frozen; have ln_13 := zn_13.lt
        have kv_13 := zv_13.cell; have fv_13 := zv_13.frozen; have lv_13 := zv_13.lt
        clear rp rlp
        go_wp2_with fail
        refine (rst_ok 1 _ (by omega)).mono ?_
        rintro e w14 ⟨rfl, b14⟩
        have s14 := b14.size
        try simp only [World.size_alloc, World.size_setCell, World.size_drew, size_drewN] at s14
        obtain ⟨zm_14, zn_14, zv_14, rt_14, rz_14, rv_14, bb_14⟩ : Blk w14 (w3.heap.size) 40 [.int .i64 4000, .int .i64 10, .int .i64 10, .int .u64 16384, .int .u64 16384, .slice none 0 0, .int .i64 0] ∧ Blk w14 (w4.heap.size) 40 [.int .i64 0, .int .i64 10, .int .i64 10, .int .u64 16384, .int .u64 16384, .slice none 0 0, .int .i64 0] ∧ Blk w14 (w11.heap.size) 40 [.int .i64 4000, .int .i64 10, .int .i64 10, .int .u64 16384, .int .u64 16384, .slice Av mv cv, .int .i64 ((xv.length : Nat) : Int)] ∧ RowIn .u8 w14 (0) (w.heap.size) (some ⟨0, 0, none⟩) 64 dbTab ∧ RowIn .u8 w14 (w4.heap.size + 1 + 1 + 1) (w4.heap.size + 1 + 1 + 1 + 1) (some ⟨w4.heap.size + 1 + 1 + 1, 0, none⟩) 1 [0] ∧ RowIn .u8 w14 (w10.heap.size + 0) (w11.heap.size) Av mv (pack xv) ∧ Below w5.heap.size w5 w14 := by
          refine ⟨?_, ?_, ?_, ?_, ?_, ?_, ?_⟩
          all_goals repeat' (first | (with_reducible first | assumption | exact Below.refl _ _ | refine Blk.drewN ?_ _ | refine RowIn.drewN ?_ _ | refine below_drewN ?_ _ | refine Blk.drew ?_ | refine RowIn.drew ?_ | refine Below.drew ?_) | (with_reducible refine Blk.new' ?_ ?_ <;> first | (with_reducible rfl) | (simp; done)) | (with_reducible first | refine Blk.alloc ?_ _ | refine RowIn.alloc ?_ _ | refine Below.alloc ?_ ?_ _ | apply Blk.set' | apply Blk.far' | refine RowIn.far' ?_ ?_ _ | refine Below.far' ?_ ?_ _ | refine Blk.after ?_ b14 | refine RowIn.belowS ?_ b14 | refine Below.after ?_ b14 ?_) | (exact (Eq.refl _ : (_ : List Value) = _)) | omega | go_size)
        clear zm_13 zn_13 zv_13 rt_13 rp_13 rz_13 rv_13 rlp_13 bb_13 km_13 fm_13 lm_13 kn_13 fn_13 ln_13 kv_13 fv_13 lv_13 b14
        have km_14 := zm_14.cell; have fm_14 := zm_14.frozen; have lm_14 := zm_14.lt
        have kn_14 := zn_14.cell; have fn_14 := zn_14.frozen; have ln_14 := zn_14.lt
        have kv_14 := zv_14.cell; have fv_14 := zv_14.frozen; have lv_14 := zv_14.lt
        go_wp2_with fail
        refine (rfeed_c 1 10 10 16384 16384 0 0 none [] (some ⟨w14.heap.size + 1, 0, none⟩) 2 2 [0, 0] _ (by omega) (fok10 (by omega)) Row.nil ⟨Nat.le_refl _, Nat.zero_le _⟩ (by exact row_lit (k := .u8) (xs := [0, 0]) (by simp)) (by omega) (by intro x hx; simp at hx; omega) (by exact RowIn.row (lo := 0) (hi := w.heap.size) (by repeat' (first | (with_reducible first | assumption | exact Below.refl _ _ | refine Blk.drewN ?_ _ | refine RowIn.drewN ?_ _ | refine below_drewN ?_ _ | refine Blk.drew ?_ | refine RowIn.drew ?_ | refine Below.drew ?_) | (with_reducible refine Blk.new' ?_ ?_ <;> first | (with_reducible rfl) | (simp; done)) | (with_reducible first | refine Blk.alloc ?_ _ | refine RowIn.alloc ?_ _ | refine Below.alloc ?_ ?_ _ | apply Blk.set' | apply Blk.far' | refine RowIn.far' ?_ ?_ _ | refine Below.far' ?_ ?_ _) | (exact (Eq.refl _ : (_ : List Value) = _)) | omega | go_size))) (by omega) exn3).mono ?_
        rintro e w15 ⟨mz, cz, kz, dz, Az, Bz, xz, zz, rfl, hcz, HXz, rz, hdz, HZz, rlz, b15⟩
        have lnz := rlz.len
        replace rz := rz.mono (lo' := w14.heap.size + 1) (by go_size) (Nat.le_refl _)
        replace rlz := rlz.mono (lo' := w14.heap.size + 1) (by go_size) (Nat.le_refl _)
        have s15 := b15.size
        try simp only [World.size_alloc, World.size_setCell, World.size_drew, size_drewN] at s15
        obtain ⟨zm_15, zn_15, zv_15, zo_15, rt_15, rz_15, rv_15, rlz_15, bb_15⟩ : Blk w15 (w3.heap.size) 40 [.int .i64 4000, .int .i64 10, .int .i64 10, .int .u64 16384, .int .u64 16384, .slice none 0 0, .int .i64 0] ∧ Blk w15 (w4.heap.size) 40 [.int .i64 0, .int .i64 10, .int .i64 10, .int .u64 16384, .int .u64 16384, .slice none 0 0, .int .i64 0] ∧ Blk w15 (w11.heap.size) 40 [.int .i64 4000, .int .i64 10, .int .i64 10, .int .u64 16384, .int .u64 16384, .slice Av mv cv, .int .i64 ((xv.length : Nat) : Int)] ∧ Blk w15 (w14.heap.size) 40 [.int .i64 1, .int .i64 10, .int .i64 10, .int .u64 16384, .int .u64 16384, .slice none 0 0, .int .i64 0] ∧ RowIn .u8 w15 (0) (w.heap.size) (some ⟨0, 0, none⟩) 64 dbTab ∧ RowIn .u8 w15 (w14.heap.size + 1) (w15.heap.size) Az mz (pack xz) ∧ RowIn .u8 w15 (w10.heap.size + 0) (w11.heap.size) Av mv (pack xv) ∧ RowIn .u32 w15 (w14.heap.size + 1) (w15.heap.size) Bz kz zz ∧ Below w5.heap.size w5 w15 := by
          refine ⟨?_, ?_, ?_, ?_, ?_, ?_, ?_, ?_, ?_⟩
          all_goals repeat' (first | (with_reducible first | assumption | exact Below.refl _ _ | refine Blk.drewN ?_ _ | refine RowIn.drewN ?_ _ | refine below_drewN ?_ _ | refine Blk.drew ?_ | refine RowIn.drew ?_ | refine Below.drew ?_) | (with_reducible refine Blk.new' ?_ ?_ <;> first | (with_reducible rfl) | (simp; done)) | (with_reducible first | refine Blk.alloc ?_ _ | refine RowIn.alloc ?_ _ | refine Below.alloc ?_ ?_ _ | apply Blk.set' | apply Blk.far' | refine RowIn.far' ?_ ?_ _ | refine Below.far' ?_ ?_ _ | refine Blk.after ?_ b15 | refine RowIn.belowS ?_ b15 | refine Below.after ?_ b15 ?_) | (exact (Eq.refl _ : (_ : List Value) = _)) | omega | go_size)
        clear zm_14 zn_14 zv_14 rt_14 rz_14 rv_14 bb_14 km_14 fm_14 lm_14 kn_14 fn_14 ln_14 kv_14 fv_14 lv_14 b15
        have km_15 := zm_15.cell; have fm_15 := zm_15.frozen; have lm_15 := zm_15.lt
        have kn_15 := zn_15.cell; have fn_15 := zn_15.frozen; have ln_15 := zn_15.lt
        have kv_15 := zv_15.cell; have fv_15 := zv_15.frozen; have lv_15 := zv_15.lt
        have ko_15 := zo_15.cell; have fo_15 := zo_15.frozen; have lo_15 := zo_15.lt
        clear rz rlz
        obtain rfl : kz = 1 := by rw [← lnz, HZz.out]; rfl
        go_wp2_with fail
        refine (rfeed_e 1 10 10 16384 16384 0 0 none [] (some ⟨w15.heap.size + 1, 0, none⟩) 3 3 [0, 0, 0] _ (by omega) (fok10 (by omega)) Row.nil ⟨Nat.le_refl _, Nat.zero_le _⟩ (by exact row_lit (k := .u8) (xs := [0, 0, 0]) (by simp)) (by omega) (by intro x hx; simp at hx; omega) (by exact RowIn.row (lo := 0) (hi := w.heap.size) (by repeat' (first | (with_reducible first | assumption | exact Below.refl _ _ | refine Blk.drewN ?_ _ | refine RowIn.drewN ?_ _ | refine below_drewN ?_ _ | refine Blk.drew ?_ | refine RowIn.drew ?_ | refine Below.drew ?_) | (with_reducible refine Blk.new' ?_ ?_ <;> first | (with_reducible rfl) | (simp; done)) | (with_reducible first | refine Blk.alloc ?_ _ | refine RowIn.alloc ?_ _ | refine Below.alloc ?_ ?_ _ | apply Blk.set' | apply Blk.far' | refine RowIn.far' ?_ ?_ _ | refine Below.far' ?_ ?_ _) | (exact (Eq.refl _ : (_ : List Value) = _)) | omega | go_size))) (by omega) exn4).mono ?_
        rintro e w16 ⟨b16, hres⟩
        have hres2 : e = _ := hres
        subst hres2
        clear hres
        have s16 := b16.size
        try simp only [World.size_alloc, World.size_setCell, World.size_drew, size_drewN] at s16
        obtain ⟨zm_16, zn_16, zv_16, zo_16, rt_16, rv_16, rlz_16, bb_16⟩ : Blk w16 (w3.heap.size) 40 [.int .i64 4000, .int .i64 10, .int .i64 10, .int .u64 16384, .int .u64 16384, .slice none 0 0, .int .i64 0] ∧ Blk w16 (w4.heap.size) 40 [.int .i64 0, .int .i64 10, .int .i64 10, .int .u64 16384, .int .u64 16384, .slice none 0 0, .int .i64 0] ∧ Blk w16 (w11.heap.size) 40 [.int .i64 4000, .int .i64 10, .int .i64 10, .int .u64 16384, .int .u64 16384, .slice Av mv cv, .int .i64 ((xv.length : Nat) : Int)] ∧ Blk w16 (w14.heap.size) 40 [.int .i64 1, .int .i64 10, .int .i64 10, .int .u64 16384, .int .u64 16384, .slice none 0 0, .int .i64 0] ∧ RowIn .u8 w16 (0) (w.heap.size) (some ⟨0, 0, none⟩) 64 dbTab ∧ RowIn .u8 w16 (w10.heap.size + 0) (w11.heap.size) Av mv (pack xv) ∧ RowIn .u32 w16 (w14.heap.size + 1) (w15.heap.size) Bz 1 zz ∧ Below w5.heap.size w5 w16 := by
          refine ⟨?_, ?_, ?_, ?_, ?_, ?_, ?_, ?_⟩
          all_goals repeat' (first | (with_reducible first | assumption | exact Below.refl _ _ | refine Blk.drewN ?_ _ | refine RowIn.drewN ?_ _ | refine below_drewN ?_ _ | refine Blk.drew ?_ | refine RowIn.drew ?_ | refine Below.drew ?_) | (with_reducible refine Blk.new' ?_ ?_ <;> first | (with_reducible rfl) | (simp; done)) | (with_reducible first | refine Blk.alloc ?_ _ | refine RowIn.alloc ?_ _ | refine Below.alloc ?_ ?_ _ | apply Blk.set' | apply Blk.far' | refine RowIn.far' ?_ ?_ _ | refine Below.far' ?_ ?_ _ | refine Blk.after ?_ b16 | refine RowIn.belowS ?_ b16 | refine Below.after ?_ b16 ?_) | (exact (Eq.refl _ : (_ : List Value) = _)) | omega | go_size)
        clear zm_15 zn_15 zv_15 zo_15 rt_15 rz_15 rv_15 rlz_15 bb_15 km_15 fm_15 lm_15 kn_15 fn_15 ln_15 kv_15 fv_15 lv_15 ko_15 fo_15 lo_15 b16
        have km_16 := zm_16.cell; have fm_16 := zm_16.frozen; have lm_16 := zm_16.lt
        have kn_16 := zn_16.cell; have fn_16 := zn_16.frozen; have ln_16 := zn_16.lt
        have kv_16 := zv_16.cell; have fv_16 := zv_16.frozen; have lv_16 := zv_16.lt
        have ko_16 := zo_16.cell; have fo_16 := zo_16.frozen; have lo_16 := zo_16.lt
        go_wp2_with fail
        refine (rfeed_e 1 10 10 16384 16384 0 0 none [] (some ⟨w16.heap.size + 1, 0, none⟩) 11 11 [255, 255, 255, 255, 255, 255, 1, 0, 0, 0, 0] _ (by omega) (fok10 (by omega)) Row.nil ⟨Nat.le_refl _, Nat.zero_le _⟩ (by exact row_lit (k := .u8) (xs := [255, 255, 255, 255, 255, 255, 1, 0, 0, 0, 0]) (by simp)) (by omega) (by intro x hx; simp at hx; omega) (by exact RowIn.row (lo := 0) (hi := w.heap.size) (by repeat' (first | (with_reducible first | assumption | exact Below.refl _ _ | refine Blk.drewN ?_ _ | refine RowIn.drewN ?_ _ | refine below_drewN ?_ _ | refine Blk.drew ?_ | refine RowIn.drew ?_ | refine Below.drew ?_) | (with_reducible refine Blk.new' ?_ ?_ <;> first | (with_reducible rfl) | (simp; done)) | (with_reducible first | refine Blk.alloc ?_ _ | refine RowIn.alloc ?_ _ | refine Below.alloc ?_ ?_ _ | apply Blk.set' | apply Blk.far' | refine RowIn.far' ?_ ?_ _ | refine Below.far' ?_ ?_ _) | (exact (Eq.refl _ : (_ : List Value) = _)) | omega | go_size))) (by omega) exn5).mono ?_
        rintro e w17 ⟨b17, hres⟩
        have hres2 : e = _ := hres
        subst hres2
        clear hres
        have s17 := b17.size
        try simp only [World.size_alloc, World.size_setCell, World.size_drew, size_drewN] at s17
        obtain ⟨zm_17, zn_17, zv_17, zo_17, rt_17, rv_17, rlz_17, bb_17⟩ : Blk w17 (w3.heap.size) 40 [.int .i64 4000, .int .i64 10, .int .i64 10, .int .u64 16384, .int .u64 16384, .slice none 0 0, .int .i64 0] ∧ Blk w17 (w4.heap.size) 40 [.int .i64 0, .int .i64 10, .int .i64 10, .int .u64 16384, .int .u64 16384, .slice none 0 0, .int .i64 0] ∧ Blk w17 (w11.heap.size) 40 [.int .i64 4000, .int .i64 10, .int .i64 10, .int .u64 16384, .int .u64 16384, .slice Av mv cv, .int .i64 ((xv.length : Nat) : Int)] ∧ Blk w17 (w14.heap.size) 40 [.int .i64 1, .int .i64 10, .int .i64 10, .int .u64 16384, .int .u64 16384, .slice none 0 0, .int .i64 0] ∧ RowIn .u8 w17 (0) (w.heap.size) (some ⟨0, 0, none⟩) 64 dbTab ∧ RowIn .u8 w17 (w10.heap.size + 0) (w11.heap.size) Av mv (pack xv) ∧ RowIn .u32 w17 (w14.heap.size + 1) (w15.heap.size) Bz 1 zz ∧ Below w5.heap.size w5 w17 := by
          refine ⟨?_, ?_, ?_, ?_, ?_, ?_, ?_, ?_⟩
          all_goals repeat' (first | (with_reducible first | assumption | exact Below.refl _ _ | refine Blk.drewN ?_ _ | refine RowIn.drewN ?_ _ | refine below_drewN ?_ _ | refine Blk.drew ?_ | refine RowIn.drew ?_ | refine Below.drew ?_) | (with_reducible refine Blk.new' ?_ ?_ <;> first | (with_reducible rfl) | (simp; done)) | (with_reducible first | refine Blk.alloc ?_ _ | refine RowIn.alloc ?_ _ | refine Below.alloc ?_ ?_ _ | apply Blk.set' | apply Blk.far' | refine RowIn.far' ?_ ?_ _ | refine Below.far' ?_ ?_ _ | refine Blk.after ?_ b17 | refine RowIn.belowS ?_ b17 | refine Below.after ?_ b17 ?_) | (exact (Eq.refl _ : (_ : List Value) = _)) | omega | go_size)
        clear zm_16 zn_16 zv_16 zo_16 rt_16 rv_16 rlz_16 bb_16 km_16 fm_16 lm_16 kn_16 fn_16 ln_16 kv_16 fv_16 lv_16 ko_16 fo_16 lo_16 b17
        have km_17 := zm_17.cell; have fm_17 := zm_17.frozen; have lm_17 := zm_17.lt
        have kn_17 := zn_17.cell; have fn_17 := zn_17.frozen; have ln_17 := zn_17.lt
        have kv_17 := zv_17.cell; have fv_17 := zv_17.frozen; have lv_17 := zv_17.lt
        have ko_17 := zo_17.cell; have fo_17 := zo_17.frozen; have lo_17 := zo_17.lt
        go_wp2_with fail
        refine (rfeed_c 1 10 10 16384 16384 0 0 none [] (some ⟨w17.heap.size + 1, 0, none⟩) 10 10 [255, 255, 255, 255, 255, 255, 1, 0, 0, 0] _ (by omega) (fok10 (by omega)) Row.nil ⟨Nat.le_refl _, Nat.zero_le _⟩ (by exact row_lit (k := .u8) (xs := [255, 255, 255, 255, 255, 255, 1, 0, 0, 0]) (by simp)) (by omega) (by intro x hx; simp at hx; omega) (by exact RowIn.row (lo := 0) (hi := w.heap.size) (by repeat' (first | (with_reducible first | assumption | exact Below.refl _ _ | refine Blk.drewN ?_ _ | refine RowIn.drewN ?_ _ | refine below_drewN ?_ _ | refine Blk.drew ?_ | refine RowIn.drew ?_ | refine Below.drew ?_) | (with_reducible refine Blk.new' ?_ ?_ <;> first | (with_reducible rfl) | (simp; done)) | (with_reducible first | refine Blk.alloc ?_ _ | refine RowIn.alloc ?_ _ | refine Below.alloc ?_ ?_ _ | apply Blk.set' | apply Blk.far' | refine RowIn.far' ?_ ?_ _ | refine Below.far' ?_ ?_ _) | (exact (Eq.refl _ : (_ : List Value) = _)) | omega | go_size))) (by omega) exn6).mono ?_
        rintro e w18 ⟨mq, cq, kq, dq, Aq, Bq, xq, zq, rfl, hcq, HXq, rq, hdq, HZq, rlq, b18⟩
        have lnq := rlq.len
        replace rq := rq.mono (lo' := w17.heap.size + 1) (by go_size) (Nat.le_refl _)
        replace rlq := rlq.mono (lo' := w17.heap.size + 1) (by go_size) (Nat.le_refl _)
        have s18 := b18.size
        try simp only [World.size_alloc, World.size_setCell, World.size_drew, size_drewN] at s18
        obtain ⟨zm_18, zn_18, zv_18, zo_18, rt_18, rv_18, rlz_18, rq_18, rlq_18, bb_18⟩ : Blk w18 (w3.heap.size) 40 [.int .i64 4000, .int .i64 10, .int .i64 10, .int .u64 16384, .int .u64 16384, .slice none 0 0, .int .i64 0] ∧ Blk w18 (w4.heap.size) 40 [.int .i64 0, .int .i64 10, .int .i64 10, .int .u64 16384, .int .u64 16384, .slice none 0 0, .int .i64 0] ∧ Blk w18 (w11.heap.size) 40 [.int .i64 4000, .int .i64 10, .int .i64 10, .int .u64 16384, .int .u64 16384, .slice Av mv cv, .int .i64 ((xv.length : Nat) : Int)] ∧ Blk w18 (w14.heap.size) 40 [.int .i64 1, .int .i64 10, .int .i64 10, .int .u64 16384, .int .u64 16384, .slice none 0 0, .int .i64 0] ∧ RowIn .u8 w18 (0) (w.heap.size) (some ⟨0, 0, none⟩) 64 dbTab ∧ RowIn .u8 w18 (w10.heap.size + 0) (w11.heap.size) Av mv (pack xv) ∧ RowIn .u32 w18 (w14.heap.size + 1) (w15.heap.size) Bz 1 zz ∧ RowIn .u8 w18 (w17.heap.size + 1) (w18.heap.size) Aq mq (pack xq) ∧ RowIn .u32 w18 (w17.heap.size + 1) (w18.heap.size) Bq kq zq ∧ Below w5.heap.size w5 w18 := by
          refine ⟨?_, ?_, ?_, ?_, ?_, ?_, ?_, ?_, ?_, ?_⟩
          all_goals repeat' (first | (with_reducible first | assumption | exact Below.refl _ _ | refine Blk.drewN ?_ _ | refine RowIn.drewN ?_ _ | refine below_drewN ?_ _ | refine Blk.drew ?_ | refine RowIn.drew ?_ | refine Below.drew ?_) | (with_reducible refine Blk.new' ?_ ?_ <;> first | (with_reducible rfl) | (simp; done)) | (with_reducible first | refine Blk.alloc ?_ _ | refine RowIn.alloc ?_ _ | refine Below.alloc ?_ ?_ _ | apply Blk.set' | apply Blk.far' | refine RowIn.far' ?_ ?_ _ | refine Below.far' ?_ ?_ _ | refine Blk.after ?_ b18 | refine RowIn.belowS ?_ b18 | refine Below.after ?_ b18 ?_) | (exact (Eq.refl _ : (_ : List Value) = _)) | omega | go_size)
        clear zm_17 zn_17 zv_17 zo_17 rt_17 rv_17 rlz_17 bb_17 km_17 fm_17 lm_17 kn_17 fn_17 ln_17 kv_17 fv_17 lv_17 ko_17 fo_17 lo_17 b18
        have km_18 := zm_18.cell; have fm_18 := zm_18.frozen; have lm_18 := zm_18.lt
        have kn_18 := zn_18.cell; have fn_18 := zn_18.frozen; have ln_18 := zn_18.lt
        have kv_18 := zv_18.cell; have fv_18 := zv_18.frozen; have lv_18 := zv_18.lt
        have ko_18 := zo_18.cell; have fo_18 := zo_18.frozen; have lo_18 := zo_18.lt
        clear rq rlq
        have hv0 : Hid (pack xv = []) := Lib.hid (by rw [HXv.out]; rfl)
        have hv1 : Hid (((xv.length : Nat) : Int) = 0) := Lib.hid (by rw [HXv.out]; rfl)
        go_wp2_with fail
        refine (rrsame_eq 4000 10 10 16384 16384 _ _ mv cv 0 0 Av none (pack xv) [] _ (by exact RowIn.row (lo := w10.heap.size + 0) (hi := w11.heap.size) (by repeat' (first | (with_reducible first | assumption | exact Below.refl _ _ | refine Blk.drewN ?_ _ | refine RowIn.drewN ?_ _ | refine below_drewN ?_ _ | refine Blk.drew ?_ | refine RowIn.drew ?_ | refine Below.drew ?_) | (with_reducible refine Blk.new' ?_ ?_ <;> first | (with_reducible rfl) | (simp; done)) | (with_reducible first | refine Blk.alloc ?_ _ | refine RowIn.alloc ?_ _ | refine Below.alloc ?_ ?_ _ | apply Blk.set' | apply Blk.far' | refine RowIn.far' ?_ ?_ _ | refine Below.far' ?_ ?_ _) | (exact (Eq.refl _ : (_ : List Value) = _)) | omega | go_size))) Row.nil (pack_u8 _) hv0.out hv1.out).mono ?_
        rintro e w19 ⟨rfl, b19⟩
        have s19 := b19.size
        try simp only [World.size_alloc, World.size_setCell, World.size_drew, size_drewN] at s19
        obtain ⟨zm_19, zn_19, zv_19, zo_19, rt_19, rv_19, rlz_19, bb_19⟩ : Blk w19 (w3.heap.size) 40 [.int .i64 4000, .int .i64 10, .int .i64 10, .int .u64 16384, .int .u64 16384, .slice none 0 0, .int .i64 0] ∧ Blk w19 (w4.heap.size) 40 [.int .i64 0, .int .i64 10, .int .i64 10, .int .u64 16384, .int .u64 16384, .slice none 0 0, .int .i64 0] ∧ Blk w19 (w11.heap.size) 40 [.int .i64 4000, .int .i64 10, .int .i64 10, .int .u64 16384, .int .u64 16384, .slice Av mv cv, .int .i64 ((xv.length : Nat) : Int)] ∧ Blk w19 (w14.heap.size) 40 [.int .i64 1, .int .i64 10, .int .i64 10, .int .u64 16384, .int .u64 16384, .slice none 0 0, .int .i64 0] ∧ RowIn .u8 w19 (0) (w.heap.size) (some ⟨0, 0, none⟩) 64 dbTab ∧ RowIn .u8 w19 (w10.heap.size + 0) (w11.heap.size) Av mv (pack xv) ∧ RowIn .u32 w19 (w14.heap.size + 1) (w15.heap.size) Bz 1 zz ∧ Below w5.heap.size w5 w19 := by
          refine ⟨?_, ?_, ?_, ?_, ?_, ?_, ?_, ?_⟩
          all_goals repeat' (first | (with_reducible first | assumption | exact Below.refl _ _ | refine Blk.drewN ?_ _ | refine RowIn.drewN ?_ _ | refine below_drewN ?_ _ | refine Blk.drew ?_ | refine RowIn.drew ?_ | refine Below.drew ?_) | (with_reducible refine Blk.new' ?_ ?_ <;> first | (with_reducible rfl) | (simp; done)) | (with_reducible first | refine Blk.alloc ?_ _ | refine RowIn.alloc ?_ _ | refine Below.alloc ?_ ?_ _ | apply Blk.set' | apply Blk.far' | refine RowIn.far' ?_ ?_ _ | refine Below.far' ?_ ?_ _ | refine Blk.after ?_ b19 | refine RowIn.belowS ?_ b19 | refine Below.after ?_ b19 ?_) | (exact (Eq.refl _ : (_ : List Value) = _)) | omega | go_size)
        clear zm_18 zn_18 zv_18 zo_18 rt_18 rv_18 rlz_18 rq_18 rlq_18 bb_18 km_18 fm_18 lm_18 kn_18 fn_18 ln_18 kv_18 fv_18 lv_18 ko_18 fo_18 lo_18 b19
        have km_19 := zm_19.cell; have fm_19 := zm_19.frozen; have lm_19 := zm_19.lt
        have kn_19 := zn_19.cell; have fn_19 := zn_19.frozen; have ln_19 := zn_19.lt
        have kv_19 := zv_19.cell; have fv_19 := zv_19.frozen; have lv_19 := zv_19.lt
        have ko_19 := zo_19.cell; have fo_19 := zo_19.frozen; have lo_19 := zo_19.lt
        go_wp2_with fail
        have r5 : Row .u32 (w19.alloc (.cells #[.int .u32 0] 55)) (some ⟨w19.heap.size, 0, none⟩) 1 [0] := row_one' rfl
        refine (r9same_eq Bz _ 1 dz 1 1 zz [0] _ (by exact RowIn.row (lo := w14.heap.size + 1) (hi := w15.heap.size) (by repeat' (first | (with_reducible first | assumption | exact Below.refl _ _ | refine Blk.drewN ?_ _ | refine RowIn.drewN ?_ _ | refine below_drewN ?_ _ | refine Blk.drew ?_ | refine RowIn.drew ?_ | refine Below.drew ?_) | (with_reducible refine Blk.new' ?_ ?_ <;> first | (with_reducible rfl) | (simp; done)) | (with_reducible first | refine Blk.alloc ?_ _ | refine RowIn.alloc ?_ _ | refine Below.alloc ?_ ?_ _ | apply Blk.set' | apply Blk.far' | refine RowIn.far' ?_ ?_ _ | refine Below.far' ?_ ?_ _) | (exact (Eq.refl _ : (_ : List Value) = _)) | omega | go_size))) r5 (by omega) (by rw [HZz.out]; rfl)).mono ?_
        rintro e w20 ⟨rfl, b20⟩
        have s20 := b20.size
        try simp only [World.size_alloc, World.size_setCell, World.size_drew, size_drewN] at s20
        obtain ⟨zm_20, zn_20, zv_20, zo_20, rt_20, rv_20, rlz_20, bb_20⟩ : Blk w20 (w3.heap.size) 40 [.int .i64 4000, .int .i64 10, .int .i64 10, .int .u64 16384, .int .u64 16384, .slice none 0 0, .int .i64 0] ∧ Blk w20 (w4.heap.size) 40 [.int .i64 0, .int .i64 10, .int .i64 10, .int .u64 16384, .int .u64 16384, .slice none 0 0, .int .i64 0] ∧ Blk w20 (w11.heap.size) 40 [.int .i64 4000, .int .i64 10, .int .i64 10, .int .u64 16384, .int .u64 16384, .slice Av mv cv, .int .i64 ((xv.length : Nat) : Int)] ∧ Blk w20 (w14.heap.size) 40 [.int .i64 1, .int .i64 10, .int .i64 10, .int .u64 16384, .int .u64 16384, .slice none 0 0, .int .i64 0] ∧ RowIn .u8 w20 (0) (w.heap.size) (some ⟨0, 0, none⟩) 64 dbTab ∧ RowIn .u8 w20 (w10.heap.size + 0) (w11.heap.size) Av mv (pack xv) ∧ RowIn .u32 w20 (w14.heap.size + 1) (w15.heap.size) Bz 1 zz ∧ Below w5.heap.size w5 w20 := by
          refine ⟨?_, ?_, ?_, ?_, ?_, ?_, ?_, ?_⟩
          all_goals repeat' (first | (with_reducible first | assumption | exact Below.refl _ _ | refine Blk.drewN ?_ _ | refine RowIn.drewN ?_ _ | refine below_drewN ?_ _ | refine Blk.drew ?_ | refine RowIn.drew ?_ | refine Below.drew ?_) | (with_reducible refine Blk.new' ?_ ?_ <;> first | (with_reducible rfl) | (simp; done)) | (with_reducible first | refine Blk.alloc ?_ _ | refine RowIn.alloc ?_ _ | refine Below.alloc ?_ ?_ _ | apply Blk.set' | apply Blk.far' | refine RowIn.far' ?_ ?_ _ | refine Below.far' ?_ ?_ _ | refine Blk.after ?_ b20 | refine RowIn.belowS ?_ b20 | refine Below.after ?_ b20 ?_) | (exact (Eq.refl _ : (_ : List Value) = _)) | omega | go_size)
        clear zm_19 zn_19 zv_19 zo_19 rt_19 rv_19 rlz_19 bb_19 km_19 fm_19 lm_19 kn_19 fn_19 ln_19 kv_19 fv_19 lv_19 ko_19 fo_19 lo_19 b20
        have km_20 := zm_20.cell; have fm_20 := zm_20.frozen; have lm_20 := zm_20.lt
        have kn_20 := zn_20.cell; have fn_20 := zn_20.frozen; have ln_20 := zn_20.lt
        have kv_20 := zv_20.cell; have fv_20 := zv_20.frozen; have lv_20 := zv_20.lt
        have ko_20 := zo_20.cell; have fo_20 := zo_20.frozen; have lo_20 := zo_20.lt
        go_wp2_with fail
        refine (alive10 _ (by exact RowIn.row (lo := 0) (hi := w.heap.size) (by repeat' (first | (with_reducible first | assumption | exact Below.refl _ _ | refine Blk.drewN ?_ _ | refine RowIn.drewN ?_ _ | refine below_drewN ?_ _ | refine Blk.drew ?_ | refine RowIn.drew ?_ | refine Below.drew ?_) | (with_reducible refine Blk.new' ?_ ?_ <;> first | (with_reducible rfl) | (simp; done)) | (with_reducible first | refine Blk.alloc ?_ _ | refine RowIn.alloc ?_ _ | refine Below.alloc ?_ ?_ _ | apply Blk.set' | apply Blk.far' | refine RowIn.far' ?_ ?_ _ | refine Below.far' ?_ ?_ _) | (exact (Eq.refl _ : (_ : List Value) = _)) | omega | go_size)))).mono ?_
        rintro e w21 ⟨rfl, b21⟩
        have s21 := b21.size
        try simp only [World.size_alloc, World.size_setCell, World.size_drew, size_drewN] at s21
        have bb_21 : Below w5.heap.size w5 w21 := by
          repeat' (first | (with_reducible first | assumption | exact Below.refl _ _ | refine Blk.drewN ?_ _ | refine RowIn.drewN ?_ _ | refine below_drewN ?_ _ | refine Blk.drew ?_ | refine RowIn.drew ?_ | refine Below.drew ?_) | (with_reducible refine Blk.new' ?_ ?_ <;> first | (with_reducible rfl) | (simp; done)) | (with_reducible first | refine Blk.alloc ?_ _ | refine RowIn.alloc ?_ _ | refine Below.alloc ?_ ?_ _ | apply Blk.set' | apply Blk.far' | refine RowIn.far' ?_ ?_ _ | refine Below.far' ?_ ?_ _ | refine Blk.after ?_ b21 | refine RowIn.belowS ?_ b21 | refine Below.after ?_ b21 ?_) | (exact (Eq.refl _ : (_ : List Value) = _)) | omega | go_size)
        clear zm_20 zn_20 zv_20 zo_20 rt_20 rv_20 rlz_20 bb_20 km_20 fm_20 lm_20 kn_20 fn_20 ln_20 kv_20 fv_20 lv_20 ko_20 fo_20 lo_20 b21
        go_wp2
        go_ret
        refine ⟨rfl, ?_⟩
        exact bb_5.trans (bb_21.mono bb_5.size)


end Go.Proofs.YtppilidcjlnmoaaDoor
