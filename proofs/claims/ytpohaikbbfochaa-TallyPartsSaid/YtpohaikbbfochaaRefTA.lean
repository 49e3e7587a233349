/-
  Contracts of the reference of chapter 12: Lengths, Each, Long, Length, Bytes, Most, Fits, Same.
-/
import Derived.Test.YtpohaikbbfochaaRefW
import Derived.Test.YtpohaikbbfochaaRefY
import Derived.Test.YtpohaikbbfochaaRefCA
import Derived.Test.YtpohaikbbfochaaTalA
namespace Go.Proofs.Ytpohaikbbfochaa
open Go.RowKit Cad Cad.Bit Cad.Code
set_option linter.unusedVariables false
set_option linter.unusedSimpArgs false


set_option maxRecDepth 100000 in
set_option maxHeartbeats 2000000 in
theorem rlens_ok (A : Option Addr) (n c : Nat) (xs : List Int) (w : World) (ha : Row .u32 w A n xs) (hx : Within 0 4294967295 xs) (hn : n ≤ 4000) :
    Calls Try.prog 31 #[.slice A n c] w fun e w' => ∃ B d ys, e = .returned (.slice B n d) ∧ (n ≤ d ∧ d ≤ 9223372036854775807) ∧ RowIn .i64 w' w.heap.size w'.heap.size B n ys ∧ Hid (ys = lens Cad.Code.start xs n) ∧ Below w.heap.size w w' := by
  go_enter Try.func31, Try.ntmps31
  go_wp2_with fail
  refine (rdstart_ok _).mono ?_
  rintro e w1 ⟨rfl, b1⟩
  have s1 := b1.size
  try simp only [World.size_alloc, World.size_setCell, World.size_drew, size_drewN] at s1
  have bb_1 : Below w.heap.size w w1 := by
    repeat' (first | (with_reducible first | assumption | exact Below.refl _ _ | refine Blk.drewN ?_ _ | refine RowIn.drewN ?_ _ | refine below_drewN ?_ _ | refine Blk.drew ?_ | refine RowIn.drew ?_ | refine Below.drew ?_) | (with_reducible refine Blk.new' ?_ ?_ <;> first | (with_reducible rfl) | (simp; done)) | (with_reducible first | refine Blk.alloc ?_ _ | refine RowIn.alloc ?_ _ | refine Below.alloc ?_ ?_ _ | apply Blk.set' | apply Blk.far' | refine RowIn.far' ?_ ?_ _ | refine Below.far' ?_ ?_ _ | refine Blk.after ?_ b1 | refine RowIn.belowS ?_ b1 | refine Below.after ?_ b1 ?_) | (exact (Eq.refl _ : (_ : List Value) = _)) | omega | go_size)
  clear b1
  go_wp2_with fail
  go_loopg [3, 5] n (fun k u v wr => ∃ (j p0 p1 q0 q1 d : Nat) (B : Option Addr) (ys : List Int), j + k = n ∧ u = .slice B j d ∧ v = .int .i64 (j : Nat) ∧ Hid ((⟨p0, p1, q0, q1⟩ : Dual) = stP Cad.Code.start xs j) ∧ Hid (ys = lens Cad.Code.start xs j) ∧ Own wr w.heap.size 3 .i64 B j d ys ∧ Blk wr (w1.heap.size) 46 [.int .i64 (p0 : Int), .int .i64 (p1 : Int), .int .u64 (q0 : Int), .int .u64 (q1 : Int)] ∧ Below w.heap.size w wr)
  case atStart =>
    refine ⟨0, 10, 10, 16384, 16384, 0, none, [], by omega, rfl, rfl, Lib.hid rfl, Lib.hid rfl, Own.nil _ _ _ _, ?_, ?_⟩
    all_goals repeat' (first | (with_reducible first | assumption | exact Below.refl _ _ | refine Blk.drewN ?_ _ | refine RowIn.drewN ?_ _ | refine below_drewN ?_ _ | refine Blk.drew ?_ | refine RowIn.drew ?_ | refine Below.drew ?_) | (with_reducible refine Blk.new' ?_ ?_ <;> first | (with_reducible rfl) | (simp; done)) | (with_reducible first | refine Blk.alloc ?_ _ | refine RowIn.alloc ?_ _ | refine Below.alloc ?_ ?_ _ | apply Blk.set' | apply Blk.far' | refine RowIn.far' ?_ ?_ _ | refine Below.far' ?_ ?_ _) | (exact (Eq.refl _ : (_ : List Value) = _)) | omega | go_size)
  case round =>
    obtain ⟨j, p0, p1, q0, q1, d, B, ys, hj, rfl, rfl, HP, HY, own5, zd_5, bb_5⟩ := hrel
    clear bb_1
    have kd_5 := zd_5.cell; have fd_5 := zd_5.frozen; have ld_5 := zd_5.lt
    have s5 := bb_5.size
    by_cases hlt : j < n
    · obtain ⟨bl, ol, rfl, hbl, hcell⟩ := ha.at (by omega)
      obtain ⟨v, hv⟩ : ∃ v, nth xs j = v := ⟨_, rfl⟩
      have hvb := hx.nth (by decide) (by decide) j
      rw [hv] at hvb
      have c0 : w.cell? ⟨bl, ol + j, none⟩ = some (.int .u32 v) := by rw [hcell j hlt, hv]
      obtain ⟨v, rfl⟩ := Int.eq_ofNat_of_zero_le hvb.1
      have hv32 : v < 4294967296 := by omega
      have CL := Lib.hid c0
      have HV : Hid ((nth xs j).toNat = v) := Lib.hid (by rw [hv]; rfl)
      have hbL := hbl
      clear c0 hcell hv
      have hpo : Dual.Ok ⟨p0, p1, q0, q1⟩ := by rw [HP.out]; exact stP_ok start_ok hx j
      have HPO := Lib.hid hpo
      clear hpo
      obtain ⟨x, HX⟩ : ∃ x, Hid (x = lenD ⟨p0, p1, q0, q1⟩ v) := ⟨_, Lib.hid rfl⟩
      have cL_5 : wr.cell? ⟨bl, ol + j, none⟩ = some (.int .u32 (v : Int)) := (bb_5.cell (p := ⟨bl, ol + j, none⟩) hbL).trans CL.out
      have hlt1 : (j : Int) < (n : Int) := by omega
      have own5d := own5.drew; have zd_5d := Blk.drew zd_5; have kd_5d := zd_5d.cell; have bb_5d := bb_5.drew; have cL_5d : wr.drew.cell? ⟨bl, ol + j, none⟩ = some (.int .u32 (v : Int)) := cL_5
      go_wp2_with fail
      go_region_law (first
        | (refine step_app _ i64E rfl _ _ rfl w.heap.size _ _ _ _ rfl (by exact own6.alloc _) _ _ _ [(x : Int)] rfl (by exact row_one' rfl) (by omega) (by have q1 := b6.size; have q2 := bb_5.size; simp only [World.size_alloc, World.size_drew] at q1 q2 ⊢; omega) ?_
           intro B2 d2 w7 own7 hg7 hat7)
        | (go_simp; go_at_call 49; refine (rdlong_ok p0 p1 q0 q1 v x _ HPO.out hv32 HX.out).mono ?_; rintro e w6 ⟨rfl, b6⟩
           have own6 := own5d.below b6 (Nat.le_refl _)))
      all_goals
        have s6 := b6.size; try simp only [World.size_drew] at s6
        have zd_6 := zd_5d.after b6
        have bb_6 := Below.after bb_5d b6 (by go_size)
        have zd_7 := Blk.grown (Blk.alloc zd_6 (.cells #[.int .i64 (x : Int)] 3)) hg7 (fun e => (own6.ne_blk zd_6 (by decide)) e.symm)
        have bb_7 := (bb_6.alloc (by go_size) (.cells #[.int .i64 (x : Int)] 3)).grown hg7 (by go_size) (fun g e => (own6.block g e).1)
        have kd_7 := zd_7.cell; have fd_7 := zd_7.frozen; have ld_7 := zd_7.lt
        have s7 := bb_7.size
        have hbl7 : bl < w7.heap.size := by omega
        have cL_7 : w7.cell? ⟨bl, ol + j, none⟩ = some (.int .u32 (v : Int)) := (bb_7.cell (p := ⟨bl, ol + j, none⟩) hbL).trans CL.out
        have cL_7d : w7.drew.cell? ⟨bl, ol + j, none⟩ = some (.int .u32 (v : Int)) := cL_7
        have kd_7d := (Blk.drew zd_7).cell
        clear hg7 hat7 own6 zd_6 bb_6
        go_wp2_with fail
        refine wp_still_tail 5 (by kernel_rfl) (by kernel_rfl) ?_
        simp only [List.take_succ_cons, List.take_zero, List.drop_succ_cons, List.drop_zero]
        repeat still_step
        refine wpStill_nil ?_
        go_wp2_with fail
        refine (rdlearnt_ok p0 p1 q0 q1 v _ HPO.out hv32).mono ?_
        rintro e w9 ⟨u0, u1, v0, v1, rfl, HU, b9⟩
        have own9 := own7.drew.below b9 (Nat.le_refl _)
        have zd_9 := (Blk.drew zd_7).after b9
        have bb_9 := Below.after (Below.drew bb_7) b9 s7
        have s9 := b9.size
        have kd_9 := zd_9.cell; have fd_9 := zd_9.frozen; have ld_9 := zd_9.lt
        have HP2 : Hid ((⟨u0, u1, v0, v1⟩ : Dual) = stP Cad.Code.start xs (j + 1)) := Lib.hid (by rw [stP_next, ← HP.out, HV.out, HU.out])
        have HY2 : Hid (ys ++ [(x : Int)] = lens Cad.Code.start xs (j + 1)) := Lib.hid (by rw [lens_next, HY.out, HX.out, HP.out, ← HV.out]; rfl)
        go_wp2
        go_roundg (n - (j + 1))
        case measure => omega
        case rel =>
          have hne : blockOf B2 ≠ some w1.heap.size := own9.ne_blk zd_9 (by decide)
          refine ⟨j + 1, u0, u1, v0, v1, d2, B2, ys ++ [(x : Int)], by omega, rfl, by go_num, HP2, HY2, ?_, ?_, ?_⟩
          · exact (((own9.far' hne _).far' hne _).far' hne _).far' hne _
          · exact Blk.set4 zd_9
          · exact Below.far4 bb_9 (by omega)
    · obtain rfl : j = n := by omega
      have hcap := own5.rowC.2
      go_wp2
      go_ret
      exact ⟨B, d, ys, rfl, hcap, own5.rowIn, HY, bb_5⟩


set_option maxHeartbeats 400000 in
theorem r12each_ok (A : Option Addr) (n c : Nat) (xs : List Int) (w : World) (ha : Row .u32 w A n xs) (hx : Within 0 4294967295 xs) (hn : n ≤ 4000) :
    Calls Try.prog 11 #[.slice A n c] w (RetI w (lens Cad.Code.start xs n) 0) := by
  have ht0 : decide ((4000 : Int) < (n : Int)) = false := decide_eq_false (by omega)
  go_enter Try.func11, Try.ntmps11
  go_wp2_with fail
  refine (rlens_ok A n c xs _ ha hx hn).mono ?_
  rintro e w1 ⟨B, d, ys, rfl, hd, rb, HY, b1⟩
  go_wp2
  go_ret2
  exact ⟨B, n, d, ys, rfl, hd, rb, HY, b1⟩
theorem r12each_many (A : Option Addr) (n c : Nat) (w : World) (hn : 4000 < n) :
    Calls Try.prog 11 #[.slice A n c] w (RetI w [] 4) := by
  have ht0 : decide ((4000 : Int) < (n : Int)) = true := decide_eq_true (by omega)
  go_enter Try.func11, Try.ntmps11
  go_wp2
  go_ret2
  exact ⟨none, 0, 0, [], rfl, ⟨Nat.le_refl _, Nat.zero_le _⟩, RowIn.nil, Lib.hid rfl, Below.refl _ _⟩


set_option maxRecDepth 100000 in
set_option maxHeartbeats 1000000 in
theorem rtlong_ok (A : Option Addr) (n c : Nat) (xs : List Int) (w : World) (ha : Row .u32 w A n xs) (hx : Within 0 4294967295 xs) (hn : n ≤ 4000) :
    Calls Try.prog 33 #[.slice A n c] w fun e w' => e = .returned (.int .i64 ((lenP Cad.Code.start xs n : Nat) : Int)) ∧ Below w.heap.size w w' := by
  go_enter Try.func33, Try.ntmps33
  go_wp2_with fail
  refine (rlens_ok A n c xs _ ha hx hn).mono ?_
  rintro e w1 ⟨B, d, ys, rfl, hd, rb, HY, b1⟩
  have s1 := b1.size
  go_wp2_with fail
  go_loopg [3, 5] n (fun k u v wr => ∃ (j z : Nat), j + k = n ∧ u = .int .i64 (z : Nat) ∧ v = .int .i64 (j : Nat) ∧ Hid (z = lenP Cad.Code.start xs j) ∧ z ≤ 81 * j ∧ wr = w1)
  case atStart => exact ⟨0, 0, by omega, rfl, rfl, Lib.hid rfl, by omega, rfl⟩
  case round =>
    obtain ⟨j, z, hj, rfl, rfl, HZ, hz, rfl⟩ := hrel
    by_cases hlt : j < n
    · obtain ⟨bl, ol, rfl, hbl, hcell⟩ := rb.row.at (by omega)
      obtain ⟨x, HX⟩ : ∃ x : Nat, Hid (x = lenAt Cad.Code.start xs j) := ⟨_, Lib.hid rfl⟩
      have hx81 : x ≤ 81 := by rw [HX.out]; exact (lenAt_le start_ok hx j).2
      have c0 : wr.cell? ⟨bl, ol + j, none⟩ = some (.int .i64 (x : Int)) := by rw [hcell j hlt, HY.out, nth_lens _ _ hlt, HX.out]
      have hlt1 : (j : Int) < (n : Int) := by omega
      have HZ2 : Hid (z + x = lenP Cad.Code.start xs (j + 1)) := Lib.hid (by rw [lenP_step, HZ.out, HX.out])
      clear hcell
      go_wp2_with fail
      go_roundg (n - (j + 1))
      case measure => omega
      case rel => exact ⟨j + 1, z + x, by omega, by go_num, by go_num, HZ2, by omega, rfl⟩
    · obtain rfl : j = n := by omega
      go_wp2
      go_ret
      exact ⟨ret_int (by rw [HZ.out]), b1⟩
set_option maxHeartbeats 400000 in
theorem r12len_ok (A : Option Addr) (n c : Nat) (xs : List Int) (w : World) (ha : Row .u32 w A n xs) (hx : Within 0 4294967295 xs) (hn : n ≤ 4000) :
    Calls Try.prog 13 #[.slice A n c] w fun e w' => e = .returned (.tuple #[.int .i64 ((lenP Cad.Code.start xs n : Nat) : Int), .int .i64 0]) ∧ Below w.heap.size w w' := by
  have ht0 : decide ((4000 : Int) < (n : Int)) = false := decide_eq_false (by omega)
  go_enter Try.func13, Try.ntmps13
  go_wp2_with fail
  refine (rtlong_ok A n c xs _ ha hx hn).mono ?_
  rintro e w1 ⟨rfl, b1⟩
  go_wp2
  go_ret2
  exact ⟨rfl, b1⟩
theorem r12len_many (A : Option Addr) (n c : Nat) (w : World) (hn : 4000 < n) :
    Calls Try.prog 13 #[.slice A n c] w fun e w' => e = .returned (.tuple #[.int .i64 0, .int .i64 4]) ∧ Below w.heap.size w w' := by
  have ht0 : decide ((4000 : Int) < (n : Int)) = true := decide_eq_true (by omega)
  go_enter Try.func13, Try.ntmps13
  go_wp2
  go_ret2
  exact ⟨rfl, Below.refl _ _⟩
theorem rlong11_ok (n m : Nat) (w : World) (h : n ≤ 1000000000) (hm : sizeB n = m) :
    Calls Try.prog 35 #[.int .i64 (n : Int)] w fun e w' => e = .returned (.int .i64 (m : Int)) ∧ w' = w := by
  unfold sizeB at hm
  have h1 : ((n : Int) + 7) / 8 + 4 = (m : Int) := by omega
  go_enter Try.func35, Try.ntmps35
  go_wp2
  go_ret
  exact ⟨rfl, rfl⟩
set_option maxHeartbeats 400000 in
theorem r12bytes_ok (A : Option Addr) (n c : Nat) (xs : List Int) (w : World) (ha : Row .u32 w A n xs) (hx : Within 0 4294967295 xs) (hn : n ≤ 4000) :
    Calls Try.prog 15 #[.slice A n c] w fun e w' => e = .returned (.tuple #[.int .i64 ((sizeB (lenP Cad.Code.start xs n) : Nat) : Int), .int .i64 0]) ∧ Below w.heap.size w w' := by
  have ht0 : decide ((4000 : Int) < (n : Int)) = false := decide_eq_false (by omega)
  have hl := lenP_le start_ok hx n
  go_enter Try.func15, Try.ntmps15
  go_wp2_with fail
  refine (rtlong_ok A n c xs _ ha hx hn).mono ?_
  rintro e w1 ⟨rfl, b1⟩
  go_wp2_with fail
  refine (rlong11_ok (lenP Cad.Code.start xs n) _ _ (by omega) rfl).mono ?_
  rintro e _ ⟨rfl, rfl⟩
  go_wp2
  go_ret2
  exact ⟨rfl, b1⟩
theorem r12bytes_many (A : Option Addr) (n c : Nat) (w : World) (hn : 4000 < n) :
    Calls Try.prog 15 #[.slice A n c] w fun e w' => e = .returned (.tuple #[.int .i64 0, .int .i64 4]) ∧ Below w.heap.size w w' := by
  have ht0 : decide ((4000 : Int) < (n : Int)) = true := decide_eq_true (by omega)
  go_enter Try.func15, Try.ntmps15
  go_wp2
  go_ret2
  exact ⟨rfl, Below.refl _ _⟩
theorem r12most_ok (n : Int) (w : World) (h : ¬ (n < 0 ∨ 4000 < n)) :
    Calls Try.prog 19 #[.int .i64 n] w fun e w' => e = .returned (.tuple #[.int .i64 (81 * n), .int .i64 0]) ∧ w' = w := by
  have t1 : decide (n < 0) = false := decide_eq_false (by omega)
  have t2 : decide (4000 < n) = false := decide_eq_false (by omega)
  have t3 : 0 ≤ n ∧ n ≤ 4000 := by omega
  go_enter Try.func19, Try.ntmps19
  go_wp2
  go_ret2
  exact ⟨by first | rfl | go_num, rfl⟩
theorem r12most_bad (n : Int) (w : World) (h : n < 0 ∨ 4000 < n) :
    Calls Try.prog 19 #[.int .i64 n] w fun e w' => e = .returned (.tuple #[.int .i64 0, .int .i64 2]) ∧ w' = w := by
  rcases h with h | h
  · have t1 : decide (n < 0) = true := decide_eq_true (by omega)
    go_enter Try.func19, Try.ntmps19
    go_wp2
    go_ret2
    exact ⟨rfl, rfl⟩
  · have t1 : decide (n < 0) = false := decide_eq_false (by omega)
    have t2 : decide (4000 < n) = true := decide_eq_true (by omega)
    go_enter Try.func19, Try.ntmps19
    go_wp2
    go_ret2
    exact ⟨rfl, rfl⟩


set_option maxRecDepth 100000 in
set_option maxHeartbeats 1000000 in
theorem r12fits_ok (A : Option Addr) (n c : Nat) (xs : List Int) (bytes : Nat) (w : World) (ha : Row .u32 w A n xs) (hx : Within 0 4294967295 xs) (hn : n ≤ 4000) (hb4 : 4 ≤ bytes) :
    Calls Try.prog 21 #[.slice A n c, .int .i64 (bytes : Int)] w fun e w' => e = .returned (.tuple #[.int .i64 ((fitsAt Cad.Code.start xs bytes 0 n : Nat) : Int), .int .i64 0]) ∧ Below w.heap.size w w' := by
  have ht0 : decide ((4000 : Int) < (n : Int)) = false := decide_eq_false (by omega)
  have ht1 : decide ((bytes : Int) < 4) = false := decide_eq_false (by omega)
  obtain ⟨G, HG⟩ : ∃ G, Hid (G = fitsAt Cad.Code.start xs bytes 0 n) := ⟨_, Lib.hid rfl⟩
  rw [← HG.out]
  go_enter Try.func21, Try.ntmps21
  go_wp2_with fail
  refine (rlens_ok A n c xs _ ha hx hn).mono ?_
  rintro e w1 ⟨B, d, ys, rfl, hd, rb, HY, b1⟩
  have s1 := b1.size
  go_wp2_with fail
  go_loopg [7, 8] n (fun k u v wr => ∃ (j z : Nat), j + k = n ∧ u = .int .i64 (z : Nat) ∧ v = .int .i64 (j : Nat) ∧ Hid (z = lenP Cad.Code.start xs j) ∧ z ≤ 81 * j ∧ Hid (G = fitsAt Cad.Code.start xs bytes j k) ∧ wr = w1)
  case atStart => exact ⟨0, 0, by omega, rfl, rfl, Lib.hid rfl, by omega, HG, rfl⟩
  case round =>
    obtain ⟨j, z, hj, rfl, rfl, HZ, hz, HF, rfl⟩ := hrel
    by_cases hlt : j < n
    · obtain ⟨bl, ol, rfl, hbl, hcell⟩ := rb.row.at (by omega)
      obtain ⟨x, HX⟩ : ∃ x : Nat, Hid (x = lenAt Cad.Code.start xs j) := ⟨_, Lib.hid rfl⟩
      have hx81 : x ≤ 81 := by rw [HX.out]; exact (lenAt_le start_ok hx j).2
      have c0 : wr.cell? ⟨bl, ol + j, none⟩ = some (.int .i64 (x : Int)) := by rw [hcell j hlt, HY.out, nth_lens _ _ hlt, HX.out]
      have hlt1 : (j : Int) < (n : Int) := by omega
      obtain ⟨y, HY2⟩ : ∃ y, Hid (y = z + x) := ⟨_, Lib.hid rfl⟩
      have hzx : (z : Int) + (x : Int) = (y : Int) := by rw [HY2.out]; omega
      have hy81 : y ≤ 81 * (j + 1) := by rw [HY2.out]; omega
      have HZ2 : Hid (y = lenP Cad.Code.start xs (j + 1)) := Lib.hid (by rw [lenP_step, HY2.out, HZ.out, HX.out])
      obtain ⟨q, HQ⟩ : ∃ q, Hid (sizeB y = q) := ⟨_, Lib.hid rfl⟩
      obtain ⟨r, hr⟩ : ∃ r, gk = r + 1 := ⟨gk - 1, by omega⟩
      have HR := Lib.hid hr
      clear hcell hr
      by_cases hbig : bytes < q
      · have HGJ : Hid ((j : Int) = (G : Int)) := Lib.hid (by rw [HF.out, HR.out, fitsAt_stop (by rw [← HZ2.out, HQ.out]; exact hbig)])
        have ht2 : decide ((bytes : Int) < (q : Int)) = true := decide_eq_true (by omega)
        go_wp2_with fail
        refine (rlong11_ok y q _ (by omega) HQ.out).mono ?_
        rintro e _ ⟨rfl, rfl⟩
        go_wp2
        go_ret2
        exact ⟨by first | rfl | (rw [HGJ.out]; rfl), b1⟩
      · have HF2 : Hid (G = fitsAt Cad.Code.start xs bytes (j + 1) r) := Lib.hid (by rw [HF.out, HR.out, fitsAt_go (by rw [← HZ2.out, HQ.out]; exact hbig)])
        have ht2 : decide ((bytes : Int) < (q : Int)) = false := decide_eq_false (by omega)
        go_wp2_with fail
        refine (rlong11_ok y q _ (by omega) HQ.out).mono ?_
        rintro e _ ⟨rfl, rfl⟩
        go_wp2
        go_roundg r
        case measure => have := HR.out; omega
        case rel => exact ⟨j + 1, y, by have := HR.out; omega, by first | rfl | go_num, by go_num, HZ2, hy81, HF2, rfl⟩
    · obtain rfl : j = n := by omega
      have HGJ : Hid ((j : Int) = (G : Int)) := Lib.hid (by rw [HF.out, show gk = 0 by omega, fitsAt_zero])
      go_wp2
      go_ret2
      exact ⟨by first | rfl | (rw [HGJ.out]; rfl), b1⟩
theorem r12fits_many (A : Option Addr) (n c : Nat) (bytes : Int) (w : World) (hn : 4000 < n) :
    Calls Try.prog 21 #[.slice A n c, .int .i64 bytes] w fun e w' => e = .returned (.tuple #[.int .i64 0, .int .i64 4]) ∧ Below w.heap.size w w' := by
  have ht0 : decide ((4000 : Int) < (n : Int)) = true := decide_eq_true (by omega)
  go_enter Try.func21, Try.ntmps21
  go_wp2
  go_ret2
  exact ⟨rfl, Below.refl _ _⟩
theorem r12fits_few (A : Option Addr) (n c : Nat) (bytes : Int) (w : World) (hn : n ≤ 4000) (hb : bytes < 4) :
    Calls Try.prog 21 #[.slice A n c, .int .i64 bytes] w fun e w' => e = .returned (.tuple #[.int .i64 0, .int .i64 2]) ∧ Below w.heap.size w w' := by
  have ht0 : decide ((4000 : Int) < (n : Int)) = false := decide_eq_false (by omega)
  have ht1 : decide (bytes < 4) = true := decide_eq_true (by omega)
  go_enter Try.func21, Try.ntmps21
  go_wp2
  go_ret2
  exact ⟨rfl, Below.refl _ _⟩

set_option maxHeartbeats 1000000 in
theorem r12same_any (A B : Option Addr) (n c m d : Nat) (xs ys : List Int) (w : World) (ha : Row .i64 w A n xs) (hb : Row .i64 w B m ys) (hn : n ≤ 900000) (hm : m ≤ 900000) :
    Calls Try.prog 16 #[.slice A n c, .slice B m d] w fun e w' => e = .returned (.bool (decide (xs = ys))) ∧ Below w.heap.size w w' := by
  have HX := Lib.hid ha.len
  have HY := Lib.hid hb.len
  by_cases h : n = m
  · subst h
    have hne : ((n : Int) != (n : Int)) = false := by simp
    go_enter Try.func16, Try.ntmps16
    go_wp2_with fail
    
    go_loopg [5] n (fun r i wr => ∃ j : Nat, j + r = n ∧ i = .int .i64 (j : Int) ∧ Hid (xs.take j = ys.take j) ∧ Below w.heap.size w wr)
    case atStart => exact ⟨0, by omega, rfl, Lib.hid rfl, Below.refl _ _⟩
    case round =>
      obtain ⟨j, hj, rfl, HJ, bb⟩ := hrel
      have sb := bb.size
      by_cases hlt : j < n
      · have hlt' : (j : Int) < (n : Int) := by omega
        obtain ⟨b1, o1, rfl, hbk1, hc1⟩ := ha.at (by omega)
        obtain ⟨b2, o2, rfl, hbk2, hc2⟩ := hb.at (by omega)
        obtain ⟨x, HXX⟩ : ∃ x, Hid (x = nth xs j) := ⟨_, Lib.hid rfl⟩
        obtain ⟨y, HYY⟩ : ∃ y, Hid (y = nth ys j) := ⟨_, Lib.hid rfl⟩
        have c1 : wr.cell? ⟨b1, o1 + j, none⟩ = some (.int .i64 x) := (bb.cell (p := ⟨b1, o1 + j, none⟩) hbk1).trans ((hc1 j hlt).trans (by rw [HXX.out]))
        have c2 : wr.cell? ⟨b2, o2 + j, none⟩ = some (.int .i64 y) := (bb.cell (p := ⟨b2, o2 + j, none⟩) hbk2).trans ((hc2 j hlt).trans (by rw [HYY.out]))
        clear hc1 hc2
        by_cases he : x = y
        · subst he
          have hxx : (x != x) = false := by simp
          go_wp2_with fail
          go_region
          all_goals try go_wp2
          all_goals
            go_roundg (n - (j + 1))
            case measure => omega
            case rel => exact ⟨j + 1, by omega, by go_num, Lib.hid (by rw [take_next (by rw [HX.out]; exact hlt), take_next (by rw [HY.out]; exact hlt), HJ.out, ← HXX.out, ← HYY.out]), by repeat' (first | (with_reducible assumption) | (with_reducible exact Below.refl _ _) | (with_reducible refine Blk.drewN ?_ _) | (with_reducible refine RowIn.drewN ?_ _) | (with_reducible refine below_drewN ?_ _) | (with_reducible refine Blk.drew ?_) | (with_reducible refine RowIn.drew ?_) | (with_reducible refine Below.drew ?_) | (with_reducible refine Blk.new' ?_ ?_ <;> first | (with_reducible rfl) | (simp; done)) | (with_reducible refine Blk.alloc ?_ _) | (with_reducible refine RowIn.alloc ?_ _) | (with_reducible refine Below.alloc ?_ ?_ _) | (with_reducible apply Blk.set') | (with_reducible apply Blk.far') | (with_reducible refine RowIn.far' ?_ ?_ _) | (with_reducible refine Below.far' ?_ ?_ _) | rfl | omega | go_size)⟩
        · have hxx : (x != y) = true := by simpa using he
          have HE : Hid (decide (xs = ys) = false) := by
            refine Lib.hid (decide_eq_false fun e => he ?_)
            rw [HXX.out, HYY.out, e]
          go_wp2_with fail
          go_region
          all_goals
            go_wp2
            go_ret
            exact ⟨ret_bool HE.out.symm, by repeat' (first | (with_reducible assumption) | (with_reducible exact Below.refl _ _) | (with_reducible refine Blk.drewN ?_ _) | (with_reducible refine RowIn.drewN ?_ _) | (with_reducible refine below_drewN ?_ _) | (with_reducible refine Blk.drew ?_) | (with_reducible refine RowIn.drew ?_) | (with_reducible refine Below.drew ?_) | (with_reducible refine Blk.new' ?_ ?_ <;> first | (with_reducible rfl) | (simp; done)) | (with_reducible refine Blk.alloc ?_ _) | (with_reducible refine RowIn.alloc ?_ _) | (with_reducible refine Below.alloc ?_ ?_ _) | (with_reducible apply Blk.set') | (with_reducible apply Blk.far') | (with_reducible refine RowIn.far' ?_ ?_ _) | (with_reducible refine Below.far' ?_ ?_ _) | rfl | omega | go_size)⟩
      · obtain rfl : j = n := by omega
        have HE : Hid (decide (xs = ys) = true) := by
          have h := HJ.out
          rw [List.take_of_length_le (by rw [HX.out]; exact Nat.le_refl _), List.take_of_length_le (by rw [HY.out]; exact Nat.le_refl _)] at h
          exact Lib.hid (decide_eq_true h)
        go_wp2
        go_ret
        exact ⟨ret_bool HE.out.symm, by repeat' (first | (with_reducible assumption) | (with_reducible exact Below.refl _ _) | (with_reducible refine Blk.drewN ?_ _) | (with_reducible refine RowIn.drewN ?_ _) | (with_reducible refine below_drewN ?_ _) | (with_reducible refine Blk.drew ?_) | (with_reducible refine RowIn.drew ?_) | (with_reducible refine Below.drew ?_) | (with_reducible refine Blk.new' ?_ ?_ <;> first | (with_reducible rfl) | (simp; done)) | (with_reducible refine Blk.alloc ?_ _) | (with_reducible refine RowIn.alloc ?_ _) | (with_reducible refine Below.alloc ?_ ?_ _) | (with_reducible apply Blk.set') | (with_reducible apply Blk.far') | (with_reducible refine RowIn.far' ?_ ?_ _) | (with_reducible refine Below.far' ?_ ?_ _) | rfl | omega | go_size)⟩
  · have hne : ((n : Int) != (m : Int)) = true := by simp; omega
    have HE : Hid (decide (xs = ys) = false) := by
      refine Lib.hid (decide_eq_false fun e => h ?_)
      rw [← HX.out, ← HY.out, e]
    go_enter Try.func16, Try.ntmps16
    go_wp2
    go_ret
    exact ⟨ret_bool HE.out.symm, by repeat' (first | (with_reducible assumption) | (with_reducible exact Below.refl _ _) | (with_reducible refine Blk.drewN ?_ _) | (with_reducible refine RowIn.drewN ?_ _) | (with_reducible refine below_drewN ?_ _) | (with_reducible refine Blk.drew ?_) | (with_reducible refine RowIn.drew ?_) | (with_reducible refine Below.drew ?_) | (with_reducible refine Blk.new' ?_ ?_ <;> first | (with_reducible rfl) | (simp; done)) | (with_reducible refine Blk.alloc ?_ _) | (with_reducible refine RowIn.alloc ?_ _) | (with_reducible refine Below.alloc ?_ ?_ _) | (with_reducible apply Blk.set') | (with_reducible apply Blk.far') | (with_reducible refine RowIn.far' ?_ ?_ _) | (with_reducible refine Below.far' ?_ ?_ _) | rfl | omega | go_size)⟩
theorem r12same_eq (A B : Option Addr) (n c m d : Nat) (xs ys : List Int) (w : World) (ha : Row .i64 w A n xs) (hb : Row .i64 w B m ys) (hn : n ≤ 900000) (he : xs = ys) :
    Calls Try.prog 16 #[.slice A n c, .slice B m d] w fun e w' => e = .returned (.bool true) ∧ Below w.heap.size w w' :=
  (r12same_any A B n c m d xs ys w ha hb hn (by rw [← hb.len, ← he, ha.len]; exact hn)).mono fun e w' h => ⟨by rw [h.1, decide_eq_true he], h.2⟩


end Go.Proofs.Ytpohaikbbfochaa
