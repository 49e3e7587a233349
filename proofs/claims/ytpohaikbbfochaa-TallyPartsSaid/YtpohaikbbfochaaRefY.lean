/-
  Contracts of the reference of chapter 8: learning.
-/
import Derived.Test.YtpohaikbbfochaaRefT
namespace Go.Proofs.Ytpohaikbbfochaa
open Go.RowKit Cad Cad.Bit Cad.Code
set_option linter.unusedVariables false
set_option linter.unusedSimpArgs false

theorem rpower_i (i : Int) (j y : Nat) (w : World) (hi : i = (j : Int)) (hj : j ≤ 29) (hy : y = 2 ^ j) :
    Calls Try.prog 70 #[.int .i64 i] w fun e w' => e = .returned (.int .u64 (y : Int)) ∧ w = w' := by
  subst hi
  refine (rpower_ok j w hj).mono ?_
  rintro e w' ⟨z, rfl, HZ, hw⟩
  exact ⟨by rw [HZ.out, hy], hw⟩
theorem pow_add4 (k : Nat) : 16 * 2 ^ k = 2 ^ (k + 4) := by rw [Nat.pow_add, Nat.mul_comm]
theorem pow_add5 (k : Nat) : 32 * 2 ^ k = 2 ^ (k + 5) := by rw [Nat.pow_add, Nat.mul_comm]

theorem rdlow_yes (p0 p1 q0 q1 v : Nat) (w : World) (hk : p0 ≤ 24) (hv : v < 4294967296) (h : v < 2 ^ p0) :
    Calls Try.prog 62 #[.agg #[.int .i64 (p0 : Int), .int .i64 (p1 : Int), .int .u64 (q0 : Int), .int .u64 (q1 : Int)], .int .u32 (v : Int)] w fun e w' => e = .returned (.bool true) ∧ Below w.heap.size w w' := by
  obtain ⟨P, hP⟩ : ∃ P, P = 2 ^ p0 := ⟨_, rfl⟩
  have h2 : v < P := by rw [hP]; exact h
  have HP := Lib.hid hP
  clear hP h
  go_enter Try.func62, Try.ntmps62
  go_wp2_with fail
  refine (rpower_i _ p0 P _ rfl (by omega) HP.out).mono ?_
  rintro e _ ⟨rfl, rfl⟩
  go_wp2
  go_ret
  refine ⟨by first | rfl | exact ret_bool (decide_eq_true (by omega)), ?_⟩
  repeat' (first | (with_reducible assumption) | (with_reducible exact Below.refl _ _) | (with_reducible refine Blk.drewN ?_ _) | (with_reducible refine RowIn.drewN ?_ _) | (with_reducible refine below_drewN ?_ _) | (with_reducible refine Blk.drew ?_) | (with_reducible refine RowIn.drew ?_) | (with_reducible refine Below.drew ?_) | (with_reducible refine Blk.new' ?_ ?_ <;> first | (with_reducible rfl) | (simp; done)) | (with_reducible refine Blk.alloc ?_ _) | (with_reducible refine RowIn.alloc ?_ _) | (with_reducible refine Below.alloc ?_ ?_ _) | (with_reducible apply Blk.set') | (with_reducible apply Blk.far') | (with_reducible refine RowIn.far' ?_ ?_ _) | (with_reducible refine Below.far' ?_ ?_ _) | rfl | omega | go_size)

theorem rdlow_no (p0 p1 q0 q1 v : Nat) (w : World) (hk : p0 ≤ 24) (hv : v < 4294967296) (h : ¬ v < 2 ^ p0) :
    Calls Try.prog 62 #[.agg #[.int .i64 (p0 : Int), .int .i64 (p1 : Int), .int .u64 (q0 : Int), .int .u64 (q1 : Int)], .int .u32 (v : Int)] w fun e w' => e = .returned (.bool false) ∧ Below w.heap.size w w' := by
  obtain ⟨P, hP⟩ : ∃ P, P = 2 ^ p0 := ⟨_, rfl⟩
  have h2 : ¬ v < P := by rw [hP]; exact h
  have HP := Lib.hid hP
  clear hP h
  go_enter Try.func62, Try.ntmps62
  go_wp2_with fail
  refine (rpower_i _ p0 P _ rfl (by omega) HP.out).mono ?_
  rintro e _ ⟨rfl, rfl⟩
  go_wp2
  go_ret
  refine ⟨by first | rfl | exact ret_bool (decide_eq_false (by omega)), ?_⟩
  repeat' (first | (with_reducible assumption) | (with_reducible exact Below.refl _ _) | (with_reducible refine Blk.drewN ?_ _) | (with_reducible refine RowIn.drewN ?_ _) | (with_reducible refine below_drewN ?_ _) | (with_reducible refine Blk.drew ?_) | (with_reducible refine RowIn.drew ?_) | (with_reducible refine Below.drew ?_) | (with_reducible refine Blk.new' ?_ ?_ <;> first | (with_reducible rfl) | (simp; done)) | (with_reducible refine Blk.alloc ?_ _) | (with_reducible refine RowIn.alloc ?_ _) | (with_reducible refine Below.alloc ?_ ?_ _) | (with_reducible apply Blk.set') | (with_reducible apply Blk.far') | (with_reducible refine RowIn.far' ?_ ?_ _) | (with_reducible refine Below.far' ?_ ?_ _) | rfl | omega | go_size)

theorem rdleft_ok (p0 p1 q0 q1 v y : Nat) (w : World) (hk : p0 ≤ 24) (hv : v < 4294967296) (h : ¬ v < 2 ^ p0) (hy : y = v - 2 ^ p0) :
    Calls Try.prog 64 #[.agg #[.int .i64 (p0 : Int), .int .i64 (p1 : Int), .int .u64 (q0 : Int), .int .u64 (q1 : Int)], .int .u32 (v : Int)] w fun e w' => e = .returned (.int .u32 (y : Int)) ∧ Below w.heap.size w w' := by
  obtain ⟨P, hP⟩ : ∃ P, P = 2 ^ p0 := ⟨_, rfl⟩
  have hyi : (v : Int) - (P : Int) = (y : Int) := by rw [hP, hy]; omega
  have hy32 : y < 4294967296 := by omega
  rw [← hP] at h
  have HP := Lib.hid hP
  clear hP hy
  go_enter Try.func64, Try.ntmps64
  go_wp2_with fail
  refine (rpower_i _ p0 P _ rfl (by omega) HP.out).mono ?_
  rintro e _ ⟨rfl, rfl⟩
  go_wp2
  go_ret
  refine ⟨by first | rfl | go_num, ?_⟩
  repeat' (first | (with_reducible assumption) | (with_reducible exact Below.refl _ _) | (with_reducible refine Blk.drewN ?_ _) | (with_reducible refine RowIn.drewN ?_ _) | (with_reducible refine below_drewN ?_ _) | (with_reducible refine Blk.drew ?_) | (with_reducible refine RowIn.drew ?_) | (with_reducible refine Below.drew ?_) | (with_reducible refine Blk.new' ?_ ?_ <;> first | (with_reducible rfl) | (simp; done)) | (with_reducible refine Blk.alloc ?_ _) | (with_reducible refine RowIn.alloc ?_ _) | (with_reducible refine Below.alloc ?_ ?_ _) | (with_reducible apply Blk.set') | (with_reducible apply Blk.far') | (with_reducible refine RowIn.far' ?_ ?_ _) | (with_reducible refine Below.far' ?_ ?_ _) | rfl | omega | go_size)


set_option maxRecDepth 100000 in
set_option maxHeartbeats 1000000 in
theorem rdpair_ok (k s n : Nat) (w : World) (hk : k ≤ 24) (hs : s ≤ 68719476735) (hn : n < 4294967296) :
    Calls Try.prog 65 #[.int .i64 (k : Int), .int .u64 (s : Int), .int .u64 (n : Int)] w fun e w' => ∃ k' s' : Nat, e = .returned (.tuple #[.int .i64 (k' : Int), .int .u64 (s' : Int)]) ∧ Hid (s' = sumOf s n) ∧ Hid (k' = kOf k s') ∧ w = w' := by
  obtain ⟨d, hd⟩ : ∃ d, d = s / 16 := ⟨_, rfl⟩
  have hdi : (s : Int) / 16 = (d : Int) := by omega
  obtain ⟨t, ht⟩ : ∃ t, t = sumOf s n := ⟨_, rfl⟩
  have hti : (s : Int) + (n : Int) - (d : Int) = (t : Int) := by rw [ht]; unfold sumOf; omega
  have ht2 : t ≤ 73014444031 := by rw [ht]; unfold sumOf; omega
  have HT := Lib.hid ht
  obtain ⟨p, hp⟩ : ∃ p, p = 2 ^ k := ⟨_, rfl⟩
  have hp2 : p ≤ 16777216 := by rw [hp]; exact Nat.le_trans (Nat.pow_le_pow_right (by omega) hk) (by decide)
  obtain ⟨P4, hP4⟩ : ∃ P4, P4 = 16 * p := ⟨_, rfl⟩
  obtain ⟨P5, hP5⟩ : ∃ P5, P5 = 32 * p := ⟨_, rfl⟩
  have H4 : Hid (P4 = 2 ^ (k + 4)) := by rw [hP4, hp, pow_add4]; exact Lib.hid rfl
  have H5 : Hid (P5 = 2 ^ (k + 5)) := by rw [hP5, hp, pow_add5]; exact Lib.hid rfl
  have HP := Lib.hid hp
  clear hd ht hp
  by_cases hk0 : 0 < k
  · have t1 : decide (0 < (k : Int)) = true := decide_eq_true (by omega)
    by_cases h16 : t < P4
    · have t2 : decide ((t : Int) < (P4 : Int)) = true := decide_eq_true (by omega)
      have HK : Hid (k - 1 = kOf k t) := Lib.hid (by unfold kOf; rw [if_pos ⟨by omega, by rw [← HP.out]; omega⟩])
      clear hP4 hP5
      go_enter Try.func65, Try.ntmps65
      go_wp2_with fail
      refine (rpower_i _ (k + 4) P4 _ (by omega) (by omega) H4.out).mono ?_
      rintro e _ ⟨rfl, rfl⟩
      go_wp2
      go_ret2
      exact ⟨k - 1, t, by first | rfl | go_num, HT, HK, rfl⟩
    · have t2 : decide ((t : Int) < (P4 : Int)) = false := decide_eq_false (by omega)
      by_cases h24 : k < 24
      · have t3 : decide ((k : Int) < 24) = true := decide_eq_true (by omega)
        by_cases h32 : P5 < t
        · have t4 : decide ((P5 : Int) < (t : Int)) = true := decide_eq_true (by omega)
          have HK : Hid (k + 1 = kOf k t) := Lib.hid (by unfold kOf; rw [if_neg (by rw [← HP.out]; omega), if_pos ⟨by omega, by rw [← HP.out]; omega⟩])
          clear hP4 hP5
          go_enter Try.func65, Try.ntmps65
          go_wp2_with fail
          refine (rpower_i _ (k + 4) P4 _ (by omega) (by omega) H4.out).mono ?_
          rintro e _ ⟨rfl, rfl⟩
          go_wp2_with fail
          refine (rpower_i _ (k + 5) P5 _ (by omega) (by omega) H5.out).mono ?_
          rintro e _ ⟨rfl, rfl⟩
          go_wp2
          go_ret2
          exact ⟨k + 1, t, by first | rfl | go_num, HT, HK, rfl⟩
        · have t4 : decide ((P5 : Int) < (t : Int)) = false := decide_eq_false (by omega)
          have HK : Hid (k = kOf k t) := Lib.hid (by unfold kOf; rw [if_neg (by rw [← HP.out]; omega), if_neg (by rw [← HP.out]; omega)])
          clear hP4 hP5
          go_enter Try.func65, Try.ntmps65
          go_wp2_with fail
          refine (rpower_i _ (k + 4) P4 _ (by omega) (by omega) H4.out).mono ?_
          rintro e _ ⟨rfl, rfl⟩
          go_wp2_with fail
          refine (rpower_i _ (k + 5) P5 _ (by omega) (by omega) H5.out).mono ?_
          rintro e _ ⟨rfl, rfl⟩
          go_wp2
          go_ret2
          exact ⟨k, t, by first | rfl | go_num, HT, HK, rfl⟩
      · have t3 : decide ((k : Int) < 24) = false := decide_eq_false (by omega)
        have HK : Hid (k = kOf k t) := Lib.hid (by unfold kOf; rw [if_neg (by rw [← HP.out]; omega), if_neg (by rw [← HP.out]; omega)])
        clear hP4 hP5
        go_enter Try.func65, Try.ntmps65
        go_wp2_with fail
        refine (rpower_i _ (k + 4) P4 _ (by omega) (by omega) H4.out).mono ?_
        rintro e _ ⟨rfl, rfl⟩
        go_wp2
        go_ret2
        exact ⟨k, t, by first | rfl | go_num, HT, HK, rfl⟩
  · have t1 : decide (0 < (k : Int)) = false := decide_eq_false (by omega)
    by_cases h24 : k < 24
    · have t3 : decide ((k : Int) < 24) = true := decide_eq_true (by omega)
      by_cases h32 : P5 < t
      · have t4 : decide ((P5 : Int) < (t : Int)) = true := decide_eq_true (by omega)
        have HK : Hid (k + 1 = kOf k t) := Lib.hid (by unfold kOf; rw [if_neg (by rw [← HP.out]; omega), if_pos ⟨by omega, by rw [← HP.out]; omega⟩])
        clear hP4 hP5
        go_enter Try.func65, Try.ntmps65
        go_wp2_with fail
        refine (rpower_i _ (k + 5) P5 _ (by omega) (by omega) H5.out).mono ?_
        rintro e _ ⟨rfl, rfl⟩
        go_wp2
        go_ret2
        exact ⟨k + 1, t, by first | rfl | go_num, HT, HK, rfl⟩
      · have t4 : decide ((P5 : Int) < (t : Int)) = false := decide_eq_false (by omega)
        have HK : Hid (k = kOf k t) := Lib.hid (by unfold kOf; rw [if_neg (by rw [← HP.out]; omega), if_neg (by rw [← HP.out]; omega)])
        clear hP4 hP5
        go_enter Try.func65, Try.ntmps65
        go_wp2_with fail
        refine (rpower_i _ (k + 5) P5 _ (by omega) (by omega) H5.out).mono ?_
        rintro e _ ⟨rfl, rfl⟩
        go_wp2
        go_ret2
        exact ⟨k, t, by first | rfl | go_num, HT, HK, rfl⟩
    · have t3 : decide ((k : Int) < 24) = false := decide_eq_false (by omega)
      have HK : Hid (k = kOf k t) := Lib.hid (by unfold kOf; rw [if_neg (by rw [← HP.out]; omega), if_neg (by rw [← HP.out]; omega)])
      clear hP4 hP5
      go_enter Try.func65, Try.ntmps65
      go_wp2
      go_ret2
      exact ⟨k, t, by first | rfl | go_num, HT, HK, rfl⟩


set_option maxRecDepth 100000 in
set_option maxHeartbeats 6000000 in
theorem rdlearnt_ok (p0 p1 q0 q1 v : Nat) (w : World) (hd : Dual.Ok ⟨p0, p1, q0, q1⟩) (hv : v < 4294967296) :
    Calls Try.prog 50 #[.agg #[.int .i64 (p0 : Int), .int .i64 (p1 : Int), .int .u64 (q0 : Int), .int .u64 (q1 : Int)], .int .u32 (v : Int)] w fun e w' => ∃ u0 u1 v0 v1 : Nat, e = .returned (.agg #[.int .i64 (u0 : Int), .int .i64 (u1 : Int), .int .u64 (v0 : Int), .int .u64 (v1 : Int)]) ∧ Hid ((⟨u0, u1, v0, v1⟩ : Dual) = learn ⟨p0, p1, q0, q1⟩ v) ∧ Below w.heap.size w w' := by
  obtain ⟨hd0, hd1, hd2, hd3⟩ : p0 ≤ 24 ∧ p1 ≤ 24 ∧ q0 ≤ 68719476735 ∧ q1 ≤ 68719476735 := id hd
  by_cases h : v < 2 ^ p0
  · have HL : Hid (learn ⟨p0, p1, q0, q1⟩ v = ⟨kOf p0 (sumOf q0 v), p1, sumOf q0 v, q1⟩) := Lib.hid (by unfold learn; rw [if_pos h])
    go_enter Try.func50, Try.ntmps50
    go_wp2_with fail
    refine (rdlow_yes p0 p1 q0 q1 v _ hd0 hv h).mono ?_
    rintro e w1 ⟨rfl, b1⟩
    have s1 := b1.size
    try simp only [World.size_alloc, World.size_setCell, World.size_drew, size_drewN] at s1
    obtain ⟨zd_1, zr_1, zx_1, bb_1⟩ : Blk w1 (w.heap.size) 46 [.int .i64 (p0 : Int), .int .i64 (p1 : Int), .int .u64 (q0 : Int), .int .u64 (q1 : Int)] ∧ Blk w1 (w.heap.size + 1) 46 [.int .i64 0, .int .i64 0, .int .u64 0, .int .u64 0] ∧ Blk w1 (w.heap.size + 1 + 1) 46 [.int .i64 (p0 : Int), .int .i64 (p1 : Int), .int .u64 (q0 : Int), .int .u64 (q1 : Int)] ∧ Below w.heap.size w w1 := by
      refine ⟨?_, ?_, ?_, ?_⟩
      all_goals repeat' (first | (with_reducible assumption) | (with_reducible exact Below.refl _ _) | (with_reducible refine Blk.after ?_ b1) | (with_reducible refine RowIn.belowS ?_ b1) | (with_reducible refine Below.after ?_ b1 ?_) | (with_reducible refine Blk.drewN ?_ _) | (with_reducible refine RowIn.drewN ?_ _) | (with_reducible refine below_drewN ?_ _) | (with_reducible refine Blk.drew ?_) | (with_reducible refine RowIn.drew ?_) | (with_reducible refine Below.drew ?_) | (with_reducible refine Blk.new' ?_ ?_ <;> first | (with_reducible rfl) | (simp; done)) | (with_reducible refine Blk.alloc ?_ _) | (with_reducible refine RowIn.alloc ?_ _) | (with_reducible refine Below.alloc ?_ ?_ _) | (with_reducible apply Blk.set') | (with_reducible apply Blk.far') | (with_reducible refine RowIn.far' ?_ ?_ _) | (with_reducible refine Below.far' ?_ ?_ _) | rfl | omega | go_size)
    clear b1
    have kd_1 := zd_1.cell; have fd_1 := zd_1.frozen; have ld_1 := zd_1.lt
    have kr_1 := zr_1.cell; have fr_1 := zr_1.frozen; have lr_1 := zr_1.lt
    have kx_1 := zx_1.cell; have fx_1 := zx_1.frozen; have lx_1 := zx_1.lt
    go_wp2_with fail
    refine (rdpair_ok p0 q0 v _ hd0 hd2 hv).mono ?_
    rintro e _ ⟨u0, v0, rfl, HS, HK, rfl⟩
    go_wp2
    refine bodyPost_ret (v := .agg #[.int .i64 (u0 : Int), .int .i64 (p1 : Int), .int .u64 (v0 : Int), .int .u64 (q1 : Int)]) (by simp [results, Try.results50, go_sem, kr_1, lr_1]) rfl ?_
    refine ⟨u0, p1, v0, q1, rfl, by rw [HL.out, ← HS.out, ← HK.out]; exact Lib.hid rfl, ?_⟩
    repeat' (first | (with_reducible assumption) | (with_reducible exact Below.refl _ _) | (with_reducible refine Blk.drewN ?_ _) | (with_reducible refine RowIn.drewN ?_ _) | (with_reducible refine below_drewN ?_ _) | (with_reducible refine Blk.drew ?_) | (with_reducible refine RowIn.drew ?_) | (with_reducible refine Below.drew ?_) | (with_reducible refine Blk.new' ?_ ?_ <;> first | (with_reducible rfl) | (simp; done)) | (with_reducible refine Blk.alloc ?_ _) | (with_reducible refine RowIn.alloc ?_ _) | (with_reducible refine Below.alloc ?_ ?_ _) | (with_reducible apply Blk.set') | (with_reducible apply Blk.far') | (with_reducible refine RowIn.far' ?_ ?_ _) | (with_reducible refine Below.far' ?_ ?_ _) | rfl | omega | go_size)
  · have HL : Hid (learn ⟨p0, p1, q0, q1⟩ v = ⟨kOf p0 (sumOf q0 v), kOf p1 (sumOf q1 (v - 2 ^ p0)), sumOf q0 v, sumOf q1 (v - 2 ^ p0)⟩) := Lib.hid (by unfold learn; rw [if_neg h])
    go_enter Try.func50, Try.ntmps50
    go_wp2_with fail
    obtain ⟨y, hy⟩ : ∃ y, y = v - 2 ^ p0 := ⟨_, rfl⟩
    have hy32 : y < 4294967296 := by rw [hy]; exact Nat.lt_of_le_of_lt (Nat.sub_le _ _) hv
    have HY := Lib.hid hy
    clear hy
    refine (rdlow_no p0 p1 q0 q1 v _ hd0 hv h).mono ?_
    rintro e w1 ⟨rfl, b1⟩
    have s1 := b1.size
    try simp only [World.size_alloc, World.size_setCell, World.size_drew, size_drewN] at s1
    obtain ⟨zd_1, zr_1, zx_1, bb_1⟩ : Blk w1 (w.heap.size) 46 [.int .i64 (p0 : Int), .int .i64 (p1 : Int), .int .u64 (q0 : Int), .int .u64 (q1 : Int)] ∧ Blk w1 (w.heap.size + 1) 46 [.int .i64 0, .int .i64 0, .int .u64 0, .int .u64 0] ∧ Blk w1 (w.heap.size + 1 + 1) 46 [.int .i64 (p0 : Int), .int .i64 (p1 : Int), .int .u64 (q0 : Int), .int .u64 (q1 : Int)] ∧ Below w.heap.size w w1 := by
      refine ⟨?_, ?_, ?_, ?_⟩
      all_goals repeat' (first | (with_reducible assumption) | (with_reducible exact Below.refl _ _) | (with_reducible refine Blk.after ?_ b1) | (with_reducible refine RowIn.belowS ?_ b1) | (with_reducible refine Below.after ?_ b1 ?_) | (with_reducible refine Blk.drewN ?_ _) | (with_reducible refine RowIn.drewN ?_ _) | (with_reducible refine below_drewN ?_ _) | (with_reducible refine Blk.drew ?_) | (with_reducible refine RowIn.drew ?_) | (with_reducible refine Below.drew ?_) | (with_reducible refine Blk.new' ?_ ?_ <;> first | (with_reducible rfl) | (simp; done)) | (with_reducible refine Blk.alloc ?_ _) | (with_reducible refine RowIn.alloc ?_ _) | (with_reducible refine Below.alloc ?_ ?_ _) | (with_reducible apply Blk.set') | (with_reducible apply Blk.far') | (with_reducible refine RowIn.far' ?_ ?_ _) | (with_reducible refine Below.far' ?_ ?_ _) | rfl | omega | go_size)
    clear b1
    have kd_1 := zd_1.cell; have fd_1 := zd_1.frozen; have ld_1 := zd_1.lt
    have kr_1 := zr_1.cell; have fr_1 := zr_1.frozen; have lr_1 := zr_1.lt
    have kx_1 := zx_1.cell; have fx_1 := zx_1.frozen; have lx_1 := zx_1.lt
    go_wp2_with fail
    have hyw : IntKind.u64.wrap (y : Int) = (y : Int) := IntWalk.u64_in _ (by omega)
    have kd_1d := (Blk.drew zd_1).cell; have fd_1d := (Blk.drew zd_1).frozen
    go_region_held3 (fun w' => ∀ i, w'.cell? ⟨w.heap.size, i, none⟩ = [.int .i64 (p0 : Int), .int .i64 (p1 : Int), .int .u64 (q0 : Int), .int .u64 (q1 : Int)][i]?) (first | with_reducible exact kd_1d | with_reducible exact kd_2 | (refine Blk.cell (t := 46) ?_; repeat' (first | (with_reducible assumption) | (with_reducible exact Below.refl _ _) | (with_reducible refine Blk.drewN ?_ _) | (with_reducible refine RowIn.drewN ?_ _) | (with_reducible refine below_drewN ?_ _) | (with_reducible refine Blk.drew ?_) | (with_reducible refine RowIn.drew ?_) | (with_reducible refine Below.drew ?_) | (with_reducible refine Blk.new' ?_ ?_ <;> first | (with_reducible rfl) | (simp; done)) | (with_reducible refine Blk.alloc ?_ _) | (with_reducible refine RowIn.alloc ?_ _) | (with_reducible refine Below.alloc ?_ ?_ _) | (with_reducible apply Blk.set') | (with_reducible apply Blk.far') | (with_reducible refine RowIn.far' ?_ ?_ _) | (with_reducible refine Below.far' ?_ ?_ _) | rfl | omega | go_size))) (first
      | (go_simp; go_at_call 64; refine (rdleft_ok p0 p1 q0 q1 v y _ hd0 hv h HY.out).mono ?_; rintro e w2 ⟨rfl, b2⟩
         have zd_2 := (Blk.drew zd_1).after b2; have zr_2 := (Blk.drew zr_1).after b2; have zx_2 := (Blk.drew zx_1).after b2; have bb_2 := Below.after (Below.drew bb_1) b2 bb_1.size
         have kd_2 := zd_2.cell; have fd_2 := zd_2.frozen; have ld_2 := zd_2.lt; have kr_2 := zr_2.cell; have fr_2 := zr_2.frozen; have lr_2 := zr_2.lt; have kx_2 := zx_2.cell; have fx_2 := zx_2.frozen; have lx_2 := zx_2.lt)
      | (go_simp; go_at_call 65; refine (rdpair_ok p1 q1 y _ hd1 hd3 hy32).mono ?_; rintro e _ ⟨u1, v1, rfl, HS1, HK1, rfl⟩))
    all_goals
      go_wp2_with fail
      refine (rdpair_ok p0 q0 v _ hd0 hd2 hv).mono ?_
      rintro e _ ⟨u0, v0, rfl, HS, HK, rfl⟩
      go_wp2
      refine bodyPost_ret (v := .agg #[.int .i64 (u0 : Int), .int .i64 (u1 : Int), .int .u64 (v0 : Int), .int .u64 (v1 : Int)]) (by simp [results, Try.results50, go_sem, kr_2, lr_2]) rfl ?_
      refine ⟨u0, u1, v0, v1, rfl, by rw [HL.out, ← HY.out, ← HS.out, ← HK.out, ← HS1.out, ← HK1.out]; exact Lib.hid rfl, ?_⟩
      repeat' (first | (with_reducible assumption) | (with_reducible exact Below.refl _ _) | (with_reducible refine Blk.drewN ?_ _) | (with_reducible refine RowIn.drewN ?_ _) | (with_reducible refine below_drewN ?_ _) | (with_reducible refine Blk.drew ?_) | (with_reducible refine RowIn.drew ?_) | (with_reducible refine Below.drew ?_) | (with_reducible refine Blk.new' ?_ ?_ <;> first | (with_reducible rfl) | (simp; done)) | (with_reducible refine Blk.alloc ?_ _) | (with_reducible refine RowIn.alloc ?_ _) | (with_reducible refine Below.alloc ?_ ?_ _) | (with_reducible apply Blk.set') | (with_reducible apply Blk.far') | (with_reducible refine RowIn.far' ?_ ?_ _) | (with_reducible refine Below.far' ?_ ?_ _) | rfl | omega | go_size)


end Go.Proofs.Ytpohaikbbfochaa
