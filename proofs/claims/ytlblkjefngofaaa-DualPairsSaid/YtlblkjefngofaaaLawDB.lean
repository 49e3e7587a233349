/-
  The walk of DualPairs.
-/
import Derived.Test.YtlblkjefngofaaaRefT
import Derived.Test.YtlblkjefngofaaaLawDA
namespace Go.Proofs.Ytlblkjefngofaaa
open Go.RowKit Cad Cad.Bit Cad.Code
set_option linter.unusedVariables false
set_option linter.unusedSimpArgs false

theorem learn_parts (p0 p1 q0 q1 v : Nat) : learn ⟨p0, p1, q0, q1⟩ v = ⟨kOf p0 (sumOf q0 v), if v < 2 ^ p0 then p1 else kOf p1 (sumOf q1 (v - 2 ^ p0)), sumOf q0 v, if v < 2 ^ p0 then q1 else sumOf q1 (v - 2 ^ p0)⟩ := by
  unfold learn; split <;> rfl
theorem kOf_near (k s : Nat) : k ≤ kOf k s + 1 ∧ kOf k s ≤ k + 1 := by
  unfold kOf; split
  · omega
  · split <;> omega


set_option maxRecDepth 100000 in
set_option maxHeartbeats 8000000 in
theorem lawDualPairs (w : World) (p0 p1 q0 q1 : Int) (hp0 : -9223372036854775808 ≤ p0 ∧ p0 ≤ 9223372036854775807) (hp1 : -9223372036854775808 ≤ p1 ∧ p1 ≤ 9223372036854775807) (hq0 : 0 ≤ q0 ∧ q0 ≤ 18446744073709551615) (hq1 : 0 ≤ q1 ∧ q1 ≤ 18446744073709551615) (k : Int) (hk : -9223372036854775808 ≤ k ∧ k ≤ 9223372036854775807) (s : Int) (hs : 0 ≤ s ∧ s ≤ 18446744073709551615) (v : Int) (hv : 0 ≤ v ∧ v ≤ 4294967295) :
    Calls Try.prog 5 #[.agg #[.int .i64 p0, .int .i64 p1, .int .u64 q0, .int .u64 q1], .int .i64 k, .int .u64 s, .int .u32 v] w fun e w' => e = .returned (.bool true) ∧ Below w.heap.size w w' := by
  by_cases h1 : ¬ DOk p0 p1 q0 q1
  · go_enter Try.func5, Try.ntmps5
    go_wp2_with fail
    refine (rdcheck_any p0 p1 q0 q1 8 _ hq0.1 hq1.1 (by rw [if_neg h1])).mono ?_
    rintro e w1 ⟨rfl, b1⟩
    have s1 := b1.size
    try simp only [World.size_alloc, World.size_setCell, World.size_drew, size_drewN] at s1
    obtain ⟨zd_1, zo_1, bb_1⟩ : Blk w1 (w.heap.size) 37 [.int .i64 p0, .int .i64 p1, .int .u64 q0, .int .u64 q1] ∧ Blk w1 (w.heap.size + 1) 37 [.int .i64 p0, .int .i64 k, .int .u64 q0, .int .u64 s] ∧ Below w.heap.size w w1 := by
      refine ⟨?_, ?_, ?_⟩
      all_goals repeat' (first | (with_reducible assumption) | (with_reducible exact Below.refl _ _) | (with_reducible refine Blk.after ?_ b1) | (with_reducible refine RowIn.belowS ?_ b1) | (with_reducible refine Below.after ?_ b1 ?_) | (with_reducible refine Blk.drewN ?_ _) | (with_reducible refine RowIn.drewN ?_ _) | (with_reducible refine below_drewN ?_ _) | (with_reducible refine Blk.drew ?_) | (with_reducible refine RowIn.drew ?_) | (with_reducible refine Below.drew ?_) | (with_reducible refine Blk.new' ?_ ?_ <;> first | (with_reducible rfl) | (simp; done)) | (with_reducible refine Blk.alloc ?_ _) | (with_reducible refine RowIn.alloc ?_ _) | (with_reducible refine Below.alloc ?_ ?_ _) | (with_reducible apply Blk.set') | (with_reducible apply Blk.far') | (with_reducible refine RowIn.far' ?_ ?_ _) | (with_reducible refine Below.far' ?_ ?_ _) | rfl | omega | go_size)
    clear b1
    have kd_1 := zd_1.cell; have fd_1 := zd_1.frozen; have ld_1 := zd_1.lt
    have ko_1 := zo_1.cell; have fo_1 := zo_1.frozen; have lo_1 := zo_1.lt
    go_wp2_with fail
    refine (alive08 _).mono ?_
    rintro e w2 ⟨rfl, b2⟩
    have s2 := b2.size
    try simp only [World.size_alloc, World.size_setCell, World.size_drew, size_drewN] at s2
    have bb_2 : Below w.heap.size w w2 := by
      repeat' (first | (with_reducible assumption) | (with_reducible exact Below.refl _ _) | (with_reducible refine Blk.after ?_ b2) | (with_reducible refine RowIn.belowS ?_ b2) | (with_reducible refine Below.after ?_ b2 ?_) | (with_reducible refine Blk.drewN ?_ _) | (with_reducible refine RowIn.drewN ?_ _) | (with_reducible refine below_drewN ?_ _) | (with_reducible refine Blk.drew ?_) | (with_reducible refine RowIn.drew ?_) | (with_reducible refine Below.drew ?_) | (with_reducible refine Blk.new' ?_ ?_ <;> first | (with_reducible rfl) | (simp; done)) | (with_reducible refine Blk.alloc ?_ _) | (with_reducible refine RowIn.alloc ?_ _) | (with_reducible refine Below.alloc ?_ ?_ _) | (with_reducible apply Blk.set') | (with_reducible apply Blk.far') | (with_reducible refine RowIn.far' ?_ ?_ _) | (with_reducible refine Below.far' ?_ ?_ _) | rfl | omega | go_size)
    clear zd_1 zo_1 bb_1 kd_1 fd_1 ld_1 ko_1 fo_1 lo_1 b2
    go_wp2
    go_ret
    refine ⟨rfl, ?_⟩
    repeat' (first | (with_reducible assumption) | (with_reducible exact Below.refl _ _) | (with_reducible refine Blk.drewN ?_ _) | (with_reducible refine RowIn.drewN ?_ _) | (with_reducible refine below_drewN ?_ _) | (with_reducible refine Blk.drew ?_) | (with_reducible refine RowIn.drew ?_) | (with_reducible refine Below.drew ?_) | (with_reducible refine Blk.new' ?_ ?_ <;> first | (with_reducible rfl) | (simp; done)) | (with_reducible refine Blk.alloc ?_ _) | (with_reducible refine RowIn.alloc ?_ _) | (with_reducible refine Below.alloc ?_ ?_ _) | (with_reducible apply Blk.set') | (with_reducible apply Blk.far') | (with_reducible refine RowIn.far' ?_ ?_ _) | (with_reducible refine Below.far' ?_ ?_ _) | rfl | omega | go_size)
  replace h1 := Decidable.not_not.1 h1
  by_cases h2 : ¬ DOk p0 k q0 s
  · go_enter Try.func5, Try.ntmps5
    go_wp2_with fail
    refine (rdcheck_any p0 p1 q0 q1 0 _ hq0.1 hq1.1 (by rw [if_pos h1])).mono ?_
    rintro e w1 ⟨rfl, b1⟩
    have s1 := b1.size
    try simp only [World.size_alloc, World.size_setCell, World.size_drew, size_drewN] at s1
    obtain ⟨zd_1, zo_1, bb_1⟩ : Blk w1 (w.heap.size) 37 [.int .i64 p0, .int .i64 p1, .int .u64 q0, .int .u64 q1] ∧ Blk w1 (w.heap.size + 1) 37 [.int .i64 p0, .int .i64 k, .int .u64 q0, .int .u64 s] ∧ Below w.heap.size w w1 := by
      refine ⟨?_, ?_, ?_⟩
      all_goals repeat' (first | (with_reducible assumption) | (with_reducible exact Below.refl _ _) | (with_reducible refine Blk.after ?_ b1) | (with_reducible refine RowIn.belowS ?_ b1) | (with_reducible refine Below.after ?_ b1 ?_) | (with_reducible refine Blk.drewN ?_ _) | (with_reducible refine RowIn.drewN ?_ _) | (with_reducible refine below_drewN ?_ _) | (with_reducible refine Blk.drew ?_) | (with_reducible refine RowIn.drew ?_) | (with_reducible refine Below.drew ?_) | (with_reducible refine Blk.new' ?_ ?_ <;> first | (with_reducible rfl) | (simp; done)) | (with_reducible refine Blk.alloc ?_ _) | (with_reducible refine RowIn.alloc ?_ _) | (with_reducible refine Below.alloc ?_ ?_ _) | (with_reducible apply Blk.set') | (with_reducible apply Blk.far') | (with_reducible refine RowIn.far' ?_ ?_ _) | (with_reducible refine Below.far' ?_ ?_ _) | rfl | omega | go_size)
    clear b1
    have kd_1 := zd_1.cell; have fd_1 := zd_1.frozen; have ld_1 := zd_1.lt
    have ko_1 := zo_1.cell; have fo_1 := zo_1.frozen; have lo_1 := zo_1.lt
    go_wp2_with fail
    refine (rdcheck_any p0 k q0 s 8 _ hq0.1 hs.1 (by rw [if_neg h2])).mono ?_
    rintro e w2 ⟨rfl, b2⟩
    have s2 := b2.size
    try simp only [World.size_alloc, World.size_setCell, World.size_drew, size_drewN] at s2
    obtain ⟨zd_2, zo_2, bb_2⟩ : Blk w2 (w.heap.size) 37 [.int .i64 p0, .int .i64 p1, .int .u64 q0, .int .u64 q1] ∧ Blk w2 (w.heap.size + 1) 37 [.int .i64 p0, .int .i64 k, .int .u64 q0, .int .u64 s] ∧ Below w.heap.size w w2 := by
      refine ⟨?_, ?_, ?_⟩
      all_goals repeat' (first | (with_reducible assumption) | (with_reducible exact Below.refl _ _) | (with_reducible refine Blk.after ?_ b2) | (with_reducible refine RowIn.belowS ?_ b2) | (with_reducible refine Below.after ?_ b2 ?_) | (with_reducible refine Blk.drewN ?_ _) | (with_reducible refine RowIn.drewN ?_ _) | (with_reducible refine below_drewN ?_ _) | (with_reducible refine Blk.drew ?_) | (with_reducible refine RowIn.drew ?_) | (with_reducible refine Below.drew ?_) | (with_reducible refine Blk.new' ?_ ?_ <;> first | (with_reducible rfl) | (simp; done)) | (with_reducible refine Blk.alloc ?_ _) | (with_reducible refine RowIn.alloc ?_ _) | (with_reducible refine Below.alloc ?_ ?_ _) | (with_reducible apply Blk.set') | (with_reducible apply Blk.far') | (with_reducible refine RowIn.far' ?_ ?_ _) | (with_reducible refine Below.far' ?_ ?_ _) | rfl | omega | go_size)
    clear zd_1 zo_1 bb_1 kd_1 fd_1 ld_1 ko_1 fo_1 lo_1 b2
    have kd_2 := zd_2.cell; have fd_2 := zd_2.frozen; have ld_2 := zd_2.lt
    have ko_2 := zo_2.cell; have fo_2 := zo_2.frozen; have lo_2 := zo_2.lt
    go_wp2_with fail
    refine (alive08 _).mono ?_
    rintro e w3 ⟨rfl, b3⟩
    have s3 := b3.size
    try simp only [World.size_alloc, World.size_setCell, World.size_drew, size_drewN] at s3
    have bb_3 : Below w.heap.size w w3 := by
      repeat' (first | (with_reducible assumption) | (with_reducible exact Below.refl _ _) | (with_reducible refine Blk.after ?_ b3) | (with_reducible refine RowIn.belowS ?_ b3) | (with_reducible refine Below.after ?_ b3 ?_) | (with_reducible refine Blk.drewN ?_ _) | (with_reducible refine RowIn.drewN ?_ _) | (with_reducible refine below_drewN ?_ _) | (with_reducible refine Blk.drew ?_) | (with_reducible refine RowIn.drew ?_) | (with_reducible refine Below.drew ?_) | (with_reducible refine Blk.new' ?_ ?_ <;> first | (with_reducible rfl) | (simp; done)) | (with_reducible refine Blk.alloc ?_ _) | (with_reducible refine RowIn.alloc ?_ _) | (with_reducible refine Below.alloc ?_ ?_ _) | (with_reducible apply Blk.set') | (with_reducible apply Blk.far') | (with_reducible refine RowIn.far' ?_ ?_ _) | (with_reducible refine Below.far' ?_ ?_ _) | rfl | omega | go_size)
    clear zd_2 zo_2 bb_2 kd_2 fd_2 ld_2 ko_2 fo_2 lo_2 b3
    go_wp2
    go_ret
    refine ⟨rfl, ?_⟩
    repeat' (first | (with_reducible assumption) | (with_reducible exact Below.refl _ _) | (with_reducible refine Blk.drewN ?_ _) | (with_reducible refine RowIn.drewN ?_ _) | (with_reducible refine below_drewN ?_ _) | (with_reducible refine Blk.drew ?_) | (with_reducible refine RowIn.drew ?_) | (with_reducible refine Below.drew ?_) | (with_reducible refine Blk.new' ?_ ?_ <;> first | (with_reducible rfl) | (simp; done)) | (with_reducible refine Blk.alloc ?_ _) | (with_reducible refine RowIn.alloc ?_ _) | (with_reducible refine Below.alloc ?_ ?_ _) | (with_reducible apply Blk.set') | (with_reducible apply Blk.far') | (with_reducible refine RowIn.far' ?_ ?_ _) | (with_reducible refine Below.far' ?_ ?_ _) | rfl | omega | go_size)
  replace h2 := Decidable.not_not.1 h2
  obtain ⟨p0, p1, q0, q1, rfl, rfl, rfl, rfl, hd⟩ := dok_dual hq0.1 hq1.1 h1
  obtain ⟨x0, k, x2, s, e0, rfl, e2, rfl, ho⟩ := dok_dual hq0.1 hs.1 h2
  obtain rfl : p0 = x0 := by omega
  obtain rfl : q0 = x2 := by omega
  obtain ⟨v, rfl⟩ := Int.eq_ofNat_of_zero_le hv.1
  have hv32 : v < 4294967296 := by omega
  clear e0 e2 hp0 hp1 hq0 hq1 hk hs hv
  have H1 := Lib.hid h1; have H2 := Lib.hid h2
  clear h1 h2
  obtain ⟨hd0, hd1, hd2, hd3⟩ : p0 ≤ 24 ∧ p1 ≤ 24 ∧ q0 ≤ 68719476735 ∧ q1 ≤ 68719476735 := id hd
  obtain ⟨ho1, ho3⟩ : k ≤ 24 ∧ s ≤ 68719476735 := ⟨ho.2.1, ho.2.2.2⟩
  have HD := Lib.hid hd; have HO := Lib.hid ho
  clear hd ho
  go_enter Try.func5, Try.ntmps5
  go_wp2_with fail
  refine (rdcheck_any (p0 : Int) (p1 : Int) (q0 : Int) (q1 : Int) 0 _ (by omega) (by omega) (by rw [if_pos H1.out])).mono ?_
  rintro e w1 ⟨rfl, b1⟩
  have s1 := b1.size
  try simp only [World.size_alloc, World.size_setCell, World.size_drew, size_drewN] at s1
  obtain ⟨zd_1, zo_1, bb_1⟩ : Blk w1 (w.heap.size) 37 [.int .i64 (p0 : Int), .int .i64 (p1 : Int), .int .u64 (q0 : Int), .int .u64 (q1 : Int)] ∧ Blk w1 (w.heap.size + 1) 37 [.int .i64 (p0 : Int), .int .i64 (k : Int), .int .u64 (q0 : Int), .int .u64 (s : Int)] ∧ Below w.heap.size w w1 := by
    refine ⟨?_, ?_, ?_⟩
    all_goals repeat' (first | (with_reducible assumption) | (with_reducible exact Below.refl _ _) | (with_reducible refine Blk.after ?_ b1) | (with_reducible refine RowIn.belowS ?_ b1) | (with_reducible refine Below.after ?_ b1 ?_) | (with_reducible refine Blk.drewN ?_ _) | (with_reducible refine RowIn.drewN ?_ _) | (with_reducible refine below_drewN ?_ _) | (with_reducible refine Blk.drew ?_) | (with_reducible refine RowIn.drew ?_) | (with_reducible refine Below.drew ?_) | (with_reducible refine Blk.new' ?_ ?_ <;> first | (with_reducible rfl) | (simp; done)) | (with_reducible refine Blk.alloc ?_ _) | (with_reducible refine RowIn.alloc ?_ _) | (with_reducible refine Below.alloc ?_ ?_ _) | (with_reducible apply Blk.set') | (with_reducible apply Blk.far') | (with_reducible refine RowIn.far' ?_ ?_ _) | (with_reducible refine Below.far' ?_ ?_ _) | rfl | omega | go_size)
  clear b1
  have kd_1 := zd_1.cell; have fd_1 := zd_1.frozen; have ld_1 := zd_1.lt
  have ko_1 := zo_1.cell; have fo_1 := zo_1.frozen; have lo_1 := zo_1.lt
  go_wp2_with fail
  refine (rdcheck_any (p0 : Int) (k : Int) (q0 : Int) (s : Int) 0 _ (by omega) (by omega) (by rw [if_pos H2.out])).mono ?_
  rintro e w2 ⟨rfl, b2⟩
  have s2 := b2.size
  try simp only [World.size_alloc, World.size_setCell, World.size_drew, size_drewN] at s2
  obtain ⟨zd_2, zo_2, bb_2⟩ : Blk w2 (w.heap.size) 37 [.int .i64 (p0 : Int), .int .i64 (p1 : Int), .int .u64 (q0 : Int), .int .u64 (q1 : Int)] ∧ Blk w2 (w.heap.size + 1) 37 [.int .i64 (p0 : Int), .int .i64 (k : Int), .int .u64 (q0 : Int), .int .u64 (s : Int)] ∧ Below w.heap.size w w2 := by
    refine ⟨?_, ?_, ?_⟩
    all_goals repeat' (first | (with_reducible assumption) | (with_reducible exact Below.refl _ _) | (with_reducible refine Blk.after ?_ b2) | (with_reducible refine RowIn.belowS ?_ b2) | (with_reducible refine Below.after ?_ b2 ?_) | (with_reducible refine Blk.drewN ?_ _) | (with_reducible refine RowIn.drewN ?_ _) | (with_reducible refine below_drewN ?_ _) | (with_reducible refine Blk.drew ?_) | (with_reducible refine RowIn.drew ?_) | (with_reducible refine Below.drew ?_) | (with_reducible refine Blk.new' ?_ ?_ <;> first | (with_reducible rfl) | (simp; done)) | (with_reducible refine Blk.alloc ?_ _) | (with_reducible refine RowIn.alloc ?_ _) | (with_reducible refine Below.alloc ?_ ?_ _) | (with_reducible apply Blk.set') | (with_reducible apply Blk.far') | (with_reducible refine RowIn.far' ?_ ?_ _) | (with_reducible refine Below.far' ?_ ?_ _) | rfl | omega | go_size)
  clear zd_1 zo_1 bb_1 kd_1 fd_1 ld_1 ko_1 fo_1 lo_1 b2
  have kd_2 := zd_2.cell; have fd_2 := zd_2.frozen; have ld_2 := zd_2.lt
  have ko_2 := zo_2.cell; have fo_2 := zo_2.frozen; have lo_2 := zo_2.lt
  go_wp2_with fail
  refine (dLearn_ok p0 p1 q0 q1 v _ HD.out hv32).mono ?_
  rintro e w3 ⟨u0, u1, v0, v1, rfl, HU, b3⟩
  have s3 := b3.size
  try simp only [World.size_alloc, World.size_setCell, World.size_drew, size_drewN] at s3
  obtain ⟨zd_3, zo_3, bb_3⟩ : Blk w3 (w.heap.size) 37 [.int .i64 (p0 : Int), .int .i64 (p1 : Int), .int .u64 (q0 : Int), .int .u64 (q1 : Int)] ∧ Blk w3 (w.heap.size + 1) 37 [.int .i64 (p0 : Int), .int .i64 (k : Int), .int .u64 (q0 : Int), .int .u64 (s : Int)] ∧ Below w.heap.size w w3 := by
    refine ⟨?_, ?_, ?_⟩
    all_goals repeat' (first | (with_reducible assumption) | (with_reducible exact Below.refl _ _) | (with_reducible refine Blk.after ?_ b3) | (with_reducible refine RowIn.belowS ?_ b3) | (with_reducible refine Below.after ?_ b3 ?_) | (with_reducible refine Blk.drewN ?_ _) | (with_reducible refine RowIn.drewN ?_ _) | (with_reducible refine below_drewN ?_ _) | (with_reducible refine Blk.drew ?_) | (with_reducible refine RowIn.drew ?_) | (with_reducible refine Below.drew ?_) | (with_reducible refine Blk.new' ?_ ?_ <;> first | (with_reducible rfl) | (simp; done)) | (with_reducible refine Blk.alloc ?_ _) | (with_reducible refine RowIn.alloc ?_ _) | (with_reducible refine Below.alloc ?_ ?_ _) | (with_reducible apply Blk.set') | (with_reducible apply Blk.far') | (with_reducible refine RowIn.far' ?_ ?_ _) | (with_reducible refine Below.far' ?_ ?_ _) | rfl | omega | go_size)
  clear zd_2 zo_2 bb_2 kd_2 fd_2 ld_2 ko_2 fo_2 lo_2 b3
  have kd_3 := zd_3.cell; have fd_3 := zd_3.frozen; have ld_3 := zd_3.lt
  have ko_3 := zo_3.cell; have fo_3 := zo_3.frozen; have lo_3 := zo_3.lt
  go_wp2_with fail
  refine (dLearn_ok p0 k q0 s v _ HO.out hv32).mono ?_
  rintro e w4 ⟨a0, a1, c0, c1, rfl, HA, b4⟩
  have s4 := b4.size
  try simp only [World.size_alloc, World.size_setCell, World.size_drew, size_drewN] at s4
  obtain ⟨zd_4, zo_4, zx_4, bb_4⟩ : Blk w4 (w.heap.size) 37 [.int .i64 (p0 : Int), .int .i64 (p1 : Int), .int .u64 (q0 : Int), .int .u64 (q1 : Int)] ∧ Blk w4 (w.heap.size + 1) 37 [.int .i64 (p0 : Int), .int .i64 (k : Int), .int .u64 (q0 : Int), .int .u64 (s : Int)] ∧ Blk w4 (w3.heap.size) 37 [.int .i64 (u0 : Int), .int .i64 (u1 : Int), .int .u64 (v0 : Int), .int .u64 (v1 : Int)] ∧ Below w.heap.size w w4 := by
    refine ⟨?_, ?_, ?_, ?_⟩
    all_goals repeat' (first | (with_reducible assumption) | (with_reducible exact Below.refl _ _) | (with_reducible refine Blk.after ?_ b4) | (with_reducible refine RowIn.belowS ?_ b4) | (with_reducible refine Below.after ?_ b4 ?_) | (with_reducible refine Blk.drewN ?_ _) | (with_reducible refine RowIn.drewN ?_ _) | (with_reducible refine below_drewN ?_ _) | (with_reducible refine Blk.drew ?_) | (with_reducible refine RowIn.drew ?_) | (with_reducible refine Below.drew ?_) | (with_reducible refine Blk.new' ?_ ?_ <;> first | (with_reducible rfl) | (simp; done)) | (with_reducible refine Blk.alloc ?_ _) | (with_reducible refine RowIn.alloc ?_ _) | (with_reducible refine Below.alloc ?_ ?_ _) | (with_reducible apply Blk.set') | (with_reducible apply Blk.far') | (with_reducible refine RowIn.far' ?_ ?_ _) | (with_reducible refine Below.far' ?_ ?_ _) | rfl | omega | go_size)
  clear zd_3 zo_3 bb_3 kd_3 fd_3 ld_3 ko_3 fo_3 lo_3 b4
  have kd_4 := zd_4.cell; have fd_4 := zd_4.frozen; have ld_4 := zd_4.lt
  have ko_4 := zo_4.cell; have fo_4 := zo_4.frozen; have lo_4 := zo_4.lt
  have kx_4 := zx_4.cell; have fx_4 := zx_4.frozen; have lx_4 := zx_4.lt
  have hu := HU.out; have ha := HA.out
  rw [learn_parts] at hu ha
  injection hu with hu0 hu1 hv0 hv1
  injection ha with ha0 ha1 hc0 hc1
  obtain rfl : u0 = a0 := by rw [hu0, ha0]
  obtain rfl : v0 = c0 := by rw [hv0, hc0]
  clear HU HA ha0 hc0 ha1 hc1
  rw [← hv0] at hu0
  obtain ⟨P, hP⟩ : ∃ P, P = 2 ^ p0 := ⟨_, rfl⟩
  rw [← hP] at hu1 hv1
  have hP1 : 1 ≤ P := by rw [hP]; exact Nat.two_pow_pos p0
  have hP2 : P ≤ 16777216 := by rw [hP]; exact Nat.le_trans (Nat.pow_le_pow_right (by omega) hd0) (by decide)
  have hPi : (2 : Int) ^ p0 = (P : Int) := by rw [hP, pow_cast]
  have hk0 : u0 = if 0 < p0 ∧ v0 < 16 * P then p0 - 1 else if p0 < 24 ∧ 32 * P < v0 then p0 + 1 else p0 := by rw [hu0, hP]; rfl
  have HK0 := Lib.hid hk0
  obtain ⟨d0, hdq⟩ : ∃ d, d = q0 / 16 := ⟨_, rfl⟩
  have hdi : (q0 : Int) / 16 = (d0 : Int) := by omega
  have hdl : d0 ≤ q0 := by omega
  have hvq : v0 = q0 + v - d0 := by rw [hv0, hdq]; rfl
  have t1 : ((v0 : Int) != (q0 : Int) - (d0 : Int) + (v : Int)) = false := by simp; omega
  have hvb : v0 ≤ 73014444031 := by omega
  have hub : p0 ≤ u0 + 1 ∧ u0 ≤ p0 + 1 := by rw [hu0]; exact kOf_near _ _
  clear hP hu0 hv0 hk0 hdq hvq
  by_cases hlow : v < P
  · rw [if_pos hlow] at hu1 hv1
    have t2 : decide ((v : Int) < (P : Int)) = true := decide_eq_true (by omega)
    have t3 : ((u1 : Int) == (p1 : Int)) = true := beq_iff_eq.2 (by omega)
    have t4 : ((v1 : Int) == (q1 : Int)) = true := beq_iff_eq.2 (by omega)
    have hub1 : p1 ≤ u1 + 1 ∧ u1 ≤ p1 + 1 := by omega
    clear hu1 hv1
    go_wp2_with fail
    by_cases hg1 : 0 < p0
    · have g1 : decide (0 < (p0 : Int)) = true := decide_eq_true (by omega)
      by_cases h3 : p0 < 24
      · have g3 : decide ((p0 : Int) < 24) = true := decide_eq_true (by omega)
        obtain ⟨D1, g2⟩ : ∃ D, decide ((v0 : Int) < 16 * (P : Int)) = D := ⟨_, rfl⟩
        have e1 : ((u0 : Int) == (p0 : Int) - 1) = D1 := by
          have h := HK0.out
          rw [← g2, Bool.eq_iff_iff, beq_iff_eq, decide_eq_true_iff]
          split at h
          · omega
          · split at h <;> omega
        have c1 : (D1 != D1) = false := by cases D1 <;> rfl
        obtain ⟨D2, g4⟩ : ∃ D, decide (32 * (P : Int) < (v0 : Int)) = D := ⟨_, rfl⟩
        have e2 : ((u0 : Int) == (p0 : Int) + 1) = D2 := by
          have h := HK0.out
          rw [← g4, Bool.eq_iff_iff, beq_iff_eq, decide_eq_true_iff]
          split at h
          · omega
          · split at h <;> omega
        have c2 : (D2 != D2) = false := by cases D2 <;> rfl
        go_quiet (fail)
        go_wp2_with fail
        go_quiet (fail)
        go_wp2_with fail
        refine (alive08 _).mono ?_
        rintro e w5 ⟨rfl, b5⟩
        have s5 := b5.size
        try simp only [World.size_alloc, World.size_setCell, World.size_drew, size_drewN] at s5
        have bb_5 : Below w.heap.size w w5 := by
          repeat' (first | (with_reducible assumption) | (with_reducible exact Below.refl _ _) | (with_reducible refine Blk.after ?_ b5) | (with_reducible refine RowIn.belowS ?_ b5) | (with_reducible refine Below.after ?_ b5 ?_) | (with_reducible refine Blk.drewN ?_ _) | (with_reducible refine RowIn.drewN ?_ _) | (with_reducible refine below_drewN ?_ _) | (with_reducible refine Blk.drew ?_) | (with_reducible refine RowIn.drew ?_) | (with_reducible refine Below.drew ?_) | (with_reducible refine Blk.new' ?_ ?_ <;> first | (with_reducible rfl) | (simp; done)) | (with_reducible refine Blk.alloc ?_ _) | (with_reducible refine RowIn.alloc ?_ _) | (with_reducible refine Below.alloc ?_ ?_ _) | (with_reducible apply Blk.set') | (with_reducible apply Blk.far') | (with_reducible refine RowIn.far' ?_ ?_ _) | (with_reducible refine Below.far' ?_ ?_ _) | rfl | omega | go_size)
        clear zd_4 zo_4 zx_4 bb_4 kd_4 fd_4 ld_4 ko_4 fo_4 lo_4 kx_4 fx_4 lx_4 b5
        go_wp2
        go_ret
        refine ⟨rfl, ?_⟩
        repeat' (first | (with_reducible assumption) | (with_reducible exact Below.refl _ _) | (with_reducible refine Blk.drewN ?_ _) | (with_reducible refine RowIn.drewN ?_ _) | (with_reducible refine below_drewN ?_ _) | (with_reducible refine Blk.drew ?_) | (with_reducible refine RowIn.drew ?_) | (with_reducible refine Below.drew ?_) | (with_reducible refine Blk.new' ?_ ?_ <;> first | (with_reducible rfl) | (simp; done)) | (with_reducible refine Blk.alloc ?_ _) | (with_reducible refine RowIn.alloc ?_ _) | (with_reducible refine Below.alloc ?_ ?_ _) | (with_reducible apply Blk.set') | (with_reducible apply Blk.far') | (with_reducible refine RowIn.far' ?_ ?_ _) | (with_reducible refine Below.far' ?_ ?_ _) | rfl | omega | go_size)
      · have g3 : decide ((p0 : Int) < 24) = false := decide_eq_false (by omega)
        obtain ⟨D1, g2⟩ : ∃ D, decide ((v0 : Int) < 16 * (P : Int)) = D := ⟨_, rfl⟩
        have e1 : ((u0 : Int) == (p0 : Int) - 1) = D1 := by
          have h := HK0.out
          rw [← g2, Bool.eq_iff_iff, beq_iff_eq, decide_eq_true_iff]
          split at h
          · omega
          · split at h <;> omega
        have c1 : (D1 != D1) = false := by cases D1 <;> rfl
        have e2 : ((u0 : Int) == (p0 : Int) + 1) = false := by
          have h := HK0.out
          refine beq_eq_false_iff_ne.2 ?_
          split at h
          · omega
          · split at h <;> omega
        go_quiet (fail)
        go_wp2_with fail
        go_quiet (fail)
        go_wp2_with fail
        refine (alive08 _).mono ?_
        rintro e w5 ⟨rfl, b5⟩
        have s5 := b5.size
        try simp only [World.size_alloc, World.size_setCell, World.size_drew, size_drewN] at s5
        have bb_5 : Below w.heap.size w w5 := by
          repeat' (first | (with_reducible assumption) | (with_reducible exact Below.refl _ _) | (with_reducible refine Blk.after ?_ b5) | (with_reducible refine RowIn.belowS ?_ b5) | (with_reducible refine Below.after ?_ b5 ?_) | (with_reducible refine Blk.drewN ?_ _) | (with_reducible refine RowIn.drewN ?_ _) | (with_reducible refine below_drewN ?_ _) | (with_reducible refine Blk.drew ?_) | (with_reducible refine RowIn.drew ?_) | (with_reducible refine Below.drew ?_) | (with_reducible refine Blk.new' ?_ ?_ <;> first | (with_reducible rfl) | (simp; done)) | (with_reducible refine Blk.alloc ?_ _) | (with_reducible refine RowIn.alloc ?_ _) | (with_reducible refine Below.alloc ?_ ?_ _) | (with_reducible apply Blk.set') | (with_reducible apply Blk.far') | (with_reducible refine RowIn.far' ?_ ?_ _) | (with_reducible refine Below.far' ?_ ?_ _) | rfl | omega | go_size)
        clear zd_4 zo_4 zx_4 bb_4 kd_4 fd_4 ld_4 ko_4 fo_4 lo_4 kx_4 fx_4 lx_4 b5
        go_wp2
        go_ret
        refine ⟨rfl, ?_⟩
        repeat' (first | (with_reducible assumption) | (with_reducible exact Below.refl _ _) | (with_reducible refine Blk.drewN ?_ _) | (with_reducible refine RowIn.drewN ?_ _) | (with_reducible refine below_drewN ?_ _) | (with_reducible refine Blk.drew ?_) | (with_reducible refine RowIn.drew ?_) | (with_reducible refine Below.drew ?_) | (with_reducible refine Blk.new' ?_ ?_ <;> first | (with_reducible rfl) | (simp; done)) | (with_reducible refine Blk.alloc ?_ _) | (with_reducible refine RowIn.alloc ?_ _) | (with_reducible refine Below.alloc ?_ ?_ _) | (with_reducible apply Blk.set') | (with_reducible apply Blk.far') | (with_reducible refine RowIn.far' ?_ ?_ _) | (with_reducible refine Below.far' ?_ ?_ _) | rfl | omega | go_size)
    · have g1 : decide (0 < (p0 : Int)) = false := decide_eq_false (by omega)
      have g3 : decide ((p0 : Int) < 24) = true := decide_eq_true (by omega)
      have e1 : ((u0 : Int) == (p0 : Int) - 1) = false := beq_eq_false_iff_ne.2 (by omega)
      obtain ⟨D2, g4⟩ : ∃ D, decide (32 * (P : Int) < (v0 : Int)) = D := ⟨_, rfl⟩
      have e2 : ((u0 : Int) == (p0 : Int) + 1) = D2 := by
        have h := HK0.out
        rw [← g4, Bool.eq_iff_iff, beq_iff_eq, decide_eq_true_iff]
        split at h
        · omega
        · split at h <;> omega
      have c2 : (D2 != D2) = false := by cases D2 <;> rfl
      go_quiet (fail)
      go_wp2_with fail
      go_quiet (fail)
      go_wp2_with fail
      refine (alive08 _).mono ?_
      rintro e w5 ⟨rfl, b5⟩
      have s5 := b5.size
      try simp only [World.size_alloc, World.size_setCell, World.size_drew, size_drewN] at s5
      have bb_5 : Below w.heap.size w w5 := by
        repeat' (first | (with_reducible assumption) | (with_reducible exact Below.refl _ _) | (with_reducible refine Blk.after ?_ b5) | (with_reducible refine RowIn.belowS ?_ b5) | (with_reducible refine Below.after ?_ b5 ?_) | (with_reducible refine Blk.drewN ?_ _) | (with_reducible refine RowIn.drewN ?_ _) | (with_reducible refine below_drewN ?_ _) | (with_reducible refine Blk.drew ?_) | (with_reducible refine RowIn.drew ?_) | (with_reducible refine Below.drew ?_) | (with_reducible refine Blk.new' ?_ ?_ <;> first | (with_reducible rfl) | (simp; done)) | (with_reducible refine Blk.alloc ?_ _) | (with_reducible refine RowIn.alloc ?_ _) | (with_reducible refine Below.alloc ?_ ?_ _) | (with_reducible apply Blk.set') | (with_reducible apply Blk.far') | (with_reducible refine RowIn.far' ?_ ?_ _) | (with_reducible refine Below.far' ?_ ?_ _) | rfl | omega | go_size)
      clear zd_4 zo_4 zx_4 bb_4 kd_4 fd_4 ld_4 ko_4 fo_4 lo_4 kx_4 fx_4 lx_4 b5
      go_wp2
      go_ret
      refine ⟨rfl, ?_⟩
      repeat' (first | (with_reducible assumption) | (with_reducible exact Below.refl _ _) | (with_reducible refine Blk.drewN ?_ _) | (with_reducible refine RowIn.drewN ?_ _) | (with_reducible refine below_drewN ?_ _) | (with_reducible refine Blk.drew ?_) | (with_reducible refine RowIn.drew ?_) | (with_reducible refine Below.drew ?_) | (with_reducible refine Blk.new' ?_ ?_ <;> first | (with_reducible rfl) | (simp; done)) | (with_reducible refine Blk.alloc ?_ _) | (with_reducible refine RowIn.alloc ?_ _) | (with_reducible refine Below.alloc ?_ ?_ _) | (with_reducible apply Blk.set') | (with_reducible apply Blk.far') | (with_reducible refine RowIn.far' ?_ ?_ _) | (with_reducible refine Below.far' ?_ ?_ _) | rfl | omega | go_size)
  · rw [if_neg hlow] at hu1 hv1
    have hub1 : p1 ≤ u1 + 1 ∧ u1 ≤ p1 + 1 := by rw [hu1]; exact kOf_near _ _
    have t2 : decide ((v : Int) < (P : Int)) = false := decide_eq_false (by omega)
    obtain ⟨d1, hdq⟩ : ∃ d, d = q1 / 16 := ⟨_, rfl⟩
    have hdi1 : (q1 : Int) / 16 = (d1 : Int) := by omega
    have hdl1 : d1 ≤ q1 := by omega
    have hvq : v1 = q1 + (v - P) - d1 := by rw [hv1, hdq]; rfl
    have t4 : ((v1 : Int) == (q1 : Int) - (d1 : Int) + ((v : Int) - (P : Int))) = true := beq_iff_eq.2 (by omega)
    clear hdq hvq hu1 hv1
    go_wp2_with fail
    by_cases hg1 : 0 < p0
    · have g1 : decide (0 < (p0 : Int)) = true := decide_eq_true (by omega)
      by_cases h3 : p0 < 24
      · have g3 : decide ((p0 : Int) < 24) = true := decide_eq_true (by omega)
        obtain ⟨D1, g2⟩ : ∃ D, decide ((v0 : Int) < 16 * (P : Int)) = D := ⟨_, rfl⟩
        have e1 : ((u0 : Int) == (p0 : Int) - 1) = D1 := by
          have h := HK0.out
          rw [← g2, Bool.eq_iff_iff, beq_iff_eq, decide_eq_true_iff]
          split at h
          · omega
          · split at h <;> omega
        have c1 : (D1 != D1) = false := by cases D1 <;> rfl
        obtain ⟨D2, g4⟩ : ∃ D, decide (32 * (P : Int) < (v0 : Int)) = D := ⟨_, rfl⟩
        have e2 : ((u0 : Int) == (p0 : Int) + 1) = D2 := by
          have h := HK0.out
          rw [← g4, Bool.eq_iff_iff, beq_iff_eq, decide_eq_true_iff]
          split at h
          · omega
          · split at h <;> omega
        have c2 : (D2 != D2) = false := by cases D2 <;> rfl
        go_quiet (fail)
        go_wp2_with fail
        go_quiet (fail)
        go_wp2_with fail
        have hbb := bb_4
        have f1 : (q1 : Int).tdiv 16 = (d1 : Int) := by rw [Int.tdiv_eq_ediv_of_nonneg (by omega)]; exact hdi1
        have f2 : IntKind.u64.wrap ((q1 : Int) - (d1 : Int)) = (q1 : Int) - (d1 : Int) := IntWalk.u64_in _ (by omega)
        have f3 : IntKind.u64.wrap (v : Int) = (v : Int) := IntWalk.u64_in _ (by omega)
        have f4 : IntKind.u64.wrap ((v : Int) - (P : Int)) = (v : Int) - (P : Int) := IntWalk.u64_in _ (by omega)
        have f5 : IntKind.u64.wrap ((q1 : Int) - (d1 : Int) + ((v : Int) - (P : Int))) = (q1 : Int) - (d1 : Int) + ((v : Int) - (P : Int)) := IntWalk.u64_in _ (by omega)
        have f6 : IntKind.u64.wrap (d1 : Int) = (d1 : Int) := IntWalk.u64_in _ (by omega)
        have f7 : IntKind.u64.wrap (P : Int) = (P : Int) := IntWalk.u64_in _ (by omega)
        refine wp_still_tail 17 (by kernel_rfl) (by kernel_rfl) ?_
        simp only [List.take_succ_cons, List.take_zero, List.drop_succ_cons, List.drop_zero]
        repeat still_step
        refine wpStill_nil ?_
        go_wp2_with fail
        refine (alive08 _).mono ?_
        rintro e w5 ⟨rfl, b5⟩
        have s5 := b5.size
        try simp only [World.size_alloc, World.size_setCell, World.size_drew, size_drewN] at s5
        have bb_5 : Below w.heap.size w w5 := by
          repeat' (first | (with_reducible assumption) | (with_reducible exact Below.refl _ _) | (with_reducible refine Blk.after ?_ b5) | (with_reducible refine RowIn.belowS ?_ b5) | (with_reducible refine Below.after ?_ b5 ?_) | (with_reducible refine Blk.drewN ?_ _) | (with_reducible refine RowIn.drewN ?_ _) | (with_reducible refine below_drewN ?_ _) | (with_reducible refine Blk.drew ?_) | (with_reducible refine RowIn.drew ?_) | (with_reducible refine Below.drew ?_) | (with_reducible refine Blk.new' ?_ ?_ <;> first | (with_reducible rfl) | (simp; done)) | (with_reducible refine Blk.alloc ?_ _) | (with_reducible refine RowIn.alloc ?_ _) | (with_reducible refine Below.alloc ?_ ?_ _) | (with_reducible apply Blk.set') | (with_reducible apply Blk.far') | (with_reducible refine RowIn.far' ?_ ?_ _) | (with_reducible refine Below.far' ?_ ?_ _) | rfl | omega | go_size)
        clear zd_4 zo_4 zx_4 bb_4 kd_4 fd_4 ld_4 ko_4 fo_4 lo_4 kx_4 fx_4 lx_4 b5
        go_wp2
        go_ret
        refine ⟨rfl, ?_⟩
        repeat' (first | (with_reducible assumption) | (with_reducible exact Below.refl _ _) | (with_reducible refine Blk.drewN ?_ _) | (with_reducible refine RowIn.drewN ?_ _) | (with_reducible refine below_drewN ?_ _) | (with_reducible refine Blk.drew ?_) | (with_reducible refine RowIn.drew ?_) | (with_reducible refine Below.drew ?_) | (with_reducible refine Blk.new' ?_ ?_ <;> first | (with_reducible rfl) | (simp; done)) | (with_reducible refine Blk.alloc ?_ _) | (with_reducible refine RowIn.alloc ?_ _) | (with_reducible refine Below.alloc ?_ ?_ _) | (with_reducible apply Blk.set') | (with_reducible apply Blk.far') | (with_reducible refine RowIn.far' ?_ ?_ _) | (with_reducible refine Below.far' ?_ ?_ _) | rfl | omega | go_size)
      · have g3 : decide ((p0 : Int) < 24) = false := decide_eq_false (by omega)
        obtain ⟨D1, g2⟩ : ∃ D, decide ((v0 : Int) < 16 * (P : Int)) = D := ⟨_, rfl⟩
        have e1 : ((u0 : Int) == (p0 : Int) - 1) = D1 := by
          have h := HK0.out
          rw [← g2, Bool.eq_iff_iff, beq_iff_eq, decide_eq_true_iff]
          split at h
          · omega
          · split at h <;> omega
        have c1 : (D1 != D1) = false := by cases D1 <;> rfl
        have e2 : ((u0 : Int) == (p0 : Int) + 1) = false := by
          have h := HK0.out
          refine beq_eq_false_iff_ne.2 ?_
          split at h
          · omega
          · split at h <;> omega
        go_quiet (fail)
        go_wp2_with fail
        go_quiet (fail)
        go_wp2_with fail
        have hbb := bb_4
        have f1 : (q1 : Int).tdiv 16 = (d1 : Int) := by rw [Int.tdiv_eq_ediv_of_nonneg (by omega)]; exact hdi1
        have f2 : IntKind.u64.wrap ((q1 : Int) - (d1 : Int)) = (q1 : Int) - (d1 : Int) := IntWalk.u64_in _ (by omega)
        have f3 : IntKind.u64.wrap (v : Int) = (v : Int) := IntWalk.u64_in _ (by omega)
        have f4 : IntKind.u64.wrap ((v : Int) - (P : Int)) = (v : Int) - (P : Int) := IntWalk.u64_in _ (by omega)
        have f5 : IntKind.u64.wrap ((q1 : Int) - (d1 : Int) + ((v : Int) - (P : Int))) = (q1 : Int) - (d1 : Int) + ((v : Int) - (P : Int)) := IntWalk.u64_in _ (by omega)
        have f6 : IntKind.u64.wrap (d1 : Int) = (d1 : Int) := IntWalk.u64_in _ (by omega)
        have f7 : IntKind.u64.wrap (P : Int) = (P : Int) := IntWalk.u64_in _ (by omega)
        refine wp_still_tail 17 (by kernel_rfl) (by kernel_rfl) ?_
        simp only [List.take_succ_cons, List.take_zero, List.drop_succ_cons, List.drop_zero]
        repeat still_step
        refine wpStill_nil ?_
        go_wp2_with fail
        refine (alive08 _).mono ?_
        rintro e w5 ⟨rfl, b5⟩
        have s5 := b5.size
        try simp only [World.size_alloc, World.size_setCell, World.size_drew, size_drewN] at s5
        have bb_5 : Below w.heap.size w w5 := by
          repeat' (first | (with_reducible assumption) | (with_reducible exact Below.refl _ _) | (with_reducible refine Blk.after ?_ b5) | (with_reducible refine RowIn.belowS ?_ b5) | (with_reducible refine Below.after ?_ b5 ?_) | (with_reducible refine Blk.drewN ?_ _) | (with_reducible refine RowIn.drewN ?_ _) | (with_reducible refine below_drewN ?_ _) | (with_reducible refine Blk.drew ?_) | (with_reducible refine RowIn.drew ?_) | (with_reducible refine Below.drew ?_) | (with_reducible refine Blk.new' ?_ ?_ <;> first | (with_reducible rfl) | (simp; done)) | (with_reducible refine Blk.alloc ?_ _) | (with_reducible refine RowIn.alloc ?_ _) | (with_reducible refine Below.alloc ?_ ?_ _) | (with_reducible apply Blk.set') | (with_reducible apply Blk.far') | (with_reducible refine RowIn.far' ?_ ?_ _) | (with_reducible refine Below.far' ?_ ?_ _) | rfl | omega | go_size)
        clear zd_4 zo_4 zx_4 bb_4 kd_4 fd_4 ld_4 ko_4 fo_4 lo_4 kx_4 fx_4 lx_4 b5
        go_wp2
        go_ret
        refine ⟨rfl, ?_⟩
        repeat' (first | (with_reducible assumption) | (with_reducible exact Below.refl _ _) | (with_reducible refine Blk.drewN ?_ _) | (with_reducible refine RowIn.drewN ?_ _) | (with_reducible refine below_drewN ?_ _) | (with_reducible refine Blk.drew ?_) | (with_reducible refine RowIn.drew ?_) | (with_reducible refine Below.drew ?_) | (with_reducible refine Blk.new' ?_ ?_ <;> first | (with_reducible rfl) | (simp; done)) | (with_reducible refine Blk.alloc ?_ _) | (with_reducible refine RowIn.alloc ?_ _) | (with_reducible refine Below.alloc ?_ ?_ _) | (with_reducible apply Blk.set') | (with_reducible apply Blk.far') | (with_reducible refine RowIn.far' ?_ ?_ _) | (with_reducible refine Below.far' ?_ ?_ _) | rfl | omega | go_size)
    · have g1 : decide (0 < (p0 : Int)) = false := decide_eq_false (by omega)
      have g3 : decide ((p0 : Int) < 24) = true := decide_eq_true (by omega)
      have e1 : ((u0 : Int) == (p0 : Int) - 1) = false := beq_eq_false_iff_ne.2 (by omega)
      obtain ⟨D2, g4⟩ : ∃ D, decide (32 * (P : Int) < (v0 : Int)) = D := ⟨_, rfl⟩
      have e2 : ((u0 : Int) == (p0 : Int) + 1) = D2 := by
        have h := HK0.out
        rw [← g4, Bool.eq_iff_iff, beq_iff_eq, decide_eq_true_iff]
        split at h
        · omega
        · split at h <;> omega
      have c2 : (D2 != D2) = false := by cases D2 <;> rfl
      go_quiet (fail)
      go_wp2_with fail
      go_quiet (fail)
      go_wp2_with fail
      have hbb := bb_4
      have f1 : (q1 : Int).tdiv 16 = (d1 : Int) := by rw [Int.tdiv_eq_ediv_of_nonneg (by omega)]; exact hdi1
      have f2 : IntKind.u64.wrap ((q1 : Int) - (d1 : Int)) = (q1 : Int) - (d1 : Int) := IntWalk.u64_in _ (by omega)
      have f3 : IntKind.u64.wrap (v : Int) = (v : Int) := IntWalk.u64_in _ (by omega)
      have f4 : IntKind.u64.wrap ((v : Int) - (P : Int)) = (v : Int) - (P : Int) := IntWalk.u64_in _ (by omega)
      have f5 : IntKind.u64.wrap ((q1 : Int) - (d1 : Int) + ((v : Int) - (P : Int))) = (q1 : Int) - (d1 : Int) + ((v : Int) - (P : Int)) := IntWalk.u64_in _ (by omega)
      have f6 : IntKind.u64.wrap (d1 : Int) = (d1 : Int) := IntWalk.u64_in _ (by omega)
      have f7 : IntKind.u64.wrap (P : Int) = (P : Int) := IntWalk.u64_in _ (by omega)
      refine wp_still_tail 17 (by kernel_rfl) (by kernel_rfl) ?_
      simp only [List.take_succ_cons, List.take_zero, List.drop_succ_cons, List.drop_zero]
      repeat still_step
      refine wpStill_nil ?_
      go_wp2_with fail
      refine (alive08 _).mono ?_
      rintro e w5 ⟨rfl, b5⟩
      have s5 := b5.size
      try simp only [World.size_alloc, World.size_setCell, World.size_drew, size_drewN] at s5
      have bb_5 : Below w.heap.size w w5 := by
        repeat' (first | (with_reducible assumption) | (with_reducible exact Below.refl _ _) | (with_reducible refine Blk.after ?_ b5) | (with_reducible refine RowIn.belowS ?_ b5) | (with_reducible refine Below.after ?_ b5 ?_) | (with_reducible refine Blk.drewN ?_ _) | (with_reducible refine RowIn.drewN ?_ _) | (with_reducible refine below_drewN ?_ _) | (with_reducible refine Blk.drew ?_) | (with_reducible refine RowIn.drew ?_) | (with_reducible refine Below.drew ?_) | (with_reducible refine Blk.new' ?_ ?_ <;> first | (with_reducible rfl) | (simp; done)) | (with_reducible refine Blk.alloc ?_ _) | (with_reducible refine RowIn.alloc ?_ _) | (with_reducible refine Below.alloc ?_ ?_ _) | (with_reducible apply Blk.set') | (with_reducible apply Blk.far') | (with_reducible refine RowIn.far' ?_ ?_ _) | (with_reducible refine Below.far' ?_ ?_ _) | rfl | omega | go_size)
      clear zd_4 zo_4 zx_4 bb_4 kd_4 fd_4 ld_4 ko_4 fo_4 lo_4 kx_4 fx_4 lx_4 b5
      go_wp2
      go_ret
      refine ⟨rfl, ?_⟩
      repeat' (first | (with_reducible assumption) | (with_reducible exact Below.refl _ _) | (with_reducible refine Blk.drewN ?_ _) | (with_reducible refine RowIn.drewN ?_ _) | (with_reducible refine below_drewN ?_ _) | (with_reducible refine Blk.drew ?_) | (with_reducible refine RowIn.drew ?_) | (with_reducible refine Below.drew ?_) | (with_reducible refine Blk.new' ?_ ?_ <;> first | (with_reducible rfl) | (simp; done)) | (with_reducible refine Blk.alloc ?_ _) | (with_reducible refine RowIn.alloc ?_ _) | (with_reducible refine Below.alloc ?_ ?_ _) | (with_reducible apply Blk.set') | (with_reducible apply Blk.far') | (with_reducible refine RowIn.far' ?_ ?_ _) | (with_reducible refine Below.far' ?_ ?_ _) | rfl | omega | go_size)


end Go.Proofs.Ytlblkjefngofaaa
