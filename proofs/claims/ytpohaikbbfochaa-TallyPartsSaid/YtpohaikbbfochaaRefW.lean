/-
  Contracts of the reference of chapter 8: Learn, Long, Length.
-/
import Derived.Test.YtpohaikbbfochaaRefY
namespace Go.Proofs.Ytpohaikbbfochaa
open Go.RowKit Cad Cad.Bit Cad.Code
set_option linter.unusedVariables false
set_option linter.unusedSimpArgs false


set_option maxRecDepth 100000 in
set_option maxHeartbeats 1000000 in
theorem rdlong_ok (p0 p1 q0 q1 v L : Nat) (w : World) (hd : Dual.Ok ⟨p0, p1, q0, q1⟩) (hv : v < 4294967296) (hL : L = lenD ⟨p0, p1, q0, q1⟩ v) :
    Calls Try.prog 49 #[.agg #[.int .i64 (p0 : Int), .int .i64 (p1 : Int), .int .u64 (q0 : Int), .int .u64 (q1 : Int)], .int .u32 (v : Int)] w fun e w' => e = .returned (.int .i64 (L : Int)) ∧ Below w.heap.size w w' := by
  obtain ⟨hd0, hd1, hd2, hd3⟩ : p0 ≤ 24 ∧ p1 ≤ 24 ∧ q0 ≤ 68719476735 ∧ q1 ≤ 68719476735 := id hd
  have hdk : DOk (p0 : Int) (p1 : Int) (q0 : Int) (q1 : Int) := by unfold DOk; omega
  have HDK := Lib.hid hdk
  clear hdk
  have HL := Lib.hid hL
  clear hL
  by_cases h : v < 2 ^ p0
  · have HE : Hid (L = 1 + p0) := by rw [HL.out]; unfold lenD; rw [if_pos h]; exact Lib.hid rfl
    go_enter Try.func49, Try.ntmps49
    go_wp2_with fail
    refine (rdlow_yes p0 p1 q0 q1 v _ hd0 hv h).mono ?_
    rintro e w1 ⟨rfl, b1⟩
    have s1 := b1.size
    try simp only [World.size_alloc, World.size_setCell, World.size_drew, size_drewN] at s1
    obtain ⟨zd_1, bb_1⟩ : Blk w1 (w.heap.size) 46 [.int .i64 (p0 : Int), .int .i64 (p1 : Int), .int .u64 (q0 : Int), .int .u64 (q1 : Int)] ∧ Below w.heap.size w w1 := by
      refine ⟨?_, ?_⟩
      all_goals repeat' (first | (with_reducible assumption) | (with_reducible exact Below.refl _ _) | (with_reducible refine Blk.after ?_ b1) | (with_reducible refine RowIn.belowS ?_ b1) | (with_reducible refine Below.after ?_ b1 ?_) | (with_reducible refine Blk.drewN ?_ _) | (with_reducible refine RowIn.drewN ?_ _) | (with_reducible refine below_drewN ?_ _) | (with_reducible refine Blk.drew ?_) | (with_reducible refine RowIn.drew ?_) | (with_reducible refine Below.drew ?_) | (with_reducible refine Blk.new' ?_ ?_ <;> first | (with_reducible rfl) | (simp; done)) | (with_reducible refine Blk.alloc ?_ _) | (with_reducible refine RowIn.alloc ?_ _) | (with_reducible refine Below.alloc ?_ ?_ _) | (with_reducible apply Blk.set') | (with_reducible apply Blk.far') | (with_reducible refine RowIn.far' ?_ ?_ _) | (with_reducible refine Below.far' ?_ ?_ _) | rfl | omega | go_size)
    clear b1
    have kd_1 := zd_1.cell; have fd_1 := zd_1.frozen; have ld_1 := zd_1.lt
    go_wp2
    go_ret
    refine ⟨ret_int (by rw [HE.out]; omega), ?_⟩
    repeat' (first | (with_reducible assumption) | (with_reducible exact Below.refl _ _) | (with_reducible refine Blk.drewN ?_ _) | (with_reducible refine RowIn.drewN ?_ _) | (with_reducible refine below_drewN ?_ _) | (with_reducible refine Blk.drew ?_) | (with_reducible refine RowIn.drew ?_) | (with_reducible refine Below.drew ?_) | (with_reducible refine Blk.new' ?_ ?_ <;> first | (with_reducible rfl) | (simp; done)) | (with_reducible refine Blk.alloc ?_ _) | (with_reducible refine RowIn.alloc ?_ _) | (with_reducible refine Below.alloc ?_ ?_ _) | (with_reducible apply Blk.set') | (with_reducible apply Blk.far') | (with_reducible refine RowIn.far' ?_ ?_ _) | (with_reducible refine Below.far' ?_ ?_ _) | rfl | omega | go_size)
  · obtain ⟨y, hy⟩ : ∃ y, y = v - 2 ^ p0 := ⟨_, rfl⟩
    have hy32 : y < 4294967296 := by rw [hy]; exact Nat.lt_of_le_of_lt (Nat.sub_le _ _) hv
    have HE : Hid (L = 1 + riceLen y p1) := by rw [HL.out, hy]; unfold lenD; rw [if_neg h]; exact Lib.hid rfl
    have HY := Lib.hid hy
    clear hy
    go_enter Try.func49, Try.ntmps49
    go_wp2_with fail
    refine (rdlow_no p0 p1 q0 q1 v _ hd0 hv h).mono ?_
    rintro e w1 ⟨rfl, b1⟩
    have s1 := b1.size
    try simp only [World.size_alloc, World.size_setCell, World.size_drew, size_drewN] at s1
    obtain ⟨zd_1, bb_1⟩ : Blk w1 (w.heap.size) 46 [.int .i64 (p0 : Int), .int .i64 (p1 : Int), .int .u64 (q0 : Int), .int .u64 (q1 : Int)] ∧ Below w.heap.size w w1 := by
      refine ⟨?_, ?_⟩
      all_goals repeat' (first | (with_reducible assumption) | (with_reducible exact Below.refl _ _) | (with_reducible refine Blk.after ?_ b1) | (with_reducible refine RowIn.belowS ?_ b1) | (with_reducible refine Below.after ?_ b1 ?_) | (with_reducible refine Blk.drewN ?_ _) | (with_reducible refine RowIn.drewN ?_ _) | (with_reducible refine below_drewN ?_ _) | (with_reducible refine Blk.drew ?_) | (with_reducible refine RowIn.drew ?_) | (with_reducible refine Below.drew ?_) | (with_reducible refine Blk.new' ?_ ?_ <;> first | (with_reducible rfl) | (simp; done)) | (with_reducible refine Blk.alloc ?_ _) | (with_reducible refine RowIn.alloc ?_ _) | (with_reducible refine Below.alloc ?_ ?_ _) | (with_reducible apply Blk.set') | (with_reducible apply Blk.far') | (with_reducible refine RowIn.far' ?_ ?_ _) | (with_reducible refine Below.far' ?_ ?_ _) | rfl | omega | go_size)
    clear b1
    have kd_1 := zd_1.cell; have fd_1 := zd_1.frozen; have ld_1 := zd_1.lt
    obtain ⟨K, HK⟩ : ∃ K, Hid (K = riceLen y p1) := ⟨_, Lib.hid rfl⟩
    rw [← HK.out] at HE
    have hK : K ≤ 80 := by rw [HK.out]; exact (rice_len_le _ _ hd1).2
    have hw1 : IntKind.i64.wrap (1 + (K : Int)) = (L : Int) := by rw [IntWalk.i64_in _ (by omega), HE.out]; omega
    have hw2 : 1 + (K : Int) = (L : Int) := by rw [HE.out]; omega
    have hw3 : IntKind.i64.wrap (L : Int) = (L : Int) := by rw [← hw2]; exact IntWalk.i64_in _ (by omega)
    have kd_1d := (Blk.drew zd_1).cell
    go_wp2_with fail
    go_region_held3 (fun w' => ∀ a, w'.cell? ⟨w.heap.size, a, none⟩ = [.int .i64 (p0 : Int), .int .i64 (p1 : Int), .int .u64 (q0 : Int), .int .u64 (q1 : Int)][a]?) (first | with_reducible exact kd_1d | with_reducible exact kd_2) (first
      | (go_simp; go_at_call 64; refine (rdleft_ok p0 p1 q0 q1 v y _ hd0 hv h HY.out).mono ?_; rintro e w2 ⟨rfl, b2⟩
         have zd_2 := (Blk.drew zd_1).after b2; have bb_2 := Below.after (Below.drew bb_1) b2 bb_1.size
         have kd_2 := zd_2.cell)
      | (go_simp; go_at_call 63; refine (rrlong_ok y p1 _ hy32 hd1).mono ?_; rintro e _ ⟨K2, rfl, HK2, rfl⟩
         obtain rfl : K = K2 := by rw [HK.out, HK2.out]))
    all_goals
      go_wp2
      go_ret
      refine ⟨by first | rfl | go_num, ?_⟩
      repeat' (first | (with_reducible assumption) | (with_reducible exact Below.refl _ _) | (with_reducible refine Blk.drewN ?_ _) | (with_reducible refine RowIn.drewN ?_ _) | (with_reducible refine below_drewN ?_ _) | (with_reducible refine Blk.drew ?_) | (with_reducible refine RowIn.drew ?_) | (with_reducible refine Below.drew ?_) | (with_reducible refine Blk.new' ?_ ?_ <;> first | (with_reducible rfl) | (simp; done)) | (with_reducible refine Blk.alloc ?_ _) | (with_reducible refine RowIn.alloc ?_ _) | (with_reducible refine Below.alloc ?_ ?_ _) | (with_reducible apply Blk.set') | (with_reducible apply Blk.far') | (with_reducible refine RowIn.far' ?_ ?_ _) | (with_reducible refine Below.far' ?_ ?_ _) | rfl | omega | go_size)


end Go.Proofs.Ytpohaikbbfochaa
