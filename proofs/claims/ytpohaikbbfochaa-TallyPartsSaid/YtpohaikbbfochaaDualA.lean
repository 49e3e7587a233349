/-
  Contracts of the state of the code with two levels.
-/
import Derived.Test.YtpohaikbbfochaaRiceA
import Derived.Test.YtpohaikbbfochaaDual
namespace Go.Proofs.Ytpohaikbbfochaa
open Go.RowKit Cad Cad.Bit Cad.Code
set_option linter.unusedVariables false
set_option linter.unusedSimpArgs false


theorem dstart_ok (w : World) : Calls Try.prog 37 #[] w fun e w' => e = .returned (.agg #[.int .i64 10, .int .i64 10, .int .u64 16384, .int .u64 16384]) ∧ Below w.heap.size w w' := by
  go_enter Try.func37, Try.ntmps37
  go_wp2
  refine bodyPost_ret (v := .agg #[.int .i64 10, .int .i64 10, .int .u64 16384, .int .u64 16384]) (by simp [results, Try.results37, go_sem]) rfl ?_
  exact ⟨rfl, (Below.refl _ _).alloc (Nat.le_refl _) _⟩
/-- Numbers that are a state. -/
def DOk (k0 k1 s0 s1 : Int) : Prop := (0 ≤ k0 ∧ k0 ≤ 24) ∧ (0 ≤ k1 ∧ k1 ≤ 24) ∧ s0 ≤ 68719476735 ∧ s1 ≤ 68719476735
instance (k0 k1 s0 s1 : Int) : Decidable (DOk k0 k1 s0 s1) := by unfold DOk; infer_instance

set_option maxRecDepth 100000 in
set_option maxHeartbeats 400000 in
theorem dcheck_any (k0 k1 s0 s1 : Int) (w : World) (h2 : 0 ≤ s0) (h3 : 0 ≤ s1) :
    Calls Try.prog 39 #[.agg #[.int .i64 k0, .int .i64 k1, .int .u64 s0, .int .u64 s1]] w fun e w' => e = .returned (.int .i64 (if DOk k0 k1 s0 s1 then 0 else 8)) ∧ Below w.heap.size w w' := by
  obtain ⟨er, HER⟩ : ∃ er : Int, Hid ((if DOk k0 k1 s0 s1 then 0 else 8) = er) := ⟨_, Lib.hid rfl⟩
  rw [HER.out]
  have i0 : ∀ k : Int, (if 24 < (if k < 0 then 0 else k) then 24 else (if k < 0 then 0 else k)) = k ↔ 0 ≤ k ∧ k ≤ 24 := fun k => by split <;> split <;> omega
  have i2 : ∀ s : Int, (if 68719476735 < s then 68719476735 else s) = s ↔ s ≤ 68719476735 := fun k => by split <;> omega
  have I0 := Lib.hid (i0 k0); have I1 := Lib.hid (i0 k1); have I2 := Lib.hid (i2 s0); have I3 := Lib.hid (i2 s1)
  clear i0 i2
  go_enter Try.func39, Try.ntmps39
  go_wp2_with fail
  obtain ⟨m0, hm0⟩ : ∃ m0, (if k0 < 0 then 0 else k0) = m0 := ⟨_, rfl⟩
  rw [hm0] at I0
  obtain ⟨c0, hc0⟩ : ∃ c0, (if 24 < m0 then 24 else m0) = c0 := ⟨_, rfl⟩
  rw [hc0] at I0
  obtain ⟨m1, hm1⟩ : ∃ m1, (if k1 < 0 then 0 else k1) = m1 := ⟨_, rfl⟩
  rw [hm1] at I1
  obtain ⟨c1, hc1⟩ : ∃ c1, (if 24 < m1 then 24 else m1) = c1 := ⟨_, rfl⟩
  rw [hc1] at I1
  obtain ⟨c2, hc2⟩ : ∃ c2, (if 68719476735 < s0 then 68719476735 else s0) = c2 := ⟨_, rfl⟩
  rw [hc2] at I2
  obtain ⟨c3, hc3⟩ : ∃ c3, (if 68719476735 < s1 then 68719476735 else s1) = c3 := ⟨_, rfl⟩
  rw [hc3] at I3
  go_region
  all_goals go_wp2_with fail
  all_goals go_region
  all_goals go_wp2_with fail
  all_goals
    go_ret
    refine ⟨ret_int ?_, ?_⟩
    · rw [← HER.out]
      first
        | (rw [if_pos ⟨I0.out.1 (by assumption), I1.out.1 (by assumption), I2.out.1 (by assumption), I3.out.1 (by assumption)⟩])
        | (rw [if_neg fun h => absurd (I0.out.2 h.1) (by assumption)])
        | (rw [if_neg fun h => absurd (I1.out.2 h.2.1) (by assumption)])
        | (rw [if_neg fun h => absurd (I2.out.2 h.2.2.1) (by assumption)])
        | (rw [if_neg fun h => absurd (I3.out.2 h.2.2.2) (by assumption)])
    · repeat' (first | (with_reducible assumption) | (with_reducible exact Below.refl _ _) | (with_reducible refine Blk.drewN ?_ _) | (with_reducible refine RowIn.drewN ?_ _) | (with_reducible refine below_drewN ?_ _) | (with_reducible refine Blk.drew ?_) | (with_reducible refine RowIn.drew ?_) | (with_reducible refine Below.drew ?_) | (with_reducible refine Blk.new' ?_ ?_ <;> first | (with_reducible rfl) | (simp; done)) | (with_reducible refine Blk.alloc ?_ _) | (with_reducible refine RowIn.alloc ?_ _) | (with_reducible refine Below.alloc ?_ ?_ _) | (with_reducible apply Blk.set') | (with_reducible apply Blk.far') | (with_reducible refine RowIn.far' ?_ ?_ _) | (with_reducible refine Below.far' ?_ ?_ _) | rfl | omega | go_size)


theorem dlevel_low (k0 k1 s0 s1 v : Nat) (w : World) (hk : k0 ≤ 24) (hv : v < 4294967296) (h : v < 2 ^ k0) :
    Calls Try.prog 40 #[.agg #[.int .i64 (k0 : Int), .int .i64 (k1 : Int), .int .u64 (s0 : Int), .int .u64 (s1 : Int)], .int .u32 (v : Int)] w fun e w' => e = .returned (.tuple #[.int .i64 0, .int .u32 (v : Int)]) ∧ Below w.heap.size w w' := by
  have e1 : (v : Int) / 2 ^ k0 = 0 := by rw [pow_cast, ← Int.natCast_ediv, Nat.div_eq_of_lt h]; rfl
  go_enter Try.func40, Try.ntmps40
  go_wp2
  go_ret2
  exact ⟨rfl, by go_grown⟩
theorem dlevel_high (k0 k1 s0 s1 v : Nat) (w : World) (hk : k0 ≤ 24) (hv : v < 4294967296) (h : ¬ v < 2 ^ k0) :
    Calls Try.prog 40 #[.agg #[.int .i64 (k0 : Int), .int .i64 (k1 : Int), .int .u64 (s0 : Int), .int .u64 (s1 : Int)], .int .u32 (v : Int)] w fun e w' => ∃ y : Nat, e = .returned (.tuple #[.int .i64 1, .int .u32 (y : Int)]) ∧ Hid (y = v - 2 ^ k0) ∧ Below w.heap.size w w' := by
  obtain ⟨q, HQ⟩ : ∃ q, Hid (q = v / 2 ^ k0) := ⟨_, Lib.hid rfl⟩
  have e1 : (v : Int) / 2 ^ k0 = (q : Int) := by rw [HQ.out, pow_cast, ← Int.natCast_ediv]
  have hq : 0 < q := by rw [HQ.out]; exact Nat.div_pos (by omega) (Nat.two_pow_pos k0)
  have t1 : ((q : Int) == 0) = false := beq_eq_false_iff_ne.2 (by omega)
  obtain ⟨p, hp⟩ : ∃ p, p = 2 ^ k0 := ⟨_, rfl⟩
  have hp2 : p ≤ 16777216 := by rw [hp]; exact Nat.le_trans (Nat.pow_le_pow_right (by omega) hk) (by decide)
  have e2 : (2 : Int) ^ k0 % 4294967296 = (p : Int) := by rw [hp, pow_cast]; exact Int.emod_eq_of_lt (Int.natCast_nonneg _) (by omega)
  have hpv : p ≤ v := by omega
  have HP := Lib.hid hp
  clear hp h
  go_enter Try.func40, Try.ntmps40
  obtain ⟨y, hy⟩ : ∃ y, v - p = y := ⟨_, rfl⟩
  have hyi : (v : Int) - (p : Int) = (y : Int) := by omega
  go_wp2_with fail
  go_region
  all_goals
    go_wp2
    go_ret2
    refine ⟨y, rfl, Lib.hid (by rw [← HP.out, hy]), ?_⟩
    repeat' (first | (with_reducible assumption) | (with_reducible exact Below.refl _ _) | (with_reducible refine Blk.drewN ?_ _) | (with_reducible refine RowIn.drewN ?_ _) | (with_reducible refine below_drewN ?_ _) | (with_reducible refine Blk.drew ?_) | (with_reducible refine RowIn.drew ?_) | (with_reducible refine Below.drew ?_) | (with_reducible refine Blk.new' ?_ ?_ <;> first | (with_reducible rfl) | (simp; done)) | (with_reducible refine Blk.alloc ?_ _) | (with_reducible refine RowIn.alloc ?_ _) | (with_reducible refine Below.alloc ?_ ?_ _) | (with_reducible apply Blk.set') | (with_reducible apply Blk.far') | (with_reducible refine RowIn.far' ?_ ?_ _) | (with_reducible refine Below.far' ?_ ?_ _) | rfl | omega | go_size)


end Go.Proofs.Ytpohaikbbfochaa
