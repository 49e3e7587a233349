/-
  Contracts of the reference of chapter 7: lengths, writing.
-/
import Derived.Test.YtpohaikbbfochaaRefU
import Derived.Test.YtpohaikbbfochaaRefN
import Derived.Test.YtpohaikbbfochaaRiceA
namespace Go.Proofs.Ytpohaikbbfochaa
open Go.RowKit Cad Cad.Bit Cad.Code
set_option linter.unusedVariables false
set_option linter.unusedSimpArgs false

theorem rparam_yes (k : Int) (w : World) (h : 0 ≤ k ∧ k ≤ 24) :
    Calls Try.prog 38 #[.int .i64 k] w fun e w' => e = .returned (.bool true) ∧ w = w' := by
  have t1 : decide (0 ≤ k) = true := decide_eq_true h.1
  have t2 : decide (k ≤ 24) = true := decide_eq_true h.2
  go_enter Try.func38, Try.ntmps38
  go_wp2
  go_ret
  exact ⟨rfl, rfl⟩
theorem rparam_no (k : Int) (w : World) (h : k < 0 ∨ 24 < k) :
    Calls Try.prog 38 #[.int .i64 k] w fun e w' => e = .returned (.bool false) ∧ w = w' := by
  by_cases h1 : k < 0
  · have t1 : decide (0 ≤ k) = false := decide_eq_false (by omega)
    clear h h1
    go_enter Try.func38, Try.ntmps38
    go_wp2
    go_ret
    exact ⟨rfl, rfl⟩
  · have t1 : decide (0 ≤ k) = true := decide_eq_true (by omega)
    have t2 : decide (k ≤ 24) = false := decide_eq_false (by omega)
    clear h h1
    go_enter Try.func38, Try.ntmps38
    go_wp2
    go_ret
    exact ⟨rfl, rfl⟩

theorem rpower_ok (k : Nat) (w : World) (hk : k ≤ 29) :
    Calls Try.prog 70 #[.int .i64 (k : Int)] w fun e w' => ∃ y : Nat, e = .returned (.int .u64 (y : Int)) ∧ Hid (y = 2 ^ k) ∧ w = w' := by
  go_enter Try.func70, Try.ntmps70
  go_wp2_with fail
  go_loopg [3, 4] k (fun r u v wr => ∃ j x : Nat, j + r = k ∧ v = .int .i64 (j : Nat) ∧ u = .int .u64 (x : Nat) ∧ Hid (x = 2 ^ j) ∧ wr = w)
  case atStart => exact ⟨0, 1, by omega, rfl, rfl, Lib.hid rfl, rfl⟩
  case round =>
    obtain ⟨j, x, hj, rfl, rfl, HX, rfl⟩ := hrel
    by_cases hlt : j < k
    · have hx : x ≤ 268435456 := by
        rw [HX.out]
        have h : 2 ^ j ≤ 2 ^ 28 := Nat.pow_le_pow_right (by omega) (by omega)
        have h2 : (2 : Nat) ^ 28 = 268435456 := by decide
        omega
      go_wp2
      go_roundg (k - (j + 1))
      case measure => omega
      case rel => exact ⟨j + 1, x * 2, by omega, by go_num, by go_num, Lib.hid (by rw [HX.out, Nat.pow_succ]), rfl⟩
    · obtain rfl : j = k := by omega
      go_wp2
      go_ret
      exact ⟨x, rfl, HX, rfl⟩

/-- A number's part that is written as a run. -/
def partOf (v k : Nat) : Nat := min 48 (v / 2 ^ k)
theorem partOf_le (v k : Nat) : partOf v k ≤ 48 := by unfold partOf; omega
theorem rpart_ok (v k : Nat) (w : World) (hv : v < 4294967296) (hk : k ≤ 24) :
    Calls Try.prog 71 #[.int .u32 (v : Int), .int .i64 (k : Int)] w fun e w' => ∃ q : Nat, e = .returned (.int .i64 (q : Int)) ∧ Hid (q = partOf v k) ∧ w = w' := by
  obtain ⟨p, hp⟩ : ∃ p, p = 2 ^ k := ⟨_, rfl⟩
  have hp1 : 1 ≤ p := by rw [hp]; exact Nat.two_pow_pos k
  obtain ⟨z, hz⟩ : ∃ z, z = v / p := ⟨_, rfl⟩
  have hzi : (v : Int) / (p : Int) = (z : Int) := by rw [hz]; exact (Int.natCast_ediv v p).symm
  have hzv : z ≤ v := by rw [hz]; exact Nat.div_le_self _ _
  have HP := Lib.hid hp; have HZ := Lib.hid hz
  clear hp hz
  by_cases h : z < 48
  · have HQ : Hid (z = partOf v k) := Lib.hid (by unfold partOf; rw [← HP.out, ← HZ.out]; omega)
    have h' : (z : Int) < 48 := by omega
    go_enter Try.func71, Try.ntmps71
    go_wp2_with fail
    refine (rpower_ok k _ (by omega)).mono ?_
    rintro e _ ⟨p2, rfl, HP2, rfl⟩
    obtain rfl : p2 = p := by rw [HP2.out, HP.out]
    go_wp2
    go_ret
    exact ⟨z, rfl, HQ, rfl⟩
  · have HQ : Hid (48 = partOf v k) := Lib.hid (by unfold partOf; rw [← HP.out, ← HZ.out]; omega)
    have h' : ¬ (z : Int) < 48 := by omega
    go_enter Try.func71, Try.ntmps71
    go_wp2_with fail
    refine (rpower_ok k _ (by omega)).mono ?_
    rintro e _ ⟨p2, rfl, HP2, rfl⟩
    obtain rfl : p2 = p := by rw [HP2.out, HP.out]
    go_wp2
    go_ret
    exact ⟨48, rfl, HQ, rfl⟩

theorem rrlong_ok (v k : Nat) (w : World) (hv : v < 4294967296) (hk : k ≤ 24) :
    Calls Try.prog 63 #[.int .u32 (v : Int), .int .i64 (k : Int)] w fun e w' => ∃ y : Nat, e = .returned (.int .i64 (y : Int)) ∧ Hid (y = riceLen v k) ∧ w = w' := by
  go_enter Try.func63, Try.ntmps63
  go_wp2_with fail
  refine (rpart_ok v k _ hv hk).mono ?_
  rintro e _ ⟨q, rfl, HQ, rfl⟩
  have hq := HQ.out
  unfold partOf at hq
  by_cases h : q = 48
  · have HL : Hid (80 = riceLen v k) := Lib.hid (by unfold riceLen; rw [if_neg (by omega)])
    clear hq
    subst h
    go_wp2
    go_ret
    exact ⟨80, rfl, HL, rfl⟩
  · have HL : Hid (q + 1 + k = riceLen v k) := Lib.hid (by unfold riceLen; rw [if_pos (by omega)]; omega)
    have t1 : ((q : Int) == 48) = false := beq_eq_false_iff_ne.2 (by omega)
    have hq48 : q < 48 := by omega
    clear hq h
    go_wp2
    go_ret
    exact ⟨q + 1 + k, by go_num, HL, rfl⟩

theorem rice_part {v k q : Nat} (hq : q = partOf v k) : rice v k = run q ++ if q = 48 then lowBits v 32 else lowBits (v % 2 ^ k) k := by
  unfold rice; unfold partOf at hq
  by_cases h : v / 2 ^ k < 48
  · rw [if_pos h, if_neg (by omega), show q = v / 2 ^ k by omega]
  · rw [if_neg h, if_pos (by omega), show q = 48 by omega]
theorem riceLen_part {v k q : Nat} (hq : q = partOf v k) : riceLen v k = runLen q + if q = 48 then 32 else k := by
  rw [← rice_len, rice_part hq, List.length_append, run_len (by rw [hq]; exact partOf_le _ _)]
  split
  · rw [lowBits_len]
  · rw [lowBits_len]

end Go.Proofs.Ytpohaikbbfochaa
