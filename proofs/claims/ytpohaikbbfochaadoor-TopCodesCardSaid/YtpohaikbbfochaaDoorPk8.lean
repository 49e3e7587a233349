/-
  Texts joined (RefR, RefT, RefY, LawKA, ResA).
-/
import Derived.Test.YtpohaikbbfochaaDoorPk7
/-
  Contracts of the reference of chapter 7: lengths, writing.
-/
namespace Go.Proofs.YtpohaikbbfochaaDoor
open Go.RowKit Cad Cad.Bit Cad.Code
set_option linter.unusedVariables false
set_option linter.unusedSimpArgs false

theorem rparam_yes (k : Int) (w : World) (h : 0 ≤ k ∧ k ≤ 24) :
    Calls Tryd.prog 61 #[.int .i64 k] w fun e w' => e = .returned (.bool true) ∧ w = w' := by
  have t1 : decide (0 ≤ k) = true := decide_eq_true h.1
  have t2 : decide (k ≤ 24) = true := decide_eq_true h.2
  go_enter Tryd.func61, Tryd.ntmps61
  go_wp2
  go_ret
  exact ⟨rfl, rfl⟩
theorem rparam_no (k : Int) (w : World) (h : k < 0 ∨ 24 < k) :
    Calls Tryd.prog 61 #[.int .i64 k] w fun e w' => e = .returned (.bool false) ∧ w = w' := by
  by_cases h1 : k < 0
  · have t1 : decide (0 ≤ k) = false := decide_eq_false (by omega)
    clear h h1
    go_enter Tryd.func61, Tryd.ntmps61
    go_wp2
    go_ret
    exact ⟨rfl, rfl⟩
  · have t1 : decide (0 ≤ k) = true := decide_eq_true (by omega)
    have t2 : decide (k ≤ 24) = false := decide_eq_false (by omega)
    clear h h1
    go_enter Tryd.func61, Tryd.ntmps61
    go_wp2
    go_ret
    exact ⟨rfl, rfl⟩

theorem rpower_ok (k : Nat) (w : World) (hk : k ≤ 29) :
    Calls Tryd.prog 75 #[.int .i64 (k : Int)] w fun e w' => ∃ y : Nat, e = .returned (.int .u64 (y : Int)) ∧ Hid (y = 2 ^ k) ∧ w = w' := by
  go_enter Tryd.func75, Tryd.ntmps75
  go_wp2_with fail
  go_loopg [3, 4] k (fun r u v wr => ∃ j x : Nat, j + r = k ∧ v = .int .i64 (j : Nat) ∧ u = .int .u64 (x : Nat) ∧ Hid (x = 2 ^ j) ∧ wr = w)
  case atStart => exact ⟨0, 1, by omega, rfl, rfl, Lib.hid rfl, rfl⟩
  case round =>
    obtain ⟨j, x, hj, rfl, rfl, HX, rfl⟩ := hrel
    by_cases hlt : j < k
    · have hx : x ≤ 268435456 := by
        rw [HX.out]
        have h : 2 ^ j ≤ 2 ^ 28 := Nat.pow_le_pow_right (by omega) (by omega)
        have h2 : (2 : Nat) ^ 28 = 268435456 := by decide
        omega
      go_wp2
      go_roundg (k - (j + 1))
      case measure => omega
      case rel => exact ⟨j + 1, x * 2, by omega, by go_num, by go_num, Lib.hid (by rw [HX.out, Nat.pow_succ]), rfl⟩
    · obtain rfl : j = k := by omega
      go_wp2
      go_ret
      exact ⟨x, rfl, HX, rfl⟩

/-- A number's part that is written as a run. -/
def partOf (v k : Nat) : Nat := min 48 (v / 2 ^ k)
theorem partOf_le (v k : Nat) : partOf v k ≤ 48 := by unfold partOf; omega
theorem rice_part {v k q : Nat} (hq : q = partOf v k) : rice v k = run q ++ if q = 48 then lowBits v 32 else lowBits (v % 2 ^ k) k := by
  unfold rice; unfold partOf at hq
  by_cases h : v / 2 ^ k < 48
  · rw [if_pos h, if_neg (by omega), show q = v / 2 ^ k by omega]
  · rw [if_neg h, if_pos (by omega), show q = 48 by omega]
theorem riceLen_part {v k q : Nat} (hq : q = partOf v k) : riceLen v k = runLen q + if q = 48 then 32 else k := by
  rw [← rice_len, rice_part hq, List.length_append, run_len (by rw [hq]; exact partOf_le _ _)]
  split
  · rw [lowBits_len]
  · rw [lowBits_len]

end Go.Proofs.YtpohaikbbfochaaDoor

/-
  Contracts of the reference of chapter 8.
-/
namespace Go.Proofs.YtpohaikbbfochaaDoor
open Go.RowKit Cad Cad.Bit Cad.Code
set_option linter.unusedVariables false
set_option linter.unusedSimpArgs false

set_option maxRecDepth 100000 in
set_option maxHeartbeats 1000000 in
theorem rdcheck_any (p0 p1 q0 q1 er : Int) (w : World) (h2 : 0 ≤ q0) (h3 : 0 ≤ q1) (her : er = if DOk p0 p1 q0 q1 then 0 else 8) :
    Calls Tryd.prog 30 #[.agg #[.int .i64 p0, .int .i64 p1, .int .u64 q0, .int .u64 q1]] w fun e w' => e = .returned (.int .i64 er) ∧ Below w.heap.size w w' := by
  have HER := Lib.hid her
  clear her
  by_cases c1 : p0 < 0 ∨ 24 < p0
  · have HE : Hid (er = 8) := by rw [HER.out, if_neg (by unfold DOk; omega)]; exact Lib.hid rfl
    go_enter Tryd.func30, Tryd.ntmps30
    go_wp2_with fail
    refine (rparam_no p0 _ (by omega)).mono ?_
    rintro e _ ⟨rfl, rfl⟩
    go_wp2
    go_ret
    refine ⟨ret_int HE.out.symm, ?_⟩
    repeat' (first | (with_reducible assumption) | (with_reducible exact Below.refl _ _) | (with_reducible refine Blk.drewN ?_ _) | (with_reducible refine RowIn.drewN ?_ _) | (with_reducible refine below_drewN ?_ _) | (with_reducible refine Blk.drew ?_) | (with_reducible refine RowIn.drew ?_) | (with_reducible refine Below.drew ?_) | (with_reducible refine Blk.new' ?_ ?_ <;> first | (with_reducible rfl) | (simp; done)) | (with_reducible refine Blk.alloc ?_ _) | (with_reducible refine RowIn.alloc ?_ _) | (with_reducible refine Below.alloc ?_ ?_ _) | (with_reducible apply Blk.set') | (with_reducible apply Blk.far') | (with_reducible refine RowIn.far' ?_ ?_ _) | (with_reducible refine Below.far' ?_ ?_ _) | rfl | omega | go_size)
  by_cases c2 : p1 < 0 ∨ 24 < p1
  · have HE : Hid (er = 8) := by rw [HER.out, if_neg (by unfold DOk; omega)]; exact Lib.hid rfl
    go_enter Tryd.func30, Tryd.ntmps30
    go_wp2_with fail
    refine (rparam_yes p0 _ (by omega)).mono ?_
    rintro e _ ⟨rfl, rfl⟩
    go_wp2_with fail
    refine (rparam_no p1 _ (by omega)).mono ?_
    rintro e _ ⟨rfl, rfl⟩
    go_wp2
    go_ret
    refine ⟨ret_int HE.out.symm, ?_⟩
    repeat' (first | (with_reducible assumption) | (with_reducible exact Below.refl _ _) | (with_reducible refine Blk.drewN ?_ _) | (with_reducible refine RowIn.drewN ?_ _) | (with_reducible refine below_drewN ?_ _) | (with_reducible refine Blk.drew ?_) | (with_reducible refine RowIn.drew ?_) | (with_reducible refine Below.drew ?_) | (with_reducible refine Blk.new' ?_ ?_ <;> first | (with_reducible rfl) | (simp; done)) | (with_reducible refine Blk.alloc ?_ _) | (with_reducible refine RowIn.alloc ?_ _) | (with_reducible refine Below.alloc ?_ ?_ _) | (with_reducible apply Blk.set') | (with_reducible apply Blk.far') | (with_reducible refine RowIn.far' ?_ ?_ _) | (with_reducible refine Below.far' ?_ ?_ _) | rfl | omega | go_size)
  by_cases c3 : 68719476735 < q0
  · have HE : Hid (er = 8) := by rw [HER.out, if_neg (by unfold DOk; omega)]; exact Lib.hid rfl
    have t1 : decide ((68719476735 : Int) < q0) = true := decide_eq_true (by omega)
    go_enter Tryd.func30, Tryd.ntmps30
    go_wp2_with fail
    refine (rparam_yes p0 _ (by omega)).mono ?_
    rintro e _ ⟨rfl, rfl⟩
    go_wp2_with fail
    refine (rparam_yes p1 _ (by omega)).mono ?_
    rintro e _ ⟨rfl, rfl⟩
    go_wp2
    go_ret
    refine ⟨ret_int HE.out.symm, ?_⟩
    repeat' (first | (with_reducible assumption) | (with_reducible exact Below.refl _ _) | (with_reducible refine Blk.drewN ?_ _) | (with_reducible refine RowIn.drewN ?_ _) | (with_reducible refine below_drewN ?_ _) | (with_reducible refine Blk.drew ?_) | (with_reducible refine RowIn.drew ?_) | (with_reducible refine Below.drew ?_) | (with_reducible refine Blk.new' ?_ ?_ <;> first | (with_reducible rfl) | (simp; done)) | (with_reducible refine Blk.alloc ?_ _) | (with_reducible refine RowIn.alloc ?_ _) | (with_reducible refine Below.alloc ?_ ?_ _) | (with_reducible apply Blk.set') | (with_reducible apply Blk.far') | (with_reducible refine RowIn.far' ?_ ?_ _) | (with_reducible refine Below.far' ?_ ?_ _) | rfl | omega | go_size)
  by_cases c4 : 68719476735 < q1
  · have HE : Hid (er = 8) := by rw [HER.out, if_neg (by unfold DOk; omega)]; exact Lib.hid rfl
    have t1 : decide ((68719476735 : Int) < q0) = false := decide_eq_false (by omega)
    have t2 : decide ((68719476735 : Int) < q1) = true := decide_eq_true (by omega)
    go_enter Tryd.func30, Tryd.ntmps30
    go_wp2_with fail
    refine (rparam_yes p0 _ (by omega)).mono ?_
    rintro e _ ⟨rfl, rfl⟩
    go_wp2_with fail
    refine (rparam_yes p1 _ (by omega)).mono ?_
    rintro e _ ⟨rfl, rfl⟩
    go_wp2
    go_ret
    refine ⟨ret_int HE.out.symm, ?_⟩
    repeat' (first | (with_reducible assumption) | (with_reducible exact Below.refl _ _) | (with_reducible refine Blk.drewN ?_ _) | (with_reducible refine RowIn.drewN ?_ _) | (with_reducible refine below_drewN ?_ _) | (with_reducible refine Blk.drew ?_) | (with_reducible refine RowIn.drew ?_) | (with_reducible refine Below.drew ?_) | (with_reducible refine Blk.new' ?_ ?_ <;> first | (with_reducible rfl) | (simp; done)) | (with_reducible refine Blk.alloc ?_ _) | (with_reducible refine RowIn.alloc ?_ _) | (with_reducible refine Below.alloc ?_ ?_ _) | (with_reducible apply Blk.set') | (with_reducible apply Blk.far') | (with_reducible refine RowIn.far' ?_ ?_ _) | (with_reducible refine Below.far' ?_ ?_ _) | rfl | omega | go_size)
  · have HE : Hid (er = 0) := by rw [HER.out, if_pos (by unfold DOk; omega)]; exact Lib.hid rfl
    have t1 : decide ((68719476735 : Int) < q0) = false := decide_eq_false (by omega)
    have t2 : decide ((68719476735 : Int) < q1) = false := decide_eq_false (by omega)
    go_enter Tryd.func30, Tryd.ntmps30
    go_wp2_with fail
    refine (rparam_yes p0 _ (by omega)).mono ?_
    rintro e _ ⟨rfl, rfl⟩
    go_wp2_with fail
    refine (rparam_yes p1 _ (by omega)).mono ?_
    rintro e _ ⟨rfl, rfl⟩
    go_wp2
    go_ret
    refine ⟨ret_int HE.out.symm, ?_⟩
    repeat' (first | (with_reducible assumption) | (with_reducible exact Below.refl _ _) | (with_reducible refine Blk.drewN ?_ _) | (with_reducible refine RowIn.drewN ?_ _) | (with_reducible refine below_drewN ?_ _) | (with_reducible refine Blk.drew ?_) | (with_reducible refine RowIn.drew ?_) | (with_reducible refine Below.drew ?_) | (with_reducible refine Blk.new' ?_ ?_ <;> first | (with_reducible rfl) | (simp; done)) | (with_reducible refine Blk.alloc ?_ _) | (with_reducible refine RowIn.alloc ?_ _) | (with_reducible refine Below.alloc ?_ ?_ _) | (with_reducible apply Blk.set') | (with_reducible apply Blk.far') | (with_reducible refine RowIn.far' ?_ ?_ _) | (with_reducible refine Below.far' ?_ ?_ _) | rfl | omega | go_size)


end Go.Proofs.YtpohaikbbfochaaDoor

/-
  Contracts of the reference of chapter 8: learning.
-/
namespace Go.Proofs.YtpohaikbbfochaaDoor
open Go.RowKit Cad Cad.Bit Cad.Code
set_option linter.unusedVariables false
set_option linter.unusedSimpArgs false

theorem rpower_i (i : Int) (j y : Nat) (w : World) (hi : i = (j : Int)) (hj : j ≤ 29) (hy : y = 2 ^ j) :
    Calls Tryd.prog 75 #[.int .i64 i] w fun e w' => e = .returned (.int .u64 (y : Int)) ∧ w = w' := by
  subst hi
  refine (rpower_ok j w hj).mono ?_
  rintro e w' ⟨z, rfl, HZ, hw⟩
  exact ⟨by rw [HZ.out, hy], hw⟩
theorem pow_add4 (k : Nat) : 16 * 2 ^ k = 2 ^ (k + 4) := by rw [Nat.pow_add, Nat.mul_comm]
theorem pow_add5 (k : Nat) : 32 * 2 ^ k = 2 ^ (k + 5) := by rw [Nat.pow_add, Nat.mul_comm]

theorem rdlow_yes (p0 p1 q0 q1 v : Nat) (w : World) (hk : p0 ≤ 24) (hv : v < 4294967296) (h : v < 2 ^ p0) :
    Calls Tryd.prog 62 #[.agg #[.int .i64 (p0 : Int), .int .i64 (p1 : Int), .int .u64 (q0 : Int), .int .u64 (q1 : Int)], .int .u32 (v : Int)] w fun e w' => e = .returned (.bool true) ∧ Below w.heap.size w w' := by
  obtain ⟨P, hP⟩ : ∃ P, P = 2 ^ p0 := ⟨_, rfl⟩
  have h2 : v < P := by rw [hP]; exact h
  have HP := Lib.hid hP
  clear hP h
  go_enter Tryd.func62, Tryd.ntmps62
  go_wp2_with fail
  refine (rpower_i _ p0 P _ rfl (by omega) HP.out).mono ?_
  rintro e _ ⟨rfl, rfl⟩
  go_wp2
  go_ret
  refine ⟨by first | rfl | exact ret_bool (decide_eq_true (by omega)), ?_⟩
  repeat' (first | (with_reducible assumption) | (with_reducible exact Below.refl _ _) | (with_reducible refine Blk.drewN ?_ _) | (with_reducible refine RowIn.drewN ?_ _) | (with_reducible refine below_drewN ?_ _) | (with_reducible refine Blk.drew ?_) | (with_reducible refine RowIn.drew ?_) | (with_reducible refine Below.drew ?_) | (with_reducible refine Blk.new' ?_ ?_ <;> first | (with_reducible rfl) | (simp; done)) | (with_reducible refine Blk.alloc ?_ _) | (with_reducible refine RowIn.alloc ?_ _) | (with_reducible refine Below.alloc ?_ ?_ _) | (with_reducible apply Blk.set') | (with_reducible apply Blk.far') | (with_reducible refine RowIn.far' ?_ ?_ _) | (with_reducible refine Below.far' ?_ ?_ _) | rfl | omega | go_size)

theorem rdlow_no (p0 p1 q0 q1 v : Nat) (w : World) (hk : p0 ≤ 24) (hv : v < 4294967296) (h : ¬ v < 2 ^ p0) :
    Calls Tryd.prog 62 #[.agg #[.int .i64 (p0 : Int), .int .i64 (p1 : Int), .int .u64 (q0 : Int), .int .u64 (q1 : Int)], .int .u32 (v : Int)] w fun e w' => e = .returned (.bool false) ∧ Below w.heap.size w w' := by
  obtain ⟨P, hP⟩ : ∃ P, P = 2 ^ p0 := ⟨_, rfl⟩
  have h2 : ¬ v < P := by rw [hP]; exact h
  have HP := Lib.hid hP
  clear hP h
  go_enter Tryd.func62, Tryd.ntmps62
  go_wp2_with fail
  refine (rpower_i _ p0 P _ rfl (by omega) HP.out).mono ?_
  rintro e _ ⟨rfl, rfl⟩
  go_wp2
  go_ret
  refine ⟨by first | rfl | exact ret_bool (decide_eq_false (by omega)), ?_⟩
  repeat' (first | (with_reducible assumption) | (with_reducible exact Below.refl _ _) | (with_reducible refine Blk.drewN ?_ _) | (with_reducible refine RowIn.drewN ?_ _) | (with_reducible refine below_drewN ?_ _) | (with_reducible refine Blk.drew ?_) | (with_reducible refine RowIn.drew ?_) | (with_reducible refine Below.drew ?_) | (with_reducible refine Blk.new' ?_ ?_ <;> first | (with_reducible rfl) | (simp; done)) | (with_reducible refine Blk.alloc ?_ _) | (with_reducible refine RowIn.alloc ?_ _) | (with_reducible refine Below.alloc ?_ ?_ _) | (with_reducible apply Blk.set') | (with_reducible apply Blk.far') | (with_reducible refine RowIn.far' ?_ ?_ _) | (with_reducible refine Below.far' ?_ ?_ _) | rfl | omega | go_size)

theorem rdleft_ok (p0 p1 q0 q1 v y : Nat) (w : World) (hk : p0 ≤ 24) (hv : v < 4294967296) (h : ¬ v < 2 ^ p0) (hy : y = v - 2 ^ p0) :
    Calls Tryd.prog 64 #[.agg #[.int .i64 (p0 : Int), .int .i64 (p1 : Int), .int .u64 (q0 : Int), .int .u64 (q1 : Int)], .int .u32 (v : Int)] w fun e w' => e = .returned (.int .u32 (y : Int)) ∧ Below w.heap.size w w' := by
  obtain ⟨P, hP⟩ : ∃ P, P = 2 ^ p0 := ⟨_, rfl⟩
  have hyi : (v : Int) - (P : Int) = (y : Int) := by rw [hP, hy]; omega
  have hy32 : y < 4294967296 := by omega
  rw [← hP] at h
  have HP := Lib.hid hP
  clear hP hy
  go_enter Tryd.func64, Tryd.ntmps64
  go_wp2_with fail
  refine (rpower_i _ p0 P _ rfl (by omega) HP.out).mono ?_
  rintro e _ ⟨rfl, rfl⟩
  go_wp2
  go_ret
  refine ⟨by first | rfl | go_num, ?_⟩
  repeat' (first | (with_reducible assumption) | (with_reducible exact Below.refl _ _) | (with_reducible refine Blk.drewN ?_ _) | (with_reducible refine RowIn.drewN ?_ _) | (with_reducible refine below_drewN ?_ _) | (with_reducible refine Blk.drew ?_) | (with_reducible refine RowIn.drew ?_) | (with_reducible refine Below.drew ?_) | (with_reducible refine Blk.new' ?_ ?_ <;> first | (with_reducible rfl) | (simp; done)) | (with_reducible refine Blk.alloc ?_ _) | (with_reducible refine RowIn.alloc ?_ _) | (with_reducible refine Below.alloc ?_ ?_ _) | (with_reducible apply Blk.set') | (with_reducible apply Blk.far') | (with_reducible refine RowIn.far' ?_ ?_ _) | (with_reducible refine Below.far' ?_ ?_ _) | rfl | omega | go_size)


end Go.Proofs.YtpohaikbbfochaaDoor

/-
  The examples of the counts' top; a number's code by its parts.
-/
namespace Go.Proofs.YtpohaikbbfochaaDoor
open Go.RowKit Cad Cad.Bit Cad.Code Cad.Le
set_option linter.unusedVariables false
set_option linter.unusedSimpArgs false


theorem keach_c (A : Option Addr) (n c : Nat) (xs l : List Int) (w : World) (ha : Row .u32 w A n xs) (hx : Within 0 4294967295 xs) (hn : n ≤ 4000) (he : lens Cad.Code.start xs n = l) :
    Calls Tryd.prog 23 #[.slice A n c] w (RetI w l 0) := by rw [← he]; exact teach_ok A n c xs w ha hx hn
theorem kbytes_c (A : Option Addr) (n c : Nat) (xs : List Int) (L : Nat) (w : World) (ha : Row .u32 w A n xs) (hx : Within 0 4294967295 xs) (hn : n ≤ 4000) (he : sizeB (lenP Cad.Code.start xs n) = L) :
    Calls Tryd.prog 22 #[.slice A n c] w fun e w' => e = .returned (.tuple #[.int .i64 (L : Int), .int .i64 0]) ∧ Below w.heap.size w w' := by rw [← he]; exact tbytes_ok A n c xs w ha hx hn
theorem kput_c (A : Option Addr) (m c : Nat) (bs l : List Bool) (v n : Nat) (w : World) (ha : Row .u8 w A m (pack bs)) (hc : m ≤ c ∧ c ≤ 9223372036854775807) (hv : v < 18446744073709551616) (hn : n ≤ 64) (hf : v < 2 ^ n) (hr : bs.length + n ≤ 330000) (he : bs ++ lowBits v n = l) :
    Calls Tryd.prog 7 #[.agg #[.slice A m c, .int .i64 (bs.length : Nat)], .int .u64 (v : Int), .int .i64 (n : Int)] w (RetB w l 0) := by
  have h := bput_ok A m c bs v n w ha hc (by omega) (by omega) (by simpa using hf) (by omega)
  simp only [Int.toNat_natCast] at h
  rw [he] at h
  exact h
theorem krice_c (A : Option Addr) (m c : Nat) (bs l : List Bool) (v k : Nat) (w : World) (ha : Row .u8 w A m (pack bs)) (hc : m ≤ c ∧ c ≤ 9223372036854775807) (hv : v < 4294967296) (hk : k ≤ 24) (hr : bs.length ≤ 1000) (he : bs ++ rice v k = l) :
    Calls Tryd.prog 63 #[.agg #[.slice A m c, .int .i64 (bs.length : Nat)], .int .u32 (v : Int), .int .i64 (k : Int)] w (RetB w l 0) := by
  have h := rwrite_ret A m c bs v k w ha hc (by omega) hv (by omega)
  have h2 := (rice_len_le v k hk).2
  unfold rwR at h
  rw [if_neg (by omega), Int.toNat_natCast, if_neg (by omega), he] at h
  exact h
theorem within_ex12t : Within 0 4294967295 [7, 5000] := by intro x hx; simp at hx; omega


set_option maxRecDepth 100000 in
set_option maxHeartbeats 1000000 in
theorem alive12t (w : World) (ht : Tab w) :
    Calls Tryd.prog 19 #[] w fun e w' => e = .returned (.bool true) ∧ Below w.heap.size w w' := by
  have hti : RowIn .u8 w 0 w.heap.size (some ⟨0, 0, none⟩) 64 dbTab := ht.rowIn
  go_enter Tryd.func19, Tryd.ntmps19
  go_wp2_with fail
  refine (cenc_c _ 2 2 [7, 5000] _ _ (row_new .u32 w [7, 5000] 27) within_ex12t (by omega) rfl).mono ?_
  rintro e w1 ⟨Ab, mb, cb, xb, rfl, hcb, rb, HXb, b1⟩
  replace rb := rb.mono (lo' := w.heap.size + 0) (by go_size) (Nat.le_refl _)
  have s1 := b1.size
  try simp only [World.size_alloc, World.size_setCell, World.size_drew, size_drewN] at s1
  obtain ⟨rt_1, rb_1, bb_1⟩ : RowIn .u8 w1 (0) (w.heap.size) (some ⟨0, 0, none⟩) 64 dbTab ∧ RowIn .u8 w1 (w.heap.size + 0) (w1.heap.size) Ab mb (pack xb) ∧ Below w.heap.size w w1 := by
    refine ⟨?_, ?_, ?_⟩
    all_goals repeat' (first | (with_reducible first | assumption | exact Below.refl _ _ | refine Blk.drewN ?_ _ | refine RowIn.drewN ?_ _ | refine below_drewN ?_ _ | refine Blk.drew ?_ | refine RowIn.drew ?_ | refine Below.drew ?_) | (with_reducible refine Blk.new' ?_ ?_ <;> first | (with_reducible rfl) | (simp; done)) | (with_reducible first | refine Blk.alloc ?_ _ | refine RowIn.alloc ?_ _ | refine Below.alloc ?_ ?_ _ | apply Blk.set' | apply Blk.far' | refine RowIn.far' ?_ ?_ _ | refine Below.far' ?_ ?_ _ | refine Blk.after ?_ b1 | refine RowIn.belowS ?_ b1 | refine Below.after ?_ b1 ?_) | (exact (Eq.refl _ : (_ : List Value) = _)) | omega | go_size)
  clear b1
  clear rb
  have lb : xb.length ≤ 162 := by rw [HXb.out]; exact (codeP_le start_ok within_ex12t 2).2
  go_wp2_with fail
  refine (bpack_ok Ab mb cb xb _ (by exact RowIn.row (lo := w.heap.size + 0) (hi := w1.heap.size) (by repeat' (first | (with_reducible first | assumption | exact Below.refl _ _ | refine Blk.drewN ?_ _ | refine RowIn.drewN ?_ _ | refine below_drewN ?_ _ | refine Blk.drew ?_ | refine RowIn.drew ?_ | refine Below.drew ?_) | (with_reducible refine Blk.new' ?_ ?_ <;> first | (with_reducible rfl) | (simp; done)) | (with_reducible first | refine Blk.alloc ?_ _ | refine RowIn.alloc ?_ _ | refine Below.alloc ?_ ?_ _ | apply Blk.set' | apply Blk.far' | refine RowIn.far' ?_ ?_ _ | refine Below.far' ?_ ?_ _) | (exact (Eq.refl _ : (_ : List Value) = _)) | omega | go_size))) hcb (by omega)).mono ?_
  rintro e w2 ⟨Ap, mp, cp, xp, rfl, hcp, rp, HXp, b2⟩
  have LNp := rp.len
  replace LNp := Lib.hid LNp
  replace rp := rp.mono (lo' := w1.heap.size + 0) (by go_size) (Nat.le_refl _)
  have s2 := b2.size
  try simp only [World.size_alloc, World.size_setCell, World.size_drew, size_drewN] at s2
  obtain ⟨zb_2, rt_2, rb_2, rp_2, bb_2⟩ : Blk w2 (w1.heap.size) 26 [.slice Ab mb cb, .int .i64 ((xb.length : Nat) : Int)] ∧ RowIn .u8 w2 (0) (w.heap.size) (some ⟨0, 0, none⟩) 64 dbTab ∧ RowIn .u8 w2 (w.heap.size + 0) (w1.heap.size) Ab mb (pack xb) ∧ RowIn .u8 w2 (w1.heap.size + 0) (w2.heap.size) Ap mp xp ∧ Below w.heap.size w w2 := by
    refine ⟨?_, ?_, ?_, ?_, ?_⟩
    all_goals repeat' (first | (with_reducible first | assumption | exact Below.refl _ _ | refine Blk.drewN ?_ _ | refine RowIn.drewN ?_ _ | refine below_drewN ?_ _ | refine Blk.drew ?_ | refine RowIn.drew ?_ | refine Below.drew ?_) | (with_reducible refine Blk.new' ?_ ?_ <;> first | (with_reducible rfl) | (simp; done)) | (with_reducible first | refine Blk.alloc ?_ _ | refine RowIn.alloc ?_ _ | refine Below.alloc ?_ ?_ _ | apply Blk.set' | apply Blk.far' | refine RowIn.far' ?_ ?_ _ | refine Below.far' ?_ ?_ _ | refine Blk.after ?_ b2 | refine RowIn.belowS ?_ b2 | refine Below.after ?_ b2 ?_) | (exact (Eq.refl _ : (_ : List Value) = _)) | omega | go_size)
  clear rt_1 rb_1 bb_1 b2
  have kb_2 := zb_2.cell; have fb_2 := zb_2.frozen; have lb_2 := zb_2.lt
  clear rp
  go_wp2_with fail
  have hpw : Within 0 255 xp := by rw [HXp.out]; exact sealed_within (pack_u8 _)
  have HUP : Hid (unpR xp = (unpack (pack xb), 0)) := Lib.hid (by rw [HXp.out]; exact unp_sealed (by omega))
  refine (unp_c Ap mp cp xp _ (unpack (pack xb)) 0 (by exact RowIn.row (lo := w1.heap.size + 0) (hi := w2.heap.size) (by repeat' (first | (with_reducible first | assumption | exact Below.refl _ _ | refine Blk.drewN ?_ _ | refine RowIn.drewN ?_ _ | refine below_drewN ?_ _ | refine Blk.drew ?_ | refine RowIn.drew ?_ | refine Below.drew ?_) | (with_reducible refine Blk.new' ?_ ?_ <;> first | (with_reducible rfl) | (simp; done)) | (with_reducible first | refine Blk.alloc ?_ _ | refine RowIn.alloc ?_ _ | refine Below.alloc ?_ ?_ _ | apply Blk.set' | apply Blk.far' | refine RowIn.far' ?_ ?_ _ | refine Below.far' ?_ ?_ _) | (exact (Eq.refl _ : (_ : List Value) = _)) | omega | go_size))) hpw hcp HUP.out).mono ?_
  rintro e w3 ⟨Ac, mc, cc, xc, rfl, hcc, rc, HXc, b3⟩
  replace rc := rc.mono (lo' := w2.heap.size + 0) (by go_size) (Nat.le_refl _)
  have s3 := b3.size
  try simp only [World.size_alloc, World.size_setCell, World.size_drew, size_drewN] at s3
  obtain ⟨zb_3, rt_3, rp_3, rc_3, bb_3⟩ : Blk w3 (w1.heap.size) 26 [.slice Ab mb cb, .int .i64 ((xb.length : Nat) : Int)] ∧ RowIn .u8 w3 (0) (w.heap.size) (some ⟨0, 0, none⟩) 64 dbTab ∧ RowIn .u8 w3 (w1.heap.size + 0) (w2.heap.size) Ap mp xp ∧ RowIn .u8 w3 (w2.heap.size + 0) (w3.heap.size) Ac mc (pack xc) ∧ Below w.heap.size w w3 := by
    refine ⟨?_, ?_, ?_, ?_, ?_⟩
    all_goals repeat' (first | (with_reducible first | assumption | exact Below.refl _ _ | refine Blk.drewN ?_ _ | refine RowIn.drewN ?_ _ | refine below_drewN ?_ _ | refine Blk.drew ?_ | refine RowIn.drew ?_ | refine Below.drew ?_) | (with_reducible refine Blk.new' ?_ ?_ <;> first | (with_reducible rfl) | (simp; done)) | (with_reducible first | refine Blk.alloc ?_ _ | refine RowIn.alloc ?_ _ | refine Below.alloc ?_ ?_ _ | apply Blk.set' | apply Blk.far' | refine RowIn.far' ?_ ?_ _ | refine Below.far' ?_ ?_ _ | refine Blk.after ?_ b3 | refine RowIn.belowS ?_ b3 | refine Below.after ?_ b3 ?_) | (exact (Eq.refl _ : (_ : List Value) = _)) | omega | go_size)
  clear zb_2 rt_2 rb_2 rp_2 bb_2 kb_2 fb_2 lb_2 b3
  have kb_3 := zb_3.cell; have fb_3 := zb_3.frozen; have lb_3 := zb_3.lt
  clear rc
  have lc : xc.length ≤ 330000 := by rw [HXc.out, unpack_len, pack_len]; unfold bytesFor; omega
  obtain ⟨L, ys, HDE, HYS⟩ : ∃ (L : Nat) (ys : List Nat), Hid (decR xc ((2 : Nat) : Int) = (ys, (L : Int), 0)) ∧ Hid (ints ys = [7, 5000]) := ⟨lenP Cad.Code.start [7, 5000] 2, pre [7, 5000] 2, Lib.hid (by rw [HXc.out, HXb.out]; exact decR_code within_ex12t (by omega)), Lib.hid (ints_pre within_ex12t rfl)⟩
  go_wp2_with fail
  refine (cdec_c Ac mc cc xc 2 ys _ 0 _ (by exact RowIn.row (lo := w2.heap.size + 0) (hi := w3.heap.size) (by repeat' (first | (with_reducible first | assumption | exact Below.refl _ _ | refine Blk.drewN ?_ _ | refine RowIn.drewN ?_ _ | refine below_drewN ?_ _ | refine Blk.drew ?_ | refine RowIn.drew ?_ | refine Below.drew ?_) | (with_reducible refine Blk.new' ?_ ?_ <;> first | (with_reducible rfl) | (simp; done)) | (with_reducible first | refine Blk.alloc ?_ _ | refine RowIn.alloc ?_ _ | refine Below.alloc ?_ ?_ _ | apply Blk.set' | apply Blk.far' | refine RowIn.far' ?_ ?_ _ | refine Below.far' ?_ ?_ _) | (exact (Eq.refl _ : (_ : List Value) = _)) | omega | go_size))) hcc lc (by omega) (by exact RowIn.row (lo := 0) (hi := w.heap.size) (by repeat' (first | (with_reducible first | assumption | exact Below.refl _ _ | refine Blk.drewN ?_ _ | refine RowIn.drewN ?_ _ | refine below_drewN ?_ _ | refine Blk.drew ?_ | refine RowIn.drew ?_ | refine Below.drew ?_) | (with_reducible refine Blk.new' ?_ ?_ <;> first | (with_reducible rfl) | (simp; done)) | (with_reducible first | refine Blk.alloc ?_ _ | refine RowIn.alloc ?_ _ | refine Below.alloc ?_ ?_ _ | apply Blk.set' | apply Blk.far' | refine RowIn.far' ?_ ?_ _ | refine Below.far' ?_ ?_ _) | (exact (Eq.refl _ : (_ : List Value) = _)) | omega | go_size))) HDE.out).mono ?_
  rintro e w4 ⟨Am, mm, cm, ym, rfl, hcm, rm, HYm, b4⟩
  have lnm := rm.len
  replace rm := rm.mono (lo' := w3.heap.size + 0) (by go_size) (Nat.le_refl _)
  have s4 := b4.size
  try simp only [World.size_alloc, World.size_setCell, World.size_drew, size_drewN] at s4
  obtain ⟨zb_4, zc_4, rt_4, rc_4, rm_4, bb_4⟩ : Blk w4 (w1.heap.size) 26 [.slice Ab mb cb, .int .i64 ((xb.length : Nat) : Int)] ∧ Blk w4 (w3.heap.size) 26 [.slice Ac mc cc, .int .i64 ((xc.length : Nat) : Int)] ∧ RowIn .u8 w4 (0) (w.heap.size) (some ⟨0, 0, none⟩) 64 dbTab ∧ RowIn .u8 w4 (w2.heap.size + 0) (w3.heap.size) Ac mc (pack xc) ∧ RowIn .u32 w4 (w3.heap.size + 0) (w4.heap.size) Am mm ym ∧ Below w.heap.size w w4 := by
    refine ⟨?_, ?_, ?_, ?_, ?_, ?_⟩
    all_goals repeat' (first | (with_reducible first | assumption | exact Below.refl _ _ | refine Blk.drewN ?_ _ | refine RowIn.drewN ?_ _ | refine below_drewN ?_ _ | refine Blk.drew ?_ | refine RowIn.drew ?_ | refine Below.drew ?_) | (with_reducible refine Blk.new' ?_ ?_ <;> first | (with_reducible rfl) | (simp; done)) | (with_reducible first | refine Blk.alloc ?_ _ | refine RowIn.alloc ?_ _ | refine Below.alloc ?_ ?_ _ | apply Blk.set' | apply Blk.far' | refine RowIn.far' ?_ ?_ _ | refine Below.far' ?_ ?_ _ | refine Blk.after ?_ b4 | refine RowIn.belowS ?_ b4 | refine Below.after ?_ b4 ?_) | (exact (Eq.refl _ : (_ : List Value) = _)) | omega | go_size)
  clear zb_3 rt_3 rp_3 rc_3 bb_3 kb_3 fb_3 lb_3 b4
  have kb_4 := zb_4.cell; have fb_4 := zb_4.frozen; have lb_4 := zb_4.lt
  have kc_4 := zc_4.cell; have fc_4 := zc_4.frozen; have lc_4 := zc_4.lt
  clear rm
  have HE : Hid (ym = [7, 5000]) := Lib.hid (by rw [HYm.out]; exact HYS.out)
  obtain rfl : mm = 2 := by rw [← lnm, HE.out]; rfl
  go_wp2_with fail
  have r5 : Row .u32 (w4.alloc (.cells #[.int .u32 7, .int .u32 5000] 27)) (some ⟨w4.heap.size, 0, none⟩) 2 [7, 5000] := (row_new .u32 w4 [7, 5000] 27)
  have r6 : Row .u32 (w4.alloc (.cells #[.int .u32 7, .int .u32 5000] 27)) Am 2 ym := (by exact RowIn.row (lo := w3.heap.size + 0) (hi := w4.heap.size) (by repeat' (first | (with_reducible first | assumption | exact Below.refl _ _ | refine Blk.drewN ?_ _ | refine RowIn.drewN ?_ _ | refine below_drewN ?_ _ | refine Blk.drew ?_ | refine RowIn.drew ?_ | refine Below.drew ?_) | (with_reducible refine Blk.new' ?_ ?_ <;> first | (with_reducible rfl) | (simp; done)) | (with_reducible first | refine Blk.alloc ?_ _ | refine RowIn.alloc ?_ _ | refine Below.alloc ?_ ?_ _ | apply Blk.set' | apply Blk.far' | refine RowIn.far' ?_ ?_ _ | refine Below.far' ?_ ?_ _) | (exact (Eq.refl _ : (_ : List Value) = _)) | omega | go_size)))
  refine (r9same_eq Am _ 2 cm 2 2 ym [7, 5000] _ r6 r5 (by omega) HE.out).mono ?_
  rintro e w5 ⟨rfl, b5⟩
  have s5 := b5.size
  try simp only [World.size_alloc, World.size_setCell, World.size_drew, size_drewN] at s5
  obtain ⟨zb_5, zc_5, rt_5, rm_5, bb_5⟩ : Blk w5 (w1.heap.size) 26 [.slice Ab mb cb, .int .i64 ((xb.length : Nat) : Int)] ∧ Blk w5 (w3.heap.size) 26 [.slice Ac mc cc, .int .i64 ((xc.length : Nat) : Int)] ∧ RowIn .u8 w5 (0) (w.heap.size) (some ⟨0, 0, none⟩) 64 dbTab ∧ RowIn .u32 w5 (w3.heap.size + 0) (w4.heap.size) Am 2 ym ∧ Below w.heap.size w w5 := by
    refine ⟨?_, ?_, ?_, ?_, ?_⟩
    all_goals repeat' (first | (with_reducible first | assumption | exact Below.refl _ _ | refine Blk.drewN ?_ _ | refine RowIn.drewN ?_ _ | refine below_drewN ?_ _ | refine Blk.drew ?_ | refine RowIn.drew ?_ | refine Below.drew ?_) | (with_reducible refine Blk.new' ?_ ?_ <;> first | (with_reducible rfl) | (simp; done)) | (with_reducible first | refine Blk.alloc ?_ _ | refine RowIn.alloc ?_ _ | refine Below.alloc ?_ ?_ _ | apply Blk.set' | apply Blk.far' | refine RowIn.far' ?_ ?_ _ | refine Below.far' ?_ ?_ _ | refine Blk.after ?_ b5 | refine RowIn.belowS ?_ b5 | refine Below.after ?_ b5 ?_) | (exact (Eq.refl _ : (_ : List Value) = _)) | omega | go_size)
  clear zb_4 zc_4 rt_4 rc_4 rm_4 bb_4 kb_4 fb_4 lb_4 kc_4 fc_4 lc_4 b5
  have kb_5 := zb_5.cell; have fb_5 := zb_5.frozen; have lb_5 := zb_5.lt
  have kc_5 := zc_5.cell; have fc_5 := zc_5.frozen; have lc_5 := zc_5.lt
  go_wp2
  go_ret
  refine ⟨rfl, ?_⟩
  repeat' (first | (with_reducible first | assumption | exact Below.refl _ _ | refine Blk.drewN ?_ _ | refine RowIn.drewN ?_ _ | refine below_drewN ?_ _ | refine Blk.drew ?_ | refine RowIn.drew ?_ | refine Below.drew ?_) | (with_reducible refine Blk.new' ?_ ?_ <;> first | (with_reducible rfl) | (simp; done)) | (with_reducible first | refine Blk.alloc ?_ _ | refine RowIn.alloc ?_ _ | refine Below.alloc ?_ ?_ _ | apply Blk.set' | apply Blk.far' | refine RowIn.far' ?_ ?_ _ | refine Below.far' ?_ ?_ _) | (exact (Eq.refl _ : (_ : List Value) = _)) | omega | go_size)


set_option maxRecDepth 100000 in
set_option maxHeartbeats 4000000 in
theorem apart12_ok {p0 p1 q0 q1 v : Nat} (w : World) (hd : Dual.Ok ⟨p0, p1, q0, q1⟩) (hv : v < 4294967296) :
    Calls Tryd.prog 31 #[.agg #[.int .i64 (p0 : Int), .int .i64 (p1 : Int), .int .u64 (q0 : Int), .int .u64 (q1 : Int)], .int .u32 (v : Int)] w fun e w' => e = .returned (.bool true) ∧ Below w.heap.size w w' := by
  obtain ⟨u0, u1, v0, v1, hu⟩ := Dual.four (learn ⟨p0, p1, q0, q1⟩ v)
  have HU := Lib.hid hu
  clear hu
  have hle := lenD_le hd v
  have HW : Hid (dwR [] ⟨p0, p1, q0, q1⟩ v = (codeD ⟨p0, p1, q0, q1⟩ v, ⟨u0, u1, v0, v1⟩, 0)) := Lib.hid (by unfold dwR; rw [if_neg (by simp only [List.length_nil]; omega), List.nil_append, HU.out])
  have hk : p0 ≤ 24 ∧ p1 ≤ 24 := ⟨hd.1, hd.2.1⟩
  obtain ⟨hk0, hk1⟩ := hk
  have HD := Lib.hid hd
  clear hd hle
  by_cases h : v < 2 ^ p0
  · go_enter Tryd.func31, Tryd.ntmps31
    go_wp2_with fail
    refine (dwrite_c none 0 0 [] (codeD ⟨p0, p1, q0, q1⟩ v) _ Row.nil ⟨Nat.le_refl _, Nat.zero_le _⟩ (by simp) HD.out hv 0 HW.out).mono ?_
    rintro e w1 ⟨Aa, ma, ca, xa, rfl, hca, ra, HXa, b1⟩
    replace ra := ra.mono (lo' := w.heap.size) (by go_size) (Nat.le_refl _)
    have s1 := b1.size
    try simp only [World.size_alloc, World.size_setCell, World.size_drew, size_drewN] at s1
    obtain ⟨zd_1, ra_1, bb_1⟩ : Blk w1 (w.heap.size) 62 [.int .i64 (p0 : Int), .int .i64 (p1 : Int), .int .u64 (q0 : Int), .int .u64 (q1 : Int)] ∧ RowIn .u8 w1 (w.heap.size) (w1.heap.size) Aa ma (pack xa) ∧ Below w.heap.size w w1 := by
      refine ⟨?_, ?_, ?_⟩
      all_goals repeat' (first | (with_reducible first | assumption | exact Below.refl _ _ | refine Blk.drewN ?_ _ | refine RowIn.drewN ?_ _ | refine below_drewN ?_ _ | refine Blk.drew ?_ | refine RowIn.drew ?_ | refine Below.drew ?_) | (with_reducible refine Blk.new' ?_ ?_ <;> first | (with_reducible rfl) | (simp; done)) | (with_reducible first | refine Blk.alloc ?_ _ | refine RowIn.alloc ?_ _ | refine Below.alloc ?_ ?_ _ | apply Blk.set' | apply Blk.far' | refine RowIn.far' ?_ ?_ _ | refine Below.far' ?_ ?_ _ | refine Blk.after ?_ b1 | refine RowIn.belowS ?_ b1 | refine Below.after ?_ b1 ?_) | (exact (Eq.refl _ : (_ : List Value) = _)) | omega | go_size)
    clear b1
    have kd_1 := zd_1.cell; have fd_1 := zd_1.frozen; have ld_1 := zd_1.lt
    clear ra
    go_wp2_with fail
    refine (dlearn_c _ HD.out hv HU.out).mono ?_
    rintro e w2 ⟨rfl, b2⟩
    have s2 := b2.size
    try simp only [World.size_alloc, World.size_setCell, World.size_drew, size_drewN] at s2
    obtain ⟨zd_2, za_2, zx_2, ra_2, bb_2⟩ : Blk w2 (w.heap.size) 62 [.int .i64 (p0 : Int), .int .i64 (p1 : Int), .int .u64 (q0 : Int), .int .u64 (q1 : Int)] ∧ Blk w2 (w1.heap.size) 26 [.slice Aa ma ca, .int .i64 ((xa.length : Nat) : Int)] ∧ Blk w2 (w1.heap.size + 1) 62 [.int .i64 (u0 : Int), .int .i64 (u1 : Int), .int .u64 (v0 : Int), .int .u64 (v1 : Int)] ∧ RowIn .u8 w2 (w.heap.size) (w1.heap.size) Aa ma (pack xa) ∧ Below w.heap.size w w2 := by
      refine ⟨?_, ?_, ?_, ?_, ?_⟩
      all_goals repeat' (first | (with_reducible first | assumption | exact Below.refl _ _ | refine Blk.drewN ?_ _ | refine RowIn.drewN ?_ _ | refine below_drewN ?_ _ | refine Blk.drew ?_ | refine RowIn.drew ?_ | refine Below.drew ?_) | (with_reducible refine Blk.new' ?_ ?_ <;> first | (with_reducible rfl) | (simp; done)) | (with_reducible first | refine Blk.alloc ?_ _ | refine RowIn.alloc ?_ _ | refine Below.alloc ?_ ?_ _ | apply Blk.set' | apply Blk.far' | refine RowIn.far' ?_ ?_ _ | refine Below.far' ?_ ?_ _ | refine Blk.after ?_ b2 | refine RowIn.belowS ?_ b2 | refine Below.after ?_ b2 ?_) | (exact (Eq.refl _ : (_ : List Value) = _)) | omega | go_size)
    clear zd_1 ra_1 bb_1 kd_1 fd_1 ld_1 b2
    have kd_2 := zd_2.cell; have fd_2 := zd_2.frozen; have ld_2 := zd_2.lt
    have ka_2 := za_2.cell; have fa_2 := za_2.frozen; have la_2 := za_2.lt
    have kx_2 := zx_2.cell; have fx_2 := zx_2.frozen; have lx_2 := zx_2.lt
    go_wp2_with fail
    refine (kput_c none 0 0 [] [false] 0 1 _ Row.nil ⟨Nat.le_refl _, Nat.zero_le _⟩ (by omega) (by omega) (by omega) (by simp) rfl).mono ?_
    rintro e w3 ⟨Ao, mo, co, xo, rfl, hco, ro, HXo, b3⟩
    have Lo : xo.length ≤ 1 ∧ 1 ≤ xo.length := by rw [HXo.out]; decide
    obtain ⟨Lo1, Lo2⟩ := Lo
    replace ro := ro.mono (lo' := w2.heap.size + 0) (by go_size) (Nat.le_refl _)
    have s3 := b3.size
    try simp only [World.size_alloc, World.size_setCell, World.size_drew, size_drewN] at s3
    obtain ⟨zd_3, za_3, zx_3, zy_3, ra_3, ro_3, bb_3⟩ : Blk w3 (w.heap.size) 62 [.int .i64 (p0 : Int), .int .i64 (p1 : Int), .int .u64 (q0 : Int), .int .u64 (q1 : Int)] ∧ Blk w3 (w1.heap.size) 26 [.slice Aa ma ca, .int .i64 ((xa.length : Nat) : Int)] ∧ Blk w3 (w1.heap.size + 1) 62 [.int .i64 (u0 : Int), .int .i64 (u1 : Int), .int .u64 (v0 : Int), .int .u64 (v1 : Int)] ∧ Blk w3 (w2.heap.size) 62 [.int .i64 (u0 : Int), .int .i64 (u1 : Int), .int .u64 (v0 : Int), .int .u64 (v1 : Int)] ∧ RowIn .u8 w3 (w.heap.size) (w1.heap.size) Aa ma (pack xa) ∧ RowIn .u8 w3 (w2.heap.size + 0) (w3.heap.size) Ao mo (pack xo) ∧ Below w.heap.size w w3 := by
      refine ⟨?_, ?_, ?_, ?_, ?_, ?_, ?_⟩
      all_goals repeat' (first | (with_reducible first | assumption | exact Below.refl _ _ | refine Blk.drewN ?_ _ | refine RowIn.drewN ?_ _ | refine below_drewN ?_ _ | refine Blk.drew ?_ | refine RowIn.drew ?_ | refine Below.drew ?_) | (with_reducible refine Blk.new' ?_ ?_ <;> first | (with_reducible rfl) | (simp; done)) | (with_reducible first | refine Blk.alloc ?_ _ | refine RowIn.alloc ?_ _ | refine Below.alloc ?_ ?_ _ | apply Blk.set' | apply Blk.far' | refine RowIn.far' ?_ ?_ _ | refine Below.far' ?_ ?_ _ | refine Blk.after ?_ b3 | refine RowIn.belowS ?_ b3 | refine Below.after ?_ b3 ?_) | (exact (Eq.refl _ : (_ : List Value) = _)) | omega | go_size)
    clear zd_2 za_2 zx_2 ra_2 bb_2 kd_2 fd_2 ld_2 ka_2 fa_2 la_2 kx_2 fx_2 lx_2 b3
    have kd_3 := zd_3.cell; have fd_3 := zd_3.frozen; have ld_3 := zd_3.lt
    have ka_3 := za_3.cell; have fa_3 := za_3.frozen; have la_3 := za_3.lt
    have kx_3 := zx_3.cell; have fx_3 := zx_3.frozen; have lx_3 := zx_3.lt
    have ky_3 := zy_3.cell; have fy_3 := zy_3.frozen; have ly_3 := zy_3.lt
    clear ro
    go_wp2_with fail
    refine (kput_c Ao mo co xo (codeD ⟨p0, p1, q0, q1⟩ v) v p0 _ (by exact RowIn.row (lo := w2.heap.size + 0) (hi := w3.heap.size) (by repeat' (first | (with_reducible first | assumption | exact Below.refl _ _ | refine Blk.drewN ?_ _ | refine RowIn.drewN ?_ _ | refine below_drewN ?_ _ | refine Blk.drew ?_ | refine RowIn.drew ?_ | refine Below.drew ?_) | (with_reducible refine Blk.new' ?_ ?_ <;> first | (with_reducible rfl) | (simp; done)) | (with_reducible first | refine Blk.alloc ?_ _ | refine RowIn.alloc ?_ _ | refine Below.alloc ?_ ?_ _ | apply Blk.set' | apply Blk.far' | refine RowIn.far' ?_ ?_ _ | refine Below.far' ?_ ?_ _) | (exact (Eq.refl _ : (_ : List Value) = _)) | omega | go_size))) hco (by omega) (by omega) h (by omega) (by rw [HXo.out]; unfold codeD; rw [if_pos h]; rfl)).mono ?_
    rintro e w4 ⟨Af, mf, cf, xf, rfl, hcf, rf, HXf, b4⟩
    replace rf := rf.mono (lo' := w3.heap.size + 0) (by go_size) (Nat.le_refl _)
    have s4 := b4.size
    try simp only [World.size_alloc, World.size_setCell, World.size_drew, size_drewN] at s4
    obtain ⟨zd_4, za_4, zx_4, zy_4, zo_4, ra_4, ro_4, rf_4, bb_4⟩ : Blk w4 (w.heap.size) 62 [.int .i64 (p0 : Int), .int .i64 (p1 : Int), .int .u64 (q0 : Int), .int .u64 (q1 : Int)] ∧ Blk w4 (w1.heap.size) 26 [.slice Aa ma ca, .int .i64 ((xa.length : Nat) : Int)] ∧ Blk w4 (w1.heap.size + 1) 62 [.int .i64 (u0 : Int), .int .i64 (u1 : Int), .int .u64 (v0 : Int), .int .u64 (v1 : Int)] ∧ Blk w4 (w2.heap.size) 62 [.int .i64 (u0 : Int), .int .i64 (u1 : Int), .int .u64 (v0 : Int), .int .u64 (v1 : Int)] ∧ Blk w4 (w3.heap.size) 26 [.slice Ao mo co, .int .i64 ((xo.length : Nat) : Int)] ∧ RowIn .u8 w4 (w.heap.size) (w1.heap.size) Aa ma (pack xa) ∧ RowIn .u8 w4 (w2.heap.size + 0) (w3.heap.size) Ao mo (pack xo) ∧ RowIn .u8 w4 (w3.heap.size + 0) (w4.heap.size) Af mf (pack xf) ∧ Below w.heap.size w w4 := by
      refine ⟨?_, ?_, ?_, ?_, ?_, ?_, ?_, ?_, ?_⟩
      all_goals repeat' (first | (with_reducible first | assumption | exact Below.refl _ _ | refine Blk.drewN ?_ _ | refine RowIn.drewN ?_ _ | refine below_drewN ?_ _ | refine Blk.drew ?_ | refine RowIn.drew ?_ | refine Below.drew ?_) | (with_reducible refine Blk.new' ?_ ?_ <;> first | (with_reducible rfl) | (simp; done)) | (with_reducible first | refine Blk.alloc ?_ _ | refine RowIn.alloc ?_ _ | refine Below.alloc ?_ ?_ _ | apply Blk.set' | apply Blk.far' | refine RowIn.far' ?_ ?_ _ | refine Below.far' ?_ ?_ _ | refine Blk.after ?_ b4 | refine RowIn.belowS ?_ b4 | refine Below.after ?_ b4 ?_) | (exact (Eq.refl _ : (_ : List Value) = _)) | omega | go_size)
    clear zd_3 za_3 zx_3 zy_3 ra_3 ro_3 bb_3 kd_3 fd_3 ld_3 ka_3 fa_3 la_3 kx_3 fx_3 lx_3 ky_3 fy_3 ly_3 b4
    have kd_4 := zd_4.cell; have fd_4 := zd_4.frozen; have ld_4 := zd_4.lt
    have ka_4 := za_4.cell; have fa_4 := za_4.frozen; have la_4 := za_4.lt
    have kx_4 := zx_4.cell; have fx_4 := zx_4.frozen; have lx_4 := zx_4.lt
    have ky_4 := zy_4.cell; have fy_4 := zy_4.frozen; have ly_4 := zy_4.lt
    have ko_4 := zo_4.cell; have fo_4 := zo_4.frozen; have lo_4 := zo_4.lt
    clear rf
    go_wp2_with fail
    refine (rdlow_yes p0 p1 q0 q1 v _ hk0 hv h).mono ?_
    rintro e w5 ⟨rfl, b5⟩
    have s5 := b5.size
    try simp only [World.size_alloc, World.size_setCell, World.size_drew, size_drewN] at s5
    obtain ⟨zd_5, za_5, zx_5, zy_5, zo_5, zf_5, ra_5, ro_5, rf_5, bb_5⟩ : Blk w5 (w.heap.size) 62 [.int .i64 (p0 : Int), .int .i64 (p1 : Int), .int .u64 (q0 : Int), .int .u64 (q1 : Int)] ∧ Blk w5 (w1.heap.size) 26 [.slice Aa ma ca, .int .i64 ((xa.length : Nat) : Int)] ∧ Blk w5 (w1.heap.size + 1) 62 [.int .i64 (u0 : Int), .int .i64 (u1 : Int), .int .u64 (v0 : Int), .int .u64 (v1 : Int)] ∧ Blk w5 (w2.heap.size) 62 [.int .i64 (u0 : Int), .int .i64 (u1 : Int), .int .u64 (v0 : Int), .int .u64 (v1 : Int)] ∧ Blk w5 (w3.heap.size) 26 [.slice Ao mo co, .int .i64 ((xo.length : Nat) : Int)] ∧ Blk w5 (w4.heap.size) 26 [.slice Af mf cf, .int .i64 ((xf.length : Nat) : Int)] ∧ RowIn .u8 w5 (w.heap.size) (w1.heap.size) Aa ma (pack xa) ∧ RowIn .u8 w5 (w2.heap.size + 0) (w3.heap.size) Ao mo (pack xo) ∧ RowIn .u8 w5 (w3.heap.size + 0) (w4.heap.size) Af mf (pack xf) ∧ Below w.heap.size w w5 := by
      refine ⟨?_, ?_, ?_, ?_, ?_, ?_, ?_, ?_, ?_, ?_⟩
      all_goals repeat' (first | (with_reducible first | assumption | exact Below.refl _ _ | refine Blk.drewN ?_ _ | refine RowIn.drewN ?_ _ | refine below_drewN ?_ _ | refine Blk.drew ?_ | refine RowIn.drew ?_ | refine Below.drew ?_) | (with_reducible refine Blk.new' ?_ ?_ <;> first | (with_reducible rfl) | (simp; done)) | (with_reducible first | refine Blk.alloc ?_ _ | refine RowIn.alloc ?_ _ | refine Below.alloc ?_ ?_ _ | apply Blk.set' | apply Blk.far' | refine RowIn.far' ?_ ?_ _ | refine Below.far' ?_ ?_ _ | refine Blk.after ?_ b5 | refine RowIn.belowS ?_ b5 | refine Below.after ?_ b5 ?_) | (exact (Eq.refl _ : (_ : List Value) = _)) | omega | go_size)
    clear zd_4 za_4 zx_4 zy_4 zo_4 ra_4 ro_4 rf_4 bb_4 kd_4 fd_4 ld_4 ka_4 fa_4 la_4 kx_4 fx_4 lx_4 ky_4 fy_4 ly_4 ko_4 fo_4 lo_4 b5
    have kd_5 := zd_5.cell; have fd_5 := zd_5.frozen; have ld_5 := zd_5.lt
    have ka_5 := za_5.cell; have fa_5 := za_5.frozen; have la_5 := za_5.lt
    have kx_5 := zx_5.cell; have fx_5 := zx_5.frozen; have lx_5 := zx_5.lt
    have ky_5 := zy_5.cell; have fy_5 := zy_5.frozen; have ly_5 := zy_5.lt
    have ko_5 := zo_5.cell; have fo_5 := zo_5.frozen; have lo_5 := zo_5.lt
    have kf_5 := zf_5.cell; have ff_5 := zf_5.frozen; have lf_5 := zf_5.lt
    go_wp2_with fail
    refine (rsame_bits Aa Af ma mf ca cf xa xf _ (by exact RowIn.row (lo := w.heap.size) (hi := w1.heap.size) (by repeat' (first | (with_reducible first | assumption | exact Below.refl _ _ | refine Blk.drewN ?_ _ | refine RowIn.drewN ?_ _ | refine below_drewN ?_ _ | refine Blk.drew ?_ | refine RowIn.drew ?_ | refine Below.drew ?_) | (with_reducible refine Blk.new' ?_ ?_ <;> first | (with_reducible rfl) | (simp; done)) | (with_reducible first | refine Blk.alloc ?_ _ | refine RowIn.alloc ?_ _ | refine Below.alloc ?_ ?_ _ | apply Blk.set' | apply Blk.far' | refine RowIn.far' ?_ ?_ _ | refine Below.far' ?_ ?_ _) | (exact (Eq.refl _ : (_ : List Value) = _)) | omega | go_size))) (by exact RowIn.row (lo := w3.heap.size + 0) (hi := w4.heap.size) (by repeat' (first | (with_reducible first | assumption | exact Below.refl _ _ | refine Blk.drewN ?_ _ | refine RowIn.drewN ?_ _ | refine below_drewN ?_ _ | refine Blk.drew ?_ | refine RowIn.drew ?_ | refine Below.drew ?_) | (with_reducible refine Blk.new' ?_ ?_ <;> first | (with_reducible rfl) | (simp; done)) | (with_reducible first | refine Blk.alloc ?_ _ | refine RowIn.alloc ?_ _ | refine Below.alloc ?_ ?_ _ | apply Blk.set' | apply Blk.far' | refine RowIn.far' ?_ ?_ _ | refine Below.far' ?_ ?_ _) | (exact (Eq.refl _ : (_ : List Value) = _)) | omega | go_size))) (by rw [HXa.out, HXf.out])).mono ?_
    rintro e w6 ⟨rfl, b6⟩
    have s6 := b6.size
    try simp only [World.size_alloc, World.size_setCell, World.size_drew, size_drewN] at s6
    obtain ⟨zd_6, za_6, zx_6, zy_6, zo_6, zf_6, ra_6, ro_6, rf_6, bb_6⟩ : Blk w6 (w.heap.size) 62 [.int .i64 (p0 : Int), .int .i64 (p1 : Int), .int .u64 (q0 : Int), .int .u64 (q1 : Int)] ∧ Blk w6 (w1.heap.size) 26 [.slice Aa ma ca, .int .i64 ((xa.length : Nat) : Int)] ∧ Blk w6 (w1.heap.size + 1) 62 [.int .i64 (u0 : Int), .int .i64 (u1 : Int), .int .u64 (v0 : Int), .int .u64 (v1 : Int)] ∧ Blk w6 (w2.heap.size) 62 [.int .i64 (u0 : Int), .int .i64 (u1 : Int), .int .u64 (v0 : Int), .int .u64 (v1 : Int)] ∧ Blk w6 (w3.heap.size) 26 [.slice Ao mo co, .int .i64 ((xo.length : Nat) : Int)] ∧ Blk w6 (w4.heap.size) 26 [.slice Af mf cf, .int .i64 ((xf.length : Nat) : Int)] ∧ RowIn .u8 w6 (w.heap.size) (w1.heap.size) Aa ma (pack xa) ∧ RowIn .u8 w6 (w2.heap.size + 0) (w3.heap.size) Ao mo (pack xo) ∧ RowIn .u8 w6 (w3.heap.size + 0) (w4.heap.size) Af mf (pack xf) ∧ Below w.heap.size w w6 := by
      refine ⟨?_, ?_, ?_, ?_, ?_, ?_, ?_, ?_, ?_, ?_⟩
      all_goals repeat' (first | (with_reducible first | assumption | exact Below.refl _ _ | refine Blk.drewN ?_ _ | refine RowIn.drewN ?_ _ | refine below_drewN ?_ _ | refine Blk.drew ?_ | refine RowIn.drew ?_ | refine Below.drew ?_) | (with_reducible refine Blk.new' ?_ ?_ <;> first | (with_reducible rfl) | (simp; done)) | (with_reducible first | refine Blk.alloc ?_ _ | refine RowIn.alloc ?_ _ | refine Below.alloc ?_ ?_ _ | apply Blk.set' | apply Blk.far' | refine RowIn.far' ?_ ?_ _ | refine Below.far' ?_ ?_ _ | refine Blk.after ?_ b6 | refine RowIn.belowS ?_ b6 | refine Below.after ?_ b6 ?_) | (exact (Eq.refl _ : (_ : List Value) = _)) | omega | go_size)
    clear zd_5 za_5 zx_5 zy_5 zo_5 zf_5 ra_5 ro_5 rf_5 bb_5 kd_5 fd_5 ld_5 ka_5 fa_5 la_5 kx_5 fx_5 lx_5 ky_5 fy_5 ly_5 ko_5 fo_5 lo_5 kf_5 ff_5 lf_5 b6
    have kd_6 := zd_6.cell; have fd_6 := zd_6.frozen; have ld_6 := zd_6.lt
    have ka_6 := za_6.cell; have fa_6 := za_6.frozen; have la_6 := za_6.lt
    have kx_6 := zx_6.cell; have fx_6 := zx_6.frozen; have lx_6 := zx_6.lt
    have ky_6 := zy_6.cell; have fy_6 := zy_6.frozen; have ly_6 := zy_6.lt
    have ko_6 := zo_6.cell; have fo_6 := zo_6.frozen; have lo_6 := zo_6.lt
    have kf_6 := zf_6.cell; have ff_6 := zf_6.frozen; have lf_6 := zf_6.lt
    go_wp2
    go_ret
    refine ⟨rfl, ?_⟩
    repeat' (first | (with_reducible first | assumption | exact Below.refl _ _ | refine Blk.drewN ?_ _ | refine RowIn.drewN ?_ _ | refine below_drewN ?_ _ | refine Blk.drew ?_ | refine RowIn.drew ?_ | refine Below.drew ?_) | (with_reducible refine Blk.new' ?_ ?_ <;> first | (with_reducible rfl) | (simp; done)) | (with_reducible first | refine Blk.alloc ?_ _ | refine RowIn.alloc ?_ _ | refine Below.alloc ?_ ?_ _ | apply Blk.set' | apply Blk.far' | refine RowIn.far' ?_ ?_ _ | refine Below.far' ?_ ?_ _) | (exact (Eq.refl _ : (_ : List Value) = _)) | omega | go_size)
  · go_enter Tryd.func31, Tryd.ntmps31
    go_wp2_with fail
    refine (dwrite_c none 0 0 [] (codeD ⟨p0, p1, q0, q1⟩ v) _ Row.nil ⟨Nat.le_refl _, Nat.zero_le _⟩ (by simp) HD.out hv 0 HW.out).mono ?_
    rintro e w1 ⟨Aa, ma, ca, xa, rfl, hca, ra, HXa, b1⟩
    replace ra := ra.mono (lo' := w.heap.size) (by go_size) (Nat.le_refl _)
    have s1 := b1.size
    try simp only [World.size_alloc, World.size_setCell, World.size_drew, size_drewN] at s1
    obtain ⟨zd_1, ra_1, bb_1⟩ : Blk w1 (w.heap.size) 62 [.int .i64 (p0 : Int), .int .i64 (p1 : Int), .int .u64 (q0 : Int), .int .u64 (q1 : Int)] ∧ RowIn .u8 w1 (w.heap.size) (w1.heap.size) Aa ma (pack xa) ∧ Below w.heap.size w w1 := by
      refine ⟨?_, ?_, ?_⟩
      all_goals repeat' (first | (with_reducible first | assumption | exact Below.refl _ _ | refine Blk.drewN ?_ _ | refine RowIn.drewN ?_ _ | refine below_drewN ?_ _ | refine Blk.drew ?_ | refine RowIn.drew ?_ | refine Below.drew ?_) | (with_reducible refine Blk.new' ?_ ?_ <;> first | (with_reducible rfl) | (simp; done)) | (with_reducible first | refine Blk.alloc ?_ _ | refine RowIn.alloc ?_ _ | refine Below.alloc ?_ ?_ _ | apply Blk.set' | apply Blk.far' | refine RowIn.far' ?_ ?_ _ | refine Below.far' ?_ ?_ _ | refine Blk.after ?_ b1 | refine RowIn.belowS ?_ b1 | refine Below.after ?_ b1 ?_) | (exact (Eq.refl _ : (_ : List Value) = _)) | omega | go_size)
    clear b1
    have kd_1 := zd_1.cell; have fd_1 := zd_1.frozen; have ld_1 := zd_1.lt
    clear ra
    go_wp2_with fail
    refine (dlearn_c _ HD.out hv HU.out).mono ?_
    rintro e w2 ⟨rfl, b2⟩
    have s2 := b2.size
    try simp only [World.size_alloc, World.size_setCell, World.size_drew, size_drewN] at s2
    obtain ⟨zd_2, za_2, zx_2, ra_2, bb_2⟩ : Blk w2 (w.heap.size) 62 [.int .i64 (p0 : Int), .int .i64 (p1 : Int), .int .u64 (q0 : Int), .int .u64 (q1 : Int)] ∧ Blk w2 (w1.heap.size) 26 [.slice Aa ma ca, .int .i64 ((xa.length : Nat) : Int)] ∧ Blk w2 (w1.heap.size + 1) 62 [.int .i64 (u0 : Int), .int .i64 (u1 : Int), .int .u64 (v0 : Int), .int .u64 (v1 : Int)] ∧ RowIn .u8 w2 (w.heap.size) (w1.heap.size) Aa ma (pack xa) ∧ Below w.heap.size w w2 := by
      refine ⟨?_, ?_, ?_, ?_, ?_⟩
      all_goals repeat' (first | (with_reducible first | assumption | exact Below.refl _ _ | refine Blk.drewN ?_ _ | refine RowIn.drewN ?_ _ | refine below_drewN ?_ _ | refine Blk.drew ?_ | refine RowIn.drew ?_ | refine Below.drew ?_) | (with_reducible refine Blk.new' ?_ ?_ <;> first | (with_reducible rfl) | (simp; done)) | (with_reducible first | refine Blk.alloc ?_ _ | refine RowIn.alloc ?_ _ | refine Below.alloc ?_ ?_ _ | apply Blk.set' | apply Blk.far' | refine RowIn.far' ?_ ?_ _ | refine Below.far' ?_ ?_ _ | refine Blk.after ?_ b2 | refine RowIn.belowS ?_ b2 | refine Below.after ?_ b2 ?_) | (exact (Eq.refl _ : (_ : List Value) = _)) | omega | go_size)
    clear zd_1 ra_1 bb_1 kd_1 fd_1 ld_1 b2
    have kd_2 := zd_2.cell; have fd_2 := zd_2.frozen; have ld_2 := zd_2.lt
    have ka_2 := za_2.cell; have fa_2 := za_2.frozen; have la_2 := za_2.lt
    have kx_2 := zx_2.cell; have fx_2 := zx_2.frozen; have lx_2 := zx_2.lt
    go_wp2_with fail
    refine (kput_c none 0 0 [] [false] 0 1 _ Row.nil ⟨Nat.le_refl _, Nat.zero_le _⟩ (by omega) (by omega) (by omega) (by simp) rfl).mono ?_
    rintro e w3 ⟨Ao, mo, co, xo, rfl, hco, ro, HXo, b3⟩
    have Lo : xo.length ≤ 1 ∧ 1 ≤ xo.length := by rw [HXo.out]; decide
    obtain ⟨Lo1, Lo2⟩ := Lo
    replace ro := ro.mono (lo' := w2.heap.size + 0) (by go_size) (Nat.le_refl _)
    have s3 := b3.size
    try simp only [World.size_alloc, World.size_setCell, World.size_drew, size_drewN] at s3
    obtain ⟨zd_3, za_3, zx_3, zy_3, ra_3, ro_3, bb_3⟩ : Blk w3 (w.heap.size) 62 [.int .i64 (p0 : Int), .int .i64 (p1 : Int), .int .u64 (q0 : Int), .int .u64 (q1 : Int)] ∧ Blk w3 (w1.heap.size) 26 [.slice Aa ma ca, .int .i64 ((xa.length : Nat) : Int)] ∧ Blk w3 (w1.heap.size + 1) 62 [.int .i64 (u0 : Int), .int .i64 (u1 : Int), .int .u64 (v0 : Int), .int .u64 (v1 : Int)] ∧ Blk w3 (w2.heap.size) 62 [.int .i64 (u0 : Int), .int .i64 (u1 : Int), .int .u64 (v0 : Int), .int .u64 (v1 : Int)] ∧ RowIn .u8 w3 (w.heap.size) (w1.heap.size) Aa ma (pack xa) ∧ RowIn .u8 w3 (w2.heap.size + 0) (w3.heap.size) Ao mo (pack xo) ∧ Below w.heap.size w w3 := by
      refine ⟨?_, ?_, ?_, ?_, ?_, ?_, ?_⟩
      all_goals repeat' (first | (with_reducible first | assumption | exact Below.refl _ _ | refine Blk.drewN ?_ _ | refine RowIn.drewN ?_ _ | refine below_drewN ?_ _ | refine Blk.drew ?_ | refine RowIn.drew ?_ | refine Below.drew ?_) | (with_reducible refine Blk.new' ?_ ?_ <;> first | (with_reducible rfl) | (simp; done)) | (with_reducible first | refine Blk.alloc ?_ _ | refine RowIn.alloc ?_ _ | refine Below.alloc ?_ ?_ _ | apply Blk.set' | apply Blk.far' | refine RowIn.far' ?_ ?_ _ | refine Below.far' ?_ ?_ _ | refine Blk.after ?_ b3 | refine RowIn.belowS ?_ b3 | refine Below.after ?_ b3 ?_) | (exact (Eq.refl _ : (_ : List Value) = _)) | omega | go_size)
    clear zd_2 za_2 zx_2 ra_2 bb_2 kd_2 fd_2 ld_2 ka_2 fa_2 la_2 kx_2 fx_2 lx_2 b3
    have kd_3 := zd_3.cell; have fd_3 := zd_3.frozen; have ld_3 := zd_3.lt
    have ka_3 := za_3.cell; have fa_3 := za_3.frozen; have la_3 := za_3.lt
    have kx_3 := zx_3.cell; have fx_3 := zx_3.frozen; have lx_3 := zx_3.lt
    have ky_3 := zy_3.cell; have fy_3 := zy_3.frozen; have ly_3 := zy_3.lt
    clear ro
    go_wp2_with fail
    refine (bput_ret Ao mo co xo (v : Int) (p0 : Int) _ (by exact RowIn.row (lo := w2.heap.size + 0) (hi := w3.heap.size) (by repeat' (first | (with_reducible first | assumption | exact Below.refl _ _ | refine Blk.drewN ?_ _ | refine RowIn.drewN ?_ _ | refine below_drewN ?_ _ | refine Blk.drew ?_ | refine RowIn.drew ?_ | refine Below.drew ?_) | (with_reducible refine Blk.new' ?_ ?_ <;> first | (with_reducible rfl) | (simp; done)) | (with_reducible first | refine Blk.alloc ?_ _ | refine RowIn.alloc ?_ _ | refine Below.alloc ?_ ?_ _ | apply Blk.set' | apply Blk.far' | refine RowIn.far' ?_ ?_ _ | refine Below.far' ?_ ?_ _) | (exact (Eq.refl _ : (_ : List Value) = _)) | omega | go_size))) hco (by omega) (by omega) (by omega)).mono ?_
    rintro e w4 ⟨Af, mf, cf, xf, rfl, hcf, rf, HXf, b4⟩
    replace rf := rf.mono (lo' := w3.heap.size + 0) (by go_size) (Nat.le_refl _)
    have s4 := b4.size
    try simp only [World.size_alloc, World.size_setCell, World.size_drew, size_drewN] at s4
    obtain ⟨zd_4, za_4, zx_4, zy_4, zo_4, ra_4, ro_4, rf_4, bb_4⟩ : Blk w4 (w.heap.size) 62 [.int .i64 (p0 : Int), .int .i64 (p1 : Int), .int .u64 (q0 : Int), .int .u64 (q1 : Int)] ∧ Blk w4 (w1.heap.size) 26 [.slice Aa ma ca, .int .i64 ((xa.length : Nat) : Int)] ∧ Blk w4 (w1.heap.size + 1) 62 [.int .i64 (u0 : Int), .int .i64 (u1 : Int), .int .u64 (v0 : Int), .int .u64 (v1 : Int)] ∧ Blk w4 (w2.heap.size) 62 [.int .i64 (u0 : Int), .int .i64 (u1 : Int), .int .u64 (v0 : Int), .int .u64 (v1 : Int)] ∧ Blk w4 (w3.heap.size) 26 [.slice Ao mo co, .int .i64 ((xo.length : Nat) : Int)] ∧ RowIn .u8 w4 (w.heap.size) (w1.heap.size) Aa ma (pack xa) ∧ RowIn .u8 w4 (w2.heap.size + 0) (w3.heap.size) Ao mo (pack xo) ∧ RowIn .u8 w4 (w3.heap.size + 0) (w4.heap.size) Af mf (pack xf) ∧ Below w.heap.size w w4 := by
      refine ⟨?_, ?_, ?_, ?_, ?_, ?_, ?_, ?_, ?_⟩
      all_goals repeat' (first | (with_reducible first | assumption | exact Below.refl _ _ | refine Blk.drewN ?_ _ | refine RowIn.drewN ?_ _ | refine below_drewN ?_ _ | refine Blk.drew ?_ | refine RowIn.drew ?_ | refine Below.drew ?_) | (with_reducible refine Blk.new' ?_ ?_ <;> first | (with_reducible rfl) | (simp; done)) | (with_reducible first | refine Blk.alloc ?_ _ | refine RowIn.alloc ?_ _ | refine Below.alloc ?_ ?_ _ | apply Blk.set' | apply Blk.far' | refine RowIn.far' ?_ ?_ _ | refine Below.far' ?_ ?_ _ | refine Blk.after ?_ b4 | refine RowIn.belowS ?_ b4 | refine Below.after ?_ b4 ?_) | (exact (Eq.refl _ : (_ : List Value) = _)) | omega | go_size)
    clear zd_3 za_3 zx_3 zy_3 ra_3 ro_3 bb_3 kd_3 fd_3 ld_3 ka_3 fa_3 la_3 kx_3 fx_3 lx_3 ky_3 fy_3 ly_3 b4
    have kd_4 := zd_4.cell; have fd_4 := zd_4.frozen; have ld_4 := zd_4.lt
    have ka_4 := za_4.cell; have fa_4 := za_4.frozen; have la_4 := za_4.lt
    have kx_4 := zx_4.cell; have fx_4 := zx_4.frozen; have lx_4 := zx_4.lt
    have ky_4 := zy_4.cell; have fy_4 := zy_4.frozen; have ly_4 := zy_4.lt
    have ko_4 := zo_4.cell; have fo_4 := zo_4.frozen; have lo_4 := zo_4.lt
    clear rf
    go_wp2_with fail
    refine (rdlow_no p0 p1 q0 q1 v _ hk0 hv h).mono ?_
    rintro e w5 ⟨rfl, b5⟩
    have s5 := b5.size
    try simp only [World.size_alloc, World.size_setCell, World.size_drew, size_drewN] at s5
    obtain ⟨zd_5, za_5, zx_5, zy_5, zo_5, zf_5, ra_5, ro_5, rf_5, bb_5⟩ : Blk w5 (w.heap.size) 62 [.int .i64 (p0 : Int), .int .i64 (p1 : Int), .int .u64 (q0 : Int), .int .u64 (q1 : Int)] ∧ Blk w5 (w1.heap.size) 26 [.slice Aa ma ca, .int .i64 ((xa.length : Nat) : Int)] ∧ Blk w5 (w1.heap.size + 1) 62 [.int .i64 (u0 : Int), .int .i64 (u1 : Int), .int .u64 (v0 : Int), .int .u64 (v1 : Int)] ∧ Blk w5 (w2.heap.size) 62 [.int .i64 (u0 : Int), .int .i64 (u1 : Int), .int .u64 (v0 : Int), .int .u64 (v1 : Int)] ∧ Blk w5 (w3.heap.size) 26 [.slice Ao mo co, .int .i64 ((xo.length : Nat) : Int)] ∧ Blk w5 (w4.heap.size) 26 [.slice Af mf cf, .int .i64 ((xf.length : Nat) : Int)] ∧ RowIn .u8 w5 (w.heap.size) (w1.heap.size) Aa ma (pack xa) ∧ RowIn .u8 w5 (w2.heap.size + 0) (w3.heap.size) Ao mo (pack xo) ∧ RowIn .u8 w5 (w3.heap.size + 0) (w4.heap.size) Af mf (pack xf) ∧ Below w.heap.size w w5 := by
      refine ⟨?_, ?_, ?_, ?_, ?_, ?_, ?_, ?_, ?_, ?_⟩
      all_goals repeat' (first | (with_reducible first | assumption | exact Below.refl _ _ | refine Blk.drewN ?_ _ | refine RowIn.drewN ?_ _ | refine below_drewN ?_ _ | refine Blk.drew ?_ | refine RowIn.drew ?_ | refine Below.drew ?_) | (with_reducible refine Blk.new' ?_ ?_ <;> first | (with_reducible rfl) | (simp; done)) | (with_reducible first | refine Blk.alloc ?_ _ | refine RowIn.alloc ?_ _ | refine Below.alloc ?_ ?_ _ | apply Blk.set' | apply Blk.far' | refine RowIn.far' ?_ ?_ _ | refine Below.far' ?_ ?_ _ | refine Blk.after ?_ b5 | refine RowIn.belowS ?_ b5 | refine Below.after ?_ b5 ?_) | (exact (Eq.refl _ : (_ : List Value) = _)) | omega | go_size)
    clear zd_4 za_4 zx_4 zy_4 zo_4 ra_4 ro_4 rf_4 bb_4 kd_4 fd_4 ld_4 ka_4 fa_4 la_4 kx_4 fx_4 lx_4 ky_4 fy_4 ly_4 ko_4 fo_4 lo_4 b5
    have kd_5 := zd_5.cell; have fd_5 := zd_5.frozen; have ld_5 := zd_5.lt
    have ka_5 := za_5.cell; have fa_5 := za_5.frozen; have la_5 := za_5.lt
    have kx_5 := zx_5.cell; have fx_5 := zx_5.frozen; have lx_5 := zx_5.lt
    have ky_5 := zy_5.cell; have fy_5 := zy_5.frozen; have ly_5 := zy_5.lt
    have ko_5 := zo_5.cell; have fo_5 := zo_5.frozen; have lo_5 := zo_5.lt
    have kf_5 := zf_5.cell; have ff_5 := zf_5.frozen; have lf_5 := zf_5.lt
    go_wp2_with fail
    obtain ⟨z, hz⟩ : ∃ z, z = v - 2 ^ p0 := ⟨_, rfl⟩
    have hz32 : z < 4294967296 := by rw [hz]; exact Nat.lt_of_le_of_lt (Nat.sub_le _ _) hv
    have HCD : Hid ([true] ++ rice z p1 = codeD ⟨p0, p1, q0, q1⟩ v) := Lib.hid (by rw [hz]; unfold codeD; rw [if_neg h]; rfl)
    have HZV := Lib.hid hz
    clear hz
    refine (kput_c none 0 0 [] [true] 1 1 _ Row.nil ⟨Nat.le_refl _, Nat.zero_le _⟩ (by omega) (by omega) (by omega) (by simp) rfl).mono ?_
    rintro e w6 ⟨Ag, mg, cg, xg, rfl, hcg, rg, HXg, b6⟩
    have Lg : xg.length ≤ 1 ∧ 1 ≤ xg.length := by rw [HXg.out]; decide
    obtain ⟨Lg1, Lg2⟩ := Lg
    replace rg := rg.mono (lo' := w5.heap.size + 0) (by go_size) (Nat.le_refl _)
    have s6 := b6.size
    try simp only [World.size_alloc, World.size_setCell, World.size_drew, size_drewN] at s6
    obtain ⟨zd_6, za_6, zx_6, zy_6, zo_6, zf_6, ra_6, ro_6, rf_6, rg_6, bb_6⟩ : Blk w6 (w.heap.size) 62 [.int .i64 (p0 : Int), .int .i64 (p1 : Int), .int .u64 (q0 : Int), .int .u64 (q1 : Int)] ∧ Blk w6 (w1.heap.size) 26 [.slice Aa ma ca, .int .i64 ((xa.length : Nat) : Int)] ∧ Blk w6 (w1.heap.size + 1) 62 [.int .i64 (u0 : Int), .int .i64 (u1 : Int), .int .u64 (v0 : Int), .int .u64 (v1 : Int)] ∧ Blk w6 (w2.heap.size) 62 [.int .i64 (u0 : Int), .int .i64 (u1 : Int), .int .u64 (v0 : Int), .int .u64 (v1 : Int)] ∧ Blk w6 (w3.heap.size) 26 [.slice Ao mo co, .int .i64 ((xo.length : Nat) : Int)] ∧ Blk w6 (w4.heap.size) 26 [.slice Af mf cf, .int .i64 ((xf.length : Nat) : Int)] ∧ RowIn .u8 w6 (w.heap.size) (w1.heap.size) Aa ma (pack xa) ∧ RowIn .u8 w6 (w2.heap.size + 0) (w3.heap.size) Ao mo (pack xo) ∧ RowIn .u8 w6 (w3.heap.size + 0) (w4.heap.size) Af mf (pack xf) ∧ RowIn .u8 w6 (w5.heap.size + 0) (w6.heap.size) Ag mg (pack xg) ∧ Below w.heap.size w w6 := by
      refine ⟨?_, ?_, ?_, ?_, ?_, ?_, ?_, ?_, ?_, ?_, ?_⟩
      all_goals repeat' (first | (with_reducible first | assumption | exact Below.refl _ _ | refine Blk.drewN ?_ _ | refine RowIn.drewN ?_ _ | refine below_drewN ?_ _ | refine Blk.drew ?_ | refine RowIn.drew ?_ | refine Below.drew ?_) | (with_reducible refine Blk.new' ?_ ?_ <;> first | (with_reducible rfl) | (simp; done)) | (with_reducible first | refine Blk.alloc ?_ _ | refine RowIn.alloc ?_ _ | refine Below.alloc ?_ ?_ _ | apply Blk.set' | apply Blk.far' | refine RowIn.far' ?_ ?_ _ | refine Below.far' ?_ ?_ _ | refine Blk.after ?_ b6 | refine RowIn.belowS ?_ b6 | refine Below.after ?_ b6 ?_) | (exact (Eq.refl _ : (_ : List Value) = _)) | omega | go_size)
    clear zd_5 za_5 zx_5 zy_5 zo_5 zf_5 ra_5 ro_5 rf_5 bb_5 kd_5 fd_5 ld_5 ka_5 fa_5 la_5 kx_5 fx_5 lx_5 ky_5 fy_5 ly_5 ko_5 fo_5 lo_5 kf_5 ff_5 lf_5 b6
    have kd_6 := zd_6.cell; have fd_6 := zd_6.frozen; have ld_6 := zd_6.lt
    have ka_6 := za_6.cell; have fa_6 := za_6.frozen; have la_6 := za_6.lt
    have kx_6 := zx_6.cell; have fx_6 := zx_6.frozen; have lx_6 := zx_6.lt
    have ky_6 := zy_6.cell; have fy_6 := zy_6.frozen; have ly_6 := zy_6.lt
    have ko_6 := zo_6.cell; have fo_6 := zo_6.frozen; have lo_6 := zo_6.lt
    have kf_6 := zf_6.cell; have ff_6 := zf_6.frozen; have lf_6 := zf_6.lt
    clear rg
    go_wp2_with fail
    obtain ⟨w7, hw7⟩ : ∃ w7, w7 = ((w6.setCell ⟨w3.heap.size, 0, none⟩ (.slice Ag mg cg)).setCell ⟨w3.heap.size, 1, none⟩ (.int .i64 ((xg.length : Nat) : Int))) := ⟨_, rfl⟩
    obtain ⟨zd_7, za_7, zx_7, zy_7, zo_7, zf_7, ra_7, rg_7, bb_7, s7⟩ : Blk w7 (w.heap.size) 62 [.int .i64 (p0 : Int), .int .i64 (p1 : Int), .int .u64 (q0 : Int), .int .u64 (q1 : Int)] ∧ Blk w7 (w1.heap.size) 26 [.slice Aa ma ca, .int .i64 ((xa.length : Nat) : Int)] ∧ Blk w7 (w1.heap.size + 1) 62 [.int .i64 (u0 : Int), .int .i64 (u1 : Int), .int .u64 (v0 : Int), .int .u64 (v1 : Int)] ∧ Blk w7 (w2.heap.size) 62 [.int .i64 (u0 : Int), .int .i64 (u1 : Int), .int .u64 (v0 : Int), .int .u64 (v1 : Int)] ∧ Blk w7 (w3.heap.size) 26 [.slice Ag mg cg, .int .i64 ((xg.length : Nat) : Int)] ∧ Blk w7 (w4.heap.size) 26 [.slice Af mf cf, .int .i64 ((xf.length : Nat) : Int)] ∧ RowIn .u8 w7 (w.heap.size) (w1.heap.size) Aa ma (pack xa) ∧ RowIn .u8 w7 (w5.heap.size + 0) (w6.heap.size) Ag mg (pack xg) ∧ Below w.heap.size w w7 ∧ w6.heap.size ≤ w7.heap.size := by
      rw [hw7]
      refine ⟨?_, ?_, ?_, ?_, ?_, ?_, ?_, ?_, ?_, by go_size⟩
      all_goals repeat' (first | (with_reducible first | assumption | exact Below.refl _ _ | refine Blk.drewN ?_ _ | refine RowIn.drewN ?_ _ | refine below_drewN ?_ _ | refine Blk.drew ?_ | refine RowIn.drew ?_ | refine Below.drew ?_) | (with_reducible refine Blk.new' ?_ ?_ <;> first | (with_reducible rfl) | (simp; done)) | (with_reducible first | refine Blk.alloc ?_ _ | refine RowIn.alloc ?_ _ | refine Below.alloc ?_ ?_ _ | apply Blk.set' | apply Blk.far' | refine RowIn.far' ?_ ?_ _ | refine Below.far' ?_ ?_ _) | (exact (Eq.refl _ : (_ : List Value) = _)) | omega | go_size)
    rw [← hw7]
    clear hw7
    clear zd_6 za_6 zx_6 zy_6 zo_6 zf_6 ra_6 ro_6 rf_6 rg_6 bb_6 kd_6 fd_6 ld_6 ka_6 fa_6 la_6 kx_6 fx_6 lx_6 ky_6 fy_6 ly_6 ko_6 fo_6 lo_6 kf_6 ff_6 lf_6
    have kd_7 := zd_7.cell; have fd_7 := zd_7.frozen; have ld_7 := zd_7.lt
    have ka_7 := za_7.cell; have fa_7 := za_7.frozen; have la_7 := za_7.lt
    have kx_7 := zx_7.cell; have fx_7 := zx_7.frozen; have lx_7 := zx_7.lt
    have ky_7 := zy_7.cell; have fy_7 := zy_7.frozen; have ly_7 := zy_7.lt
    have ko_7 := zo_7.cell; have fo_7 := zo_7.frozen; have lo_7 := zo_7.lt
    have kf_7 := zf_7.cell; have ff_7 := zf_7.frozen; have lf_7 := zf_7.lt
    go_wp2_with fail
    have ko_7d := (Blk.drew zo_7).cell; have kd_7d := (Blk.drew zd_7).cell
    go_region_held3 (fun w' => (∀ a, w'.cell? ⟨w3.heap.size, a, none⟩ = [.slice Ag mg cg, .int .i64 ((xg.length : Nat) : Int)][a]?) ∧ (∀ a, w'.cell? ⟨w.heap.size, a, none⟩ = [.int .i64 (p0 : Int), .int .i64 (p1 : Int), .int .u64 (q0 : Int), .int .u64 (q1 : Int)][a]?)) (first | with_reducible exact ⟨ko_7, kd_7⟩ | with_reducible exact ⟨ko_7d, kd_7d⟩ | with_reducible exact ⟨ko_8, kd_8⟩ | with_reducible exact ⟨ko_9, kd_9⟩ | (refine ⟨Blk.cell (t := 26) ?_, Blk.cell (t := 62) ?_⟩; all_goals repeat' (first | (with_reducible first | assumption | exact Below.refl _ _ | refine Blk.drewN ?_ _ | refine RowIn.drewN ?_ _ | refine below_drewN ?_ _ | refine Blk.drew ?_ | refine RowIn.drew ?_ | refine Below.drew ?_) | (with_reducible refine Blk.new' ?_ ?_ <;> first | (with_reducible rfl) | (simp; done)) | (with_reducible first | refine Blk.alloc ?_ _ | refine RowIn.alloc ?_ _ | refine Below.alloc ?_ ?_ _ | apply Blk.set' | apply Blk.far' | refine RowIn.far' ?_ ?_ _ | refine Below.far' ?_ ?_ _) | (exact (Eq.refl _ : (_ : List Value) = _)) | omega | go_size))) (first
      | (go_simp; go_at_call 64; refine (rdleft_ok p0 p1 q0 q1 v z _ hk0 hv h HZV.out).mono ?_
         rintro e w8 ⟨rfl, b8⟩
         have s8 : w7.heap.size ≤ w8.heap.size := b8.size
         have zd_8 := ((Blk.drew zd_7)).after b8; have kd_8 := zd_8.cell; have fd_8 := zd_8.frozen; have ld_8 := zd_8.lt
         have za_8 := ((Blk.drew za_7)).after b8; have ka_8 := za_8.cell; have fa_8 := za_8.frozen; have la_8 := za_8.lt
         have zx_8 := ((Blk.drew zx_7)).after b8; have kx_8 := zx_8.cell; have fx_8 := zx_8.frozen; have lx_8 := zx_8.lt
         have zy_8 := ((Blk.drew zy_7)).after b8; have ky_8 := zy_8.cell; have fy_8 := zy_8.frozen; have ly_8 := zy_8.lt
         have zo_8 := ((Blk.drew zo_7)).after b8; have ko_8 := zo_8.cell; have fo_8 := zo_8.frozen; have lo_8 := zo_8.lt
         have zf_8 := ((Blk.drew zf_7)).after b8; have kf_8 := zf_8.cell; have ff_8 := zf_8.frozen; have lf_8 := zf_8.lt
         have ra_8 := ((RowIn.drew ra_7)).belowS b8
         have rg_8 := ((RowIn.drew rg_7)).belowS b8
         have bb_8 := Below.after (Below.drew bb_7) b8 bb_7.size)
      | (go_simp; go_at_call 63; refine (krice_c Ag mg cg xg (codeD ⟨p0, p1, q0, q1⟩ v) z p1 _ rg_8.row hcg hz32 hk1 (by omega) (by rw [HXg.out]; exact HCD.out)).mono ?_
         rintro e w9 ⟨An, mn, cn, xn, rfl, hcn, rn, HXn, b9⟩
         have s9 : w8.heap.size ≤ w9.heap.size := b9.size
         have zd_9 := (zd_8).after b9; have kd_9 := zd_9.cell; have fd_9 := zd_9.frozen; have ld_9 := zd_9.lt
         have za_9 := (za_8).after b9; have ka_9 := za_9.cell; have fa_9 := za_9.frozen; have la_9 := za_9.lt
         have zx_9 := (zx_8).after b9; have kx_9 := zx_9.cell; have fx_9 := zx_9.frozen; have lx_9 := zx_9.lt
         have zy_9 := (zy_8).after b9; have ky_9 := zy_9.cell; have fy_9 := zy_9.frozen; have ly_9 := zy_9.lt
         have zo_9 := (zo_8).after b9; have ko_9 := zo_9.cell; have fo_9 := zo_9.frozen; have lo_9 := zo_9.lt
         have zf_9 := (zf_8).after b9; have kf_9 := zf_9.cell; have ff_9 := zf_9.frozen; have lf_9 := zf_9.lt
         have ra_9 := (ra_8).belowS b9
         have rg_9 := (rg_8).belowS b9
         have bb_9 := Below.after bb_8 b9 bb_8.size
         have rn_9 := rn))
    all_goals
      go_wp2_with fail
      refine (rsame_bits Aa An ma mn ca cn xa xn _ (by exact RowIn.row (lo := w.heap.size) (hi := w1.heap.size) (by repeat' (first | (with_reducible first | assumption | exact Below.refl _ _ | refine Blk.drewN ?_ _ | refine RowIn.drewN ?_ _ | refine below_drewN ?_ _ | refine Blk.drew ?_ | refine RowIn.drew ?_ | refine Below.drew ?_) | (with_reducible refine Blk.new' ?_ ?_ <;> first | (with_reducible rfl) | (simp; done)) | (with_reducible first | refine Blk.alloc ?_ _ | refine RowIn.alloc ?_ _ | refine Below.alloc ?_ ?_ _ | apply Blk.set' | apply Blk.far' | refine RowIn.far' ?_ ?_ _ | refine Below.far' ?_ ?_ _) | (exact (Eq.refl _ : (_ : List Value) = _)) | omega | go_size))) (by exact RowIn.row (lo := w8.heap.size) (hi := w9.heap.size) (by repeat' (first | (with_reducible first | assumption | exact Below.refl _ _ | refine Blk.drewN ?_ _ | refine RowIn.drewN ?_ _ | refine below_drewN ?_ _ | refine Blk.drew ?_ | refine RowIn.drew ?_ | refine Below.drew ?_) | (with_reducible refine Blk.new' ?_ ?_ <;> first | (with_reducible rfl) | (simp; done)) | (with_reducible first | refine Blk.alloc ?_ _ | refine RowIn.alloc ?_ _ | refine Below.alloc ?_ ?_ _ | apply Blk.set' | apply Blk.far' | refine RowIn.far' ?_ ?_ _ | refine Below.far' ?_ ?_ _) | (exact (Eq.refl _ : (_ : List Value) = _)) | omega | go_size))) (by rw [HXa.out, HXn.out])).mono ?_
      rintro e w10 ⟨rfl, b10⟩
      have s10 := b10.size
      try simp only [World.size_alloc, World.size_setCell, World.size_drew, size_drewN] at s10
      obtain ⟨zd_10, za_10, zx_10, zy_10, zo_10, zf_10, ra_10, rg_10, rn_10, bb_10⟩ : Blk w10 (w.heap.size) 62 [.int .i64 (p0 : Int), .int .i64 (p1 : Int), .int .u64 (q0 : Int), .int .u64 (q1 : Int)] ∧ Blk w10 (w1.heap.size) 26 [.slice Aa ma ca, .int .i64 ((xa.length : Nat) : Int)] ∧ Blk w10 (w1.heap.size + 1) 62 [.int .i64 (u0 : Int), .int .i64 (u1 : Int), .int .u64 (v0 : Int), .int .u64 (v1 : Int)] ∧ Blk w10 (w2.heap.size) 62 [.int .i64 (u0 : Int), .int .i64 (u1 : Int), .int .u64 (v0 : Int), .int .u64 (v1 : Int)] ∧ Blk w10 (w3.heap.size) 26 [.slice Ag mg cg, .int .i64 ((xg.length : Nat) : Int)] ∧ Blk w10 (w4.heap.size) 26 [.slice An mn cn, .int .i64 ((xn.length : Nat) : Int)] ∧ RowIn .u8 w10 (w.heap.size) (w1.heap.size) Aa ma (pack xa) ∧ RowIn .u8 w10 (w5.heap.size + 0) (w6.heap.size) Ag mg (pack xg) ∧ RowIn .u8 w10 (w8.heap.size) (w9.heap.size) An mn (pack xn) ∧ Below w.heap.size w w10 := by
        refine ⟨?_, ?_, ?_, ?_, ?_, ?_, ?_, ?_, ?_, ?_⟩
        all_goals repeat' (first | (with_reducible first | assumption | exact Below.refl _ _ | refine Blk.drewN ?_ _ | refine RowIn.drewN ?_ _ | refine below_drewN ?_ _ | refine Blk.drew ?_ | refine RowIn.drew ?_ | refine Below.drew ?_) | (with_reducible refine Blk.new' ?_ ?_ <;> first | (with_reducible rfl) | (simp; done)) | (with_reducible first | refine Blk.alloc ?_ _ | refine RowIn.alloc ?_ _ | refine Below.alloc ?_ ?_ _ | apply Blk.set' | apply Blk.far' | refine RowIn.far' ?_ ?_ _ | refine Below.far' ?_ ?_ _ | refine Blk.after ?_ b10 | refine RowIn.belowS ?_ b10 | refine Below.after ?_ b10 ?_) | (exact (Eq.refl _ : (_ : List Value) = _)) | omega | go_size)
      clear zd_9 za_9 zx_9 zy_9 zo_9 zf_9 ra_9 rg_9 bb_9 kd_9 fd_9 ld_9 ka_9 fa_9 la_9 kx_9 fx_9 lx_9 ky_9 fy_9 ly_9 ko_9 fo_9 lo_9 kf_9 ff_9 lf_9 rn_9 b10
      have kd_10 := zd_10.cell; have fd_10 := zd_10.frozen; have ld_10 := zd_10.lt
      have ka_10 := za_10.cell; have fa_10 := za_10.frozen; have la_10 := za_10.lt
      have kx_10 := zx_10.cell; have fx_10 := zx_10.frozen; have lx_10 := zx_10.lt
      have ky_10 := zy_10.cell; have fy_10 := zy_10.frozen; have ly_10 := zy_10.lt
      have ko_10 := zo_10.cell; have fo_10 := zo_10.frozen; have lo_10 := zo_10.lt
      have kf_10 := zf_10.cell; have ff_10 := zf_10.frozen; have lf_10 := zf_10.lt
      go_wp2
      go_ret
      refine ⟨rfl, ?_⟩
      repeat' (first | (with_reducible first | assumption | exact Below.refl _ _ | refine Blk.drewN ?_ _ | refine RowIn.drewN ?_ _ | refine below_drewN ?_ _ | refine Blk.drew ?_ | refine RowIn.drew ?_ | refine Below.drew ?_) | (with_reducible refine Blk.new' ?_ ?_ <;> first | (with_reducible rfl) | (simp; done)) | (with_reducible first | refine Blk.alloc ?_ _ | refine RowIn.alloc ?_ _ | refine Below.alloc ?_ ?_ _ | apply Blk.set' | apply Blk.far' | refine RowIn.far' ?_ ?_ _ | refine Below.far' ?_ ?_ _) | (exact (Eq.refl _ : (_ : List Value) = _)) | omega | go_size)


end Go.Proofs.YtpohaikbbfochaaDoor

/-
  Contract of the closure of resume.Feed.
-/
namespace Go.Proofs.YtpohaikbbfochaaDoor
open Go.RowKit Cad Cad.Bit Cad.Code
set_option linter.unusedVariables false
set_option linter.unusedSimpArgs false


/-- What the closure of Feed ends in. -/
def Reads (w : World) (base gs gl : Nat) (B : Option Addr) (ys : List Int) (g : Fed) (e : Ending) (w' : World) : Prop :=
  Frm (fun k => k = gs ∨ k = gl ∨ blockOf B = some k) w w' ∧ match g with
    | .ok vs n d r => ∃ (p0 p1 q0 q1 m c k dd : Nat) (A B' : Option Addr) (bs : List Bool) (zs : List Int), e = .returned (.int .i64 0) ∧ Hid ((⟨p0, p1, q0, q1⟩ : Dual) = d) ∧ Blk w' gs 64 [.int .i64 (n : Int), .int .i64 (p0 : Int), .int .i64 (p1 : Int), .int .u64 (q0 : Int), .int .u64 (q1 : Int), .slice A m c, .int .i64 ((bs.length : Nat) : Int)] ∧ (m ≤ c ∧ c ≤ 9223372036854775807) ∧ Hid (bs = r) ∧ RowIn .u8 w' w.heap.size w'.heap.size A m (pack bs) ∧ Blk w' gl 49 [.slice B' k dd] ∧ Own w' base 27 .u32 B' k dd zs ∧ Hid (zs = ys ++ ints vs) ∧ (∀ i, blockOf B' = some i → i < w.heap.size → blockOf B = some i)
    | .err er => e = .returned (.int .i64 (er : Int))

set_option maxRecDepth 100000 in
set_option maxHeartbeats 4000000 in
theorem feed1_any (base gs gl n x0 x1 y0 y1 m c j d lo hi : Nat) (A B : Option Addr) (bs : List Bool) (ys : List Int) (w : World) (hdk : Dual.Ok ⟨x0, x1, y0, y1⟩) (hn : n ≤ 4000) (hj : j ≤ 8000) (hl : bs.length ≤ 1000) (hc : m ≤ c ∧ c ≤ 9223372036854775807)
    (hs : Blk w gs 64 [.int .i64 (n : Int), .int .i64 (x0 : Int), .int .i64 (x1 : Int), .int .u64 (y0 : Int), .int .u64 (y1 : Int), .slice A m c, .int .i64 ((bs.length : Nat) : Int)]) (hlb : Blk w gl 49 [.slice B j d]) (hown : Own w base 27 .u32 B j d ys) (hra : RowIn .u8 w lo hi A m (pack bs)) (hgs : gs < lo ∨ hi ≤ gs) (hgl : gl < lo ∨ hi ≤ gl) (hlo : ∀ k, blockOf B = some k → k < lo ∨ hi ≤ k) (hne : gs ≠ gl) (hbs : base ≤ gs) (hbl : base ≤ gl) (hbase : base ≤ w.heap.size) (hhi : hi ≤ w.heap.size) (ht : Tab w) (htb : 0 < base) (htt : 0 < base) :
    Calls Tryd.prog 59 #[.pointer (some ⟨gs, 0, none⟩), .pointer (some ⟨gl, 0, none⟩)] w (Reads w base gs gl B ys (feed n ⟨x0, x1, y0, y1⟩ bs)) := by
  have hti : RowIn .u8 w 0 base (some ⟨0, 0, none⟩) 64 dbTab := by
    refine ⟨ht.rowIn.1, fun h => ?_⟩
    obtain ⟨b, off, e, h1, h2, h3⟩ := ht.rowIn.2 h
    exact ⟨b, off, e, Nat.zero_le _, by injection e with e; injection e with e _ _; omega, h3⟩
  obtain ⟨G, HG⟩ : ∃ G, Hid (G = feed n ⟨x0, x1, y0, y1⟩ bs) := ⟨_, Lib.hid rfl⟩
  rw [← HG.out]
  have HJ := Lib.hid hown.len
  have HOW : Hid (∀ k, blockOf B = some k → base ≤ k) := Lib.hid (fun k h => (hown.block k h).1)
  have HLO := Lib.hid hlo
  clear hlo
  have ks := hs.cell; have fs := hs.frozen; have ls := hs.lt; have kl := hlb.cell; have fl := hlb.frozen; have ll := hlb.lt

  go_enter Tryd.func59, Tryd.ntmps59
  go_wp2_with fail
  go_loopg [3] n (fun k va wr => ∃ (a p0 p1 q0 q1 jj dd : Nat) (B' : Option Addr) (us : List Nat) (zs : List Int), va = .int .i64 (a : Nat) ∧ a ≤ bs.length ∧ jj ≤ j + us.length ∧ us.length + k ≤ n ∧ n ≤ us.length + k ∧ Hid (Dual.Ok ⟨p0, p1, q0, q1⟩) ∧ Hid (G = (feed k ⟨p0, p1, q0, q1⟩ (bs.drop a)).app us) ∧ Hid (zs = ys ++ ints us) ∧ Own wr base 27 .u32 B' jj dd zs ∧ Blk wr gs 64 [.int .i64 (k : Int), .int .i64 (p0 : Int), .int .i64 (p1 : Int), .int .u64 (q0 : Int), .int .u64 (q1 : Int), .slice A m c, .int .i64 ((bs.length : Nat) : Int)] ∧ Blk wr gl 49 [.slice B' jj dd] ∧ RowIn .u8 wr lo hi A m (pack bs) ∧ Frm (fun k => k = gs ∨ k = gl ∨ blockOf B = some k) w wr ∧ Hid (∀ i, blockOf B' = some i → i < w.heap.size → blockOf B = some i))
  case atStart =>
    exact ⟨0, x0, x1, y0, y1, j, d, B, [], ys, rfl, by omega, by simp, by simp, by simp, Lib.hid hdk, Lib.hid (by rw [HG.out, Fed.app_nil, List.drop_zero]), Lib.hid (by simp [ints]), hown, hs, hlb, hra, Frm.refl _ _, Lib.hid (fun _ h _ => h)⟩
  case round =>
    obtain ⟨a, p0, p1, q0, q1, jj, dd, B', us, zs, rfl, haL, hjj, hus, hus2, HPO, HGG, HZ, own5, zs_5, zl_5, ra_5, fr5, HB5⟩ := hrel
    clear hs hlb hown hra ks fs ls kl fl ll HG hdk
    have ks_5 := zs_5.cell; have fs_5 := zs_5.frozen; have ls_5 := zs_5.lt; have kl_5 := zl_5.cell; have fl_5 := zl_5.frozen; have ll_5 := zl_5.lt
    have s5 := fr5.size
    have bw5 : Below base w wr := fr5.below hbase (fun k hk h => h.elim (fun h => by omega) (fun h => h.elim (fun h => by omega) (fun h => absurd (HOW.out k h) (by omega))))
    have rt_5 := hti.below bw5 (Nat.le_refl _)
    have hob : ∀ i, blockOf B' = some i → base ≤ i := fun i h => (own5.block i h).1
    have HOB := Lib.hid hob
    clear hob
    by_cases hgt : 0 < gk
    · obtain ⟨r, hkr⟩ : ∃ r, gk = r + 1 := ⟨gk - 1, by omega⟩
      have hgq : 0 < gk := hgt
      have HKR := Lib.hid hkr
      clear hkr
      have hgp : (0 : Int) < (gk : Int) := by omega
      cases hrd : readD (bs.drop a) ⟨p0, p1, q0, q1⟩ with
      | err er =>
        have hee := readD_err HPO.out hrd
        have hg0 := HGG.out
        rw [HKR.out] at hg0
        have HG0 := Lib.hid hg0
        clear hg0
        have HRD : Hid (drR bs (a : Nat) ⟨p0, p1, q0, q1⟩ = (0, 0, ⟨0, 0, 0, 0⟩, (er : Int))) := Lib.hid (by unfold drR; rw [if_neg (by omega), Int.toNat_natCast, hrd]; rfl)
        have HRR := Lib.hid hrd
        clear hrd
        rcases hee with rfl | ⟨rfl, hl81⟩
        · go_wp2_with fail
          refine (dread_c A m c bs (a : Nat) _ (by exact RowIn.row (lo := lo) (hi := hi) (by repeat' (first | (with_reducible assumption) | (with_reducible exact Below.refl _ _) | (with_reducible refine Blk.drewN ?_ _) | (with_reducible refine RowIn.drewN ?_ _) | (with_reducible refine below_drewN ?_ _) | (with_reducible refine Blk.drew ?_) | (with_reducible refine RowIn.drew ?_) | (with_reducible refine Below.drew ?_) | (with_reducible refine Blk.new' ?_ ?_ <;> first | (with_reducible rfl) | (simp; done)) | (with_reducible refine Blk.alloc ?_ _) | (with_reducible refine RowIn.alloc ?_ _) | (with_reducible refine Below.alloc ?_ ?_ _) | (with_reducible apply Blk.set') | (with_reducible apply Blk.far') | (with_reducible refine RowIn.far' ?_ ?_ _) | (with_reducible refine Below.far' ?_ ?_ _) | rfl | omega | go_size))) hc (by omega) (by omega) HPO.out (by exact RowIn.row (lo := 0) (hi := base) (by repeat' (first | (with_reducible assumption) | (with_reducible exact Below.refl _ _) | (with_reducible refine Blk.drewN ?_ _) | (with_reducible refine RowIn.drewN ?_ _) | (with_reducible refine below_drewN ?_ _) | (with_reducible refine Blk.drew ?_) | (with_reducible refine RowIn.drew ?_) | (with_reducible refine Below.drew ?_) | (with_reducible refine Blk.new' ?_ ?_ <;> first | (with_reducible rfl) | (simp; done)) | (with_reducible refine Blk.alloc ?_ _) | (with_reducible refine RowIn.alloc ?_ _) | (with_reducible refine Below.alloc ?_ ?_ _) | (with_reducible apply Blk.set') | (with_reducible apply Blk.far') | (with_reducible refine RowIn.far' ?_ ?_ _) | (with_reducible refine Below.far' ?_ ?_ _) | rfl | omega | go_size))) HRD.out).mono ?_
          rintro e w6 ⟨rfl, b6⟩
          have own6 := own5.below b6 (Nat.le_refl _)
          have fr6 := fr5.trans (Frm.of_below b6 (fun _ => False)) (fun _ _ h => h.elim)
          have s6 := b6.size
          try simp only [World.size_alloc, World.size_setCell, World.size_drew, size_drewN] at s6
          obtain ⟨zs_6, zl_6, ra_6, rt_6, bb_6⟩ : Blk w6 (gs) 64 [.int .i64 (gk : Int), .int .i64 (p0 : Int), .int .i64 (p1 : Int), .int .u64 (q0 : Int), .int .u64 (q1 : Int), .slice A m c, .int .i64 ((bs.length : Nat) : Int)] ∧ Blk w6 (gl) 49 [.slice B' jj dd] ∧ RowIn .u8 w6 (lo) (hi) A m (pack bs) ∧ RowIn .u8 w6 (0) (base) (some ⟨0, 0, none⟩) 64 dbTab ∧ Below wr.heap.size wr w6 := by
            refine ⟨?_, ?_, ?_, ?_, ?_⟩
            all_goals repeat' (first | (with_reducible assumption) | (with_reducible exact Below.refl _ _) | (with_reducible refine Blk.drewN ?_ _) | (with_reducible refine RowIn.drewN ?_ _) | (with_reducible refine below_drewN ?_ _) | (with_reducible refine Blk.drew ?_) | (with_reducible refine RowIn.drew ?_) | (with_reducible refine Below.drew ?_) | (with_reducible refine Blk.new' ?_ ?_ <;> first | (with_reducible rfl) | (simp; done)) | (with_reducible refine Blk.alloc ?_ _) | (with_reducible refine RowIn.alloc ?_ _) | (with_reducible refine Below.alloc ?_ ?_ _) | (with_reducible apply Blk.set') | (with_reducible apply Blk.far') | (with_reducible refine RowIn.far' ?_ ?_ _) | (with_reducible refine Below.far' ?_ ?_ _) | (with_reducible refine Blk.after ?_ b6) | (with_reducible refine RowIn.belowS ?_ b6) | (with_reducible refine Below.after ?_ b6 ?_) | rfl | omega | go_size)
          clear b6
          have ks_6 := zs_6.cell; have fs_6 := zs_6.frozen; have ls_6 := zs_6.lt
          have kl_6 := zl_6.cell; have fl_6 := zl_6.frozen; have ll_6 := zl_6.lt
          have hg := feed_waits HG0.out HRR.out
          rw [← HKR.out] at hg
          go_wp2_with fail
          have lsp : gs < w6.heap.size := ls_6
          have spw : w.heap.size ≤ w6.heap.size := fr6.size
          refine (bcut_ok A m c bs (a : Nat) (bs.length : Nat) _ (by exact RowIn.row (lo := lo) (hi := hi) (by repeat' (first | (with_reducible assumption) | (with_reducible exact Below.refl _ _) | (with_reducible refine Blk.drewN ?_ _) | (with_reducible refine RowIn.drewN ?_ _) | (with_reducible refine below_drewN ?_ _) | (with_reducible refine Blk.drew ?_) | (with_reducible refine RowIn.drew ?_) | (with_reducible refine Below.drew ?_) | (with_reducible refine Blk.new' ?_ ?_ <;> first | (with_reducible rfl) | (simp; done)) | (with_reducible refine Blk.alloc ?_ _) | (with_reducible refine RowIn.alloc ?_ _) | (with_reducible refine Below.alloc ?_ ?_ _) | (with_reducible apply Blk.set') | (with_reducible apply Blk.far') | (with_reducible refine RowIn.far' ?_ ?_ _) | (with_reducible refine Below.far' ?_ ?_ _) | rfl | omega | go_size))) hc (by omega) (by omega) (by omega) (by omega)).mono ?_
          rintro e w7 ⟨Ap, mp, cp, xp, rfl, hcp, rp, HXp, b7⟩
          have Lp : xp.length ≤ bs.length - a ∧ bs.length - a ≤ xp.length := by rw [HXp.out]; rw [List.length_take, List.length_drop]; omega
          obtain ⟨Lp1, Lp2⟩ := Lp
          replace rp := rp.mono (lo' := w6.heap.size + 0) (by go_size) (Nat.le_refl _)
          have s7 := b7.size
          try simp only [World.size_alloc, World.size_setCell, World.size_drew, size_drewN] at s7
          obtain ⟨zs_7, zl_7, ra_7, rt_7, rp_7, bb_7⟩ : Blk w7 (gs) 64 [.int .i64 (gk : Int), .int .i64 (p0 : Int), .int .i64 (p1 : Int), .int .u64 (q0 : Int), .int .u64 (q1 : Int), .slice A m c, .int .i64 ((bs.length : Nat) : Int)] ∧ Blk w7 (gl) 49 [.slice B' jj dd] ∧ RowIn .u8 w7 (lo) (hi) A m (pack bs) ∧ RowIn .u8 w7 (0) (base) (some ⟨0, 0, none⟩) 64 dbTab ∧ RowIn .u8 w7 (w6.heap.size + 0) (w7.heap.size) Ap mp (pack xp) ∧ Below wr.heap.size wr w7 := by
            refine ⟨?_, ?_, ?_, ?_, ?_, ?_⟩
            all_goals repeat' (first | (with_reducible assumption) | (with_reducible exact Below.refl _ _) | (with_reducible refine Blk.drewN ?_ _) | (with_reducible refine RowIn.drewN ?_ _) | (with_reducible refine below_drewN ?_ _) | (with_reducible refine Blk.drew ?_) | (with_reducible refine RowIn.drew ?_) | (with_reducible refine Below.drew ?_) | (with_reducible refine Blk.new' ?_ ?_ <;> first | (with_reducible rfl) | (simp; done)) | (with_reducible refine Blk.alloc ?_ _) | (with_reducible refine RowIn.alloc ?_ _) | (with_reducible refine Below.alloc ?_ ?_ _) | (with_reducible apply Blk.set') | (with_reducible apply Blk.far') | (with_reducible refine RowIn.far' ?_ ?_ _) | (with_reducible refine Below.far' ?_ ?_ _) | (with_reducible refine Blk.after ?_ b7) | (with_reducible refine RowIn.belowS ?_ b7) | (with_reducible refine Below.after ?_ b7 ?_) | rfl | omega | go_size)
          have ks_7 := zs_7.cell; have fs_7 := zs_7.frozen; have ls_7 := zs_7.lt
          have kl_7 := zl_7.cell; have fl_7 := zl_7.frozen; have ll_7 := zl_7.lt
          clear rp
          have HPD : Hid (xp = bs.drop a) := Lib.hid (by rw [HXp.out]; simp only [Int.toNat_natCast]; rw [List.take_of_length_le (by rw [List.length_drop]; omega)])
          clear HXp
          have own7 := ((own6.alloc _)).below b7 (Nat.le_refl _)
          have fr7 := (fr6.alloc _).trans (Frm.of_below b7 (fun _ => False)) (fun _ _ h => h.elim)
          have hne7 : blockOf B' ≠ some gs := own7.ne_blk zs_7 (by decide)
          have hnl7 : blockOf B' ≠ some gl := own7.ne_blk zl_7 (by decide)
          have e1 : ((gk : Int) == 0) = false := beq_eq_false_iff_ne.2 (by omega)
          go_wp2
          go_ret
          refine ⟨?_, ?_⟩
          · exact (fr7.setCell (p := ⟨gs, _, none⟩) (fun _ => Or.inl rfl) _).setCell (p := ⟨gs, _, none⟩) (fun _ => Or.inl rfl) _
          · rw [hg]
            refine ⟨p0, p1, q0, q1, mp, cp, jj, dd, Ap, B', xp, zs, rfl, Lib.hid rfl, ?_, hcp, HPD, ?_, ?_, ?_, HZ, HB5.out⟩
            · exact Blk.set' (l0 := [.int .i64 (gk : Int), .int .i64 (p0 : Int), .int .i64 (p1 : Int), .int .u64 (q0 : Int), .int .u64 (q1 : Int), .slice Ap mp cp, .int .i64 ((bs.length : Nat) : Int)]) (Blk.set' zs_7 rfl) rfl
            · exact RowIn.mono (lo := w6.heap.size + 0) (hi := w7.heap.size) ((rp_7.far' (Or.inl (by omega)) _).far' (Or.inl (by omega)) _) (by omega) (by simp [World.setCell])
            · exact (Blk.far' (Blk.far' zl_7 (Ne.symm hne) _) (Ne.symm hne) _)
            · exact (own7.far' hne7 _).far' hne7 _
        · go_wp2_with fail
          refine (dread_c A m c bs (a : Nat) _ (by exact RowIn.row (lo := lo) (hi := hi) (by repeat' (first | (with_reducible assumption) | (with_reducible exact Below.refl _ _) | (with_reducible refine Blk.drewN ?_ _) | (with_reducible refine RowIn.drewN ?_ _) | (with_reducible refine below_drewN ?_ _) | (with_reducible refine Blk.drew ?_) | (with_reducible refine RowIn.drew ?_) | (with_reducible refine Below.drew ?_) | (with_reducible refine Blk.new' ?_ ?_ <;> first | (with_reducible rfl) | (simp; done)) | (with_reducible refine Blk.alloc ?_ _) | (with_reducible refine RowIn.alloc ?_ _) | (with_reducible refine Below.alloc ?_ ?_ _) | (with_reducible apply Blk.set') | (with_reducible apply Blk.far') | (with_reducible refine RowIn.far' ?_ ?_ _) | (with_reducible refine Below.far' ?_ ?_ _) | rfl | omega | go_size))) hc (by omega) (by omega) HPO.out (by exact RowIn.row (lo := 0) (hi := base) (by repeat' (first | (with_reducible assumption) | (with_reducible exact Below.refl _ _) | (with_reducible refine Blk.drewN ?_ _) | (with_reducible refine RowIn.drewN ?_ _) | (with_reducible refine below_drewN ?_ _) | (with_reducible refine Blk.drew ?_) | (with_reducible refine RowIn.drew ?_) | (with_reducible refine Below.drew ?_) | (with_reducible refine Blk.new' ?_ ?_ <;> first | (with_reducible rfl) | (simp; done)) | (with_reducible refine Blk.alloc ?_ _) | (with_reducible refine RowIn.alloc ?_ _) | (with_reducible refine Below.alloc ?_ ?_ _) | (with_reducible apply Blk.set') | (with_reducible apply Blk.far') | (with_reducible refine RowIn.far' ?_ ?_ _) | (with_reducible refine Below.far' ?_ ?_ _) | rfl | omega | go_size))) HRD.out).mono ?_
          rintro e w6 ⟨rfl, b6⟩
          have own6 := own5.below b6 (Nat.le_refl _)
          have fr6 := fr5.trans (Frm.of_below b6 (fun _ => False)) (fun _ _ h => h.elim)
          have s6 := b6.size
          try simp only [World.size_alloc, World.size_setCell, World.size_drew, size_drewN] at s6
          obtain ⟨zs_6, zl_6, ra_6, rt_6, bb_6⟩ : Blk w6 (gs) 64 [.int .i64 (gk : Int), .int .i64 (p0 : Int), .int .i64 (p1 : Int), .int .u64 (q0 : Int), .int .u64 (q1 : Int), .slice A m c, .int .i64 ((bs.length : Nat) : Int)] ∧ Blk w6 (gl) 49 [.slice B' jj dd] ∧ RowIn .u8 w6 (lo) (hi) A m (pack bs) ∧ RowIn .u8 w6 (0) (base) (some ⟨0, 0, none⟩) 64 dbTab ∧ Below wr.heap.size wr w6 := by
            refine ⟨?_, ?_, ?_, ?_, ?_⟩
            all_goals repeat' (first | (with_reducible assumption) | (with_reducible exact Below.refl _ _) | (with_reducible refine Blk.drewN ?_ _) | (with_reducible refine RowIn.drewN ?_ _) | (with_reducible refine below_drewN ?_ _) | (with_reducible refine Blk.drew ?_) | (with_reducible refine RowIn.drew ?_) | (with_reducible refine Below.drew ?_) | (with_reducible refine Blk.new' ?_ ?_ <;> first | (with_reducible rfl) | (simp; done)) | (with_reducible refine Blk.alloc ?_ _) | (with_reducible refine RowIn.alloc ?_ _) | (with_reducible refine Below.alloc ?_ ?_ _) | (with_reducible apply Blk.set') | (with_reducible apply Blk.far') | (with_reducible refine RowIn.far' ?_ ?_ _) | (with_reducible refine Below.far' ?_ ?_ _) | (with_reducible refine Blk.after ?_ b6) | (with_reducible refine RowIn.belowS ?_ b6) | (with_reducible refine Below.after ?_ b6 ?_) | rfl | omega | go_size)
          clear b6
          have ks_6 := zs_6.cell; have fs_6 := zs_6.frozen; have ls_6 := zs_6.lt
          have kl_6 := zl_6.cell; have fl_6 := zl_6.frozen; have ll_6 := zl_6.lt
          have hg := feed_stop HG0.out HRR.out (by omega)
          go_wp2
          go_ret
          refine ⟨?_, ?_⟩
          · exact fr6.alloc _
          · rw [hg]; rfl
      | ok v q =>
        obtain ⟨u0, u1, v0, v1, hu⟩ := Dual.four (learn ⟨p0, p1, q0, q1⟩ v)
        have hv32 := readD_lt HPO.out hrd
        have hkl := (readD_len HPO.out hrd).2.2
        rw [List.length_drop] at hkl
        have hg0 := HGG.out
        rw [HKR.out] at hg0
        have hg := feed_step hg0 hrd
        obtain ⟨z, hz⟩ : ∃ z, z = a + q := ⟨_, rfl⟩
        rw [hu, ← hz] at hg
        have HG2 := Lib.hid hg
        have HPO2 : Hid (Dual.Ok ⟨u0, u1, v0, v1⟩) := Lib.hid (by rw [← hu]; exact learn_ok HPO.out hv32)
        have HRD : Hid (drR bs (a : Nat) ⟨p0, p1, q0, q1⟩ = ((v : Int), (z : Int), ⟨u0, u1, v0, v1⟩, 0)) := Lib.hid (by unfold drR; rw [if_neg (by omega), Int.toNat_natCast, hrd]; dsimp only; rw [hu, hz]; simp)
        have hzl : z ≤ bs.length := by omega
        have hri : ((gk : Int) - 1) = (r : Int) := by have := HKR.out; omega
        clear hg hg0 hrd hu HGG hz
        go_wp2_with fail
        refine (dread_c A m c bs (a : Nat) _ (by exact RowIn.row (lo := lo) (hi := hi) (by repeat' (first | (with_reducible assumption) | (with_reducible exact Below.refl _ _) | (with_reducible refine Blk.drewN ?_ _) | (with_reducible refine RowIn.drewN ?_ _) | (with_reducible refine below_drewN ?_ _) | (with_reducible refine Blk.drew ?_) | (with_reducible refine RowIn.drew ?_) | (with_reducible refine Below.drew ?_) | (with_reducible refine Blk.new' ?_ ?_ <;> first | (with_reducible rfl) | (simp; done)) | (with_reducible refine Blk.alloc ?_ _) | (with_reducible refine RowIn.alloc ?_ _) | (with_reducible refine Below.alloc ?_ ?_ _) | (with_reducible apply Blk.set') | (with_reducible apply Blk.far') | (with_reducible refine RowIn.far' ?_ ?_ _) | (with_reducible refine Below.far' ?_ ?_ _) | rfl | omega | go_size))) hc (by omega) (by omega) HPO.out (by exact RowIn.row (lo := 0) (hi := base) (by repeat' (first | (with_reducible assumption) | (with_reducible exact Below.refl _ _) | (with_reducible refine Blk.drewN ?_ _) | (with_reducible refine RowIn.drewN ?_ _) | (with_reducible refine below_drewN ?_ _) | (with_reducible refine Blk.drew ?_) | (with_reducible refine RowIn.drew ?_) | (with_reducible refine Below.drew ?_) | (with_reducible refine Blk.new' ?_ ?_ <;> first | (with_reducible rfl) | (simp; done)) | (with_reducible refine Blk.alloc ?_ _) | (with_reducible refine RowIn.alloc ?_ _) | (with_reducible refine Below.alloc ?_ ?_ _) | (with_reducible apply Blk.set') | (with_reducible apply Blk.far') | (with_reducible refine RowIn.far' ?_ ?_ _) | (with_reducible refine Below.far' ?_ ?_ _) | rfl | omega | go_size))) HRD.out).mono ?_
        rintro e w6 ⟨rfl, b6⟩
        have own6 := own5.below b6 (Nat.le_refl _)
        have fr6 := fr5.trans (Frm.of_below b6 (fun _ => False)) (fun _ _ h => h.elim)
        have s6 := b6.size
        try simp only [World.size_alloc, World.size_setCell, World.size_drew, size_drewN] at s6
        obtain ⟨zs_6, zl_6, ra_6, rt_6, bb_6⟩ : Blk w6 (gs) 64 [.int .i64 (gk : Int), .int .i64 (p0 : Int), .int .i64 (p1 : Int), .int .u64 (q0 : Int), .int .u64 (q1 : Int), .slice A m c, .int .i64 ((bs.length : Nat) : Int)] ∧ Blk w6 (gl) 49 [.slice B' jj dd] ∧ RowIn .u8 w6 (lo) (hi) A m (pack bs) ∧ RowIn .u8 w6 (0) (base) (some ⟨0, 0, none⟩) 64 dbTab ∧ Below wr.heap.size wr w6 := by
          refine ⟨?_, ?_, ?_, ?_, ?_⟩
          all_goals repeat' (first | (with_reducible assumption) | (with_reducible exact Below.refl _ _) | (with_reducible refine Blk.drewN ?_ _) | (with_reducible refine RowIn.drewN ?_ _) | (with_reducible refine below_drewN ?_ _) | (with_reducible refine Blk.drew ?_) | (with_reducible refine RowIn.drew ?_) | (with_reducible refine Below.drew ?_) | (with_reducible refine Blk.new' ?_ ?_ <;> first | (with_reducible rfl) | (simp; done)) | (with_reducible refine Blk.alloc ?_ _) | (with_reducible refine RowIn.alloc ?_ _) | (with_reducible refine Below.alloc ?_ ?_ _) | (with_reducible apply Blk.set') | (with_reducible apply Blk.far') | (with_reducible refine RowIn.far' ?_ ?_ _) | (with_reducible refine Below.far' ?_ ?_ _) | (with_reducible refine Blk.after ?_ b6) | (with_reducible refine RowIn.belowS ?_ b6) | (with_reducible refine Below.after ?_ b6 ?_) | rfl | omega | go_size)
        clear b6
        have ks_6 := zs_6.cell; have fs_6 := zs_6.frozen; have ls_6 := zs_6.lt
        have kl_6 := zl_6.cell; have fl_6 := zl_6.frozen; have ll_6 := zl_6.lt
        have s6w : w.heap.size ≤ w6.heap.size := fr6.size
        go_wp2_with (at_builtin; refine wpList_app _ u32E rfl _ _ rfl base _ _ _ _ rfl (by exact (own6.alloc _).alloc _) _ _ _ [(v : Int)] rfl (by exact row_one' (by simp)) (by omega) (by simp; omega) ?_)
        intro B2 d2 w8 own8 hg8 hat8
        have zs_8 : Blk w8 gs 64 [.int .i64 (gk : Int), .int .i64 (p0 : Int), .int .i64 (p1 : Int), .int .u64 (q0 : Int), .int .u64 (q1 : Int), .slice A m c, .int .i64 ((bs.length : Nat) : Int)] := by
          refine Blk.grown ?_ hg8 (fun e => (own6.ne_blk zs_6 (by decide)) e.symm)
          repeat' (first | (with_reducible assumption) | (with_reducible exact Below.refl _ _) | (with_reducible refine Blk.drewN ?_ _) | (with_reducible refine RowIn.drewN ?_ _) | (with_reducible refine below_drewN ?_ _) | (with_reducible refine Blk.drew ?_) | (with_reducible refine RowIn.drew ?_) | (with_reducible refine Below.drew ?_) | (with_reducible refine Blk.new' ?_ ?_ <;> first | (with_reducible rfl) | (simp; done)) | (with_reducible refine Blk.alloc ?_ _) | (with_reducible refine RowIn.alloc ?_ _) | (with_reducible refine Below.alloc ?_ ?_ _) | (with_reducible apply Blk.set') | (with_reducible apply Blk.far') | (with_reducible refine RowIn.far' ?_ ?_ _) | (with_reducible refine Below.far' ?_ ?_ _) | rfl | omega | go_size)
        have zl_8 : Blk w8 gl 49 [.slice B' jj dd] := by
          refine Blk.grown ?_ hg8 (fun e => (own6.ne_blk zl_6 (by decide)) e.symm)
          repeat' (first | (with_reducible assumption) | (with_reducible exact Below.refl _ _) | (with_reducible refine Blk.drewN ?_ _) | (with_reducible refine RowIn.drewN ?_ _) | (with_reducible refine below_drewN ?_ _) | (with_reducible refine Blk.drew ?_) | (with_reducible refine RowIn.drew ?_) | (with_reducible refine Below.drew ?_) | (with_reducible refine Blk.new' ?_ ?_ <;> first | (with_reducible rfl) | (simp; done)) | (with_reducible refine Blk.alloc ?_ _) | (with_reducible refine RowIn.alloc ?_ _) | (with_reducible refine Below.alloc ?_ ?_ _) | (with_reducible apply Blk.set') | (with_reducible apply Blk.far') | (with_reducible refine RowIn.far' ?_ ?_ _) | (with_reducible refine Below.far' ?_ ?_ _) | rfl | omega | go_size)
        have zx_8 : Blk w8 w6.heap.size 62 [.int .i64 (u0 : Int), .int .i64 (u1 : Int), .int .u64 (v0 : Int), .int .u64 (v1 : Int)] := by
          have z0 : Blk ((w6.alloc (.cells #[.int .i64 (u0 : Int), .int .i64 (u1 : Int), .int .u64 (v0 : Int), .int .u64 (v1 : Int)] 62)).alloc (.cells #[.int .u32 (v : Int)] 27)) w6.heap.size 62 [.int .i64 (u0 : Int), .int .i64 (u1 : Int), .int .u64 (v0 : Int), .int .u64 (v1 : Int)] := by repeat' (first | (with_reducible assumption) | (with_reducible exact Below.refl _ _) | (with_reducible refine Blk.drewN ?_ _) | (with_reducible refine RowIn.drewN ?_ _) | (with_reducible refine below_drewN ?_ _) | (with_reducible refine Blk.drew ?_) | (with_reducible refine RowIn.drew ?_) | (with_reducible refine Below.drew ?_) | (with_reducible refine Blk.new' ?_ ?_ <;> first | (with_reducible rfl) | (simp; done)) | (with_reducible refine Blk.alloc ?_ _) | (with_reducible refine RowIn.alloc ?_ _) | (with_reducible refine Below.alloc ?_ ?_ _) | (with_reducible apply Blk.set') | (with_reducible apply Blk.far') | (with_reducible refine RowIn.far' ?_ ?_ _) | (with_reducible refine Below.far' ?_ ?_ _) | rfl | omega | go_size)
          exact Blk.grown z0 hg8 (fun e => (((own6.alloc _).alloc _).ne_blk z0 (by decide)) e.symm)
        have fr8 := ((fr6.alloc (.cells #[.int .i64 (u0 : Int), .int .i64 (u1 : Int), .int .u64 (v0 : Int), .int .u64 (v1 : Int)] 62)).alloc (.cells #[.int .u32 (v : Int)] 27)).grown hg8 (fun k e hk => Or.inr (Or.inr (HB5.out k e hk)))
        have ra_8 : RowIn .u8 w8 lo hi A m (pack bs) := by
          have z0 : RowIn .u8 ((w6.alloc (.cells #[.int .i64 (u0 : Int), .int .i64 (u1 : Int), .int .u64 (v0 : Int), .int .u64 (v1 : Int)] 62)).alloc (.cells #[.int .u32 (v : Int)] 27)) lo hi A m (pack bs) := by repeat' (first | (with_reducible assumption) | (with_reducible exact Below.refl _ _) | (with_reducible refine Blk.drewN ?_ _) | (with_reducible refine RowIn.drewN ?_ _) | (with_reducible refine below_drewN ?_ _) | (with_reducible refine Blk.drew ?_) | (with_reducible refine RowIn.drew ?_) | (with_reducible refine Below.drew ?_) | (with_reducible refine Blk.new' ?_ ?_ <;> first | (with_reducible rfl) | (simp; done)) | (with_reducible refine Blk.alloc ?_ _) | (with_reducible refine RowIn.alloc ?_ _) | (with_reducible refine Below.alloc ?_ ?_ _) | (with_reducible apply Blk.set') | (with_reducible apply Blk.far') | (with_reducible refine RowIn.far' ?_ ?_ _) | (with_reducible refine Below.far' ?_ ?_ _) | rfl | omega | go_size)
          refine z0.keep (fun p h1 h2 h3 => World.cell?_of_block (hg8.block p.block h3 (fun e => ?_)))
          have hb := own6.block p.block e.symm
          have hlt6 : p.block < w6.heap.size := hb.2
          by_cases hold : p.block < w.heap.size
          · have := HLO.out p.block (HB5.out p.block e.symm hold); omega
          · omega
        have HB8 : Hid (∀ i, blockOf B2 = some i → i < w.heap.size → blockOf B = some i) := Lib.hid (fun i h hi => by
          rcases hat8 with h2 | h2
          · exact HB5.out i (by rw [← h2]; exact h) hi
          · rw [h2] at h; have h3 := Option.some.inj h; try simp only [World.size_alloc] at h3
            omega)
        have HZ2 : Hid (zs ++ [(v : Int)] = ys ++ ints (us ++ [v])) := Lib.hid (by rw [ints_next, HZ.out, List.append_assoc])
        have ks_8 := zs_8.cell; have fs_8 := zs_8.frozen; have ls_8 := zs_8.lt; have kl_8 := zl_8.cell; have fl_8 := zl_8.frozen; have ll_8 := zl_8.lt; have kx_8 := zx_8.cell; have fx_8 := zx_8.frozen; have lx_8 := zx_8.lt
        have s8 := fr8.size
        clear hat8 own6 hg8 own5 fr5 fr6 zs_6 zl_6 ra_6 rt_6 bb_6 ks_6 fs_6 ls_6 kl_6 fl_6 ll_6
        go_wp2
        go_region
        all_goals try go_wp2
        all_goals
          have hne8 : blockOf B2 ≠ some gs := own8.ne_blk zs_8 (by decide)
          have hnl8 : blockOf B2 ≠ some gl := own8.ne_blk zl_8 (by decide)
          go_roundg r
          case measure => have := HKR.out; omega
          case rel =>
            have hng : gl ≠ gs := Ne.symm hne
            refine ⟨z, u0, u1, v0, v1, jj + 1, d2, B2, us ++ [v], zs ++ [(v : Int)], rfl, hzl, by simp; omega, by simp; have := HKR.out; omega, by simp; have := HKR.out; omega, HPO2, HG2, HZ2, ?_, ?_, ?_, ?_, ?_, HB8⟩
            · repeat' (first | (with_reducible exact own8) | (with_reducible refine Own.far' ?_ hne8 _) | (with_reducible refine Own.far' ?_ hnl8 _) | (with_reducible refine Own.drew ?_))
            · repeat' (first | (with_reducible assumption) | (with_reducible exact Below.refl _ _) | (with_reducible refine Blk.drewN ?_ _) | (with_reducible refine RowIn.drewN ?_ _) | (with_reducible refine below_drewN ?_ _) | (with_reducible refine Blk.drew ?_) | (with_reducible refine RowIn.drew ?_) | (with_reducible refine Below.drew ?_) | (with_reducible refine Blk.new' ?_ ?_ <;> first | (with_reducible rfl) | (simp; done)) | (with_reducible refine Blk.alloc ?_ _) | (with_reducible refine RowIn.alloc ?_ _) | (with_reducible refine Below.alloc ?_ ?_ _) | (with_reducible apply Blk.set') | (with_reducible apply Blk.far') | (with_reducible refine RowIn.far' ?_ ?_ _) | (with_reducible refine Below.far' ?_ ?_ _) | rfl | omega | go_size)
            · repeat' (first | (with_reducible assumption) | (with_reducible exact Below.refl _ _) | (with_reducible refine Blk.drewN ?_ _) | (with_reducible refine RowIn.drewN ?_ _) | (with_reducible refine below_drewN ?_ _) | (with_reducible refine Blk.drew ?_) | (with_reducible refine RowIn.drew ?_) | (with_reducible refine Below.drew ?_) | (with_reducible refine Blk.new' ?_ ?_ <;> first | (with_reducible rfl) | (simp; done)) | (with_reducible refine Blk.alloc ?_ _) | (with_reducible refine RowIn.alloc ?_ _) | (with_reducible refine Below.alloc ?_ ?_ _) | (with_reducible apply Blk.set') | (with_reducible apply Blk.far') | (with_reducible refine RowIn.far' ?_ ?_ _) | (with_reducible refine Below.far' ?_ ?_ _) | rfl | omega | go_size)
            · repeat' (first | (with_reducible assumption) | (with_reducible exact Below.refl _ _) | (with_reducible refine Blk.drewN ?_ _) | (with_reducible refine RowIn.drewN ?_ _) | (with_reducible refine below_drewN ?_ _) | (with_reducible refine Blk.drew ?_) | (with_reducible refine RowIn.drew ?_) | (with_reducible refine Below.drew ?_) | (with_reducible refine Blk.new' ?_ ?_ <;> first | (with_reducible rfl) | (simp; done)) | (with_reducible refine Blk.alloc ?_ _) | (with_reducible refine RowIn.alloc ?_ _) | (with_reducible refine Below.alloc ?_ ?_ _) | (with_reducible apply Blk.set') | (with_reducible apply Blk.far') | (with_reducible refine RowIn.far' ?_ ?_ _) | (with_reducible refine Below.far' ?_ ?_ _) | rfl | omega | go_size)
            · repeat' (first | (with_reducible exact fr8) | (with_reducible refine Frm.drew ?_) | (with_reducible refine Frm.setCell (p := ⟨gs, _, none⟩) ?_ (fun _ => Or.inl rfl) _) | (with_reducible refine Frm.setCell (p := ⟨gl, _, none⟩) ?_ (fun _ => Or.inr (Or.inl rfl)) _))
    · obtain rfl : gk = 0 := by omega
      go_wp2_with fail
      have lsp : gs < wr.heap.size := ls_5
      have spw : w.heap.size ≤ wr.heap.size := fr5.size
      refine (bcut_ok A m c bs (a : Nat) (bs.length : Nat) _ (by exact RowIn.row (lo := lo) (hi := hi) (by repeat' (first | (with_reducible assumption) | (with_reducible exact Below.refl _ _) | (with_reducible refine Blk.drewN ?_ _) | (with_reducible refine RowIn.drewN ?_ _) | (with_reducible refine below_drewN ?_ _) | (with_reducible refine Blk.drew ?_) | (with_reducible refine RowIn.drew ?_) | (with_reducible refine Below.drew ?_) | (with_reducible refine Blk.new' ?_ ?_ <;> first | (with_reducible rfl) | (simp; done)) | (with_reducible refine Blk.alloc ?_ _) | (with_reducible refine RowIn.alloc ?_ _) | (with_reducible refine Below.alloc ?_ ?_ _) | (with_reducible apply Blk.set') | (with_reducible apply Blk.far') | (with_reducible refine RowIn.far' ?_ ?_ _) | (with_reducible refine Below.far' ?_ ?_ _) | rfl | omega | go_size))) hc (by omega) (by omega) (by omega) (by omega)).mono ?_
      rintro e w6 ⟨Ap, mp, cp, xp, rfl, hcp, rp, HXp, b6⟩
      have Lp : xp.length ≤ bs.length - a ∧ bs.length - a ≤ xp.length := by rw [HXp.out]; rw [List.length_take, List.length_drop]; omega
      obtain ⟨Lp1, Lp2⟩ := Lp
      replace rp := rp.mono (lo' := wr.heap.size + 0) (by go_size) (Nat.le_refl _)
      have s6 := b6.size
      try simp only [World.size_alloc, World.size_setCell, World.size_drew, size_drewN] at s6
      obtain ⟨zs_6, zl_6, ra_6, rt_6, rp_6, bb_6⟩ : Blk w6 (gs) 64 [.int .i64 (0 : Int), .int .i64 (p0 : Int), .int .i64 (p1 : Int), .int .u64 (q0 : Int), .int .u64 (q1 : Int), .slice A m c, .int .i64 ((bs.length : Nat) : Int)] ∧ Blk w6 (gl) 49 [.slice B' jj dd] ∧ RowIn .u8 w6 (lo) (hi) A m (pack bs) ∧ RowIn .u8 w6 (0) (base) (some ⟨0, 0, none⟩) 64 dbTab ∧ RowIn .u8 w6 (wr.heap.size + 0) (w6.heap.size) Ap mp (pack xp) ∧ Below wr.heap.size wr w6 := by
        refine ⟨?_, ?_, ?_, ?_, ?_, ?_⟩
        all_goals repeat' (first | (with_reducible assumption) | (with_reducible exact Below.refl _ _) | (with_reducible refine Blk.drewN ?_ _) | (with_reducible refine RowIn.drewN ?_ _) | (with_reducible refine below_drewN ?_ _) | (with_reducible refine Blk.drew ?_) | (with_reducible refine RowIn.drew ?_) | (with_reducible refine Below.drew ?_) | (with_reducible refine Blk.new' ?_ ?_ <;> first | (with_reducible rfl) | (simp; done)) | (with_reducible refine Blk.alloc ?_ _) | (with_reducible refine RowIn.alloc ?_ _) | (with_reducible refine Below.alloc ?_ ?_ _) | (with_reducible apply Blk.set') | (with_reducible apply Blk.far') | (with_reducible refine RowIn.far' ?_ ?_ _) | (with_reducible refine Below.far' ?_ ?_ _) | (with_reducible refine Blk.after ?_ b6) | (with_reducible refine RowIn.belowS ?_ b6) | (with_reducible refine Below.after ?_ b6 ?_) | rfl | omega | go_size)
      have ks_6 := zs_6.cell; have fs_6 := zs_6.frozen; have ls_6 := zs_6.lt
      have kl_6 := zl_6.cell; have fl_6 := zl_6.frozen; have ll_6 := zl_6.lt
      clear rp
      have HPD : Hid (xp = bs.drop a) := Lib.hid (by rw [HXp.out]; simp only [Int.toNat_natCast]; rw [List.take_of_length_le (by rw [List.length_drop]; omega)])
      clear HXp
      have own7 := own5.below b6 (Nat.le_refl _)
      have fr7 := fr5.trans (Frm.of_below b6 (fun _ => False)) (fun _ _ h => h.elim)
      have hne7 : blockOf B' ≠ some gs := own7.ne_blk zs_6 (by decide)
      have hnl7 : blockOf B' ≠ some gl := own7.ne_blk zl_6 (by decide)
      by_cases h8 : 8 ≤ bs.length - a
      · have hg := feed_more HGG.out h8
        have e2 : decide (8 ≤ ((xp.length : Nat) : Int)) = true := decide_eq_true (by omega)
        go_wp2
        go_ret
        refine ⟨?_, ?_⟩
        · exact (fr7.setCell (p := ⟨gs, _, none⟩) (fun _ => Or.inl rfl) _).setCell (p := ⟨gs, _, none⟩) (fun _ => Or.inl rfl) _
        · rw [hg]; rfl
      · have hg := feed_done HGG.out (by omega)
        have e2 : decide (8 ≤ ((xp.length : Nat) : Int)) = false := decide_eq_false (by omega)
        go_wp2
        go_ret
        refine ⟨?_, ?_⟩
        · exact (fr7.setCell (p := ⟨gs, _, none⟩) (fun _ => Or.inl rfl) _).setCell (p := ⟨gs, _, none⟩) (fun _ => Or.inl rfl) _
        · rw [hg]
          refine ⟨p0, p1, q0, q1, mp, cp, jj, dd, Ap, B', xp, zs, rfl, Lib.hid rfl, ?_, hcp, HPD, ?_, ?_, ?_, HZ, HB5.out⟩
          · exact Blk.set' (l0 := [.int .i64 (0 : Int), .int .i64 (p0 : Int), .int .i64 (p1 : Int), .int .u64 (q0 : Int), .int .u64 (q1 : Int), .slice Ap mp cp, .int .i64 ((bs.length : Nat) : Int)]) (Blk.set' zs_6 rfl) rfl
          · exact RowIn.mono (lo := wr.heap.size + 0) (hi := w6.heap.size) ((rp_6.far' (Or.inl (by omega)) _).far' (Or.inl (by omega)) _) (by omega) (by simp [World.setCell])
          · exact (Blk.far' (Blk.far' zl_6 (Ne.symm hne) _) (Ne.symm hne) _)
          · exact (own7.far' hne7 _).far' hne7 _


end Go.Proofs.YtpohaikbbfochaaDoor
