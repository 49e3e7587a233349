/-
  Contract of the reference of chapter 9: Same.
-/
import Derived.Test.YtpohaikbbfochaaPre
import Derived.Test.YtpohaikbbfochaaMerge
import Derived.Test.YtpohaikbbfochaaBitX
import Derived.Test.YtpohaikbbfochaaBitA
namespace Go.Proofs.Ytpohaikbbfochaa
open Go.RowKit Cad Cad.Bit Cad.Code
set_option linter.unusedVariables false
set_option linter.unusedSimpArgs false


theorem take_next {xs : List Int} {j : Nat} (h : j < xs.length) : xs.take (j + 1) = xs.take j ++ [nth xs j] := by
  rw [List.take_succ_eq_append_getElem h, ← nth_eq]
set_option maxHeartbeats 1000000 in
theorem r9same_any (A B : Option Addr) (n c m d : Nat) (xs ys : List Int) (w : World) (ha : Row .u32 w A n xs) (hb : Row .u32 w B m ys) (hn : n ≤ 900000) (hm : m ≤ 900000) :
    Calls Try.prog 17 #[.slice A n c, .slice B m d] w fun e w' => e = .returned (.bool (decide (xs = ys))) ∧ Below w.heap.size w w' := by
  have HX := Lib.hid ha.len
  have HY := Lib.hid hb.len
  by_cases h : n = m
  · subst h
    have hne : ((n : Int) != (n : Int)) = false := by simp
    go_enter Try.func17, Try.ntmps17
    go_wp2_with fail
    
    go_loopg [5] n (fun r i wr => ∃ j : Nat, j + r = n ∧ i = .int .i64 (j : Int) ∧ Hid (xs.take j = ys.take j) ∧ Below w.heap.size w wr)
    case atStart => exact ⟨0, by omega, rfl, Lib.hid rfl, Below.refl _ _⟩
    case round =>
      obtain ⟨j, hj, rfl, HJ, bb⟩ := hrel
      have sb := bb.size
      by_cases hlt : j < n
      · have hlt' : (j : Int) < (n : Int) := by omega
        obtain ⟨b1, o1, rfl, hbk1, hc1⟩ := ha.at (by omega)
        obtain ⟨b2, o2, rfl, hbk2, hc2⟩ := hb.at (by omega)
        obtain ⟨x, HXX⟩ : ∃ x, Hid (x = nth xs j) := ⟨_, Lib.hid rfl⟩
        obtain ⟨y, HYY⟩ : ∃ y, Hid (y = nth ys j) := ⟨_, Lib.hid rfl⟩
        have c1 : wr.cell? ⟨b1, o1 + j, none⟩ = some (.int .u32 x) := (bb.cell (p := ⟨b1, o1 + j, none⟩) hbk1).trans ((hc1 j hlt).trans (by rw [HXX.out]))
        have c2 : wr.cell? ⟨b2, o2 + j, none⟩ = some (.int .u32 y) := (bb.cell (p := ⟨b2, o2 + j, none⟩) hbk2).trans ((hc2 j hlt).trans (by rw [HYY.out]))
        clear hc1 hc2
        by_cases he : x = y
        · subst he
          have hxx : (x != x) = false := by simp
          go_wp2_with fail
          go_region
          all_goals try go_wp2
          all_goals
            go_roundg (n - (j + 1))
            case measure => omega
            case rel => exact ⟨j + 1, by omega, by go_num, Lib.hid (by rw [take_next (by rw [HX.out]; exact hlt), take_next (by rw [HY.out]; exact hlt), HJ.out, ← HXX.out, ← HYY.out]), by repeat' (first | (with_reducible assumption) | (with_reducible exact Below.refl _ _) | (with_reducible refine Blk.drewN ?_ _) | (with_reducible refine RowIn.drewN ?_ _) | (with_reducible refine below_drewN ?_ _) | (with_reducible refine Blk.drew ?_) | (with_reducible refine RowIn.drew ?_) | (with_reducible refine Below.drew ?_) | (with_reducible refine Blk.new' ?_ ?_ <;> first | (with_reducible rfl) | (simp; done)) | (with_reducible refine Blk.alloc ?_ _) | (with_reducible refine RowIn.alloc ?_ _) | (with_reducible refine Below.alloc ?_ ?_ _) | (with_reducible apply Blk.set') | (with_reducible apply Blk.far') | (with_reducible refine RowIn.far' ?_ ?_ _) | (with_reducible refine Below.far' ?_ ?_ _) | rfl | omega | go_size)⟩
        · have hxx : (x != y) = true := by simpa using he
          have HE : Hid (decide (xs = ys) = false) := by
            refine Lib.hid (decide_eq_false fun e => he ?_)
            rw [HXX.out, HYY.out, e]
          go_wp2_with fail
          go_region
          all_goals
            go_wp2
            go_ret
            exact ⟨ret_bool HE.out.symm, by repeat' (first | (with_reducible assumption) | (with_reducible exact Below.refl _ _) | (with_reducible refine Blk.drewN ?_ _) | (with_reducible refine RowIn.drewN ?_ _) | (with_reducible refine below_drewN ?_ _) | (with_reducible refine Blk.drew ?_) | (with_reducible refine RowIn.drew ?_) | (with_reducible refine Below.drew ?_) | (with_reducible refine Blk.new' ?_ ?_ <;> first | (with_reducible rfl) | (simp; done)) | (with_reducible refine Blk.alloc ?_ _) | (with_reducible refine RowIn.alloc ?_ _) | (with_reducible refine Below.alloc ?_ ?_ _) | (with_reducible apply Blk.set') | (with_reducible apply Blk.far') | (with_reducible refine RowIn.far' ?_ ?_ _) | (with_reducible refine Below.far' ?_ ?_ _) | rfl | omega | go_size)⟩
      · obtain rfl : j = n := by omega
        have HE : Hid (decide (xs = ys) = true) := by
          have h := HJ.out
          rw [List.take_of_length_le (by rw [HX.out]; exact Nat.le_refl _), List.take_of_length_le (by rw [HY.out]; exact Nat.le_refl _)] at h
          exact Lib.hid (decide_eq_true h)
        go_wp2
        go_ret
        exact ⟨ret_bool HE.out.symm, by repeat' (first | (with_reducible assumption) | (with_reducible exact Below.refl _ _) | (with_reducible refine Blk.drewN ?_ _) | (with_reducible refine RowIn.drewN ?_ _) | (with_reducible refine below_drewN ?_ _) | (with_reducible refine Blk.drew ?_) | (with_reducible refine RowIn.drew ?_) | (with_reducible refine Below.drew ?_) | (with_reducible refine Blk.new' ?_ ?_ <;> first | (with_reducible rfl) | (simp; done)) | (with_reducible refine Blk.alloc ?_ _) | (with_reducible refine RowIn.alloc ?_ _) | (with_reducible refine Below.alloc ?_ ?_ _) | (with_reducible apply Blk.set') | (with_reducible apply Blk.far') | (with_reducible refine RowIn.far' ?_ ?_ _) | (with_reducible refine Below.far' ?_ ?_ _) | rfl | omega | go_size)⟩
  · have hne : ((n : Int) != (m : Int)) = true := by simp; omega
    have HE : Hid (decide (xs = ys) = false) := by
      refine Lib.hid (decide_eq_false fun e => h ?_)
      rw [← HX.out, ← HY.out, e]
    go_enter Try.func17, Try.ntmps17
    go_wp2
    go_ret
    exact ⟨ret_bool HE.out.symm, by repeat' (first | (with_reducible assumption) | (with_reducible exact Below.refl _ _) | (with_reducible refine Blk.drewN ?_ _) | (with_reducible refine RowIn.drewN ?_ _) | (with_reducible refine below_drewN ?_ _) | (with_reducible refine Blk.drew ?_) | (with_reducible refine RowIn.drew ?_) | (with_reducible refine Below.drew ?_) | (with_reducible refine Blk.new' ?_ ?_ <;> first | (with_reducible rfl) | (simp; done)) | (with_reducible refine Blk.alloc ?_ _) | (with_reducible refine RowIn.alloc ?_ _) | (with_reducible refine Below.alloc ?_ ?_ _) | (with_reducible apply Blk.set') | (with_reducible apply Blk.far') | (with_reducible refine RowIn.far' ?_ ?_ _) | (with_reducible refine Below.far' ?_ ?_ _) | rfl | omega | go_size)⟩
theorem r9same_eq (A B : Option Addr) (n c m d : Nat) (xs ys : List Int) (w : World) (ha : Row .u32 w A n xs) (hb : Row .u32 w B m ys) (hn : n ≤ 900000) (he : xs = ys) :
    Calls Try.prog 17 #[.slice A n c, .slice B m d] w fun e w' => e = .returned (.bool true) ∧ Below w.heap.size w w' :=
  (r9same_any A B n c m d xs ys w ha hb hn (by rw [← hb.len, ← he, ha.len]; exact hn)).mono fun e w' h => ⟨by rw [h.1, decide_eq_true he], h.2⟩
theorem r9great_yes (A : Option Addr) (n c : Nat) (w : World) (h : 150 < n ∧ n ≤ 4000 ∨ 4010 < n) :
    Calls Try.prog 9 #[.slice A n c] w fun e w' => e = .returned (.bool true) ∧ Below w.heap.size w w' := by
  rcases h with ⟨h1, h2⟩ | h
  · have t1 : decide ((150 : Int) < (n : Int)) = true := decide_eq_true (by omega)
    have t2 : decide ((n : Int) ≤ 4000) = true := decide_eq_true (by omega)
    go_enter Try.func9, Try.ntmps9
    go_wp2
    go_ret
    exact ⟨rfl, by go_grown⟩
  · have t1 : decide ((150 : Int) < (n : Int)) = true := decide_eq_true (by omega)
    have t2 : decide ((n : Int) ≤ 4000) = false := decide_eq_false (by omega)
    have t3 : decide ((4010 : Int) < (n : Int)) = true := decide_eq_true (by omega)
    go_enter Try.func9, Try.ntmps9
    go_wp2
    go_ret
    exact ⟨rfl, by go_grown⟩
theorem r9great_no (A : Option Addr) (n c : Nat) (w : World) (h : ¬ (150 < n ∧ n ≤ 4000 ∨ 4010 < n)) :
    Calls Try.prog 9 #[.slice A n c] w fun e w' => e = .returned (.bool false) ∧ Below w.heap.size w w' := by
  have t3 : decide ((4010 : Int) < (n : Int)) = false := decide_eq_false (by omega)
  by_cases h1 : 150 < n
  · have t1 : decide ((150 : Int) < (n : Int)) = true := decide_eq_true (by omega)
    have t2 : decide ((n : Int) ≤ 4000) = false := decide_eq_false (by omega)
    go_enter Try.func9, Try.ntmps9
    go_wp2
    go_ret
    exact ⟨rfl, by go_grown⟩
  · have t1 : decide ((150 : Int) < (n : Int)) = false := decide_eq_false (by omega)
    go_enter Try.func9, Try.ntmps9
    go_wp2
    go_ret
    exact ⟨rfl, by go_grown⟩


end Go.Proofs.Ytpohaikbbfochaa
