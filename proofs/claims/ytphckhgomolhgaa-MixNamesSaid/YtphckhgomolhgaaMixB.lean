/-
  Contracts of mixing and unmixing in place, and of the reference's mixing and unmixing.
-/
import Derived.Test.YtphckhgomolhgaaMixA
import Derived.Test.YtphckhgomolhgaaMixP
namespace Go.Proofs.Ytphckhgomolhgaa
open Go.RowKit Cad Cad.Mix
set_option linter.unusedVariables false

set_option maxHeartbeats 400000 in
theorem mix_any (g m c : Nat) (t : TypeId) (pre post : List Value) (xs : List Int) (w : World) (hx : xs.length = m + 1) (hm : m ≤ 100000) (hp : pre.length ≤ 1000000) (hx32 : I32 xs)
    (hk : Blk w g t (pre ++ xs.map (Value.int .i32) ++ post)) :
    Calls Try.prog 25 #[.slice (some ⟨g, pre.length, none⟩) (m + 1) c] w fun e w' => e = .returned (.tuple #[]) ∧ Blk w' g t (pre ++ (mixL xs).map (Value.int .i32) ++ post) ∧ w.grownBy w' (some g) := by
  have HX := Lib.hid hx; clear hx
  go_enter Try.func25, Try.ntmps25
  go_wp2_with fail
  go_loopg [8] m (fun k i wr => ∃ j : Nat, j + k = m ∧ i = .int .i64 j ∧ Blk wr g t (pre ++ (mixTo xs j).map (Value.int .i32) ++ post) ∧ w.grownBy wr (some g))
  case atStart => exact ⟨0, by omega, rfl, by rw [mixTo_zero]; exact hk, only_refl _ _⟩
  case round =>
    obtain ⟨j, hj, rfl, hb, hg⟩ := hrel
    by_cases hlt : j < m
    · have c1 : wr.cell? ⟨g, pre.length + j, none⟩ = some (.int .i32 (nth xs j)) := by
        rw [hb.cell, mid_get (by have := HX.out; simp; omega), nth_mixTo (by have := HX.out; omega), if_neg (by omega)]
      have c2 : wr.cell? ⟨g, pre.length + (j + 1), none⟩ = some (.int .i32 (nth xs (j + 1))) := by
        rw [hb.cell, mid_get (by have := HX.out; simp; omega), nth_mixTo (by have := HX.out; omega), if_neg (by omega)]
      have c3 := hb.frozen (pre.length + j)
      have HB := Lib.hid hb
      clear hb
      go_wp2_with fail
      go_region
      go_wp2
      go_roundg (m - (j + 1))
      case measure => omega
      case rel => exact ⟨j + 1, by omega, by go_num, by
        have h := HB.out.set (pre.length + j) (.int .i32 (wrap32 (nth xs (j + 1) - nth xs j)))
        rw [mid_set (by have := HX.out; simp; omega), mixTo_succ (by have := HX.out; omega)] at h
        exact h, only_drew (only_set hg _ _)⟩
    · obtain rfl : j = m := by omega
      by_cases h1 : 0 < j
      · have c1 : wr.cell? ⟨g, pre.length + j, none⟩ = some (.int .i32 (nth xs j)) := by
          rw [hb.cell, mid_get (by have := HX.out; simp; omega), nth_mixTo (by have := HX.out; omega), if_neg (by omega)]
        have c2 : wr.cell? ⟨g, pre.length + (j - 1), none⟩ = some (.int .i32 (d32 xs (j - 1))) := by
          rw [hb.cell, mid_get (by have := HX.out; simp; omega), nth_mixTo (by have := HX.out; omega), if_pos (by omega)]
        have c3 := hb.frozen (pre.length + j)
        have HB := Lib.hid hb
        clear hb
        go_wp2_with fail
        go_region
        go_wp2
        go_end0
        refine ⟨rfl, ?_, only_drew (only_set hg _ _)⟩
        rw [d32_half]
        have h := HB.out.set (pre.length + j) (.int .i32 (wrap32 (nth xs j - (d32 xs (j - 1)).tdiv 2)))
        rw [mid_set (by have := HX.out; simp; omega), mixTo_end HX.out h1] at h
        exact h
      · obtain rfl : j = 0 := by omega
        go_wp2
        go_end0
        refine ⟨rfl, ?_, hg⟩
        rw [mixL_one HX.out, ← mixTo_zero xs]
        exact hb

set_option maxHeartbeats 400000 in
theorem unmix_any (g m c : Nat) (t : TypeId) (pre post : List Value) (xs : List Int) (w : World) (hx : xs.length = m + 1) (hm : m ≤ 100000) (hp : pre.length ≤ 1000000) (hx32 : I32 xs)
    (hk : Blk w g t (pre ++ xs.map (Value.int .i32) ++ post)) :
    Calls Try.prog 27 #[.slice (some ⟨g, pre.length, none⟩) (m + 1) c] w fun e w' => e = .returned (.tuple #[]) ∧ Blk w' g t (pre ++ (unL xs).map (Value.int .i32) ++ post) ∧ w.grownBy w' (some g) := by
  have HX := Lib.hid hx; clear hx
  by_cases h1 : 0 < m
  · have c1 : w.cell? ⟨g, pre.length + m, none⟩ = some (.int .i32 (nth xs m)) := by
      rw [hk.cell, mid_get (by have := HX.out; omega)]
    have c2 : w.cell? ⟨g, pre.length + (m - 1), none⟩ = some (.int .i32 (nth xs (m - 1))) := by
      rw [hk.cell, mid_get (by have := HX.out; omega)]
    have c3 := hk.frozen (pre.length + m)
    have HB := Lib.hid hk
    clear hk
    go_enter Try.func27, Try.ntmps27
    go_wp2_with fail
    go_region
    go_wp2_with fail
    rw [wrap32_half (hx32.nth (by decide) (by decide) (m - 1))]
    have hk1 : Blk ((w.setCell ⟨g, pre.length + m, none⟩ (.int .i32 (wrap32 (nth xs m + (nth xs (m - 1)).tdiv 2)))).drew) g t (pre ++ (unTo xs m).map (Value.int .i32) ++ post) := by
      have h := HB.out.set (pre.length + m) (.int .i32 (wrap32 (nth xs m + (nth xs (m - 1)).tdiv 2)))
      rw [mid_set (by have := HX.out; omega), unTo_top HX.out h1] at h
      exact h
    have hg1 : w.grownBy ((w.setCell ⟨g, pre.length + m, none⟩ (.int .i32 (wrap32 (nth xs m + (nth xs (m - 1)).tdiv 2)))).drew) (some g) := only_drew (only_set (only_refl _ _) _ _)
    clear c1 c2 c3
    revert hk1 hg1
    generalize (w.setCell ⟨g, pre.length + m, none⟩ (.int .i32 (wrap32 (nth xs m + (nth xs (m - 1)).tdiv 2)))).drew = w1
    intro hk1 hg1
    go_loopg [3] m (fun k i wr => ∃ r : Nat, k = r ∧ r ≤ m ∧ i = .int .i64 ((r : Int) - 1) ∧ Blk wr g t (pre ++ (unTo xs r).map (Value.int .i32) ++ post) ∧ w.grownBy wr (some g))
    case atStart => exact ⟨m, rfl, Nat.le_refl _, rfl, hk1, hg1⟩
    case round =>
      obtain ⟨r, rfl, hr, rfl, hb, hg⟩ := hrel
      clear hk1 hg1
      cases gk with
      | zero =>
        go_wp2
        go_end0
        refine ⟨rfl, ?_, hg⟩
        rw [← unTo_zero]
        exact hb
      | succ s =>
        have hs : ((s + 1 : Nat) : Int) - 1 = (s : Int) := by omega
        rw [hs]
        have c1 : wr.cell? ⟨g, pre.length + s, none⟩ = some (.int .i32 (nth xs s)) := by
          rw [hb.cell, mid_get (by have := HX.out; simp; omega), nth_unTo (by have := HX.out; omega), if_neg (by omega)]
        have c2 : wr.cell? ⟨g, pre.length + (s + 1), none⟩ = some (.int .i32 (un xs (xs.length - 1 - (s + 1)))) := by
          rw [hb.cell, mid_get (by have := HX.out; simp; omega), nth_unTo (by have := HX.out; omega), if_pos (by omega)]
        have c3 := hb.frozen (pre.length + s)
        have HB := Lib.hid hb
        clear hb hs
        go_wp2_with fail
        go_region
        go_wp2
        go_roundg s
        case measure => omega
        case rel => exact ⟨s, rfl, by omega, rfl, by
          have h := HB.out.set (pre.length + s) (.int .i32 (wrap32 (un xs (xs.length - 1 - (s + 1)) - nth xs s)))
          rw [mid_set (by have := HX.out; simp; omega), unTo_succ (by have := HX.out; omega)] at h
          exact h, only_drew (only_set hg _ _)⟩
  · obtain rfl : m = 0 := by omega
    go_enter Try.func27, Try.ntmps27
    go_wp2_with fail
    refine wp_loop_rounds 1 ?_
    rw [rounds_succ]
    go_wp2
    go_end0
    refine ⟨rfl, ?_, only_refl _ _⟩
    rw [← unTo_zero, unTo_one HX.out]
    exact hk
end Go.Proofs.Ytphckhgomolhgaa
