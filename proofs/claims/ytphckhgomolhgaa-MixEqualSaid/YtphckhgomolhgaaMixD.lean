/-
  Contract of the reference's unmixing of one moment.
-/
import Derived.Test.YtphckhgomolhgaaMixA
import Derived.Test.YtphckhgomolhgaaMixP
namespace Go.Proofs.Ytphckhgomolhgaa
open Go.RowKit Cad Cad.Mix
set_option linter.unusedVariables false

set_option maxHeartbeats 400000 in
theorem unmixed_any (A : Option Addr) (m c : Nat) (xs : List Int) (w : World) (ha : Row .i32 w A (m + 1) xs) (hn : m ≤ 4100) (hx32 : I32 xs) :
    Calls Try.prog 28 #[.slice A (m + 1) c] w fun e w' => ∃ B d, e = .returned (.slice B (m + 1) d) ∧ Own w' w.heap.size 21 .i32 B (m + 1) d (unL xs) ∧ Below w.heap.size w w' := by
  have HX := Lib.hid ha.len
  obtain ⟨b, o, rfl, hb, hc⟩ := ha.at (by omega)
  have HC := Lib.hid hc
  have c1 := hc m (by omega)
  have b1 := hx32.nth (by decide) (by decide) m
  clear hc ha
  have hmk : ∀ W : World, (Instr.makeSlice 22 (.int .i64 ((m : Int) + 1)) (.int .i64 ((m : Int) + 1))).run Try.prog W = .ok (.slice (some ⟨W.heap.size, 0, none⟩) (m + 1) (m + 1)) (W.alloc (.cells (zeroRow .i32 (m + 1)) 21)) := fun W => run_mk i32E (m + 1) (by omega) .i64 .i64 W
  have hz : (zeroRow .i32 (m + 1))[m]? = some (.int .i32 0) := by
    show (((zeros (m + 1)).map (Value.int .i32)).toArray)[m]? = _
    rw [List.getElem?_toArray, getElem?_map_nth (by simp [zeros_len]), nth_zeros]
  by_cases h1 : 0 < m
  · have c2 := HC.out (m - 1) (by omega)
    have b2 := hx32.nth (by decide) (by decide) (m - 1)
    go_enter Try.func28, Try.ntmps28
    go_wp2_with fail
    have hk1 : Blk (w.alloc (.cells ((zeroRow .i32 (m + 1)).setIfInBounds m (.int .i32 (nth xs m))) 21)) w.heap.size 21 (((zeros (m + 1)).set m (nth xs m)).map (Value.int .i32)) := by
      have h := Blk.new w 21 (((zeros (m + 1)).map (Value.int .i32)).set m (.int .i32 (nth xs m)))
      rw [List.map_set]
      unfold zeroRow
      rw [List.setIfInBounds_toArray]
      exact h
    have hb1 : Below w.heap.size w (w.alloc (.cells ((zeroRow .i32 (m + 1)).setIfInBounds m (.int .i32 (nth xs m))) 21)) := (Below.refl _ _).alloc (Nat.le_refl _) _
    have hs1 : w.heap.size < (w.alloc (.cells ((zeroRow .i32 (m + 1)).setIfInBounds m (.int .i32 (nth xs m))) 21)).heap.size := by simp
    revert hk1 hb1 hs1
    generalize (w.alloc (.cells ((zeroRow .i32 (m + 1)).setIfInBounds m (.int .i32 (nth xs m))) 21)) = w1
    intro hk1 hb1 hs1
    have d1 : w1.cell? ⟨b, o + m, none⟩ = some (.int .i32 (nth xs m)) := (hb1.cell (p := ⟨b, o + m, none⟩) hb).trans c1
    have d2 : w1.cell? ⟨b, o + (m - 1), none⟩ = some (.int .i32 (nth xs (m - 1))) := (hb1.cell (p := ⟨b, o + (m - 1), none⟩) hb).trans c2
    have d3 : w1.cell? ⟨w.heap.size, m, none⟩ = some (.int .i32 (nth xs m)) := by
      rw [hk1.cell, getElem?_map_nth (by simp [zeros_len]), nth_set (by simp [zeros_len]), if_pos rfl]
    have d4 := hk1.frozen m
    clear hmk hz c1 c2
    have t1 : (1 : Int) ≤ (m : Int) := by omega
    have t2 : (m : Int) - 1 < (m : Int) + 1 := by omega
    have t3 : (m : Int) < (m : Int) + 1 := by omega
    have t5 := wrap32_half b2
    have t6 := wrap32_bd ((nth xs (m - 1)).tdiv 2)
    rw [t5] at t6
    have s1 : IntKind.i64.wrap (m : Int) = (m : Int) := IntWalk.i64_in _ (by omega)
    have s2 : IntKind.i64.wrap ((m : Int) + 1 - 2) = (m : Int) - 1 := by rw [IntWalk.i64_in _ (by omega)]; omega
    have s3 : ((m : Int) - 1).toNat = m - 1 := by omega
    have s5 : IntKind.i64.wrap (nth xs m) = nth xs m := IntWalk.i64_in _ (by omega)
    have s6 : IntKind.i64.wrap (nth xs (m - 1)) = nth xs (m - 1) := IntWalk.i64_in _ (by omega)
    have s7 : IntKind.i64.wrap ((nth xs (m - 1)).tdiv 2) = (nth xs (m - 1)).tdiv 2 := IntWalk.i64_in _ (by omega)
    have s8 : IntKind.i64.wrap (nth xs m + (nth xs (m - 1)).tdiv 2) = nth xs m + (nth xs (m - 1)).tdiv 2 := IntWalk.i64_in _ (by omega)
    clear t5
    go_region_law (go_simp; go_at_call 29; refine (wrap_any _ _).mono ?_; rintro e w' ⟨rfl, rfl⟩)
    all_goals
      clear s1 s2 s3 s5 s6 s7 s8 d1 d2 d3 d4
      have hk2 := hk1.set m (.int .i32 (topu xs))
      rw [← List.map_set, outTo_top HX.out] at hk2
      rw [topu_eq HX.out h1] at hk2
      go_wp2_with fail
      go_loopg [5] m (fun k i wr => ∃ r : Nat, k = r ∧ r ≤ m ∧ i = .int .i64 ((r : Int) - 1) ∧ Blk wr w.heap.size 21 ((outTo xs r).map (Value.int .i32)) ∧ Below w.heap.size w wr)
      case atStart => exact ⟨m, rfl, Nat.le_refl _, by first | rfl | go_num | (congr 1; omega), hk2, (hb1.setCell (p := ⟨w.heap.size, m, none⟩) (Nat.le_refl _) _).drew⟩
      case round =>
        obtain ⟨r, rfl, hr, rfl, hkr, hbr⟩ := hrel
        clear hk1 hb1 hs1 hk2
        cases gk with
        | zero =>
          go_wp2
          go_ret
          refine ⟨some ⟨w.heap.size, 0, none⟩, m + 1, rfl, ?_, hbr⟩
          rw [outTo_zero] at hkr
          exact Own.mk (rest := []) (Nat.le_refl _) (by simp; exact HX.out) (by simp) (by simp only [maxLen]; omega) (by rw [List.append_nil]; exact hkr)
        | succ s =>
          have hs : ((s + 1 : Nat) : Int) - 1 = (s : Int) := by omega
          rw [hs]
          clear hs
          have b3 := hx32.nth (by decide) (by decide) s
          have b4 := un_bd hx32 (xs.length - 1 - (s + 1))
          have e1 : wr.cell? ⟨w.heap.size, s, none⟩ = some (.int .i32 0) := by
            rw [hkr.cell, getElem?_map_nth (by have := HX.out; simp; omega), nth_outTo (by have := HX.out; omega), if_neg (by omega)]
          have e2 : wr.cell? ⟨w.heap.size, s + 1, none⟩ = some (.int .i32 (un xs (xs.length - 1 - (s + 1)))) := by
            rw [hkr.cell, getElem?_map_nth (by have := HX.out; simp; omega), nth_outTo (by have := HX.out; omega), if_pos (by omega)]
          have e3 : wr.cell? ⟨b, o + s, none⟩ = some (.int .i32 (nth xs s)) := (hbr.cell (p := ⟨b, o + s, none⟩) hb).trans (HC.out s (by omega))
          have e4 := hkr.frozen s
          have HK := Lib.hid hkr
          clear hkr
          obtain ⟨U, hU⟩ : ∃ U, un xs (xs.length - 1 - (s + 1)) = U := ⟨_, rfl⟩
          rw [hU] at e2 b4
          have HU := Lib.hid hU; clear hU
          have t1 : (s : Int) < (m : Int) + 1 := by omega
          have t2 : (s : Int) + 1 < (m : Int) + 1 := by omega
          have t2' : (s : Int) < (m : Int) := by omega
          have t3 : (0 : Int) ≤ (s : Int) + 1 := by omega
          have s1 : IntKind.i64.wrap ((s : Int) + 1) = (s : Int) + 1 := IntWalk.i64_in _ (by omega)
          have s3 : ((s : Int) + 1).toNat = s + 1 := by omega
          have s5 : IntKind.i64.wrap U = U := IntWalk.i64_in _ (by omega)
          have s6 : IntKind.i64.wrap (nth xs s) = nth xs s := IntWalk.i64_in _ (by omega)
          have s8 : IntKind.i64.wrap (U - nth xs s) = U - nth xs s := IntWalk.i64_in _ (by omega)
          go_wp2_with fail
          go_region_law (go_simp; go_at_call 29; refine (wrap_any _ _).mono ?_; rintro e w' ⟨rfl, rfl⟩)
          all_goals
            clear s1 s3 s5 s6 s8 e1 e2 e3 e4
            go_wp2
            go_roundg s
            case measure => omega
            case rel => exact ⟨s, rfl, by omega, rfl, by
              have h := HK.out.set s (.int .i32 (wrap32 (un xs (xs.length - 1 - (s + 1)) - nth xs s)))
              rw [← List.map_set, outTo_succ (by have := HX.out; omega), HU.out] at h
              exact h, (hbr.setCell (p := ⟨w.heap.size, s, none⟩) (Nat.le_refl _) _).drew⟩
  · obtain rfl : m = 0 := by omega
    have hmk1 : ∀ W : World, (Instr.makeSlice 22 (.int .i64 1) (.int .i64 1)).run Try.prog W = .ok (.slice (some ⟨W.heap.size, 0, none⟩) 1 1) (W.alloc (.cells (zeroRow .i32 1) 21)) := fun W => run_mk i32E 1 (by omega) .i64 .i64 W
    clear hmk
    simp only [Nat.add_zero, Nat.zero_add] at c1 hz
    go_enter Try.func28, Try.ntmps28
    go_wp2_with fail
    refine wp_loop_rounds 1 ?_
    rw [rounds_succ]
    go_wp2
    go_ret
    refine ⟨some ⟨w.heap.size, 0, none⟩, 1, rfl, ?_, (Below.refl _ _).alloc (Nat.le_refl _) _⟩
    refine Own.mk (rest := []) (Nat.le_refl _) (by simp; exact HX.out) (by simp) (by decide) ?_
    rw [List.append_nil, ← outTo_zero, ← outTo_one HX.out, List.map_set]
    unfold zeroRow
    rw [List.setIfInBounds_toArray]
    exact Blk.new _ _ _
end Go.Proofs.Ytphckhgomolhgaa
