/-
  Contracts of the reference's mixing and unmixing of one moment.
-/
import Derived.Test.YtphckhgomolhgaaMixA
import Derived.Test.YtphckhgomolhgaaMixP
namespace Go.Proofs.Ytphckhgomolhgaa
open Go.RowKit Cad Cad.Mix
set_option linter.unusedVariables false

theorem take_mixL {xs : List Int} {j : Nat} (hj : j < xs.length) : (mixL xs).take j ++ [mixAt xs j] = (mixL xs).take (j + 1) := by
  rw [List.take_succ_eq_append_getElem (by simpa using hj), ← nth_eq, nth_mixL hj]
theorem nth_take_mixL {xs : List Int} {i j : Nat} (h : i < j) (hj : j ≤ xs.length) : nth ((mixL xs).take j) i = mixAt xs i := by
  rw [nth_take h, nth_mixL (by omega)]

set_option maxHeartbeats 400000 in
theorem mixed_any (A : Option Addr) (n c : Nat) (xs : List Int) (w : World) (ha : Row .i32 w A n xs) (hn0 : 0 < n) (hn : n ≤ 4100) (hx32 : I32 xs) :
    Calls Try.prog 26 #[.slice A n c] w fun e w' => ∃ B d, e = .returned (.slice B n d) ∧ Own w' w.heap.size 21 .i32 B n d (mixL xs) ∧ Below w.heap.size w w' := by
  have HX := Lib.hid ha.len
  obtain ⟨b, o, rfl, hb, hc⟩ := ha.at hn0
  have HC := Lib.hid hc
  clear hc ha
  go_enter Try.func26, Try.ntmps26
  go_wp2_with fail
  go_loopg [3, 5] n (fun k v i wr => ∃ j B d, j + k = n ∧ i = .int .i64 (j : Nat) ∧ v = .slice B j d ∧ Own wr w.heap.size 21 .i32 B j d ((mixL xs).take j) ∧ Below w.heap.size w wr)
  case atStart => exact ⟨0, none, 0, by omega, rfl, rfl, Own.nil _ _ _ _, Below.refl _ _⟩
  case round =>
    obtain ⟨j, B, d, hj, rfl, rfl, hown, hbel⟩ := hrel
    by_cases hlt : j < n
    · have hnx : nth xs j = nth xs j := rfl
      have b1 := hx32.nth (by decide) (by decide) j
      have b2 := hx32.nth (by decide) (by decide) (j + 1)
      have c1 : wr.cell? ⟨b, o + j, none⟩ = some (.int .i32 (nth xs j)) := (hbel.cell (p := ⟨b, o + j, none⟩) hb).trans (HC.out j hlt)
      clear hnx
      by_cases h1 : n = 1
      · obtain rfl : j = 0 := by omega
        have hn1 : ((n : Int) == 1) = true := by simp [h1]
        have H1 := Lib.hid h1; clear h1
        have c1' : wr.cell? ⟨b, o, none⟩ = some (.int .i32 (nth xs 0)) := by simpa using c1
        clear c1
        go_wp2_with (at_builtin; refine wpList_app _ i32E rfl _ _ rfl w.heap.size _ _ _ _ rfl (by exact hown.alloc _) _ _ _ [nth xs 0] rfl (by exact row_one _ _ _ _) (by omega) (by have := hbel.size; simp; omega) ?_; intro B' d' w1 hown1 hg1 _)
        go_roundg (n - 1)
        case measure => omega
        case rel => exact ⟨1, B', d', by omega, rfl, rfl, by
          have hm : nth xs 0 = mixAt xs 0 := by
            have hl := HX.out; have h1 := H1.out
            unfold mixAt topm; rw [if_neg (by omega), if_neg (by omega), hl, h1]
          rw [hm, take_mixL (by have := HX.out; omega)] at hown1
          exact hown1, (hbel.trans ((Below.refl _ _).alloc hbel.size _)).grown hg1 (by have := hbel.size; simp; omega) (fun g e => (hown.block g e).1)⟩
      · have hn1 : ((n : Int) == 1) = false := by simp; omega
        by_cases h2 : j < n - 1
        · have h2' : (j : Int) < (n : Int) - 1 := by omega
          have c2 : wr.cell? ⟨b, o + (j + 1), none⟩ = some (.int .i32 (nth xs (j + 1))) := (hbel.cell (p := ⟨b, o + (j + 1), none⟩) hb).trans (HC.out (j + 1) (by omega))
          have s4 : (j : Int) + 1 < (n : Int) := by omega
          have s2 : (0 : Int) ≤ (j : Int) + 1 := by omega
          have s1 : IntKind.i64.wrap ((j : Int) + 1) = (j : Int) + 1 := IntWalk.i64_in _ (by omega)
          have s3 : ((j : Int) + 1).toNat = j + 1 := by omega
          have s5 : IntKind.i64.wrap (nth xs (j + 1) - nth xs j) = nth xs (j + 1) - nth xs j := IntWalk.i64_in _ (by omega)
          have s6 : IntKind.i64.wrap (nth xs (j + 1)) = nth xs (j + 1) := IntWalk.i64_in _ (by omega)
          have s7 : IntKind.i64.wrap (nth xs j) = nth xs j := IntWalk.i64_in _ (by omega)
          go_wp2_with fail
          go_region_law (first
            | (refine step_app _ i32E rfl _ _ rfl w.heap.size _ _ _ _ rfl (by exact (hown.alloc _).drew) _ _ _ [wrap32 (nth xs (j + 1) - nth xs j)] rfl (by exact (row_one _ _ _ _).drew) (by omega) (by have := hbel.size; simp; omega) ?_
               intro B' d' w1 hown1 hg1 _)
            | (go_simp; go_at_call 29; refine (wrap_any _ _).mono ?_; rintro e w' ⟨rfl, rfl⟩))
          all_goals
            clear s1 s3 s5 s6 s7 c1 c2
            go_wp2
            go_roundg (n - (j + 1))
            case measure => omega
            case rel => exact ⟨j + 1, B', d', by omega, by go_num, rfl, by
              have hm : wrap32 (nth xs (j + 1) - nth xs j) = mixAt xs j := by
                unfold mixAt d32; rw [if_pos (by have := HX.out; omega)]
              rw [hm, take_mixL (by have := HX.out; omega)] at hown1
              exact hown1, ((hbel.trans ((Below.refl _ _).alloc hbel.size _)).drew).grown hg1 (by have := hbel.size; simp; omega) (fun g e => (hown.block g e).1)⟩
        · obtain rfl : n = j + 1 := by omega
          have hj0 : 0 < j := by omega
          have h2' : ¬ (j : Int) < ((j + 1 : Nat) : Int) - 1 := by omega
          obtain ⟨B0, o0, hB, hb0, hc0⟩ := hown.row.at hj0
          have c2 : wr.cell? ⟨B0, o0 + (j - 1), none⟩ = some (.int .i32 (d32 xs (j - 1))) := by
            rw [hc0 (j - 1) (by omega), nth_take_mixL (by omega) (by have := HX.out; omega)]
            unfold mixAt; rw [if_pos (by have := HX.out; omega)]
          subst hB
          clear hc0
          have b3 := wrap32_bd (nth xs (j - 1 + 1) - nth xs (j - 1))
          have b4 : -2147483648 ≤ d32 xs (j - 1) ∧ d32 xs (j - 1) ≤ 2147483647 := b3
          have b5 : -2147483648 ≤ (d32 xs (j - 1)).tdiv 2 ∧ (d32 xs (j - 1)).tdiv 2 ≤ 2147483647 := by rw [← d32_half]; exact wrap32_bd _
          have s4 : (j : Int) - 1 < (j : Int) := by omega
          have s2 : (0 : Int) ≤ (j : Int) - 1 := by omega
          have s2' : (1 : Int) ≤ (j : Int) := by omega
          have s1 : IntKind.i64.wrap ((j : Int) - 1) = (j : Int) - 1 := IntWalk.i64_in _ (by omega)
          have s3 : ((j : Int) - 1).toNat = j - 1 := by omega
          have s5 : IntKind.i64.wrap (nth xs j - (d32 xs (j - 1)).tdiv 2) = nth xs j - (d32 xs (j - 1)).tdiv 2 := IntWalk.i64_in _ (by omega)
          have s6 : IntKind.i64.wrap (d32 xs (j - 1)) = d32 xs (j - 1) := IntWalk.i64_in _ (by omega)
          have s8 : IntKind.i64.wrap ((d32 xs (j - 1)).tdiv 2) = (d32 xs (j - 1)).tdiv 2 := IntWalk.i64_in _ (by omega)
          have s7 : IntKind.i64.wrap (nth xs j) = nth xs j := IntWalk.i64_in _ (by omega)
          clear b3
          go_wp2_with fail
          go_region_law (first
            | (refine step_app _ i32E rfl _ _ rfl w.heap.size _ _ _ _ rfl (by exact (hown.alloc _).drew) _ _ _ [wrap32 (nth xs j - (d32 xs (j - 1)).tdiv 2)] rfl (by exact (row_one _ _ _ _).drew) (by omega) (by have := hbel.size; simp; omega) ?_
               intro B' d' w1 hown1 hg1 _)
            | (go_simp; go_at_call 29; refine (wrap_any _ _).mono ?_; rintro e w' ⟨rfl, rfl⟩))
          all_goals
            clear s1 s3 s5 s6 s7 s8 c1 c2
            go_wp2
            go_roundg 0
            case measure => omega
            case rel => exact ⟨j + 1, B', d', by omega, by go_num, rfl, by
              have hm : wrap32 (nth xs j - (d32 xs (j - 1)).tdiv 2) = mixAt xs j := by
                unfold mixAt; rw [if_neg (by have := HX.out; omega), topm_eq HX.out hj0]
              rw [hm, take_mixL (by have := HX.out; omega)] at hown1
              exact hown1, ((hbel.trans ((Below.refl _ _).alloc hbel.size _)).drew).grown hg1 (by have := hbel.size; simp; omega) (fun g e => (hown.block g e).1)⟩
    · obtain rfl : j = n := by omega
      go_wp2
      go_ret
      refine ⟨B, d, rfl, ?_, hbel⟩
      rw [List.take_of_length_le (by have := HX.out; simp; omega)] at hown
      exact hown
end Go.Proofs.Ytphckhgomolhgaa
