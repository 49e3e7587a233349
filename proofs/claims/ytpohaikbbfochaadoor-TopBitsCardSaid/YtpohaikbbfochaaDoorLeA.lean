/-
  Contracts of numbers as bytes, the lowest one first.
-/
import Derived.Test.YtpohaikbbfochaaDoorCrcA
import Derived.Test.YtpohaikbbfochaaDoorBitC
namespace Cad.Le
open Go Cad
/-- A number as bytes. -/
def leB (n w : Nat) : List Int := (List.range w).map fun i => ((n / 2 ^ (8 * i) % 256 : Nat) : Int)
def leTo (n w j : Nat) : List Int := leB n j ++ zeros (w - j)
theorem leB_len (n w : Nat) : (leB n w).length = w := by simp [leB]
theorem leB_within (n w : Nat) : Within 0 255 (leB n w) := by
  intro x hx
  unfold leB at hx
  rw [List.mem_map] at hx
  obtain ⟨i, _, rfl⟩ := hx
  omega
theorem nth_leB {n w i : Nat} (h : i < w) : nth (leB n w) i = ((n / 2 ^ (8 * i) % 256 : Nat) : Int) := nth_map_range h
theorem leTo_len {n w j : Nat} (h : j ≤ w) : (leTo n w j).length = w := by unfold leTo; rw [List.length_append, leB_len, zeros_len]; omega
theorem nth_leTo {n w i j : Nat} : nth (leTo n w j) i = if i < j then ((n / 2 ^ (8 * i) % 256 : Nat) : Int) else 0 := by
  unfold leTo
  by_cases h : i < j
  · rw [nth_append_left (by rw [leB_len]; exact h), if_pos h, nth_leB h]
  · rw [nth_append_right (by rw [leB_len]; omega), if_neg h, nth_zeros]
theorem leTo_set {n w j : Nat} (h : j < w) : (leTo n w j).set j ((n / 2 ^ (8 * j) % 256 : Nat) : Int) = leTo n w (j + 1) := by
  refine list_ext (by rw [List.length_set, leTo_len (by omega), leTo_len (by omega)]) fun i hi => ?_
  rw [nth_set (by rw [leTo_len (by omega)]; exact h), nth_leTo, nth_leTo]
  by_cases e : j = i
  · subst e; simp
  · rw [if_neg e]
    by_cases h2 : i < j
    · rw [if_pos h2, if_pos (by omega)]
    · rw [if_neg h2, if_neg (by omega)]
theorem leTo_zero (n w : Nat) : leTo n w 0 = zeros w := rfl
theorem leTo_all (n w : Nat) : leTo n w w = leB n w := by unfold leTo; simp [zeros]
end Cad.Le

namespace Go.Proofs.YtpohaikbbfochaaDoor
open Go.RowKit Cad Cad.Crc Cad.Le Cad.Bit
set_option linter.unusedVariables false
set_option linter.unusedSimpArgs false

theorem fits_ok (n m : Nat) (w : World) (h8 : m ≤ 8) (hn : n < 18446744073709551616) (hf : n < 2 ^ (8 * m)) :
    Calls Tryd.prog 37 #[.int .u64 (n : Int), .int .i64 (m : Int)] w fun e w' => e = .returned (.bool true) ∧ w = w' := by
  have hd : (n : Int) / 2 ^ (8 * m) = 0 := by
    rw [pow_cast, ← Int.natCast_ediv, Nat.div_eq_of_lt hf]; rfl
  by_cases h : m = 8
  · subst h
    go_enter Tryd.func37, Tryd.ntmps37
    go_wp2
    go_ret
    exact ⟨rfl, rfl⟩
  · have hlt : (m : Int) < 8 := by omega
    have hne : ((m : Int) == 8) = false := by simp; omega
    have h64 : (8 * (m : Int)) < 64 := by omega
    have ht : (8 * (m : Int)).toNat = 8 * m := by omega
    go_enter Tryd.func37, Tryd.ntmps37
    go_wp2
    go_ret
    exact ⟨rfl, rfl⟩

set_option maxHeartbeats 400000 in
theorem lebytes_ok (n m : Nat) (w : World) (h1 : 1 ≤ m) (h8 : m ≤ 8) (hn : n < 18446744073709551616) (hf : n < 2 ^ (8 * m)) :
    Calls Tryd.prog 8 #[.int .u64 (n : Int), .int .i64 (m : Int)] w fun e w' => e = .returned (.tuple #[.slice (some ⟨w.heap.size, 0, none⟩) m m, .int .i64 0]) ∧ Own w' w.heap.size 5 .u8 (some ⟨w.heap.size, 0, none⟩) m m (leB n m) ∧ Below w.heap.size w w' := by
  have hmk : ∀ W, (Instr.makeSlice 24 (.int .i64 (m : Int)) (.int .i64 (m : Int))).run Tryd.prog W = .ok (.slice (some ⟨W.heap.size, 0, none⟩) m m) (W.alloc (.cells (zeroRow .u8 m) 5)) := fun W => run_mk u8E m (by omega) .i64 .i64 W
  have a1 : ¬ (m : Int) < 1 := by omega
  have a2 : ¬ (8 : Int) < (m : Int) := by omega
  have HF := Lib.hid hf
  clear hf
  go_enter Tryd.func8, Tryd.ntmps8
  go_wp2_with fail
  refine (fits_ok n m w h8 hn HF.out).mono ?_
  rintro e _ ⟨rfl, rfl⟩
  go_wp2_with fail
  go_loopg [22] m (fun r i wr => ∃ j : Nat, j + r = m ∧ i = .int .i64 (j : Int) ∧ Blk wr w.heap.size 5 ((leTo n m j).map (Value.int .u8)) ∧ Below w.heap.size w wr)
  case atStart => exact ⟨0, by omega, rfl, blk_made w .u8 m _, (Below.refl _ _).alloc (Nat.le_refl _) _⟩
  case round =>
    obtain ⟨j, hj, rfl, hb, hw⟩ := hrel
    have hsz := hb.lt
    by_cases hlt : j < m
    · have hlt' : (j : Int) < (m : Int) := by omega
      have ht : (8 * (j : Int)).toNat = 8 * j := by omega
      have h64 : (8 * (j : Int)) < 64 := by omega
      have kc : wr.cell? ⟨w.heap.size, j, none⟩ = some (.int .u8 0) := by rw [hb.cell, getElem?_map_nth (by rw [leTo_len (by omega)]; exact hlt), nth_leTo, if_neg (by omega)]
      have kf : wr.frozen? ⟨w.heap.size, j, none⟩ = false := hb.frozen j
      obtain ⟨y, HY⟩ : ∃ y : Nat, Hid (y = n / 2 ^ (8 * j)) := ⟨_, Lib.hid rfl⟩
      have hy : (n : Int) / 2 ^ (8 * j) = (y : Int) := by rw [HY.out, pow_cast, ← Int.natCast_ediv]
      have hy2 : y < 18446744073709551616 := by rw [HY.out]; exact Nat.lt_of_le_of_lt (Nat.div_le_self _ _) hn
      have HB := Lib.hid hb
      clear hb
      go_wp2
      go_roundg (m - (j + 1))
      case measure => omega
      case rel =>
        refine ⟨j + 1, by omega, by go_num, ?_, hw.setCell (p := ⟨w.heap.size, j, none⟩) (Nat.le_refl _) _⟩
        have hs := HB.out.set j (.int .u8 ((y : Int) % 256))
        rw [← leTo_set hlt, ← map_set, ← HY.out]
        exact hs
    · obtain rfl : j = m := by omega
      rw [leTo_all] at hb
      have HB := Lib.hid hb
      clear hb
      go_wp2
      go_ret2
      exact ⟨rfl, Own.mk (rest := []) (Nat.le_refl _) (leB_len _ _) (by simp) (by simp only [maxLen]; omega) (by rw [List.append_nil]; exact HB.out), hw⟩

end Go.Proofs.YtpohaikbbfochaaDoor
