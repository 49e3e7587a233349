/-
  Signed numbers, folded, as little-endian bytes behind each other, plainly (for TopBits).
-/
import Derived.Test.YtpohaikbbfochaaDoorLeA
namespace Cad.Top
open Go Cad Cad.Bit Cad.Le
set_option linter.unusedVariables false

def foldZ (x : Int) : Nat := if 0 ≤ x then (2 * x).toNat else (-(2 * x) - 1).toNat
theorem foldZ_lt {x : Int} (h : -2147483648 ≤ x ∧ x ≤ 2147483647) : foldZ x < 4294967296 := by
  unfold foldZ
  split <;> omega
theorem unpack_leB (v : Nat) : ∀ w, unpack (leB v w) = lowBits v (8 * w) := by
  intro w
  induction w with
  | zero => rfl
  | succ w ih =>
    have h : leB v (w + 1) = leB v w ++ [((v / 2 ^ (8 * w) % 256 : Nat) : Int)] := by unfold leB; rw [List.range_succ, List.map_append]; rfl
    rw [h, unpack_append, ih, Nat.mul_succ, lowBits_add]
    congr 1
    show lowBits ((((v / 2 ^ (8 * w) % 256 : Nat) : Int)).toNat) 8 ++ [] = _
    rw [List.append_nil, Int.toNat_natCast]
    exact lowBits_mod (n := 8) (m := 8) (Nat.le_refl _)
def wideB (xs : List Int) (j : Nat) : List Int := (List.range j).flatMap fun i => leB (foldZ (nth xs i)) 4
theorem wideB_zero (xs : List Int) : wideB xs 0 = [] := rfl
theorem wideB_next (xs : List Int) (j : Nat) : wideB xs (j + 1) = wideB xs j ++ leB (foldZ (nth xs j)) 4 := by
  unfold wideB
  rw [List.range_succ, List.flatMap_append]
  simp
theorem wideB_len (xs : List Int) (j : Nat) : (wideB xs j).length = 4 * j := by
  induction j with
  | zero => rfl
  | succ j ih => rw [wideB_next, List.length_append, ih, leB_len]; omega
theorem wideB_u8 (xs : List Int) (j : Nat) : Within 0 255 (wideB xs j) := by
  induction j with
  | zero => intro x hx; cases hx
  | succ j ih => rw [wideB_next]; exact ih.append (leB_within _ _)
theorem wideB_at (xs : List Int) {i j : Nat} (h : i < j) : ((wideB xs j).drop (4 * i)).take 4 = leB (foldZ (nth xs i)) 4 := by
  induction j with
  | zero => omega
  | succ j ih =>
    rw [wideB_next]
    rcases Nat.lt_or_ge i j with h1 | h1
    · rw [List.drop_append_of_le_length (by rw [wideB_len]; omega), List.take_append_of_le_length (by rw [List.length_drop, wideB_len]; omega)]
      exact ih h1
    · obtain rfl : i = j := by omega
      rw [List.drop_left' (wideB_len xs i), List.take_of_length_le (by rw [leB_len]; omega)]
theorem wide_bits (xs : List Int) (j : Nat) : unpack (wideB xs (j + 1)) = unpack (wideB xs j) ++ lowBits (foldZ (nth xs j)) 32 := by
  rw [wideB_next, unpack_append, unpack_leB]
theorem wide_get (xs : List Int) {i j : Nat} (h : i < j) (hx : foldZ (nth xs i) < 4294967296) : bval (((unpack (wideB xs j)).drop (32 * i)).take 32) = foldZ (nth xs i) := by
  have h1 : (unpack (wideB xs j)).drop (32 * i) = unpack ((wideB xs j).drop (4 * i)) := by rw [← unpack_drop]; congr 1; omega
  have h2 : ∀ (l m : List Int), l.take 4 = m → m.length = 4 → (unpack l).take 32 = unpack m := by
    intro l m e hm
    conv => lhs; rw [← List.take_append_drop 4 l]
    rw [unpack_append, e, List.take_left' (by rw [unpack_len, hm])]
  rw [h1, h2 _ _ (wideB_at xs h) (leB_len _ _), unpack_leB, bval_lowBits_lt (by exact hx)]
end Cad.Top
