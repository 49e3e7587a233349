/-
  Trailing zeros of a word, plainly, and the table by which the library finds them.
-/
import Derived.Test.YtpohaikbbfochaaDoorBitW
import Derived.Test.YtpohaikbbfochaaDoorCode
namespace Cad.Bit
open Go Go.RowKit Cad Cad.Code
set_option linter.unusedVariables false

def dbTab : List Int := [0, 1, 56, 2, 57, 49, 28, 3, 61, 58, 42, 50, 38, 29, 17, 4, 62, 47, 59, 36, 45, 43, 51, 22, 53, 39, 33, 30, 24, 18, 12, 5, 63, 55, 48, 27, 60, 41, 37, 16, 46, 35, 44, 21, 52, 32, 23, 11, 54, 26, 40, 15, 34, 20, 31, 10, 25, 14, 19, 9, 13, 8, 7, 6]

theorem not64 (a : Nat) (ha : a < 18446744073709551616) : bits .xor .u64 IntKind.u64.max (a : Int) = 18446744073709551615 - (a : Int) := by
  show IntKind.u64.wrap ((BitVec.ofInt 64 IntKind.u64.max ^^^ BitVec.ofInt 64 (a : Int)).toNat : Int) = _
  have h1 : BitVec.ofInt 64 IntKind.u64.max = BitVec.allOnes 64 := by decide
  rw [h1, BitVec.allOnes_xor, BitVec.toNat_not, ofInt_u64 a (by omega), IntKind.wrap_u64]
  omega

/-- Where the table is looked at for the word 2^i. -/
def dbAt (i : Nat) : Nat := 2 ^ i * 285870213051353865 % 18446744073709551616 / 288230376151711744
theorem dbAt_all : (List.range 64).all (fun i => decide (dbAt i < 64) && decide (nth dbTab (dbAt i) = (i : Int))) = true := by decide +kernel
theorem dbAt_ok {i : Nat} (h : i < 64) : dbAt i < 64 ∧ nth dbTab (dbAt i) = (i : Int) := by
  have := List.all_eq_true.1 dbAt_all i (List.mem_range.2 h)
  simpa using this

/-- The lowest one of a word: x is 2^i times an odd number. -/
theorem low_one {x i q : Nat} (hx : x < 18446744073709551616) (h : x = 2 ^ i * (2 * q + 1)) : bits .and .u64 (x : Int) (IntKind.u64.wrap (-(x : Int))) = ((2 ^ i : Nat) : Int) := by
  have hp := Nat.two_pow_pos i
  have hpos : 0 < x := by rw [h]; exact Nat.mul_pos hp (by omega)
  have hi : i < 64 := by
    rcases Nat.lt_or_ge i 64 with h1 | h1
    · exact h1
    · have h2 : 2 ^ 64 ≤ 2 ^ i := Nat.pow_le_pow_right (by omega) h1
      have h3 : 2 ^ i * 1 ≤ 2 ^ i * (2 * q + 1) := Nat.mul_le_mul_left _ (by omega)
      have h4 : (2 : Nat) ^ 64 = 18446744073709551616 := by decide
      omega
  have hw : IntKind.u64.wrap (-(x : Int)) = ((18446744073709551616 - x : Nat) : Int) := by
    rw [IntKind.wrap_u64]; omega
  rw [hw, u64_and_nat _ _ hx (by omega)]
  congr 1
  -- 2^64 - x = 2^i * (2 * r + 1)
  have h64 : (18446744073709551616 : Nat) = 2 ^ i * 2 ^ (64 - i) := by rw [← Nat.pow_add, show i + (64 - i) = 64 by omega]
  obtain ⟨r, hr, hr2⟩ : ∃ r, 2 ^ (64 - i) = 2 * r ∧ r = 2 ^ (63 - i) := ⟨2 ^ (63 - i), by rw [show 64 - i = (63 - i) + 1 by omega, Nat.pow_succ]; omega, rfl⟩
  have hlt : 2 * q + 1 < 2 * r := by
    rw [← hr]
    have : 2 ^ i * (2 * q + 1) < 2 ^ i * 2 ^ (64 - i) := by rw [← h, ← h64]; exact hx
    exact Nat.lt_of_mul_lt_mul_left this
  have h2 : 18446744073709551616 - x = 2 ^ i * (2 * (r - q - 1) + 1) := by
    rw [h64, h, ← Nat.mul_sub, hr]; congr 1; omega
  rw [h2, h]
  apply Nat.eq_of_testBit_eq
  intro j
  rw [Nat.testBit_and, Nat.testBit_two_pow_mul, Nat.testBit_two_pow_mul, Nat.testBit_two_pow]
  by_cases hj : i ≤ j
  · simp only [hj, decide_true, Bool.true_and]
    obtain ⟨k, rfl⟩ : ∃ k, j = i + k := ⟨j - i, by omega⟩
    rw [Nat.add_sub_cancel_left]
    cases k with
    | zero =>
      have e1 : Nat.testBit (2 * q + 1) 0 = true := by rw [Nat.testBit_zero]; simp
      have e2 : Nat.testBit (2 * (r - q - 1) + 1) 0 = true := by rw [Nat.testBit_zero]; simp
      rw [e1, e2]; simp
    | succ k =>
      have e1 : Nat.testBit (2 * q + 1) (k + 1) = Nat.testBit q k := by rw [Nat.testBit_succ]; congr 1; omega
      have e2 : Nat.testBit (2 * (r - q - 1) + 1) (k + 1) = Nat.testBit (r - q - 1) k := by rw [Nat.testBit_succ]; congr 1; omega
      have e3 : r - q - 1 = 2 ^ (63 - i) - (q + 1) := by rw [← hr2]; omega
      rw [e1, e2, e3, Nat.testBit_two_pow_sub_succ (by rw [← hr2]; omega)]
      have e4 : decide (i = i + (k + 1)) = false := decide_eq_false (by omega)
      rw [e4]
      cases q.testBit k <;> simp
  · have : ¬ i = j := by omega
    simp [hj, this]

/-- The ones that a word begins with, and the word with its bits turned: the first zero is the first one. -/
theorem not_word {v : Nat} (hv : v < 18446744073709551616) : ∃ i q, i = ones (lowBits v 64) ∧ (i < 64 → 18446744073709551615 - v = 2 ^ i * (2 * q + 1)) ∧ (i = 64 → 18446744073709551615 - v = 0) := by
  have hb := bval_lowBits_lt (n := 64) (v := v) hv
  obtain ⟨r, h1, h2⟩ := ones_split (lowBits v 64)
  have hlen := lowBits_len 64 v
  have hle := ones_le (lowBits v 64)
  rw [hlen] at hle
  generalize ones (lowBits v 64) = i at *
  have hr : r.length = 64 - i := by
    have := congrArg List.length h1
    rw [hlen, List.length_append, List.length_replicate] at this
    omega
  have hval : v = 2 ^ i - 1 + 2 ^ i * bval r := by
    rw [← hb, h1, bval_append, bval_replicate_true, List.length_replicate]
  have hp := Nat.two_pow_pos i
  rcases h2 with rfl | ⟨t, rfl⟩
  · have hi : i = 64 := by simp at hr; omega
    subst hi
    refine ⟨64, 0, rfl, fun h => absurd h (by omega), fun _ => ?_⟩
    rw [hval]; decide
  · have hlt : i < 64 := by rw [List.length_cons] at hr; omega
    have ht : t.length = 63 - i := by rw [List.length_cons] at hr; omega
    have hbt := bval_lt t
    rw [ht] at hbt
    refine ⟨i, 2 ^ (63 - i) - 1 - bval t, rfl, fun _ => ?_, fun h => absurd h (by omega)⟩
    have e : bval (false :: t) = 2 * bval t := by simp [bval]
    rw [e] at hval
    have h64 : (18446744073709551616 : Nat) = 2 ^ i * (2 * 2 ^ (63 - i)) := by rw [← Nat.pow_succ', ← Nat.pow_add, show i + (63 - i + 1) = 64 by omega]
    have h3 : 2 * (2 ^ (63 - i) - 1 - bval t) + 1 + (2 * bval t) + 1 = 2 * 2 ^ (63 - i) := by omega
    have h4 : 2 ^ i * (2 * (2 ^ (63 - i) - 1 - bval t) + 1) + 2 ^ i * (2 * bval t) + 2 ^ i = 18446744073709551616 := by
      rw [h64, ← h3]; simp only [Nat.mul_add, Nat.mul_one]
    omega
theorem ones_word' {l : List Bool} (hl : l.length ≤ 63) : ones (lowBits (bval l) 64) = ones l := by
  have h : lowBits (bval l) 64 = l ++ lowBits 0 (64 - l.length) := by
    have e : 64 = l.length + (64 - l.length) := by omega
    conv => lhs; rw [e]
    rw [lowBits_add, lowBits_bval, Nat.div_eq_of_lt (bval_lt l)]
  have hz : ∃ t, lowBits 0 (64 - l.length) = false :: t := by
    obtain ⟨k, hk⟩ : ∃ k, 64 - l.length = k + 1 := ⟨63 - l.length, by omega⟩
    rw [hk]; exact ⟨_, rfl⟩
  obtain ⟨t, ht⟩ := hz
  rw [h, ht]
  clear h ht hl
  induction l with
  | nil => rfl
  | cons b r ih => cases b <;> simp [ones, ih]

end Cad.Bit
