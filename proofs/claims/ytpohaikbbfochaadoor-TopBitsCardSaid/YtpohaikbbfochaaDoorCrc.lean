/-
  The sum of 32 bits, plainly: a step of one bit, a byte, bytes.
-/
import Derived.Test.YtpohaikbbfochaaDoorKit
namespace Cad.Crc
open Go Cad
set_option linter.unusedVariables false

/-- One step of the register. -/
def step (c : Nat) : Nat := c / 2 ^^^ 3988292384 * (c % 2)
def steps : Nat → Nat → Nat
  | 0, c => c
  | n + 1, c => steps n (step c)
theorem steps_succ (n c : Nat) : steps (n + 1) c = step (steps n c) := by
  induction n generalizing c with
  | zero => rfl
  | succ n ih => exact ih (step c)
theorem xor_lt {a b n : Nat} (ha : a < 2 ^ n) (hb : b < 2 ^ n) : a ^^^ b < 2 ^ n := Nat.xor_lt_two_pow ha hb
theorem step_lt {c : Nat} (h : c < 4294967296) : step c < 4294967296 := by
  unfold step
  refine xor_lt (n := 32) (by omega) ?_
  rcases Nat.mod_two_eq_zero_or_one c with h | h <;> rw [h] <;> decide
theorem steps_lt (n : Nat) {c : Nat} (h : c < 4294967296) : steps n c < 4294967296 := by
  induction n generalizing c with
  | zero => exact h
  | succ n ih => exact ih (step_lt h)
theorem xor_div (a b : Nat) : (a ^^^ b) / 2 = a / 2 ^^^ b / 2 := by
  have := Nat.shiftRight_xor_distrib (a := a) (b := b) (i := 1)
  simpa [Nat.shiftRight_eq_div_pow] using this
theorem xor_mod (a b : Nat) : (a ^^^ b) % 2 = (a % 2) ^^^ (b % 2) := Nat.xor_mod_two_pow (n := 1)
theorem mul_bit (x y : Nat) (hx : x < 2) (hy : y < 2) : 3988292384 * (x ^^^ y) = 3988292384 * x ^^^ 3988292384 * y := by
  have h : ∀ a : Fin 2, ∀ b : Fin 2, 3988292384 * (a.1 ^^^ b.1) = 3988292384 * a.1 ^^^ 3988292384 * b.1 := by decide
  exact h ⟨x, hx⟩ ⟨y, hy⟩
theorem xor4 (a b c d : Nat) : (a ^^^ b) ^^^ (c ^^^ d) = (a ^^^ c) ^^^ (b ^^^ d) := by
  rw [Nat.xor_assoc, ← Nat.xor_assoc b c d, Nat.xor_comm b c, Nat.xor_assoc c b d, ← Nat.xor_assoc]
/-- The step is linear. -/
theorem step_xor (a b : Nat) : step (a ^^^ b) = step a ^^^ step b := by
  unfold step
  rw [xor_div, xor_mod, mul_bit _ _ (Nat.mod_lt _ (by decide)) (Nat.mod_lt _ (by decide)), xor4]
theorem steps_xor (n a b : Nat) : steps n (a ^^^ b) = steps n a ^^^ steps n b := by
  induction n generalizing a b with
  | zero => rfl
  | succ n ih => show steps n (step (a ^^^ b)) = steps n (step a) ^^^ steps n (step b); rw [step_xor, ih]
theorem step_zero : step 0 = 0 := rfl
theorem step_even (x : Nat) : step (2 * x) = x := by
  unfold step
  rw [show 2 * x / 2 = x by omega, show 2 * x % 2 = 0 by omega, Nat.mul_zero, Nat.xor_zero]
theorem steps_shift (n x : Nat) : steps n (2 ^ n * x) = x := by
  induction n generalizing x with
  | zero => simp [steps]
  | succ n ih => show steps n (step (2 ^ (n + 1) * x)) = x; rw [Nat.pow_succ, Nat.mul_comm (2 ^ n) 2, Nat.mul_assoc, step_even, ih]

/-- The register behind a byte. -/
def byte (s b : Nat) : Nat := steps 8 (s ^^^ b)
def bytes (s : Nat) (l : List Int) : Nat := l.foldl (fun s b => byte s b.toNat) s
def sum (l : List Int) : Nat := 4294967295 - bytes 4294967295 l
theorem byte_lt {s b : Nat} (hs : s < 4294967296) (hb : b < 256) : byte s b < 4294967296 := steps_lt 8 (xor_lt (n := 32) hs (by omega))
theorem split8 (s : Nat) : s = 2 ^ 8 * (s / 256) ^^^ s % 256 := by
  apply Nat.eq_of_testBit_eq
  intro i
  rw [Nat.testBit_xor, Nat.testBit_two_pow_mul, show (256 : Nat) = 2 ^ 8 by decide, Nat.testBit_div_two_pow, Nat.testBit_mod_two_pow]
  by_cases h : i < 8
  · simp [h, Nat.not_le.2 h]
  · have h' : 8 ≤ i := by omega
    simp [h, h']
/-- A byte by the table. -/
theorem byte_table (s b : Nat) : byte s b = s / 256 ^^^ steps 8 (s % 256 ^^^ b) := by
  unfold byte
  conv => lhs; rw [split8 s, Nat.xor_assoc, steps_xor, steps_shift]
theorem bytes_nil (s : Nat) : bytes s [] = s := rfl
theorem bytes_append (s : Nat) (a b : List Int) : bytes s (a ++ b) = bytes (bytes s a) b := by unfold bytes; rw [List.foldl_append]
theorem bytes_one (s : Nat) (b : Int) : bytes s [b] = byte s b.toNat := rfl
theorem bytes_lt {s : Nat} {l : List Int} (hs : s < 4294967296) (hl : Within 0 255 l) : bytes s l < 4294967296 := by
  induction l generalizing s with
  | nil => exact hs
  | cons x l ih => exact ih (byte_lt hs (by have := hl x (by simp); omega)) (fun y hy => hl y (by simp [hy]))
theorem take_succ {l : List Int} {k : Nat} (h : k < l.length) : l.take (k + 1) = l.take k ++ [nth l k] := by
  rw [List.take_add_one, List.getElem?_eq_getElem h, nth_eq h]; rfl
theorem bytes_next {s : Nat} {l : List Int} {k : Nat} (h : k < l.length) : bytes s (l.take (k + 1)) = byte (bytes s (l.take k)) (nth l k).toNat := by
  rw [take_succ h, bytes_append, bytes_one]
theorem sum_lt {l : List Int} (hl : Within 0 255 l) : sum l < 4294967296 := by unfold sum; omega

/-- A byte bit by bit. -/
def bitsOf : Nat → Nat → Nat → Nat
  | 0, s, b => s
  | n + 1, s, b => bitsOf n (step (s ^^^ b % 2)) (b / 2)
theorem half_xor (s b : Nat) : step (s ^^^ b) = step (s ^^^ b % 2) ^^^ b / 2 := by
  have h : b = b % 2 ^^^ 2 * (b / 2) := by
    apply Nat.eq_of_testBit_eq
    intro i
    have e := Nat.testBit_two_pow_mul (a := b / 2) (i := 1) (j := i)
    have e2 := Nat.testBit_mod_two_pow b 1 i
    rw [Nat.pow_one] at e e2
    rw [Nat.testBit_xor, e, e2]
    cases i with
    | zero => simp
    | succ i => simp [Nat.testBit_succ]
  conv => lhs; rw [h, ← Nat.xor_assoc, step_xor, step_even]
theorem bitsOf_eq (n s b : Nat) (hb : b < 2 ^ n) : bitsOf n s b = steps n (s ^^^ b) := by
  induction n generalizing s b with
  | zero => simp at hb; subst hb; simp [bitsOf, steps]
  | succ n ih =>
    show bitsOf n (step (s ^^^ b % 2)) (b / 2) = steps n (step (s ^^^ b))
    rw [ih _ _ (by rw [Nat.pow_succ] at hb; omega), half_xor s b]

end Cad.Crc
