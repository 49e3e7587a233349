/-
  The sums of 64 bits (crc64), plainly: over any program.
-/
import Derived.Test.YtpohaikbbfochaaDoorKit
namespace Cad.Crc64
open Go Cad
set_option linter.unusedVariables false

def step (c : Nat) : Nat := c * 2 % 18446744073709551616 ^^^ 4823603603198064275 * (c / 9223372036854775808)
def steps : Nat → Nat → Nat
  | 0, c => c
  | n + 1, c => steps n (step c)
theorem steps_succ (n c : Nat) : steps (n + 1) c = step (steps n c) := by
  induction n generalizing c with
  | zero => rfl
  | succ n ih => rw [steps, ih]; rfl
theorem xor_lt {a b : Nat} (ha : a < 18446744073709551616) (hb : b < 18446744073709551616) : a ^^^ b < 18446744073709551616 := Nat.xor_lt_two_pow (n := 64) ha hb
theorem step_lt {c : Nat} (h : c < 18446744073709551616) : step c < 18446744073709551616 := by
  unfold step
  apply xor_lt
  · exact Nat.mod_lt _ (by decide)
  · have : c / 9223372036854775808 ≤ 1 := by omega
    omega
theorem steps_lt (n : Nat) {c : Nat} (h : c < 18446744073709551616) : steps n c < 18446744073709551616 := by
  induction n generalizing c with
  | zero => exact h
  | succ n ih => exact ih (step_lt h)
/-- The table's number i. -/
def tab (i : Nat) : Nat := steps 8 (i * 72057594037927936)
theorem tab_lt {i : Nat} (h : i < 256) : tab i < 18446744073709551616 := steps_lt 8 (by omega)
def byte (s b : Nat) : Nat := s * 256 % 18446744073709551616 ^^^ tab (s / 72057594037927936 ^^^ b)
theorem byte_lt {s b : Nat} (hs : s < 18446744073709551616) (hb : b < 256) : byte s b < 18446744073709551616 := by
  unfold byte
  apply xor_lt
  · exact Nat.mod_lt _ (by decide)
  · exact tab_lt (Nat.xor_lt_two_pow (n := 8) (by omega) hb)
def bytes (s : Nat) (l : List Int) : Nat := l.foldl (fun s b => byte s b.toNat) s
theorem bytes_nil (s : Nat) : bytes s [] = s := rfl
theorem bytes_append (s : Nat) (a b : List Int) : bytes s (a ++ b) = bytes (bytes s a) b := by unfold bytes; rw [List.foldl_append]
theorem bytes_one (s : Nat) (b : Int) : bytes s [b] = byte s b.toNat := rfl
theorem bytes_lt {s : Nat} {l : List Int} (hs : s < 18446744073709551616) (hl : Within 0 255 l) : bytes s l < 18446744073709551616 := by
  induction l generalizing s with
  | nil => exact hs
  | cons b t ih =>
    have hb := hl b (List.mem_cons_self ..)
    exact ih (byte_lt hs (by omega)) (fun x hx => hl x (List.mem_cons_of_mem _ hx))
theorem take_succ {l : List Int} {k : Nat} (h : k < l.length) : l.take (k + 1) = l.take k ++ [nth l k] := by
  rw [List.take_add_one, nth_eq h, List.getElem?_eq_getElem h]; rfl
theorem bytes_next {s : Nat} {l : List Int} {k : Nat} (h : k < l.length) : bytes s (l.take (k + 1)) = byte (bytes s (l.take k)) (nth l k).toNat := by
  rw [take_succ h, bytes_append, bytes_one]
end Cad.Crc64
