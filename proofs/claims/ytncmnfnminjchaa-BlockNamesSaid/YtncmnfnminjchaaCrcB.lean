/-
  The sum of 32 bits, plainly: a number's bytes, the residue, changes.
-/
import Derived.Test.YtncmnfnminjchaaLeA
namespace Cad.Crc
open Go Cad Cad.Le
set_option linter.unusedVariables false

theorem leB_succ (x w : Nat) : leB x (w + 1) = ((x % 256 : Nat) : Int) :: leB (x / 256) w := by
  unfold leB
  rw [List.range_succ_eq_map, List.map_cons, List.map_map]
  congr 1
  · simp
  · apply List.map_congr_left
    intro i _
    show ((x / 2 ^ (8 * (i + 1)) % 256 : Nat) : Int) = ((x / 256 / 2 ^ (8 * i) % 256 : Nat) : Int)
    rw [Nat.div_div_eq_div_mul, show 8 * (i + 1) = 8 + 8 * i by omega, Nat.pow_add]
theorem steps_add (a b c : Nat) : steps (a + b) c = steps b (steps a c) := by
  induction a generalizing c with
  | zero => rw [Nat.zero_add]; rfl
  | succ a ih => rw [show a + 1 + b = (a + b) + 1 by omega]; exact ih (step c)
theorem byte_high (s x : Nat) : byte s (x % 256) ^^^ x / 256 = steps 8 (s ^^^ x) := by
  unfold byte
  conv => rhs; rw [split8 x, Nat.xor_comm (2 ^ 8 * (x / 256)), ← Nat.xor_assoc, steps_xor, steps_shift]
/-- A number's bytes. -/
theorem bytes_leB (w : Nat) : ∀ (s x : Nat), x < 2 ^ (8 * w) → bytes s (leB x w) = steps (8 * w) (s ^^^ x) := by
  induction w with
  | zero => intro s x h; simp at h; subst h; simp [leB, bytes, steps]
  | succ w ih =>
    intro s x h
    rw [leB_succ]
    show bytes (byte s ((x % 256 : Nat) : Int).toNat) (leB (x / 256) w) = _
    rw [Int.toNat_natCast, ih _ _ (by rw [show 8 * (w + 1) = 8 + 8 * w by omega, Nat.pow_add] at h; rw [Nat.div_lt_iff_lt_mul (by decide)]; rwa [Nat.mul_comm]), byte_high, show 8 * (w + 1) = 8 + 8 * w by omega, steps_add]
theorem not_xor {r : Nat} (h : r < 4294967296) : r ^^^ (4294967295 - r) = 4294967295 := by
  rw [← Go.Proofs.Ytncmnfnminjchaa.not_nat r h, Nat.xor_comm 4294967295 r, ← Nat.xor_assoc, Nat.xor_self, Nat.zero_xor]
/-- A block's own sum. -/
theorem sum_sealed {l : List Int} (hl : Within 0 255 l) : sum (l ++ leB (sum l) 4) = 558161692 := by
  have h := bytes_lt (s := 4294967295) (by decide) hl
  have e : sum l = 4294967295 - bytes 4294967295 l := rfl
  have hx : sum l < 2 ^ (8 * 4) := sum_lt hl
  show 4294967295 - bytes 4294967295 (l ++ leB (sum l) 4) = _
  rw [bytes_append, bytes_leB 4 _ _ hx, e, not_xor h]
  decide +kernel
theorem leB4 (x : Nat) (hx : x < 4294967296) : ∃ a b c d : Nat, leB x 4 = [(a : Int), (b : Int), (c : Int), (d : Int)] ∧ a < 256 ∧ b < 256 ∧ c < 256 ∧ d < 256 ∧ x = a + 256 * b + 65536 * c + 16777216 * d := by
  refine ⟨x % 256, x / 256 % 256, x / 256 / 256 % 256, x / 256 / 256 / 256 % 256, ?_, by omega, by omega, by omega, by omega, by omega⟩
  rw [leB_succ, leB_succ, leB_succ, leB_succ]; rfl

end Cad.Crc
