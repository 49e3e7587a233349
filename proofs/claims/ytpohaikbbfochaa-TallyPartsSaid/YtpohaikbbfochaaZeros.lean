/-
  Zeros behind a state, plainly (for CoderZeros).
-/
import Derived.Test.YtpohaikbbfochaaPre
namespace Cad.Code
open Go Cad Cad.Bit
set_option linter.unusedVariables false

def dec (s : Nat) : Nat := s - s / 16
def decN : Nat → Nat → Nat
  | 0, s => s
  | n + 1, s => decN n (dec s)
theorem dec_le (s : Nat) : dec s ≤ s := Nat.sub_le _ _
theorem dec_mono {a b : Nat} (h : a ≤ b) : dec a ≤ dec b := by unfold dec; omega
theorem decN_mono (n : Nat) {a b : Nat} (h : a ≤ b) : decN n a ≤ decN n b := by
  induction n generalizing a b with
  | zero => exact h
  | succ n ih => exact ih (dec_mono h)
theorem decN_le (n s : Nat) : decN n s ≤ s := by
  induction n generalizing s with
  | zero => exact Nat.le_refl _
  | succ n ih => exact Nat.le_trans (ih _) (dec_le s)
theorem decN_add (m n s : Nat) : decN (m + n) s = decN n (decN m s) := by
  induction m generalizing s with
  | zero => rw [Nat.zero_add]; rfl
  | succ m ih => rw [Nat.succ_add]; exact ih (dec s)
theorem dec_far : decN 400 68719476735 ≤ 15 := by decide +kernel
theorem learn_zero (d : Dual) : learn d 0 = ⟨kOf d.k0 (dec d.s0), d.k1, dec d.s0, d.s1⟩ := by
  unfold learn; rw [if_pos (Nat.two_pow_pos _)]; rfl
theorem after_zeros (n : Nat) (d : Dual) : (afterL d (List.replicate n 0)).k1 = d.k1 ∧ (afterL d (List.replicate n 0)).s1 = d.s1 ∧ (afterL d (List.replicate n 0)).s0 = decN n d.s0 := by
  induction n generalizing d with
  | zero => exact ⟨rfl, rfl, rfl⟩
  | succ n ih =>
    rw [List.replicate_succ, afterL, learn_zero]
    exact ih _
theorem kOf_small {k s : Nat} (hs : s ≤ 15) : kOf k s = k - 1 := by
  unfold kOf
  have hp : 1 ≤ 2 ^ k := Nat.two_pow_pos k
  by_cases h : 0 < k
  · rw [if_pos ⟨h, by omega⟩]
  · rw [if_neg (by omega), if_neg (by omega)]; omega
theorem dec_small {s : Nat} (hs : s ≤ 15) : dec s = s := by unfold dec; omega
theorem zeros_small (n : Nat) (d : Dual) (hs : d.s0 ≤ 15) : (afterL d (List.replicate n 0)).k0 = d.k0 - n := by
  induction n generalizing d with
  | zero => rfl
  | succ n ih =>
    rw [List.replicate_succ, afterL, learn_zero, ih _ (by show dec d.s0 ≤ 15; rw [dec_small hs]; exact hs)]
    show kOf d.k0 (dec d.s0) - n = _
    rw [dec_small hs, kOf_small hs]; omega
theorem zeros_ok (n : Nat) {d : Dual} (hd : d.Ok) : (afterL d (List.replicate n 0)).Ok := afterL_ok hd fun v hv => by rw [List.mem_replicate] at hv; omega
theorem zeros_k0 {d : Dual} (hd : d.Ok) {n : Nat} (hn : 424 ≤ n) : (afterL d (List.replicate n 0)).k0 = 0 := by
  obtain ⟨m, rfl⟩ : ∃ m, n = 400 + m := ⟨n - 400, by omega⟩
  have h1 : List.replicate (400 + m) (0 : Nat) = List.replicate 400 0 ++ List.replicate m 0 := by rw [List.replicate_append_replicate]
  rw [h1, afterL_append]
  have h2 := (after_zeros 400 d).2.2
  have h3 : (afterL d (List.replicate 400 0)).s0 ≤ 15 := by rw [h2]; exact Nat.le_trans (decN_mono 400 hd.2.2.1) dec_far
  have h4 := (zeros_ok 400 hd).1
  rw [zeros_small m _ h3]; omega
theorem zeros_code_any (n : Nat) (d : Dual) (hk : d.k0 ≤ 10) (hs : d.s0 ≤ 16384) : (codeL d (List.replicate n 0)).length ≤ 11 * n := by
  induction n generalizing d with
  | zero => exact Nat.le_refl _
  | succ n ih =>
    rw [List.replicate_succ, codeL, List.length_append, codeD_len, learn_zero]
    have h1 : lenD d 0 = 1 + d.k0 := by unfold lenD; rw [if_pos (Nat.two_pow_pos _)]
    have h2 := dec_le d.s0
    have h3 : kOf d.k0 (dec d.s0) ≤ 10 := by
      unfold kOf
      split
      · omega
      · split
        · rename_i h
          rcases Nat.lt_or_ge d.k0 10 with h5 | h5
          · omega
          · have h6 : d.k0 = 10 := by omega
            rw [h6] at h
            exfalso; omega
        · exact hk
    have h4 := ih ⟨kOf d.k0 (dec d.s0), d.k1, dec d.s0, d.s1⟩ h3 (by show dec d.s0 ≤ 16384; omega)
    rw [h1]; omega
theorem zeros_code (n : Nat) : (codeL start (List.replicate n 0)).length ≤ 11 * n := zeros_code_any n start (by decide) (by decide)

end Cad.Code
