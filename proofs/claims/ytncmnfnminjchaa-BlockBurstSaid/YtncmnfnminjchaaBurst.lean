/-
  A changed block is refused, plainly: bits changed within 32 that stand side by side.
-/
import Derived.Test.YtncmnfnminjchaaBlkC
namespace Go.Proofs.Ytncmnfnminjchaa
open Go.RowKit Cad Cad.Bit Cad.Crc Cad.Le
set_option linter.unusedVariables false

theorem step_inj0 {x : Nat} (hx : x < 4294967296) (h : Crc.step x = 0) : x = 0 := by
  unfold Crc.step at h
  rcases Nat.mod_two_eq_zero_or_one x with e | e
  · rw [e, Nat.mul_zero, Nat.xor_zero] at h; omega
  · exfalso
    rw [e, Nat.mul_one] at h
    have h2 : x / 2 = 3988292384 := by
      have := congrArg (· ^^^ 3988292384) h
      simp only [Nat.zero_xor] at this
      rwa [Nat.xor_assoc, Nat.xor_self, Nat.xor_zero] at this
    omega
theorem steps_inj0 (n : Nat) {x : Nat} (hx : x < 4294967296) (h : steps n x = 0) : x = 0 := by
  induction n generalizing x with
  | zero => exact h
  | succ n ih => exact step_inj0 hx (ih (step_lt hx) h)
theorem steps_zero (n : Nat) : steps n 0 = 0 := by
  induction n with
  | zero => rfl
  | succ n ih => show steps n (Crc.step 0) = 0; rw [step_zero]; exact ih

theorem bytes_xor : ∀ (r : List Int) (x y : Nat), Crc.bytes (x ^^^ y) r = Crc.bytes x r ^^^ steps (8 * r.length) y := by
  intro r
  induction r with
  | nil => intro x y; rfl
  | cons b r ih =>
    intro x y
    show Crc.bytes (Crc.byte (x ^^^ y) b.toNat) r = Crc.bytes (Crc.byte x b.toNat) r ^^^ _
    have e : Crc.byte (x ^^^ y) b.toNat = Crc.byte x b.toNat ^^^ steps 8 y := by
      unfold Crc.byte
      rw [Nat.xor_assoc, Nat.xor_comm y, ← Nat.xor_assoc, steps_xor]
    rw [e, ih, List.length_cons, show 8 * (r.length + 1) = 8 + 8 * r.length by omega, steps_add]
/-- A bit of one byte is turned. -/
theorem byte_flip (s b j : Nat) (hj : j < 8) : Crc.byte s (b ^^^ 2 ^ j) = Crc.byte s b ^^^ steps (8 - j) 1 := by
  unfold Crc.byte
  rw [← Nat.xor_assoc, steps_xor]
  congr 1
  have h := steps_shift j 1
  rw [Nat.mul_one] at h
  rw [show (8 : Nat) = j + (8 - j) by omega, steps_add, h, show j + (8 - j) - j = 8 - j by omega]

/-- The q-th bit of some bytes is turned. -/
def flip (l : List Int) (q : Nat) : List Int := l.set (q / 8) (((nth l (q / 8)).toNat ^^^ 2 ^ (q % 8) : Nat) : Int)
theorem flip_len (l : List Int) (q : Nat) : (flip l q).length = l.length := by unfold flip; rw [List.length_set]
theorem flip_byte {b : Nat} (q : Nat) (hb : b < 256) : b ^^^ 2 ^ (q % 8) < 256 :=
  xor_lt (n := 8) hb (Nat.pow_lt_pow_right (by omega) (by omega))
theorem flip_within {l : List Int} {q : Nat} (hl : Within 0 255 l) (hq : q < 8 * l.length) : Within 0 255 (flip l q) := by
  intro x hx
  unfold flip at hx
  rcases List.mem_or_eq_of_mem_set hx with h | rfl
  · exact hl x h
  · have h := hl.nth (by decide) (by decide) (q / 8)
    have := flip_byte (b := (nth l (q / 8)).toNat) q (by omega)
    omega
theorem flip_bytes {l : List Int} {q : Nat} (s : Nat) (hq : q < 8 * l.length) : Crc.bytes s (flip l q) = Crc.bytes s l ^^^ steps (8 * l.length - q) 1 := by
  have hk : q / 8 < l.length := by omega
  have e1 : flip l q = l.take (q / 8) ++ (((nth l (q / 8)).toNat ^^^ 2 ^ (q % 8) : Nat) : Int) :: l.drop (q / 8 + 1) := by
    unfold flip
    rw [List.set_eq_take_append_cons_drop, if_pos hk]
  have e2 : l = l.take (q / 8) ++ nth l (q / 8) :: l.drop (q / 8 + 1) := by
    conv => lhs; rw [← List.take_append_drop (q / 8) l, List.drop_eq_getElem_cons hk, ← nth_eq hk]
  have e3 : ∀ x r, Crc.bytes s (l.take (q / 8) ++ x :: r) = Crc.bytes (Crc.byte (Crc.bytes s (l.take (q / 8))) x.toNat) r := fun x r => by rw [bytes_append]; rfl
  have e4 := congrArg (Crc.bytes s) e2
  rw [e3] at e4
  rw [e1, e3, Int.toNat_natCast, byte_flip _ _ _ (Nat.mod_lt _ (by decide)), bytes_xor, ← e4, ← steps_add, List.length_drop]
  congr 2
  omega

/-- The mask's first bits. -/
theorem mask_next {c i : Nat} : c % 2 ^ (i + 1) = if c / 2 ^ i % 2 = 1 then c % 2 ^ i ^^^ 2 ^ i else c % 2 ^ i := by
  have hp := Nat.two_pow_pos i
  have h0 : c % 2 ^ (i + 1) = c % 2 ^ i + 2 ^ i * (c / 2 ^ i % 2) := by
    rw [Nat.pow_succ, Nat.mod_mul]
  split
  · rename_i h
    rw [h0, h, Nat.mul_one]
    have hlt : c % 2 ^ i < 2 ^ i := Nat.mod_lt _ hp
    have e := Nat.two_pow_add_eq_or_of_lt hlt 1
    apply Nat.eq_of_testBit_eq
    intro j
    have e2 := Nat.testBit_two_pow_mul (a := 1) (i := i) (j := j)
    rw [Nat.mul_one] at e e2
    rw [Nat.add_comm, e, Nat.testBit_or, Nat.testBit_xor]
    by_cases hj : j < i
    · rw [Nat.testBit_two_pow]
      have : ¬ i = j := by omega
      simp [this]
    · have : (c % 2 ^ i).testBit j = false := Nat.testBit_lt_two_pow (Nat.lt_of_lt_of_le hlt (Nat.pow_le_pow_right (by omega) (by omega)))
      rw [this]; simp
  · rename_i h
    have : c / 2 ^ i % 2 = 0 := by omega
    rw [h0, this, Nat.mul_zero, Nat.add_zero]

/-- What stands behind i bits: some bytes of the same length; their register. -/
structure Burst (l l' : List Int) (at_ c i : Nat) : Prop where
  len : l'.length = l.length
  within : Within 0 255 l'
  reg : Crc.bytes 4294967295 l' = Crc.bytes 4294967295 l ^^^ steps (8 * l.length - at_) (c % 2 ^ i)
  same : c % 2 ^ i = 0 → l' = l
theorem Burst.zero {l : List Int} (hl : Within 0 255 l) (at_ c : Nat) : Burst l l at_ c 0 :=
  ⟨rfl, hl, by rw [Nat.pow_zero, Nat.mod_one, steps_zero, Nat.xor_zero], fun _ => rfl⟩
theorem Burst.yes {l l' : List Int} {at_ c i : Nat} (h : Burst l l' at_ c i) (hq : at_ + i < 8 * l.length) (hc : c / 2 ^ i % 2 = 1) : Burst l (flip l' (at_ + i)) at_ c (i + 1) ∧ c % 2 ^ (i + 1) ≠ 0 := by
  have hn : c % 2 ^ (i + 1) ≠ 0 := by
    intro h0
    have h1 : c % 2 ^ (i + 1) = c % 2 ^ i + 2 ^ i * (c / 2 ^ i % 2) := by rw [Nat.pow_succ, Nat.mod_mul]
    have := Nat.two_pow_pos i
    rw [hc] at h1; omega
  refine ⟨⟨by rw [flip_len, h.len], flip_within h.within (by rw [h.len]; exact hq), ?_, fun h0 => absurd h0 hn⟩, hn⟩
  rw [flip_bytes _ (by rw [h.len]; exact hq), h.reg, h.len, Nat.xor_assoc]
  congr 1
  rw [mask_next, if_pos hc, steps_xor]
  congr 1
  have hs := steps_shift i 1
  rw [Nat.mul_one] at hs
  rw [show 8 * l.length - at_ = i + (8 * l.length - (at_ + i)) by omega, steps_add, hs]
theorem Burst.no {l l' : List Int} {at_ c i : Nat} (h : Burst l l' at_ c i) (hc : ¬ c / 2 ^ i % 2 = 1) : Burst l l' at_ c (i + 1) ∧ c % 2 ^ (i + 1) = c % 2 ^ i := by
  have e : c % 2 ^ (i + 1) = c % 2 ^ i := by rw [mask_next, if_neg hc]
  exact ⟨⟨h.len, h.within, by rw [e]; exact h.reg, by rw [e]; exact h.same⟩, e⟩
theorem accepted_reg {l : List Int} {m : Nat} (hw : Within 0 255 l) (hl : l.length = m + 4) (h : leB (Crc.sum (l.take m)) 4 = l.drop m) : Crc.bytes 4294967295 l = 4294967295 - 558161692 := by
  have e : l.take m ++ leB (Crc.sum (l.take m)) 4 = l := by rw [h, List.take_append_drop]
  have h1 := sum_sealed (hw.take m)
  rw [e] at h1
  have h2 := bytes_lt (s := 4294967295) (by decide) hw
  unfold Crc.sum at h1
  omega
theorem burst_end {b l' : List Int} {at_ c i : Nat} (hb : Within 0 255 b) (hlen : b.length ≤ 41250) (h : Burst (sealed b) l' at_ c i) (hi : i ≤ 32) :
    (c % 2 ^ i = 0 → unpR l' = (unpack b, 0)) ∧ (c % 2 ^ i ≠ 0 → unpR l' = ([], 22)) := by
  refine ⟨fun h0 => by rw [h.same h0, unp_sealed' hlen], fun h0 => ?_⟩
  have hl' : l'.length = b.length + 4 := by rw [h.len, sealed_len]
  refine unp_sum (m := b.length) hl' hlen fun hacc => h0 ?_
  have r1 := accepted_reg h.within hl' hacc
  have e1 : (sealed b).take b.length = b := by unfold sealed; exact List.take_left' rfl
  have e2 : (sealed b).drop b.length = leB (Crc.sum b) 4 := by unfold sealed; exact List.drop_left' rfl
  have r2 := accepted_reg (m := b.length) (sealed_within hb) (sealed_len b) (by rw [e1, e2])
  have r := h.reg
  rw [r1, r2] at r
  have hx : c % 2 ^ i < 2 ^ 32 := Nat.lt_of_lt_of_le (Nat.mod_lt _ (Nat.two_pow_pos i)) (Nat.pow_le_pow_right (n := 2) (by omega) hi)
  refine steps_inj0 (8 * (sealed b).length - at_) hx ?_
  have := congrArg ((4294967295 - 558161692) ^^^ ·) r
  simp only [← Nat.xor_assoc, Nat.xor_self, Nat.zero_xor] at this
  exact this.symm

end Go.Proofs.Ytncmnfnminjchaa
