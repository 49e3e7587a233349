/-
  Mixing is a bijection; turns by turns; what is the same becomes zeros.
-/
import Derived.Test.YtphckhgomolhgaaMixP
namespace Cad.Mix
open Go Go.RowKit Cad

theorem wrap32_back {a b : Int} (h : -2147483648 ≤ b ∧ b ≤ 2147483647) : wrap32 (a - wrap32 (a - b)) = b := by unfold wrap32; omega
theorem wrap32_up {a b : Int} (h : -2147483648 ≤ a ∧ a ≤ 2147483647) : wrap32 (wrap32 (a - b) + b) = a := by unfold wrap32; omega
theorem wrap32_dn {a b : Int} (h : -2147483648 ≤ a ∧ a ≤ 2147483647) : wrap32 (wrap32 (a + b) - b) = a := by unfold wrap32; omega

theorem nth_I32 {xs : List Int} (h : I32 xs) (j : Nat) : -2147483648 ≤ nth xs j ∧ nth xs j ≤ 2147483647 := h.nth (by decide) (by decide) j

theorem un_mix {xs : List Int} (h : I32 xs) : ∀ k, k < xs.length → un (mixL xs) k = nth xs (xs.length - 1 - k)
  | 0, hk => by
    unfold un topu
    rw [mixL_len]
    by_cases h1 : 1 < xs.length
    · obtain ⟨j, hj⟩ : ∃ j, xs.length = j + 1 := ⟨xs.length - 1, by omega⟩
      have hj0 : 0 < j := by omega
      rw [if_pos h1, nth_mixL (by omega), nth_mixL (by omega)]
      unfold mixAt
      rw [if_neg (by omega), if_pos (by omega), topm_eq hj hj0, show xs.length - 1 = j by omega, show xs.length - 2 = j - 1 by omega, Nat.sub_zero]
      exact wrap32_up (nth_I32 h j)
    · rw [if_neg h1, nth_mixL (by omega)]
      unfold mixAt topm
      rw [if_neg (by omega), if_neg h1, Nat.sub_zero]
  | k + 1, hk => by
    unfold un
    rw [un_mix h k (by omega), mixL_len, nth_mixL (by omega)]
    unfold mixAt
    rw [if_pos (by omega)]
    unfold d32
    rw [show xs.length - 2 - k + 1 = xs.length - 1 - k by omega, show xs.length - 1 - (k + 1) = xs.length - 2 - k by omega]
    exact wrap32_back (nth_I32 h _)

theorem unL_mixL {xs : List Int} (h : I32 xs) : unL (mixL xs) = xs := by
  refine list_ext (by simp) fun j hj => ?_
  have hj' : j < xs.length := by simpa using hj
  rw [nth_unL (by simpa using hj'), mixL_len, un_mix h _ (by omega)]
  congr 1; omega

theorem mixL_unL {xs : List Int} (h : I32 xs) : mixL (unL xs) = xs := by
  refine list_ext (by simp) fun j hj => ?_
  have hj' : j < xs.length := by simpa using hj
  have step : ∀ i, i + 1 < xs.length → d32 (unL xs) i = nth xs i := fun i hi => by
    unfold d32
    rw [nth_unL (by omega), nth_unL (by omega), show xs.length - 1 - i = (xs.length - 1 - (i + 1)) + 1 by omega]
    show wrap32 (_ - wrap32 (_ - nth xs _)) = _
    rw [show xs.length - 2 - (xs.length - 1 - (i + 1)) = i by omega]
    exact wrap32_back (nth_I32 h i)
  rw [nth_mixL (by simpa using hj')]
  unfold mixAt
  rw [unL_len]
  by_cases h1 : j + 1 < xs.length
  · rw [if_pos h1]; exact step j h1
  · rw [if_neg h1]
    unfold topm
    rw [unL_len]
    by_cases h2 : 1 < xs.length
    · rw [if_pos h2, nth_unL (by omega), step _ (by omega), show xs.length - 1 - (xs.length - 1) = 0 by omega]
      unfold un
      rw [topu_eq (j := xs.length - 1) (by omega) (by omega), show xs.length - 1 = j by omega, show xs.length - 2 = j - 1 by omega]
      exact wrap32_dn (nth_I32 h j)
    · rw [if_neg h2, nth_unL (by omega), show xs.length - 1 - (xs.length - 1) = 0 by omega]
      unfold un topu
      rw [if_neg h2, show xs.length - 1 = j by omega]

/-- The part at an index of what was turned is the part, turned. -/
theorem turns_part {f : List Int → List Int} (hf : ∀ l, (f l).length = l.length) {c : Nat} {l : List Int} : ∀ {k i : Nat}, k * c ≤ l.length → i < k → ((turns f c k l).drop (i * c)).take c = f ((l.drop (i * c)).take c)
  | 0, i, _, hi => by omega
  | k + 1, i, hk, hi => by
    have h' : k * c + c ≤ l.length := by rw [Nat.succ_mul] at hk; exact hk
    have hl : (turns f c k l).length = k * c := turns_len hf (by omega)
    have hm : (f ((l.drop (k * c)).take c)).length = c := by rw [hf, List.length_take, List.length_drop]; omega
    rw [turns]
    by_cases h : i = k
    · subst h
      rw [List.drop_left' hl, List.take_of_length_le (by omega)]
    · have hic : i * c + c ≤ k * c := by rw [← Nat.succ_mul]; exact Nat.mul_le_mul_right c (by omega)
      rw [List.drop_append_of_le_length (by omega), List.take_append_of_le_length (by rw [List.length_drop]; omega)]
      exact turns_part hf (by omega) (by omega)

theorem turns_back {f g : List Int → List Int} (hf : ∀ l, (f l).length = l.length) (P : List Int → Prop) (hP : ∀ l, I32 l → P l) (hgf : ∀ l, P l → g (f l) = l) {c : Nat} {l : List Int} (h32 : I32 l) {q : Nat} (hq : q * c = l.length) :
    ∀ k, k ≤ q → turns g c k (turns f c q l) = l.take (k * c)
  | 0, _ => by simp [turns]
  | k + 1, hk => by
    rw [turns, turns_back hf P hP hgf h32 hq k (by omega), turns_part hf (by omega) (by omega), hgf _ (hP _ ((h32.drop _).take _)), Nat.succ_mul, List.take_add]

theorem undo_all {c q : Nat} {l : List Int} (h : I32 l) (hq : q * c = l.length) : turns unL c q (turns mixL c q l) = l := by
  rw [turns_back mixL_len I32 (fun _ h => h) (fun _ h => unL_mixL h) h hq q (Nat.le_refl _), hq, List.take_length]

/-- n numbers, all x. -/
def allSame (x : Int) (n : Nat) : List Int := List.replicate n x
/-- n numbers, all 0 but the last, which is x. -/
def lastOnly (x : Int) (n : Nat) : List Int := (zeros n).set (n - 1) x
theorem nth_allSame {x : Int} {n j : Nat} (h : j < n) : nth (allSame x n) j = x := by
  unfold nth allSame
  rw [List.getD_eq_getElem?_getD, List.getElem?_replicate, if_pos h]; rfl
theorem allSame_len (x : Int) (n : Nat) : (allSame x n).length = n := by simp [allSame]
theorem lastOnly_len (x : Int) (n : Nat) : (lastOnly x n).length = n := by simp [lastOnly, zeros_len]
theorem I32_allSame {x : Int} (h : -2147483648 ≤ x ∧ x ≤ 2147483647) (n : Nat) : I32 (allSame x n) := fun y hy => by
  rw [List.eq_of_mem_replicate hy]; exact h
theorem mix_allSame {x : Int} (h : -2147483648 ≤ x ∧ x ≤ 2147483647) {n : Nat} (hn : 1 ≤ n) : mixL (allSame x n) = lastOnly x n := by
  have hz : ∀ i, i + 1 < n → d32 (allSame x n) i = 0 := fun i hi => by
    unfold d32; rw [nth_allSame hi, nth_allSame (by omega)]; unfold wrap32; omega
  refine list_ext (by simp [allSame_len, lastOnly_len]) fun j hj => ?_
  have hj' : j < n := by simpa [allSame_len] using hj
  rw [nth_mixL (by rw [allSame_len]; exact hj')]
  unfold mixAt lastOnly
  rw [allSame_len, nth_set (by rw [zeros_len]; omega)]
  by_cases h1 : j + 1 < n
  · rw [if_pos h1, if_neg (by omega), nth_zeros]; exact hz j h1
  · rw [if_neg h1, if_pos (by omega)]
    unfold topm
    rw [allSame_len]
    by_cases h2 : 1 < n
    · rw [if_pos h2, hz _ (by omega), nth_allSame (by omega)]
      show wrap32 (x - 0) = x
      unfold wrap32; omega
    · rw [if_neg h2, nth_allSame (by omega)]
theorem I32_lastOnly {x : Int} (h : -2147483648 ≤ x ∧ x ≤ 2147483647) {n : Nat} (hn : 1 ≤ n) : I32 (lastOnly x n) := by rw [← mix_allSame h hn]; exact I32_mixL (I32_allSame h n)
theorem un_lastOnly {x : Int} (h : -2147483648 ≤ x ∧ x ≤ 2147483647) {n : Nat} (hn : 1 ≤ n) : unL (lastOnly x n) = allSame x n := by rw [← mix_allSame h hn, unL_mixL (I32_allSame h n)]

theorem mix_two (x y : Int) : mixL [x, y] = [wrap32 (y - x), wrap32 (y - (wrap32 (y - x)).tdiv 2)] := by
  refine list_ext rfl fun j hj => ?_
  have hj' : j < 2 := hj
  rw [nth_mixL (by simpa using hj')]
  unfold mixAt topm d32
  rcases (by omega : j = 0 ∨ j = 1) with rfl | rfl <;> rfl

end Cad.Mix
