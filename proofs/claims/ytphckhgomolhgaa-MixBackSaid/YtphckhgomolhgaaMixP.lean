/-
  Mixing, plainly: what mixing and unmixing make of a list of numbers; what is done in turns.
-/
import Derived.Test.YtphckhgomolhgaaKit
namespace Cad.Mix
open Go Go.RowKit Cad

/-- Every number is an int32. -/
abbrev I32 (xs : List Int) : Prop := Within (-2147483648) 2147483647 xs

theorem wrap32_bd (x : Int) : -2147483648 ≤ wrap32 x ∧ wrap32 x ≤ 2147483647 := by unfold wrap32; omega
theorem wrap32_half {y : Int} (h : -2147483648 ≤ y ∧ y ≤ 2147483647) : wrap32 (y.tdiv 2) = y.tdiv 2 := by
  apply IntWalk.wrap32_in
  by_cases h0 : y < 0
  · have : y.tdiv 2 = -((-y).tdiv 2) := by rw [Int.neg_tdiv, Int.neg_neg]
    rw [this, Int.tdiv_eq_ediv_of_nonneg (by omega)]; omega
  · rw [Int.tdiv_eq_ediv_of_nonneg (by omega)]; omega

def d32 (xs : List Int) (j : Nat) : Int := wrap32 (nth xs (j + 1) - nth xs j)
def topm (xs : List Int) : Int := if 1 < xs.length then wrap32 (nth xs (xs.length - 1) - (d32 xs (xs.length - 2)).tdiv 2) else nth xs (xs.length - 1)
def mixAt (xs : List Int) (j : Nat) : Int := if j + 1 < xs.length then d32 xs j else topm xs
/-- A moment, mixed. -/
def mixL (xs : List Int) : List Int := (List.range xs.length).map (mixAt xs)
/-- Behind i rounds of mixing in place. -/
def mixTo (xs : List Int) (i : Nat) : List Int := (List.range xs.length).map fun j => if j < i then d32 xs j else nth xs j

def topu (xs : List Int) : Int := if 1 < xs.length then wrap32 (nth xs (xs.length - 1) + (nth xs (xs.length - 2)).tdiv 2) else nth xs (xs.length - 1)
def un (xs : List Int) : Nat → Int
  | 0 => topu xs
  | k + 1 => wrap32 (un xs k - nth xs (xs.length - 2 - k))
/-- A moment, unmixed. -/
def unL (xs : List Int) : List Int := (List.range xs.length).map fun j => un xs (xs.length - 1 - j)
/-- m numbers are still to be unmixed in place. -/
def unTo (xs : List Int) (m : Nat) : List Int := (List.range xs.length).map fun j => if m ≤ j then un xs (xs.length - 1 - j) else nth xs j

@[simp] theorem mixL_len (xs : List Int) : (mixL xs).length = xs.length := by simp [mixL]
@[simp] theorem mixTo_len (xs : List Int) (i : Nat) : (mixTo xs i).length = xs.length := by simp [mixTo]
@[simp] theorem unL_len (xs : List Int) : (unL xs).length = xs.length := by simp [unL]
@[simp] theorem unTo_len (xs : List Int) (i : Nat) : (unTo xs i).length = xs.length := by simp [unTo]
theorem nth_mixL {xs : List Int} {j : Nat} (h : j < xs.length) : nth (mixL xs) j = mixAt xs j := nth_map_range h
theorem nth_mixTo {xs : List Int} {i j : Nat} (h : j < xs.length) : nth (mixTo xs i) j = if j < i then d32 xs j else nth xs j := nth_map_range h
theorem nth_unL {xs : List Int} {j : Nat} (h : j < xs.length) : nth (unL xs) j = un xs (xs.length - 1 - j) := nth_map_range h
theorem nth_unTo {xs : List Int} {m j : Nat} (h : j < xs.length) : nth (unTo xs m) j = if m ≤ j then un xs (xs.length - 1 - j) else nth xs j := nth_map_range h

theorem mixTo_zero (xs : List Int) : mixTo xs 0 = xs := list_ext (by simp) fun j hj => by
  rw [nth_mixTo (by simpa using hj), if_neg (by omega)]
theorem mixTo_succ {xs : List Int} {i : Nat} (hi : i + 1 < xs.length) : (mixTo xs i).set i (wrap32 (nth xs (i + 1) - nth xs i)) = mixTo xs (i + 1) := by
  refine list_ext (by simp) fun j hj => ?_
  have hj' : j < xs.length := by simpa using hj
  rw [nth_set (by simp; omega), nth_mixTo hj', nth_mixTo hj']
  by_cases h : i = j
  · subst h; rw [if_pos rfl, if_pos (by omega)]; rfl
  · rw [if_neg h]
    by_cases h2 : j < i
    · rw [if_pos h2, if_pos (by omega)]
    · rw [if_neg h2, if_neg (by omega)]
theorem d32_half (xs : List Int) (j : Nat) : wrap32 ((d32 xs j).tdiv 2) = (d32 xs j).tdiv 2 := wrap32_half (wrap32_bd _)
theorem topm_eq {xs : List Int} {j : Nat} (hx : xs.length = j + 1) (h : 0 < j) : topm xs = wrap32 (nth xs j - (d32 xs (j - 1)).tdiv 2) := by
  unfold topm; rw [if_pos (by omega), show xs.length - 1 = j by omega, show xs.length - 2 = j - 1 by omega]
theorem mixTo_end {xs : List Int} {j : Nat} (hx : xs.length = j + 1) (h : 0 < j) : (mixTo xs j).set j (wrap32 (nth xs j - (d32 xs (j - 1)).tdiv 2)) = mixL xs := by
  refine list_ext (by simp) fun i hi => ?_
  have hi' : i < xs.length := by simpa using hi
  rw [nth_set (by simp; omega), nth_mixTo hi', nth_mixL hi']
  unfold mixAt
  by_cases h2 : j = i
  · rw [if_pos h2, if_neg (by omega), topm_eq hx h]
  · rw [if_neg h2, if_pos (by omega), if_pos (by omega)]
theorem mixL_one {xs : List Int} (h : xs.length = 1) : mixL xs = xs := by
  refine list_ext (by simp) fun j hj => ?_
  have hj' : j < xs.length := by simpa using hj
  rw [nth_mixL hj']; unfold mixAt topm; rw [if_neg (by omega), if_neg (by omega), h]; congr 1; omega
theorem I32_mixL {xs : List Int} (h : I32 xs) : I32 (mixL xs) := by
  intro x hx
  obtain ⟨j, hj, rfl⟩ := List.mem_map.1 hx
  unfold mixAt topm d32
  split
  · exact wrap32_bd _
  · split
    · exact wrap32_bd _
    · exact h.nth (by decide) (by decide) _
theorem un_bd {xs : List Int} (h : I32 xs) (k : Nat) : -2147483648 ≤ un xs k ∧ un xs k ≤ 2147483647 := by
  cases k with
  | zero => unfold un topu; split
            · exact wrap32_bd _
            · exact h.nth (by decide) (by decide) _
  | succ k => unfold un; exact wrap32_bd _
theorem I32_unL {xs : List Int} (h : I32 xs) : I32 (unL xs) := by
  intro x hx
  obtain ⟨j, hj, rfl⟩ := List.mem_map.1 hx
  exact un_bd h _

theorem topu_eq {xs : List Int} {j : Nat} (hx : xs.length = j + 1) (h : 0 < j) : topu xs = wrap32 (nth xs j + (nth xs (j - 1)).tdiv 2) := by
  unfold topu; rw [if_pos (by omega), show xs.length - 1 = j by omega, show xs.length - 2 = j - 1 by omega]
theorem unTo_top {xs : List Int} {j : Nat} (hx : xs.length = j + 1) (h : 0 < j) : xs.set j (wrap32 (nth xs j + (nth xs (j - 1)).tdiv 2)) = unTo xs j := by
  refine list_ext (by simp) fun i hi => ?_
  have hi' : i < xs.length := by simpa using hi
  rw [nth_set (by omega), nth_unTo hi']
  by_cases h2 : j = i
  · rw [if_pos h2, if_pos (by omega), show xs.length - 1 - i = 0 by omega]; unfold un; rw [topu_eq hx h]
  · rw [if_neg h2, if_neg (by omega)]
theorem unTo_one {xs : List Int} (h : xs.length = 1) : unTo xs 0 = xs := by
  refine list_ext (by simp) fun j hj => ?_
  have hj' : j < xs.length := by simpa using hj
  rw [nth_unTo hj', if_pos (by omega), show xs.length - 1 - j = 0 by omega]; unfold un topu; rw [if_neg (by omega), show xs.length - 1 = j by omega]
theorem unTo_succ {xs : List Int} {m : Nat} (hm : m + 2 ≤ xs.length) : (unTo xs (m + 1)).set m (wrap32 (un xs (xs.length - 1 - (m + 1)) - nth xs m)) = unTo xs m := by
  refine list_ext (by simp) fun j hj => ?_
  have hj' : j < xs.length := by simpa using hj
  rw [nth_set (by simp; omega), nth_unTo hj', nth_unTo hj']
  by_cases h : m = j
  · subst h; rw [if_pos rfl, if_pos (Nat.le_refl _), show xs.length - 1 - m = (xs.length - 1 - (m + 1)) + 1 by omega]
    show _ = wrap32 (_ - nth xs _)
    rw [show xs.length - 2 - (xs.length - 1 - (m + 1)) = m by omega]
  · rw [if_neg h]
    by_cases h2 : m + 1 ≤ j
    · rw [if_pos h2, if_pos (by omega)]
    · rw [if_neg h2, if_neg (by omega)]
theorem unTo_zero (xs : List Int) : unTo xs 0 = unL xs := list_ext (by simp) fun j hj => by
  have hj' : j < xs.length := by simpa using hj
  rw [nth_unTo hj', nth_unL hj', if_pos (Nat.zero_le _)]

/-- The reference's list while it unmixes: m numbers are still to come. -/
def outTo (xs : List Int) (m : Nat) : List Int := (List.range xs.length).map fun j => if m ≤ j then un xs (xs.length - 1 - j) else 0
@[simp] theorem outTo_len (xs : List Int) (i : Nat) : (outTo xs i).length = xs.length := by simp [outTo]
theorem nth_outTo {xs : List Int} {m j : Nat} (h : j < xs.length) : nth (outTo xs m) j = if m ≤ j then un xs (xs.length - 1 - j) else 0 := nth_map_range h
theorem outTo_top {xs : List Int} {j : Nat} (hx : xs.length = j + 1) (v : Int) : ((zeros (j + 1)).set j v).set j (topu xs) = outTo xs j := by
  refine list_ext (by simp [zeros_len, hx]) fun i hi => ?_
  have hi' : i < xs.length := by simp [zeros_len] at hi; omega
  rw [nth_set (by simp [zeros_len]), nth_outTo hi']
  by_cases h2 : j = i
  · rw [if_pos h2, if_pos (by omega), show xs.length - 1 - i = 0 by omega]; rfl
  · rw [if_neg h2, if_neg (by omega), nth_set (by simp [zeros_len]), if_neg h2, nth_zeros]
theorem outTo_one {xs : List Int} (hx : xs.length = 1) : (zeros 1).set 0 (nth xs 0) = outTo xs 0 := by
  refine list_ext (by simp [zeros_len, hx]) fun i hi => ?_
  have hi' : i < xs.length := by simp [zeros_len] at hi; omega
  rw [nth_set (by simp [zeros_len]), nth_outTo hi', if_pos (by omega), if_pos (by omega), show xs.length - 1 - i = 0 by omega]
  unfold un topu; rw [if_neg (by omega), hx]
theorem outTo_succ {xs : List Int} {m : Nat} (hm : m + 2 ≤ xs.length) : (outTo xs (m + 1)).set m (wrap32 (un xs (xs.length - 1 - (m + 1)) - nth xs m)) = outTo xs m := by
  refine list_ext (by simp) fun j hj => ?_
  have hj' : j < xs.length := by simpa using hj
  rw [nth_set (by simp; omega), nth_outTo hj', nth_outTo hj']
  by_cases h : m = j
  · subst h; rw [if_pos rfl, if_pos (Nat.le_refl _), show xs.length - 1 - m = (xs.length - 1 - (m + 1)) + 1 by omega]
    show _ = wrap32 (_ - nth xs _)
    rw [show xs.length - 2 - (xs.length - 1 - (m + 1)) = m by omega]
  · rw [if_neg h]
    by_cases h2 : m + 1 ≤ j
    · rw [if_pos h2, if_pos (by omega)]
    · rw [if_neg h2, if_neg (by omega)]
theorem outTo_zero (xs : List Int) : outTo xs 0 = unL xs := list_ext (by simp) fun j hj => by
  have hj' : j < xs.length := by simpa using hj
  rw [nth_outTo hj', nth_unL hj', if_pos (Nat.zero_le _)]

/-- k parts of c numbers each, one after the other, each turned by f. -/
def turns (f : List Int → List Int) (c : Nat) : Nat → List Int → List Int
  | 0, _ => []
  | k + 1, l => turns f c k l ++ f ((l.drop (k * c)).take c)
theorem turns_len {f : List Int → List Int} (hf : ∀ l, (f l).length = l.length) {c : Nat} {l : List Int} : ∀ {k : Nat}, k * c ≤ l.length → (turns f c k l).length = k * c
  | 0, _ => by simp [turns]
  | k + 1, h => by
    have h' : k * c + c ≤ l.length := by rw [Nat.succ_mul] at h; exact h
    rw [turns, List.length_append, turns_len hf (by omega), hf, List.length_take, List.length_drop, Nat.succ_mul]; omega
theorem I32_turns {f : List Int → List Int} (hf : ∀ l, I32 l → I32 (f l)) {c : Nat} {l : List Int} (h : I32 l) : ∀ k, I32 (turns f c k l)
  | 0 => fun x hx => by simp [turns] at hx
  | k + 1 => (I32_turns hf h k).append (hf _ ((h.drop _).take _))

/-- The mixed and the unmixed moments in turn. -/
def allL (c : Nat) (l : List Int) : List Int := turns mixL c (l.length / c) l
def undoL (c : Nat) (l : List Int) : List Int := turns unL c (l.length / c) l

end Cad.Mix
