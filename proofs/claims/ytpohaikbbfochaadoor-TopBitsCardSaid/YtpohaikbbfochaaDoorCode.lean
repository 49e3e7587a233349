/-
  Codes, plainly, over lists of truth values: runs, Rice codes, the code with two levels; reading is the inverse of writing.
-/
import Derived.Test.YtpohaikbbfochaaDoorBitP
namespace Cad.Code
open Go Cad Cad.Bit
set_option linter.unusedVariables false

/-- What reading gives: a number and how many bits it had, or an error's number. -/
inductive Got where
  | ok (v n : Nat)
  | err (e : Nat)
deriving DecidableEq

/-- How many ones bits begin with. -/
def ones : List Bool → Nat
  | true :: t => ones t + 1
  | _ => 0
theorem ones_le : ∀ l : List Bool, ones l ≤ l.length
  | [] => Nat.le_refl _
  | true :: t => by have := ones_le t; simp only [ones, List.length_cons]; omega
  | false :: t => Nat.zero_le _
theorem ones_replicate (n : Nat) (l : List Bool) : ones (List.replicate n true ++ l) = n + ones l := by
  induction n with
  | zero => simp
  | succ n ih => rw [List.replicate_succ, List.cons_append, ones, ih]; omega
theorem ones_split : ∀ l : List Bool, ∃ r, l = List.replicate (ones l) true ++ r ∧ (r = [] ∨ ∃ t, r = false :: t)
  | [] => ⟨[], rfl, .inl rfl⟩
  | true :: t => by
    obtain ⟨r, h1, h2⟩ := ones_split t
    exact ⟨r, by rw [ones, List.replicate_succ, List.cons_append, ← h1], h2⟩
  | false :: t => ⟨false :: t, rfl, .inr ⟨t, rfl⟩⟩
theorem ones_take (l : List Bool) (m : Nat) : ones (l.take m) = min (ones l) m := by
  induction l generalizing m with
  | nil => simp [ones]
  | cons b t ih =>
    cases m with
    | zero => simp [ones]
    | succ m => cases b with
      | false => simp [ones]
      | true => simp only [List.take_succ_cons, ones, ih]; omega
theorem ones_get {l : List Bool} {i : Nat} (h : i < ones l) : l[i]? = some true := by
  induction l generalizing i with
  | nil => simp [ones] at h
  | cons b t ih =>
    cases b with
    | false => simp [ones] at h
    | true =>
      cases i with
      | zero => rfl
      | succ i => rw [List.getElem?_cons_succ]; exact ih (by simp only [ones] at h; omega)
theorem ones_end {l : List Bool} (h : ones l < l.length) : l[ones l]? = some false := by
  induction l with
  | nil => simp at h
  | cons b t ih =>
    cases b with
    | false => rfl
    | true => simp only [ones, List.length_cons] at h ⊢; rw [List.getElem?_cons_succ]; exact ih (by omega)

/-- The run of a number. -/
def run (n : Nat) : List Bool := List.replicate n true ++ (if n < 48 then [false] else [])
def runLen (n : Nat) : Nat := min (n + 1) 48
theorem run_len {n : Nat} (h : n ≤ 48) : (run n).length = runLen n := by
  unfold run runLen
  by_cases h1 : n < 48
  · simp [h1]; omega
  · obtain rfl : n = 48 := by omega
    simp
theorem lowBits_ones : ∀ n : Nat, lowBits (2 ^ n - 1) n = List.replicate n true
  | 0 => rfl
  | n + 1 => by
    have h := Nat.two_pow_pos n
    have h1 : (2 ^ (n + 1) - 1) / 2 = 2 ^ n - 1 := by rw [Nat.pow_succ]; omega
    have h2 : (2 ^ (n + 1) - 1) % 2 = 1 := by rw [Nat.pow_succ]; omega
    rw [lowBits, h1, h2, lowBits_ones n, List.replicate_succ]; rfl
theorem lowBits_run {n : Nat} (h : n ≤ 48) : lowBits (2 ^ n - 1) (runLen n) = run n := by
  unfold run runLen
  by_cases h1 : n < 48
  · rw [Nat.min_eq_left (by omega), lowBits_add, lowBits_ones, if_pos h1, Nat.div_eq_of_lt (by have := Nat.two_pow_pos n; omega)]; rfl
  · obtain rfl : n = 48 := by omega
    rw [if_neg h1, List.append_nil, Nat.min_eq_right (by omega), lowBits_ones]

/-- The run that bits begin with. -/
def readU (l : List Bool) : Got :=
  if ones (l.take 48) = 48 then .ok 48 48 else if ones (l.take 48) < l.length then .ok (ones (l.take 48)) (ones (l.take 48) + 1) else .err 24

theorem readU_run {n : Nat} (h : n ≤ 48) (t : List Bool) : readU (run n ++ t) = .ok n (runLen n) := by
  unfold readU run runLen
  by_cases h1 : n < 48
  · have e : ones ((List.replicate n true ++ (if n < 48 then [false] else []) ++ t).take 48) = n := by
      rw [if_pos h1, List.append_assoc, ones_take, ones_replicate]; simp [ones]; omega
    rw [e, if_neg (by omega), if_pos (by simp [h1]), Nat.min_eq_left (by omega)]
  · obtain rfl : n = 48 := by omega
    have e : ones ((List.replicate 48 true ++ (if 48 < 48 then [false] else []) ++ t).take 48) = 48 := by
      rw [List.append_assoc, ones_take, ones_replicate]; omega
    rw [e]; rfl
theorem readU_inv {l : List Bool} {n m : Nat} (h : readU l = .ok n m) : n ≤ 48 ∧ m = runLen n ∧ ∃ t, l = run n ++ t := by
  unfold readU at h
  have ht := ones_take l 48
  obtain ⟨r, h1, h2⟩ := ones_split l
  have hle := ones_le l
  split at h
  · injection h with h3 h4
    subst h3 h4
    refine ⟨Nat.le_refl _, rfl, List.replicate (ones l - 48) true ++ r, ?_⟩
    unfold run
    rw [if_neg (by omega), List.append_nil, ← List.append_assoc, List.replicate_append_replicate, show 48 + (ones l - 48) = ones l by omega]; exact h1
  · split at h
    · injection h with h3 h4
      subst h3 h4
      have e : ones (l.take 48) = ones l := by omega
      rw [e]
      refine ⟨by omega, by unfold runLen; omega, ?_⟩
      rcases h2 with rfl | ⟨t, rfl⟩
      · exfalso
        have := congrArg List.length h1
        simp at this
        omega
      · refine ⟨t, ?_⟩
        unfold run
        rw [if_pos (by omega), List.append_assoc]; exact h1
    · cases h
theorem readU_err {l : List Bool} {e : Nat} (h : readU l = .err e) : e = 24 ∧ ones l = l.length ∧ l.length < 48 := by
  unfold readU at h
  have ht := ones_take l 48
  have hle := ones_le l
  split at h
  · cases h
  · split at h
    · cases h
    · injection h with h
      exact ⟨h.symm, by omega, by omega⟩
theorem readU_cut {n i : Nat} (h : n ≤ 48) (hi : i < runLen n) : readU ((run n).take i) = .err 24 := by
  have h2 : i ≤ n := by unfold runLen at hi; omega
  have h3 : i < 48 := by unfold runLen at hi; omega
  have e : (run n).take i = List.replicate i true := by
    unfold run; rw [List.take_append_of_le_length (by simpa using h2), List.take_replicate, Nat.min_eq_left h2]
  rw [e]
  unfold readU
  have e2 : ones ((List.replicate i true).take 48) = i := by
    have := ones_replicate i []
    rw [List.append_nil] at this
    rw [ones_take, this]; simp [ones]; omega
  rw [e2, if_neg (by omega), if_neg (by simp)]

/-- A Rice code. -/
def rice (v k : Nat) : List Bool := if v / 2 ^ k < 48 then run (v / 2 ^ k) ++ lowBits (v % 2 ^ k) k else run 48 ++ lowBits v 32
def riceLen (v k : Nat) : Nat := if v / 2 ^ k < 48 then v / 2 ^ k + 1 + k else 80
theorem rice_len (v k : Nat) : (rice v k).length = riceLen v k := by
  unfold rice riceLen
  split
  · rw [List.length_append, run_len (by omega), lowBits_len]; unfold runLen; omega
  · rw [List.length_append, run_len (by omega), lowBits_len]; rfl
/-- How many bits stand behind a run. -/
def restLen (q k : Nat) : Nat := if q = 48 then 32 else k
/-- The Rice code that bits begin with. -/
def readR (l : List Bool) (k : Nat) : Got :=
  match readU l with
  | .err e => .err e
  | .ok q u =>
    if l.length - u < restLen q k then .err 24
    else if q < 48 then .ok (q * 2 ^ k + bval ((l.drop u).take (restLen q k))) (u + restLen q k)
    else if bval ((l.drop u).take (restLen q k)) / 2 ^ k < 48 then .err 12
    else .ok (bval ((l.drop u).take (restLen q k))) (u + restLen q k)

theorem runLen_lt {n : Nat} (h : n < 48) : runLen n = n + 1 := by unfold runLen; omega
theorem drop_run_append {n : Nat} (h : n ≤ 48) (t : List Bool) : (run n ++ t).drop (runLen n) = t := by rw [← run_len h, List.drop_left]

theorem readR_rice {v k : Nat} (hv : v < 4294967296) (t : List Bool) : readR (rice v k ++ t) k = .ok v (riceLen v k) := by
  have hp := Nat.two_pow_pos k
  by_cases h : v / 2 ^ k < 48
  · have e : rice v k ++ t = run (v / 2 ^ k) ++ (lowBits (v % 2 ^ k) k ++ t) := by unfold rice; rw [if_pos h, List.append_assoc]
    rw [e]
    unfold readR riceLen restLen
    rw [readU_run (by omega), if_pos h]
    dsimp only
    rw [if_neg (show ¬ v / 2 ^ k = 48 by omega), if_pos h, drop_run_append (by omega), if_neg, List.take_left' (lowBits_len _ _), bval_lowBits_lt (Nat.mod_lt _ hp), runLen_lt h, Nat.div_add_mod']
    rw [List.length_append, List.length_append, run_len (by omega), lowBits_len]; omega
  · have e : rice v k ++ t = run 48 ++ (lowBits v 32 ++ t) := by unfold rice; rw [if_neg h, List.append_assoc]
    have hv' : v < 2 ^ 32 := hv
    rw [e]
    unfold readR riceLen restLen
    rw [readU_run (by omega), if_neg h]
    dsimp only
    rw [if_pos rfl, drop_run_append (by omega), if_neg, if_neg (by omega), List.take_left' (lowBits_len _ _), bval_lowBits_lt hv', if_neg h]
    · rfl
    · rw [List.length_append, List.length_append, run_len (by omega), lowBits_len]; omega
theorem readR_inv {l : List Bool} {k v n : Nat} (h : readR l k = .ok v n) : v / 2 ^ k < 48 + 4294967296 ∧ n = riceLen v k ∧ ∃ t, l = rice v k ++ t := by
  have hp := Nat.two_pow_pos k
  unfold readR at h
  cases hu : readU l with
  | err e => rw [hu] at h; cases h
  | ok q u =>
    rw [hu] at h
    dsimp only at h
    obtain ⟨h1, rfl, t, rfl⟩ := readU_inv hu
    rw [drop_run_append h1] at h
    have hll : (run q ++ t).length - runLen q = t.length := by rw [List.length_append, run_len h1]; omega
    rw [hll] at h
    split at h
    · cases h
    · rename_i hlen
      have hb := bval_lt (t.take (restLen q k))
      rw [List.length_take, Nat.min_eq_left (by omega)] at hb
      split at h
      · rename_i hq
        injection h with h3 h4
        have hr : restLen q k = k := by unfold restLen; rw [if_neg (by omega)]
        rw [hr] at h3 h4 hb hlen
        have hdiv : v / 2 ^ k = q := by
          rw [← h3, Nat.add_comm, Nat.add_mul_div_right _ _ hp, Nat.div_eq_of_lt hb, Nat.zero_add]
        have hmod : v % 2 ^ k = bval (t.take k) := by
          rw [← h3, Nat.add_comm, Nat.add_mul_mod_self_right, Nat.mod_eq_of_lt hb]
        refine ⟨by omega, by unfold riceLen; rw [if_pos (by omega), hdiv, ← h4, runLen_lt hq], t.drop k, ?_⟩
        unfold rice
        rw [if_pos (by omega), hdiv, hmod, List.append_assoc]
        have e2 := lowBits_bval (t.take k)
        rw [List.length_take, Nat.min_eq_left (by omega)] at e2
        rw [e2, List.take_append_drop]
      · split at h
        · cases h
        · rename_i hq hv
          injection h with h3 h4
          obtain rfl : q = 48 := by omega
          have hr : restLen 48 k = 32 := rfl
          rw [hr] at h3 h4 hb hlen hv
          rw [h3] at hv hb
          refine ⟨?_, by unfold riceLen; rw [if_neg hv, ← h4]; rfl, t.drop 32, ?_⟩
          · have := Nat.div_le_self v (2 ^ k)
            have : v < 4294967296 := hb
            omega
          · unfold rice
            rw [if_neg hv, List.append_assoc]
            have e2 := lowBits_bval (t.take 32)
            rw [List.length_take, Nat.min_eq_left (by omega), h3] at e2
            rw [e2, List.take_append_drop]
theorem readR_lt {l : List Bool} {k v n : Nat} (hk : k ≤ 24) (h : readR l k = .ok v n) : v < 4294967296 := by
  obtain ⟨h0, h1, t, rfl⟩ := readR_inv h
  by_cases hv : v / 2 ^ k < 48
  · have hp := Nat.two_pow_pos k
    have : v < 48 * 2 ^ k := (Nat.div_lt_iff_lt_mul hp).1 hv
    have : 2 ^ k ≤ 2 ^ 24 := Nat.pow_le_pow_right (by omega) hk
    have : (2 : Nat) ^ 24 = 16777216 := by decide
    omega
  · unfold readR at h
    have e : rice v k ++ t = run 48 ++ (lowBits v 32 ++ t) := by unfold rice; rw [if_neg hv, List.append_assoc]
    rw [e, readU_run (by omega)] at h
    dsimp only at h
    rw [if_neg (show ¬ (48 : Nat) < 48 by omega)] at h
    split at h
    · cases h
    · split at h
      · cases h
      · injection h with h3 _
        rw [← h3]
        have := bval_lt ((List.drop (runLen 48) (run 48 ++ (lowBits v 32 ++ t))).take (restLen 48 k))
        refine Nat.lt_of_lt_of_le this ?_
        refine Nat.le_trans (Nat.pow_le_pow_right (by omega) (List.length_take_le _ _)) ?_
        show 2 ^ 32 ≤ 4294967296
        decide
theorem readR_err {l : List Bool} {k e : Nat} (h : readR l k = .err e) : e = 24 ∨ e = 12 ∧ 80 ≤ l.length := by
  unfold readR at h
  cases hu : readU l with
  | err e' => rw [hu] at h; injection h with h; exact .inl (by rw [← h]; exact (readU_err hu).1)
  | ok q u =>
    rw [hu] at h
    dsimp only at h
    obtain ⟨h1, rfl, t, rfl⟩ := readU_inv hu
    split at h
    · injection h with h; exact .inl h.symm
    · rename_i hlen
      split at h
      · cases h
      · split at h
        · injection h with h
          refine .inr ⟨h.symm, ?_⟩
          obtain rfl : q = 48 := by omega
          have hr : restLen 48 k = 32 := rfl
          have hr2 : runLen 48 = 48 := rfl
          rw [hr, hr2] at hlen
          omega
        · cases h
/-- Too few bits stay too few if fewer are there; what is complete stays as it is if more are there. -/
theorem readU_more {l : List Bool} {n m : Nat} (h : readU l = .ok n m) (t : List Bool) : readU (l ++ t) = .ok n m := by
  obtain ⟨h1, rfl, r, rfl⟩ := readU_inv h
  rw [List.append_assoc, readU_run h1]
theorem readR_more {l : List Bool} {k v n : Nat} (hk : k ≤ 24) (h : readR l k = .ok v n) (t : List Bool) : readR (l ++ t) k = .ok v n := by
  have hv := readR_lt hk h
  obtain ⟨h1, rfl, r, rfl⟩ := readR_inv h
  rw [List.append_assoc, readR_rice hv]
theorem readR_form {l : List Bool} {k : Nat} (h : readR l k = .err 12) (t : List Bool) : readR (l ++ t) k = .err 12 := by
  unfold readR at h ⊢
  cases hu : readU l with
  | err e' => rw [hu] at h; injection h with h; have := (readU_err hu).1; omega
  | ok q u =>
    rw [hu] at h
    rw [readU_more hu]
    dsimp only at h ⊢
    obtain ⟨h1, hu2, r, rfl⟩ := readU_inv hu
    split at h
    · injection h with h; omega
    · rename_i hlen
      have hl2 : u ≤ (run q ++ r).length := by rw [hu2, List.length_append, run_len h1]; omega
      have e : (((run q ++ r) ++ t).drop u).take (restLen q k) = ((run q ++ r).drop u).take (restLen q k) := by
        rw [List.drop_append_of_le_length hl2, List.take_append_of_le_length (by rw [List.length_drop]; omega)]
      rw [e]
      split at h
      · cases h
      · rename_i hq
        split at h
        · rename_i hv
          rw [if_neg (by rw [List.length_append]; omega), if_neg hq, if_pos hv]
        · cases h
theorem readR_cut {v k i : Nat} (hv : v < 4294967296) (hi : i < riceLen v k) (hk : k ≤ 24) : readR ((rice v k).take i) k = .err 24 := by
  cases h : readR ((rice v k).take i) k with
  | ok v' n =>
    exfalso
    have h2 := readR_more hk h ((rice v k).drop i)
    rw [List.take_append_drop] at h2
    have h3 := readR_rice (k := k) hv []
    rw [List.append_nil, h2] at h3
    injection h3 with h4 h5
    obtain ⟨_, h6, t, ht⟩ := readR_inv h
    have := congrArg List.length ht
    rw [List.length_append, List.length_take, rice_len, rice_len] at this
    omega
  | err e =>
    rcases readR_err h with rfl | ⟨rfl, _⟩
    · rfl
    · exfalso
      have h2 := readR_form h ((rice v k).drop i)
      rw [List.take_append_drop] at h2
      have h3 := readR_rice (k := k) hv []
      rw [List.append_nil, h2] at h3
      cases h3

theorem rice_len_le (v k : Nat) (hk : k ≤ 24) : k + 1 ≤ riceLen v k ∧ riceLen v k ≤ 80 := by
  unfold riceLen
  generalize v / 2 ^ k = q
  split <;> omega
theorem riceLen_mono {v w : Nat} (k : Nat) (hk : k ≤ 24) (h : v ≤ w) : riceLen v k ≤ riceLen w k := by
  have h1 := Nat.div_le_div_right (c := 2 ^ k) h
  unfold riceLen
  revert h1
  generalize v / 2 ^ k = q
  generalize w / 2 ^ k = r
  intro h1
  split <;> split <;> omega

end Cad.Code
