/-
  Lists of numbers read from bits, and bits that are fed piece by piece, plainly.
-/
import Derived.Test.YtpohaikbbfochaaDual
namespace Cad.Code
open Go Cad Cad.Bit
set_option linter.unusedVariables false

theorem small_nil : Small [] := fun x hx => by cases hx

theorem readR_short {l : List Bool} {k : Nat} (hk : k ≤ 24) (h : readR l k = .err 24) : l.length < 80 := by
  unfold readR at h
  cases hu : readU l with
  | err e' => have := (readU_err hu).2.2; omega
  | ok q u =>
    rw [hu] at h
    dsimp only at h
    obtain ⟨h1, rfl, t, rfl⟩ := readU_inv hu
    split at h
    · rename_i hlen
      unfold restLen at hlen
      unfold runLen at hlen
      split at hlen <;> omega
    · split at h
      · cases h
      · split at h
        · injection h with h; omega
        · cases h
theorem readD_short {l : List Bool} {d : Dual} (hd : d.Ok) (h : readD l d = .err 24) : l.length ≤ 80 := by
  unfold readD at h
  split at h
  · simp
  · split at h
    · rename_i h2; have := hd.1; rw [List.length_cons]; omega
    · cases h
  · rename_i t
    split at h
    · rename_i e' hr
      injection h with h
      subst h
      have := readR_short hd.2.1 hr
      rw [List.length_cons]; omega
    · split at h
      · injection h with h; omega
      · cases h
theorem readD_len {l : List Bool} {d : Dual} {v n : Nat} (hd : d.Ok) (h : readD l d = .ok v n) : 1 ≤ n ∧ n ≤ 81 ∧ n ≤ l.length := by
  obtain ⟨rfl, t, rfl⟩ := readD_inv hd h
  have := lenD_le hd v
  rw [List.length_append, codeD_len]; omega

/-- What reading several numbers gives: the numbers, how many bits they had, the state; or an error. -/
inductive GotL where
  | ok (vs : List Nat) (n : Nat) (d : Dual)
  | err (e : Nat)
def GotL.cons (v m : Nat) : GotL → GotL
  | .ok vs n d => .ok (v :: vs) (m + n) d
  | .err e => .err e
def readL : Nat → List Bool → Dual → GotL
  | 0, _, d => .ok [] 0 d
  | n + 1, l, d =>
    match readD l d with
    | .err e => .err e
    | .ok v m => (readL n (l.drop m) (learn d v)).cons v m

theorem readL_code {d : Dual} (vs : List Nat) (hs : Small vs) (t : List Bool) : readL vs.length (codeL d vs ++ t) d = .ok vs (codeL d vs).length (afterL d vs) := by
  induction vs generalizing d with
  | nil => rfl
  | cons v r ih =>
    have hv := hs v (List.mem_cons_self ..)
    rw [List.length_cons, readL, codeL, List.append_assoc, readD_code hv]
    dsimp only
    rw [List.drop_left' (codeD_len d v), ih (fun x hx => hs x (List.mem_cons_of_mem _ hx)), GotL.cons, List.length_append, codeD_len, afterL]
theorem readL_inv {n : Nat} {l : List Bool} {d d' : Dual} {vs : List Nat} {m : Nat} (hd : d.Ok) (h : readL n l d = .ok vs m d') : vs.length = n ∧ Small vs ∧ m = (codeL d vs).length ∧ d' = afterL d vs ∧ ∃ t, l = codeL d vs ++ t := by
  induction n generalizing l d vs m d' with
  | zero =>
    rw [readL] at h
    injection h with h1 h2 h3
    subst h1 h2 h3
    exact ⟨rfl, small_nil, rfl, rfl, l, rfl⟩
  | succ n ih =>
    rw [readL] at h
    cases hr : readD l d with
    | err e => rw [hr] at h; cases h
    | ok v k =>
      rw [hr] at h
      dsimp only at h
      have hv := readD_lt hd hr
      obtain ⟨rfl, t, rfl⟩ := readD_inv hd hr
      rw [List.drop_left' (codeD_len d v)] at h
      cases hq : readL n t (learn d v) with
      | err e => rw [hq] at h; cases h
      | ok us k' d'' =>
        rw [hq, GotL.cons] at h
        injection h with h1 h2 h3
        obtain ⟨i1, i2, i3, i4, r, i5⟩ := ih (learn_ok hd hv) hq
        subst h1 h2 h3
        refine ⟨by rw [List.length_cons, i1], fun x hx => ?_, by rw [codeL, List.length_append, codeD_len, i3], by rw [afterL, i4], r, by rw [codeL, List.append_assoc, ← i5]⟩
        rcases List.mem_cons.1 hx with rfl | hx
        · exact hv
        · exact i2 x hx
theorem readL_err {n : Nat} {l : List Bool} {d : Dual} {e : Nat} (hd : d.Ok) (h : readL n l d = .err e) : e = 24 ∨ e = 12 := by
  induction n generalizing l d with
  | zero => cases h
  | succ n ih =>
    rw [readL] at h
    cases hr : readD l d with
    | err e' =>
      rw [hr] at h
      injection h with h
      subst h
      rcases readD_err hd hr with h | h
      · exact .inl h
      · exact .inr h.1
    | ok v k =>
      rw [hr] at h
      dsimp only at h
      cases hq : readL n (l.drop k) (learn d v) with
      | err e' =>
        rw [hq, GotL.cons] at h
        injection h with h
        subst h
        exact ih (learn_ok hd (readD_lt hd hr)) hq
      | ok _ _ _ => rw [hq] at h; cases h

/-- The first of some numbers' codes, cut off: too short for all, and the complete ones are read. -/
theorem readL_cut {d : Dual} (hd : d.Ok) (vs : List Nat) (hs : Small vs) (i : Nat) (hi : i < (codeL d vs).length) : readL vs.length ((codeL d vs).take i) d = .err 24 := by
  induction vs generalizing d i with
  | nil => simp [codeL] at hi
  | cons v r ih =>
    have hv := hs v (List.mem_cons_self ..)
    have hs' : Small r := fun x hx => hs x (List.mem_cons_of_mem _ hx)
    rw [List.length_cons, readL, codeL]
    by_cases h : i < lenD d v
    · rw [List.take_append_of_le_length (by rw [codeD_len]; omega), readD_cut hd hv h]
    · rw [List.take_append, List.take_of_length_le (by rw [codeD_len]; omega), readD_code hv]
      dsimp only
      rw [List.drop_left' (codeD_len d v), codeD_len, ih (learn_ok hd hv) hs' (i - lenD d v) (by rw [codeL, List.length_append, codeD_len] at hi; omega)]
      rfl

/-- What feeding gives: the numbers, how many are still to come, the state, the bits that are left; or an error. -/
inductive Fed where
  | ok (vs : List Nat) (left : Nat) (d : Dual) (rest : List Bool)
  | err (e : Nat)
def Fed.cons (v : Nat) : Fed → Fed
  | .ok vs n d r => .ok (v :: vs) n d r
  | .err e => .err e
def Fed.app (us : List Nat) : Fed → Fed
  | .ok vs n d r => .ok (us ++ vs) n d r
  | .err e => .err e
theorem Fed.app_nil (f : Fed) : Fed.app [] f = f := by cases f <;> rfl
theorem Fed.app_cons (v : Nat) (us : List Nat) (f : Fed) : Fed.app (v :: us) f = (Fed.app us f).cons v := by cases f <;> rfl
theorem Fed.app_app (us vs : List Nat) (f : Fed) : Fed.app us (Fed.app vs f) = Fed.app (us ++ vs) f := by cases f <;> simp [Fed.app]
def feed : Nat → Dual → List Bool → Fed
  | 0, d, l => if 8 ≤ l.length then .err 38 else .ok [] 0 d l
  | n + 1, d, l =>
    match readD l d with
    | .err e => if e = 24 then .ok [] (n + 1) d l else .err e
    | .ok v m => (feed n (learn d v) (l.drop m)).cons v

/-- A valid state: how many are to come, the state of the code, the bits. -/
def FOk (n : Nat) (d : Dual) (l : List Bool) : Prop := d.Ok ∧ if n = 0 then l.length < 8 else readD l d = .err 24
theorem feed_ok {n : Nat} {d : Dual} {l : List Bool} (hd : d.Ok) {vs : List Nat} {n' : Nat} {d' : Dual} {r : List Bool} (h : feed n d l = .ok vs n' d' r) :
    FOk n' d' r ∧ vs.length + n' = n ∧ Small vs ∧ d' = afterL d vs ∧ l = codeL d vs ++ r := by
  induction n generalizing d l vs n' d' r with
  | zero =>
    rw [feed] at h
    split at h
    · cases h
    · injection h with h1 h2 h3 h4
      subst h1 h2 h3 h4
      exact ⟨⟨hd, by rw [if_pos rfl]; omega⟩, rfl, small_nil, rfl, rfl⟩
  | succ n ih =>
    rw [feed] at h
    cases hr : readD l d with
    | err e =>
      rw [hr] at h
      dsimp only at h
      split at h
      · rename_i he
        injection h with h1 h2 h3 h4
        subst h1 h2 h3 h4 he
        exact ⟨⟨hd, by rw [if_neg (by omega)]; exact hr⟩, by simp, small_nil, rfl, rfl⟩
      · cases h
    | ok v m =>
      rw [hr] at h
      dsimp only at h
      have hv := readD_lt hd hr
      obtain ⟨rfl, t, rfl⟩ := readD_inv hd hr
      rw [List.drop_left' (codeD_len d v)] at h
      cases hq : feed n (learn d v) t with
      | err e => rw [hq] at h; cases h
      | ok us k d'' r' =>
        rw [hq, Fed.cons] at h
        injection h with h1 h2 h3 h4
        subst h1 h2 h3 h4
        obtain ⟨i1, i2, i3, i4, i5⟩ := ih (learn_ok hd hv) hq
        refine ⟨i1, by rw [List.length_cons]; omega, fun x hx => ?_, by rw [afterL, i4], by rw [codeL, List.append_assoc, ← i5]⟩
        rcases List.mem_cons.1 hx with rfl | hx
        · exact hv
        · exact i3 x hx
theorem feed_err {n : Nat} {d : Dual} {l : List Bool} {e : Nat} (hd : d.Ok) (h : feed n d l = .err e) : e = 38 ∨ e = 12 := by
  induction n generalizing d l with
  | zero =>
    rw [feed] at h
    split at h
    · injection h with h; exact .inl h.symm
    · cases h
  | succ n ih =>
    rw [feed] at h
    cases hr : readD l d with
    | err e' =>
      rw [hr] at h
      dsimp only at h
      split at h
      · cases h
      · injection h with h
        subst h
        rcases readD_err hd hr with h2 | h2
        · exact absurd h2 (by assumption)
        · exact .inr h2.1
    | ok v m =>
      rw [hr] at h
      dsimp only at h
      cases hq : feed n (learn d v) (l.drop m) with
      | err e' =>
        rw [hq] at h
        injection h with h
        subst h
        exact ih (learn_ok hd (readD_lt hd hr)) hq
      | ok _ _ _ _ => rw [hq] at h; cases h
/-- Pieces do not matter. -/
theorem feed_append {n : Nat} {d : Dual} (hd : d.Ok) (a b : List Bool) :
    feed n d (a ++ b) = match feed n d a with
      | .err e => .err e
      | .ok vs n' d' r => (feed n' d' (r ++ b)).app vs := by
  induction n generalizing d a with
  | zero =>
    rw [feed, feed]
    by_cases h : 8 ≤ a.length
    · rw [if_pos h, if_pos (by rw [List.length_append]; omega)]
    · rw [if_neg h]
      dsimp only
      rw [Fed.app_nil, feed]
  | succ n ih =>
    rw [feed, feed]
    cases hr : readD a d with
    | err e =>
      dsimp only
      by_cases h : e = 24
      · rw [if_pos h]
        dsimp only
        rw [Fed.app_nil, feed]
      · have he : e = 12 := by
          rcases readD_err hd hr with h2 | h2
          · exact absurd h2 h
          · exact h2.1
        subst he
        rw [if_neg h, readD_form hd hr]
        dsimp only
        rw [if_neg h]
    | ok v m =>
      have hl := (readD_len hd hr).2.2
      rw [readD_more hd hr]
      dsimp only
      rw [List.drop_append_of_le_length hl, ih (learn_ok hd (readD_lt hd hr))]
      cases hq : feed n (learn d v) (a.drop m) with
      | err e => rfl
      | ok vs n' d' r =>
        show (Fed.app vs (feed n' d' (r ++ b))).cons v = Fed.app (v :: vs) (feed n' d' (r ++ b))
        rw [Fed.app_cons]
/-- A valid state stays as it is if nothing comes. -/
theorem feed_stays {n : Nat} {d : Dual} {l : List Bool} (h : FOk n d l) : feed n d l = .ok [] n d l := by
  cases n with
  | zero => rw [feed, if_neg (by have := h.2; rw [if_pos rfl] at this; omega)]
  | succ n => rw [feed, show readD l d = .err 24 by have := h.2; rwa [if_neg (by omega)] at this]; rfl
theorem FOk.short {n : Nat} {d : Dual} {l : List Bool} (h : FOk n d l) : l.length ≤ 80 := by
  have h2 := h.2
  split at h2
  · omega
  · exact readD_short h.1 h2

end Cad.Code
