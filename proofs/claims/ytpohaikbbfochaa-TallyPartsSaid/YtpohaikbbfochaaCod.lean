/-
  What decoding and feeding lists gives, plainly: the loops' relations; numbers as a slice's integers.
-/
import Derived.Test.YtpohaikbbfochaaCutL
import Derived.Test.YtpohaikbbfochaaZeros
namespace Cad.Code
open Go Cad Cad.Bit
set_option linter.unusedVariables false

/-- Numbers as a slice's integers. -/
def ints (l : List Nat) : List Int := l.map fun (v : Nat) => ((v : Nat) : Int)
theorem ints_len (l : List Nat) : (ints l).length = l.length := by simp [ints]
theorem ints_nil : ints [] = [] := rfl
theorem ints_app (a b : List Nat) : ints (a ++ b) = ints a ++ ints b := by simp [ints]
theorem ints_next (a : List Nat) (v : Nat) : ints (a ++ [v]) = ints a ++ [(v : Int)] := by simp [ints]
theorem nth_ints {l : List Nat} {j : Nat} (h : j < l.length) : nth (ints l) j = (l[j] : Int) := by
  rw [nth_eq (by rw [ints_len]; exact h)]; simp [ints]
theorem ints_within {l : List Nat} (h : Small l) : Within 0 4294967295 (ints l) := by
  intro x hx
  unfold ints at hx
  obtain ⟨v, hv, rfl⟩ := List.mem_map.1 hx
  have := h v hv
  omega
theorem getElem_pre (xs : List Int) (n i : Nat) (h : i < (pre xs n).length) : (pre xs n)[i] = (nth xs i).toNat := by simp [pre]
theorem getElem_ints (l : List Nat) (i : Nat) (h : i < (ints l).length) : (ints l)[i] = ((l[i]'(by rw [ints_len] at h; exact h) : Nat) : Int) := by simp [ints]
theorem pre_ints (l : List Nat) : pre (ints l) l.length = l := by
  apply List.ext_getElem
  · rw [pre_len]
  · intro i h1 h2
    rw [getElem_pre, nth_ints h2]; rfl
theorem ints_pre {xs : List Int} (h : Within 0 4294967295 xs) {n : Nat} (hn : xs.length = n) : ints (pre xs n) = xs := by
  apply List.ext_getElem
  · rw [ints_len, pre_len, hn]
  · intro i h1 h2
    rw [getElem_ints, getElem_pre, nth_eq h2]
    have := h _ (List.getElem_mem h2)
    omega
theorem pre_row (xs : List Int) {n j : Nat} (h : j ≤ n) : pre (xs.take n) j = pre xs j := by
  unfold pre
  apply List.map_congr_left
  intro i hi
  rw [List.mem_range] at hi
  rw [nth_take (by omega)]
theorem codeP_row (d : Dual) (xs : List Int) {n j : Nat} (h : j ≤ n) : codeP d (xs.take n) j = codeP d xs j := by unfold codeP; rw [pre_row xs h]
theorem stP_row (d : Dual) (xs : List Int) {n j : Nat} (h : j ≤ n) : stP d (xs.take n) j = stP d xs j := by unfold stP; rw [pre_row xs h]
theorem codeP_ints (d : Dual) (l : List Nat) : codeP d (ints l) l.length = codeL d l := by unfold codeP; rw [pre_ints]
theorem stP_ints (d : Dual) (l : List Nat) : stP d (ints l) l.length = afterL d l := by unfold stP; rw [pre_ints]

/-- Numbers that were read ahead. -/
def GotL.app (us : List Nat) (m : Nat) : GotL → GotL
  | .ok vs n d => .ok (us ++ vs) (m + n) d
  | .err e => .err e
theorem GotL.app_nil (g : GotL) : GotL.app [] 0 g = g := by
  cases g
  · rename_i vs n d
    show GotL.ok ([] ++ vs) (0 + n) d = _
    rw [Nat.zero_add, List.nil_append]
  · rfl
theorem GotL.app_cons (us : List Nat) (m v k : Nat) (g : GotL) : GotL.app us m (g.cons v k) = GotL.app (us ++ [v]) (m + k) g := by
  cases g
  · unfold GotL.cons GotL.app; simp [Nat.add_assoc]
  · rfl
/-- One more number of a loop that reads. -/
theorem readL_step {g : GotL} {us : List Nat} {a r v m : Nat} {l : List Bool} {d : Dual} (h : g = (readL (r + 1) (l.drop a) d).app us a) (hr : readD (l.drop a) d = .ok v m) :
    g = (readL r (l.drop (a + m)) (learn d v)).app (us ++ [v]) (a + m) := by
  rw [h, readL, hr]
  dsimp only
  rw [GotL.app_cons, List.drop_drop]
theorem readL_stop {g : GotL} {us : List Nat} {a r e : Nat} {l : List Bool} {d : Dual} (h : g = (readL (r + 1) (l.drop a) d).app us a) (hr : readD (l.drop a) d = .err e) : g = .err e := by
  rw [h, readL, hr]; rfl
theorem readL_end {g : GotL} {us : List Nat} {a : Nat} {l : List Bool} {d : Dual} (h : g = (readL 0 (l.drop a) d).app us a) : g = .ok us a d := by
  rw [h]; unfold readL GotL.app; simp
/-- What Decode returns. -/
def decR (bs : List Bool) (n : Int) : List Nat × Int × Int :=
  if n < 0 then ([], 0, 2) else if 4000 < n then ([], 0, 4) else match readL n.toNat bs start with
    | .ok vs m _ => (vs, (m : Nat), 0)
    | .err e => ([], 0, (e : Nat))

/-- The same for feeding. -/
theorem feed_step {g : Fed} {us : List Nat} {a r v m : Nat} {l : List Bool} {d : Dual} (h : g = (feed (r + 1) d (l.drop a)).app us) (hr : readD (l.drop a) d = .ok v m) :
    g = (feed r (learn d v) (l.drop (a + m))).app (us ++ [v]) := by
  rw [h, feed, hr]
  dsimp only
  rw [List.drop_drop]
  cases feed r (learn d v) (l.drop (a + m)) <;> simp [Fed.cons, Fed.app]
theorem feed_waits {g : Fed} {us : List Nat} {a r : Nat} {l : List Bool} {d : Dual} (h : g = (feed (r + 1) d (l.drop a)).app us) (hr : readD (l.drop a) d = .err 24) : g = .ok us (r + 1) d (l.drop a) := by
  rw [h, feed, hr]
  dsimp only
  rw [if_pos rfl, Fed.app, List.append_nil]
theorem feed_stop {g : Fed} {us : List Nat} {a r e : Nat} {l : List Bool} {d : Dual} (h : g = (feed (r + 1) d (l.drop a)).app us) (hr : readD (l.drop a) d = .err e) (he : e ≠ 24) : g = .err e := by
  rw [h, feed, hr]
  dsimp only
  rw [if_neg he]; rfl
theorem feed_done {g : Fed} {us : List Nat} {a : Nat} {l : List Bool} {d : Dual} (h : g = (feed 0 d (l.drop a)).app us) (hl : l.length - a < 8) : g = .ok us 0 d (l.drop a) := by
  rw [h, feed, if_neg (by rw [List.length_drop]; omega), Fed.app, List.append_nil]
theorem feed_more {g : Fed} {us : List Nat} {a : Nat} {l : List Bool} {d : Dual} (h : g = (feed 0 d (l.drop a)).app us) (hl : 8 ≤ l.length - a) : g = .err 38 := by
  rw [h, feed, if_pos (by rw [List.length_drop]; omega)]; rfl
theorem unpack_append (a b : List Int) : unpack (a ++ b) = unpack a ++ unpack b := by unfold unpack; rw [List.flatMap_append]
/-- One more piece. -/
theorem feed_piece {n n' : Nat} {d d' : Dual} {l r : List Bool} {xs : List Int} {vs : List Nat} {i k : Nat} (hd : d.Ok) (h : feed n d (l ++ unpack (xs.take i)) = .ok vs n' d' r) :
    feed n d (l ++ unpack (xs.take (i + k))) = (feed n' d' (r ++ unpack ((xs.drop i).take k))).app vs := by
  rw [List.take_add, unpack_append, ← List.append_assoc, feed_append hd, h]
theorem feed_early {n : Nat} {d : Dual} {l : List Bool} {xs : List Int} {i e : Nat} (hd : d.Ok) (h : feed n d (l ++ unpack (xs.take i)) = .err e) : feed n d (l ++ unpack xs) = .err e := by
  conv => lhs; rw [← List.take_append_drop i xs]
  rw [unpack_append, ← List.append_assoc, feed_append hd, h]

end Cad.Code
