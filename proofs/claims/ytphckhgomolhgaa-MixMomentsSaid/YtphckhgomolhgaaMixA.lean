/-
  Contracts of the small functions under the statements on mixing: limits, wrapping, comparing, copying.
-/
import Derived.Test.YtphckhgomolhgaaRows
import Derived.Test.YtphckhgomolhgaaKit
namespace Go.Proofs.Ytphckhgomolhgaa
open Go.RowKit Cad

def greatB (n : Nat) : Bool := (decide (600 < n) && decide (n ≤ 4000)) || decide (4100 < n)

theorem great_any (A : Option Addr) (n c : Nat) (w : World) :
    Calls Try.prog 10 #[.slice A n c] w fun e w' => e = .returned (.bool (greatB n)) ∧ w = w' := by
  go_enter Try.func10, Try.ntmps10
  go_wp2
  all_goals
    go_ret
    exact ⟨ret_bool (by unfold greatB; rw [Bool.eq_iff_iff]; simp; omega), rfl⟩

theorem wrap_any (x : Int) (w : World) :
    Calls Try.prog 29 #[.int .i64 x] w fun e w' => e = .returned (.int .i32 (wrap32 x)) ∧ w = w' := by
  go_enter Try.func29, Try.ntmps29
  go_wp2
  go_ret
  exact ⟨ret_int (by show wrap32 (IntKind.u64.wrap x % 4294967296) = wrap32 x; rw [IntKind.wrap_u64]; unfold wrap32; omega), rfl⟩

/-- The error of moments in turn. -/
def chk (ch : Int) (n : Nat) : Int := if ch < 1 ∨ 6 < ch then 2 else if 4000 < n then 4 else if (n : Int) % ch = 0 then 0 else 2

theorem check_any (ch : Int) (A : Option Addr) (n c : Nat) (w : World) (hn : n ≤ 9223372036854775807) :
    Calls Try.prog 23 #[.int .i64 ch, .slice A n c] w fun e w' => e = .returned (.int .i64 (chk ch n)) ∧ w = w' := by
  by_cases h1 : ch < 1
  · go_enter Try.func23, Try.ntmps23
    go_wp2
    go_ret
    exact ⟨ret_int (by unfold chk; rw [if_pos (by omega)]), rfl⟩
  by_cases h2 : 6 < ch
  · go_enter Try.func23, Try.ntmps23
    go_wp2
    go_ret
    exact ⟨ret_int (by unfold chk; rw [if_pos (by omega)]), rfl⟩
  have hne : (ch == 0) = false := by simp; omega
  go_enter Try.func23, Try.ntmps23
  go_wp2
  all_goals go_ret
  all_goals (refine ⟨ret_int ?_, rfl⟩; unfold chk)
  · rw [if_neg (by omega), if_pos (by omega)]
  · have h : ((n : Int) % ch != 0) = true := by assumption
    rw [if_neg (by omega), if_neg (by omega), if_neg (by simpa using h)]
  · have h : ((n : Int) % ch != 0) = false := by assumption
    rw [if_neg (by omega), if_neg (by omega), if_pos (by simpa using h)]

theorem refcheck_any (ch : Int) (A : Option Addr) (n c : Nat) (w : World) (hn : n ≤ 9223372036854775807) :
    Calls Try.prog 22 #[.int .i64 ch, .slice A n c] w fun e w' => e = .returned (.int .i64 (chk ch n)) ∧ w = w' := by
  by_cases h1 : ch < 1
  · go_enter Try.func22, Try.ntmps22
    go_wp2
    go_ret
    exact ⟨ret_int (by unfold chk; rw [if_pos (by omega)]), rfl⟩
  by_cases h2 : 6 < ch
  · go_enter Try.func22, Try.ntmps22
    go_wp2
    go_ret
    exact ⟨ret_int (by unfold chk; rw [if_pos (by omega)]), rfl⟩
  have hne : (ch == 0) = false := by simp; omega
  have hm : 0 ≤ (n : Int) % ch := Int.emod_nonneg _ (by omega)
  go_enter Try.func22, Try.ntmps22
  go_wp2
  all_goals go_ret
  all_goals (refine ⟨ret_int ?_, rfl⟩; unfold chk)
  · rw [if_neg (by omega), if_pos (by omega)]
  · rw [if_neg (by omega), if_neg (by omega), if_neg (by omega)]
  · rw [if_neg (by omega), if_neg (by omega), if_pos (by omega)]

theorem same_any (A B : Option Addr) (n m c d : Nat) (xs ys : List Int) (w : World) (ha : Row .i32 w A n xs) (hb : Row .i32 w B m ys) (hn : n ≤ 9223372036854775807) (hm : m ≤ 9223372036854775807) :
    Calls Try.prog 15 #[.slice A n c, .slice B m d] w fun e w' => e = .returned (.bool (decide (xs = ys))) ∧ ∃ q, w' = w.drewN q := by
  have hxl := ha.len
  have hyl := hb.len
  by_cases hnm : n = m
  rotate_left
  · have E := Lib.hid (show decide (xs = ys) = false from decide_eq_false (fun e => hnm (by rw [← hxl, ← hyl, e])))
    clear hxl hyl ha hb
    have h1 : ((n : Int) != (m : Int)) = true := by simp; omega
    go_enter Try.func15, Try.ntmps15
    go_wp2
    go_ret
    exact ⟨ret_bool E.out.symm, 0, rfl⟩
  · subst hnm
    have HX := Lib.hid hxl; have HY := Lib.hid hyl; clear hxl hyl
    have h1 : ((n : Int) != (n : Int)) = false := by simp
    go_enter Try.func15, Try.ntmps15
    go_wp2
    go_loopg [5] n (fun k i wr => ∃ j : Nat, j + k = n ∧ i = .int .i64 j ∧ (∀ t, t < j → nth xs t = nth ys t) ∧ ∃ q, wr = w.drewN q)
    case atStart => exact ⟨0, by omega, rfl, fun t ht => absurd ht (by omega), 0, rfl⟩
    case round =>
      obtain ⟨j, hj, rfl, heq, q, rfl⟩ := hrel
      have HE := Lib.hid heq; clear heq
      by_cases hlt : j < n
      · obtain ⟨b1, o1, rfl, hb1, hc1⟩ := ha.at (by omega)
        obtain ⟨b2, o2, rfl, hb2, hc2⟩ := hb.at (by omega)
        have e1 := hc1 j hlt
        have e2 := hc2 j hlt
        clear hc1 hc2
        by_cases hv : nth xs j = nth ys j
        · have hv' : (nth xs j != nth ys j) = false := by simp [hv]
          have HV := Lib.hid hv; clear hv
          go_wp2_with fail
          go_quiet (fail)
          go_wp2
          go_roundg (n - (j + 1))
          case measure => omega
          case rel => exact ⟨j + 1, by omega, by go_num, fun t ht => by
            by_cases h : t = j
            · subst h; exact HV.out
            · exact HE.out t (by omega), _, rfl⟩
        · have hv' : (nth xs j != nth ys j) = true := by simp [hv]
          have HV := Lib.hid (show decide (xs = ys) = false from decide_eq_false (fun e => hv (by rw [e]))); clear hv
          go_wp2_with fail
          go_quiet (fail)
          go_wp2
          go_ret
          exact ⟨ret_bool HV.out.symm, _, by rw [World.drewN_drewN]⟩
      · have hv : decide (xs = ys) = true := decide_eq_true (list_ext (by rw [HX.out, HY.out]) (fun t ht => HE.out t (by have := HX.out; omega)))
        have HV := Lib.hid hv; clear hv
        go_wp2
        go_ret
        exact ⟨ret_bool HV.out.symm, _, rfl⟩

theorem i32E : Elem Try.prog 22 21 .i32 4 := ⟨Try.underlying22, Try.underlying21, by kernel_rfl, by decide⟩

theorem clone_any (A : Option Addr) (n c : Nat) (xs : List Int) (w : World) (ha : Row .i32 w A n xs) (hn : n ≤ 4100) :
    Calls Try.prog 24 #[.slice A n c] w fun e w' => ∃ B d, e = .returned (.slice B n d) ∧ Own w' w.heap.size 21 .i32 B n d xs ∧ Below w.heap.size w w' := by
  have hnil := fun (W : World) (a : Option Addr) (n c : Nat) => Lib.run_eql_slice_nil (P := Try.prog) W 22 21 a n c 0 0 Try.underlying22
  cases A with
  | none =>
    have h0 : n = 0 := by
      rcases Nat.eq_zero_or_pos n with h0 | h0
      · exact h0
      · obtain ⟨_, _, h, _⟩ := ha.at h0
        cases h
    subst h0
    have hx : xs = [] := List.eq_nil_of_length_eq_zero ha.len
    subst hx
    go_enter Try.func24, Try.ntmps24
    go_wp2
    go_ret
    exact ⟨none, 0, rfl, Own.nil _ _ _ _, Below.refl _ _⟩
  | some ad =>
    go_enter Try.func24, Try.ntmps24
    go_wp2_with (at_builtin; refine wpList_app _ i32E rfl _ _ rfl w.heap.size _ _ _ [] rfl (own_empty w _ _ (Nat.le_refl _)) _ _ _ xs rfl (ha.alloc _) (by omega) (by simp) ?_)
    intro B d w1 hown hg _
    have hbel : Below w.heap.size w w1 := ((Below.refl _ _).alloc (Nat.le_refl _) _).grown hg (by simp) (fun g e => by simp [blockOf] at e; omega)
    clear hg
    go_wp2
    go_ret
    exact ⟨B, d, rfl, hown, hbel⟩

end Go.Proofs.Ytphckhgomolhgaa
