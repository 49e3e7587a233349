/-
  Contracts of copying bits, Put and Get.
-/
import Derived.Test.YtncmnfnminjchaaBitB
import Derived.Test.YtncmnfnminjchaaSt
namespace Go.Proofs.Ytncmnfnminjchaa
open Go.RowKit Cad Cad.Bit
set_option linter.unusedVariables false

theorem clone8_any (A : Option Addr) (n c : Nat) (xs : List Int) (w : World) (ha : Row .u8 w A n xs) (hn : n ≤ 900000) :
    Calls Try.prog 35 #[.slice A n c] w fun e w' => ∃ B d, e = .returned (.slice B n d) ∧ Own w' w.heap.size 5 .u8 B n d xs ∧ Below w.heap.size w w' := by
  have hnil := fun (W : World) (a : Option Addr) (n c : Nat) => Lib.run_eql_slice_nil (P := Try.prog) W 22 5 a n c 0 0 Try.underlying22
  cases A with
  | none =>
    have h0 : n = 0 := by
      rcases Nat.eq_zero_or_pos n with h0 | h0
      · exact h0
      · obtain ⟨_, _, h, _⟩ := ha.at h0
        cases h
    subst h0
    have hx : xs = [] := List.eq_nil_of_length_eq_zero ha.len
    subst hx
    go_enter Try.func35, Try.ntmps35
    go_wp2
    go_ret
    exact ⟨none, 0, rfl, Own.nil _ _ _ _, Below.refl _ _⟩
  | some ad =>
    go_enter Try.func35, Try.ntmps35
    go_wp2_with (at_builtin; refine wpList_app _ u8E rfl _ _ rfl w.heap.size _ _ _ [] rfl (own_empty w _ _ (Nat.le_refl _)) _ _ _ xs rfl (ha.alloc _) (by omega) (by simp) ?_)
    intro B d w1 hown hg _
    have hbel : Below w.heap.size w w1 := ((Below.refl _ _).alloc (Nat.le_refl _) _).grown hg (by simp) (fun g e => by simp [blockOf] at e; omega)
    clear hg
    go_wp2
    go_ret
    exact ⟨B, d, rfl, hown, hbel⟩

theorem pow64 (n : Nat) (h : n ≤ 64) (v : Nat) (hv : v < 18446744073709551616) : n < 64 ∨ v < 2 ^ n := by
  by_cases h1 : n < 64
  · exact .inl h1
  · right; obtain rfl : n = 64 := by omega
    exact hv

/-- What Put returns: the bits, the error. -/
def putR (bs : List Bool) (v : Nat) (n : Int) : List Bool × Int :=
  if n < 0 ∨ 64 < n then ([], 2) else if 2 ^ n.toNat ≤ v then ([], 16) else if 330000 < bs.length + n.toNat then ([], 18) else (bs ++ lowBits v n.toNat, 0)

end Go.Proofs.Ytncmnfnminjchaa

