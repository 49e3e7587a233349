/-
  The walk of MixRuns: program and reference mix and unmix in turn alike, and leave the list as it is.
-/
import Derived.Test.YtphckhgomolhgaaMixE
namespace Go.Proofs.Ytphckhgomolhgaa
open Go.RowKit Cad Cad.Mix
set_option linter.unusedVariables false

set_option maxHeartbeats 400000 in
theorem lawMixRuns (w : World) (ch : Int) (hch : -9223372036854775808 ≤ ch ∧ ch ≤ 9223372036854775807) (A : Option Addr) (n c : Nat) (xs : List Int) (ha : RowC .i32 w A n c xs) (hx32 : I32 xs) :
    Calls Try.prog 3 #[.int .i64 ch, .slice A n c] w fun e w' => e = .returned (.bool true) ∧ Below w.heap.size w w' := by
  by_cases hg : greatB n = true
  · go_enter Try.func3, Try.ntmps3
    go_wp2_with fail
    refine (great_any _ _ _ _).mono ?_
    rintro e w' ⟨rfl, rfl⟩
    go_wp2
    go_ret
    exact ⟨rfl, Below.refl _ _⟩
  · have hg' : greatB n = false := by simpa using hg
    have hn : n ≤ 4100 := by
      unfold greatB at hg'
      simp at hg'
      omega
    clear hg
    go_enter Try.func3, Try.ntmps3
    go_wp2_with fail
    refine (great_any _ _ _ _).mono ?_
    rintro e w' ⟨rfl, rfl⟩
    go_wp2_with (at_builtin; refine wpList_app _ i32E rfl _ _ rfl w.heap.size _ _ _ [] rfl (own_empty w _ _ (Nat.le_refl _)) _ _ _ xs rfl (ha.row.alloc _) (by omega) (by simp) ?_)
    intro B0 d0 w0 hown hg0 _
    have b0 : Below w.heap.size w w0 := ((Below.refl _ _).alloc (Nat.le_refl _) _).grown hg0 (by simp) (fun g e => by simp [blockOf] at e; omega)
    clear hg0
    go_wp2_with fail
    refine (all_any ch B0 n d0 xs w0 hown.row hn hx32).mono ?_
    rintro e w1 ⟨B1, m1, d1, rfl, r1, b1⟩
    go_wp2_with fail
    have b01 := b0.trans (b1.mono b0.size)
    refine (refall_any ch A n c xs w1 (ha.below b01) hn hx32).mono ?_
    rintro e w2 ⟨B2, m2, d2, rfl, r2, b2⟩
    have b02 := b01.trans (b2.mono b01.size)
    have b12 := b1.trans (b2.mono b1.size)
    go_wp2_with fail
    refine (undo_any ch B0 n d0 xs w2 (hown.row.below b12) hn hx32).mono ?_
    rintro e w3 ⟨B3, m3, d3, rfl, r3, b3⟩
    have b03 := b02.trans (b3.mono b02.size)
    go_wp2_with fail
    refine (refundo_any ch A n c xs w3 (ha.below b03) hn hx32).mono ?_
    rintro e w4 ⟨B4, m4, d4, rfl, r4, b4⟩
    have b04 := b03.trans (b4.mono b03.size)
    have b34 := b3.trans (b4.mono b3.size)
    have b24 := b2.trans (b34.mono b2.size)
    have b14 := b1.trans (b24.mono b1.size)
    have s1 : m1 ≤ 9223372036854775807 := by have := r1.2; omega
    have s2 : m2 ≤ 9223372036854775807 := by have := r2.2; omega
    have s3 : m3 ≤ 9223372036854775807 := by have := r3.2; omega
    have s4 : m4 ≤ 9223372036854775807 := by have := r4.2; omega
    go_wp2_with fail
    refine (same_eq B1 B2 m1 m2 d1 d2 _ _ (r1.row.below b24) (r2.row.below b34) s1 s2).mono ?_
    rintro e w5 ⟨rfl, q5, rfl⟩
    go_wp2_with fail
    refine (same_eq B3 B4 m3 m4 d3 d4 _ _ ((r3.row.below b4).drewN q5) (r4.row.drewN q5) s3 s4).mono ?_
    rintro e w6 ⟨rfl, q6, rfl⟩
    go_wp2_with fail
    refine (same_eq B0 A n n d0 c xs _ ((hown.row.below b14).drewN _) ((ha.row.below b04).drewN _) (by omega) (by omega)).mono ?_
    rintro e w7 ⟨rfl, q7, rfl⟩
    go_wp2
    go_ret
    exact ⟨rfl, below_drewN b04 _⟩
end Go.Proofs.Ytphckhgomolhgaa
