/-
  The walks of the statements on one moment, without the reference: MixMoments, MixBack, MixTurns, MixEqual, MixTwo.
-/
import Derived.Test.YtphckhgomolhgaaMixF
import Derived.Test.YtphckhgomolhgaaMixQ
namespace Go.Proofs.Ytphckhgomolhgaa
open Go.RowKit Cad Cad.Mix
set_option linter.unusedVariables false

theorem mix1_ok (A : Option Addr) (n c : Nat) (xs : List Int) (w : World) (ha : Row .i32 w A n xs) (h : 1 ≤ n ∧ n ≤ 6) (hx32 : I32 xs) :
    Calls Try.prog 16 #[.slice A n c] w fun e w' => ∃ B d, e = .returned (.tuple #[.slice B n d, .int .i64 0]) ∧ RowC .i32 w' B n d (mixL xs) ∧ Below w.heap.size w w' :=
  (mix1_any A n c xs w ha (by omega) hx32).mono fun e w' ⟨B, m, d, he, hr, hb⟩ => by
    have e1 : oneR mixL xs = mixL xs := by unfold oneR; rw [ha.len, if_pos h]
    have e2 : oneE n = 0 := by unfold oneE; rw [if_pos h]
    rw [e1] at hr
    obtain rfl : n = m := by have h1 := hr.1.len; have h2 := ha.len; rw [mixL_len] at h1; omega
    rw [e2] at he
    exact ⟨B, d, he, hr, hb⟩
theorem unmix1_ok (A : Option Addr) (n c : Nat) (xs : List Int) (w : World) (ha : Row .i32 w A n xs) (h : 1 ≤ n ∧ n ≤ 6) (hx32 : I32 xs) :
    Calls Try.prog 18 #[.slice A n c] w fun e w' => ∃ B d, e = .returned (.tuple #[.slice B n d, .int .i64 0]) ∧ RowC .i32 w' B n d (unL xs) ∧ Below w.heap.size w w' :=
  (unmix1_any A n c xs w ha (by omega) hx32).mono fun e w' ⟨B, m, d, he, hr, hb⟩ => by
    have e1 : oneR unL xs = unL xs := by unfold oneR; rw [ha.len, if_pos h]
    have e2 : oneE n = 0 := by unfold oneE; rw [if_pos h]
    rw [e1] at hr
    obtain rfl : n = m := by have h1 := hr.1.len; have h2 := ha.len; rw [unL_len] at h1; omega
    rw [e2] at he
    exact ⟨B, d, he, hr, hb⟩

set_option maxHeartbeats 400000 in
theorem lawMixMoments (w : World) (A : Option Addr) (n c : Nat) (xs : List Int) (ha : RowC .i32 w A n c xs) (hx32 : I32 xs) :
    Calls Try.prog 4 #[.slice A n c] w fun e w' => e = .returned (.bool true) ∧ Below w.heap.size w w' := by
  have hcap := ha.2
  by_cases hg : 20 < n
  · go_enter Try.func4, Try.ntmps4
    go_wp2
    go_ret
    exact ⟨rfl, Below.refl _ _⟩
  · go_enter Try.func4, Try.ntmps4
    go_wp2_with (at_builtin; refine wpList_app _ i32E rfl _ _ rfl w.heap.size _ _ _ [] rfl (own_empty w _ _ (Nat.le_refl _)) _ _ _ xs rfl (ha.row.alloc _) (by omega) (by simp) ?_)
    intro B0 d0 w0 hown hg0 _
    have b0 : Below w.heap.size w w0 := ((Below.refl _ _).alloc (Nat.le_refl _) _).grown hg0 (by simp) (fun g e => by simp [blockOf] at e; omega)
    clear hg0
    go_wp2_with fail
    refine (mix1_any B0 n d0 xs w0 hown.row (by omega) hx32).mono ?_
    rintro e w1 ⟨B1, m1, d1, rfl, r1, b1⟩
    go_wp2_with fail
    have b01 := b0.trans (b1.mono b0.size)
    refine (refmix1_any A n c xs w1 (ha.row.below b01) (by omega) hx32).mono ?_
    rintro e w2 ⟨B2, m2, d2, rfl, r2, b2⟩
    have b02 := b01.trans (b2.mono b01.size)
    have b12 := b1.trans (b2.mono b1.size)
    go_wp2_with fail
    refine (unmix1_any B0 n d0 xs w2 (hown.row.below b12) (by omega) hx32).mono ?_
    rintro e w3 ⟨B3, m3, d3, rfl, r3, b3⟩
    have b03 := b02.trans (b3.mono b02.size)
    go_wp2_with fail
    refine (refunmix1_any A n c xs w3 (ha.row.below b03) (by omega) hx32).mono ?_
    rintro e w4 ⟨B4, m4, d4, rfl, r4, b4⟩
    have b04 := b03.trans (b4.mono b03.size)
    have b34 := b3.trans (b4.mono b3.size)
    have b24 := b2.trans (b34.mono b2.size)
    have b14 := b1.trans (b24.mono b1.size)
    have s1 : m1 ≤ 9223372036854775807 := by have := r1.2; omega
    have s2 : m2 ≤ 9223372036854775807 := by have := r2.2; omega
    have s3 : m3 ≤ 9223372036854775807 := by have := r3.2; omega
    have s4 : m4 ≤ 9223372036854775807 := by have := r4.2; omega
    go_wp2_with fail
    refine (same_eq B1 B2 m1 m2 d1 d2 _ _ (r1.row.below b24) (r2.row.below b34) s1 s2).mono ?_
    rintro e w5 ⟨rfl, q5, rfl⟩
    go_wp2_with fail
    refine (same_eq B3 B4 m3 m4 d3 d4 _ _ ((r3.row.below b4).drewN q5) (r4.row.drewN q5) s3 s4).mono ?_
    rintro e w6 ⟨rfl, q6, rfl⟩
    go_wp2_with fail
    refine (same_eq B0 A n n d0 c xs _ ((hown.row.below b14).drewN _) ((ha.row.below b04).drewN _) (by omega) (by omega)).mono ?_
    rintro e w7 ⟨rfl, q7, rfl⟩
    go_wp2
    go_ret
    exact ⟨rfl, below_drewN b04 _⟩

set_option maxHeartbeats 400000 in
theorem lawMixBack (w : World) (A : Option Addr) (n c : Nat) (xs : List Int) (ha : RowC .i32 w A n c xs) (hx32 : I32 xs) :
    Calls Try.prog 6 #[.slice A n c] w fun e w' => e = .returned (.bool true) ∧ Below w.heap.size w w' := by
  have hcap := ha.2
  by_cases h1 : n < 1
  · go_enter Try.func6, Try.ntmps6
    go_wp2_with fail
    refine (alive_any _).mono ?_
    rintro e w0 ⟨rfl, b0⟩
    go_wp2
    go_ret
    exact ⟨rfl, b0⟩
  by_cases h6 : 6 < n
  · go_enter Try.func6, Try.ntmps6
    go_wp2_with fail
    refine (alive_any _).mono ?_
    rintro e w0 ⟨rfl, b0⟩
    go_wp2
    go_ret
    exact ⟨rfl, b0⟩
  have hn : 1 ≤ n ∧ n ≤ 6 := by omega
  go_enter Try.func6, Try.ntmps6
  go_wp2_with fail
  refine (alive_any _).mono ?_
  rintro e w0 ⟨rfl, b0⟩
  go_wp2_with fail
  refine (mix1_ok A n c xs w0 (ha.row.below b0) hn hx32).mono ?_
  rintro e w1 ⟨B1, d1, rfl, r1, b1⟩
  have b01 := b0.trans (b1.mono b0.size)
  go_wp2_with fail
  refine (unmix1_ok B1 n d1 _ w1 r1.row hn (I32_mixL hx32)).mono ?_
  rintro e w2 ⟨B2, d2, rfl, r2, b2⟩
  have b02 := b01.trans (b2.mono b01.size)
  rw [unL_mixL hx32] at r2
  go_wp2_with fail
  refine (unmix1_ok A n c xs w2 (ha.row.below b02) hn hx32).mono ?_
  rintro e w3 ⟨B3, d3, rfl, r3, b3⟩
  have b03 := b02.trans (b3.mono b02.size)
  go_wp2_with fail
  refine (mix1_ok B3 n d3 _ w3 r3.row hn (I32_unL hx32)).mono ?_
  rintro e w4 ⟨B4, d4, rfl, r4, b4⟩
  rw [mixL_unL hx32] at r4
  have b04 := b03.trans (b4.mono b03.size)
  have b34 := b3.trans (b4.mono b3.size)
  go_wp2_with fail
  refine (same_eq B2 A n n d2 c xs _ (r2.row.below b34) (ha.row.below b04) (by omega) (by omega)).mono ?_
  rintro e w5 ⟨rfl, q5, rfl⟩
  go_wp2_with fail
  refine (same_eq B4 A n n d4 c xs _ (r4.row.drewN q5) ((ha.row.below b04).drewN _) (by omega) (by omega)).mono ?_
  rintro e w6 ⟨rfl, q6, rfl⟩
  go_wp2
  go_ret
  exact ⟨rfl, below_drewN b04 _⟩

theorem two_mid {x y d : Int} (hx : -1000000000 ≤ x ∧ x ≤ 1000000000) (hy : -1000000000 ≤ y ∧ y ≤ 1000000000) (hd : d = y - x) :
    -1 ≤ 2 * (y - d.tdiv 2) - x - y ∧ 2 * (y - d.tdiv 2) - x - y ≤ 1 ∧ -2000000000 ≤ y - d.tdiv 2 ∧ y - d.tdiv 2 ≤ 2000000000 := by
  by_cases h0 : d < 0
  · have : d.tdiv 2 = -((-d).tdiv 2) := by rw [Int.neg_tdiv, Int.neg_neg]
    rw [this, Int.tdiv_eq_ediv_of_nonneg (by omega)]; omega
  · rw [Int.tdiv_eq_ediv_of_nonneg (by omega)]; omega

set_option maxHeartbeats 400000 in
theorem lawMixTwo (w : World) (x : Int) (hx : -2147483648 ≤ x ∧ x ≤ 2147483647) (y : Int) (hy : -2147483648 ≤ y ∧ y ≤ 2147483647) :
    Calls Try.prog 9 #[.int .i32 x, .int .i32 y] w fun e w' => e = .returned (.bool true) ∧ Below w.heap.size w w' := by
  by_cases hr : -1000000000 ≤ x ∧ x ≤ 1000000000 ∧ -1000000000 ≤ y ∧ y ≤ 1000000000
  · obtain ⟨x1, x2, y1, y2⟩ := hr
    have hd : wrap32 (y - x) = y - x := IntWalk.wrap32_in _ (by omega)
    obtain ⟨t1, t2, t3, t4⟩ := two_mid ⟨x1, x2⟩ ⟨y1, y2⟩ (rfl : y - x = y - x)
    obtain ⟨M, hM⟩ : ∃ M, M = y - (y - x).tdiv 2 := ⟨_, rfl⟩
    have hm : mixL [x, y] = [y - x, M] := by
      rw [mix_two, hd, hM, IntWalk.wrap32_in _ (by omega)]
    rw [← hM] at t1 t2 t3 t4
    have HM := Lib.hid hm
    clear hm hM
    have h32 : I32 [x, y] := fun z hz => by
      rcases List.mem_cons.1 hz with rfl | hz
      · exact hx
      · rcases List.mem_cons.1 hz with rfl | hz
        · exact hy
        · cases hz
    have hd' : (y - x == wrap32 (y - x)) = true := by rw [hd]; simp
    have HD := Lib.hid hd; clear hd
    go_enter Try.func9, Try.ntmps9
    go_wp2_with fail
    refine (alive_any _).mono ?_
    rintro e w0 ⟨rfl, b0⟩
    go_wp2_with fail
    have r0 : Row .i32 (w0.alloc (.cells #[.int .i32 x, .int .i32 y] 21)) (some ⟨w0.heap.size, 0, none⟩) 2 [x, y] := row_new .i32 w0 [x, y] _
    refine (mix1_ok _ 2 2 [x, y] _ r0 (by omega) h32).mono ?_
    rintro e w1 ⟨B1, d1, rfl, r1, b1⟩
    have b01 : Below w.heap.size w w1 := (b0.alloc b0.size _).trans (b1.mono (by have := b0.size; simp; omega))
    rw [HM.out] at r1
    obtain ⟨g, o, rfl, hg, hc⟩ := r1.row.at (by omega)
    have c0 : w1.cell? ⟨g, o, none⟩ = some (.int .i32 (y - x)) := hc 0 (by omega)
    have c1 : w1.cell? ⟨g, o + 1, none⟩ = some (.int .i32 M) := hc 1 (by omega)
    clear hc r0 b1 r1
    go_wp2
    all_goals go_ret
    all_goals exact ⟨rfl, b01⟩
  · by_cases h1 : x < -1000000000
    · go_enter Try.func9, Try.ntmps9
      go_wp2_with fail
      refine (alive_any _).mono ?_
      rintro e w0 ⟨rfl, b0⟩
      go_wp2
      go_ret
      exact ⟨rfl, b0⟩
    by_cases h2 : 1000000000 < x
    · go_enter Try.func9, Try.ntmps9
      go_wp2_with fail
      refine (alive_any _).mono ?_
      rintro e w0 ⟨rfl, b0⟩
      go_wp2
      go_ret
      exact ⟨rfl, b0⟩
    by_cases h3 : y < -1000000000
    · go_enter Try.func9, Try.ntmps9
      go_wp2_with fail
      refine (alive_any _).mono ?_
      rintro e w0 ⟨rfl, b0⟩
      go_wp2
      go_ret
      exact ⟨rfl, b0⟩
    have h4 : 1000000000 < y := by omega
    go_enter Try.func9, Try.ntmps9
    go_wp2_with fail
    refine (alive_any _).mono ?_
    rintro e w0 ⟨rfl, b0⟩
    go_wp2
    go_ret
    exact ⟨rfl, b0⟩

end Go.Proofs.Ytphckhgomolhgaa
