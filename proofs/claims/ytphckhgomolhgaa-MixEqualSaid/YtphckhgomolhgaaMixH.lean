/-
  The walks of MixEqual and MixTurns.
-/
import Derived.Test.YtphckhgomolhgaaMixG
namespace Go.Proofs.Ytphckhgomolhgaa
open Go.RowKit Cad Cad.Mix
set_option linter.unusedVariables false

def fillTo (x : Int) (n j : Nat) : List Int := (List.range n).map fun i => if i < j then x else 0
theorem fillTo_len (x : Int) (n j : Nat) : (fillTo x n j).length = n := by simp [fillTo]
theorem nth_fillTo {x : Int} {n j i : Nat} (h : i < n) : nth (fillTo x n j) i = if i < j then x else 0 := nth_map_range h
theorem fillTo_zero (x : Int) (n : Nat) : fillTo x n 0 = zeros n := list_ext (by simp [fillTo_len, zeros_len]) fun i hi => by
  rw [fillTo_len] at hi; rw [nth_fillTo hi, if_neg (by omega), nth_zeros]
theorem fillTo_succ {x : Int} {n j : Nat} (h : j < n) : (fillTo x n j).set j x = fillTo x n (j + 1) := list_ext (by simp [fillTo_len]) fun i hi => by
  have hi' : i < n := by simpa [fillTo_len] using hi
  rw [nth_set (by rw [fillTo_len]; exact h), nth_fillTo hi', nth_fillTo hi']
  by_cases e : j = i
  · rw [if_pos e, if_pos (by omega)]
  · rw [if_neg e]
    by_cases h2 : i < j
    · rw [if_pos h2, if_pos (by omega)]
    · rw [if_neg h2, if_neg (by omega)]
theorem fillTo_end (x : Int) (n : Nat) : fillTo x n n = allSame x n := list_ext (by simp [fillTo_len, allSame_len]) fun i hi => by
  rw [fillTo_len] at hi; rw [nth_fillTo hi, if_pos hi, nth_allSame hi]

set_option maxHeartbeats 400000 in
theorem lawMixEqual (w : World) (x : Int) (hx : -2147483648 ≤ x ∧ x ≤ 2147483647) (ch : Int) (hch : -9223372036854775808 ≤ ch ∧ ch ≤ 9223372036854775807) :
    Calls Try.prog 8 #[.int .i32 x, .int .i64 ch] w fun e w' => e = .returned (.bool true) ∧ Below w.heap.size w w' := by
  by_cases h1 : ch < 1
  · go_enter Try.func8, Try.ntmps8
    go_wp2_with fail
    refine (alive_any _).mono ?_
    rintro e w0 ⟨rfl, b0⟩
    go_wp2
    go_ret
    exact ⟨rfl, b0⟩
  by_cases h6 : 6 < ch
  · go_enter Try.func8, Try.ntmps8
    go_wp2_with fail
    refine (alive_any _).mono ?_
    rintro e w0 ⟨rfl, b0⟩
    go_wp2
    go_ret
    exact ⟨rfl, b0⟩
  obtain ⟨k, rfl⟩ := Int.eq_ofNat_of_zero_le (by omega : 0 ≤ ch)
  have k1 : 1 ≤ k := by omega
  have k6 : k ≤ 6 := by omega
  have hmk := fun W => run_mk i32E k (by omega) .i64 .i64 W
  go_enter Try.func8, Try.ntmps8
  go_wp2_with fail
  refine (alive_any _).mono ?_
  rintro e w0 ⟨rfl, b0⟩
  go_wp2_with fail
  have hk1 : Blk ((w0.alloc (.cells (zeroRow .i32 k) 21)).alloc (.cells (zeroRow .i32 k) 21)) w0.heap.size 21 ((fillTo x k 0).map (Value.int .i32)) := by
    rw [fillTo_zero]; exact (blk_made w0 .i32 k _).alloc _
  have hk2 : Blk ((w0.alloc (.cells (zeroRow .i32 k) 21)).alloc (.cells (zeroRow .i32 k) 21)) (w0.heap.size + 1) 21 ((zeros k).map (Value.int .i32)) := by
    have h := blk_made (w0.alloc (.cells (zeroRow .i32 k) 21)) .i32 k 21
    rwa [World.size_alloc] at h
  have b1 : Below w.heap.size w ((w0.alloc (.cells (zeroRow .i32 k) 21)).alloc (.cells (zeroRow .i32 k) 21)) := (b0.alloc b0.size _).alloc (by have := b0.size; simp; omega) _
  have hsz := b0.size
  clear hmk b0
  go_loopg [8] k (fun r i wr => ∃ j : Nat, j + r = k ∧ i = .int .i64 j ∧ Blk wr w0.heap.size 21 ((fillTo x k j).map (Value.int .i32)) ∧ Blk wr (w0.heap.size + 1) 21 ((zeros k).map (Value.int .i32)) ∧ Below w.heap.size w wr)
  case atStart => exact ⟨0, by omega, rfl, hk1, hk2, b1⟩
  case round =>
    obtain ⟨j, hj, rfl, hl, hwant, hbr⟩ := hrel
    clear hk1 hk2 b1
    by_cases hlt : j < k
    · have c1 : wr.cell? ⟨w0.heap.size, j, none⟩ = some (.int .i32 0) := by
        rw [hl.cell, getElem?_map_nth (by rw [fillTo_len]; exact hlt), nth_fillTo hlt, if_neg (by omega)]
      have c2 := hl.frozen j
      have HL := Lib.hid hl
      clear hl
      go_wp2
      go_roundg (k - (j + 1))
      case measure => omega
      case rel => exact ⟨j + 1, by omega, by go_num, by
        have h := HL.out.set j (.int .i32 x)
        rw [← List.map_set, fillTo_succ hlt] at h
        exact h, hwant.far (p := ⟨w0.heap.size, j, none⟩) (by show w0.heap.size + 1 ≠ w0.heap.size; omega) _, hbr.setCell (p := ⟨w0.heap.size, j, none⟩) hsz _⟩
    · obtain rfl : j = k := by omega
      obtain ⟨m, rfl⟩ : ∃ m, j = m + 1 := ⟨j - 1, by omega⟩
      have c1 : wr.cell? ⟨w0.heap.size + 1, m, none⟩ = some (.int .i32 0) := by
        rw [hwant.cell, getElem?_map_nth (by rw [zeros_len]; omega), nth_zeros]
      have c2 := hwant.frozen m
      have HW := Lib.hid hwant
      have HL := Lib.hid hl
      clear hwant hl
      go_wp2_with fail
      have hl2 : Row .i32 (wr.setCell ⟨w0.heap.size + 1, m, none⟩ (.int .i32 x)) (some ⟨w0.heap.size, 0, none⟩) (m + 1) (allSame x (m + 1)) := by
        have h := HL.out.far (p := ⟨w0.heap.size + 1, m, none⟩) (by show w0.heap.size ≠ w0.heap.size + 1; omega) (.int .i32 x)
        rw [fillTo_end] at h
        exact (Own.mk (base := 0) (rest := []) (c := m + 1) (Nat.zero_le _) (allSame_len _ _) rfl (by simp only [maxLen]; omega) (by rw [List.append_nil]; exact h)).row
      have hw2 : Row .i32 (wr.setCell ⟨w0.heap.size + 1, m, none⟩ (.int .i32 x)) (some ⟨w0.heap.size + 1, 0, none⟩) (m + 1) (lastOnly x (m + 1)) := by
        have h := HW.out.set m (.int .i32 x)
        rw [← List.map_set] at h
        exact (Own.mk (base := 0) (rest := []) (c := m + 1) (Nat.zero_le _) (lastOnly_len _ _) rfl (by simp only [maxLen]; omega) (by rw [List.append_nil]; exact h)).row
      have b2 : Below w.heap.size w (wr.setCell ⟨w0.heap.size + 1, m, none⟩ (.int .i32 x)) := hbr.setCell (p := ⟨w0.heap.size + 1, m, none⟩) (by show w.heap.size ≤ w0.heap.size + 1; omega) _
      clear c1 c2
      revert hl2 hw2 b2
      generalize wr.setCell ⟨w0.heap.size + 1, m, none⟩ (.int .i32 x) = w2
      intro hl2 hw2 b2
      refine (mix1_ok _ (m + 1) (m + 1) _ w2 hl2 (by omega) (I32_allSame hx _)).mono ?_
      rintro e w3 ⟨B3, d3, rfl, r3, b3⟩
      rw [mix_allSame hx (by omega)] at r3
      go_wp2_with fail
      refine (unmix1_ok _ (m + 1) (m + 1) _ w3 (hw2.below b3) (by omega) (I32_lastOnly hx (by omega))).mono ?_
      rintro e w4 ⟨B4, d4, rfl, r4, b4⟩
      rw [un_lastOnly hx (by omega)] at r4
      have b34 := b3.trans (b4.mono b3.size)
      have bw := b2.trans (b34.mono b2.size)
      go_wp2_with fail
      refine (same_eq B3 _ (m + 1) (m + 1) d3 _ _ _ (r3.row.below b4) (hw2.below b34) (by omega) (by omega)).mono ?_
      rintro e w5 ⟨rfl, q5, rfl⟩
      go_wp2_with fail
      refine (same_eq B4 _ (m + 1) (m + 1) d4 _ _ _ (r4.row.drewN q5) ((hl2.below b34).drewN _) (by omega) (by omega)).mono ?_
      rintro e w6 ⟨rfl, q6, rfl⟩
      go_wp2
      go_ret
      exact ⟨rfl, below_drewN bw _⟩

theorem all_ok (k q : Nat) (A : Option Addr) (n c : Nat) (xs : List Int) (w : World) (ha : Row .i32 w A n xs) (h1 : 1 ≤ k) (h6 : k ≤ 6) (hq : n = q * k) (hn : n ≤ 4000) (hx32 : I32 xs) :
    Calls Try.prog 11 #[.int .i64 k, .slice A n c] w fun e w' => ∃ B d, e = .returned (.tuple #[.slice B n d, .int .i64 0]) ∧ RowC .i32 w' B n d (turns mixL k q xs) ∧ Below w.heap.size w w' := by
  have hz : chk (k : Int) n = 0 := by
    unfold chk; rw [if_neg (by omega), if_neg (by omega), if_pos]
    rw [hq, Int.natCast_mul]; exact Int.mul_emod_left _ _
  refine (all_any (k : Int) A n c xs w ha (by omega) hx32).mono fun e w' ⟨B, m, d, he, hr, hb⟩ => ?_
  have e1 : allR mixL (k : Int) xs = turns mixL k q xs := by
    unfold allR; rw [ha.len, if_pos hz, Int.toNat_natCast, hq, Nat.mul_div_cancel _ (by omega)]
  rw [e1] at hr
  obtain rfl : n = m := by have h1 := hr.1.len; rw [turns_len mixL_len (by rw [ha.len]; omega)] at h1; omega
  rw [hz] at he
  exact ⟨B, d, he, hr, hb⟩
theorem undo_ok (k q : Nat) (A : Option Addr) (n c : Nat) (xs : List Int) (w : World) (ha : Row .i32 w A n xs) (h1 : 1 ≤ k) (h6 : k ≤ 6) (hq : n = q * k) (hn : n ≤ 4000) (hx32 : I32 xs) :
    Calls Try.prog 13 #[.int .i64 k, .slice A n c] w fun e w' => ∃ B d, e = .returned (.tuple #[.slice B n d, .int .i64 0]) ∧ RowC .i32 w' B n d (turns unL k q xs) ∧ Below w.heap.size w w' := by
  have hz : chk (k : Int) n = 0 := by
    unfold chk; rw [if_neg (by omega), if_neg (by omega), if_pos]
    rw [hq, Int.natCast_mul]; exact Int.mul_emod_left _ _
  refine (undo_any (k : Int) A n c xs w ha (by omega) hx32).mono fun e w' ⟨B, m, d, he, hr, hb⟩ => ?_
  have e1 : allR unL (k : Int) xs = turns unL k q xs := by
    unfold allR; rw [ha.len, if_pos hz, Int.toNat_natCast, hq, Nat.mul_div_cancel _ (by omega)]
  rw [e1] at hr
  obtain rfl : n = m := by have h1 := hr.1.len; rw [turns_len unL_len (by rw [ha.len]; omega)] at h1; omega
  rw [hz] at he
  exact ⟨B, d, he, hr, hb⟩

set_option maxHeartbeats 800000 in
theorem lawMixTurns (w : World) (ch : Int) (hch : -9223372036854775808 ≤ ch ∧ ch ≤ 9223372036854775807) (A : Option Addr) (n c : Nat) (xs : List Int) (ha : RowC .i32 w A n c xs) (hx32 : I32 xs) (at_ : Int) (hat : -9223372036854775808 ≤ at_ ∧ at_ ≤ 9223372036854775807) :
    Calls Try.prog 7 #[.int .i64 ch, .slice A n c, .int .i64 at_] w fun e w' => e = .returned (.bool true) ∧ Below w.heap.size w w' := by
  have hcap := ha.2
  by_cases hz : chk ch n = 0
  · obtain ⟨k, q, rfl, h1, h6, hq, h4⟩ := chk_zero hz
    have hz' : (chk (k : Int) n != 0) = false := by rw [hz]; rfl
    have HQ := Lib.hid hq
    have hdiv : (n : Int) / (k : Int) = (q : Int) := by rw [hq, Int.natCast_mul]; exact Int.mul_ediv_cancel _ (by omega)
    have hk0 : ((k : Int) == 0) = false := by simp; omega
    have hq4 : q ≤ 4000 := by
      have : q * 1 ≤ q * k := Nat.mul_le_mul_left q h1
      omega
    have hnn : ((n : Int) != (n : Int)) = false := by simp
    clear hz hq
    go_enter Try.func7, Try.ntmps7
    go_wp2_with fail
    refine (alive_any _).mono ?_
    rintro e w0 ⟨rfl, b0⟩
    go_wp2_with fail
    refine (refcheck_any _ _ _ _ _ (by omega)).mono ?_
    rintro e w' ⟨rfl, rfl⟩
    go_wp2_with fail
    refine (all_ok k q A n c xs w0 (ha.row.below b0) h1 h6 HQ.out h4 hx32).mono ?_
    rintro e w1 ⟨B1, d1, rfl, r1, b1⟩
    have b01 := b0.trans (b1.mono b0.size)
    go_wp2_with fail
    refine (undo_ok k q B1 n d1 _ w1 r1.row h1 h6 HQ.out h4 (I32_turns (fun _ h => I32_mixL h) hx32 q)).mono ?_
    rintro e w2 ⟨B2, d2, rfl, r2, b2⟩
    rw [undo_all hx32 (by rw [ha.row.len]; exact HQ.out.symm)] at r2
    have b02 := b01.trans (b2.mono b01.size)
    go_wp2_with fail
    refine (same_eq B2 A n n d2 c xs _ r2.row (ha.row.below b02) (by omega) (by omega)).mono ?_
    rintro e w3 ⟨rfl, q3, rfl⟩
    by_cases a0 : at_ < 0
    · go_wp2
      go_ret
      exact ⟨rfl, below_drewN b02 _⟩
    by_cases aq : (q : Int) ≤ at_
    · go_wp2
      go_ret
      exact ⟨rfl, below_drewN b02 _⟩
    obtain ⟨i, rfl⟩ := Int.eq_ofNat_of_zero_le (by omega : 0 ≤ at_)
    have hiq : i < q := by omega
    obtain ⟨p, hp⟩ : ∃ p, p = i * k := ⟨_, rfl⟩
    have hpk : p + k ≤ n := by
      have h3 : (i + 1) * k ≤ q * k := Nat.mul_le_mul_right k hiq
      rw [Nat.succ_mul] at h3
      have h2 := HQ.out; omega
    have m1 : (i : Int) * (k : Int) = (p : Int) := by rw [hp, Int.natCast_mul]
    have m2 : ((i : Int) + 1) * (k : Int) = ((p + k : Nat) : Int) := by rw [Int.add_mul, Int.one_mul, m1]; omega
    have HP := Lib.hid hp; clear hp
    have hcut : ¬ c = p := by omega
    have hcut2 : ¬ d1 = p := by have := r1.2; omega
    have hd1 := r1.2
    obtain ⟨b, o, rfl, hb, hc⟩ := ha.row.at (by omega)
    obtain ⟨g, o1, rfl, hg, hc1⟩ := r1.row.at (by omega)
    have p1 := ((ha.row.below b02).drewN q3).part (c := c) (lo := p) (hi := p + k) (by omega) hpk hcap.1
    have p2 := ((r1.row.below b2).drewN q3).part (c := d1) (lo := p) (hi := p + k) (by omega) hpk hd1.1
    rw [if_neg hcut, Nat.add_sub_cancel_left] at p1
    rw [if_neg hcut2, Nat.add_sub_cancel_left] at p2
    have hadd : ∀ b o : Nat, (some (⟨b, o, none⟩ : Addr)).map (·.add (p * 1)) = some ⟨b, o + p, none⟩ := fun b o => by
      simp only [Option.map_some, Addr.add, Nat.mul_one]
      by_cases h0 : p = 0
      · subst h0; simp
      · simp [h0]
    rw [hadd] at p1 p2
    have hpart : (((turns mixL k q xs).drop p).take k) = mixL ((xs.drop p).take k) := by
      rw [HP.out]; exact turns_part mixL_len (by rw [ha.row.len, ← HQ.out]; exact Nat.le_refl _) hiq
    rw [hpart] at p2
    have P1 := Lib.hid p1; have P2 := Lib.hid p2
    clear hadd hc hc1 p1 p2 hpart
    go_wp2_with fail
    refine (mix1_ok (some ⟨b, o + p, none⟩) k (c - p) _ _ P1.out (by omega) ((hx32.drop _).take _)).mono ?_
    rintro e w4 ⟨B4, d4, rfl, r4, b4⟩
    have b04 := (below_drewN b02 q3).trans (b4.mono b02.size)
    go_wp2_with fail
    refine (same_eq B4 (some ⟨g, o1 + p, none⟩) k k d4 (d1 - p) _ _ r4.row (P2.out.below b4) (by omega) (by omega)).mono ?_
    rintro e w5 ⟨rfl, q5, rfl⟩
    go_wp2
    go_ret
    exact ⟨rfl, below_drewN b04 _⟩
  · have hz' : (chk ch n != 0) = true := by simpa using hz
    clear hz
    go_enter Try.func7, Try.ntmps7
    go_wp2_with fail
    refine (alive_any _).mono ?_
    rintro e w0 ⟨rfl, b0⟩
    go_wp2_with fail
    refine (refcheck_any _ _ _ _ _ (by omega)).mono ?_
    rintro e w' ⟨rfl, rfl⟩
    go_wp2
    go_ret
    exact ⟨rfl, b0⟩

end Go.Proofs.Ytphckhgomolhgaa
