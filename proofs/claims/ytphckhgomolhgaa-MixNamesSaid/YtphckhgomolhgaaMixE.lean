/-
  Contracts of mixing and unmixing in turn, program and reference.
-/
import Derived.Test.YtphckhgomolhgaaMixB
import Derived.Test.YtphckhgomolhgaaMixC
import Derived.Test.YtphckhgomolhgaaMixD
namespace Go.Proofs.Ytphckhgomolhgaa
open Go.RowKit Cad Cad.Mix
set_option linter.unusedVariables false

theorem same_eq (A B : Option Addr) (n m c d : Nat) (xs : List Int) (w : World) (ha : Row .i32 w A n xs) (hb : Row .i32 w B m xs) (hn : n ≤ 9223372036854775807) (hm : m ≤ 9223372036854775807) :
    Calls Try.prog 15 #[.slice A n c, .slice B m d] w fun e w' => e = .returned (.bool true) ∧ ∃ q, w' = w.drewN q :=
  (same_any A B n m c d xs xs w ha hb hn hm).mono fun _ _ h => ⟨h.1.trans (by simp), h.2⟩

/-- What mixing in turn returns. -/
def allR (f : List Int → List Int) (ch : Int) (xs : List Int) : List Int := if chk ch xs.length = 0 then turns f ch.toNat (xs.length / ch.toNat) xs else []

theorem chk_zero {ch : Int} {n : Nat} (h : chk ch n = 0) : ∃ c q : Nat, ch = c ∧ 1 ≤ c ∧ c ≤ 6 ∧ n = q * c ∧ n ≤ 4000 := by
  unfold chk at h
  by_cases h1 : ch < 1 ∨ 6 < ch
  · rw [if_pos h1] at h; omega
  · rw [if_neg h1] at h
    by_cases h2 : 4000 < n
    · rw [if_pos h2] at h; omega
    · rw [if_neg h2] at h
      by_cases h3 : (n : Int) % ch = 0
      · obtain ⟨c, rfl⟩ := Int.eq_ofNat_of_zero_le (by omega : 0 ≤ ch)
        refine ⟨c, n / c, rfl, by omega, by omega, ?_, by omega⟩
        have : n % c = 0 := by omega
        have := Nat.div_add_mod n c
        rw [Nat.mul_comm]; omega
      · rw [if_neg h3] at h; omega

theorem Blk.split {w : World} {g : Nat} {t : TypeId} {k : IntKind} {front rest : List Int} {spare : List Value} {c : Nat} (h : Blk w g t ((front ++ rest).map (Value.int k) ++ spare)) (hc : c ≤ rest.length) :
    Blk w g t (front.map (Value.int k) ++ (rest.take c).map (Value.int k) ++ ((rest.drop c).map (Value.int k) ++ spare)) := by
  have e : front.map (Value.int k) ++ (rest.take c).map (Value.int k) ++ ((rest.drop c).map (Value.int k) ++ spare) = (front ++ rest).map (Value.int k) ++ spare := by
    rw [List.map_append, List.append_assoc, ← List.append_assoc ((rest.take c).map _), ← List.map_append, List.take_append_drop, List.append_assoc]
  rw [e]; exact h
theorem Blk.join {w : World} {g : Nat} {t : TypeId} {k : IntKind} {front mid rest : List Int} {spare : List Value} (h : Blk w g t (front.map (Value.int k) ++ mid.map (Value.int k) ++ (rest.map (Value.int k) ++ spare))) :
    Blk w g t ((front ++ mid ++ rest).map (Value.int k) ++ spare) := by
  have e : (front ++ mid ++ rest).map (Value.int k) ++ spare = front.map (Value.int k) ++ mid.map (Value.int k) ++ (rest.map (Value.int k) ++ spare) := by
    rw [List.map_append, List.map_append, List.append_assoc, List.append_assoc]
  rw [e]; exact h

set_option maxHeartbeats 400000 in
theorem all_any (ch : Int) (A : Option Addr) (n c : Nat) (xs : List Int) (w : World) (ha : Row .i32 w A n xs) (hn : n ≤ 4100) (hx32 : I32 xs) :
    Calls Try.prog 11 #[.int .i64 ch, .slice A n c] w fun e w' => ∃ B m d, e = .returned (.tuple #[.slice B m d, .int .i64 (chk ch n)]) ∧ RowC .i32 w' B m d (allR mixL ch xs) ∧ Below w.heap.size w w' := by
  have HX := Lib.hid ha.len
  by_cases hz : chk ch n = 0
  · obtain ⟨k, q, hk, h1, h6, hq, h4⟩ := chk_zero hz
    subst hk
    have HQ := Lib.hid hq
    have hdiv : n / k = q := by rw [hq]; exact Nat.mul_div_cancel _ (by omega)
    have HR : Hid (allR mixL (k : Int) xs = turns mixL k q xs) := by unfold allR; rw [HX.out, if_pos hz, Int.toNat_natCast, hdiv]; rfl
    clear hq hdiv
    have HZ := Lib.hid hz
    have hz' : (chk (k : Int) n != 0) = false := by rw [hz]; rfl
    clear hz
    go_enter Try.func11, Try.ntmps11
    go_wp2_with fail
    refine (check_any _ _ _ _ _ (by omega)).mono ?_
    rintro e w' ⟨rfl, rfl⟩
    go_wp2_with fail
    refine (clone_any A n c xs _ ha hn).mono ?_
    rintro e w1 ⟨B, d, rfl, hown, hbel⟩
    go_wp2_with fail
    rcases hown.cases with ⟨rfl, rfl, rfl, rfl⟩ | ⟨g, spare, rfl, hg, hnd, hdm, hsp, hblk⟩
    · refine wp_loop_rounds 1 ?_
      rw [rounds_succ]
      go_wp2
      go_ret2
      rw [HZ.out]
      refine ⟨none, 0, 0, rfl, ?_, hbel⟩
      have hq0 : q = 0 := by
        rcases Nat.mul_eq_zero.1 HQ.out.symm with h | h
        · exact h
        · omega
      rw [HR.out, hq0]; exact RowC.nil
    · clear ha
      have hw1 := hblk.lt
      have hd : d ≤ 9223372036854775807 := by simp only [maxLen] at hdm; omega
      go_loopg [8] q (fun r i wr => ∃ t p : Nat, t + r = q ∧ i = .int .i64 p ∧ Hid (p = t * k) ∧ Blk wr g 21 ((turns mixL k t xs ++ xs.drop p).map (Value.int .i32) ++ spare) ∧ w1.grownBy wr (some g))
      case atStart => exact ⟨0, 0, by omega, rfl, Lib.hid (by simp), by simpa [turns] using hblk, only_refl _ _⟩
      case round =>
        obtain ⟨t, p, ht, rfl, HP, hb, hgr⟩ := hrel
        clear hblk
        by_cases hlt : p < n
        · have htq : t < q := by
            rcases Nat.lt_or_ge t q with h | h
            · exact h
            · have := Nat.mul_le_mul_right k h; have h1 := HP.out; have h2 := HQ.out; omega
          have hpk : p + k ≤ n := by
            have h3 : (t + 1) * k ≤ q * k := Nat.mul_le_mul_right k htq
            rw [Nat.succ_mul] at h3
            have h1 := HP.out; have h2 := HQ.out; omega
          obtain ⟨j, rfl⟩ : ∃ j, k = j + 1 := ⟨k - 1, by omega⟩
          have hlen : (turns mixL (j + 1) t xs).length = p := by rw [turns_len mixL_len (by rw [← HP.out, HX.out]; omega)]; exact HP.out.symm
          have hsp1 := Blk.split (c := j + 1) hb (by rw [List.length_drop, HX.out]; omega)
          have HB := Lib.hid hsp1
          have hcut : ¬ d = p := by omega
          clear hb hsp1
          go_wp2_with fail
          have hcall := mix_any g j (d - p) 21 ((turns mixL (j + 1) t xs).map (Value.int .i32)) (((xs.drop p).drop (j + 1)).map (Value.int .i32) ++ spare) ((xs.drop p).take (j + 1)) wr (by rw [List.length_take, List.length_drop, HX.out]; omega) (by omega) (by rw [List.length_map, hlen]; omega) ((hx32.drop _).take _) HB.out
          rw [List.length_map, hlen] at hcall
          have HN := Lib.hid hlen; clear hlen
          refine hcall.mono ?_
          rintro e w2 ⟨rfl, hb2, hg2⟩
          have hb3 := Blk.join hb2
          have HB3 := Lib.hid hb3
          clear hcall hb2 hb3
          go_wp2_with fail
          go_roundg (q - (t + 1))
          case measure => omega
          case rel => exact ⟨t + 1, p + (j + 1), by omega, by go_num, Lib.hid (by rw [Nat.succ_mul, ← HP.out]), by
            have h := HB3.out
            rw [List.drop_drop] at h
            show Blk w2 g 21 (((turns mixL (j + 1) t xs ++ mixL ((xs.drop (t * (j + 1))).take (j + 1))) ++ xs.drop (p + (j + 1))).map (Value.int .i32) ++ spare)
            rw [← HP.out]
            exact h, only_trans hgr hg2⟩
        · have hpn : p = n ∧ t = q := by
            have h1 := HP.out; have h2 := HQ.out
            have h3 : t * k ≤ q * k := Nat.mul_le_mul_right k (by omega)
            have h4 : p = n := by omega
            refine ⟨h4, ?_⟩
            rcases Nat.lt_or_ge t q with h | h
            · have h5 : (t + 1) * k ≤ q * k := Nat.mul_le_mul_right k h
              rw [Nat.succ_mul] at h5; omega
            · omega
          obtain ⟨rfl, rfl⟩ := hpn
          have HB := Lib.hid hb; clear hb
          go_wp2
          go_ret2
          rw [HZ.out]
          refine ⟨some ⟨g, 0, none⟩, p, d, rfl, ?_, below_only hbel hgr hbel.size hg⟩
          rw [HR.out]
          have h := HB.out
          have hx := HX.out
          rw [List.drop_of_length_le (by omega), List.append_nil] at h
          exact (Own.mk (base := 0) (c := d) (Nat.zero_le _) (by rw [turns_len mixL_len (by rw [hx, ← HQ.out]; exact Nat.le_refl _)]; exact HQ.out.symm) hsp hdm h).rowC
  · have hz' : (chk ch n != 0) = true := by simpa using hz
    have HR : Hid (allR mixL ch xs = []) := by unfold allR; rw [HX.out, if_neg hz]; rfl
    clear hz
    go_enter Try.func11, Try.ntmps11
    go_wp2_with fail
    refine (check_any _ _ _ _ _ (by omega)).mono ?_
    rintro e w' ⟨rfl, rfl⟩
    go_wp2
    go_ret2
    exact ⟨none, 0, 0, rfl, by rw [HR.out]; exact RowC.nil, Below.refl _ _⟩

set_option maxHeartbeats 400000 in
theorem undo_any (ch : Int) (A : Option Addr) (n c : Nat) (xs : List Int) (w : World) (ha : Row .i32 w A n xs) (hn : n ≤ 4100) (hx32 : I32 xs) :
    Calls Try.prog 13 #[.int .i64 ch, .slice A n c] w fun e w' => ∃ B m d, e = .returned (.tuple #[.slice B m d, .int .i64 (chk ch n)]) ∧ RowC .i32 w' B m d (allR unL ch xs) ∧ Below w.heap.size w w' := by
  have HX := Lib.hid ha.len
  by_cases hz : chk ch n = 0
  · obtain ⟨k, q, hk, h1, h6, hq, h4⟩ := chk_zero hz
    subst hk
    have HQ := Lib.hid hq
    have hdiv : n / k = q := by rw [hq]; exact Nat.mul_div_cancel _ (by omega)
    have HR : Hid (allR unL (k : Int) xs = turns unL k q xs) := by unfold allR; rw [HX.out, if_pos hz, Int.toNat_natCast, hdiv]; rfl
    clear hq hdiv
    have HZ := Lib.hid hz
    have hz' : (chk (k : Int) n != 0) = false := by rw [hz]; rfl
    clear hz
    go_enter Try.func13, Try.ntmps13
    go_wp2_with fail
    refine (check_any _ _ _ _ _ (by omega)).mono ?_
    rintro e w' ⟨rfl, rfl⟩
    go_wp2_with fail
    refine (clone_any A n c xs _ ha hn).mono ?_
    rintro e w1 ⟨B, d, rfl, hown, hbel⟩
    go_wp2_with fail
    rcases hown.cases with ⟨rfl, rfl, rfl, rfl⟩ | ⟨g, spare, rfl, hg, hnd, hdm, hsp, hblk⟩
    · refine wp_loop_rounds 1 ?_
      rw [rounds_succ]
      go_wp2
      go_ret2
      rw [HZ.out]
      refine ⟨none, 0, 0, rfl, ?_, hbel⟩
      have hq0 : q = 0 := by
        rcases Nat.mul_eq_zero.1 HQ.out.symm with h | h
        · exact h
        · omega
      rw [HR.out, hq0]; exact RowC.nil
    · clear ha
      have hw1 := hblk.lt
      have hd : d ≤ 9223372036854775807 := by simp only [maxLen] at hdm; omega
      go_loopg [8] q (fun r i wr => ∃ t p : Nat, t + r = q ∧ i = .int .i64 p ∧ Hid (p = t * k) ∧ Blk wr g 21 ((turns unL k t xs ++ xs.drop p).map (Value.int .i32) ++ spare) ∧ w1.grownBy wr (some g))
      case atStart => exact ⟨0, 0, by omega, rfl, Lib.hid (by simp), by simpa [turns] using hblk, only_refl _ _⟩
      case round =>
        obtain ⟨t, p, ht, rfl, HP, hb, hgr⟩ := hrel
        clear hblk
        by_cases hlt : p < n
        · have htq : t < q := by
            rcases Nat.lt_or_ge t q with h | h
            · exact h
            · have := Nat.mul_le_mul_right k h; have h1 := HP.out; have h2 := HQ.out; omega
          have hpk : p + k ≤ n := by
            have h3 : (t + 1) * k ≤ q * k := Nat.mul_le_mul_right k htq
            rw [Nat.succ_mul] at h3
            have h1 := HP.out; have h2 := HQ.out; omega
          obtain ⟨j, rfl⟩ : ∃ j, k = j + 1 := ⟨k - 1, by omega⟩
          have hlen : (turns unL (j + 1) t xs).length = p := by rw [turns_len unL_len (by rw [← HP.out, HX.out]; omega)]; exact HP.out.symm
          have hsp1 := Blk.split (c := j + 1) hb (by rw [List.length_drop, HX.out]; omega)
          have HB := Lib.hid hsp1
          have hcut : ¬ d = p := by omega
          clear hb hsp1
          go_wp2_with fail
          have hcall := unmix_any g j (d - p) 21 ((turns unL (j + 1) t xs).map (Value.int .i32)) (((xs.drop p).drop (j + 1)).map (Value.int .i32) ++ spare) ((xs.drop p).take (j + 1)) wr (by rw [List.length_take, List.length_drop, HX.out]; omega) (by omega) (by rw [List.length_map, hlen]; omega) ((hx32.drop _).take _) HB.out
          rw [List.length_map, hlen] at hcall
          have HN := Lib.hid hlen; clear hlen
          refine hcall.mono ?_
          rintro e w2 ⟨rfl, hb2, hg2⟩
          have hb3 := Blk.join hb2
          have HB3 := Lib.hid hb3
          clear hcall hb2 hb3
          go_wp2_with fail
          go_roundg (q - (t + 1))
          case measure => omega
          case rel => exact ⟨t + 1, p + (j + 1), by omega, by go_num, Lib.hid (by rw [Nat.succ_mul, ← HP.out]), by
            have h := HB3.out
            rw [List.drop_drop] at h
            show Blk w2 g 21 (((turns unL (j + 1) t xs ++ unL ((xs.drop (t * (j + 1))).take (j + 1))) ++ xs.drop (p + (j + 1))).map (Value.int .i32) ++ spare)
            rw [← HP.out]
            exact h, only_trans hgr hg2⟩
        · have hpn : p = n ∧ t = q := by
            have h1 := HP.out; have h2 := HQ.out
            have h3 : t * k ≤ q * k := Nat.mul_le_mul_right k (by omega)
            have h4 : p = n := by omega
            refine ⟨h4, ?_⟩
            rcases Nat.lt_or_ge t q with h | h
            · have h5 : (t + 1) * k ≤ q * k := Nat.mul_le_mul_right k h
              rw [Nat.succ_mul] at h5; omega
            · omega
          obtain ⟨rfl, rfl⟩ := hpn
          have HB := Lib.hid hb; clear hb
          go_wp2
          go_ret2
          rw [HZ.out]
          refine ⟨some ⟨g, 0, none⟩, p, d, rfl, ?_, below_only hbel hgr hbel.size hg⟩
          rw [HR.out]
          have h := HB.out
          have hx := HX.out
          rw [List.drop_of_length_le (by omega), List.append_nil] at h
          exact (Own.mk (base := 0) (c := d) (Nat.zero_le _) (by rw [turns_len unL_len (by rw [hx, ← HQ.out]; exact Nat.le_refl _)]; exact HQ.out.symm) hsp hdm h).rowC
  · have hz' : (chk ch n != 0) = true := by simpa using hz
    have HR : Hid (allR unL ch xs = []) := by unfold allR; rw [HX.out, if_neg hz]; rfl
    clear hz
    go_enter Try.func13, Try.ntmps13
    go_wp2_with fail
    refine (check_any _ _ _ _ _ (by omega)).mono ?_
    rintro e w' ⟨rfl, rfl⟩
    go_wp2
    go_ret2
    exact ⟨none, 0, 0, rfl, by rw [HR.out]; exact RowC.nil, Below.refl _ _⟩

set_option maxHeartbeats 400000 in
theorem refall_any (ch : Int) (A : Option Addr) (n c : Nat) (xs : List Int) (w : World) (ha : RowC .i32 w A n c xs) (hn : n ≤ 4100) (hx32 : I32 xs) :
    Calls Try.prog 12 #[.int .i64 ch, .slice A n c] w fun e w' => ∃ B m d, e = .returned (.tuple #[.slice B m d, .int .i64 (chk ch n)]) ∧ RowC .i32 w' B m d (allR mixL ch xs) ∧ Below w.heap.size w w' := by
  obtain ⟨ha, hcn, hcm⟩ := ha
  have HX := Lib.hid ha.len
  by_cases hz : chk ch n = 0
  · obtain ⟨k, q, hk, h1, h6, hq, h4⟩ := chk_zero hz
    subst hk
    have HQ := Lib.hid hq
    have hdiv : n / k = q := by rw [hq]; exact Nat.mul_div_cancel _ (by omega)
    have HR : Hid (allR mixL (k : Int) xs = turns mixL k q xs) := by unfold allR; rw [HX.out, if_pos hz, Int.toNat_natCast, hdiv]; rfl
    clear hq hdiv
    have HZ := Lib.hid hz
    have hz' : (chk (k : Int) n != 0) = false := by rw [hz]; rfl
    clear hz
    go_enter Try.func12, Try.ntmps12
    go_wp2_with fail
    refine (refcheck_any _ _ _ _ _ (by omega)).mono ?_
    rintro e w' ⟨rfl, rfl⟩
    go_wp2_with fail
    go_loopg [6, 7] q (fun r v i wr => ∃ t p B d, t + r = q ∧ i = .int .i64 (p : Nat) ∧ v = .slice B p d ∧ Hid (p = t * k) ∧ Own wr w.heap.size 21 .i32 B p d (turns mixL k t xs) ∧ Below w.heap.size w wr)
    case atStart => exact ⟨0, 0, none, 0, by omega, rfl, rfl, Lib.hid (by simp), Own.nil _ _ _ _, Below.refl _ _⟩
    case round =>
      obtain ⟨t, p, B, d, ht, rfl, rfl, HP, hown, hbel⟩ := hrel
      by_cases hlt : p < n
      · have htq : t < q := by
          rcases Nat.lt_or_ge t q with h | h
          · exact h
          · have := Nat.mul_le_mul_right k h; have h1 := HP.out; have h2 := HQ.out; omega
        have hpk : p + k ≤ n := by
          have h3 : (t + 1) * k ≤ q * k := Nat.mul_le_mul_right k htq
          rw [Nat.succ_mul] at h3
          have h1 := HP.out; have h2 := HQ.out; omega
        have hcut : ¬ c = p := by omega
        have hpart := (ha.below hbel).part (c := c) (lo := p) (hi := p + k) (by omega) hpk hcn
        rw [if_neg hcut, Nat.add_sub_cancel_left] at hpart
        obtain ⟨b, o, rfl, hb, hc⟩ := ha.at (by omega)
        have hadd : (some (⟨b, o, none⟩ : Addr)).map (·.add (p * 1)) = some ⟨b, o + p, none⟩ := by
          simp only [Option.map_some, Addr.add, Nat.mul_one]
          by_cases h0 : p = 0
          · subst h0; simp
          · simp [h0]
        rw [hadd] at hpart
        have HPart := Lib.hid hpart
        clear hadd hpart hc
        go_wp2_with fail
        refine (mixed_any (some ⟨b, o + p, none⟩) k (c - p) ((xs.drop p).take k) wr HPart.out (by omega) (by omega) ((hx32.drop _).take _)).mono ?_
        rintro e w2 ⟨B2, d2, rfl, hown2, hbel2⟩
        go_wp2_with (at_builtin; refine wpList_app _ i32E rfl _ _ rfl w.heap.size _ _ _ _ rfl (by exact hown.below hbel2 (Nat.le_refl _)) _ _ _ _ rfl (by exact hown2.row) (by omega) (by have := hbel.size; have := hbel2.size; omega) ?_; intro B3 d3 w3 hown3 hg3 _)
        go_roundg (q - (t + 1))
        case measure => omega
        case rel => exact ⟨t + 1, p + k, B3, d3, by omega, by go_num, rfl, Lib.hid (by rw [Nat.succ_mul, ← HP.out]), by
          show Own w3 w.heap.size 21 .i32 B3 (p + k) d3 (turns mixL k t xs ++ mixL ((xs.drop (t * k)).take k))
          rw [← HP.out]
          exact hown3, (hbel.trans (hbel2.mono hbel.size)).grown hg3 (by have := hbel.size; have := hbel2.size; omega) (fun g e => (hown.block g e).1)⟩
      · have hpn : p = n ∧ t = q := by
          have h1 := HP.out; have h2 := HQ.out
          have h3 : t * k ≤ q * k := Nat.mul_le_mul_right k (by omega)
          have h4 : p = n := by omega
          refine ⟨h4, ?_⟩
          rcases Nat.lt_or_ge t q with h | h
          · have h5 : (t + 1) * k ≤ q * k := Nat.mul_le_mul_right k h
            rw [Nat.succ_mul] at h5; omega
          · omega
        obtain ⟨rfl, rfl⟩ := hpn
        go_wp2
        go_ret2
        rw [HZ.out]
        exact ⟨B, p, d, rfl, by rw [HR.out]; exact hown.rowC, hbel⟩
  · have hz' : (chk ch n != 0) = true := by simpa using hz
    have HR : Hid (allR mixL ch xs = []) := by unfold allR; rw [HX.out, if_neg hz]; rfl
    clear hz
    go_enter Try.func12, Try.ntmps12
    go_wp2_with fail
    refine (refcheck_any _ _ _ _ _ (by omega)).mono ?_
    rintro e w' ⟨rfl, rfl⟩
    go_wp2_with fail
    refine (refcheck_any _ _ _ _ _ (by omega)).mono ?_
    rintro e w' ⟨rfl, rfl⟩
    go_wp2
    go_ret2
    exact ⟨none, 0, 0, rfl, by rw [HR.out]; exact RowC.nil, Below.refl _ _⟩

set_option maxHeartbeats 400000 in
theorem refundo_any (ch : Int) (A : Option Addr) (n c : Nat) (xs : List Int) (w : World) (ha : RowC .i32 w A n c xs) (hn : n ≤ 4100) (hx32 : I32 xs) :
    Calls Try.prog 14 #[.int .i64 ch, .slice A n c] w fun e w' => ∃ B m d, e = .returned (.tuple #[.slice B m d, .int .i64 (chk ch n)]) ∧ RowC .i32 w' B m d (allR unL ch xs) ∧ Below w.heap.size w w' := by
  obtain ⟨ha, hcn, hcm⟩ := ha
  have HX := Lib.hid ha.len
  by_cases hz : chk ch n = 0
  · obtain ⟨k, q, hk, h1, h6, hq, h4⟩ := chk_zero hz
    subst hk
    have HQ := Lib.hid hq
    have hdiv : n / k = q := by rw [hq]; exact Nat.mul_div_cancel _ (by omega)
    have HR : Hid (allR unL (k : Int) xs = turns unL k q xs) := by unfold allR; rw [HX.out, if_pos hz, Int.toNat_natCast, hdiv]; rfl
    clear hq hdiv
    have HZ := Lib.hid hz
    have hz' : (chk (k : Int) n != 0) = false := by rw [hz]; rfl
    clear hz
    go_enter Try.func14, Try.ntmps14
    go_wp2_with fail
    refine (refcheck_any _ _ _ _ _ (by omega)).mono ?_
    rintro e w' ⟨rfl, rfl⟩
    go_wp2_with fail
    go_loopg [6, 7] q (fun r v i wr => ∃ t p B d, t + r = q ∧ i = .int .i64 (p : Nat) ∧ v = .slice B p d ∧ Hid (p = t * k) ∧ Own wr w.heap.size 21 .i32 B p d (turns unL k t xs) ∧ Below w.heap.size w wr)
    case atStart => exact ⟨0, 0, none, 0, by omega, rfl, rfl, Lib.hid (by simp), Own.nil _ _ _ _, Below.refl _ _⟩
    case round =>
      obtain ⟨t, p, B, d, ht, rfl, rfl, HP, hown, hbel⟩ := hrel
      by_cases hlt : p < n
      · have htq : t < q := by
          rcases Nat.lt_or_ge t q with h | h
          · exact h
          · have := Nat.mul_le_mul_right k h; have h1 := HP.out; have h2 := HQ.out; omega
        have hpk : p + k ≤ n := by
          have h3 : (t + 1) * k ≤ q * k := Nat.mul_le_mul_right k htq
          rw [Nat.succ_mul] at h3
          have h1 := HP.out; have h2 := HQ.out; omega
        have hcut : ¬ c = p := by omega
        have hpart := (ha.below hbel).part (c := c) (lo := p) (hi := p + k) (by omega) hpk hcn
        rw [if_neg hcut, Nat.add_sub_cancel_left] at hpart
        obtain ⟨b, o, rfl, hb, hc⟩ := ha.at (by omega)
        have hadd : (some (⟨b, o, none⟩ : Addr)).map (·.add (p * 1)) = some ⟨b, o + p, none⟩ := by
          simp only [Option.map_some, Addr.add, Nat.mul_one]
          by_cases h0 : p = 0
          · subst h0; simp
          · simp [h0]
        rw [hadd] at hpart
        have HPart := Lib.hid hpart
        clear hadd hpart hc
        go_wp2_with fail
        obtain ⟨j, rfl⟩ : ∃ j, k = j + 1 := ⟨k - 1, by omega⟩
        refine (unmixed_any (some ⟨b, o + p, none⟩) j (c - p) ((xs.drop p).take (j + 1)) wr HPart.out (by omega) ((hx32.drop _).take _)).mono ?_
        rintro e w2 ⟨B2, d2, rfl, hown2, hbel2⟩
        go_wp2_with (at_builtin; refine wpList_app _ i32E rfl _ _ rfl w.heap.size _ _ _ _ rfl (by exact hown.below hbel2 (Nat.le_refl _)) _ _ _ _ rfl (by exact hown2.row) (by omega) (by have := hbel.size; have := hbel2.size; omega) ?_; intro B3 d3 w3 hown3 hg3 _)
        go_roundg (q - (t + 1))
        case measure => omega
        case rel => exact ⟨t + 1, p + (j + 1), B3, d3, by omega, by go_num, rfl, Lib.hid (by rw [Nat.succ_mul, ← HP.out]), by
          show Own w3 w.heap.size 21 .i32 B3 (p + (j + 1)) d3 (turns unL (j + 1) t xs ++ unL ((xs.drop (t * (j + 1))).take (j + 1)))
          rw [← HP.out]
          exact hown3, (hbel.trans (hbel2.mono hbel.size)).grown hg3 (by have := hbel.size; have := hbel2.size; omega) (fun g e => (hown.block g e).1)⟩
      · have hpn : p = n ∧ t = q := by
          have h1 := HP.out; have h2 := HQ.out
          have h3 : t * k ≤ q * k := Nat.mul_le_mul_right k (by omega)
          have h4 : p = n := by omega
          refine ⟨h4, ?_⟩
          rcases Nat.lt_or_ge t q with h | h
          · have h5 : (t + 1) * k ≤ q * k := Nat.mul_le_mul_right k h
            rw [Nat.succ_mul] at h5; omega
          · omega
        obtain ⟨rfl, rfl⟩ := hpn
        go_wp2
        go_ret2
        rw [HZ.out]
        exact ⟨B, p, d, rfl, by rw [HR.out]; exact hown.rowC, hbel⟩
  · have hz' : (chk ch n != 0) = true := by simpa using hz
    have HR : Hid (allR unL ch xs = []) := by unfold allR; rw [HX.out, if_neg hz]; rfl
    clear hz
    go_enter Try.func14, Try.ntmps14
    go_wp2_with fail
    refine (refcheck_any _ _ _ _ _ (by omega)).mono ?_
    rintro e w' ⟨rfl, rfl⟩
    go_wp2_with fail
    refine (refcheck_any _ _ _ _ _ (by omega)).mono ?_
    rintro e w' ⟨rfl, rfl⟩
    go_wp2
    go_ret2
    exact ⟨none, 0, 0, rfl, by rw [HR.out]; exact RowC.nil, Below.refl _ _⟩

end Go.Proofs.Ytphckhgomolhgaa
