/-
  Contract of putting bits in place.
-/
import Derived.Test.YtpohaikbbfochaaDoorBitA
namespace Go.Proofs.YtpohaikbbfochaaDoor
open Go.RowKit Cad Cad.Bit
set_option linter.unusedVariables false

theorem u8E : Elem Tryd.prog 24 5 .u8 1 := ⟨Tryd.underlying24, Tryd.underlying5, by kernel_rfl, by decide⟩

/-- The block g holds a struct of bits. -/
def Cell2 (w : World) (g : Nat) (A : Option Addr) (n c : Nat) (N : Nat) : Prop := Blk w g 26 [.slice A n c, .int .i64 (N : Int)]

set_option maxRecDepth 100000 in
set_option maxHeartbeats 1000000 in
theorem put_any (g base : Nat) (A : Option Addr) (m c : Nat) (bs : List Bool) (v n : Nat) (w : World) (hv : v < 18446744073709551616) (hn : n ≤ 64) (hl : bs.length + n ≤ 330000) (hbase : base ≤ w.heap.size)
    (hc2 : Cell2 w g A m c bs.length) (hown : Own w base 5 .u8 A m c (pack bs)) :
    Calls Tryd.prog 36 #[.pointer (some ⟨g, 0, none⟩), .int .u64 v, .int .i64 n] w fun e w' => e = .returned (.tuple #[]) ∧
      ∃ B m' d, Cell2 w' g B m' d (bs.length + n) ∧ Own w' base 5 .u8 B m' d (pack (bs ++ lowBits v n)) ∧ Frm (fun k => k = g ∨ blockOf A = some k) w w' ∧ (∀ k, blockOf B = some k → k < w.heap.size → blockOf A = some k) := by
  go_enter Tryd.func36, Tryd.ntmps36
  go_wp2_with fail
  go_loopg [1, 2] n (fun k x i wr => ∃ (h u : Nat) (B : Option Addr) (m' d : Nat), h + k = n ∧ i = .int .i64 (k : Nat) ∧ x = .int .u64 (u : Nat) ∧ Hid (u = v / 2 ^ h) ∧ Cell2 wr g B m' d (bs.length + h) ∧
    Own wr base 5 .u8 B m' d (pack (bs ++ lowBits v h)) ∧ Frm (fun k => k = g ∨ blockOf A = some k) w wr ∧ (∀ k, blockOf B = some k → k < w.heap.size → blockOf A = some k))
  case atStart => exact ⟨0, v, A, m, c, by omega, rfl, rfl, Lib.hid (by simp), hc2, by simpa [lowBits] using hown, Frm.refl _ _, fun _ h _ => h⟩
  case round =>
    obtain ⟨h, u, B, m', d, hk, rfl, rfl, HU, hcr, hor, hfr, hBA⟩ := hrel
    by_cases hlt : 0 < gk
    · obtain ⟨L, hL⟩ : ∃ L, bs.length + h = L := ⟨_, rfl⟩
      rw [hL] at hcr
      have hLx : (bs ++ lowBits v h).length = L := by rw [List.length_append, lowBits_len, hL]
      have hml : m' = bytesFor L := by have := hor.len; rw [pack_len, hLx] at this; exact this.symm
      have hm5 : m' ≤ 41250 := by unfold bytesFor at hml; omega
      have hu : u < 18446744073709551616 := by rw [HU.out]; exact Nat.lt_of_le_of_lt (Nat.div_le_self _ _) hv
      have hand := and7 L (by omega)
      have k0 : wr.cell? ⟨g, 0, none⟩ = some (.slice B m' d) := by rw [hcr.cell]; rfl
      have k1 : wr.cell? ⟨g, 1, none⟩ = some (.int .i64 (L : Int)) := by rw [hcr.cell]; rfl
      have f0 := hcr.frozen 0
      have f1 := hcr.frozen 1
      have hgB : blockOf B ≠ some g := hor.ne_blk hcr (by decide)
      have hglt := hcr.lt
      obtain ⟨s, hs⟩ : ∃ s, L % 8 = s := ⟨_, rfl⟩
      rw [hs] at hand
      have HS := Lib.hid hs; have HL := Lib.hid hL; have HLx := Lib.hid hLx; have HM := Lib.hid hml
      have hs7 : s ≤ 7 := by omega
      have hLb : L ≤ 330000 := by omega
      clear hL hLx hml hs
      by_cases hs0 : s = 0
      · subst hs0
        go_wp2_with (at_builtin; refine wpList_app _ u8E rfl _ _ rfl base _ _ _ _ rfl (by exact hor.alloc _) _ _ _ [0] rfl (by exact row_one _ _ _ _) (by omega) (by have := hfr.size; simp; omega) ?_)
        intro B1 d1 w1 hown1 hg1 hat1
        have kk0 : w1.cell? ⟨g, 0, none⟩ = some (.slice B m' d) := hg1.cell (by rw [World.cell?_alloc_past _ _ _ hglt]; exact k0) (by intro e; exact hgB e.symm)
        have hk1 : Blk w1 g 26 [.slice B m' d, .int .i64 (L : Int)] := (Blk.alloc hcr _).grown hg1 (by intro e; exact hgB e.symm)
        have ff0 := hk1.frozen 0
        clear k0 k1 f0 f1
        go_wp2_with fail
        have hc2' : Cell2 (w1.setCell ⟨g, 0, none⟩ (.slice B1 (m' + 1) d1)) g B1 (m' + 1) d1 L := hk1.set 0 (.slice B1 (m' + 1) d1)
        have hgB1 : blockOf B1 ≠ some g := hown1.ne_blk hk1 (by decide)
        have hown2 : Own (w1.setCell ⟨g, 0, none⟩ (.slice B1 (m' + 1) d1)) base 5 .u8 B1 (m' + 1) d1 (pack (bs ++ lowBits v h) ++ [0]) :=
          hown1.frm (S := fun k => k = g) ((Frm.refl (fun k => k = g) w1).setCell (p := ⟨g, 0, none⟩) (fun _ => rfl) _) (fun k e hk => hgB1 (by rw [e, hk]))
        have hfr2 : Frm (fun k => k = g ∨ blockOf A = some k) w (w1.setCell ⟨g, 0, none⟩ (.slice B1 (m' + 1) d1)) :=
          ((hfr.alloc _).grown hg1 (fun k e hk => Or.inr (hBA k e hk))).setCell (p := ⟨g, 0, none⟩) (fun _ => Or.inl rfl) _
        have hB1A : ∀ k, blockOf B1 = some k → k < w.heap.size → blockOf A = some k := fun k e hk => by
          rcases hat1 with e1 | e1
          · exact hBA k (by rw [← e1]; exact e) hk
          · rw [e] at e1; injection e1 with e1; have := hfr.size; omega
        clear kk0 hk1 ff0 hown1 hg1 hat1 hgB hBA hfr hor hcr hgB1
        revert hc2' hown2 hfr2
        generalize w1.setCell ⟨g, 0, none⟩ (.slice B1 (m' + 1) d1) = w2
        intro hc2' hown2 hfr2
        have hgB2 : blockOf B1 ≠ some g := hown2.ne_blk hc2' (by decide)
        rcases hown2.cases with ⟨_, h0, _⟩ | ⟨g1, spare, rfl, hbg, hnc, hcm, hsp, hblk⟩
        · omega
        obtain ⟨mm, hmm⟩ : ∃ mm, m' = mm := ⟨_, rfl⟩
        subst hmm
        obtain ⟨Pl, hPl⟩ : ∃ Pl, Pl = pack (bs ++ lowBits v h) ++ [0] := ⟨_, rfl⟩
        obtain ⟨s, hs0⟩ : ∃ s, s = 0 := ⟨0, rfl⟩
        obtain ⟨y, hy0⟩ : ∃ y : Nat, y = 0 := ⟨0, rfl⟩
        have hy : y < 2 ^ s := by rw [hs0, hy0]; decide
        have HS : Hid (L % 8 = s) := by rw [hs0]; exact HS
        have hs7 : s ≤ 7 := by omega
        have hylen : nth Pl m' = (y : Int) := by
          have hpl := hown2.len
          rw [List.length_append] at hpl
          have hpl' : (pack (bs ++ lowBits v h)).length + 1 = m' + 1 := hpl
          rw [hPl, nth_append_right (by omega), show m' - (pack (bs ++ lowBits v h)).length = 0 by omega, hy0]; rfl
        have hset : ∀ t : Nat, 1 ≤ t → s + t ≤ 8 → Pl.set m' ((y + 2 ^ s * (u % 2 ^ t) : Nat) : Int) = pack (bs ++ lowBits v (h + t)) := fun t h1 h2 => by
          have hpl := hown2.len
          rw [List.length_append] at hpl
          have hpl' : (pack (bs ++ lowBits v h)).length + 1 = m' + 1 := hpl
          have key := pack_append_new (a := bs ++ lowBits v h) (b := lowBits u t) (by rw [HLx.out, HS.out]; exact hs0) (by rw [lowBits_len]; omega) (by rw [lowBits_len]; omega)
          have e : pack (bs ++ lowBits v (h + t)) = pack (bs ++ lowBits v h) ++ [((u % 2 ^ t : Nat) : Int)] := by
            rw [lowBits_add, ← HU.out, ← List.append_assoc, ← key, bval_lowBits]
          rw [hPl, hy0, hs0, e, List.set_append_right _ _ (by omega), show m' - (pack (bs ++ lowBits v h)).length = 0 by omega]
          simp
        rw [← hPl] at hown2 hblk
        have hPlen := hown2.len
        clear hs0 hy0 hPl hand
        -- here: world w2, the slice of m' + 1 bytes Pl in block g1, its last byte y
        have k0 : w2.cell? ⟨g, 0, none⟩ = some (.slice (some ⟨g1, 0, none⟩) (m' + 1) d1) := by rw [hc2'.cell]; rfl
        have k1 : w2.cell? ⟨g, 1, none⟩ = some (.int .i64 (L : Int)) := by rw [hc2'.cell]; rfl
        have f1 := hc2'.frozen 1
        have e0 : w2.cell? ⟨g1, m', none⟩ = some (.int .u8 (y : Int)) := by
          rw [hblk.cell, List.getElem?_append_left (by rw [List.length_map, hPlen]; omega), getElem?_map_nth (by rw [hPlen]; omega), hylen]
        have f2 := hblk.frozen m'
        have hne : ¬ g = g1 := fun e => hgB2 (by rw [e]; rfl)
        have hand2 : bits .and .i64 (L : Int) 7 = (s : Int) := by rw [and7 L (by omega), HS.out]
        have fin : ∀ t : Nat, 1 ≤ t → s + t ≤ 8 → Hid (bits .or .u8 (y : Int) (((bits .and .u64 (u : Int) (IntKind.u64.wrap (IntKind.u64.wrap (2 ^ t) - 1))) % 256) * 2 ^ s % 256) = ((y + 2 ^ s * (u % 2 ^ t) : Nat) : Int)) :=
          fun t h1 h2 => put_word hu hy h1 h2
        have FIN := Lib.hid fin; have HSET := Lib.hid hset
        have HBLK := Lib.hid hblk; have HC2 := Lib.hid hc2'
        clear fin hset hblk hc2'
        by_cases ht : gk ≤ 8 - s
        · have hmin : (gk : Int) ≤ 8 - (s : Int) := by omega
          have hst : s + gk ≤ 8 := by omega
          go_wp2_with fail
          go_quiet (fail)
          go_wp2_with fail
          have t1 : (m' : Int) < (m' : Int) + 1 := by omega
          have s1 : IntKind.i64.wrap (m' : Int) = (m' : Int) := IntWalk.i64_in _ (by omega)
          refine wp_still_tail 21 (by kernel_rfl) (by kernel_rfl) ?_
          simp only [List.take_succ_cons, List.take_zero, List.drop_succ_cons, List.drop_zero]
          repeat still_step
          refine wpStill_nil ?_
          go_wp2_with fail
          rw [(FIN.out gk (by omega) hst).out]
          have ht1 : 1 ≤ gk := by omega
          have hkt : gk ≤ gk := by omega
          clear s1 t1 hand2 k0 k1 f1 e0 f2
          go_roundg (0)
          case measure => omega
          case rel => exact ⟨h + gk, u / 2 ^ gk, some ⟨g1, 0, none⟩, m' + 1, d1, by omega, by rfl, by rw [pow_cast]; rfl, Lib.hid (by rw [HU.out, Nat.div_div_eq_div_mul, ← Nat.pow_add]), by
            have hb := ((HC2.out.drewN (nq + 1)).far (p := ⟨g1, m', none⟩) hne (.int .u8 ((y + 2 ^ s * (u % 2 ^ gk) : Nat) : Int))).set 1 (.int .i64 ((L : Int) + (gk : Int)))
            have e : (L : Int) + (gk : Int) = ((bs.length + (h + gk) : Nat) : Int) := by have := HL.out; omega
            rw [e] at hb ⊢
            exact hb, by
            have hb := ((HBLK.out.drewN (nq + 1)).set m' (.int .u8 ((y + 2 ^ s * (u % 2 ^ gk) : Nat) : Int))).far (p := ⟨g, 1, none⟩) (fun e => hne e.symm) (.int .i64 ((L : Int) + (gk : Int)))
            rw [List.set_append_left _ _ (by rw [List.length_map, hPlen]; omega), ← List.map_set, HSET.out gk ht1 hst] at hb
            exact Own.mk hbg (by rw [← HSET.out gk ht1 hst, List.length_set, hPlen]) hsp hcm hb, ((hfr2.drewN (nq + 1)).setCell (p := ⟨g1, m', none⟩) (fun hlt => Or.inr (hB1A g1 rfl hlt)) _).setCell (p := ⟨g, 1, none⟩) (fun _ => Or.inl rfl) _, hB1A⟩
        · obtain ⟨t, htt⟩ : ∃ t, 8 - s = t := ⟨_, rfl⟩
          have hsub : 8 - (s : Int) = (t : Int) := by omega
          have hmin : ¬ (gk : Int) ≤ (t : Int) := by omega
          have hst : s + t ≤ 8 := by omega
          go_wp2_with fail
          go_quiet (fail)
          go_wp2_with fail
          have t1 : (m' : Int) < (m' : Int) + 1 := by omega
          have s1 : IntKind.i64.wrap (m' : Int) = (m' : Int) := IntWalk.i64_in _ (by omega)
          refine wp_still_tail 21 (by kernel_rfl) (by kernel_rfl) ?_
          simp only [List.take_succ_cons, List.take_zero, List.drop_succ_cons, List.drop_zero]
          repeat still_step
          refine wpStill_nil ?_
          go_wp2_with fail
          rw [(FIN.out t (by omega) hst).out]
          have ht1 : 1 ≤ t := by omega
          have hkt : t ≤ gk := by omega
          clear s1 t1 hand2 k0 k1 f1 e0 f2
          go_roundg (gk - t)
          case measure => omega
          case rel => exact ⟨h + t, u / 2 ^ t, some ⟨g1, 0, none⟩, m' + 1, d1, by omega, by go_num, by rw [pow_cast]; rfl, Lib.hid (by rw [HU.out, Nat.div_div_eq_div_mul, ← Nat.pow_add]), by
            have hb := ((HC2.out.drewN (nq + 1)).far (p := ⟨g1, m', none⟩) hne (.int .u8 ((y + 2 ^ s * (u % 2 ^ t) : Nat) : Int))).set 1 (.int .i64 ((L : Int) + (t : Int)))
            have e : (L : Int) + (t : Int) = ((bs.length + (h + t) : Nat) : Int) := by have := HL.out; omega
            rw [e] at hb ⊢
            exact hb, by
            have hb := ((HBLK.out.drewN (nq + 1)).set m' (.int .u8 ((y + 2 ^ s * (u % 2 ^ t) : Nat) : Int))).far (p := ⟨g, 1, none⟩) (fun e => hne e.symm) (.int .i64 ((L : Int) + (t : Int)))
            rw [List.set_append_left _ _ (by rw [List.length_map, hPlen]; omega), ← List.map_set, HSET.out t ht1 hst] at hb
            exact Own.mk hbg (by rw [← HSET.out t ht1 hst, List.length_set, hPlen]) hsp hcm hb, ((hfr2.drewN (nq + 1)).setCell (p := ⟨g1, m', none⟩) (fun hlt => Or.inr (hB1A g1 rfl hlt)) _).setCell (p := ⟨g, 1, none⟩) (fun _ => Or.inl rfl) _, hB1A⟩
      · have hs1 : 0 < L % 8 := by rw [HS.out]; omega
        obtain ⟨y, hy0⟩ : ∃ y : Nat, y = byteAt (bs ++ lowBits v h) ((bs ++ lowBits v h).length / 8) := ⟨_, rfl⟩
        have hy : y < 2 ^ s := by rw [hy0, ← HS.out, ← HLx.out]; exact byteAt_last_lt _
        obtain ⟨mm, hmm⟩ : ∃ mm, m' = mm + 1 := ⟨m' - 1, by have := HM.out; unfold bytesFor at this; omega⟩
        have hmm8 : mm = (bs ++ lowBits v h).length / 8 := by have := HM.out; rw [HLx.out]; unfold bytesFor at this; omega
        subst hmm
        obtain ⟨Pl, hPl⟩ : ∃ Pl, Pl = pack (bs ++ lowBits v h) := ⟨_, rfl⟩
        have hylen : nth Pl mm = (y : Int) := by
          rw [hPl, nth_pack (by rw [← pack_len, hor.len]; omega), hmm8, hy0]
        have hset : ∀ t : Nat, 1 ≤ t → s + t ≤ 8 → Pl.set mm ((y + 2 ^ s * (u % 2 ^ t) : Nat) : Int) = pack (bs ++ lowBits v (h + t)) := fun t h1 h2 => by
          have key := pack_append_in (a := bs ++ lowBits v h) (b := lowBits u t) (by rw [HLx.out]; exact hs1) (by rw [lowBits_len]; omega) (by rw [lowBits_len, HLx.out, HS.out]; exact h2)
          rw [bval_lowBits, ← hy0, ← hmm8, show (bs ++ lowBits v h).length % 8 = s by rw [HLx.out, HS.out]] at key
          rw [lowBits_add, ← HU.out, ← List.append_assoc, hPl]
          exact key
        have hPlen : Pl.length = mm + 1 := by rw [hPl]; exact hor.len
        rw [← hPl] at hor
        clear hy0 hPl hmm8
        obtain ⟨w2, hw2⟩ : ∃ w2, w2 = wr := ⟨_, rfl⟩
        subst hw2
        obtain ⟨d1, hd1⟩ : ∃ d1, d1 = d := ⟨_, rfl⟩
        subst hd1
        have hown2 := hor; have hfr2 := hfr; have hB1A := hBA; have hc2' := hcr; have hgB2 := hgB
        clear hor hfr hBA hcr hgB k0 k1 f0 f1
        rcases hown2.cases with ⟨_, h0, _⟩ | ⟨g1, spare, rfl, hbg, hnc, hcm, hsp, hblk⟩
        · omega
        clear hand
        -- here: world w2, the slice of mm + 1 bytes Pl in block g1, its last byte y
        have k0 : w2.cell? ⟨g, 0, none⟩ = some (.slice (some ⟨g1, 0, none⟩) (mm + 1) d1) := by rw [hc2'.cell]; rfl
        have k1 : w2.cell? ⟨g, 1, none⟩ = some (.int .i64 (L : Int)) := by rw [hc2'.cell]; rfl
        have f1 := hc2'.frozen 1
        have e0 : w2.cell? ⟨g1, mm, none⟩ = some (.int .u8 (y : Int)) := by
          rw [hblk.cell, List.getElem?_append_left (by rw [List.length_map, hPlen]; omega), getElem?_map_nth (by rw [hPlen]; omega), hylen]
        have f2 := hblk.frozen mm
        have hne : ¬ g = g1 := fun e => hgB2 (by rw [e]; rfl)
        have hand2 : bits .and .i64 (L : Int) 7 = (s : Int) := by rw [and7 L (by omega), HS.out]
        have fin : ∀ t : Nat, 1 ≤ t → s + t ≤ 8 → Hid (bits .or .u8 (y : Int) (((bits .and .u64 (u : Int) (IntKind.u64.wrap (IntKind.u64.wrap (2 ^ t) - 1))) % 256) * 2 ^ s % 256) = ((y + 2 ^ s * (u % 2 ^ t) : Nat) : Int)) :=
          fun t h1 h2 => put_word hu hy h1 h2
        have FIN := Lib.hid fin; have HSET := Lib.hid hset
        have HBLK := Lib.hid hblk; have HC2 := Lib.hid hc2'
        clear fin hset hblk hc2'
        by_cases ht : gk ≤ 8 - s
        · have hmin : (gk : Int) ≤ 8 - (s : Int) := by omega
          have hst : s + gk ≤ 8 := by omega
          go_wp2_with fail
          go_quiet (fail)
          go_wp2_with fail
          have t1 : (mm : Int) < (mm : Int) + 1 := by omega
          have s1 : IntKind.i64.wrap (mm : Int) = (mm : Int) := IntWalk.i64_in _ (by omega)
          refine wp_still_tail 21 (by kernel_rfl) (by kernel_rfl) ?_
          simp only [List.take_succ_cons, List.take_zero, List.drop_succ_cons, List.drop_zero]
          repeat still_step
          refine wpStill_nil ?_
          go_wp2_with fail
          rw [(FIN.out gk (by omega) hst).out]
          have ht1 : 1 ≤ gk := by omega
          have hkt : gk ≤ gk := by omega
          clear s1 t1 hand2 k0 k1 f1 e0 f2
          go_roundg (0)
          case measure => omega
          case rel => exact ⟨h + gk, u / 2 ^ gk, some ⟨g1, 0, none⟩, mm + 1, d1, by omega, by rfl, by rw [pow_cast]; rfl, Lib.hid (by rw [HU.out, Nat.div_div_eq_div_mul, ← Nat.pow_add]), by
            have hb := ((HC2.out.drewN (nq + 1)).far (p := ⟨g1, mm, none⟩) hne (.int .u8 ((y + 2 ^ s * (u % 2 ^ gk) : Nat) : Int))).set 1 (.int .i64 ((L : Int) + (gk : Int)))
            have e : (L : Int) + (gk : Int) = ((bs.length + (h + gk) : Nat) : Int) := by have := HL.out; omega
            rw [e] at hb ⊢
            exact hb, by
            have hb := ((HBLK.out.drewN (nq + 1)).set mm (.int .u8 ((y + 2 ^ s * (u % 2 ^ gk) : Nat) : Int))).far (p := ⟨g, 1, none⟩) (fun e => hne e.symm) (.int .i64 ((L : Int) + (gk : Int)))
            rw [List.set_append_left _ _ (by rw [List.length_map, hPlen]; omega), ← List.map_set, HSET.out gk ht1 hst] at hb
            exact Own.mk hbg (by rw [← HSET.out gk ht1 hst, List.length_set, hPlen]) hsp hcm hb, ((hfr2.drewN (nq + 1)).setCell (p := ⟨g1, mm, none⟩) (fun hlt => Or.inr (hB1A g1 rfl hlt)) _).setCell (p := ⟨g, 1, none⟩) (fun _ => Or.inl rfl) _, hB1A⟩
        · obtain ⟨t, htt⟩ : ∃ t, 8 - s = t := ⟨_, rfl⟩
          have hsub : 8 - (s : Int) = (t : Int) := by omega
          have hmin : ¬ (gk : Int) ≤ (t : Int) := by omega
          have hst : s + t ≤ 8 := by omega
          go_wp2_with fail
          go_quiet (fail)
          go_wp2_with fail
          have t1 : (mm : Int) < (mm : Int) + 1 := by omega
          have s1 : IntKind.i64.wrap (mm : Int) = (mm : Int) := IntWalk.i64_in _ (by omega)
          refine wp_still_tail 21 (by kernel_rfl) (by kernel_rfl) ?_
          simp only [List.take_succ_cons, List.take_zero, List.drop_succ_cons, List.drop_zero]
          repeat still_step
          refine wpStill_nil ?_
          go_wp2_with fail
          rw [(FIN.out t (by omega) hst).out]
          have ht1 : 1 ≤ t := by omega
          have hkt : t ≤ gk := by omega
          clear s1 t1 hand2 k0 k1 f1 e0 f2
          go_roundg (gk - t)
          case measure => omega
          case rel => exact ⟨h + t, u / 2 ^ t, some ⟨g1, 0, none⟩, mm + 1, d1, by omega, by go_num, by rw [pow_cast]; rfl, Lib.hid (by rw [HU.out, Nat.div_div_eq_div_mul, ← Nat.pow_add]), by
            have hb := ((HC2.out.drewN (nq + 1)).far (p := ⟨g1, mm, none⟩) hne (.int .u8 ((y + 2 ^ s * (u % 2 ^ t) : Nat) : Int))).set 1 (.int .i64 ((L : Int) + (t : Int)))
            have e : (L : Int) + (t : Int) = ((bs.length + (h + t) : Nat) : Int) := by have := HL.out; omega
            rw [e] at hb ⊢
            exact hb, by
            have hb := ((HBLK.out.drewN (nq + 1)).set mm (.int .u8 ((y + 2 ^ s * (u % 2 ^ t) : Nat) : Int))).far (p := ⟨g, 1, none⟩) (fun e => hne e.symm) (.int .i64 ((L : Int) + (t : Int)))
            rw [List.set_append_left _ _ (by rw [List.length_map, hPlen]; omega), ← List.map_set, HSET.out t ht1 hst] at hb
            exact Own.mk hbg (by rw [← HSET.out t ht1 hst, List.length_set, hPlen]) hsp hcm hb, ((hfr2.drewN (nq + 1)).setCell (p := ⟨g1, mm, none⟩) (fun hlt => Or.inr (hB1A g1 rfl hlt)) _).setCell (p := ⟨g, 1, none⟩) (fun _ => Or.inl rfl) _, hB1A⟩
    · obtain rfl : gk = 0 := by omega
      have HHK := Lib.hid hk
      go_wp2
      go_end0
      obtain rfl : h = n := by have := HHK.out; omega
      exact ⟨rfl, B, m', d, hcr, hor, hfr, hBA⟩
end Go.Proofs.YtpohaikbbfochaaDoor

