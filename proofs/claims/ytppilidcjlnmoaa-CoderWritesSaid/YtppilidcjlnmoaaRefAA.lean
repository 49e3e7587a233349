/-
  Contract of the reference of chapter 8: Add.
-/
import Derived.Test.YtppilidcjlnmoaaRefW
namespace Go.Proofs.Ytppilidcjlnmoaa
open Go.RowKit Cad Cad.Bit Cad.Code
set_option linter.unusedVariables false
set_option linter.unusedSimpArgs false


set_option maxRecDepth 100000 in
set_option maxHeartbeats 2000000 in
theorem rdadd_any (base : Nat) (A : Option Addr) (m c : Nat) (bs : List Bool) (p0 p1 q0 q1 v : Nat) (w : World) (hv : v < 4294967296) (hd : Dual.Ok ⟨p0, p1, q0, q1⟩) (hl : bs.length + lenD ⟨p0, p1, q0, q1⟩ v ≤ 330000) (hbase : base ≤ w.heap.size) (hown : Own w base 5 .u8 A m c (pack bs)) :
    Calls Try.prog 27 #[.agg #[.slice A m c, .int .i64 ((bs.length : Nat) : Int)], .agg #[.int .i64 (p0 : Int), .int .i64 (p1 : Int), .int .u64 (q0 : Int), .int .u64 (q1 : Int)], .int .u32 (v : Int)] w (Grew w base A (bs ++ codeD ⟨p0, p1, q0, q1⟩ v)) := by
  obtain ⟨hd0, hd1, hd2, hd3⟩ : p0 ≤ 24 ∧ p1 ≤ 24 ∧ q0 ≤ 68719476735 ∧ q1 ≤ 68719476735 := id hd

  by_cases h : v < 2 ^ p0
  · have HCD : Hid (codeD ⟨p0, p1, q0, q1⟩ v = false :: lowBits v p0) := Lib.hid (by unfold codeD; rw [if_pos h])
    have hld : lenD ⟨p0, p1, q0, q1⟩ v = 1 + p0 := by unfold lenD; rw [if_pos h]
    rw [hld] at hl
    clear hld
    have hvw : IntKind.u64.wrap (v : Int) = (v : Int) := IntWalk.u64_in _ (by omega)
    have hown0 := (((hown.alloc (.cells #[.slice A m c, .int .i64 ((bs.length : Nat) : Int)] 26)).alloc (.cells #[.int .i64 (p0 : Int), .int .i64 (p1 : Int), .int .u64 (q0 : Int), .int .u64 (q1 : Int)] 34)).alloc (.cells #[.slice none 0 0, .int .i64 0] 26))
    have hfr0 := (((Frm.refl (fun k => blockOf A = some k) w).alloc (.cells #[.slice A m c, .int .i64 ((bs.length : Nat) : Int)] 26)).alloc (.cells #[.int .i64 (p0 : Int), .int .i64 (p1 : Int), .int .u64 (q0 : Int), .int .u64 (q1 : Int)] 34)).alloc (.cells #[.slice none 0 0, .int .i64 0] 26)
    have HOWN := Lib.hid hown0; have HFR := Lib.hid hfr0
    clear hown0 hfr0
    go_enter Try.func27, Try.ntmps27
    go_wp2_with fail
    refine (rdlow_yes p0 p1 q0 q1 v _ hd0 hv h).mono ?_
    rintro e w1 ⟨rfl, b1⟩
    have s1 := b1.size
    try simp only [World.size_alloc, World.size_setCell, World.size_drew, size_drewN] at s1
    obtain ⟨zb_1, zd_1, zr_1, bb_1⟩ : Blk w1 (w.heap.size) 26 [.slice A m c, .int .i64 ((bs.length : Nat) : Int)] ∧ Blk w1 (w.heap.size + 1) 34 [.int .i64 (p0 : Int), .int .i64 (p1 : Int), .int .u64 (q0 : Int), .int .u64 (q1 : Int)] ∧ Blk w1 (w.heap.size + 1 + 1) 26 [.slice none 0 0, .int .i64 0] ∧ Below w.heap.size w w1 := by
      refine ⟨?_, ?_, ?_, ?_⟩
      all_goals repeat' (first | (with_reducible assumption) | (with_reducible exact Below.refl _ _) | (with_reducible refine Blk.after ?_ b1) | (with_reducible refine RowIn.belowS ?_ b1) | (with_reducible refine Below.after ?_ b1 ?_) | (with_reducible refine Blk.drewN ?_ _) | (with_reducible refine RowIn.drewN ?_ _) | (with_reducible refine below_drewN ?_ _) | (with_reducible refine Blk.drew ?_) | (with_reducible refine RowIn.drew ?_) | (with_reducible refine Below.drew ?_) | (with_reducible refine Blk.new' ?_ ?_ <;> first | (with_reducible rfl) | (simp; done)) | (with_reducible refine Blk.alloc ?_ _) | (with_reducible refine RowIn.alloc ?_ _) | (with_reducible refine Below.alloc ?_ ?_ _) | (with_reducible apply Blk.set') | (with_reducible apply Blk.far') | (with_reducible refine RowIn.far' ?_ ?_ _) | (with_reducible refine Below.far' ?_ ?_ _) | rfl | omega | go_size)
    have kb_1 := zb_1.cell; have fb_1 := zb_1.frozen; have lb_1 := zb_1.lt
    have kd_1 := zd_1.cell; have fd_1 := zd_1.frozen; have ld_1 := zd_1.lt
    have kr_1 := zr_1.cell; have fr_1 := zr_1.frozen; have lr_1 := zr_1.lt
    have own1 := (HOWN.out.below b1 (Nat.le_refl _)).drew
    have fr1 := (HFR.out.trans (Frm.of_below b1 (fun k => blockOf A = some k)) (fun _ _ h => h)).drew
    have zb1d := Blk.drew zb_1; have zd1d := Blk.drew zd_1; have zr1d := Blk.drew zr_1
    have hbs := bb_1.size
    have kb_1d := zb1d.cell; have kd_1d := zd1d.cell
    go_wp2_with fail
    go_region_held3 (fun w' => (∀ a, w'.cell? ⟨w.heap.size, a, none⟩ = [.slice A m c, .int .i64 ((bs.length : Nat) : Int)][a]?) ∧ (∀ a, w'.cell? ⟨w.heap.size + 1, a, none⟩ = [.int .i64 (p0 : Int), .int .i64 (p1 : Int), .int .u64 (q0 : Int), .int .u64 (q1 : Int)][a]?)) (first | with_reducible exact ⟨kb_1d, kd_1d⟩ | with_reducible exact ⟨kb_2, kd_2⟩ | with_reducible exact ⟨kb_3, kd_3⟩ | (refine ⟨Blk.cell (t := 26) ?_, Blk.cell (t := 34) ?_⟩; all_goals repeat' (first | (with_reducible assumption) | (with_reducible exact Below.refl _ _) | (with_reducible refine Blk.drewN ?_ _) | (with_reducible refine RowIn.drewN ?_ _) | (with_reducible refine below_drewN ?_ _) | (with_reducible refine Blk.drew ?_) | (with_reducible refine RowIn.drew ?_) | (with_reducible refine Below.drew ?_) | (with_reducible refine Blk.new' ?_ ?_ <;> first | (with_reducible rfl) | (simp; done)) | (with_reducible refine Blk.alloc ?_ _) | (with_reducible refine RowIn.alloc ?_ _) | (with_reducible refine Below.alloc ?_ ?_ _) | (with_reducible apply Blk.set') | (with_reducible apply Blk.far') | (with_reducible refine RowIn.far' ?_ ?_ _) | (with_reducible refine Below.far' ?_ ?_ _) | rfl | omega | go_size))) (first
      | (go_simp; go_at_call 35; refine (radd_any base A m c bs 0 false _ rfl (by omega) (by go_size) own1).mono ?_; rintro e w2 ⟨B, m', d', os, rfl, own2, HO, fr2, hB⟩
         have zb_2 := zb1d.frm fr2 (own1.ne_blk zb1d (by decide)); have zd_2 := zd1d.frm fr2 (own1.ne_blk zd1d (by decide)); have zr_2 := zr1d.frm fr2 (own1.ne_blk zr1d (by decide))
         have fr12 := fr1.trans fr2 (fun _ _ h => h); have hs2 := fr12.size
         have kb_2 := zb_2.cell; have kd_2 := zd_2.cell; have los : os.length ≤ bs.length + 1 := by rw [HO.out, List.length_append]; simp)
      | (go_simp; go_at_call 34; refine (rnumber_any base B m' d' os v p0 _ (by omega) (by omega) (by omega) (by omega) own2).mono ?_; rintro e w3 ⟨B3, m3, d3, os3, rfl, own3, HO3, fr3, hB3⟩
         have zb_3 := zb_2.frm fr3 (own2.ne_blk zb_2 (by decide)); have zd_3 := zd_2.frm fr3 (own2.ne_blk zd_2 (by decide)); have zr_3 := zr_2.frm fr3 (own2.ne_blk zr_2 (by decide))
         have kb_3 := zb_3.cell; have kd_3 := zd_3.cell; have kr_3 := zr_3.cell; have frr_3 := zr_3.frozen; have lr_3 := zr_3.lt))
    all_goals
      have hrn3 : blockOf B3 ≠ some (w.heap.size + 1 + 1) := own3.ne_blk zr_3 (by decide)
      have hBA : ∀ k, blockOf B = some k → k < w.heap.size → blockOf A = some k := fun k h hk => hB k h (by go_size)
      have fr4 : Frm (fun k => blockOf A = some k) w w3 := fr12.trans fr3 (fun i hi h => hBA i h hi)
      have hBB : ∀ k, blockOf B3 = some k → k < w.heap.size → blockOf A = some k := fun k h hk => hBA k (hB3 k h (by omega)) hk
      have hs3 := fr4.size
      go_wp2
      refine bodyPost_ret (v := .agg #[.slice B3 m3 d3, .int .i64 ((os3.length : Nat) : Int)]) (by simp [results, Try.results27, go_sem, kr_3, lr_3]) rfl ?_
      refine ⟨B3, m3, d3, os3, rfl, ?_, ?_, ?_, hBB⟩
      · first | exact (own3.far' hrn3 _).far' hrn3 _ | exact own3
      · rw [HO3.out, HO.out, HCD.out, List.append_assoc]; exact Lib.hid rfl
      · first | exact Frm.new' (Frm.new' fr4 (by omega) _) (by omega) _ | exact fr4
  · obtain ⟨y, hy⟩ : ∃ y, y = v - 2 ^ p0 := ⟨_, rfl⟩
    have hy32 : y < 4294967296 := by rw [hy]; exact Nat.lt_of_le_of_lt (Nat.sub_le _ _) hv
    have HCD : Hid (codeD ⟨p0, p1, q0, q1⟩ v = true :: rice y p1) := Lib.hid (by rw [hy]; unfold codeD; rw [if_neg h])
    have hld : lenD ⟨p0, p1, q0, q1⟩ v = 1 + riceLen y p1 := by rw [hy]; unfold lenD; rw [if_neg h]
    rw [hld] at hl
    clear hld
    obtain ⟨K, hK⟩ : ∃ K, K = riceLen y p1 := ⟨_, rfl⟩
    rw [← hK] at hl
    have HK := Lib.hid hK
    have HY := Lib.hid hy
    clear hy hK
    have hown0 := (((hown.alloc (.cells #[.slice A m c, .int .i64 ((bs.length : Nat) : Int)] 26)).alloc (.cells #[.int .i64 (p0 : Int), .int .i64 (p1 : Int), .int .u64 (q0 : Int), .int .u64 (q1 : Int)] 34)).alloc (.cells #[.slice none 0 0, .int .i64 0] 26))
    have hfr0 := (((Frm.refl (fun k => blockOf A = some k) w).alloc (.cells #[.slice A m c, .int .i64 ((bs.length : Nat) : Int)] 26)).alloc (.cells #[.int .i64 (p0 : Int), .int .i64 (p1 : Int), .int .u64 (q0 : Int), .int .u64 (q1 : Int)] 34)).alloc (.cells #[.slice none 0 0, .int .i64 0] 26)
    have HOWN := Lib.hid hown0; have HFR := Lib.hid hfr0
    clear hown0 hfr0
    go_enter Try.func27, Try.ntmps27
    go_wp2_with fail
    refine (rdlow_no p0 p1 q0 q1 v _ hd0 hv h).mono ?_
    rintro e w1 ⟨rfl, b1⟩
    have s1 := b1.size
    try simp only [World.size_alloc, World.size_setCell, World.size_drew, size_drewN] at s1
    obtain ⟨zb_1, zd_1, zr_1, bb_1⟩ : Blk w1 (w.heap.size) 26 [.slice A m c, .int .i64 ((bs.length : Nat) : Int)] ∧ Blk w1 (w.heap.size + 1) 34 [.int .i64 (p0 : Int), .int .i64 (p1 : Int), .int .u64 (q0 : Int), .int .u64 (q1 : Int)] ∧ Blk w1 (w.heap.size + 1 + 1) 26 [.slice none 0 0, .int .i64 0] ∧ Below w.heap.size w w1 := by
      refine ⟨?_, ?_, ?_, ?_⟩
      all_goals repeat' (first | (with_reducible assumption) | (with_reducible exact Below.refl _ _) | (with_reducible refine Blk.after ?_ b1) | (with_reducible refine RowIn.belowS ?_ b1) | (with_reducible refine Below.after ?_ b1 ?_) | (with_reducible refine Blk.drewN ?_ _) | (with_reducible refine RowIn.drewN ?_ _) | (with_reducible refine below_drewN ?_ _) | (with_reducible refine Blk.drew ?_) | (with_reducible refine RowIn.drew ?_) | (with_reducible refine Below.drew ?_) | (with_reducible refine Blk.new' ?_ ?_ <;> first | (with_reducible rfl) | (simp; done)) | (with_reducible refine Blk.alloc ?_ _) | (with_reducible refine RowIn.alloc ?_ _) | (with_reducible refine Below.alloc ?_ ?_ _) | (with_reducible apply Blk.set') | (with_reducible apply Blk.far') | (with_reducible refine RowIn.far' ?_ ?_ _) | (with_reducible refine Below.far' ?_ ?_ _) | rfl | omega | go_size)
    have kb_1 := zb_1.cell; have fb_1 := zb_1.frozen; have lb_1 := zb_1.lt
    have kd_1 := zd_1.cell; have fd_1 := zd_1.frozen; have ld_1 := zd_1.lt
    have kr_1 := zr_1.cell; have fr_1 := zr_1.frozen; have lr_1 := zr_1.lt
    have own1 := (HOWN.out.below b1 (Nat.le_refl _)).drew
    have fr1 := (HFR.out.trans (Frm.of_below b1 (fun k => blockOf A = some k)) (fun _ _ h => h)).drew
    have zb1d := Blk.drew zb_1; have zd1d := Blk.drew zd_1; have zr1d := Blk.drew zr_1
    have hbs := bb_1.size
    have kb_1d := zb1d.cell; have kd_1d := zd1d.cell
    go_wp2_with fail
    go_region_held3 (fun w' => (∀ a, w'.cell? ⟨w.heap.size, a, none⟩ = [.slice A m c, .int .i64 ((bs.length : Nat) : Int)][a]?) ∧ (∀ a, w'.cell? ⟨w.heap.size + 1, a, none⟩ = [.int .i64 (p0 : Int), .int .i64 (p1 : Int), .int .u64 (q0 : Int), .int .u64 (q1 : Int)][a]?)) (first | with_reducible exact ⟨kb_1d, kd_1d⟩ | with_reducible exact ⟨kb_2, kd_2⟩ | with_reducible exact ⟨kb_3, kd_3⟩ | with_reducible exact ⟨kb_5, kd_5⟩ | (refine ⟨Blk.cell (t := 26) ?_, Blk.cell (t := 34) ?_⟩; all_goals repeat' (first | (with_reducible assumption) | (with_reducible exact Below.refl _ _) | (with_reducible refine Blk.drewN ?_ _) | (with_reducible refine RowIn.drewN ?_ _) | (with_reducible refine below_drewN ?_ _) | (with_reducible refine Blk.drew ?_) | (with_reducible refine RowIn.drew ?_) | (with_reducible refine Below.drew ?_) | (with_reducible refine Blk.new' ?_ ?_ <;> first | (with_reducible rfl) | (simp; done)) | (with_reducible refine Blk.alloc ?_ _) | (with_reducible refine RowIn.alloc ?_ _) | (with_reducible refine Below.alloc ?_ ?_ _) | (with_reducible apply Blk.set') | (with_reducible apply Blk.far') | (with_reducible refine RowIn.far' ?_ ?_ _) | (with_reducible refine Below.far' ?_ ?_ _) | rfl | omega | go_size))) (first
      | (go_simp; go_at_call 35; refine (radd_any base A m c bs 1 true _ rfl (by omega) (by go_size) own1).mono ?_; rintro e w2 ⟨B, m', d', os, rfl, own2, HO, fr2, hB⟩
         have zb_2 := zb1d.frm fr2 (own1.ne_blk zb1d (by decide)); have zd_2 := zd1d.frm fr2 (own1.ne_blk zd1d (by decide)); have zr_2 := zr1d.frm fr2 (own1.ne_blk zr1d (by decide))
         have fr12 := fr1.trans fr2 (fun _ _ h => h); have hs2 := fr12.size
         have kb_2 := zb_2.cell; have kd_2 := zd_2.cell; have los : os.length ≤ bs.length + 1 := by rw [HO.out, List.length_append]; simp)
      | (go_simp; go_at_call 37; refine (rdleft_ok p0 p1 q0 q1 v y _ hd0 hv h HY.out).mono ?_; rintro e w5 ⟨rfl, b5⟩
         have own5 := own2.below b5 (Nat.le_refl _); have zb_5 := zb_2.after b5; have zd_5 := zd_2.after b5; have zr_5 := zr_2.after b5
         have fr15 := fr12.trans (Frm.of_below b5 (fun k => blockOf B = some k)) (fun i hi h => hB i h (by first | exact hi | go_size)); have hs5 := fr15.size; have hs25 := b5.size
         have kb_5 := zb_5.cell; have kd_5 := zd_5.cell)
      | (go_simp; go_at_call 36; refine (rradd_any base B m' d' os y p1 _ hy32 hd1 (by rw [← HK.out]; omega) (by omega) own5).mono ?_; rintro e w3 ⟨B3, m3, d3, os3, rfl, own3, HO3, fr3, hB3⟩
         have zb_3 := zb_5.frm fr3 (own5.ne_blk zb_5 (by decide)); have zd_3 := zd_5.frm fr3 (own5.ne_blk zd_5 (by decide)); have zr_3 := zr_5.frm fr3 (own5.ne_blk zr_5 (by decide))
         have kb_3 := zb_3.cell; have kd_3 := zd_3.cell; have kr_3 := zr_3.cell; have frr_3 := zr_3.frozen; have lr_3 := zr_3.lt))
    all_goals
      have fr12 := fr15
      have hrn3 : blockOf B3 ≠ some (w.heap.size + 1 + 1) := own3.ne_blk zr_3 (by decide)
      have hBA : ∀ k, blockOf B = some k → k < w.heap.size → blockOf A = some k := fun k h hk => hB k h (by go_size)
      have fr4 : Frm (fun k => blockOf A = some k) w w3 := fr12.trans fr3 (fun i hi h => hBA i h hi)
      have hBB : ∀ k, blockOf B3 = some k → k < w.heap.size → blockOf A = some k := fun k h hk => hBA k (hB3 k h (by omega)) hk
      have hs3 := fr4.size
      go_wp2
      refine bodyPost_ret (v := .agg #[.slice B3 m3 d3, .int .i64 ((os3.length : Nat) : Int)]) (by simp [results, Try.results27, go_sem, kr_3, lr_3]) rfl ?_
      refine ⟨B3, m3, d3, os3, rfl, ?_, ?_, ?_, hBB⟩
      · first | exact (own3.far' hrn3 _).far' hrn3 _ | exact own3
      · rw [HO3.out, HO.out, HCD.out, List.append_assoc]; exact Lib.hid rfl
      · first | exact Frm.new' (Frm.new' fr4 (by omega) _) (by omega) _ | exact fr4


end Go.Proofs.Ytppilidcjlnmoaa
