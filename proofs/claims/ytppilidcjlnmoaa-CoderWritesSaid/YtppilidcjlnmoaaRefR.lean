/-
  Contracts of the reference of chapter 7: lengths, writing.
-/
import Derived.Test.YtppilidcjlnmoaaRefU
import Derived.Test.YtppilidcjlnmoaaRefN
import Derived.Test.YtppilidcjlnmoaaRiceA
namespace Go.Proofs.Ytppilidcjlnmoaa
open Go.RowKit Cad Cad.Bit Cad.Code
set_option linter.unusedVariables false
set_option linter.unusedSimpArgs false

theorem rpower_ok (k : Nat) (w : World) (hk : k ≤ 29) :
    Calls Try.prog 40 #[.int .i64 (k : Int)] w fun e w' => ∃ y : Nat, e = .returned (.int .u64 (y : Int)) ∧ Hid (y = 2 ^ k) ∧ w = w' := by
  go_enter Try.func40, Try.ntmps40
  go_wp2_with fail
  go_loopg [3, 4] k (fun r u v wr => ∃ j x : Nat, j + r = k ∧ v = .int .i64 (j : Nat) ∧ u = .int .u64 (x : Nat) ∧ Hid (x = 2 ^ j) ∧ wr = w)
  case atStart => exact ⟨0, 1, by omega, rfl, rfl, Lib.hid rfl, rfl⟩
  case round =>
    obtain ⟨j, x, hj, rfl, rfl, HX, rfl⟩ := hrel
    by_cases hlt : j < k
    · have hx : x ≤ 268435456 := by
        rw [HX.out]
        have h : 2 ^ j ≤ 2 ^ 28 := Nat.pow_le_pow_right (by omega) (by omega)
        have h2 : (2 : Nat) ^ 28 = 268435456 := by decide
        omega
      go_wp2
      go_roundg (k - (j + 1))
      case measure => omega
      case rel => exact ⟨j + 1, x * 2, by omega, by go_num, by go_num, Lib.hid (by rw [HX.out, Nat.pow_succ]), rfl⟩
    · obtain rfl : j = k := by omega
      go_wp2
      go_ret
      exact ⟨x, rfl, HX, rfl⟩

/-- A number's part that is written as a run. -/
def partOf (v k : Nat) : Nat := min 48 (v / 2 ^ k)
theorem partOf_le (v k : Nat) : partOf v k ≤ 48 := by unfold partOf; omega
theorem rpart_ok (v k : Nat) (w : World) (hv : v < 4294967296) (hk : k ≤ 24) :
    Calls Try.prog 41 #[.int .u32 (v : Int), .int .i64 (k : Int)] w fun e w' => ∃ q : Nat, e = .returned (.int .i64 (q : Int)) ∧ Hid (q = partOf v k) ∧ w = w' := by
  obtain ⟨p, hp⟩ : ∃ p, p = 2 ^ k := ⟨_, rfl⟩
  have hp1 : 1 ≤ p := by rw [hp]; exact Nat.two_pow_pos k
  obtain ⟨z, hz⟩ : ∃ z, z = v / p := ⟨_, rfl⟩
  have hzi : (v : Int) / (p : Int) = (z : Int) := by rw [hz]; exact (Int.natCast_ediv v p).symm
  have hzv : z ≤ v := by rw [hz]; exact Nat.div_le_self _ _
  have HP := Lib.hid hp; have HZ := Lib.hid hz
  clear hp hz
  by_cases h : z < 48
  · have HQ : Hid (z = partOf v k) := Lib.hid (by unfold partOf; rw [← HP.out, ← HZ.out]; omega)
    have h' : (z : Int) < 48 := by omega
    go_enter Try.func41, Try.ntmps41
    go_wp2_with fail
    refine (rpower_ok k _ (by omega)).mono ?_
    rintro e _ ⟨p2, rfl, HP2, rfl⟩
    obtain rfl : p2 = p := by rw [HP2.out, HP.out]
    go_wp2
    go_ret
    exact ⟨z, rfl, HQ, rfl⟩
  · have HQ : Hid (48 = partOf v k) := Lib.hid (by unfold partOf; rw [← HP.out, ← HZ.out]; omega)
    have h' : ¬ (z : Int) < 48 := by omega
    go_enter Try.func41, Try.ntmps41
    go_wp2_with fail
    refine (rpower_ok k _ (by omega)).mono ?_
    rintro e _ ⟨p2, rfl, HP2, rfl⟩
    obtain rfl : p2 = p := by rw [HP2.out, HP.out]
    go_wp2
    go_ret
    exact ⟨48, rfl, HQ, rfl⟩

theorem rice_part {v k q : Nat} (hq : q = partOf v k) : rice v k = run q ++ if q = 48 then lowBits v 32 else lowBits (v % 2 ^ k) k := by
  unfold rice; unfold partOf at hq
  by_cases h : v / 2 ^ k < 48
  · rw [if_pos h, if_neg (by omega), show q = v / 2 ^ k by omega]
  · rw [if_neg h, if_pos (by omega), show q = 48 by omega]
theorem riceLen_part {v k q : Nat} (hq : q = partOf v k) : riceLen v k = runLen q + if q = 48 then 32 else k := by
  rw [← rice_len, rice_part hq, List.length_append, run_len (by rw [hq]; exact partOf_le _ _)]
  split
  · rw [lowBits_len]
  · rw [lowBits_len]

set_option maxRecDepth 100000 in
set_option maxHeartbeats 1000000 in
theorem rradd_any (base : Nat) (A : Option Addr) (m c : Nat) (bs : List Bool) (v k : Nat) (w : World) (hv : v < 4294967296) (hk : k ≤ 24) (hl : bs.length + riceLen v k ≤ 330000) (hbase : base ≤ w.heap.size) (hown : Own w base 5 .u8 A m c (pack bs)) :
    Calls Try.prog 36 #[.agg #[.slice A m c, .int .i64 ((bs.length : Nat) : Int)], .int .u32 (v : Int), .int .i64 (k : Int)] w (Grew w base A (bs ++ rice v k)) := by
  obtain ⟨q, hq⟩ : ∃ q, q = partOf v k := ⟨_, rfl⟩
  have hq48 : q ≤ 48 := by rw [hq]; exact partOf_le _ _
  have hrl2 := riceLen_part hq
  have hrl : bs.length + runLen q ≤ 330000 := by omega
  have HRC := Lib.hid (rice_part hq)
  have HQ := Lib.hid hq
  have hz0 : Blk ((w.alloc (.cells #[.slice A m c, .int .i64 ((bs.length : Nat) : Int)] 26)).alloc (.cells #[.slice none 0 0, .int .i64 0] 26)) w.heap.size 26 [.slice A m c, .int .i64 ((bs.length : Nat) : Int)] := by
    repeat' (first | (with_reducible assumption) | (with_reducible exact Below.refl _ _) | (with_reducible refine Blk.drewN ?_ _) | (with_reducible refine RowIn.drewN ?_ _) | (with_reducible refine below_drewN ?_ _) | (with_reducible refine Blk.drew ?_) | (with_reducible refine RowIn.drew ?_) | (with_reducible refine Below.drew ?_) | (with_reducible refine Blk.new' ?_ ?_ <;> first | (with_reducible rfl) | (simp; done)) | (with_reducible refine Blk.alloc ?_ _) | (with_reducible refine RowIn.alloc ?_ _) | (with_reducible refine Below.alloc ?_ ?_ _) | (with_reducible apply Blk.set') | (with_reducible apply Blk.far') | (with_reducible refine RowIn.far' ?_ ?_ _) | (with_reducible refine Below.far' ?_ ?_ _) | rfl | omega | go_size)
  have hz1 : Blk ((w.alloc (.cells #[.slice A m c, .int .i64 ((bs.length : Nat) : Int)] 26)).alloc (.cells #[.slice none 0 0, .int .i64 0] 26)) (w.heap.size + 1) 26 [.slice none 0 0, .int .i64 0] := by
    repeat' (first | (with_reducible assumption) | (with_reducible exact Below.refl _ _) | (with_reducible refine Blk.drewN ?_ _) | (with_reducible refine RowIn.drewN ?_ _) | (with_reducible refine below_drewN ?_ _) | (with_reducible refine Blk.drew ?_) | (with_reducible refine RowIn.drew ?_) | (with_reducible refine Below.drew ?_) | (with_reducible refine Blk.new' ?_ ?_ <;> first | (with_reducible rfl) | (simp; done)) | (with_reducible refine Blk.alloc ?_ _) | (with_reducible refine RowIn.alloc ?_ _) | (with_reducible refine Below.alloc ?_ ?_ _) | (with_reducible apply Blk.set') | (with_reducible apply Blk.far') | (with_reducible refine RowIn.far' ?_ ?_ _) | (with_reducible refine Below.far' ?_ ?_ _) | rfl | omega | go_size)
  have HOWN0 := Lib.hid ((hown.alloc (.cells #[.slice A m c, .int .i64 ((bs.length : Nat) : Int)] 26)).alloc (.cells #[.slice none 0 0, .int .i64 0] 26))
  have HFR0 := Lib.hid (((Frm.refl (fun k => blockOf A = some k) w).alloc (.cells #[.slice A m c, .int .i64 ((bs.length : Nat) : Int)] 26)).alloc (.cells #[.slice none 0 0, .int .i64 0] 26))
  have HZ0 := Lib.hid hz0; have HZ1 := Lib.hid hz1
  clear hq hz0 hz1
  by_cases h : q = 48
  · subst h
    rw [if_pos rfl] at hrl2 HRC
    go_enter Try.func36, Try.ntmps36
    go_wp2_with fail
    refine (rpart_ok v k _ hv hk).mono ?_
    rintro e _ ⟨q2, rfl, HQ2, rfl⟩
    obtain rfl : 48 = q2 := by rw [HQ2.out, HQ.out]
    clear HQ2
    have hsz0 : w.heap.size ≤ ((w.alloc (.cells #[.slice A m c, .int .i64 ((bs.length : Nat) : Int)] 26)).alloc (.cells #[.slice none 0 0, .int .i64 0] 26)).heap.size := by go_size
    go_wp2_with fail
    refine (ruadd_any base A m c bs 48 _ hq48 hrl (by omega) HOWN0.out).mono ?_
    rintro e w1 ⟨B, m', d', os, rfl, own, HO, fr1, hB⟩
    have hAn0 : blockOf A ≠ some w.heap.size := HOWN0.out.ne_blk HZ0.out (by decide)
    have hAn1 : blockOf A ≠ some (w.heap.size + 1) := HOWN0.out.ne_blk HZ1.out (by decide)
    have zb := HZ0.out.frm fr1 hAn0
    have zr := HZ1.out.frm fr1 hAn1
    have fr := HFR0.out.trans fr1 (fun i hi h => h)
    have hbn : blockOf B ≠ some w.heap.size := own.ne_blk zb (by decide)
    have hrn : blockOf B ≠ some (w.heap.size + 1) := own.ne_blk zr (by decide)
    have s1 := fr.size
    have kb := zb.cell; have fb := zb.frozen; have lb := zb.lt; have kr := zr.cell; have frr := zr.frozen; have lr := zr.lt
    have HBA : Hid (∀ k, blockOf B = some k → k < w.heap.size → blockOf A = some k) := Lib.hid (fun k h hk => hB k h (by go_size))
    have hos : os.length ≤ bs.length + runLen 48 := by rw [HO.out, List.length_append, run_len (by omega)]; omega
    obtain ⟨w2, hw2⟩ : ∃ w2, w2 = (w1.setCell ⟨w.heap.size, 0, none⟩ (.slice B m' d')).setCell ⟨w.heap.size, 1, none⟩ (.int .i64 ((os.length : Nat) : Int)) := ⟨_, rfl⟩
    have own2 : Own w2 base 5 .u8 B m' d' (pack os) := by rw [hw2]; exact (own.far' (i := 0) hbn (.slice B m' d')).far' (i := 1) hbn (.int .i64 ((os.length : Nat) : Int))
    obtain ⟨zb2, zr2⟩ : Blk w2 w.heap.size 26 [.slice B m' d', .int .i64 ((os.length : Nat) : Int)] ∧ Blk w2 (w.heap.size + 1) 26 [.slice none 0 0, .int .i64 0] := by
      rw [hw2]
      refine ⟨?_, ?_⟩
      all_goals repeat' (first | (with_reducible assumption) | (with_reducible exact Below.refl _ _) | (with_reducible refine Blk.drewN ?_ _) | (with_reducible refine RowIn.drewN ?_ _) | (with_reducible refine below_drewN ?_ _) | (with_reducible refine Blk.drew ?_) | (with_reducible refine RowIn.drew ?_) | (with_reducible refine Below.drew ?_) | (with_reducible refine Blk.new' ?_ ?_ <;> first | (with_reducible rfl) | (simp; done)) | (with_reducible refine Blk.alloc ?_ _) | (with_reducible refine RowIn.alloc ?_ _) | (with_reducible refine Below.alloc ?_ ?_ _) | (with_reducible apply Blk.set') | (with_reducible apply Blk.far') | (with_reducible refine RowIn.far' ?_ ?_ _) | (with_reducible refine Below.far' ?_ ?_ _) | rfl | omega | go_size)
    have fr2 : Frm (fun k => blockOf A = some k) w w2 := by rw [hw2]; exact Frm.new' (Frm.new' fr (Nat.le_refl _) _) (Nat.le_refl _) _
    have s2 := fr2.size
    go_wp2_with fail
    rw [← hw2]
    clear hw2 zb zr kb fb kr frr own fr fr1
    have kb := zb2.cell; have fb := zb2.frozen; have lb2 := zb2.lt; have kr := zr2.cell; have frr := zr2.frozen; have lr2 := zr2.lt
    have hlen2 : os.length + 32 ≤ 330000 := by omega
    refine (rnumber_any base B m' d' os v 32 _ (by omega) (by omega) (by omega) (by omega) own2).mono ?_
    rintro e w3 ⟨B2, m2, d2, os2, rfl, own3, HO2, fr3, hB3⟩
    have zr3 := zr2.frm fr3 (own2.ne_blk zr2 (by decide))
    have hrn3 : blockOf B2 ≠ some (w.heap.size + 1) := own3.ne_blk zr3 (by decide)
    have fr4 : Frm (fun k => blockOf A = some k) w w3 := fr2.trans fr3 (fun i hi h => HBA.out i h hi)
    have hBB : ∀ k, blockOf B2 = some k → k < w.heap.size → blockOf A = some k := fun k h hk => HBA.out k (hB3 k h (by go_size)) hk
    have s3 := fr4.size
    clear kr frr lr2 kb fb lb2
    have kr := zr3.cell; have frr := zr3.frozen; have lr2 := zr3.lt
    have HE : Hid (os2 = bs ++ rice v k) := by rw [HO2.out, HO.out, HRC.out, List.append_assoc]; exact Lib.hid rfl
    go_wp2
    refine bodyPost_ret (v := .agg #[.slice B2 m2 d2, .int .i64 ((os2.length : Nat) : Int)]) (by simp [results, Try.results36, go_sem, kr, lr2]) rfl ?_
    refine ⟨B2, m2, d2, os2, rfl, ?_, HE, ?_, hBB⟩
    · exact (own3.far' hrn3 _).far' hrn3 _
    · exact Frm.new' (Frm.new' fr4 (by omega) _) (by omega) _
  · rw [if_neg h] at hrl2 HRC
    have t48 : ((q : Int) == 48) = false := beq_eq_false_iff_ne.2 (by omega)
    obtain ⟨r, hr⟩ : ∃ r, r = v % 2 ^ k := ⟨_, rfl⟩
    clear h
    go_enter Try.func36, Try.ntmps36
    go_wp2_with fail
    refine (rpart_ok v k _ hv hk).mono ?_
    rintro e _ ⟨q2, rfl, HQ2, rfl⟩
    obtain rfl : q = q2 := by rw [HQ2.out, HQ.out]
    clear HQ2
    have hsz0 : w.heap.size ≤ ((w.alloc (.cells #[.slice A m c, .int .i64 ((bs.length : Nat) : Int)] 26)).alloc (.cells #[.slice none 0 0, .int .i64 0] 26)).heap.size := by go_size
    go_wp2_with fail
    refine (ruadd_any base A m c bs q _ hq48 hrl (by omega) HOWN0.out).mono ?_
    rintro e w1 ⟨B, m', d', os, rfl, own, HO, fr1, hB⟩
    have hAn0 : blockOf A ≠ some w.heap.size := HOWN0.out.ne_blk HZ0.out (by decide)
    have hAn1 : blockOf A ≠ some (w.heap.size + 1) := HOWN0.out.ne_blk HZ1.out (by decide)
    have zb := HZ0.out.frm fr1 hAn0
    have zr := HZ1.out.frm fr1 hAn1
    have fr := HFR0.out.trans fr1 (fun i hi h => h)
    have hbn : blockOf B ≠ some w.heap.size := own.ne_blk zb (by decide)
    have hrn : blockOf B ≠ some (w.heap.size + 1) := own.ne_blk zr (by decide)
    have s1 := fr.size
    have kb := zb.cell; have fb := zb.frozen; have lb := zb.lt; have kr := zr.cell; have frr := zr.frozen; have lr := zr.lt
    have HBA : Hid (∀ k, blockOf B = some k → k < w.heap.size → blockOf A = some k) := Lib.hid (fun k h hk => hB k h (by go_size))
    have hos : os.length ≤ bs.length + runLen q := by rw [HO.out, List.length_append, run_len (by omega)]; omega
    obtain ⟨w2, hw2⟩ : ∃ w2, w2 = (w1.setCell ⟨w.heap.size, 0, none⟩ (.slice B m' d')).setCell ⟨w.heap.size, 1, none⟩ (.int .i64 ((os.length : Nat) : Int)) := ⟨_, rfl⟩
    have own2 : Own w2 base 5 .u8 B m' d' (pack os) := by rw [hw2]; exact (own.far' (i := 0) hbn (.slice B m' d')).far' (i := 1) hbn (.int .i64 ((os.length : Nat) : Int))
    obtain ⟨zb2, zr2⟩ : Blk w2 w.heap.size 26 [.slice B m' d', .int .i64 ((os.length : Nat) : Int)] ∧ Blk w2 (w.heap.size + 1) 26 [.slice none 0 0, .int .i64 0] := by
      rw [hw2]
      refine ⟨?_, ?_⟩
      all_goals repeat' (first | (with_reducible assumption) | (with_reducible exact Below.refl _ _) | (with_reducible refine Blk.drewN ?_ _) | (with_reducible refine RowIn.drewN ?_ _) | (with_reducible refine below_drewN ?_ _) | (with_reducible refine Blk.drew ?_) | (with_reducible refine RowIn.drew ?_) | (with_reducible refine Below.drew ?_) | (with_reducible refine Blk.new' ?_ ?_ <;> first | (with_reducible rfl) | (simp; done)) | (with_reducible refine Blk.alloc ?_ _) | (with_reducible refine RowIn.alloc ?_ _) | (with_reducible refine Below.alloc ?_ ?_ _) | (with_reducible apply Blk.set') | (with_reducible apply Blk.far') | (with_reducible refine RowIn.far' ?_ ?_ _) | (with_reducible refine Below.far' ?_ ?_ _) | rfl | omega | go_size)
    have fr2 : Frm (fun k => blockOf A = some k) w w2 := by rw [hw2]; exact Frm.new' (Frm.new' fr (Nat.le_refl _) _) (Nat.le_refl _) _
    have s2 := fr2.size
    go_wp2_with fail
    rw [← hw2]
    clear hw2 zb zr kb fb kr frr own fr fr1
    have kb := zb2.cell; have fb := zb2.frozen; have lb2 := zb2.lt; have kr := zr2.cell; have frr := zr2.frozen; have lr2 := zr2.lt
    have hlen2 : os.length + k ≤ 330000 := by omega
    have HP0 : Hid (∀ p : Nat, Hid (p = 2 ^ k) → (v : Int).tmod (p : Int) = (r : Int) ∧ ¬ p = 0) := Lib.hid fun p HP => ⟨by rw [HP.out, hr, Int.tmod_eq_emod_of_nonneg (by omega)]; exact (Int.natCast_emod v (2 ^ k)).symm, by rw [HP.out]; have := Nat.two_pow_pos k; omega⟩
    have hvw : IntKind.u64.wrap (v : Int) = (v : Int) := IntWalk.u64_in _ (by omega)
    have hr64 : r < 18446744073709551616 := by rw [hr]; exact Nat.lt_of_le_of_lt (Nat.mod_le _ _) (by omega)
    have HR := Lib.hid hr
    clear hr
    have own2d := own2.drew; have zr2d := zr2.drew; have fr2d := fr2.drew
    go_wp2_with fail
    go_region_law (first
      | (go_simp; go_at_call 40; refine (rpower_ok k _ (by omega)).mono ?_; rintro e _ ⟨p, rfl, HP, rfl⟩
         obtain ⟨hri2, hp1⟩ := HP0.out p HP)
      | (go_simp; go_at_call 34; refine (rnumber_any base B m' d' os r k _ (by omega) hr64 (by omega) (by go_size) own2d).mono ?_; rintro e w3 ⟨B2, m2, d2, os2, rfl, own3, HO2, fr3, hB3⟩
         have zr3 := zr2d.frm fr3 (own2d.ne_blk zr2d (by decide))
         have kr3 := zr3.cell; have frr3 := zr3.frozen; have lr3 := zr3.lt))
    all_goals
      have hrn3 : blockOf B2 ≠ some (w.heap.size + 1) := own3.ne_blk zr3 (by decide)
      have fr4 : Frm (fun k => blockOf A = some k) w w3 := fr2d.trans fr3 (fun i hi h => HBA.out i h hi)
      have hBB : ∀ k, blockOf B2 = some k → k < w.heap.size → blockOf A = some k := fun k h hk => HBA.out k (hB3 k h (by go_size)) hk
      have s3 := fr4.size
      clear kr frr lr2 kb fb lb2
      have HE : Hid (os2 = bs ++ rice v k) := by rw [HO2.out, HO.out, HRC.out, HR.out, List.append_assoc]; exact Lib.hid rfl
      go_wp2
      refine bodyPost_ret (v := .agg #[.slice B2 m2 d2, .int .i64 ((os2.length : Nat) : Int)]) (by simp [results, Try.results36, go_sem, kr3, lr3]) rfl ?_
      refine ⟨B2, m2, d2, os2, rfl, ?_, HE, ?_, hBB⟩
      · exact (own3.far' hrn3 _).far' hrn3 _
      · exact Frm.new' (Frm.new' fr4 (by omega) _) (by omega) _


end Go.Proofs.Ytppilidcjlnmoaa
