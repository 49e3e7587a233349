/-
  Contracts of the reference of chapter 6 (runs).
-/
import Derived.Test.YtlkgdkefimlmdaaDoorRefD
import Derived.Test.YtlkgdkefimlmdaaDoorUnaA
namespace Go.Proofs.YtlkgdkefimlmdaaDoor
open Go.RowKit Cad Cad.Bit Cad.Code
set_option linter.unusedVariables false
set_option linter.unusedSimpArgs false

theorem rulong_any (n : Int) (w : World) (h0 : 0 ≤ n) (h1 : n ≤ 48) :
    Calls Tryd.prog 24 #[.int .i64 n] w fun e w' => ∃ y : Nat, e = .returned (.int .i64 (y : Int)) ∧ Hid (y = runLen n.toNat) ∧ w = w' := by
  obtain ⟨k, rfl⟩ := Int.eq_ofNat_of_zero_le h0
  by_cases h : k < 48
  · have t1 : ((k : Int) == 48) = false := beq_eq_false_iff_ne.2 (by omega)
    go_enter Tryd.func24, Tryd.ntmps24
    go_wp2
    go_ret
    refine ⟨k + 1, by rfl, Lib.hid ?_, rfl⟩
    rw [Int.toNat_natCast]; unfold runLen; omega
  · obtain rfl : k = 48 := by omega
    go_enter Tryd.func24, Tryd.ntmps24
    go_wp2
    go_ret
    exact ⟨48, rfl, Lib.hid rfl, rfl⟩
theorem rulen_bad (n : Int) (w : World) (h : n < 0 ∨ 48 < n) :
    Calls Tryd.prog 11 #[.int .i64 n] w fun e w' => e = .returned (.tuple #[.int .i64 0, .int .i64 2]) ∧ w = w' := by
  rcases h with h | h
  all_goals
    go_enter Tryd.func11, Tryd.ntmps11
    go_wp2
    go_ret2
    exact ⟨rfl, rfl⟩
theorem rulen_ok (n : Int) (w : World) (h0 : 0 ≤ n) (h1 : n ≤ 48) :
    Calls Tryd.prog 11 #[.int .i64 n] w fun e w' => ∃ y : Nat, e = .returned (.tuple #[.int .i64 (y : Int), .int .i64 0]) ∧ Hid (y = runLen n.toNat) ∧ w = w' := by
  go_enter Tryd.func11, Tryd.ntmps11
  go_wp2_with fail
  refine (rulong_any n _ h0 h1).mono ?_
  rintro e _ ⟨y, rfl, HY, rfl⟩
  go_wp2
  go_ret2
  exact ⟨y, rfl, HY, rfl⟩


set_option maxRecDepth 100000 in
set_option maxHeartbeats 1000000 in
theorem ruadd_any (base : Nat) (A : Option Addr) (m c : Nat) (bs : List Bool) (n : Nat) (w : World) (hn : n ≤ 48) (hl : bs.length + runLen n ≤ 330000) (hbase : base ≤ w.heap.size) (hown : Own w base 5 .u8 A m c (pack bs)) :
    Calls Tryd.prog 26 #[.agg #[.slice A m c, .int .i64 ((bs.length : Nat) : Int)], .int .i64 (n : Nat)] w (Grew w base A (bs ++ run n)) := by
  have hrl : n ≤ runLen n := by unfold runLen; omega
  go_enter Tryd.func26, Tryd.ntmps26
  go_wp2_with fail
  go_loopg [5] n (fun k v wr => ∃ (j : Nat) (B : Option Addr) (m' d' : Nat) (os : List Bool), j + k = n ∧ v = .int .i64 (j : Nat) ∧ Hid (os = bs ++ List.replicate j true) ∧ Blk wr w.heap.size 24 [.slice B m' d', .int .i64 ((os.length : Nat) : Int)] ∧ Blk wr (w.heap.size + 1) 24 [.slice none 0 0, .int .i64 0] ∧ Own wr base 5 .u8 B m' d' (pack os) ∧ Frm (fun k => blockOf A = some k) w wr ∧ Hid (∀ k, blockOf B = some k → k < w.heap.size → blockOf A = some k))
  case atStart =>
    refine ⟨0, A, m, c, bs, by omega, rfl, Lib.hid (by simp), ?_, ?_, (hown.alloc _).alloc _, ((Frm.refl _ w).alloc _).alloc _, Lib.hid (fun _ h _ => h)⟩
    all_goals repeat' (first | (with_reducible assumption) | (with_reducible exact Below.refl _ _) | (with_reducible refine Blk.drewN ?_ _) | (with_reducible refine RowIn.drewN ?_ _) | (with_reducible refine below_drewN ?_ _) | (with_reducible refine Blk.drew ?_) | (with_reducible refine RowIn.drew ?_) | (with_reducible refine Below.drew ?_) | (with_reducible refine Blk.new' ?_ ?_ <;> first | (with_reducible rfl) | (simp; done)) | (with_reducible refine Blk.alloc ?_ _) | (with_reducible refine RowIn.alloc ?_ _) | (with_reducible refine Below.alloc ?_ ?_ _) | (with_reducible apply Blk.set') | (with_reducible apply Blk.far') | (with_reducible refine RowIn.far' ?_ ?_ _) | (with_reducible refine Below.far' ?_ ?_ _) | rfl | omega | go_size)
  case round =>
    obtain ⟨j, B, m', d', os, hj, rfl, HO, zb, zr, own, fr, HBA⟩ := hrel
    have s1 := fr.size
    have kb := zb.cell; have fb := zb.frozen; have lb := zb.lt; have kr := zr.cell; have frr := zr.frozen; have lr := zr.lt
    have hos : os.length ≤ bs.length + j := by rw [HO.out, List.length_append, List.length_replicate]; omega
    by_cases hlt : j < n
    · go_wp2_with fail
      refine (radd_any base B m' d' os 1 true _ rfl (by omega) (by omega) own).mono ?_
      rintro e w2 ⟨B2, m2, d2, os2, rfl, own2, HO2, fr2, hB2⟩
      have hbn : blockOf B ≠ some w.heap.size := own.ne_blk zb (by decide)
      have hrn : blockOf B ≠ some (w.heap.size + 1) := own.ne_blk zr (by decide)
      have zb2 := zb.frm fr2 hbn
      have zr2 := zr.frm fr2 hrn
      have hbn2 : blockOf B2 ≠ some w.heap.size := own2.ne_blk zb2 (by decide)
      have own3 := (own2.far' (i := 0) hbn2 (.slice B2 m2 d2)).far' (i := 1) hbn2 (.int .i64 ((os2.length : Nat) : Int))
      have fr3 : Frm (fun k => blockOf A = some k) w w2 := fr.trans fr2 (fun i hi h => HBA.out i h hi)
      have HBA2 : Hid (∀ k, blockOf B2 = some k → k < w.heap.size → blockOf A = some k) := Lib.hid (fun k h hk => HBA.out k (hB2 k h (by omega)) hk)
      have s2 := fr3.size
      have kb2 := zb2.cell; have fb2 := zb2.frozen; have lb2 := zb2.lt; have kr2 := zr2.cell; have fr2' := zr2.frozen; have lr2 := zr2.lt
      have HO3 : Hid (os2 = bs ++ List.replicate (j + 1) true) := by rw [HO2.out, HO.out, List.append_assoc]; exact Lib.hid (congrArg (bs ++ ·) List.replicate_succ'.symm)
      clear HO2 HO
      go_wp2
      go_roundg (n - (j + 1))
      case measure => omega
      case rel =>
        refine ⟨j + 1, B2, m2, d2, os2, by omega, by go_num, HO3, ?_, ?_, own3, Frm.new' (Frm.new' fr3 (Nat.le_refl _) _) (Nat.le_refl _) _, HBA2⟩
        all_goals repeat' (first | (with_reducible assumption) | (with_reducible exact Below.refl _ _) | (with_reducible refine Blk.drewN ?_ _) | (with_reducible refine RowIn.drewN ?_ _) | (with_reducible refine below_drewN ?_ _) | (with_reducible refine Blk.drew ?_) | (with_reducible refine RowIn.drew ?_) | (with_reducible refine Below.drew ?_) | (with_reducible refine Blk.new' ?_ ?_ <;> first | (with_reducible rfl) | (simp; done)) | (with_reducible refine Blk.alloc ?_ _) | (with_reducible refine RowIn.alloc ?_ _) | (with_reducible refine Below.alloc ?_ ?_ _) | (with_reducible apply Blk.set') | (with_reducible apply Blk.far') | (with_reducible refine RowIn.far' ?_ ?_ _) | (with_reducible refine Below.far' ?_ ?_ _) | rfl | omega | go_size)
    · obtain rfl : j = n := by omega
      by_cases h48 : j < 48
      · have hrl2 : runLen j = j + 1 := runLen_lt h48
        have hos2 : os.length < 330000 := by omega
        have HRL := Lib.hid hrl2
        clear hrl2
        go_wp2_with fail
        refine (radd_any base B m' d' os 0 false _ rfl (by omega) (by omega) own).mono ?_
        rintro e w2 ⟨B2, m2, d2, os2, rfl, own2, HO2, fr2, hB2⟩
        have hbn : blockOf B ≠ some w.heap.size := own.ne_blk zb (by decide)
        have hrn : blockOf B ≠ some (w.heap.size + 1) := own.ne_blk zr (by decide)
        have zb2 := zb.frm fr2 hbn
        have zr2 := zr.frm fr2 hrn
        have hbn2 : blockOf B2 ≠ some w.heap.size := own2.ne_blk zb2 (by decide)
        have own3 := (own2.far' (i := 0) hbn2 (.slice B2 m2 d2)).far' (i := 1) hbn2 (.int .i64 ((os2.length : Nat) : Int))
        have fr3 : Frm (fun k => blockOf A = some k) w w2 := fr.trans fr2 (fun i hi h => HBA.out i h hi)
        have HBA2 : Hid (∀ k, blockOf B2 = some k → k < w.heap.size → blockOf A = some k) := Lib.hid (fun k h hk => HBA.out k (hB2 k h (by omega)) hk)
        have s2 := fr3.size
        have kb2 := zb2.cell; have fb2 := zb2.frozen; have lb2 := zb2.lt; have kr2 := zr2.cell; have fr2' := zr2.frozen; have lr2 := zr2.lt
        have HO3 : Hid (os2 = bs ++ run j) := by rw [HO2.out, HO.out, List.append_assoc]; exact Lib.hid (by unfold run; rw [if_pos h48])
        have hrn2 : blockOf B2 ≠ some (w.heap.size + 1) := own2.ne_blk zr2 (by decide)
        clear HO2 HO
        go_wp2
        refine bodyPost_ret (v := .agg #[.slice B2 m2 d2, .int .i64 ((os2.length : Nat) : Int)]) (by simp [results, Tryd.results26, go_sem, kr2, lr2]) rfl ?_
        refine ⟨B2, m2, d2, os2, rfl, ?_, HO3, ?_, HBA2.out⟩
        · exact (own3.far' hrn2 _).far' hrn2 _
        · exact Frm.new' (Frm.new' (Frm.new' (Frm.new' fr3 (Nat.le_refl _) _) (Nat.le_refl _) _) (by omega) _) (by omega) _
      · have HO3 : Hid (os = bs ++ run j) := by rw [HO.out]; exact Lib.hid (by unfold run; rw [if_neg h48, List.append_nil])
        have hrn2 : blockOf B ≠ some (w.heap.size + 1) := own.ne_blk zr (by decide)
        clear HO
        go_wp2
        refine bodyPost_ret (v := .agg #[.slice B m' d', .int .i64 ((os.length : Nat) : Int)]) (by simp [results, Tryd.results26, go_sem, kr, lr]) rfl ?_
        refine ⟨B, m', d', os, rfl, ?_, HO3, ?_, HBA.out⟩
        · exact (own.far' hrn2 _).far' hrn2 _
        · exact Frm.new' (Frm.new' fr (by omega) _) (by omega) _


theorem rulong_is (k : Nat) (w : World) (hk : k ≤ 48) : Calls Tryd.prog 24 #[.int .i64 (k : Int)] w fun e w' => e = .returned (.int .i64 ((runLen k : Nat) : Int)) ∧ w' = w := by
  refine (rulong_any (k : Nat) w (by omega) (by omega)).mono ?_
  rintro e w' ⟨y, rfl, HY, rfl⟩
  exact ⟨by rw [HY.out]; rfl, rfl⟩

set_option maxHeartbeats 1000000 in
theorem ruwrite_ret (A : Option Addr) (m c : Nat) (bs : List Bool) (n : Int) (w : World) (ha : Row .u8 w A m (pack bs)) (hc : m ≤ c ∧ c ≤ 9223372036854775807) (hl : bs.length ≤ 330000) :
    Calls Tryd.prog 13 #[.agg #[.slice A m c, .int .i64 ((bs.length : Nat) : Int)], .int .i64 n] w (RetB w (uwR bs n).1 (uwR bs n).2) := by
  have hri := ha.rowIn
  have hm : m ≤ 41250 := by have := ha.len; rw [pack_len] at this; unfold bytesFor at this; omega
  by_cases h1 : n < 0
  · have HR : Hid (uwR bs n = ([], 2)) := by unfold uwR; rw [if_pos (Or.inl h1)]; rfl
    go_enter Tryd.func13, Tryd.ntmps13
    go_wp2_with fail
    refine (rcheck_ok A m c bs _ (by exact ((ha.alloc _).alloc _)) (by omega) hl).mono ?_
    rintro e w1 ⟨rfl, b1⟩
    have s1 := b1.size
    try simp only [World.size_alloc, World.size_setCell, World.size_drew, size_drewN] at s1
    obtain ⟨zb_1, zr_1, rb_1, bb_1⟩ : Blk w1 (w.heap.size) 24 [.slice A m c, .int .i64 ((bs.length : Nat) : Int)] ∧ Blk w1 (w.heap.size + 1) 24 [.slice none 0 0, .int .i64 0] ∧ RowIn .u8 w1 (0) (w.heap.size) A m (pack bs) ∧ Below w.heap.size w w1 := by
      refine ⟨?_, ?_, ?_, ?_⟩
      all_goals repeat' (first | (with_reducible assumption) | (with_reducible exact Below.refl _ _) | (with_reducible refine Blk.after ?_ b1) | (with_reducible refine RowIn.belowS ?_ b1) | (with_reducible refine Below.after ?_ b1 ?_) | (with_reducible refine Blk.drewN ?_ _) | (with_reducible refine RowIn.drewN ?_ _) | (with_reducible refine below_drewN ?_ _) | (with_reducible refine Blk.drew ?_) | (with_reducible refine RowIn.drew ?_) | (with_reducible refine Below.drew ?_) | (with_reducible refine Blk.new' ?_ ?_ <;> first | (with_reducible rfl) | (simp; done)) | (with_reducible refine Blk.alloc ?_ _) | (with_reducible refine RowIn.alloc ?_ _) | (with_reducible refine Below.alloc ?_ ?_ _) | (with_reducible apply Blk.set') | (with_reducible apply Blk.far') | (with_reducible refine RowIn.far' ?_ ?_ _) | (with_reducible refine Below.far' ?_ ?_ _) | rfl | omega | go_size)
    clear b1
    have kb_1 := zb_1.cell; have fb_1 := zb_1.frozen; have lb_1 := zb_1.lt
    have kr_1 := zr_1.cell; have fr_1 := zr_1.frozen; have lr_1 := zr_1.lt
    go_wp2
    refine bodyPost_ret (v := .tuple #[.agg #[.slice none 0 0, .int .i64 0], .int .i64 2]) (by simp [results, Tryd.results13, go_sem, kr_1]) rfl ?_
    rw [HR.out]
    refine RetB.of rfl (BitsIn.zero _ _ _) ?_
    repeat' (first | (with_reducible assumption) | (with_reducible exact Below.refl _ _) | (with_reducible refine Blk.drewN ?_ _) | (with_reducible refine RowIn.drewN ?_ _) | (with_reducible refine below_drewN ?_ _) | (with_reducible refine Blk.drew ?_) | (with_reducible refine RowIn.drew ?_) | (with_reducible refine Below.drew ?_) | (with_reducible refine Blk.new' ?_ ?_ <;> first | (with_reducible rfl) | (simp; done)) | (with_reducible refine Blk.alloc ?_ _) | (with_reducible refine RowIn.alloc ?_ _) | (with_reducible refine Below.alloc ?_ ?_ _) | (with_reducible apply Blk.set') | (with_reducible apply Blk.far') | (with_reducible refine RowIn.far' ?_ ?_ _) | (with_reducible refine Below.far' ?_ ?_ _) | rfl | omega | go_size)
  by_cases h2 : 48 < n
  · have HR : Hid (uwR bs n = ([], 2)) := by unfold uwR; rw [if_pos (Or.inr h2)]; rfl
    go_enter Tryd.func13, Tryd.ntmps13
    go_wp2_with fail
    refine (rcheck_ok A m c bs _ (by exact ((ha.alloc _).alloc _)) (by omega) hl).mono ?_
    rintro e w1 ⟨rfl, b1⟩
    have s1 := b1.size
    try simp only [World.size_alloc, World.size_setCell, World.size_drew, size_drewN] at s1
    obtain ⟨zb_1, zr_1, rb_1, bb_1⟩ : Blk w1 (w.heap.size) 24 [.slice A m c, .int .i64 ((bs.length : Nat) : Int)] ∧ Blk w1 (w.heap.size + 1) 24 [.slice none 0 0, .int .i64 0] ∧ RowIn .u8 w1 (0) (w.heap.size) A m (pack bs) ∧ Below w.heap.size w w1 := by
      refine ⟨?_, ?_, ?_, ?_⟩
      all_goals repeat' (first | (with_reducible assumption) | (with_reducible exact Below.refl _ _) | (with_reducible refine Blk.after ?_ b1) | (with_reducible refine RowIn.belowS ?_ b1) | (with_reducible refine Below.after ?_ b1 ?_) | (with_reducible refine Blk.drewN ?_ _) | (with_reducible refine RowIn.drewN ?_ _) | (with_reducible refine below_drewN ?_ _) | (with_reducible refine Blk.drew ?_) | (with_reducible refine RowIn.drew ?_) | (with_reducible refine Below.drew ?_) | (with_reducible refine Blk.new' ?_ ?_ <;> first | (with_reducible rfl) | (simp; done)) | (with_reducible refine Blk.alloc ?_ _) | (with_reducible refine RowIn.alloc ?_ _) | (with_reducible refine Below.alloc ?_ ?_ _) | (with_reducible apply Blk.set') | (with_reducible apply Blk.far') | (with_reducible refine RowIn.far' ?_ ?_ _) | (with_reducible refine Below.far' ?_ ?_ _) | rfl | omega | go_size)
    clear b1
    have kb_1 := zb_1.cell; have fb_1 := zb_1.frozen; have lb_1 := zb_1.lt
    have kr_1 := zr_1.cell; have fr_1 := zr_1.frozen; have lr_1 := zr_1.lt
    go_wp2
    refine bodyPost_ret (v := .tuple #[.agg #[.slice none 0 0, .int .i64 0], .int .i64 2]) (by simp [results, Tryd.results13, go_sem, kr_1]) rfl ?_
    rw [HR.out]
    refine RetB.of rfl (BitsIn.zero _ _ _) ?_
    repeat' (first | (with_reducible assumption) | (with_reducible exact Below.refl _ _) | (with_reducible refine Blk.drewN ?_ _) | (with_reducible refine RowIn.drewN ?_ _) | (with_reducible refine below_drewN ?_ _) | (with_reducible refine Blk.drew ?_) | (with_reducible refine RowIn.drew ?_) | (with_reducible refine Below.drew ?_) | (with_reducible refine Blk.new' ?_ ?_ <;> first | (with_reducible rfl) | (simp; done)) | (with_reducible refine Blk.alloc ?_ _) | (with_reducible refine RowIn.alloc ?_ _) | (with_reducible refine Below.alloc ?_ ?_ _) | (with_reducible apply Blk.set') | (with_reducible apply Blk.far') | (with_reducible refine RowIn.far' ?_ ?_ _) | (with_reducible refine Below.far' ?_ ?_ _) | rfl | omega | go_size)
  obtain ⟨k, rfl⟩ := Int.eq_ofNat_of_zero_le (by omega : 0 ≤ n)
  have hk : k ≤ 48 := by omega
  have HR : Hid (uwR bs (k : Nat) = if 330000 < bs.length + runLen k then ([], 18) else (bs ++ run k, 0)) := by unfold uwR; rw [if_neg (by omega)]; rfl
  have hrl : runLen k ≤ 48 := by unfold runLen; omega
  by_cases h3 : 330000 < bs.length + runLen k
  · rw [if_pos h3] at HR
    go_enter Tryd.func13, Tryd.ntmps13
    go_wp2_with fail
    refine (rcheck_ok A m c bs _ (by exact ((ha.alloc _).alloc _)) (by omega) hl).mono ?_
    rintro e w1 ⟨rfl, b1⟩
    have s1 := b1.size
    try simp only [World.size_alloc, World.size_setCell, World.size_drew, size_drewN] at s1
    obtain ⟨zb_1, zr_1, rb_1, bb_1⟩ : Blk w1 (w.heap.size) 24 [.slice A m c, .int .i64 ((bs.length : Nat) : Int)] ∧ Blk w1 (w.heap.size + 1) 24 [.slice none 0 0, .int .i64 0] ∧ RowIn .u8 w1 (0) (w.heap.size) A m (pack bs) ∧ Below w.heap.size w w1 := by
      refine ⟨?_, ?_, ?_, ?_⟩
      all_goals repeat' (first | (with_reducible assumption) | (with_reducible exact Below.refl _ _) | (with_reducible refine Blk.after ?_ b1) | (with_reducible refine RowIn.belowS ?_ b1) | (with_reducible refine Below.after ?_ b1 ?_) | (with_reducible refine Blk.drewN ?_ _) | (with_reducible refine RowIn.drewN ?_ _) | (with_reducible refine below_drewN ?_ _) | (with_reducible refine Blk.drew ?_) | (with_reducible refine RowIn.drew ?_) | (with_reducible refine Below.drew ?_) | (with_reducible refine Blk.new' ?_ ?_ <;> first | (with_reducible rfl) | (simp; done)) | (with_reducible refine Blk.alloc ?_ _) | (with_reducible refine RowIn.alloc ?_ _) | (with_reducible refine Below.alloc ?_ ?_ _) | (with_reducible apply Blk.set') | (with_reducible apply Blk.far') | (with_reducible refine RowIn.far' ?_ ?_ _) | (with_reducible refine Below.far' ?_ ?_ _) | rfl | omega | go_size)
    clear b1
    have kb_1 := zb_1.cell; have fb_1 := zb_1.frozen; have lb_1 := zb_1.lt
    have kr_1 := zr_1.cell; have fr_1 := zr_1.frozen; have lr_1 := zr_1.lt
    go_wp2_with fail
    go_quiet ((go_at_call 24; exact Calls.quiet_of_same (rulong_is k _ hk)))
    generalize hwd : w1.drewN nq = w2
    have b2 : Below w1.heap.size w1 w2 := by rw [← hwd]; exact below_drewN (Below.refl _ _) _
    clear hwd
    have s2 := b2.size
    try simp only [World.size_alloc, World.size_setCell, World.size_drew, size_drewN] at s2
    obtain ⟨zb_2, zr_2, rb_2, bb_2⟩ : Blk w2 (w.heap.size) 24 [.slice A m c, .int .i64 ((bs.length : Nat) : Int)] ∧ Blk w2 (w.heap.size + 1) 24 [.slice none 0 0, .int .i64 0] ∧ RowIn .u8 w2 (0) (w.heap.size) A m (pack bs) ∧ Below w.heap.size w w2 := by
      refine ⟨?_, ?_, ?_, ?_⟩
      all_goals repeat' (first | (with_reducible assumption) | (with_reducible exact Below.refl _ _) | (with_reducible refine Blk.after ?_ b2) | (with_reducible refine RowIn.belowS ?_ b2) | (with_reducible refine Below.after ?_ b2 ?_) | (with_reducible refine Blk.drewN ?_ _) | (with_reducible refine RowIn.drewN ?_ _) | (with_reducible refine below_drewN ?_ _) | (with_reducible refine Blk.drew ?_) | (with_reducible refine RowIn.drew ?_) | (with_reducible refine Below.drew ?_) | (with_reducible refine Blk.new' ?_ ?_ <;> first | (with_reducible rfl) | (simp; done)) | (with_reducible refine Blk.alloc ?_ _) | (with_reducible refine RowIn.alloc ?_ _) | (with_reducible refine Below.alloc ?_ ?_ _) | (with_reducible apply Blk.set') | (with_reducible apply Blk.far') | (with_reducible refine RowIn.far' ?_ ?_ _) | (with_reducible refine Below.far' ?_ ?_ _) | rfl | omega | go_size)
    clear zb_1 zr_1 rb_1 bb_1 kb_1 fb_1 lb_1 kr_1 fr_1 lr_1 b2
    have kb_2 := zb_2.cell; have fb_2 := zb_2.frozen; have lb_2 := zb_2.lt
    have kr_2 := zr_2.cell; have fr_2 := zr_2.frozen; have lr_2 := zr_2.lt
    go_wp2
    refine bodyPost_ret (v := .tuple #[.agg #[.slice none 0 0, .int .i64 0], .int .i64 18]) (by simp [results, Tryd.results13, go_sem, kr_2]) rfl ?_
    rw [HR.out]
    refine RetB.of rfl (BitsIn.zero _ _ _) ?_
    repeat' (first | (with_reducible assumption) | (with_reducible exact Below.refl _ _) | (with_reducible refine Blk.drewN ?_ _) | (with_reducible refine RowIn.drewN ?_ _) | (with_reducible refine below_drewN ?_ _) | (with_reducible refine Blk.drew ?_) | (with_reducible refine RowIn.drew ?_) | (with_reducible refine Below.drew ?_) | (with_reducible refine Blk.new' ?_ ?_ <;> first | (with_reducible rfl) | (simp; done)) | (with_reducible refine Blk.alloc ?_ _) | (with_reducible refine RowIn.alloc ?_ _) | (with_reducible refine Below.alloc ?_ ?_ _) | (with_reducible apply Blk.set') | (with_reducible apply Blk.far') | (with_reducible refine RowIn.far' ?_ ?_ _) | (with_reducible refine Below.far' ?_ ?_ _) | rfl | omega | go_size)
  rw [if_neg h3] at HR
  go_enter Tryd.func13, Tryd.ntmps13
  go_wp2_with fail
  refine (rcheck_ok A m c bs _ (by exact ((ha.alloc _).alloc _)) (by omega) hl).mono ?_
  rintro e w1 ⟨rfl, b1⟩
  have s1 := b1.size
  try simp only [World.size_alloc, World.size_setCell, World.size_drew, size_drewN] at s1
  obtain ⟨zb_1, zr_1, rb_1, bb_1⟩ : Blk w1 (w.heap.size) 24 [.slice A m c, .int .i64 ((bs.length : Nat) : Int)] ∧ Blk w1 (w.heap.size + 1) 24 [.slice none 0 0, .int .i64 0] ∧ RowIn .u8 w1 (0) (w.heap.size) A m (pack bs) ∧ Below w.heap.size w w1 := by
    refine ⟨?_, ?_, ?_, ?_⟩
    all_goals repeat' (first | (with_reducible assumption) | (with_reducible exact Below.refl _ _) | (with_reducible refine Blk.after ?_ b1) | (with_reducible refine RowIn.belowS ?_ b1) | (with_reducible refine Below.after ?_ b1 ?_) | (with_reducible refine Blk.drewN ?_ _) | (with_reducible refine RowIn.drewN ?_ _) | (with_reducible refine below_drewN ?_ _) | (with_reducible refine Blk.drew ?_) | (with_reducible refine RowIn.drew ?_) | (with_reducible refine Below.drew ?_) | (with_reducible refine Blk.new' ?_ ?_ <;> first | (with_reducible rfl) | (simp; done)) | (with_reducible refine Blk.alloc ?_ _) | (with_reducible refine RowIn.alloc ?_ _) | (with_reducible refine Below.alloc ?_ ?_ _) | (with_reducible apply Blk.set') | (with_reducible apply Blk.far') | (with_reducible refine RowIn.far' ?_ ?_ _) | (with_reducible refine Below.far' ?_ ?_ _) | rfl | omega | go_size)
  clear b1
  have kb_1 := zb_1.cell; have fb_1 := zb_1.frozen; have lb_1 := zb_1.lt
  have kr_1 := zr_1.cell; have fr_1 := zr_1.frozen; have lr_1 := zr_1.lt
  go_wp2_with fail
  go_quiet ((go_at_call 24; exact Calls.quiet_of_same (rulong_is k _ hk)))
  generalize hwd : w1.drewN nq = w2
  have b2 : Below w1.heap.size w1 w2 := by rw [← hwd]; exact below_drewN (Below.refl _ _) _
  clear hwd
  have s2 := b2.size
  try simp only [World.size_alloc, World.size_setCell, World.size_drew, size_drewN] at s2
  obtain ⟨zb_2, zr_2, rb_2, bb_2⟩ : Blk w2 (w.heap.size) 24 [.slice A m c, .int .i64 ((bs.length : Nat) : Int)] ∧ Blk w2 (w.heap.size + 1) 24 [.slice none 0 0, .int .i64 0] ∧ RowIn .u8 w2 (0) (w.heap.size) A m (pack bs) ∧ Below w.heap.size w w2 := by
    refine ⟨?_, ?_, ?_, ?_⟩
    all_goals repeat' (first | (with_reducible assumption) | (with_reducible exact Below.refl _ _) | (with_reducible refine Blk.after ?_ b2) | (with_reducible refine RowIn.belowS ?_ b2) | (with_reducible refine Below.after ?_ b2 ?_) | (with_reducible refine Blk.drewN ?_ _) | (with_reducible refine RowIn.drewN ?_ _) | (with_reducible refine below_drewN ?_ _) | (with_reducible refine Blk.drew ?_) | (with_reducible refine RowIn.drew ?_) | (with_reducible refine Below.drew ?_) | (with_reducible refine Blk.new' ?_ ?_ <;> first | (with_reducible rfl) | (simp; done)) | (with_reducible refine Blk.alloc ?_ _) | (with_reducible refine RowIn.alloc ?_ _) | (with_reducible refine Below.alloc ?_ ?_ _) | (with_reducible apply Blk.set') | (with_reducible apply Blk.far') | (with_reducible refine RowIn.far' ?_ ?_ _) | (with_reducible refine Below.far' ?_ ?_ _) | rfl | omega | go_size)
  clear zb_1 zr_1 rb_1 bb_1 kb_1 fb_1 lb_1 kr_1 fr_1 lr_1 b2
  have kb_2 := zb_2.cell; have fb_2 := zb_2.frozen; have lb_2 := zb_2.lt
  have kr_2 := zr_2.cell; have fr_2 := zr_2.frozen; have lr_2 := zr_2.lt
  go_wp2_with fail
  refine (rtwin_any A m c _ (pack bs) _ rb_2.row (by omega)).mono ?_
  rintro e w3 ⟨A3, d3, rfl, own3, b3⟩
  have s3 := b3.size
  try simp only [World.size_alloc, World.size_setCell, World.size_drew, size_drewN] at s3
  obtain ⟨zb_3, zr_3, rb_3, bb_3⟩ : Blk w3 (w.heap.size) 24 [.slice A m c, .int .i64 ((bs.length : Nat) : Int)] ∧ Blk w3 (w.heap.size + 1) 24 [.slice none 0 0, .int .i64 0] ∧ RowIn .u8 w3 (0) (w.heap.size) A m (pack bs) ∧ Below w.heap.size w w3 := by
    refine ⟨?_, ?_, ?_, ?_⟩
    all_goals repeat' (first | (with_reducible assumption) | (with_reducible exact Below.refl _ _) | (with_reducible refine Blk.after ?_ b3) | (with_reducible refine RowIn.belowS ?_ b3) | (with_reducible refine Below.after ?_ b3 ?_) | (with_reducible refine Blk.drewN ?_ _) | (with_reducible refine RowIn.drewN ?_ _) | (with_reducible refine below_drewN ?_ _) | (with_reducible refine Blk.drew ?_) | (with_reducible refine RowIn.drew ?_) | (with_reducible refine Below.drew ?_) | (with_reducible refine Blk.new' ?_ ?_ <;> first | (with_reducible rfl) | (simp; done)) | (with_reducible refine Blk.alloc ?_ _) | (with_reducible refine RowIn.alloc ?_ _) | (with_reducible refine Below.alloc ?_ ?_ _) | (with_reducible apply Blk.set') | (with_reducible apply Blk.far') | (with_reducible refine RowIn.far' ?_ ?_ _) | (with_reducible refine Below.far' ?_ ?_ _) | rfl | omega | go_size)
  have kb_3 := zb_3.cell; have fb_3 := zb_3.frozen; have lb_3 := zb_3.lt
  have kr_3 := zr_3.cell; have fr_3 := zr_3.frozen; have lr_3 := zr_3.lt
  go_wp2_with fail
  refine (ruadd_any w2.heap.size A3 m d3 bs k w3 hk (by omega) b3.size own3).mono ?_
  rintro e w4 ⟨B4, m4, d4, x4, rfl, own4, HX4, fr4, hB4⟩
  have hown := own3.block
  have l2 := lr_2
  have zr4 := zr_3.frm fr4 (fun h => by have := hown _ h; omega)
  have bb4 : Below w.heap.size w w4 := bb_3.trans (fr4.below bb_3.size (fun k hk h => by have := hown k h; omega))
  have kr4 := zr4.cell; have frr4 := zr4.frozen; have lr4 := zr4.lt
  have s4 := fr4.size
  have rw4 := own4.rowIn
  clear kb_2 kr_2 kb_3 kr_3
  go_wp2
  refine bodyPost_ret (v := .tuple #[.agg #[.slice B4 m4 d4, .int .i64 ((x4.length : Nat) : Int)], .int .i64 0]) (by simp [results, Tryd.results13, go_sem, kr4]) rfl ?_
  rw [HR.out]
  refine RetB.of (x := .agg #[.slice B4 m4 d4, .int .i64 ((x4.length : Nat) : Int)]) rfl ⟨B4, m4, d4, by rw [HX4.out], own4.rowC.2, ?_⟩ ?_
  · rw [← HX4.out]
    refine RowIn.mono (lo := w2.heap.size) (hi := w4.heap.size) ?_ (by omega) (by go_size)
    repeat' (first | (with_reducible assumption) | (with_reducible exact Below.refl _ _) | (with_reducible refine Blk.drewN ?_ _) | (with_reducible refine RowIn.drewN ?_ _) | (with_reducible refine below_drewN ?_ _) | (with_reducible refine Blk.drew ?_) | (with_reducible refine RowIn.drew ?_) | (with_reducible refine Below.drew ?_) | (with_reducible refine Blk.new' ?_ ?_ <;> first | (with_reducible rfl) | (simp; done)) | (with_reducible refine Blk.alloc ?_ _) | (with_reducible refine RowIn.alloc ?_ _) | (with_reducible refine Below.alloc ?_ ?_ _) | (with_reducible apply Blk.set') | (with_reducible apply Blk.far') | (with_reducible refine RowIn.far' ?_ ?_ _) | (with_reducible refine Below.far' ?_ ?_ _) | rfl | omega | go_size)
  · repeat' (first | (with_reducible assumption) | (with_reducible exact Below.refl _ _) | (with_reducible refine Blk.drewN ?_ _) | (with_reducible refine RowIn.drewN ?_ _) | (with_reducible refine below_drewN ?_ _) | (with_reducible refine Blk.drew ?_) | (with_reducible refine RowIn.drew ?_) | (with_reducible refine Below.drew ?_) | (with_reducible refine Blk.new' ?_ ?_ <;> first | (with_reducible rfl) | (simp; done)) | (with_reducible refine Blk.alloc ?_ _) | (with_reducible refine RowIn.alloc ?_ _) | (with_reducible refine Below.alloc ?_ ?_ _) | (with_reducible apply Blk.set') | (with_reducible apply Blk.far') | (with_reducible refine RowIn.far' ?_ ?_ _) | (with_reducible refine Below.far' ?_ ?_ _) | rfl | omega | go_size)


set_option maxHeartbeats 400000 in
theorem ruwrite_bad (A : Option Addr) (m c : Nat) (N : Int) (bytes : List Int) (n : Int) (w : World) (ha : Row .u8 w A m bytes) (hb : Within 0 255 bytes) (hc : m ≤ c ∧ c ≤ 9223372036854775807) (hv : ¬ Valid bytes N) :
    Calls Tryd.prog 13 #[.agg #[.slice A m c, .int .i64 N], .int .i64 n] w (RetB w [] 8) := by
  go_enter Tryd.func13, Tryd.ntmps13
  go_wp2_with fail
  refine (rcheck_bad A m c N bytes _ (by exact ((ha.alloc _).alloc _)) hb (by omega) hv).mono ?_
  rintro e w1 ⟨rfl, b1⟩
  have s1 := b1.size
  try simp only [World.size_alloc, World.size_setCell, World.size_drew, size_drewN] at s1
  obtain ⟨zb_1, zr_1, bb_1⟩ : Blk w1 (w.heap.size) 24 [.slice A m c, .int .i64 N] ∧ Blk w1 (w.heap.size + 1) 24 [.slice none 0 0, .int .i64 0] ∧ Below w.heap.size w w1 := by
    refine ⟨?_, ?_, ?_⟩
    all_goals repeat' (first | (with_reducible assumption) | (with_reducible exact Below.refl _ _) | (with_reducible refine Blk.after ?_ b1) | (with_reducible refine RowIn.belowS ?_ b1) | (with_reducible refine Below.after ?_ b1 ?_) | (with_reducible refine Blk.drewN ?_ _) | (with_reducible refine RowIn.drewN ?_ _) | (with_reducible refine below_drewN ?_ _) | (with_reducible refine Blk.drew ?_) | (with_reducible refine RowIn.drew ?_) | (with_reducible refine Below.drew ?_) | (with_reducible refine Blk.new' ?_ ?_ <;> first | (with_reducible rfl) | (simp; done)) | (with_reducible refine Blk.alloc ?_ _) | (with_reducible refine RowIn.alloc ?_ _) | (with_reducible refine Below.alloc ?_ ?_ _) | (with_reducible apply Blk.set') | (with_reducible apply Blk.far') | (with_reducible refine RowIn.far' ?_ ?_ _) | (with_reducible refine Below.far' ?_ ?_ _) | rfl | omega | go_size)
  clear b1
  have kb_1 := zb_1.cell; have fb_1 := zb_1.frozen; have lb_1 := zb_1.lt
  have kr_1 := zr_1.cell; have fr_1 := zr_1.frozen; have lr_1 := zr_1.lt
  go_wp2
  refine bodyPost_ret (v := .tuple #[.agg #[.slice none 0 0, .int .i64 0], .int .i64 8]) (by simp [results, Tryd.results13, go_sem, kr_1]) rfl ?_
  refine RetB.of rfl (BitsIn.zero _ _ _) ?_
  repeat' (first | (with_reducible assumption) | (with_reducible exact Below.refl _ _) | (with_reducible refine Blk.drewN ?_ _) | (with_reducible refine RowIn.drewN ?_ _) | (with_reducible refine below_drewN ?_ _) | (with_reducible refine Blk.drew ?_) | (with_reducible refine RowIn.drew ?_) | (with_reducible refine Below.drew ?_) | (with_reducible refine Blk.new' ?_ ?_ <;> first | (with_reducible rfl) | (simp; done)) | (with_reducible refine Blk.alloc ?_ _) | (with_reducible refine RowIn.alloc ?_ _) | (with_reducible refine Below.alloc ?_ ?_ _) | (with_reducible apply Blk.set') | (with_reducible apply Blk.far') | (with_reducible refine RowIn.far' ?_ ?_ _) | (with_reducible refine Below.far' ?_ ?_ _) | rfl | omega | go_size)


end Go.Proofs.YtlkgdkefimlmdaaDoor
