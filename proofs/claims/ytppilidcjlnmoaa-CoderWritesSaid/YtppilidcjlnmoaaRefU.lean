/-
  Contracts of the reference of chapter 6 (runs).
-/
import Derived.Test.YtppilidcjlnmoaaRefD
import Derived.Test.YtppilidcjlnmoaaUnaA
namespace Go.Proofs.Ytppilidcjlnmoaa
open Go.RowKit Cad Cad.Bit Cad.Code
set_option linter.unusedVariables false
set_option linter.unusedSimpArgs false

set_option maxRecDepth 100000 in
set_option maxHeartbeats 1000000 in
theorem ruadd_any (base : Nat) (A : Option Addr) (m c : Nat) (bs : List Bool) (n : Nat) (w : World) (hn : n ≤ 48) (hl : bs.length + runLen n ≤ 330000) (hbase : base ≤ w.heap.size) (hown : Own w base 5 .u8 A m c (pack bs)) :
    Calls Try.prog 42 #[.agg #[.slice A m c, .int .i64 ((bs.length : Nat) : Int)], .int .i64 (n : Nat)] w (Grew w base A (bs ++ run n)) := by
  have hrl : n ≤ runLen n := by unfold runLen; omega
  go_enter Try.func42, Try.ntmps42
  go_wp2_with fail
  go_loopg [5] n (fun k v wr => ∃ (j : Nat) (B : Option Addr) (m' d' : Nat) (os : List Bool), j + k = n ∧ v = .int .i64 (j : Nat) ∧ Hid (os = bs ++ List.replicate j true) ∧ Blk wr w.heap.size 26 [.slice B m' d', .int .i64 ((os.length : Nat) : Int)] ∧ Blk wr (w.heap.size + 1) 26 [.slice none 0 0, .int .i64 0] ∧ Own wr base 5 .u8 B m' d' (pack os) ∧ Frm (fun k => blockOf A = some k) w wr ∧ Hid (∀ k, blockOf B = some k → k < w.heap.size → blockOf A = some k))
  case atStart =>
    refine ⟨0, A, m, c, bs, by omega, rfl, Lib.hid (by simp), ?_, ?_, (hown.alloc _).alloc _, ((Frm.refl _ w).alloc _).alloc _, Lib.hid (fun _ h _ => h)⟩
    all_goals repeat' (first | (with_reducible assumption) | (with_reducible exact Below.refl _ _) | (with_reducible refine Blk.drewN ?_ _) | (with_reducible refine RowIn.drewN ?_ _) | (with_reducible refine below_drewN ?_ _) | (with_reducible refine Blk.drew ?_) | (with_reducible refine RowIn.drew ?_) | (with_reducible refine Below.drew ?_) | (with_reducible refine Blk.new' ?_ ?_ <;> first | (with_reducible rfl) | (simp; done)) | (with_reducible refine Blk.alloc ?_ _) | (with_reducible refine RowIn.alloc ?_ _) | (with_reducible refine Below.alloc ?_ ?_ _) | (with_reducible apply Blk.set') | (with_reducible apply Blk.far') | (with_reducible refine RowIn.far' ?_ ?_ _) | (with_reducible refine Below.far' ?_ ?_ _) | rfl | omega | go_size)
  case round =>
    obtain ⟨j, B, m', d', os, hj, rfl, HO, zb, zr, own, fr, HBA⟩ := hrel
    have s1 := fr.size
    have kb := zb.cell; have fb := zb.frozen; have lb := zb.lt; have kr := zr.cell; have frr := zr.frozen; have lr := zr.lt
    have hos : os.length ≤ bs.length + j := by rw [HO.out, List.length_append, List.length_replicate]; omega
    by_cases hlt : j < n
    · go_wp2_with fail
      refine (radd_any base B m' d' os 1 true _ rfl (by omega) (by omega) own).mono ?_
      rintro e w2 ⟨B2, m2, d2, os2, rfl, own2, HO2, fr2, hB2⟩
      have hbn : blockOf B ≠ some w.heap.size := own.ne_blk zb (by decide)
      have hrn : blockOf B ≠ some (w.heap.size + 1) := own.ne_blk zr (by decide)
      have zb2 := zb.frm fr2 hbn
      have zr2 := zr.frm fr2 hrn
      have hbn2 : blockOf B2 ≠ some w.heap.size := own2.ne_blk zb2 (by decide)
      have own3 := (own2.far' (i := 0) hbn2 (.slice B2 m2 d2)).far' (i := 1) hbn2 (.int .i64 ((os2.length : Nat) : Int))
      have fr3 : Frm (fun k => blockOf A = some k) w w2 := fr.trans fr2 (fun i hi h => HBA.out i h hi)
      have HBA2 : Hid (∀ k, blockOf B2 = some k → k < w.heap.size → blockOf A = some k) := Lib.hid (fun k h hk => HBA.out k (hB2 k h (by omega)) hk)
      have s2 := fr3.size
      have kb2 := zb2.cell; have fb2 := zb2.frozen; have lb2 := zb2.lt; have kr2 := zr2.cell; have fr2' := zr2.frozen; have lr2 := zr2.lt
      have HO3 : Hid (os2 = bs ++ List.replicate (j + 1) true) := by rw [HO2.out, HO.out, List.append_assoc]; exact Lib.hid (congrArg (bs ++ ·) List.replicate_succ'.symm)
      clear HO2 HO
      go_wp2
      go_roundg (n - (j + 1))
      case measure => omega
      case rel =>
        refine ⟨j + 1, B2, m2, d2, os2, by omega, by go_num, HO3, ?_, ?_, own3, Frm.new' (Frm.new' fr3 (Nat.le_refl _) _) (Nat.le_refl _) _, HBA2⟩
        all_goals repeat' (first | (with_reducible assumption) | (with_reducible exact Below.refl _ _) | (with_reducible refine Blk.drewN ?_ _) | (with_reducible refine RowIn.drewN ?_ _) | (with_reducible refine below_drewN ?_ _) | (with_reducible refine Blk.drew ?_) | (with_reducible refine RowIn.drew ?_) | (with_reducible refine Below.drew ?_) | (with_reducible refine Blk.new' ?_ ?_ <;> first | (with_reducible rfl) | (simp; done)) | (with_reducible refine Blk.alloc ?_ _) | (with_reducible refine RowIn.alloc ?_ _) | (with_reducible refine Below.alloc ?_ ?_ _) | (with_reducible apply Blk.set') | (with_reducible apply Blk.far') | (with_reducible refine RowIn.far' ?_ ?_ _) | (with_reducible refine Below.far' ?_ ?_ _) | rfl | omega | go_size)
    · obtain rfl : j = n := by omega
      by_cases h48 : j < 48
      · have hrl2 : runLen j = j + 1 := runLen_lt h48
        have hos2 : os.length < 330000 := by omega
        have HRL := Lib.hid hrl2
        clear hrl2
        go_wp2_with fail
        refine (radd_any base B m' d' os 0 false _ rfl (by omega) (by omega) own).mono ?_
        rintro e w2 ⟨B2, m2, d2, os2, rfl, own2, HO2, fr2, hB2⟩
        have hbn : blockOf B ≠ some w.heap.size := own.ne_blk zb (by decide)
        have hrn : blockOf B ≠ some (w.heap.size + 1) := own.ne_blk zr (by decide)
        have zb2 := zb.frm fr2 hbn
        have zr2 := zr.frm fr2 hrn
        have hbn2 : blockOf B2 ≠ some w.heap.size := own2.ne_blk zb2 (by decide)
        have own3 := (own2.far' (i := 0) hbn2 (.slice B2 m2 d2)).far' (i := 1) hbn2 (.int .i64 ((os2.length : Nat) : Int))
        have fr3 : Frm (fun k => blockOf A = some k) w w2 := fr.trans fr2 (fun i hi h => HBA.out i h hi)
        have HBA2 : Hid (∀ k, blockOf B2 = some k → k < w.heap.size → blockOf A = some k) := Lib.hid (fun k h hk => HBA.out k (hB2 k h (by omega)) hk)
        have s2 := fr3.size
        have kb2 := zb2.cell; have fb2 := zb2.frozen; have lb2 := zb2.lt; have kr2 := zr2.cell; have fr2' := zr2.frozen; have lr2 := zr2.lt
        have HO3 : Hid (os2 = bs ++ run j) := by rw [HO2.out, HO.out, List.append_assoc]; exact Lib.hid (by unfold run; rw [if_pos h48])
        have hrn2 : blockOf B2 ≠ some (w.heap.size + 1) := own2.ne_blk zr2 (by decide)
        clear HO2 HO
        go_wp2
        refine bodyPost_ret (v := .agg #[.slice B2 m2 d2, .int .i64 ((os2.length : Nat) : Int)]) (by simp [results, Try.results42, go_sem, kr2, lr2]) rfl ?_
        refine ⟨B2, m2, d2, os2, rfl, ?_, HO3, ?_, HBA2.out⟩
        · exact (own3.far' hrn2 _).far' hrn2 _
        · exact Frm.new' (Frm.new' (Frm.new' (Frm.new' fr3 (Nat.le_refl _) _) (Nat.le_refl _) _) (by omega) _) (by omega) _
      · have HO3 : Hid (os = bs ++ run j) := by rw [HO.out]; exact Lib.hid (by unfold run; rw [if_neg h48, List.append_nil])
        have hrn2 : blockOf B ≠ some (w.heap.size + 1) := own.ne_blk zr (by decide)
        clear HO
        go_wp2
        refine bodyPost_ret (v := .agg #[.slice B m' d', .int .i64 ((os.length : Nat) : Int)]) (by simp [results, Try.results42, go_sem, kr, lr]) rfl ?_
        refine ⟨B, m', d', os, rfl, ?_, HO3, ?_, HBA.out⟩
        · exact (own.far' hrn2 _).far' hrn2 _
        · exact Frm.new' (Frm.new' fr (by omega) _) (by omega) _


end Go.Proofs.Ytppilidcjlnmoaa
