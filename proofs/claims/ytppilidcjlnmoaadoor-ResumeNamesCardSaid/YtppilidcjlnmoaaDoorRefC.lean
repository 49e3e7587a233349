/-
  Contract of the reference's Add: a bit behind bits of the call's own.
-/
import Derived.Test.YtppilidcjlnmoaaDoorRefB
import Derived.Test.YtppilidcjlnmoaaDoorBitC
namespace Go.Proofs.YtppilidcjlnmoaaDoor
open Go.RowKit Cad Cad.Bit
set_option linter.unusedVariables false
set_option linter.unusedSimpArgs false

/-- What a function ends in that puts bits behind bits of the call's own. -/
def Grew (w : World) (base : Nat) (A : Option Addr) (l : List Bool) (e : Ending) (w' : World) : Prop :=
  ∃ (B : Option Addr) (m' d : Nat) (bs' : List Bool), e = .returned (.agg #[.slice B m' d, .int .i64 (bs'.length : Nat)]) ∧ Own w' base 5 .u8 B m' d (pack bs') ∧ Hid (bs' = l) ∧ Frm (fun k => blockOf A = some k) w w' ∧ (∀ k, blockOf B = some k → k < w.heap.size → blockOf A = some k)

/-- The byte that Add makes. -/
theorem add_in {bs : List Bool} {z y : Nat} (b : Bool) (hs : 0 < bs.length % 8) (hz : z = 2 ^ (bs.length % 8)) (hy : y = byteAt bs (bs.length / 8)) : (pack bs).set (bs.length / 8) ((y + (if b then 1 else 0) * z : Nat) : Int) = pack (bs ++ [b]) := by
  have h := pack_append_in (a := bs) (b := [b]) hs (by simp) (by simp; omega)
  rw [← h, hy, hz]
  congr 2
  cases b <;> simp [bval]
theorem add_new {bs : List Bool} (b : Bool) (hs : bs.length % 8 = 0) : (pack bs ++ [0]).set (bs.length / 8) ((0 + (if b then 1 else 0) * 1 : Nat) : Int) = pack (bs ++ [b]) := by
  have h := pack_append_new (a := bs) (b := [b]) hs (by simp) (by simp)
  have hl : (pack bs).length = bs.length / 8 := by rw [pack_len]; unfold bytesFor; omega
  rw [← h, List.set_append_right _ _ (by omega), hl, Nat.sub_self]
  cases b <;> simp [bval]


set_option maxRecDepth 100000 in
set_option maxHeartbeats 1000000 in
theorem radd_any (base : Nat) (A : Option Addr) (m c : Nat) (bs : List Bool) (bit : Int) (b : Bool) (w : World) (hbit : bit = if b then 1 else 0) (hl : bs.length < 330000) (hbase : base ≤ w.heap.size) (hown : Own w base 5 .u8 A m c (pack bs)) :
    Calls Tryd.prog 82 #[.agg #[.slice A m c, .int .i64 (bs.length : Nat)], .int .i64 bit] w (Grew w base A (bs ++ [b])) := by
  have hm : m ≤ 41250 := by have := hown.len; rw [pack_len] at this; unfold bytesFor at this; omega
  obtain ⟨v, hv, hv1⟩ : ∃ v : Nat, bit = (v : Int) ∧ v = (if b then 1 else 0) := ⟨if b then 1 else 0, by rw [hbit]; cases b <;> rfl, rfl⟩
  have HV := Lib.hid hv1
  have hvle : v ≤ 1 := by rw [hv1]; cases b <;> decide
  subst hv
  clear hbit hv1
  obtain ⟨s, hs⟩ : ∃ s, bs.length % 8 = s := ⟨_, rfl⟩
  obtain ⟨i, hi⟩ : ∃ i, bs.length / 8 = i := ⟨_, rfl⟩
  have q1 : ((bs.length : Nat) : Int) % 8 = (s : Int) := by omega
  have q2 : ((bs.length : Nat) : Int) / 8 = (i : Int) := by omega
  have hs7 : s ≤ 7 := by omega
  have HS := Lib.hid hs; have HI := Lib.hid hi
  have hml : Hid (m = bytesFor bs.length) := by have := hown.len; rw [pack_len] at this; exact this.symm
  clear hs hi
  have HA := Lib.hid hown.block
  by_cases hs0 : s = 0
  · subst hs0
    have hmi : Hid (m = i) := by have h1 := hml.out; have h2 := HS.out; have h3 := HI.out; unfold bytesFor at h1; exact Lib.hid (by omega)
    have hmi1 : m ≤ i := by rw [hmi.out]; omega
    have q3 : ((bs.length : Nat) : Int) % 8 = 0 := by omega
    have q4 : ((bs.length : Nat) : Int) % 8 ≤ 0 := by omega
    have hbne : blockOf A ≠ some w.heap.size := fun e => by have := HA.out _ e; omega
    have hrne : blockOf A ≠ some (w.heap.size + 1) := fun e => by have := HA.out _ e; omega
    clear q1
    go_enter Tryd.func82, Tryd.ntmps82
    go_wp2_with (at_builtin; refine wpList_app _ u8E rfl _ _ rfl base _ _ _ _ rfl (by exact ((hown.alloc _).alloc _).alloc _) _ _ _ [0] rfl (by exact row_one' (by simp)) (by omega) (by simp; omega) ?_)
    intro B1 d1 w1 own1 hg1 hat1
    have zb1 : Blk w1 w.heap.size 24 [.slice A m c, .int .i64 ((bs.length : Nat) : Int)] := by
      refine Blk.grown ?_ hg1 (fun e => hbne e.symm)
      repeat' (first | (with_reducible assumption) | (with_reducible exact Below.refl _ _) | (with_reducible refine Blk.drewN ?_ _) | (with_reducible refine RowIn.drewN ?_ _) | (with_reducible refine below_drewN ?_ _) | (with_reducible refine Blk.drew ?_) | (with_reducible refine RowIn.drew ?_) | (with_reducible refine Below.drew ?_) | (with_reducible refine Blk.new' ?_ ?_ <;> first | (with_reducible rfl) | (simp; done)) | (with_reducible refine Blk.alloc ?_ _) | (with_reducible refine RowIn.alloc ?_ _) | (with_reducible refine Below.alloc ?_ ?_ _) | (with_reducible apply Blk.set') | (with_reducible refine Blk.far' ?_ ?_ _) | (with_reducible refine RowIn.far' ?_ ?_ _) | (with_reducible refine Below.far' ?_ ?_ _) | rfl | omega | go_size)
    have zr1 : Blk w1 (w.heap.size + 1) 24 [.slice none 0 0, .int .i64 0] := by
      refine Blk.grown ?_ hg1 (fun e => hrne e.symm)
      repeat' (first | (with_reducible assumption) | (with_reducible exact Below.refl _ _) | (with_reducible refine Blk.drewN ?_ _) | (with_reducible refine RowIn.drewN ?_ _) | (with_reducible refine below_drewN ?_ _) | (with_reducible refine Blk.drew ?_) | (with_reducible refine RowIn.drew ?_) | (with_reducible refine Below.drew ?_) | (with_reducible refine Blk.new' ?_ ?_ <;> first | (with_reducible rfl) | (simp; done)) | (with_reducible refine Blk.alloc ?_ _) | (with_reducible refine RowIn.alloc ?_ _) | (with_reducible refine Below.alloc ?_ ?_ _) | (with_reducible apply Blk.set') | (with_reducible refine Blk.far' ?_ ?_ _) | (with_reducible refine RowIn.far' ?_ ?_ _) | (with_reducible refine Below.far' ?_ ?_ _) | rfl | omega | go_size)
    have fr1 : Frm (fun k => blockOf A = some k) w w1 := ((((Frm.refl _ w).alloc _).alloc _).alloc _).grown hg1 (fun k e _ => e)
    have hBA : ∀ k, blockOf B1 = some k → k < w.heap.size → blockOf A = some k := fun k e hk => by
      rcases hat1 with e1 | e1
      · rw [← e1]; exact e
      · rw [e] at e1; injection e1 with e1; omega
    have hbn1 : blockOf B1 ≠ some w.heap.size := own1.ne_blk zb1 (by decide)
    have own2 := own1.far' (i := 0) hbn1 (.slice B1 (m + 1) d1)
    have s1 := fr1.size
    have HBA := Lib.hid hBA
    have kb1 := zb1.cell; have fb1 := zb1.frozen; have lb1 := zb1.lt; have lr1 := zr1.lt
    clear hg1 hat1 own1 hBA
    go_wp2_with fail
    go_loopg [5, 6] 0 (fun k v5 v6 wr => ∃ kk z : Nat, kk + k = 0 ∧ v6 = .int .i64 (kk : Nat) ∧ v5 = .int .i64 (z : Nat) ∧ Hid (z = 2 ^ kk) ∧ Blk wr w.heap.size 24 [.slice B1 (m + 1) d1, .int .i64 ((bs.length : Nat) : Int)] ∧ Blk wr (w.heap.size + 1) 24 [.slice none 0 0, .int .i64 0] ∧ Own wr base 5 .u8 B1 (m + 1) d1 (pack bs ++ [0]) ∧ Frm (fun k => blockOf A = some k) w wr)
    case atStart =>
      refine ⟨0, 1, rfl, rfl, rfl, Lib.hid rfl, ?_, ?_, own2, Frm.new' fr1 (Nat.le_refl _) _⟩
      all_goals repeat' (first | (with_reducible assumption) | (with_reducible exact Below.refl _ _) | (with_reducible refine Blk.drewN ?_ _) | (with_reducible refine RowIn.drewN ?_ _) | (with_reducible refine below_drewN ?_ _) | (with_reducible refine Blk.drew ?_) | (with_reducible refine RowIn.drew ?_) | (with_reducible refine Below.drew ?_) | (with_reducible refine Blk.new' ?_ ?_ <;> first | (with_reducible rfl) | (simp; done)) | (with_reducible refine Blk.alloc ?_ _) | (with_reducible refine RowIn.alloc ?_ _) | (with_reducible refine Below.alloc ?_ ?_ _) | (with_reducible apply Blk.set') | (with_reducible refine Blk.far' ?_ ?_ _) | (with_reducible refine RowIn.far' ?_ ?_ _) | (with_reducible refine Below.far' ?_ ?_ _) | rfl | omega | go_size)
    case round =>
      obtain ⟨kk, z, hk, rfl, rfl, HZ, zb, zr, own, fr⟩ := hrel
      obtain rfl : kk = 0 := by omega
      have hz1 : z = 1 := by rw [HZ.out]
      subst hz1
      have HSET : Hid ((pack bs ++ [0]).set i ((0 + v * 1 : Nat) : Int) = pack (bs ++ [b])) := by rw [HV.out, ← HI.out]; exact Lib.hid (add_new b HS.out)
      have hy : nth (pack bs ++ [0]) m = ((0 : Nat) : Int) := by
        have hpl := own.len
        rw [List.length_append] at hpl
        have hpl' : (pack bs).length + 1 = m + 1 := hpl
        rw [nth_append_right (by omega), show m - (pack bs).length = 0 by omega]; rfl
      rw [← hmi.out] at HSET q2
      clear zb1 zr1 fr1 own2 kb1 fb1 lb1 lr1
      have s1 := fr.size
      have hbn : blockOf B1 ≠ some w.heap.size := own.ne_blk zb (by decide)
      have hrn : blockOf B1 ≠ some (w.heap.size + 1) := own.ne_blk zr (by decide)
      have hPlen := own.len
      rcases own.cases with ⟨_, h0, _⟩ | ⟨g1, spare, rfl, hbg, hnc, hcm, hsp, hblk⟩
      · omega
      have hg1 : w.heap.size ≠ g1 := fun e => hbn (by rw [e]; rfl)
      have hg2 : w.heap.size + 1 ≠ g1 := fun e => hrn (by rw [e]; rfl)
      have e0 : wr.cell? ⟨g1, m, none⟩ = some (.int .u8 ((0 : Nat) : Int)) := by
        rw [hblk.cell, List.getElem?_append_left (by rw [List.length_map, hPlen]; omega), getElem?_map_nth (by rw [hPlen]; omega), hy]
      have f2 := hblk.frozen m
      have kb := zb.cell; have fb := zb.frozen; have lb := zb.lt; have lr := zr.lt; have kr := zr.cell; have frr := zr.frozen
      have HY := Lib.hid hy; have HPL := Lib.hid hPlen
      clear hy hPlen
      rcases (by omega : v = 0 ∨ v = 1) with rfl | rfl
      · go_wp2
        refine bodyPost_ret (v := .agg #[.slice (some ⟨g1, 0, none⟩) (m + 1) d1, .int .i64 (((bs.length : Nat) : Int) + 1)]) (by simp [results, Tryd.results82, go_sem, kr]) rfl ?_
        have hb := hblk.set m (.int .u8 ((0 + 0 * 1 : Nat) : Int))
        rw [List.set_append_left _ _ (by rw [List.length_map, HPL.out]; omega), ← List.map_set, HSET.out] at hb
        
        have hlen : (pack (bs ++ [b])).length = m + 1 := by rw [← HSET.out, List.length_set, HPL.out]
        have own5 := Own.mk hbg hlen hsp hcm hb
        refine ⟨some ⟨g1, 0, none⟩, m + 1, d1, bs ++ [b], by rw [List.length_append]; rfl, ?_, Lib.hid rfl, ?_, HBA.out⟩
        · exact ((own5.far' hbn _).far' hrn _).far' hrn _
        · exact Frm.new' (Frm.new' (Frm.new' (fr.setCell (p := ⟨g1, m, none⟩) (fun hlt => HBA.out g1 rfl hlt) _) (Nat.le_refl _) _) (by omega) _) (by omega) _
      · go_wp2
        refine bodyPost_ret (v := .agg #[.slice (some ⟨g1, 0, none⟩) (m + 1) d1, .int .i64 (((bs.length : Nat) : Int) + 1)]) (by simp [results, Tryd.results82, go_sem, kr]) rfl ?_
        have hb := hblk.set m (.int .u8 ((0 + 1 * 1 : Nat) : Int))
        rw [List.set_append_left _ _ (by rw [List.length_map, HPL.out]; omega), ← List.map_set, HSET.out] at hb
        
        have hlen : (pack (bs ++ [b])).length = m + 1 := by rw [← HSET.out, List.length_set, HPL.out]
        have own5 := Own.mk hbg hlen hsp hcm hb
        refine ⟨some ⟨g1, 0, none⟩, m + 1, d1, bs ++ [b], by rw [List.length_append]; rfl, ?_, Lib.hid rfl, ?_, HBA.out⟩
        · exact ((own5.far' hbn _).far' hrn _).far' hrn _
        · exact Frm.new' (Frm.new' (Frm.new' (fr.setCell (p := ⟨g1, m, none⟩) (fun hlt => HBA.out g1 rfl hlt) _) (Nat.le_refl _) _) (by omega) _) (by omega) _
  · have hmi : Hid (m = i + 1) := by have h1 := hml.out; have h2 := HS.out; have h3 := HI.out; unfold bytesFor at h1; exact Lib.hid (by omega)
    have q3 : (((bs.length : Nat) : Int) % 8 == 0) = false := by rw [q1, beq_eq_false_iff_ne]; omega
    go_enter Tryd.func82, Tryd.ntmps82
    go_wp2_with fail
    go_loopg [5, 6] s (fun k v5 v6 wr => ∃ kk z : Nat, kk + k = s ∧ v6 = .int .i64 (kk : Nat) ∧ v5 = .int .i64 (z : Nat) ∧ Hid (z = 2 ^ kk) ∧ Blk wr w.heap.size 24 [.slice A m c, .int .i64 ((bs.length : Nat) : Int)] ∧ Blk wr (w.heap.size + 1) 24 [.slice none 0 0, .int .i64 0] ∧ Own wr base 5 .u8 A m c (pack bs) ∧ Frm (fun k => blockOf A = some k) w wr)
    case atStart =>
      refine ⟨0, 1, by omega, rfl, rfl, Lib.hid rfl, ?_, ?_, (hown.alloc _).alloc _, ((Frm.refl _ w).alloc _).alloc _⟩
      all_goals repeat' (first | (with_reducible assumption) | (with_reducible exact Below.refl _ _) | (with_reducible refine Blk.drewN ?_ _) | (with_reducible refine RowIn.drewN ?_ _) | (with_reducible refine below_drewN ?_ _) | (with_reducible refine Blk.drew ?_) | (with_reducible refine RowIn.drew ?_) | (with_reducible refine Below.drew ?_) | (with_reducible refine Blk.new' ?_ ?_ <;> first | (with_reducible rfl) | (simp; done)) | (with_reducible refine Blk.alloc ?_ _) | (with_reducible refine RowIn.alloc ?_ _) | (with_reducible refine Below.alloc ?_ ?_ _) | (with_reducible apply Blk.set') | (with_reducible refine Blk.far' ?_ ?_ _) | (with_reducible refine RowIn.far' ?_ ?_ _) | (with_reducible refine Below.far' ?_ ?_ _) | rfl | omega | go_size)
    case round =>
      obtain ⟨kk, z, hk, rfl, rfl, HZ, zb, zr, own, fr⟩ := hrel
      have s1 := fr.size
      have kb := zb.cell; have fb := zb.frozen; have lb := zb.lt; have lr := zr.lt; have kr := zr.cell; have frr := zr.frozen
      have hz8 : z ≤ 128 := by rw [HZ.out]; exact Nat.le_trans (Nat.pow_le_pow_right (by omega) (by omega : kk ≤ 7)) (by decide)
      by_cases hlt : kk < s
      · go_wp2
        go_roundg (s - (kk + 1))
        case measure => omega
        case rel => exact ⟨kk + 1, z * 2, by omega, by go_num, by go_num, Lib.hid (by rw [HZ.out, Nat.pow_succ]), zb, zr, own, fr⟩
      · obtain rfl : kk = s := by omega
        have hmi2 := hmi.out
        obtain ⟨y, hy0⟩ : ∃ y, y = byteAt bs (bs.length / 8) := ⟨_, rfl⟩
        have hyz : y < z := by rw [hy0, HZ.out, ← HS.out]; exact byteAt_last_lt bs
        have hy : nth (pack bs) i = (y : Int) := by rw [← HI.out, nth_pack (by rw [← hml.out, hmi2]; omega), hy0]
        have HSET : Hid ((pack bs).set i ((y + v * z : Nat) : Int) = pack (bs ++ [b])) := by rw [HV.out, ← HI.out]; exact Lib.hid (add_in b (by rw [HS.out]; omega) (by rw [HZ.out, HS.out]) hy0)
        subst hmi2
        have HBA : Hid (∀ k, blockOf A = some k → k < w.heap.size → blockOf A = some k) := Lib.hid (fun _ h _ => h)
        have hyz8 : y + z ≤ 255 := by have h8 : z * 2 ≤ 256 := by rw [HZ.out, ← Nat.pow_succ]; exact Nat.le_trans (Nat.pow_le_pow_right (by omega) (by omega : kk + 1 ≤ 8)) (by decide)
                                      omega
        have hs0' := Lib.hid hs0
        clear hy0 hs0 kb fb lb lr kr frr
        have s1 := fr.size
        have hbn : blockOf A ≠ some w.heap.size := own.ne_blk zb (by decide)
        have hrn : blockOf A ≠ some (w.heap.size + 1) := own.ne_blk zr (by decide)
        have hPlen := own.len
        rcases own.cases with ⟨_, h0, _⟩ | ⟨g1, spare, rfl, hbg, hnc, hcm, hsp, hblk⟩
        · omega
        have hg1 : w.heap.size ≠ g1 := fun e => hbn (by rw [e]; rfl)
        have hg2 : w.heap.size + 1 ≠ g1 := fun e => hrn (by rw [e]; rfl)
        have e0 : wr.cell? ⟨g1, i, none⟩ = some (.int .u8 ((y : Nat) : Int)) := by
          rw [hblk.cell, List.getElem?_append_left (by rw [List.length_map, hPlen]; omega), getElem?_map_nth (by rw [hPlen]; omega), hy]
        have f2 := hblk.frozen i
        have kb := zb.cell; have fb := zb.frozen; have lb := zb.lt; have lr := zr.lt; have kr := zr.cell; have frr := zr.frozen
        have HY := Lib.hid hy; have HPL := Lib.hid hPlen
        clear hy hPlen
        rcases (by omega : v = 0 ∨ v = 1) with rfl | rfl
        · go_wp2
          refine bodyPost_ret (v := .agg #[.slice (some ⟨g1, 0, none⟩) (i + 1) c, .int .i64 (((bs.length : Nat) : Int) + 1)]) (by simp [results, Tryd.results82, go_sem, kr]) rfl ?_
          have hb := hblk.set i (.int .u8 ((y + 0 * z : Nat) : Int))
          rw [List.set_append_left _ _ (by rw [List.length_map, HPL.out]; omega), ← List.map_set, HSET.out] at hb
          rw [show ((y + 0 * z : Nat) : Int) = (y : Int) by omega] at hb
          have hlen : (pack (bs ++ [b])).length = i + 1 := by rw [← HSET.out, List.length_set, HPL.out]
          have own5 := Own.mk hbg hlen hsp hcm hb
          refine ⟨some ⟨g1, 0, none⟩, i + 1, c, bs ++ [b], by rw [List.length_append]; rfl, ?_, Lib.hid rfl, ?_, HBA.out⟩
          · exact ((own5.far' hbn _).far' hrn _).far' hrn _
          · exact Frm.new' (Frm.new' (Frm.new' (fr.setCell (p := ⟨g1, i, none⟩) (fun hlt => HBA.out g1 rfl hlt) _) (Nat.le_refl _) _) (by omega) _) (by omega) _
        · go_wp2
          refine bodyPost_ret (v := .agg #[.slice (some ⟨g1, 0, none⟩) (i + 1) c, .int .i64 (((bs.length : Nat) : Int) + 1)]) (by simp [results, Tryd.results82, go_sem, kr]) rfl ?_
          have hb := hblk.set i (.int .u8 ((y + 1 * z : Nat) : Int))
          rw [List.set_append_left _ _ (by rw [List.length_map, HPL.out]; omega), ← List.map_set, HSET.out] at hb
          rw [show ((y + 1 * z : Nat) : Int) = (y : Int) + (z : Int) by omega] at hb
          have hlen : (pack (bs ++ [b])).length = i + 1 := by rw [← HSET.out, List.length_set, HPL.out]
          have own5 := Own.mk hbg hlen hsp hcm hb
          refine ⟨some ⟨g1, 0, none⟩, i + 1, c, bs ++ [b], by rw [List.length_append]; rfl, ?_, Lib.hid rfl, ?_, HBA.out⟩
          · exact ((own5.far' hbn _).far' hrn _).far' hrn _
          · exact Frm.new' (Frm.new' (Frm.new' (fr.setCell (p := ⟨g1, i, none⟩) (fun hlt => HBA.out g1 rfl hlt) _) (Nat.le_refl _) _) (by omega) _) (by omega) _

end Go.Proofs.YtppilidcjlnmoaaDoor
