/-
  Contracts of the reference of chapter 6: Got, Read.
-/
import Derived.Test.YtppilidcjlnmoaaDoorRefU
import Derived.Test.YtppilidcjlnmoaaDoorUnaB
namespace Go.Proofs.YtppilidcjlnmoaaDoor
open Go.RowKit Cad Cad.Bit Cad.Code
set_option linter.unusedVariables false
set_option linter.unusedSimpArgs false


/-- What Got returns. -/
def ugR (bs : List Bool) (i : Nat) : Int × Int := match readU (bs.drop i) with
  | .ok n m => ((n : Nat), ((i + m : Nat) : Int))
  | .err _ => (-1, 0)
theorem ones_next {l : List Bool} {j : Nat} (hj : j ≤ ones l) (hb : bitAt l j = true) : j + 1 ≤ ones l := by
  rcases Nat.lt_or_ge j (ones l) with h | h
  · exact h
  · exfalso
    obtain rfl : j = ones l := by omega
    rcases Nat.lt_or_ge (ones l) l.length with h2 | h2
    · have := ones_end h2
      rw [List.getElem?_eq_getElem h2] at this
      rw [bitAt_eq h2] at hb
      rw [hb] at this; cases this
    · unfold bitAt at hb
      rw [List.getD_eq_getElem?_getD, List.getElem?_eq_none h2] at hb; cases hb
theorem ones_stop {l : List Bool} {j : Nat} (hj : j ≤ ones l) (hb : bitAt l j = false) : j = ones l := by
  rcases Nat.lt_or_ge j (ones l) with h | h
  · exfalso
    have h2 := ones_get h
    unfold bitAt at hb
    rw [List.getD_eq_getElem?_getD, h2] at hb; cases hb
  · omega
theorem bitAt_drop (l : List Bool) (i j : Nat) : bitAt (l.drop i) j = bitAt l (i + j) := by unfold bitAt; rw [List.getD_eq_getElem?_getD, List.getD_eq_getElem?_getD, List.getElem?_drop]
theorem readU_of {l : List Bool} {j : Nat} (h : j = min (ones l) 48) : readU l = if j = 48 then .ok 48 48 else if j < l.length then .ok j (j + 1) else .err 24 := by
  unfold readU; rw [ones_take, ← h]

set_option maxHeartbeats 1000000 in
theorem rugot_any (A : Option Addr) (m c : Nat) (bs : List Bool) (i : Nat) (w : World) (ha : Row .u8 w A m (pack bs)) (hc : m ≤ c ∧ c ≤ 9223372036854775807) (hl : bs.length ≤ 330000) (hi : i ≤ bs.length) :
    Calls Tryd.prog 80 #[.agg #[.slice A m c, .int .i64 ((bs.length : Nat) : Int)], .int .i64 (i : Nat)] w fun e w' => e = .returned (.tuple #[.int .i64 (ugR bs i).1, .int .i64 (ugR bs i).2]) ∧ Below w.heap.size w w' := by
  obtain ⟨L, hL⟩ : ∃ L, bs.drop i = L := ⟨_, rfl⟩
  have hLl : L.length = bs.length - i := by rw [← hL, List.length_drop]
  have hon := ones_le L
  have HL := Lib.hid hL
  have hLl1 : L.length + i ≤ bs.length := by omega
  have hLl2 : bs.length ≤ L.length + i := by omega
  have hri := ha.rowIn
  clear hL hLl
  go_enter Tryd.func80, Tryd.ntmps80
  go_wp2_with fail
  go_loopg [6] L.length (fun k v wr => ∃ j : Nat, j + k = L.length ∧ v = .int .i64 (j : Nat) ∧ Hid (j ≤ ones L) ∧ j ≤ 48 ∧ Blk wr w.heap.size 24 [.slice A m c, .int .i64 ((bs.length : Nat) : Int)] ∧ Below w.heap.size w wr)
  case atStart =>
    refine ⟨0, by omega, rfl, Lib.hid (Nat.zero_le _), by omega, ?_, ?_⟩
    all_goals repeat' (first | (with_reducible assumption) | (with_reducible exact Below.refl _ _) | (with_reducible refine Blk.drewN ?_ _) | (with_reducible refine RowIn.drewN ?_ _) | (with_reducible refine below_drewN ?_ _) | (with_reducible refine Blk.drew ?_) | (with_reducible refine RowIn.drew ?_) | (with_reducible refine Below.drew ?_) | (with_reducible refine Blk.new' ?_ ?_ <;> first | (with_reducible rfl) | (simp; done)) | (with_reducible refine Blk.alloc ?_ _) | (with_reducible refine RowIn.alloc ?_ _) | (with_reducible refine Below.alloc ?_ ?_ _) | (with_reducible apply Blk.set') | (with_reducible apply Blk.far') | (with_reducible refine RowIn.far' ?_ ?_ _) | (with_reducible refine Below.far' ?_ ?_ _) | rfl | omega | go_size)
  case round =>
    obtain ⟨j, hj, rfl, HJ, hj48, zb, bb⟩ := hrel
    have s1 := bb.size
    have kb := zb.cell; have fb := zb.frozen; have lb := zb.lt
    have rb : RowIn .u8 wr 0 w.heap.size A m (pack bs) := hri.below bb (Nat.le_refl _)
    by_cases hlt : j < L.length
    · by_cases h48 : j < 48
      · go_wp2_with fail
        refine (rat_bit A m c _ bs _ _ rb.row (by omega) (by omega) hl (by omega)).mono ?_
        rintro e w2 ⟨v, rfl, HV, hv, b2⟩
        have bb2 := Below.after bb b2 bb.size
        have zb2 := zb.after b2
        have kb2 := zb2.cell; have lb2 := zb2.lt
        have hidx : ((i : Int) + (j : Int)).toNat = i + j := by omega
        rw [hidx, ← bitAt_drop, HL.out] at HV
        clear hidx kb fb lb
        by_cases hb : bitAt L j = true
        · have hv1 : v = 1 := by have := HV.out; rw [hb] at this; simp at this; omega
          subst hv1
          have hj1 := Lib.hid (ones_next HJ.out hb)
          have HB := Lib.hid hb
          clear hb
          go_wp2
          go_roundg (L.length - (j + 1))
          case measure => omega
          case rel => exact ⟨j + 1, by omega, by go_num, hj1, by omega, zb2, bb2⟩
        · have hb0 : bitAt L j = false := by simpa using hb
          have hv0 : v = 0 := by have := HV.out; rw [hb0] at this; simp at this; omega
          subst hv0
          have hE := ones_stop HJ.out hb0
          have hjj : j = min (ones L) 48 := by omega
          clear hb hb0 HV hE b2
          have HG := Lib.hid (readU_of hjj)
          clear hjj
          by_cases hq1 : j = 48
          · exfalso
            omega
          have t1 : ((j : Int) == 48) = false := beq_eq_false_iff_ne.2 (by omega)
          by_cases hq2 : j < L.length
          · have HR : Hid (ugR bs i = ((j : Int), ((i + (j + 1) : Nat) : Int))) := by unfold ugR; rw [HL.out, HG.out, if_neg hq1, if_pos hq2]; rfl
            clear hq1
            go_wp2
            go_ret2
            exact ⟨by rw [HR.out]; go_num, bb2⟩
          exfalso
          omega
      · have hjj : j = min (ones L) 48 := by have := HJ.out; omega
        have HG := Lib.hid (readU_of hjj)
        clear hjj
        by_cases hq1 : j = 48
        · have HR : Hid (ugR bs i = (48, ((i + 48 : Nat) : Int))) := by unfold ugR; rw [HL.out, HG.out, if_pos hq1]; rfl
          subst hq1
          go_wp2
          go_ret2
          exact ⟨by rw [HR.out]; go_num, bb⟩
        exfalso
        omega
    · have hjj : j = min (ones L) 48 := by have := HJ.out; omega
      have HG := Lib.hid (readU_of hjj)
      clear hjj
      by_cases hq1 : j = 48
      · have HR : Hid (ugR bs i = (48, ((i + 48 : Nat) : Int))) := by unfold ugR; rw [HL.out, HG.out, if_pos hq1]; rfl
        subst hq1
        go_wp2
        go_ret2
        exact ⟨by rw [HR.out]; go_num, bb⟩
      have t1 : ((j : Int) == 48) = false := beq_eq_false_iff_ne.2 (by omega)
      by_cases hq2 : j < L.length
      · exfalso
        omega
      have HR : Hid (ugR bs i = (-1, 0)) := by unfold ugR; rw [HL.out, HG.out, if_neg hq1, if_neg hq2]; rfl
      clear hq1
      go_wp2
      go_ret2
      exact ⟨by rw [HR.out]; rfl, bb⟩


end Go.Proofs.YtppilidcjlnmoaaDoor
