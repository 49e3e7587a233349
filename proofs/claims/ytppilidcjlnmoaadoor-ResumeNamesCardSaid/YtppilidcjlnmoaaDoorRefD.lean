/-
  Contracts of the reference of chapter 2: copies, parts, joining.
-/
import Derived.Test.YtppilidcjlnmoaaDoorRefC
import Derived.Test.YtppilidcjlnmoaaDoorBitG
import Derived.Test.YtppilidcjlnmoaaDoorBitX
namespace Go.Proofs.YtppilidcjlnmoaaDoor
open Go.RowKit Cad Cad.Bit
set_option linter.unusedVariables false
set_option linter.unusedSimpArgs false

set_option maxHeartbeats 400000 in
theorem rtwin_any (A : Option Addr) (m c : Nat) (N : Int) (xs : List Int) (w : World) (ha : Row .u8 w A m xs) (hn : m ≤ 900000) :
    Calls Tryd.prog 18 #[.agg #[.slice A m c, .int .i64 N]] w fun e w' => ∃ B d, e = .returned (.agg #[.slice B m d, .int .i64 N]) ∧ Own w' w.heap.size 5 .u8 B m d xs ∧ Below w.heap.size w w' := by
  go_enter Tryd.func18, Tryd.ntmps18
  go_wp2_with fail
  obtain ⟨w0, hw0⟩ : ∃ w0, w0 = (w.alloc (.cells #[.slice A m c, .int .i64 N] 24)).alloc (.cells #[.slice none 0 0, .int .i64 0] 24) := ⟨_, rfl⟩
  have z0 : Blk w0 w.heap.size 24 [.slice A m c, .int .i64 N] := by rw [hw0]; repeat' (first | (with_reducible assumption) | (with_reducible exact Below.refl _ _) | (with_reducible refine Blk.drewN ?_ _) | (with_reducible refine RowIn.drewN ?_ _) | (with_reducible refine below_drewN ?_ _) | (with_reducible refine Blk.drew ?_) | (with_reducible refine RowIn.drew ?_) | (with_reducible refine Below.drew ?_) | (with_reducible refine Blk.new' ?_ ?_ <;> first | (with_reducible rfl) | (simp; done)) | (with_reducible refine Blk.alloc ?_ _) | (with_reducible refine RowIn.alloc ?_ _) | (with_reducible refine Below.alloc ?_ ?_ _) | (with_reducible apply Blk.set') | (with_reducible refine Blk.far' ?_ ?_ _) | (with_reducible refine RowIn.far' ?_ ?_ _) | (with_reducible refine Below.far' ?_ ?_ _) | rfl | omega | go_size)
  have z1 : Blk w0 (w.heap.size + 1) 24 [.slice none 0 0, .int .i64 0] := by rw [hw0]; repeat' (first | (with_reducible assumption) | (with_reducible exact Below.refl _ _) | (with_reducible refine Blk.drewN ?_ _) | (with_reducible refine RowIn.drewN ?_ _) | (with_reducible refine below_drewN ?_ _) | (with_reducible refine Blk.drew ?_) | (with_reducible refine RowIn.drew ?_) | (with_reducible refine Below.drew ?_) | (with_reducible refine Blk.new' ?_ ?_ <;> first | (with_reducible rfl) | (simp; done)) | (with_reducible refine Blk.alloc ?_ _) | (with_reducible refine RowIn.alloc ?_ _) | (with_reducible refine Below.alloc ?_ ?_ _) | (with_reducible apply Blk.set') | (with_reducible refine Blk.far' ?_ ?_ _) | (with_reducible refine RowIn.far' ?_ ?_ _) | (with_reducible refine Below.far' ?_ ?_ _) | rfl | omega | go_size)
  have z2 : Below w.heap.size w w0 := by rw [hw0]; repeat' (first | (with_reducible assumption) | (with_reducible exact Below.refl _ _) | (with_reducible refine Blk.drewN ?_ _) | (with_reducible refine RowIn.drewN ?_ _) | (with_reducible refine below_drewN ?_ _) | (with_reducible refine Blk.drew ?_) | (with_reducible refine RowIn.drew ?_) | (with_reducible refine Below.drew ?_) | (with_reducible refine Blk.new' ?_ ?_ <;> first | (with_reducible rfl) | (simp; done)) | (with_reducible refine Blk.alloc ?_ _) | (with_reducible refine RowIn.alloc ?_ _) | (with_reducible refine Below.alloc ?_ ?_ _) | (with_reducible apply Blk.set') | (with_reducible refine Blk.far' ?_ ?_ _) | (with_reducible refine RowIn.far' ?_ ?_ _) | (with_reducible refine Below.far' ?_ ?_ _) | rfl | omega | go_size)
  have z3 : Row .u8 w0 A m xs := by rw [hw0]; exact (ha.alloc _).alloc _
  have z4 := z2.size
  rw [← hw0]
  clear hw0
  have k0 := z0.cell; have k1 := z1.cell; have f1 := z1.frozen; have l0 := z0.lt; have l1 := z1.lt
  go_region_law (refine step_app _ u8E rfl _ _ (by rfl) w0.heap.size _ _ _ [] (by rfl) (by exact own_empty _ _ _ (Nat.le_refl _)) _ _ _ xs (by rfl) (by exact z3.alloc _) (by omega) (by simp) ?_; intro B d w1 own1 hg1 hat1
                 have b1 : Below w0.heap.size w0 w1 := by
                   refine Below.grown ?_ hg1 ?_ (fun g e => by simp [blockOf] at e; omega)
                   all_goals repeat' (first | (with_reducible assumption) | (with_reducible exact Below.refl _ _) | (with_reducible refine Blk.drewN ?_ _) | (with_reducible refine RowIn.drewN ?_ _) | (with_reducible refine below_drewN ?_ _) | (with_reducible refine Blk.drew ?_) | (with_reducible refine RowIn.drew ?_) | (with_reducible refine Below.drew ?_) | (with_reducible refine Blk.new' ?_ ?_ <;> first | (with_reducible rfl) | (simp; done)) | (with_reducible refine Blk.alloc ?_ _) | (with_reducible refine RowIn.alloc ?_ _) | (with_reducible refine Below.alloc ?_ ?_ _) | (with_reducible apply Blk.set') | (with_reducible refine Blk.far' ?_ ?_ _) | (with_reducible refine RowIn.far' ?_ ?_ _) | (with_reducible refine Below.far' ?_ ?_ _) | rfl | omega | go_size)
                 have y0 := z0.after b1
                 have y1 := z1.after b1
                 have q0 := y0.cell
                 have q1 := y1.cell
                 have g1 := y1.frozen
                 have m1 := y1.lt)
  all_goals
    go_wp2
    refine bodyPost_ret (v := .agg #[.slice B m d, .int .i64 N]) (by simp [results, Tryd.results18, go_sem, q1]) rfl ⟨B, d, rfl, ?_, ?_⟩
    · have hgne : blockOf B ≠ some (w.heap.size + 1) := own1.ne_blk y1 (by decide)
      have own2 := ((own1.far' (i := 0) hgne (.slice B m d)).far' (i := 1) hgne (.int .i64 N)).mono (base' := w.heap.size) (by omega)
      simpa using own2
    · have := Below.after z2 b1 z2.size
      repeat' (first | (with_reducible assumption) | (with_reducible exact Below.refl _ _) | (with_reducible refine Blk.drewN ?_ _) | (with_reducible refine RowIn.drewN ?_ _) | (with_reducible refine below_drewN ?_ _) | (with_reducible refine Blk.drew ?_) | (with_reducible refine RowIn.drew ?_) | (with_reducible refine Below.drew ?_) | (with_reducible refine Blk.new' ?_ ?_ <;> first | (with_reducible rfl) | (simp; done)) | (with_reducible refine Blk.alloc ?_ _) | (with_reducible refine RowIn.alloc ?_ _) | (with_reducible refine Below.alloc ?_ ?_ _) | (with_reducible apply Blk.set') | (with_reducible refine Blk.far' ?_ ?_ _) | (with_reducible refine RowIn.far' ?_ ?_ _) | (with_reducible refine Below.far' ?_ ?_ _) | rfl | omega | go_size)


theorem rgreat_yes (A : Option Addr) (n c : Nat) (N : Int) (w : World) (h : 190 < n ∧ n < 41230 ∨ 41350 < n) :
    Calls Tryd.prog 17 #[.agg #[.slice A n c, .int .i64 N]] w fun e w' => e = .returned (.bool true) ∧ Below w.heap.size w w' := by
  rcases h with ⟨h1, h2⟩ | h
  · have t1 : decide ((190 : Int) < (n : Int)) = true := decide_eq_true (by omega)
    have t2 : decide ((n : Int) < 41230) = true := decide_eq_true (by omega)
    go_enter Tryd.func17, Tryd.ntmps17
    go_wp2
    go_ret
    exact ⟨rfl, by go_grown⟩
  · have t1 : decide ((190 : Int) < (n : Int)) = true := decide_eq_true (by omega)
    have t2 : decide ((n : Int) < 41230) = false := decide_eq_false (by omega)
    have t3 : decide ((41350 : Int) < (n : Int)) = true := decide_eq_true (by omega)
    go_enter Tryd.func17, Tryd.ntmps17
    go_wp2
    go_ret
    exact ⟨rfl, by go_grown⟩
theorem rgreat_no (A : Option Addr) (n c : Nat) (N : Int) (w : World) (h : ¬ (190 < n ∧ n < 41230 ∨ 41350 < n)) :
    Calls Tryd.prog 17 #[.agg #[.slice A n c, .int .i64 N]] w fun e w' => e = .returned (.bool false) ∧ Below w.heap.size w w' := by
  have t3 : decide ((41350 : Int) < (n : Int)) = false := decide_eq_false (by omega)
  by_cases h1 : 190 < n
  · have t1 : decide ((190 : Int) < (n : Int)) = true := decide_eq_true (by omega)
    have t2 : decide ((n : Int) < 41230) = false := decide_eq_false (by omega)
    clear h
    go_enter Tryd.func17, Tryd.ntmps17
    go_wp2
    go_ret
    exact ⟨rfl, by go_grown⟩
  · have t1 : decide ((190 : Int) < (n : Int)) = false := decide_eq_false (by omega)
    clear h
    go_enter Tryd.func17, Tryd.ntmps17
    go_wp2
    go_ret
    exact ⟨rfl, by go_grown⟩

/-- The bit with an index. -/
def bitAt (bs : List Bool) (i : Nat) : Bool := bs.getD i false
theorem bitAt_eq {bs : List Bool} {i : Nat} (h : i < bs.length) : bitAt bs i = bs[i] := by unfold bitAt; rw [List.getD_eq_getElem?_getD, List.getElem?_eq_getElem h]; rfl
theorem rat_bit (A : Option Addr) (n c : Nat) (N : Int) (bs : List Bool) (i : Int) (w : World) (ha : Row .u8 w A n (pack bs)) (h0 : 0 ≤ i) (hi : i < (bs.length : Int)) (hl : bs.length ≤ 330000) (hn : n ≤ 9223372036854775807) :
    Calls Tryd.prog 64 #[.agg #[.slice A n c, .int .i64 N], .int .i64 i] w fun e w' => ∃ v : Nat, e = .returned (.int .i64 (v : Int)) ∧ Hid ((v : Int) = if bitAt bs i.toNat then 1 else 0) ∧ v ≤ 1 ∧ Below w.heap.size w w' := by
  obtain ⟨i, rfl⟩ := Int.eq_ofNat_of_zero_le h0
  have hi' : i < bs.length := by omega
  have hb : i / 8 < bytesFor bs.length := by unfold bytesFor; omega
  have hnl : n = bytesFor bs.length := by have := ha.len; rw [pack_len] at this; exact this.symm
  refine (rat_any A n c N (pack bs) i (byteAt bs (i / 8)) w ha (by omega) (nth_pack hb) (byteAt_lt _ _) (by omega) hn).mono ?_
  rintro e w' ⟨rfl, hbel⟩
  have e1 := bit_at hi'
  refine ⟨_, rfl, Lib.hid ?_, by omega, hbel⟩
  rw [e1, Int.toNat_natCast, bitAt_eq hi']
  cases bs[i] <;> rfl
theorem take_bit {bs : List Bool} {i j : Nat} (h : i + j < bs.length) : (bs.drop i).take j ++ [bitAt bs (i + j)] = (bs.drop i).take (j + 1) := by
  rw [List.take_succ_eq_append_getElem (by rw [List.length_drop]; omega), bitAt_eq h, List.getElem_drop]


set_option maxRecDepth 100000 in
set_option maxHeartbeats 1000000 in
theorem rbetween_any (A : Option Addr) (m c : Nat) (bs : List Bool) (p q : Nat) (w : World) (ha : Row .u8 w A m (pack bs)) (hc : m ≤ c ∧ c ≤ 9223372036854775807) (hl : bs.length ≤ 330000) (hpq : p ≤ q) (hq : q ≤ bs.length) :
    Calls Tryd.prog 75 #[.agg #[.slice A m c, .int .i64 (bs.length : Nat)], .int .i64 p, .int .i64 q] w (RetB1 w ((bs.drop p).take (q - p))) := by
  have hri := ha.rowIn
  go_enter Tryd.func75, Tryd.ntmps75
  go_wp2_with fail
  go_loopg [8] (q - p) (fun k v wr => ∃ (j a : Nat) (B : Option Addr) (m' d : Nat) (os : List Bool), j + k = q - p ∧ v = .int .i64 (a : Nat) ∧ Hid (a = p + j) ∧ Hid (os = (bs.drop p).take j) ∧ Blk wr w.heap.size 24 [.slice A m c, .int .i64 ((bs.length : Nat) : Int)] ∧ Blk wr (w.heap.size + 1) 24 [.slice none 0 0, .int .i64 0] ∧ Blk wr (w.heap.size + 1 + 1) 24 [.slice B m' d, .int .i64 (os.length : Nat)] ∧ Own wr (w.heap.size + 1 + 1 + 1) 5 .u8 B m' d (pack os) ∧ Below w.heap.size w wr)
  case atStart =>
    refine ⟨0, p, none, 0, 0, [], by omega, rfl, Lib.hid (by omega), Lib.hid (by simp), ?_, ?_, ?_, Own.nil _ _ _ _, ?_⟩
    all_goals repeat' (first | (with_reducible assumption) | (with_reducible exact Below.refl _ _) | (with_reducible refine Blk.drewN ?_ _) | (with_reducible refine RowIn.drewN ?_ _) | (with_reducible refine below_drewN ?_ _) | (with_reducible refine Blk.drew ?_) | (with_reducible refine RowIn.drew ?_) | (with_reducible refine Below.drew ?_) | (with_reducible refine Blk.new' ?_ ?_ <;> first | (with_reducible rfl) | (simp; done)) | (with_reducible refine Blk.alloc ?_ _) | (with_reducible refine RowIn.alloc ?_ _) | (with_reducible refine Below.alloc ?_ ?_ _) | (with_reducible apply Blk.set') | (with_reducible refine Blk.far' ?_ ?_ _) | (with_reducible refine RowIn.far' ?_ ?_ _) | (with_reducible refine Below.far' ?_ ?_ _) | rfl | omega | go_size)
  case round =>
    obtain ⟨j, a, B, m', d, os, hk, rfl, HA, HO, zb, zr, zo, own, bb⟩ := hrel
    have s1 := bb.size
    have kb := zb.cell; have fb := zb.frozen; have lb := zb.lt; have kr := zr.cell; have frr := zr.frozen; have lr := zr.lt; have ko := zo.cell; have fo := zo.frozen; have lo := zo.lt
    have ra : Row .u8 wr A m (pack bs) := (hri.below bb (Nat.le_refl _)).row
    have haj : a ≤ p + j ∧ p + j ≤ a := by have := HA.out; omega
    obtain ⟨haj1, haj2⟩ := haj
    have hos : os.length ≤ j := by rw [HO.out, List.length_take]; omega
    by_cases hlt : a < q
    · go_wp2_with fail
      go_region_law (first
        | (go_simp; go_at_call 64; refine (rat_bit A m c _ bs a _ (by exact ra) (by omega) (by omega) hl (by omega)).mono ?_; rintro e w1 ⟨v, rfl, HV, hv, b1⟩
           have b1' : Below wr.heap.size wr w1 := by exact ⟨b1.os, b1.tape, b1.output, b1.size, b1.block⟩
           have zb1 := zb.after b1'
           have zr1 := zr.after b1'
           have zo1 := zo.after b1'
           have own1 := own.below b1' (Nat.le_refl _)
           have sb1 := b1'.size
           have kb1 := zb1.cell
           have ko1 := zo1.cell
           have fo1 := zo1.frozen)
        | (go_simp; go_at_call 82; refine (radd_any (w.heap.size + 1 + 1 + 1) B m' d os v (bitAt bs (a : Int).toNat) _ HV.out (by omega) (by omega) (by exact own1)).mono ?_; rintro e w2 ⟨B2, m2, d2, os2, rfl, own2, HO2, fr2, hB2⟩
           have hown := own1.block
           have zb2 := zb1.frm fr2 (fun h => by have := hown _ h; omega)
           have zr2 := zr1.frm fr2 (fun h => by have := hown _ h; omega)
           have zo2 := zo1.frm fr2 (fun h => by have := hown _ h; omega)
           have ko2 := zo2.cell
           have fo2 := zo2.frozen
           have lo2 := zo2.lt
           have bb2 : Below w.heap.size w w2 := (Below.after bb b1' bb.size).trans (fr2.below (by omega) (fun k hk h => by have := hown k h; omega))))
      all_goals
        have hne : blockOf B2 ≠ some (w.heap.size + 1 + 1) := own2.ne_blk zo2 (by decide)
        have own3 := (own2.far' (i := 0) hne (.slice B2 m2 d2)).far' (i := 1) hne (.int .i64 ((os2.length : Nat) : Int))
        have HO3 : Hid (os2 = (bs.drop p).take (j + 1)) := by
          rw [HO2.out, HO.out, Int.toNat_natCast, HA.out]
          exact Lib.hid (take_bit (by omega))
        clear HO2 HV
        go_wp2
        go_roundg (q - p - (j + 1))
        case measure => omega
        case rel =>
          refine ⟨j + 1, a + 1, B2, m2, d2, os2, by omega, by go_num, Lib.hid (by have := HA.out; omega), HO3, ?_, ?_, ?_, own3, ?_⟩
          all_goals repeat' (first | (with_reducible assumption) | (with_reducible exact Below.refl _ _) | (with_reducible refine Blk.drewN ?_ _) | (with_reducible refine RowIn.drewN ?_ _) | (with_reducible refine below_drewN ?_ _) | (with_reducible refine Blk.drew ?_) | (with_reducible refine RowIn.drew ?_) | (with_reducible refine Below.drew ?_) | (with_reducible refine Blk.new' ?_ ?_ <;> first | (with_reducible rfl) | (simp; done)) | (with_reducible refine Blk.alloc ?_ _) | (with_reducible refine RowIn.alloc ?_ _) | (with_reducible refine Below.alloc ?_ ?_ _) | (with_reducible apply Blk.set') | (with_reducible refine Blk.far' ?_ ?_ _) | (with_reducible refine RowIn.far' ?_ ?_ _) | (with_reducible refine Below.far' ?_ ?_ _) | rfl | omega | go_size)
    · have hjq : j = q - p := by omega
      have HJ := Lib.hid hjq
      have rw1 := own.rowIn
      clear hjq
      go_wp2
      refine bodyPost_ret (v := .agg #[.slice B m' d, .int .i64 ((os.length : Nat) : Int)]) (by simp [results, Tryd.results75, go_sem, kr]) rfl ?_
      refine RetB1.of (x := .agg #[.slice B m' d, .int .i64 ((os.length : Nat) : Int)]) rfl ⟨B, m', d, by rw [← HJ.out, ← HO.out], own.rowC.2, ?_⟩ ?_
      · rw [← HJ.out, ← HO.out]
        refine RowIn.mono (lo := w.heap.size + 1 + 1 + 1) (hi := wr.heap.size) ?_ (by omega) (by go_size)
        repeat' (first | (with_reducible assumption) | (with_reducible exact Below.refl _ _) | (with_reducible refine Blk.drewN ?_ _) | (with_reducible refine RowIn.drewN ?_ _) | (with_reducible refine below_drewN ?_ _) | (with_reducible refine Blk.drew ?_) | (with_reducible refine RowIn.drew ?_) | (with_reducible refine Below.drew ?_) | (with_reducible refine Blk.new' ?_ ?_ <;> first | (with_reducible rfl) | (simp; done)) | (with_reducible refine Blk.alloc ?_ _) | (with_reducible refine RowIn.alloc ?_ _) | (with_reducible refine Below.alloc ?_ ?_ _) | (with_reducible apply Blk.set') | (with_reducible refine Blk.far' ?_ ?_ _) | (with_reducible refine RowIn.far' ?_ ?_ _) | (with_reducible refine Below.far' ?_ ?_ _) | rfl | omega | go_size)
      · repeat' (first | (with_reducible assumption) | (with_reducible exact Below.refl _ _) | (with_reducible refine Blk.drewN ?_ _) | (with_reducible refine RowIn.drewN ?_ _) | (with_reducible refine below_drewN ?_ _) | (with_reducible refine Blk.drew ?_) | (with_reducible refine RowIn.drew ?_) | (with_reducible refine Below.drew ?_) | (with_reducible refine Blk.new' ?_ ?_ <;> first | (with_reducible rfl) | (simp; done)) | (with_reducible refine Blk.alloc ?_ _) | (with_reducible refine RowIn.alloc ?_ _) | (with_reducible refine Below.alloc ?_ ?_ _) | (with_reducible apply Blk.set') | (with_reducible refine Blk.far' ?_ ?_ _) | (with_reducible refine RowIn.far' ?_ ?_ _) | (with_reducible refine Below.far' ?_ ?_ _) | rfl | omega | go_size)

end Go.Proofs.YtppilidcjlnmoaaDoor
