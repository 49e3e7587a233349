/-
  Contracts of the reference of chapter 2: copies, parts, joining.
-/
import Derived.Test.YtlblkjefngofaaaDoorRefC
import Derived.Test.YtlblkjefngofaaaDoorBitG
import Derived.Test.YtlblkjefngofaaaDoorBitX
namespace Go.Proofs.YtlblkjefngofaaaDoor
open Go.RowKit Cad Cad.Bit
set_option linter.unusedVariables false
set_option linter.unusedSimpArgs false

set_option maxHeartbeats 400000 in
theorem rtwin_any (A : Option Addr) (m c : Nat) (N : Int) (xs : List Int) (w : World) (ha : Row .u8 w A m xs) (hn : m ≤ 900000) :
    Calls Tryd.prog 16 #[.agg #[.slice A m c, .int .i64 N]] w fun e w' => ∃ B d, e = .returned (.agg #[.slice B m d, .int .i64 N]) ∧ Own w' w.heap.size 5 .u8 B m d xs ∧ Below w.heap.size w w' := by
  go_enter Tryd.func16, Tryd.ntmps16
  go_wp2_with fail
  obtain ⟨w0, hw0⟩ : ∃ w0, w0 = (w.alloc (.cells #[.slice A m c, .int .i64 N] 24)).alloc (.cells #[.slice none 0 0, .int .i64 0] 24) := ⟨_, rfl⟩
  have z0 : Blk w0 w.heap.size 24 [.slice A m c, .int .i64 N] := by rw [hw0]; repeat' (first | (with_reducible assumption) | (with_reducible exact Below.refl _ _) | (with_reducible refine Blk.drewN ?_ _) | (with_reducible refine RowIn.drewN ?_ _) | (with_reducible refine below_drewN ?_ _) | (with_reducible refine Blk.drew ?_) | (with_reducible refine RowIn.drew ?_) | (with_reducible refine Below.drew ?_) | (with_reducible refine Blk.new' ?_ ?_ <;> first | (with_reducible rfl) | (simp; done)) | (with_reducible refine Blk.alloc ?_ _) | (with_reducible refine RowIn.alloc ?_ _) | (with_reducible refine Below.alloc ?_ ?_ _) | (with_reducible apply Blk.set') | (with_reducible refine Blk.far' ?_ ?_ _) | (with_reducible refine RowIn.far' ?_ ?_ _) | (with_reducible refine Below.far' ?_ ?_ _) | rfl | omega | go_size)
  have z1 : Blk w0 (w.heap.size + 1) 24 [.slice none 0 0, .int .i64 0] := by rw [hw0]; repeat' (first | (with_reducible assumption) | (with_reducible exact Below.refl _ _) | (with_reducible refine Blk.drewN ?_ _) | (with_reducible refine RowIn.drewN ?_ _) | (with_reducible refine below_drewN ?_ _) | (with_reducible refine Blk.drew ?_) | (with_reducible refine RowIn.drew ?_) | (with_reducible refine Below.drew ?_) | (with_reducible refine Blk.new' ?_ ?_ <;> first | (with_reducible rfl) | (simp; done)) | (with_reducible refine Blk.alloc ?_ _) | (with_reducible refine RowIn.alloc ?_ _) | (with_reducible refine Below.alloc ?_ ?_ _) | (with_reducible apply Blk.set') | (with_reducible refine Blk.far' ?_ ?_ _) | (with_reducible refine RowIn.far' ?_ ?_ _) | (with_reducible refine Below.far' ?_ ?_ _) | rfl | omega | go_size)
  have z2 : Below w.heap.size w w0 := by rw [hw0]; repeat' (first | (with_reducible assumption) | (with_reducible exact Below.refl _ _) | (with_reducible refine Blk.drewN ?_ _) | (with_reducible refine RowIn.drewN ?_ _) | (with_reducible refine below_drewN ?_ _) | (with_reducible refine Blk.drew ?_) | (with_reducible refine RowIn.drew ?_) | (with_reducible refine Below.drew ?_) | (with_reducible refine Blk.new' ?_ ?_ <;> first | (with_reducible rfl) | (simp; done)) | (with_reducible refine Blk.alloc ?_ _) | (with_reducible refine RowIn.alloc ?_ _) | (with_reducible refine Below.alloc ?_ ?_ _) | (with_reducible apply Blk.set') | (with_reducible refine Blk.far' ?_ ?_ _) | (with_reducible refine RowIn.far' ?_ ?_ _) | (with_reducible refine Below.far' ?_ ?_ _) | rfl | omega | go_size)
  have z3 : Row .u8 w0 A m xs := by rw [hw0]; exact (ha.alloc _).alloc _
  have z4 := z2.size
  rw [← hw0]
  clear hw0
  have k0 := z0.cell; have k1 := z1.cell; have f1 := z1.frozen; have l0 := z0.lt; have l1 := z1.lt
  go_region_law (refine step_app _ u8E rfl _ _ (by rfl) w0.heap.size _ _ _ [] (by rfl) (by exact own_empty _ _ _ (Nat.le_refl _)) _ _ _ xs (by rfl) (by exact z3.alloc _) (by omega) (by simp) ?_; intro B d w1 own1 hg1 hat1
                 have b1 : Below w0.heap.size w0 w1 := by
                   refine Below.grown ?_ hg1 ?_ (fun g e => by simp [blockOf] at e; omega)
                   all_goals repeat' (first | (with_reducible assumption) | (with_reducible exact Below.refl _ _) | (with_reducible refine Blk.drewN ?_ _) | (with_reducible refine RowIn.drewN ?_ _) | (with_reducible refine below_drewN ?_ _) | (with_reducible refine Blk.drew ?_) | (with_reducible refine RowIn.drew ?_) | (with_reducible refine Below.drew ?_) | (with_reducible refine Blk.new' ?_ ?_ <;> first | (with_reducible rfl) | (simp; done)) | (with_reducible refine Blk.alloc ?_ _) | (with_reducible refine RowIn.alloc ?_ _) | (with_reducible refine Below.alloc ?_ ?_ _) | (with_reducible apply Blk.set') | (with_reducible refine Blk.far' ?_ ?_ _) | (with_reducible refine RowIn.far' ?_ ?_ _) | (with_reducible refine Below.far' ?_ ?_ _) | rfl | omega | go_size)
                 have y0 := z0.after b1
                 have y1 := z1.after b1
                 have q0 := y0.cell
                 have q1 := y1.cell
                 have g1 := y1.frozen
                 have m1 := y1.lt)
  all_goals
    go_wp2
    refine bodyPost_ret (v := .agg #[.slice B m d, .int .i64 N]) (by simp [results, Tryd.results16, go_sem, q1]) rfl ⟨B, d, rfl, ?_, ?_⟩
    · have hgne : blockOf B ≠ some (w.heap.size + 1) := own1.ne_blk y1 (by decide)
      have own2 := ((own1.far' (i := 0) hgne (.slice B m d)).far' (i := 1) hgne (.int .i64 N)).mono (base' := w.heap.size) (by omega)
      simpa using own2
    · have := Below.after z2 b1 z2.size
      repeat' (first | (with_reducible assumption) | (with_reducible exact Below.refl _ _) | (with_reducible refine Blk.drewN ?_ _) | (with_reducible refine RowIn.drewN ?_ _) | (with_reducible refine below_drewN ?_ _) | (with_reducible refine Blk.drew ?_) | (with_reducible refine RowIn.drew ?_) | (with_reducible refine Below.drew ?_) | (with_reducible refine Blk.new' ?_ ?_ <;> first | (with_reducible rfl) | (simp; done)) | (with_reducible refine Blk.alloc ?_ _) | (with_reducible refine RowIn.alloc ?_ _) | (with_reducible refine Below.alloc ?_ ?_ _) | (with_reducible apply Blk.set') | (with_reducible refine Blk.far' ?_ ?_ _) | (with_reducible refine RowIn.far' ?_ ?_ _) | (with_reducible refine Below.far' ?_ ?_ _) | rfl | omega | go_size)


theorem rgreat_yes (A : Option Addr) (n c : Nat) (N : Int) (w : World) (h : 190 < n ∧ n < 41230 ∨ 41350 < n) :
    Calls Tryd.prog 13 #[.agg #[.slice A n c, .int .i64 N]] w fun e w' => e = .returned (.bool true) ∧ Below w.heap.size w w' := by
  rcases h with ⟨h1, h2⟩ | h
  · have t1 : decide ((190 : Int) < (n : Int)) = true := decide_eq_true (by omega)
    have t2 : decide ((n : Int) < 41230) = true := decide_eq_true (by omega)
    go_enter Tryd.func13, Tryd.ntmps13
    go_wp2
    go_ret
    exact ⟨rfl, by go_grown⟩
  · have t1 : decide ((190 : Int) < (n : Int)) = true := decide_eq_true (by omega)
    have t2 : decide ((n : Int) < 41230) = false := decide_eq_false (by omega)
    have t3 : decide ((41350 : Int) < (n : Int)) = true := decide_eq_true (by omega)
    go_enter Tryd.func13, Tryd.ntmps13
    go_wp2
    go_ret
    exact ⟨rfl, by go_grown⟩
theorem rgreat_no (A : Option Addr) (n c : Nat) (N : Int) (w : World) (h : ¬ (190 < n ∧ n < 41230 ∨ 41350 < n)) :
    Calls Tryd.prog 13 #[.agg #[.slice A n c, .int .i64 N]] w fun e w' => e = .returned (.bool false) ∧ Below w.heap.size w w' := by
  have t3 : decide ((41350 : Int) < (n : Int)) = false := decide_eq_false (by omega)
  by_cases h1 : 190 < n
  · have t1 : decide ((190 : Int) < (n : Int)) = true := decide_eq_true (by omega)
    have t2 : decide ((n : Int) < 41230) = false := decide_eq_false (by omega)
    clear h
    go_enter Tryd.func13, Tryd.ntmps13
    go_wp2
    go_ret
    exact ⟨rfl, by go_grown⟩
  · have t1 : decide ((190 : Int) < (n : Int)) = false := decide_eq_false (by omega)
    clear h
    go_enter Tryd.func13, Tryd.ntmps13
    go_wp2
    go_ret
    exact ⟨rfl, by go_grown⟩

/-- The bit with an index. -/
def bitAt (bs : List Bool) (i : Nat) : Bool := bs.getD i false
theorem bitAt_eq {bs : List Bool} {i : Nat} (h : i < bs.length) : bitAt bs i = bs[i] := by unfold bitAt; rw [List.getD_eq_getElem?_getD, List.getElem?_eq_getElem h]; rfl
theorem rat_bit (A : Option Addr) (n c : Nat) (N : Int) (bs : List Bool) (i : Int) (w : World) (ha : Row .u8 w A n (pack bs)) (h0 : 0 ≤ i) (hi : i < (bs.length : Int)) (hl : bs.length ≤ 330000) (hn : n ≤ 9223372036854775807) :
    Calls Tryd.prog 48 #[.agg #[.slice A n c, .int .i64 N], .int .i64 i] w fun e w' => ∃ v : Nat, e = .returned (.int .i64 (v : Int)) ∧ Hid ((v : Int) = if bitAt bs i.toNat then 1 else 0) ∧ v ≤ 1 ∧ Below w.heap.size w w' := by
  obtain ⟨i, rfl⟩ := Int.eq_ofNat_of_zero_le h0
  have hi' : i < bs.length := by omega
  have hb : i / 8 < bytesFor bs.length := by unfold bytesFor; omega
  have hnl : n = bytesFor bs.length := by have := ha.len; rw [pack_len] at this; exact this.symm
  refine (rat_any A n c N (pack bs) i (byteAt bs (i / 8)) w ha (by omega) (nth_pack hb) (byteAt_lt _ _) (by omega) hn).mono ?_
  rintro e w' ⟨rfl, hbel⟩
  have e1 := bit_at hi'
  refine ⟨_, rfl, Lib.hid ?_, by omega, hbel⟩
  rw [e1, Int.toNat_natCast, bitAt_eq hi']
  cases bs[i] <;> rfl
theorem take_bit {bs : List Bool} {i j : Nat} (h : i + j < bs.length) : (bs.drop i).take j ++ [bitAt bs (i + j)] = (bs.drop i).take (j + 1) := by
  rw [List.take_succ_eq_append_getElem (by rw [List.length_drop]; omega), bitAt_eq h, List.getElem_drop]


end Go.Proofs.YtlblkjefngofaaaDoor
