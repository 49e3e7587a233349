/-
  The walk of UnaryNames.
-/
import Derived.Test.YtlkgdkefimlmdaaDoorLawU
import Derived.Test.YtlkgdkefimlmdaaDoorUnaB
namespace Go.Proofs.YtlkgdkefimlmdaaDoor
open Go.RowKit Cad Cad.Bit Cad.Code
set_option linter.unusedVariables false
set_option linter.unusedSimpArgs false

theorem row_made (w : World) (k : IntKind) (n : Nat) (e : TypeId) : Row k (w.alloc (.cells (zeroRow k n) e)) (some ⟨w.heap.size, 0, none⟩) n (zeros n) := by
  have h := row_new k w (zeros n) e
  rw [zeros_len] at h
  exact h
theorem zeros_u8 (n : Nat) : Within 0 255 (zeros n) := fun x hx => by
  have := List.eq_of_mem_replicate hx
  omega
theorem unpack_zeros (n : Nat) : unpack (zeros n) = List.replicate (8 * n) false := by
  induction n with
  | zero => rfl
  | succ n ih =>
    have e : zeros (n + 1) = 0 :: zeros n := List.replicate_succ
    have e2 : unpack (0 :: zeros n) = lowBits 0 8 ++ unpack (zeros n) := by simp [unpack]
    have e3 : lowBits 0 8 = List.replicate 8 false := by decide
    rw [e, e2, ih, e3, List.replicate_append_replicate]; congr 1; omega


theorem uread_neg (A : Option Addr) (m c : Nat) (bs : List Bool) (p : Int) (w : World) (ha : Row .u8 w A m (pack bs)) (hc : m ≤ c ∧ c ≤ 9223372036854775807) (hl : bs.length ≤ 330000) (hp : -9223372036854775808 ≤ p ∧ p < 0) (ht : Tab w) :
    Calls Tryd.prog 14 #[.agg #[.slice A m c, .int .i64 (bs.length : Nat)], .int .i64 p] w fun e w' => e = .returned (.tuple #[.int .i64 0, .int .i64 0, .int .i64 2]) ∧ Below w.heap.size w w' := by
  have h := uread_ret A m c bs p w ha hc hl (by omega) ht
  have e : urR bs p = (0, 0, 2) := by unfold urR; rw [if_pos hp.2]
  rw [e] at h
  exact h

set_option maxRecDepth 100000 in
set_option maxHeartbeats 1000000 in
theorem lawUnaryNames (w : World) (ht : Tab w) :
    Calls Tryd.prog 4 #[] w fun e w' => e = .returned (.bool true) ∧ Below w.heap.size w w' := by
  have hti : RowIn .u8 w 0 w.heap.size (some ⟨0, 0, none⟩) 64 dbTab := ht.rowIn
  have hmk : ∀ W, (Instr.makeSlice 22 (.int .i64 41250) (.int .i64 41250)).run Tryd.prog W = .ok (.slice (some ⟨W.heap.size, 0, none⟩) 41250 41250) (W.alloc (.cells (zeroRow .u8 41250) 5)) := fun W => run_mk u8E 41250 (by omega) .i64 .i64 W
  go_enter Tryd.func4, Tryd.ntmps4
  go_wp2_with fail
  go_loopg [1] 51 (fun k v wr => ∃ n : Int, n + (k : Int) = 50 ∧ -1 ≤ n ∧ v = .int .i64 n ∧ Below w.heap.size w wr)
  case atStart => exact ⟨-1, by omega, by omega, rfl, Below.refl _ _⟩
  case round =>
    obtain ⟨n, hn, hn1, rfl, bb⟩ := hrel
    have s0 := bb.size
    have rt : RowIn .u8 wr 0 w.heap.size (some ⟨0, 0, none⟩) 64 dbTab := hti.below bb (Nat.le_refl _)
    by_cases hlt : n ≤ 49
    · by_cases hb1 : n < 0
      · have hb : n < 0 ∨ 48 < n := Or.inl hb1
        go_wp2_with fail
        refine (ulen_bad n _ hb).mono ?_
        rintro e _ ⟨rfl, rfl⟩
        have HU : Hid (uwR [] n = ([], 2)) := by unfold uwR; rw [if_pos hb]; rfl
        clear hb
        go_wp2_with fail
        have hw := uwrite_ret none 0 0 [] n wr Row.nil ⟨Nat.le_refl _, Nat.zero_le _⟩ (by simp) (by omega)
        rw [HU.out] at hw
        have HW := Lib.hid hw
        clear hw
        refine (HW.out).mono ?_
        rintro e w10 ⟨Ax, mx, cx, xx, rfl, hcx, rx, HXx, b10⟩
        replace rx := rx.mono (lo' := wr.heap.size + 0) (by go_size) (Nat.le_refl _)
        have s10 := b10.size
        try simp only [World.size_alloc, World.size_setCell, World.size_drew, size_drewN] at s10
        obtain ⟨rt_10, rx_10, bb_10⟩ : RowIn .u8 w10 (0) (w.heap.size) (some ⟨0, 0, none⟩) 64 dbTab ∧ RowIn .u8 w10 (wr.heap.size + 0) (w10.heap.size) Ax mx (pack xx) ∧ Below w.heap.size w w10 := by
          refine ⟨?_, ?_, ?_⟩
          all_goals repeat' (first | (with_reducible assumption) | (with_reducible exact Below.refl _ _) | (with_reducible refine Blk.after ?_ b10) | (with_reducible refine RowIn.belowS ?_ b10) | (with_reducible refine Below.after ?_ b10 ?_) | (with_reducible refine Blk.drewN ?_ _) | (with_reducible refine RowIn.drewN ?_ _) | (with_reducible refine below_drewN ?_ _) | (with_reducible refine Blk.drew ?_) | (with_reducible refine RowIn.drew ?_) | (with_reducible refine Below.drew ?_) | (with_reducible refine Blk.new' ?_ ?_ <;> first | (with_reducible rfl) | (simp; done)) | (with_reducible refine Blk.alloc ?_ _) | (with_reducible refine RowIn.alloc ?_ _) | (with_reducible refine Below.alloc ?_ ?_ _) | (with_reducible apply Blk.set') | (with_reducible apply Blk.far') | (with_reducible refine RowIn.far' ?_ ?_ _) | (with_reducible refine Below.far' ?_ ?_ _) | rfl | omega | go_size)
        clear b10
        clear rx
        go_wp2
        go_roundg (gk - 1)
        case measure => omega
        case rel =>
          refine ⟨n + 1, by omega, by omega, rfl, ?_⟩
          repeat' (first | (with_reducible assumption) | (with_reducible exact Below.refl _ _) | (with_reducible refine Blk.drewN ?_ _) | (with_reducible refine RowIn.drewN ?_ _) | (with_reducible refine below_drewN ?_ _) | (with_reducible refine Blk.drew ?_) | (with_reducible refine RowIn.drew ?_) | (with_reducible refine Below.drew ?_) | (with_reducible refine Blk.new' ?_ ?_ <;> first | (with_reducible rfl) | (simp; done)) | (with_reducible refine Blk.alloc ?_ _) | (with_reducible refine RowIn.alloc ?_ _) | (with_reducible refine Below.alloc ?_ ?_ _) | (with_reducible apply Blk.set') | (with_reducible apply Blk.far') | (with_reducible refine RowIn.far' ?_ ?_ _) | (with_reducible refine Below.far' ?_ ?_ _) | rfl | omega | go_size)
      by_cases hb2 : 48 < n
      · have hb : n < 0 ∨ 48 < n := Or.inr hb2
        go_wp2_with fail
        refine (ulen_bad n _ hb).mono ?_
        rintro e _ ⟨rfl, rfl⟩
        have HU : Hid (uwR [] n = ([], 2)) := by unfold uwR; rw [if_pos hb]; rfl
        clear hb
        go_wp2_with fail
        have hw := uwrite_ret none 0 0 [] n wr Row.nil ⟨Nat.le_refl _, Nat.zero_le _⟩ (by simp) (by omega)
        rw [HU.out] at hw
        have HW := Lib.hid hw
        clear hw
        refine (HW.out).mono ?_
        rintro e w10 ⟨Ax, mx, cx, xx, rfl, hcx, rx, HXx, b10⟩
        replace rx := rx.mono (lo' := wr.heap.size + 0) (by go_size) (Nat.le_refl _)
        have s10 := b10.size
        try simp only [World.size_alloc, World.size_setCell, World.size_drew, size_drewN] at s10
        obtain ⟨rt_10, rx_10, bb_10⟩ : RowIn .u8 w10 (0) (w.heap.size) (some ⟨0, 0, none⟩) 64 dbTab ∧ RowIn .u8 w10 (wr.heap.size + 0) (w10.heap.size) Ax mx (pack xx) ∧ Below w.heap.size w w10 := by
          refine ⟨?_, ?_, ?_⟩
          all_goals repeat' (first | (with_reducible assumption) | (with_reducible exact Below.refl _ _) | (with_reducible refine Blk.after ?_ b10) | (with_reducible refine RowIn.belowS ?_ b10) | (with_reducible refine Below.after ?_ b10 ?_) | (with_reducible refine Blk.drewN ?_ _) | (with_reducible refine RowIn.drewN ?_ _) | (with_reducible refine below_drewN ?_ _) | (with_reducible refine Blk.drew ?_) | (with_reducible refine RowIn.drew ?_) | (with_reducible refine Below.drew ?_) | (with_reducible refine Blk.new' ?_ ?_ <;> first | (with_reducible rfl) | (simp; done)) | (with_reducible refine Blk.alloc ?_ _) | (with_reducible refine RowIn.alloc ?_ _) | (with_reducible refine Below.alloc ?_ ?_ _) | (with_reducible apply Blk.set') | (with_reducible apply Blk.far') | (with_reducible refine RowIn.far' ?_ ?_ _) | (with_reducible refine Below.far' ?_ ?_ _) | rfl | omega | go_size)
        clear b10
        clear rx
        go_wp2
        go_roundg (gk - 1)
        case measure => omega
        case rel =>
          refine ⟨n + 1, by omega, by omega, rfl, ?_⟩
          repeat' (first | (with_reducible assumption) | (with_reducible exact Below.refl _ _) | (with_reducible refine Blk.drewN ?_ _) | (with_reducible refine RowIn.drewN ?_ _) | (with_reducible refine below_drewN ?_ _) | (with_reducible refine Blk.drew ?_) | (with_reducible refine RowIn.drew ?_) | (with_reducible refine Below.drew ?_) | (with_reducible refine Blk.new' ?_ ?_ <;> first | (with_reducible rfl) | (simp; done)) | (with_reducible refine Blk.alloc ?_ _) | (with_reducible refine RowIn.alloc ?_ _) | (with_reducible refine Below.alloc ?_ ?_ _) | (with_reducible apply Blk.set') | (with_reducible apply Blk.far') | (with_reducible refine RowIn.far' ?_ ?_ _) | (with_reducible refine Below.far' ?_ ?_ _) | rfl | omega | go_size)
      obtain ⟨n, rfl⟩ := Int.eq_ofNat_of_zero_le (by omega : 0 ≤ n)
      have hn48 : n ≤ 48 := by omega
      have hrl : runLen n ≤ 48 := by unfold runLen; omega
      go_wp2_with fail
      refine (ulen_ok (n : Nat) _ (by omega) (by omega)).mono ?_
      rintro e _ ⟨l, rfl, HLL, rfl⟩
      rw [Int.toNat_natCast] at HLL
      go_wp2_with fail
      refine (uwrite_ok none 0 0 [] (n : Nat) _ Row.nil ⟨Nat.le_refl _, Nat.zero_le _⟩ (by omega) (by rw [Int.toNat_natCast]; simp; omega)).mono ?_
      rintro e w10 ⟨Ax, mx, cx, xx, rfl, hcx, rx, HXx, b10⟩
      have Lx : xx.length ≤ runLen n ∧ runLen n ≤ xx.length := by rw [HXx.out]; rw [Int.toNat_natCast, List.nil_append, run_len hn48]; omega
      obtain ⟨Lx1, Lx2⟩ := Lx
      replace rx := rx.mono (lo' := wr.heap.size + 0) (by go_size) (Nat.le_refl _)
      have s10 := b10.size
      try simp only [World.size_alloc, World.size_setCell, World.size_drew, size_drewN] at s10
      obtain ⟨rt_10, rx_10, bb_10⟩ : RowIn .u8 w10 (0) (w.heap.size) (some ⟨0, 0, none⟩) 64 dbTab ∧ RowIn .u8 w10 (wr.heap.size + 0) (w10.heap.size) Ax mx (pack xx) ∧ Below w.heap.size w w10 := by
        refine ⟨?_, ?_, ?_⟩
        all_goals repeat' (first | (with_reducible assumption) | (with_reducible exact Below.refl _ _) | (with_reducible refine Blk.after ?_ b10) | (with_reducible refine RowIn.belowS ?_ b10) | (with_reducible refine Below.after ?_ b10 ?_) | (with_reducible refine Blk.drewN ?_ _) | (with_reducible refine RowIn.drewN ?_ _) | (with_reducible refine below_drewN ?_ _) | (with_reducible refine Blk.drew ?_) | (with_reducible refine RowIn.drew ?_) | (with_reducible refine Below.drew ?_) | (with_reducible refine Blk.new' ?_ ?_ <;> first | (with_reducible rfl) | (simp; done)) | (with_reducible refine Blk.alloc ?_ _) | (with_reducible refine RowIn.alloc ?_ _) | (with_reducible refine Below.alloc ?_ ?_ _) | (with_reducible apply Blk.set') | (with_reducible apply Blk.far') | (with_reducible refine RowIn.far' ?_ ?_ _) | (with_reducible refine Below.far' ?_ ?_ _) | rfl | omega | go_size)
      clear b10
      clear rx
      have HRD : Hid (readU (xx.drop ((0 : Int).toNat)) = .ok n (runLen n)) := by
        refine Lib.hid ?_
        rw [HXx.out, Int.toNat_natCast, List.nil_append, show ((0 : Int).toNat) = 0 from rfl, List.drop_zero]
        have := readU_run hn48 []
        rwa [List.append_nil] at this
      go_wp2_with fail
      refine (uread_ok Ax mx cx xx 0 n (runLen n) _ (by exact (rx_10.row.alloc _)) hcx (by omega) (by omega) HRD.out (by exact (rt_10.row.alloc _))).mono ?_
      rintro e w11 ⟨z, rfl, HZ, b11⟩
      have s11 := b11.size
      try simp only [World.size_alloc, World.size_setCell, World.size_drew, size_drewN] at s11
      obtain ⟨zx_11, rt_11, rx_11, bb_11⟩ : Blk w11 (w10.heap.size) 24 [.slice Ax mx cx, .int .i64 ((xx.length : Nat) : Int)] ∧ RowIn .u8 w11 (0) (w.heap.size) (some ⟨0, 0, none⟩) 64 dbTab ∧ RowIn .u8 w11 (wr.heap.size + 0) (w10.heap.size) Ax mx (pack xx) ∧ Below w.heap.size w w11 := by
        refine ⟨?_, ?_, ?_, ?_⟩
        all_goals repeat' (first | (with_reducible assumption) | (with_reducible exact Below.refl _ _) | (with_reducible refine Blk.after ?_ b11) | (with_reducible refine RowIn.belowS ?_ b11) | (with_reducible refine Below.after ?_ b11 ?_) | (with_reducible refine Blk.drewN ?_ _) | (with_reducible refine RowIn.drewN ?_ _) | (with_reducible refine below_drewN ?_ _) | (with_reducible refine Blk.drew ?_) | (with_reducible refine RowIn.drew ?_) | (with_reducible refine Below.drew ?_) | (with_reducible refine Blk.new' ?_ ?_ <;> first | (with_reducible rfl) | (simp; done)) | (with_reducible refine Blk.alloc ?_ _) | (with_reducible refine RowIn.alloc ?_ _) | (with_reducible refine Below.alloc ?_ ?_ _) | (with_reducible apply Blk.set') | (with_reducible apply Blk.far') | (with_reducible refine RowIn.far' ?_ ?_ _) | (with_reducible refine Below.far' ?_ ?_ _) | rfl | omega | go_size)
      clear rt_10 rx_10 bb_10 b11
      have kx_11 := zx_11.cell; have fx_11 := zx_11.frozen; have lx_11 := zx_11.lt
      have hzl : z ≤ l ∧ l ≤ z ∧ l ≤ xx.length ∧ xx.length ≤ l := by have h := HZ.out; have h2 := HLL.out; rw [show ((0 : Int).toNat) = 0 from rfl] at h; omega
      obtain ⟨hz1, hz2, hz3, hz4⟩ := hzl
      have t1 : ((l : Int) != ((xx.length : Nat) : Int)) = false := by rw [bne_eq_false_iff_eq]; omega
      have t2 : ((z : Int) != (l : Int)) = false := by rw [bne_eq_false_iff_eq]; omega
      by_cases hc : n < 48
      · have hl1 : l = n + 1 := by rw [HLL.out]; unfold runLen; omega
        have t3 : ((l : Int) != (n : Int) + 1) = false := by rw [bne_eq_false_iff_eq]; omega
        have h48 : ¬ (48 : Int) < (n : Int) + 1 := by omega
        clear hl1
        go_wp2
        go_roundg (gk - 1)
        case measure => omega
        case rel =>
          refine ⟨(n : Int) + 1, by omega, by omega, rfl, ?_⟩
          repeat' (first | (with_reducible assumption) | (with_reducible exact Below.refl _ _) | (with_reducible refine Blk.drewN ?_ _) | (with_reducible refine RowIn.drewN ?_ _) | (with_reducible refine below_drewN ?_ _) | (with_reducible refine Blk.drew ?_) | (with_reducible refine RowIn.drew ?_) | (with_reducible refine Below.drew ?_) | (with_reducible refine Blk.new' ?_ ?_ <;> first | (with_reducible rfl) | (simp; done)) | (with_reducible refine Blk.alloc ?_ _) | (with_reducible refine RowIn.alloc ?_ _) | (with_reducible refine Below.alloc ?_ ?_ _) | (with_reducible apply Blk.set') | (with_reducible apply Blk.far') | (with_reducible refine RowIn.far' ?_ ?_ _) | (with_reducible refine Below.far' ?_ ?_ _) | rfl | omega | go_size)
      · have hl1 : l = 48 := by rw [HLL.out]; unfold runLen; omega
        have t3 : ((l : Int) != 48) = false := by rw [bne_eq_false_iff_eq]; omega
        have h48 : (48 : Int) < (n : Int) + 1 := by omega
        clear hl1
        go_wp2
        go_roundg (gk - 1)
        case measure => omega
        case rel =>
          refine ⟨(n : Int) + 1, by omega, by omega, rfl, ?_⟩
          repeat' (first | (with_reducible assumption) | (with_reducible exact Below.refl _ _) | (with_reducible refine Blk.drewN ?_ _) | (with_reducible refine RowIn.drewN ?_ _) | (with_reducible refine below_drewN ?_ _) | (with_reducible refine Blk.drew ?_) | (with_reducible refine RowIn.drew ?_) | (with_reducible refine Below.drew ?_) | (with_reducible refine Blk.new' ?_ ?_ <;> first | (with_reducible rfl) | (simp; done)) | (with_reducible refine Blk.alloc ?_ _) | (with_reducible refine RowIn.alloc ?_ _) | (with_reducible refine Below.alloc ?_ ?_ _) | (with_reducible apply Blk.set') | (with_reducible apply Blk.far') | (with_reducible refine RowIn.far' ?_ ?_ _) | (with_reducible refine Below.far' ?_ ?_ _) | rfl | omega | go_size)
    · have hbad : ¬ Valid [] (1 : Int) := by decide
      have HBAD := Lib.hid hbad
      clear hbad
      go_wp2_with fail
      refine (uwrite_bad none 0 0 1 [] (-1) _ Row.nil (fun x hx => by cases hx) ⟨Nat.le_refl _, Nat.zero_le _⟩ HBAD.out).mono ?_
      rintro e w21 ⟨Ap, mp, cp, xp, rfl, hcp, rp, HXp, b21⟩
      replace rp := rp.mono (lo' := wr.heap.size + 1) (by go_size) (Nat.le_refl _)
      have s21 := b21.size
      try simp only [World.size_alloc, World.size_setCell, World.size_drew, size_drewN] at s21
      obtain ⟨zbad_21, rt_21, rp_21, bb_21⟩ : Blk w21 (wr.heap.size) 24 [.slice none 0 0, .int .i64 1] ∧ RowIn .u8 w21 (0) (w.heap.size) (some ⟨0, 0, none⟩) 64 dbTab ∧ RowIn .u8 w21 (wr.heap.size + 1) (w21.heap.size) Ap mp (pack xp) ∧ Below w.heap.size w w21 := by
        refine ⟨?_, ?_, ?_, ?_⟩
        all_goals repeat' (first | (with_reducible assumption) | (with_reducible exact Below.refl _ _) | (with_reducible refine Blk.after ?_ b21) | (with_reducible refine RowIn.belowS ?_ b21) | (with_reducible refine Below.after ?_ b21 ?_) | (with_reducible refine Blk.drewN ?_ _) | (with_reducible refine RowIn.drewN ?_ _) | (with_reducible refine below_drewN ?_ _) | (with_reducible refine Blk.drew ?_) | (with_reducible refine RowIn.drew ?_) | (with_reducible refine Below.drew ?_) | (with_reducible refine Blk.new' ?_ ?_ <;> first | (with_reducible rfl) | (simp; done)) | (with_reducible refine Blk.alloc ?_ _) | (with_reducible refine RowIn.alloc ?_ _) | (with_reducible refine Below.alloc ?_ ?_ _) | (with_reducible apply Blk.set') | (with_reducible apply Blk.far') | (with_reducible refine RowIn.far' ?_ ?_ _) | (with_reducible refine Below.far' ?_ ?_ _) | rfl | omega | go_size)
      clear b21
      have kbad_21 := zbad_21.cell; have fbad_21 := zbad_21.frozen; have lbad_21 := zbad_21.lt
      clear rp
      go_wp2_with fail
      refine (uread_bad none 0 0 1 [] (-1) _ Row.nil (fun x hx => by cases hx) ⟨Nat.le_refl _, Nat.zero_le _⟩ HBAD.out).mono ?_
      rintro e w22 ⟨rfl, b22⟩
      have s22 := b22.size
      try simp only [World.size_alloc, World.size_setCell, World.size_drew, size_drewN] at s22
      obtain ⟨zbad_22, rt_22, bb_22⟩ : Blk w22 (wr.heap.size) 24 [.slice none 0 0, .int .i64 1] ∧ RowIn .u8 w22 (0) (w.heap.size) (some ⟨0, 0, none⟩) 64 dbTab ∧ Below w.heap.size w w22 := by
        refine ⟨?_, ?_, ?_⟩
        all_goals repeat' (first | (with_reducible assumption) | (with_reducible exact Below.refl _ _) | (with_reducible refine Blk.after ?_ b22) | (with_reducible refine RowIn.belowS ?_ b22) | (with_reducible refine Below.after ?_ b22 ?_) | (with_reducible refine Blk.drewN ?_ _) | (with_reducible refine RowIn.drewN ?_ _) | (with_reducible refine below_drewN ?_ _) | (with_reducible refine Blk.drew ?_) | (with_reducible refine RowIn.drew ?_) | (with_reducible refine Below.drew ?_) | (with_reducible refine Blk.new' ?_ ?_ <;> first | (with_reducible rfl) | (simp; done)) | (with_reducible refine Blk.alloc ?_ _) | (with_reducible refine RowIn.alloc ?_ _) | (with_reducible refine Below.alloc ?_ ?_ _) | (with_reducible apply Blk.set') | (with_reducible apply Blk.far') | (with_reducible refine RowIn.far' ?_ ?_ _) | (with_reducible refine Below.far' ?_ ?_ _) | rfl | omega | go_size)
      clear zbad_21 rt_21 rp_21 bb_21 kbad_21 fbad_21 lbad_21 b22
      have kbad_22 := zbad_22.cell; have fbad_22 := zbad_22.frozen; have lbad_22 := zbad_22.lt
      go_wp2_with fail
      have HC := Lib.hid (uread_neg none 0 0 [] (-1) w22 Row.nil ⟨Nat.le_refl _, Nat.zero_le _⟩ (by simp) (by omega) (by exact rt_22.row))
      refine (HC.out).mono ?_
      rintro e w23 ⟨rfl, b23⟩
      have s23 := b23.size
      try simp only [World.size_alloc, World.size_setCell, World.size_drew, size_drewN] at s23
      obtain ⟨rt_23, bb_23⟩ : RowIn .u8 w23 (0) (w.heap.size) (some ⟨0, 0, none⟩) 64 dbTab ∧ Below w.heap.size w w23 := by
        refine ⟨?_, ?_⟩
        all_goals repeat' (first | (with_reducible assumption) | (with_reducible exact Below.refl _ _) | (with_reducible refine Blk.after ?_ b23) | (with_reducible refine RowIn.belowS ?_ b23) | (with_reducible refine Below.after ?_ b23 ?_) | (with_reducible refine Blk.drewN ?_ _) | (with_reducible refine RowIn.drewN ?_ _) | (with_reducible refine below_drewN ?_ _) | (with_reducible refine Blk.drew ?_) | (with_reducible refine RowIn.drew ?_) | (with_reducible refine Below.drew ?_) | (with_reducible refine Blk.new' ?_ ?_ <;> first | (with_reducible rfl) | (simp; done)) | (with_reducible refine Blk.alloc ?_ _) | (with_reducible refine RowIn.alloc ?_ _) | (with_reducible refine Below.alloc ?_ ?_ _) | (with_reducible apply Blk.set') | (with_reducible apply Blk.far') | (with_reducible refine RowIn.far' ?_ ?_ _) | (with_reducible refine Below.far' ?_ ?_ _) | rfl | omega | go_size)
      clear zbad_22 rt_22 bb_22 kbad_22 fbad_22 lbad_22 b23
      go_wp2_with fail
      refine (uread_short none 0 0 [] 0 24 _ Row.nil ⟨Nat.le_refl _, Nat.zero_le _⟩ (by simp) (by omega) rfl rt_23.row).mono ?_
      rintro e w24 ⟨rfl, b24⟩
      have s24 := b24.size
      try simp only [World.size_alloc, World.size_setCell, World.size_drew, size_drewN] at s24
      obtain ⟨rt_24, bb_24⟩ : RowIn .u8 w24 (0) (w.heap.size) (some ⟨0, 0, none⟩) 64 dbTab ∧ Below w.heap.size w w24 := by
        refine ⟨?_, ?_⟩
        all_goals repeat' (first | (with_reducible assumption) | (with_reducible exact Below.refl _ _) | (with_reducible refine Blk.after ?_ b24) | (with_reducible refine RowIn.belowS ?_ b24) | (with_reducible refine Below.after ?_ b24 ?_) | (with_reducible refine Blk.drewN ?_ _) | (with_reducible refine RowIn.drewN ?_ _) | (with_reducible refine below_drewN ?_ _) | (with_reducible refine Blk.drew ?_) | (with_reducible refine RowIn.drew ?_) | (with_reducible refine Below.drew ?_) | (with_reducible refine Blk.new' ?_ ?_ <;> first | (with_reducible rfl) | (simp; done)) | (with_reducible refine Blk.alloc ?_ _) | (with_reducible refine RowIn.alloc ?_ _) | (with_reducible refine Below.alloc ?_ ?_ _) | (with_reducible apply Blk.set') | (with_reducible apply Blk.far') | (with_reducible refine RowIn.far' ?_ ?_ _) | (with_reducible refine Below.far' ?_ ?_ _) | rfl | omega | go_size)
      clear rt_23 bb_23 b24
      go_wp2_with fail
      refine (bput_ok none 0 0 [] 140737488355327 47 _ Row.nil ⟨Nat.le_refl _, Nat.zero_le _⟩ (by omega) (by omega) (by decide) (by decide)).mono ?_
      rintro e w25 ⟨Ao, mo, co, xo, rfl, hco, ro, HXo, b25⟩
      have Lo : xo.length ≤ 47 ∧ 47 ≤ xo.length := by rw [HXo.out]; decide
      obtain ⟨Lo1, Lo2⟩ := Lo
      replace ro := ro.mono (lo' := w24.heap.size + 0) (by go_size) (Nat.le_refl _)
      have s25 := b25.size
      try simp only [World.size_alloc, World.size_setCell, World.size_drew, size_drewN] at s25
      obtain ⟨rt_25, ro_25, bb_25⟩ : RowIn .u8 w25 (0) (w.heap.size) (some ⟨0, 0, none⟩) 64 dbTab ∧ RowIn .u8 w25 (w24.heap.size + 0) (w25.heap.size) Ao mo (pack xo) ∧ Below w.heap.size w w25 := by
        refine ⟨?_, ?_, ?_⟩
        all_goals repeat' (first | (with_reducible assumption) | (with_reducible exact Below.refl _ _) | (with_reducible refine Blk.after ?_ b25) | (with_reducible refine RowIn.belowS ?_ b25) | (with_reducible refine Below.after ?_ b25 ?_) | (with_reducible refine Blk.drewN ?_ _) | (with_reducible refine RowIn.drewN ?_ _) | (with_reducible refine below_drewN ?_ _) | (with_reducible refine Blk.drew ?_) | (with_reducible refine RowIn.drew ?_) | (with_reducible refine Below.drew ?_) | (with_reducible refine Blk.new' ?_ ?_ <;> first | (with_reducible rfl) | (simp; done)) | (with_reducible refine Blk.alloc ?_ _) | (with_reducible refine RowIn.alloc ?_ _) | (with_reducible refine Below.alloc ?_ ?_ _) | (with_reducible apply Blk.set') | (with_reducible apply Blk.far') | (with_reducible refine RowIn.far' ?_ ?_ _) | (with_reducible refine Below.far' ?_ ?_ _) | rfl | omega | go_size)
      clear rt_24 bb_24 b25
      clear ro
      have HRO : Hid (readU (xo.drop ((0 : Int).toNat)) = .err 24) := by rw [HXo.out]; exact Lib.hid (by decide)
      have HRF : Hid (readU (xo.drop ((9223372036854775807 : Int).toNat)) = .err 24) := by
        rw [List.drop_of_length_le (by omega)]; exact Lib.hid rfl
      go_wp2_with fail
      refine (uread_short Ao mo co xo 0 24 _ (by exact (ro_25.row.alloc _)) hco (by omega) (by omega) HRO.out (by exact (rt_25.row.alloc _))).mono ?_
      rintro e w26 ⟨rfl, b26⟩
      have s26 := b26.size
      try simp only [World.size_alloc, World.size_setCell, World.size_drew, size_drewN] at s26
      obtain ⟨zo_26, rt_26, ro_26, bb_26⟩ : Blk w26 (w25.heap.size) 24 [.slice Ao mo co, .int .i64 ((xo.length : Nat) : Int)] ∧ RowIn .u8 w26 (0) (w.heap.size) (some ⟨0, 0, none⟩) 64 dbTab ∧ RowIn .u8 w26 (w24.heap.size + 0) (w25.heap.size) Ao mo (pack xo) ∧ Below w.heap.size w w26 := by
        refine ⟨?_, ?_, ?_, ?_⟩
        all_goals repeat' (first | (with_reducible assumption) | (with_reducible exact Below.refl _ _) | (with_reducible refine Blk.after ?_ b26) | (with_reducible refine RowIn.belowS ?_ b26) | (with_reducible refine Below.after ?_ b26 ?_) | (with_reducible refine Blk.drewN ?_ _) | (with_reducible refine RowIn.drewN ?_ _) | (with_reducible refine below_drewN ?_ _) | (with_reducible refine Blk.drew ?_) | (with_reducible refine RowIn.drew ?_) | (with_reducible refine Below.drew ?_) | (with_reducible refine Blk.new' ?_ ?_ <;> first | (with_reducible rfl) | (simp; done)) | (with_reducible refine Blk.alloc ?_ _) | (with_reducible refine RowIn.alloc ?_ _) | (with_reducible refine Below.alloc ?_ ?_ _) | (with_reducible apply Blk.set') | (with_reducible apply Blk.far') | (with_reducible refine RowIn.far' ?_ ?_ _) | (with_reducible refine Below.far' ?_ ?_ _) | rfl | omega | go_size)
      clear rt_25 ro_25 bb_25 b26
      have ko_26 := zo_26.cell; have fo_26 := zo_26.frozen; have lo_26 := zo_26.lt
      go_wp2_with fail
      refine (uread_short Ao mo co xo 9223372036854775807 24 _ ro_26.row hco (by omega) (by omega) HRF.out rt_26.row).mono ?_
      rintro e w27 ⟨rfl, b27⟩
      have s27 := b27.size
      try simp only [World.size_alloc, World.size_setCell, World.size_drew, size_drewN] at s27
      obtain ⟨zo_27, rt_27, ro_27, bb_27⟩ : Blk w27 (w25.heap.size) 24 [.slice Ao mo co, .int .i64 ((xo.length : Nat) : Int)] ∧ RowIn .u8 w27 (0) (w.heap.size) (some ⟨0, 0, none⟩) 64 dbTab ∧ RowIn .u8 w27 (w24.heap.size + 0) (w25.heap.size) Ao mo (pack xo) ∧ Below w.heap.size w w27 := by
        refine ⟨?_, ?_, ?_, ?_⟩
        all_goals repeat' (first | (with_reducible assumption) | (with_reducible exact Below.refl _ _) | (with_reducible refine Blk.after ?_ b27) | (with_reducible refine RowIn.belowS ?_ b27) | (with_reducible refine Below.after ?_ b27 ?_) | (with_reducible refine Blk.drewN ?_ _) | (with_reducible refine RowIn.drewN ?_ _) | (with_reducible refine below_drewN ?_ _) | (with_reducible refine Blk.drew ?_) | (with_reducible refine RowIn.drew ?_) | (with_reducible refine Below.drew ?_) | (with_reducible refine Blk.new' ?_ ?_ <;> first | (with_reducible rfl) | (simp; done)) | (with_reducible refine Blk.alloc ?_ _) | (with_reducible refine RowIn.alloc ?_ _) | (with_reducible refine Below.alloc ?_ ?_ _) | (with_reducible apply Blk.set') | (with_reducible apply Blk.far') | (with_reducible refine RowIn.far' ?_ ?_ _) | (with_reducible refine Below.far' ?_ ?_ _) | rfl | omega | go_size)
      clear zo_26 rt_26 ro_26 bb_26 ko_26 fo_26 lo_26 b27
      have ko_27 := zo_27.cell; have fo_27 := zo_27.frozen; have lo_27 := zo_27.lt
      go_wp2_with fail
      refine (bof_ok _ 41250 41250 (zeros 41250) _ (by exact row_made _ _ _ _) (zeros_u8 _) (by omega) (by rw [zeros_len]; omega)).mono ?_
      rintro e w28 ⟨Au, mu, cu, xu, rfl, hcu, ru, HXu, b28⟩
      have Lu : xu.length ≤ 330000 ∧ 330000 ≤ xu.length := by rw [HXu.out]; rw [unpack_len, zeros_len]; omega
      obtain ⟨Lu1, Lu2⟩ := Lu
      replace ru := ru.mono (lo' := w27.heap.size + 1) (by go_size) (Nat.le_refl _)
      have s28 := b28.size
      try simp only [World.size_alloc, World.size_setCell, World.size_drew, size_drewN] at s28
      obtain ⟨rt_28, ru_28, bb_28⟩ : RowIn .u8 w28 (0) (w.heap.size) (some ⟨0, 0, none⟩) 64 dbTab ∧ RowIn .u8 w28 (w27.heap.size + 1) (w28.heap.size) Au mu (pack xu) ∧ Below w.heap.size w w28 := by
        refine ⟨?_, ?_, ?_⟩
        all_goals repeat' (first | (with_reducible assumption) | (with_reducible exact Below.refl _ _) | (with_reducible refine Blk.after ?_ b28) | (with_reducible refine RowIn.belowS ?_ b28) | (with_reducible refine Below.after ?_ b28 ?_) | (with_reducible refine Blk.drewN ?_ _) | (with_reducible refine RowIn.drewN ?_ _) | (with_reducible refine below_drewN ?_ _) | (with_reducible refine Blk.drew ?_) | (with_reducible refine RowIn.drew ?_) | (with_reducible refine Below.drew ?_) | (with_reducible refine Blk.new' ?_ ?_ <;> first | (with_reducible rfl) | (simp; done)) | (with_reducible refine Blk.alloc ?_ _) | (with_reducible refine RowIn.alloc ?_ _) | (with_reducible refine Below.alloc ?_ ?_ _) | (with_reducible apply Blk.set') | (with_reducible apply Blk.far') | (with_reducible refine RowIn.far' ?_ ?_ _) | (with_reducible refine Below.far' ?_ ?_ _) | rfl | omega | go_size)
      clear zo_27 rt_27 ro_27 bb_27 ko_27 fo_27 lo_27 b28
      clear ru
      have HUW : Hid (uwR xu 0 = ([], 18)) := by unfold uwR; rw [if_neg (by omega), if_pos (by rw [show runLen ((0 : Int).toNat) = 1 from rfl]; omega)]; rfl
      have HRU : Hid (readU (xu.drop ((329999 : Int).toNat)) = .ok 0 1) := by
        refine Lib.hid ?_
        rw [HXu.out, unpack_zeros, show ((329999 : Int).toNat) = 329999 from rfl, List.drop_replicate, show 8 * 41250 - 329999 = 1 by omega]
        rfl
      go_wp2_with fail
      have hw := uwrite_ret Au mu cu xu 0 _ (ru_28.row.alloc (.cells #[.slice Au mu cu, .int .i64 ((xu.length : Nat) : Int)] 24)) hcu (by omega) (by omega)
      rw [HUW.out] at hw
      have HW := Lib.hid hw
      clear hw
      refine (HW.out).mono ?_
      rintro e w29 ⟨Aq, mq, cq, xq, rfl, hcq, rq, HXq, b29⟩
      replace rq := rq.mono (lo' := w28.heap.size + 1) (by go_size) (Nat.le_refl _)
      have s29 := b29.size
      try simp only [World.size_alloc, World.size_setCell, World.size_drew, size_drewN] at s29
      obtain ⟨zu_29, rt_29, ru_29, rq_29, bb_29⟩ : Blk w29 (w28.heap.size) 24 [.slice Au mu cu, .int .i64 ((xu.length : Nat) : Int)] ∧ RowIn .u8 w29 (0) (w.heap.size) (some ⟨0, 0, none⟩) 64 dbTab ∧ RowIn .u8 w29 (w27.heap.size + 1) (w28.heap.size) Au mu (pack xu) ∧ RowIn .u8 w29 (w28.heap.size + 1) (w29.heap.size) Aq mq (pack xq) ∧ Below w.heap.size w w29 := by
        refine ⟨?_, ?_, ?_, ?_, ?_⟩
        all_goals repeat' (first | (with_reducible assumption) | (with_reducible exact Below.refl _ _) | (with_reducible refine Blk.after ?_ b29) | (with_reducible refine RowIn.belowS ?_ b29) | (with_reducible refine Below.after ?_ b29 ?_) | (with_reducible refine Blk.drewN ?_ _) | (with_reducible refine RowIn.drewN ?_ _) | (with_reducible refine below_drewN ?_ _) | (with_reducible refine Blk.drew ?_) | (with_reducible refine RowIn.drew ?_) | (with_reducible refine Below.drew ?_) | (with_reducible refine Blk.new' ?_ ?_ <;> first | (with_reducible rfl) | (simp; done)) | (with_reducible refine Blk.alloc ?_ _) | (with_reducible refine RowIn.alloc ?_ _) | (with_reducible refine Below.alloc ?_ ?_ _) | (with_reducible apply Blk.set') | (with_reducible apply Blk.far') | (with_reducible refine RowIn.far' ?_ ?_ _) | (with_reducible refine Below.far' ?_ ?_ _) | rfl | omega | go_size)
      clear rt_28 ru_28 bb_28 b29
      have ku_29 := zu_29.cell; have fu_29 := zu_29.frozen; have lu_29 := zu_29.lt
      clear rq
      go_wp2_with fail
      refine (uread_ok Au mu cu xu 329999 0 1 _ (by exact (ru_29.row.alloc _)) hcu (by omega) (by omega) HRU.out (by exact (rt_29.row.alloc _))).mono ?_
      rintro e w30 ⟨z, rfl, HZ, b30⟩
      have s30 := b30.size
      try simp only [World.size_alloc, World.size_setCell, World.size_drew, size_drewN] at s30
      obtain ⟨zu_30, rt_30, ru_30, bb_30⟩ : Blk w30 (w28.heap.size) 24 [.slice Au mu cu, .int .i64 ((xu.length : Nat) : Int)] ∧ RowIn .u8 w30 (0) (w.heap.size) (some ⟨0, 0, none⟩) 64 dbTab ∧ RowIn .u8 w30 (w27.heap.size + 1) (w28.heap.size) Au mu (pack xu) ∧ Below w.heap.size w w30 := by
        refine ⟨?_, ?_, ?_, ?_⟩
        all_goals repeat' (first | (with_reducible assumption) | (with_reducible exact Below.refl _ _) | (with_reducible refine Blk.after ?_ b30) | (with_reducible refine RowIn.belowS ?_ b30) | (with_reducible refine Below.after ?_ b30 ?_) | (with_reducible refine Blk.drewN ?_ _) | (with_reducible refine RowIn.drewN ?_ _) | (with_reducible refine below_drewN ?_ _) | (with_reducible refine Blk.drew ?_) | (with_reducible refine RowIn.drew ?_) | (with_reducible refine Below.drew ?_) | (with_reducible refine Blk.new' ?_ ?_ <;> first | (with_reducible rfl) | (simp; done)) | (with_reducible refine Blk.alloc ?_ _) | (with_reducible refine RowIn.alloc ?_ _) | (with_reducible refine Below.alloc ?_ ?_ _) | (with_reducible apply Blk.set') | (with_reducible apply Blk.far') | (with_reducible refine RowIn.far' ?_ ?_ _) | (with_reducible refine Below.far' ?_ ?_ _) | rfl | omega | go_size)
      clear zu_29 rt_29 ru_29 rq_29 bb_29 ku_29 fu_29 lu_29 b30
      have ku_30 := zu_30.cell; have fu_30 := zu_30.frozen; have lu_30 := zu_30.lt
      have hz : z = 330000 := by rw [HZ.out]; rfl
      subst hz
      clear HZ
      go_wp2_with fail
      refine (alive06 _).mono ?_
      rintro e w31 ⟨rfl, b31⟩
      have s31 := b31.size
      try simp only [World.size_alloc, World.size_setCell, World.size_drew, size_drewN] at s31
      have bb_31 : Below w.heap.size w w31 := by
        repeat' (first | (with_reducible assumption) | (with_reducible exact Below.refl _ _) | (with_reducible refine Blk.after ?_ b31) | (with_reducible refine RowIn.belowS ?_ b31) | (with_reducible refine Below.after ?_ b31 ?_) | (with_reducible refine Blk.drewN ?_ _) | (with_reducible refine RowIn.drewN ?_ _) | (with_reducible refine below_drewN ?_ _) | (with_reducible refine Blk.drew ?_) | (with_reducible refine RowIn.drew ?_) | (with_reducible refine Below.drew ?_) | (with_reducible refine Blk.new' ?_ ?_ <;> first | (with_reducible rfl) | (simp; done)) | (with_reducible refine Blk.alloc ?_ _) | (with_reducible refine RowIn.alloc ?_ _) | (with_reducible refine Below.alloc ?_ ?_ _) | (with_reducible apply Blk.set') | (with_reducible apply Blk.far') | (with_reducible refine RowIn.far' ?_ ?_ _) | (with_reducible refine Below.far' ?_ ?_ _) | rfl | omega | go_size)
      clear zu_30 rt_30 ru_30 bb_30 ku_30 fu_30 lu_30 b31
      go_wp2
      go_ret
      refine ⟨rfl, ?_⟩
      repeat' (first | (with_reducible assumption) | (with_reducible exact Below.refl _ _) | (with_reducible refine Blk.drewN ?_ _) | (with_reducible refine RowIn.drewN ?_ _) | (with_reducible refine below_drewN ?_ _) | (with_reducible refine Blk.drew ?_) | (with_reducible refine RowIn.drew ?_) | (with_reducible refine Below.drew ?_) | (with_reducible refine Blk.new' ?_ ?_ <;> first | (with_reducible rfl) | (simp; done)) | (with_reducible refine Blk.alloc ?_ _) | (with_reducible refine RowIn.alloc ?_ _) | (with_reducible refine Below.alloc ?_ ?_ _) | (with_reducible apply Blk.set') | (with_reducible apply Blk.far') | (with_reducible refine RowIn.far' ?_ ?_ _) | (with_reducible refine Below.far' ?_ ?_ _) | rfl | omega | go_size)


end Go.Proofs.YtlkgdkefimlmdaaDoor
