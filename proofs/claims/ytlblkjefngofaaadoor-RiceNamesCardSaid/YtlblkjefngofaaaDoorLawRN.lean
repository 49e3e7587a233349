/-
  The walk of RiceNames.
-/
import Derived.Test.YtlblkjefngofaaaDoorLawR
import Derived.Test.YtlblkjefngofaaaDoorRiceB
import Derived.Test.YtlblkjefngofaaaDoorRefX
import Derived.Test.YtlblkjefngofaaaDoorBitG
namespace Go.Proofs.YtlblkjefngofaaaDoor
open Go.RowKit Cad Cad.Bit Cad.Code
set_option linter.unusedVariables false
set_option linter.unusedSimpArgs false

theorem cap_div (k : Nat) : 48 * 2 ^ k / 2 ^ k = 48 := Nat.mul_div_cancel _ (Nat.two_pow_pos k)
theorem cap_len (k : Nat) : riceLen (48 * 2 ^ k) k = 80 := by unfold riceLen; rw [cap_div, if_neg (by omega)]
theorem low_div (k : Nat) : (48 * 2 ^ k - 1) / 2 ^ k = 47 := by
  have hp := Nat.two_pow_pos k
  rw [Nat.div_eq_iff hp]; omega
theorem low_len (k : Nat) : riceLen (48 * 2 ^ k - 1) k = 48 + k := by unfold riceLen; rw [low_div, if_pos (by omega)]
theorem cap_lt {k : Nat} (hk : k ≤ 24) : 48 * 2 ^ k ≤ 805306368 := by
  have h : 2 ^ k ≤ 16777216 := Nat.le_trans (Nat.pow_le_pow_right (by omega) hk) (by decide)
  omega
/-- An escape of a number that needs none. -/
theorem wrong_form {k : Nat} (hk : k ≤ 24) (l : List Bool) (h : l = lowBits (2 ^ 48 - 1) 48 ++ lowBits (48 * 2 ^ k - 1) 32) : readR l k = .err 12 := by
  have hc := cap_lt hk
  have h48 : lowBits (2 ^ 48 - 1) 48 = run 48 := lowBits_run (n := 48) (by omega)
  have hu : readU l = .ok 48 48 := by rw [h, h48]; exact readU_run (by omega) _
  unfold readR
  rw [hu]
  dsimp only
  have hl : l.length = 80 := by rw [h, List.length_append, lowBits_len, lowBits_len]
  have hd : l.drop 48 = lowBits (48 * 2 ^ k - 1) 32 := by rw [h]; exact List.drop_left' (lowBits_len _ _)
  have hr : restLen 48 k = 32 := by unfold restLen; rw [if_pos rfl]
  rw [hr, hl, hd, List.take_of_length_le (by rw [lowBits_len]; omega), bval_lowBits_lt (by omega), low_div]
  rfl

theorem rread_c (A : Option Addr) (m c : Nat) (bs : List Bool) (p k x y er : Int) (w : World) (ha : Row .u8 w A m (pack bs)) (hc : m ≤ c ∧ c ≤ 9223372036854775807) (hl : bs.length ≤ 330000) (hp : -9223372036854775808 ≤ p ∧ p ≤ 9223372036854775807) (hk0 : -9223372036854775808 ≤ k ∧ k ≤ 9223372036854775807) (ht : Tab w) (he : rrR bs p k = (x, y, er)) :
    Calls Tryd.prog 21 #[.agg #[.slice A m c, .int .i64 ((bs.length : Nat) : Int)], .int .i64 p, .int .i64 k] w fun e w' => e = .returned (.tuple #[.int .u32 x, .int .i64 y, .int .i64 er]) ∧ Below w.heap.size w w' := by
  have h := rread_ret A m c bs p k w ha hc hl hp hk0 ht
  rw [he] at h; exact h
theorem rwrite_c (A : Option Addr) (m c : Nat) (bs : List Bool) (v : Nat) (k : Int) (l : List Bool) (er : Int) (w : World) (ha : Row .u8 w A m (pack bs)) (hc : m ≤ c ∧ c ≤ 9223372036854775807) (hl : bs.length ≤ 330000) (hv : v < 4294967296) (hk0 : -9223372036854775808 ≤ k ∧ k ≤ 9223372036854775807) (he : rwR bs v k = (l, er)) :
    Calls Tryd.prog 19 #[.agg #[.slice A m c, .int .i64 ((bs.length : Nat) : Int)], .int .u32 (v : Int), .int .i64 k] w (RetB w l er) := by
  have h := rwrite_ret A m c bs v k w ha hc hl hv hk0
  rw [he] at h; exact h
theorem full_no {bs : List Bool} {v L : Nat} {k : Int} (hk : 0 ≤ k ∧ k ≤ 24) (hL : riceLen v k.toNat = L) (h9 : L = 9) (hl : 329992 ≤ bs.length) : rwR bs v k = ([], 18) := by
  unfold rwR; rw [if_neg (by omega), if_pos (by omega)]
theorem not_valid1 : ¬ Valid [] 1 := by decide
theorem zeros_within (n : Nat) : Within 0 255 (zeros n) := by
  intro x hx
  unfold zeros at hx
  rw [List.mem_replicate] at hx
  omega
theorem row_made {k : IntKind} {w : World} {n : Nat} {e : TypeId} {g : Nat} (hg : g = w.heap.size) : Row k (w.alloc (.cells (zeroRow k n) e)) (some ⟨g, 0, none⟩) n (zeros n) := by
  subst hg
  have h := row_new k w (zeros n) e
  rw [zeros_len] at h
  exact h


set_option maxRecDepth 100000 in
set_option maxHeartbeats 8000000 in
theorem lawRiceNames (w : World) (ht : Tab w)  :
    Calls Tryd.prog 6 #[] w fun e w' => e = .returned (.bool true) ∧ Below w.heap.size w w' := by
  have hti : RowIn .u8 w 0 w.heap.size (some ⟨0, 0, none⟩) 64 dbTab := ht.rowIn
  go_enter Tryd.func6, Tryd.ntmps6
  go_wp2_with fail
  go_loopg [1] 25 (fun r v wr => ∃ j : Nat, j + r = 25 ∧ v = .int .i64 (j : Nat) ∧ Below w.heap.size w wr)
  case atStart => exact ⟨0, by omega, rfl, Below.refl _ _⟩
  case round =>
    obtain ⟨j, hj, rfl, bb⟩ := hrel
    have s0 := bb.size
    have rt : RowIn .u8 wr 0 w.heap.size (some ⟨0, 0, none⟩) 64 dbTab := hti.below bb (Nat.le_refl _)
    by_cases hlt : j < 25
    · have hk24 : j ≤ 24 := by omega
      have hlt' : (j : Int) ≤ 24 := by omega
      obtain ⟨P, hP⟩ : ∃ P, P = 2 ^ j := ⟨_, rfl⟩
      have hP1 : 1 ≤ P := by rw [hP]; exact Nat.two_pow_pos j
      have hP2 : P ≤ 16777216 := by rw [hP]; exact Nat.le_trans (Nat.pow_le_pow_right (by omega) hk24) (by decide)
      have hPi : (2 : Int) ^ j = (P : Int) := by rw [hP, pow_cast]
      obtain ⟨C, hC⟩ : ∃ C, C = 48 * P := ⟨_, rfl⟩
      have hCi : 48 * (P : Int) = (C : Int) := by omega
      obtain ⟨D, hD⟩ : ∃ D, D = 48 * P - 1 := ⟨_, rfl⟩
      have hDi : (C : Int) - 1 = (D : Int) := by omega
      have hC32 : C < 4294967296 := by omega
      have hD32 : D < 4294967296 := by omega
      have HC : Hid (C = 48 * 2 ^ j) := Lib.hid (by rw [hC, hP])
      have HD : Hid (D = 48 * 2 ^ j - 1) := Lib.hid (by rw [hD, hP])
      have hCm : (C : Int) % 4294967296 = (C : Int) := by omega
      clear hC hD hP
      go_wp2_with fail
      refine (rlen_ok D j _ hk24 hD32).mono ?_
      rintro e _ ⟨a, rfl, HA, rfl⟩
      have ha : a ≤ 48 + j ∧ 48 + j ≤ a := by rw [HA.out, HD.out, low_len]; omega
      have ta : ((a : Int) != 48 + (j : Int)) = false := by rw [bne_eq_false_iff_eq]; omega
      clear ha HA
      go_wp2_with fail
      refine (rlen_ok C j _ hk24 hC32).mono ?_
      rintro e _ ⟨b, rfl, HB, rfl⟩
      obtain rfl : b = 80 := by rw [HB.out, HC.out, cap_len]
      clear HB
      go_wp2_with fail
      refine (rwrite_ok none 0 0 [] C j _ Row.nil ⟨Nat.le_refl _, Nat.zero_le _⟩ hC32 hk24 (by rw [HC.out, cap_len]; simp)).mono ?_
      rintro e w1 ⟨Ax, mx, cx, xx, rfl, hcx, rx, HXx, b1⟩
      have Lx : xx.length ≤ 80 ∧ 80 ≤ xx.length := by rw [HXx.out]; rw [List.nil_append, rice_len, HC.out, cap_len]; omega
      obtain ⟨Lx1, Lx2⟩ := Lx
      replace rx := rx.mono (lo' := wr.heap.size + 0) (by go_size) (Nat.le_refl _)
      have s1 := b1.size
      try simp only [World.size_alloc, World.size_setCell, World.size_drew, size_drewN] at s1
      obtain ⟨rt_1, rx_1, bb_1⟩ : RowIn .u8 w1 (0) (w.heap.size) (some ⟨0, 0, none⟩) 64 dbTab ∧ RowIn .u8 w1 (wr.heap.size + 0) (w1.heap.size) Ax mx (pack xx) ∧ Below w.heap.size w w1 := by
        refine ⟨?_, ?_, ?_⟩
        all_goals repeat' (first | (with_reducible assumption) | (with_reducible exact Below.refl _ _) | (with_reducible refine Blk.after ?_ b1) | (with_reducible refine RowIn.belowS ?_ b1) | (with_reducible refine Below.after ?_ b1 ?_) | (with_reducible refine Blk.drewN ?_ _) | (with_reducible refine RowIn.drewN ?_ _) | (with_reducible refine below_drewN ?_ _) | (with_reducible refine Blk.drew ?_) | (with_reducible refine RowIn.drew ?_) | (with_reducible refine Below.drew ?_) | (with_reducible refine Blk.new' ?_ ?_ <;> first | (with_reducible rfl) | (simp; done)) | (with_reducible refine Blk.alloc ?_ _) | (with_reducible refine RowIn.alloc ?_ _) | (with_reducible refine Below.alloc ?_ ?_ _) | (with_reducible apply Blk.set') | (with_reducible apply Blk.far') | (with_reducible refine RowIn.far' ?_ ?_ _) | (with_reducible refine Below.far' ?_ ?_ _) | rfl | omega | go_size)
      clear b1
      clear rx
      have HRD : Hid (readR (xx.drop ((0 : Int).toNat)) j = .ok C 80) := by
        refine Lib.hid ?_
        have h := readR_rice (v := C) (k := j) hC32 []
        rw [List.append_nil] at h
        rw [HXx.out, List.nil_append, show ((0 : Int).toNat) = 0 from rfl, List.drop_zero, h, HC.out, cap_len]
      go_wp2_with fail
      refine (rread_ok Ax mx cx xx 0 j C 80 _ (by exact RowIn.row (lo := wr.heap.size + 0) (hi := w1.heap.size) (by repeat' (first | (with_reducible assumption) | (with_reducible exact Below.refl _ _) | (with_reducible refine Blk.drewN ?_ _) | (with_reducible refine RowIn.drewN ?_ _) | (with_reducible refine below_drewN ?_ _) | (with_reducible refine Blk.drew ?_) | (with_reducible refine RowIn.drew ?_) | (with_reducible refine Below.drew ?_) | (with_reducible refine Blk.new' ?_ ?_ <;> first | (with_reducible rfl) | (simp; done)) | (with_reducible refine Blk.alloc ?_ _) | (with_reducible refine RowIn.alloc ?_ _) | (with_reducible refine Below.alloc ?_ ?_ _) | (with_reducible apply Blk.set') | (with_reducible apply Blk.far') | (with_reducible refine RowIn.far' ?_ ?_ _) | (with_reducible refine Below.far' ?_ ?_ _) | rfl | omega | go_size))) hcx (by omega) (by omega) hk24 HRD.out (by exact RowIn.row (lo := 0) (hi := w.heap.size) (by repeat' (first | (with_reducible assumption) | (with_reducible exact Below.refl _ _) | (with_reducible refine Blk.drewN ?_ _) | (with_reducible refine RowIn.drewN ?_ _) | (with_reducible refine below_drewN ?_ _) | (with_reducible refine Blk.drew ?_) | (with_reducible refine RowIn.drew ?_) | (with_reducible refine Below.drew ?_) | (with_reducible refine Blk.new' ?_ ?_ <;> first | (with_reducible rfl) | (simp; done)) | (with_reducible refine Blk.alloc ?_ _) | (with_reducible refine RowIn.alloc ?_ _) | (with_reducible refine Below.alloc ?_ ?_ _) | (with_reducible apply Blk.set') | (with_reducible apply Blk.far') | (with_reducible refine RowIn.far' ?_ ?_ _) | (with_reducible refine Below.far' ?_ ?_ _) | rfl | omega | go_size)))).mono ?_
      rintro e w2 ⟨z, rfl, HZ, b2⟩
      have s2 := b2.size
      try simp only [World.size_alloc, World.size_setCell, World.size_drew, size_drewN] at s2
      obtain ⟨zx_2, rt_2, rx_2, bb_2⟩ : Blk w2 (w1.heap.size) 24 [.slice Ax mx cx, .int .i64 ((xx.length : Nat) : Int)] ∧ RowIn .u8 w2 (0) (w.heap.size) (some ⟨0, 0, none⟩) 64 dbTab ∧ RowIn .u8 w2 (wr.heap.size + 0) (w1.heap.size) Ax mx (pack xx) ∧ Below w.heap.size w w2 := by
        refine ⟨?_, ?_, ?_, ?_⟩
        all_goals repeat' (first | (with_reducible assumption) | (with_reducible exact Below.refl _ _) | (with_reducible refine Blk.after ?_ b2) | (with_reducible refine RowIn.belowS ?_ b2) | (with_reducible refine Below.after ?_ b2 ?_) | (with_reducible refine Blk.drewN ?_ _) | (with_reducible refine RowIn.drewN ?_ _) | (with_reducible refine below_drewN ?_ _) | (with_reducible refine Blk.drew ?_) | (with_reducible refine RowIn.drew ?_) | (with_reducible refine Below.drew ?_) | (with_reducible refine Blk.new' ?_ ?_ <;> first | (with_reducible rfl) | (simp; done)) | (with_reducible refine Blk.alloc ?_ _) | (with_reducible refine RowIn.alloc ?_ _) | (with_reducible refine Below.alloc ?_ ?_ _) | (with_reducible apply Blk.set') | (with_reducible apply Blk.far') | (with_reducible refine RowIn.far' ?_ ?_ _) | (with_reducible refine Below.far' ?_ ?_ _) | rfl | omega | go_size)
      clear rt_1 rx_1 bb_1 b2
      have kx_2 := zx_2.cell; have fx_2 := zx_2.frozen; have lx_2 := zx_2.lt
      obtain rfl : z = 80 := by rw [HZ.out]; rfl
      clear HZ
      have tv : ((C : Int) != (C : Int)) = false := by simp
      go_wp2_with fail
      refine (bput_ok none 0 0 [] 281474976710655 48 _ Row.nil ⟨Nat.le_refl _, Nat.zero_le _⟩ (by omega) (by omega) (by decide) (by simp)).mono ?_
      rintro e w3 ⟨Ay, my, cy, xy, rfl, hcy, ry, HXy, b3⟩
      have Ly : xy.length ≤ 48 ∧ 48 ≤ xy.length := by rw [HXy.out]; simp
      obtain ⟨Ly1, Ly2⟩ := Ly
      replace ry := ry.mono (lo' := w2.heap.size + 0) (by go_size) (Nat.le_refl _)
      have s3 := b3.size
      try simp only [World.size_alloc, World.size_setCell, World.size_drew, size_drewN] at s3
      obtain ⟨zx_3, rt_3, rx_3, ry_3, bb_3⟩ : Blk w3 (w1.heap.size) 24 [.slice Ax mx cx, .int .i64 ((xx.length : Nat) : Int)] ∧ RowIn .u8 w3 (0) (w.heap.size) (some ⟨0, 0, none⟩) 64 dbTab ∧ RowIn .u8 w3 (wr.heap.size + 0) (w1.heap.size) Ax mx (pack xx) ∧ RowIn .u8 w3 (w2.heap.size + 0) (w3.heap.size) Ay my (pack xy) ∧ Below w.heap.size w w3 := by
        refine ⟨?_, ?_, ?_, ?_, ?_⟩
        all_goals repeat' (first | (with_reducible assumption) | (with_reducible exact Below.refl _ _) | (with_reducible refine Blk.after ?_ b3) | (with_reducible refine RowIn.belowS ?_ b3) | (with_reducible refine Below.after ?_ b3 ?_) | (with_reducible refine Blk.drewN ?_ _) | (with_reducible refine RowIn.drewN ?_ _) | (with_reducible refine below_drewN ?_ _) | (with_reducible refine Blk.drew ?_) | (with_reducible refine RowIn.drew ?_) | (with_reducible refine Below.drew ?_) | (with_reducible refine Blk.new' ?_ ?_ <;> first | (with_reducible rfl) | (simp; done)) | (with_reducible refine Blk.alloc ?_ _) | (with_reducible refine RowIn.alloc ?_ _) | (with_reducible refine Below.alloc ?_ ?_ _) | (with_reducible apply Blk.set') | (with_reducible apply Blk.far') | (with_reducible refine RowIn.far' ?_ ?_ _) | (with_reducible refine Below.far' ?_ ?_ _) | rfl | omega | go_size)
      clear zx_2 rt_2 rx_2 bb_2 kx_2 fx_2 lx_2 b3
      have kx_3 := zx_3.cell; have fx_3 := zx_3.frozen; have lx_3 := zx_3.lt
      clear ry
      go_wp2_with fail
      refine (bput_ok Ay my cy xy (D : Int) 32 _ (by exact RowIn.row (lo := w2.heap.size + 0) (hi := w3.heap.size) (by repeat' (first | (with_reducible assumption) | (with_reducible exact Below.refl _ _) | (with_reducible refine Blk.drewN ?_ _) | (with_reducible refine RowIn.drewN ?_ _) | (with_reducible refine below_drewN ?_ _) | (with_reducible refine Blk.drew ?_) | (with_reducible refine RowIn.drew ?_) | (with_reducible refine Below.drew ?_) | (with_reducible refine Blk.new' ?_ ?_ <;> first | (with_reducible rfl) | (simp; done)) | (with_reducible refine Blk.alloc ?_ _) | (with_reducible refine RowIn.alloc ?_ _) | (with_reducible refine Below.alloc ?_ ?_ _) | (with_reducible apply Blk.set') | (with_reducible apply Blk.far') | (with_reducible refine RowIn.far' ?_ ?_ _) | (with_reducible refine Below.far' ?_ ?_ _) | rfl | omega | go_size))) hcy (by omega) (by omega) (by rw [Int.toNat_natCast]; exact Nat.lt_of_lt_of_le hD32 (by decide)) (by omega)).mono ?_
      rintro e w4 ⟨Au, mu, cu, xu, rfl, hcu, ru, HXu, b4⟩
      have Lu : xu.length ≤ 80 ∧ 80 ≤ xu.length := by rw [HXu.out]; rw [List.length_append, lowBits_len]; show _ ∧ _; omega
      obtain ⟨Lu1, Lu2⟩ := Lu
      replace ru := ru.mono (lo' := w3.heap.size + 1) (by go_size) (Nat.le_refl _)
      have s4 := b4.size
      try simp only [World.size_alloc, World.size_setCell, World.size_drew, size_drewN] at s4
      obtain ⟨zx_4, zy_4, rt_4, rx_4, ry_4, ru_4, bb_4⟩ : Blk w4 (w1.heap.size) 24 [.slice Ax mx cx, .int .i64 ((xx.length : Nat) : Int)] ∧ Blk w4 (w3.heap.size) 24 [.slice Ay my cy, .int .i64 ((xy.length : Nat) : Int)] ∧ RowIn .u8 w4 (0) (w.heap.size) (some ⟨0, 0, none⟩) 64 dbTab ∧ RowIn .u8 w4 (wr.heap.size + 0) (w1.heap.size) Ax mx (pack xx) ∧ RowIn .u8 w4 (w2.heap.size + 0) (w3.heap.size) Ay my (pack xy) ∧ RowIn .u8 w4 (w3.heap.size + 1) (w4.heap.size) Au mu (pack xu) ∧ Below w.heap.size w w4 := by
        refine ⟨?_, ?_, ?_, ?_, ?_, ?_, ?_⟩
        all_goals repeat' (first | (with_reducible assumption) | (with_reducible exact Below.refl _ _) | (with_reducible refine Blk.after ?_ b4) | (with_reducible refine RowIn.belowS ?_ b4) | (with_reducible refine Below.after ?_ b4 ?_) | (with_reducible refine Blk.drewN ?_ _) | (with_reducible refine RowIn.drewN ?_ _) | (with_reducible refine below_drewN ?_ _) | (with_reducible refine Blk.drew ?_) | (with_reducible refine RowIn.drew ?_) | (with_reducible refine Below.drew ?_) | (with_reducible refine Blk.new' ?_ ?_ <;> first | (with_reducible rfl) | (simp; done)) | (with_reducible refine Blk.alloc ?_ _) | (with_reducible refine RowIn.alloc ?_ _) | (with_reducible refine Below.alloc ?_ ?_ _) | (with_reducible apply Blk.set') | (with_reducible apply Blk.far') | (with_reducible refine RowIn.far' ?_ ?_ _) | (with_reducible refine Below.far' ?_ ?_ _) | rfl | omega | go_size)
      clear zx_3 rt_3 rx_3 ry_3 bb_3 kx_3 fx_3 lx_3 b4
      have kx_4 := zx_4.cell; have fx_4 := zx_4.frozen; have lx_4 := zx_4.lt
      have ky_4 := zy_4.cell; have fy_4 := zy_4.frozen; have ly_4 := zy_4.lt
      clear ru
      have HRE : Hid (readR (xu.drop ((0 : Int).toNat)) j = .err 12) := by
        refine Lib.hid (wrong_form hk24 _ ?_)
        rw [HXu.out, HXy.out, show ((0 : Int).toNat) = 0 from rfl, List.drop_zero, Int.toNat_natCast, HD.out]; rfl
      go_wp2_with fail
      refine (rread_err Au mu cu xu 0 j 12 _ (by exact RowIn.row (lo := w3.heap.size + 1) (hi := w4.heap.size) (by repeat' (first | (with_reducible assumption) | (with_reducible exact Below.refl _ _) | (with_reducible refine Blk.drewN ?_ _) | (with_reducible refine RowIn.drewN ?_ _) | (with_reducible refine below_drewN ?_ _) | (with_reducible refine Blk.drew ?_) | (with_reducible refine RowIn.drew ?_) | (with_reducible refine Below.drew ?_) | (with_reducible refine Blk.new' ?_ ?_ <;> first | (with_reducible rfl) | (simp; done)) | (with_reducible refine Blk.alloc ?_ _) | (with_reducible refine RowIn.alloc ?_ _) | (with_reducible refine Below.alloc ?_ ?_ _) | (with_reducible apply Blk.set') | (with_reducible apply Blk.far') | (with_reducible refine RowIn.far' ?_ ?_ _) | (with_reducible refine Below.far' ?_ ?_ _) | rfl | omega | go_size))) hcu (by omega) (by omega) hk24 HRE.out (by exact RowIn.row (lo := 0) (hi := w.heap.size) (by repeat' (first | (with_reducible assumption) | (with_reducible exact Below.refl _ _) | (with_reducible refine Blk.drewN ?_ _) | (with_reducible refine RowIn.drewN ?_ _) | (with_reducible refine below_drewN ?_ _) | (with_reducible refine Blk.drew ?_) | (with_reducible refine RowIn.drew ?_) | (with_reducible refine Below.drew ?_) | (with_reducible refine Blk.new' ?_ ?_ <;> first | (with_reducible rfl) | (simp; done)) | (with_reducible refine Blk.alloc ?_ _) | (with_reducible refine RowIn.alloc ?_ _) | (with_reducible refine Below.alloc ?_ ?_ _) | (with_reducible apply Blk.set') | (with_reducible apply Blk.far') | (with_reducible refine RowIn.far' ?_ ?_ _) | (with_reducible refine Below.far' ?_ ?_ _) | rfl | omega | go_size)))).mono ?_
      rintro e w5 ⟨rfl, b5⟩
      have s5 := b5.size
      try simp only [World.size_alloc, World.size_setCell, World.size_drew, size_drewN] at s5
      obtain ⟨zx_5, zy_5, rt_5, rx_5, ry_5, ru_5, bb_5⟩ : Blk w5 (w1.heap.size) 24 [.slice Ax mx cx, .int .i64 ((xx.length : Nat) : Int)] ∧ Blk w5 (w3.heap.size) 24 [.slice Au mu cu, .int .i64 ((xu.length : Nat) : Int)] ∧ RowIn .u8 w5 (0) (w.heap.size) (some ⟨0, 0, none⟩) 64 dbTab ∧ RowIn .u8 w5 (wr.heap.size + 0) (w1.heap.size) Ax mx (pack xx) ∧ RowIn .u8 w5 (w2.heap.size + 0) (w3.heap.size) Ay my (pack xy) ∧ RowIn .u8 w5 (w3.heap.size + 1) (w4.heap.size) Au mu (pack xu) ∧ Below w.heap.size w w5 := by
        refine ⟨?_, ?_, ?_, ?_, ?_, ?_, ?_⟩
        all_goals repeat' (first | (with_reducible assumption) | (with_reducible exact Below.refl _ _) | (with_reducible refine Blk.after ?_ b5) | (with_reducible refine RowIn.belowS ?_ b5) | (with_reducible refine Below.after ?_ b5 ?_) | (with_reducible refine Blk.drewN ?_ _) | (with_reducible refine RowIn.drewN ?_ _) | (with_reducible refine below_drewN ?_ _) | (with_reducible refine Blk.drew ?_) | (with_reducible refine RowIn.drew ?_) | (with_reducible refine Below.drew ?_) | (with_reducible refine Blk.new' ?_ ?_ <;> first | (with_reducible rfl) | (simp; done)) | (with_reducible refine Blk.alloc ?_ _) | (with_reducible refine RowIn.alloc ?_ _) | (with_reducible refine Below.alloc ?_ ?_ _) | (with_reducible apply Blk.set') | (with_reducible apply Blk.far') | (with_reducible refine RowIn.far' ?_ ?_ _) | (with_reducible refine Below.far' ?_ ?_ _) | rfl | omega | go_size)
      clear zx_4 zy_4 rt_4 rx_4 ry_4 ru_4 bb_4 kx_4 fx_4 lx_4 ky_4 fy_4 ly_4 b5
      have kx_5 := zx_5.cell; have fx_5 := zx_5.frozen; have lx_5 := zx_5.lt
      have ky_5 := zy_5.cell; have fy_5 := zy_5.frozen; have ly_5 := zy_5.lt
      go_wp2
      go_roundg (25 - (j + 1))
      case measure => omega
      case rel => exact ⟨j + 1, by omega, by go_num, by repeat' (first | (with_reducible assumption) | (with_reducible exact Below.refl _ _) | (with_reducible refine Blk.drewN ?_ _) | (with_reducible refine RowIn.drewN ?_ _) | (with_reducible refine below_drewN ?_ _) | (with_reducible refine Blk.drew ?_) | (with_reducible refine RowIn.drew ?_) | (with_reducible refine Below.drew ?_) | (with_reducible refine Blk.new' ?_ ?_ <;> first | (with_reducible rfl) | (simp; done)) | (with_reducible refine Blk.alloc ?_ _) | (with_reducible refine RowIn.alloc ?_ _) | (with_reducible refine Below.alloc ?_ ?_ _) | (with_reducible apply Blk.set') | (with_reducible apply Blk.far') | (with_reducible refine RowIn.far' ?_ ?_ _) | (with_reducible refine Below.far' ?_ ?_ _) | rfl | omega | go_size)⟩
    · obtain rfl : j = 25 := by omega
      have hge : ¬ ((25 : Nat) : Int) ≤ 24 := by omega
      have hmk : ∀ W, (Instr.makeSlice 22 (.int .i64 41249) (.int .i64 41249)).run Tryd.prog W = .ok (.slice (some ⟨W.heap.size, 0, none⟩) 41249 41249) (W.alloc (.cells (zeroRow .u8 41249) 5)) := fun W => run_mk u8E 41249 (by omega) .i64 .i64 W
      go_wp2_with fail
      refine (bput_ok none 0 0 [] 0 1 _ Row.nil ⟨Nat.le_refl _, Nat.zero_le _⟩ (by omega) (by omega) (by decide) (by simp)).mono ?_
      rintro e w41 ⟨Ao, mo, co, xo, rfl, hco, ro, HXo, b41⟩
      have Lo : xo.length ≤ 1 ∧ 1 ≤ xo.length := by rw [HXo.out]; simp
      obtain ⟨Lo1, Lo2⟩ := Lo
      replace ro := ro.mono (lo' := wr.heap.size + 1) (by go_size) (Nat.le_refl _)
      have s41 := b41.size
      try simp only [World.size_alloc, World.size_setCell, World.size_drew, size_drewN] at s41
      obtain ⟨zd_41, rt_41, ro_41, bb_41⟩ : Blk w41 (wr.heap.size) 24 [.slice none 0 0, .int .i64 1] ∧ RowIn .u8 w41 (0) (w.heap.size) (some ⟨0, 0, none⟩) 64 dbTab ∧ RowIn .u8 w41 (wr.heap.size + 1) (w41.heap.size) Ao mo (pack xo) ∧ Below w.heap.size w w41 := by
        refine ⟨?_, ?_, ?_, ?_⟩
        all_goals repeat' (first | (with_reducible assumption) | (with_reducible exact Below.refl _ _) | (with_reducible refine Blk.after ?_ b41) | (with_reducible refine RowIn.belowS ?_ b41) | (with_reducible refine Below.after ?_ b41 ?_) | (with_reducible refine Blk.drewN ?_ _) | (with_reducible refine RowIn.drewN ?_ _) | (with_reducible refine below_drewN ?_ _) | (with_reducible refine Blk.drew ?_) | (with_reducible refine RowIn.drew ?_) | (with_reducible refine Below.drew ?_) | (with_reducible refine Blk.new' ?_ ?_ <;> first | (with_reducible rfl) | (simp; done)) | (with_reducible refine Blk.alloc ?_ _) | (with_reducible refine RowIn.alloc ?_ _) | (with_reducible refine Below.alloc ?_ ?_ _) | (with_reducible apply Blk.set') | (with_reducible apply Blk.far') | (with_reducible refine RowIn.far' ?_ ?_ _) | (with_reducible refine Below.far' ?_ ?_ _) | rfl | omega | go_size)
      clear b41
      have kd_41 := zd_41.cell; have fd_41 := zd_41.frozen; have ld_41 := zd_41.lt
      clear ro
      have HO : Hid (xo = [false]) := by rw [HXo.out]; exact Lib.hid rfl
      go_wp2_with fail
      refine (rwrite_bad none 0 0 1 [] 0 (-1) _ Row.nil (by intro x hx; cases hx) ⟨Nat.le_refl _, Nat.zero_le _⟩ not_valid1).mono ?_
      rintro e w42 ⟨Aa, ma, ca, xa, rfl, hca, ra, HXa, b42⟩
      replace ra := ra.mono (lo' := w41.heap.size + 1) (by go_size) (Nat.le_refl _)
      have s42 := b42.size
      try simp only [World.size_alloc, World.size_setCell, World.size_drew, size_drewN] at s42
      obtain ⟨zd_42, zo_42, rt_42, ro_42, ra_42, bb_42⟩ : Blk w42 (wr.heap.size) 24 [.slice none 0 0, .int .i64 1] ∧ Blk w42 (w41.heap.size) 24 [.slice Ao mo co, .int .i64 ((xo.length : Nat) : Int)] ∧ RowIn .u8 w42 (0) (w.heap.size) (some ⟨0, 0, none⟩) 64 dbTab ∧ RowIn .u8 w42 (wr.heap.size + 1) (w41.heap.size) Ao mo (pack xo) ∧ RowIn .u8 w42 (w41.heap.size + 1) (w42.heap.size) Aa ma (pack xa) ∧ Below w.heap.size w w42 := by
        refine ⟨?_, ?_, ?_, ?_, ?_, ?_⟩
        all_goals repeat' (first | (with_reducible assumption) | (with_reducible exact Below.refl _ _) | (with_reducible refine Blk.after ?_ b42) | (with_reducible refine RowIn.belowS ?_ b42) | (with_reducible refine Below.after ?_ b42 ?_) | (with_reducible refine Blk.drewN ?_ _) | (with_reducible refine RowIn.drewN ?_ _) | (with_reducible refine below_drewN ?_ _) | (with_reducible refine Blk.drew ?_) | (with_reducible refine RowIn.drew ?_) | (with_reducible refine Below.drew ?_) | (with_reducible refine Blk.new' ?_ ?_ <;> first | (with_reducible rfl) | (simp; done)) | (with_reducible refine Blk.alloc ?_ _) | (with_reducible refine RowIn.alloc ?_ _) | (with_reducible refine Below.alloc ?_ ?_ _) | (with_reducible apply Blk.set') | (with_reducible apply Blk.far') | (with_reducible refine RowIn.far' ?_ ?_ _) | (with_reducible refine Below.far' ?_ ?_ _) | rfl | omega | go_size)
      clear zd_41 rt_41 ro_41 bb_41 kd_41 fd_41 ld_41 b42
      have kd_42 := zd_42.cell; have fd_42 := zd_42.frozen; have ld_42 := zd_42.lt
      have ko_42 := zo_42.cell; have fo_42 := zo_42.frozen; have lo_42 := zo_42.lt
      clear ra
      go_wp2_with fail
      refine (rread_bad none 0 0 1 [] (-1) (-1) _ Row.nil (by intro x hx; cases hx) ⟨Nat.le_refl _, Nat.zero_le _⟩ not_valid1).mono ?_
      rintro e w43 ⟨rfl, b43⟩
      have s43 := b43.size
      try simp only [World.size_alloc, World.size_setCell, World.size_drew, size_drewN] at s43
      obtain ⟨zd_43, zo_43, rt_43, ro_43, bb_43⟩ : Blk w43 (wr.heap.size) 24 [.slice none 0 0, .int .i64 1] ∧ Blk w43 (w41.heap.size) 24 [.slice Ao mo co, .int .i64 ((xo.length : Nat) : Int)] ∧ RowIn .u8 w43 (0) (w.heap.size) (some ⟨0, 0, none⟩) 64 dbTab ∧ RowIn .u8 w43 (wr.heap.size + 1) (w41.heap.size) Ao mo (pack xo) ∧ Below w.heap.size w w43 := by
        refine ⟨?_, ?_, ?_, ?_, ?_⟩
        all_goals repeat' (first | (with_reducible assumption) | (with_reducible exact Below.refl _ _) | (with_reducible refine Blk.after ?_ b43) | (with_reducible refine RowIn.belowS ?_ b43) | (with_reducible refine Below.after ?_ b43 ?_) | (with_reducible refine Blk.drewN ?_ _) | (with_reducible refine RowIn.drewN ?_ _) | (with_reducible refine below_drewN ?_ _) | (with_reducible refine Blk.drew ?_) | (with_reducible refine RowIn.drew ?_) | (with_reducible refine Below.drew ?_) | (with_reducible refine Blk.new' ?_ ?_ <;> first | (with_reducible rfl) | (simp; done)) | (with_reducible refine Blk.alloc ?_ _) | (with_reducible refine RowIn.alloc ?_ _) | (with_reducible refine Below.alloc ?_ ?_ _) | (with_reducible apply Blk.set') | (with_reducible apply Blk.far') | (with_reducible refine RowIn.far' ?_ ?_ _) | (with_reducible refine Below.far' ?_ ?_ _) | rfl | omega | go_size)
      clear zd_42 zo_42 rt_42 ro_42 ra_42 bb_42 kd_42 fd_42 ld_42 ko_42 fo_42 lo_42 b43
      have kd_43 := zd_43.cell; have fd_43 := zd_43.frozen; have ld_43 := zd_43.lt
      have ko_43 := zo_43.cell; have fo_43 := zo_43.frozen; have lo_43 := zo_43.lt
      go_wp2_with fail
      refine (rlen_bad 0 (-1) _ (by omega)).mono ?_
      rintro e _ ⟨rfl, rfl⟩
      go_wp2_with fail
      refine (rlen_bad 0 25 _ (by omega)).mono ?_
      rintro e _ ⟨rfl, rfl⟩
      go_wp2_with fail
      refine (rwrite_c Ao mo co xo 0 25 [] 2 _ (by exact RowIn.row (lo := wr.heap.size + 1) (hi := w41.heap.size) (by repeat' (first | (with_reducible assumption) | (with_reducible exact Below.refl _ _) | (with_reducible refine Blk.drewN ?_ _) | (with_reducible refine RowIn.drewN ?_ _) | (with_reducible refine below_drewN ?_ _) | (with_reducible refine Blk.drew ?_) | (with_reducible refine RowIn.drew ?_) | (with_reducible refine Below.drew ?_) | (with_reducible refine Blk.new' ?_ ?_ <;> first | (with_reducible rfl) | (simp; done)) | (with_reducible refine Blk.alloc ?_ _) | (with_reducible refine RowIn.alloc ?_ _) | (with_reducible refine Below.alloc ?_ ?_ _) | (with_reducible apply Blk.set') | (with_reducible apply Blk.far') | (with_reducible refine RowIn.far' ?_ ?_ _) | (with_reducible refine Below.far' ?_ ?_ _) | rfl | omega | go_size))) hco (by omega) (by decide) (by omega) (by unfold rwR; rw [if_pos (by omega)])).mono ?_
      rintro e w44 ⟨Ac, mc, cc, xc, rfl, hcc, rc, HXc, b44⟩
      replace rc := rc.mono (lo' := w43.heap.size + 0) (by go_size) (Nat.le_refl _)
      have s44 := b44.size
      try simp only [World.size_alloc, World.size_setCell, World.size_drew, size_drewN] at s44
      obtain ⟨zd_44, zo_44, rt_44, ro_44, rc_44, bb_44⟩ : Blk w44 (wr.heap.size) 24 [.slice none 0 0, .int .i64 1] ∧ Blk w44 (w41.heap.size) 24 [.slice Ao mo co, .int .i64 ((xo.length : Nat) : Int)] ∧ RowIn .u8 w44 (0) (w.heap.size) (some ⟨0, 0, none⟩) 64 dbTab ∧ RowIn .u8 w44 (wr.heap.size + 1) (w41.heap.size) Ao mo (pack xo) ∧ RowIn .u8 w44 (w43.heap.size + 0) (w44.heap.size) Ac mc (pack xc) ∧ Below w.heap.size w w44 := by
        refine ⟨?_, ?_, ?_, ?_, ?_, ?_⟩
        all_goals repeat' (first | (with_reducible assumption) | (with_reducible exact Below.refl _ _) | (with_reducible refine Blk.after ?_ b44) | (with_reducible refine RowIn.belowS ?_ b44) | (with_reducible refine Below.after ?_ b44 ?_) | (with_reducible refine Blk.drewN ?_ _) | (with_reducible refine RowIn.drewN ?_ _) | (with_reducible refine below_drewN ?_ _) | (with_reducible refine Blk.drew ?_) | (with_reducible refine RowIn.drew ?_) | (with_reducible refine Below.drew ?_) | (with_reducible refine Blk.new' ?_ ?_ <;> first | (with_reducible rfl) | (simp; done)) | (with_reducible refine Blk.alloc ?_ _) | (with_reducible refine RowIn.alloc ?_ _) | (with_reducible refine Below.alloc ?_ ?_ _) | (with_reducible apply Blk.set') | (with_reducible apply Blk.far') | (with_reducible refine RowIn.far' ?_ ?_ _) | (with_reducible refine Below.far' ?_ ?_ _) | rfl | omega | go_size)
      clear zd_43 zo_43 rt_43 ro_43 bb_43 kd_43 fd_43 ld_43 ko_43 fo_43 lo_43 b44
      have kd_44 := zd_44.cell; have fd_44 := zd_44.frozen; have ld_44 := zd_44.lt
      have ko_44 := zo_44.cell; have fo_44 := zo_44.frozen; have lo_44 := zo_44.lt
      clear rc
      go_wp2_with fail
      refine (rread_c Ao mo co xo (0) (-1) (0) (0) (2) _ (by exact RowIn.row (lo := wr.heap.size + 1) (hi := w41.heap.size) (by repeat' (first | (with_reducible assumption) | (with_reducible exact Below.refl _ _) | (with_reducible refine Blk.drewN ?_ _) | (with_reducible refine RowIn.drewN ?_ _) | (with_reducible refine below_drewN ?_ _) | (with_reducible refine Blk.drew ?_) | (with_reducible refine RowIn.drew ?_) | (with_reducible refine Below.drew ?_) | (with_reducible refine Blk.new' ?_ ?_ <;> first | (with_reducible rfl) | (simp; done)) | (with_reducible refine Blk.alloc ?_ _) | (with_reducible refine RowIn.alloc ?_ _) | (with_reducible refine Below.alloc ?_ ?_ _) | (with_reducible apply Blk.set') | (with_reducible apply Blk.far') | (with_reducible refine RowIn.far' ?_ ?_ _) | (with_reducible refine Below.far' ?_ ?_ _) | rfl | omega | go_size))) hco (by omega) (by omega) (by omega) (by exact RowIn.row (lo := 0) (hi := w.heap.size) (by repeat' (first | (with_reducible assumption) | (with_reducible exact Below.refl _ _) | (with_reducible refine Blk.drewN ?_ _) | (with_reducible refine RowIn.drewN ?_ _) | (with_reducible refine below_drewN ?_ _) | (with_reducible refine Blk.drew ?_) | (with_reducible refine RowIn.drew ?_) | (with_reducible refine Below.drew ?_) | (with_reducible refine Blk.new' ?_ ?_ <;> first | (with_reducible rfl) | (simp; done)) | (with_reducible refine Blk.alloc ?_ _) | (with_reducible refine RowIn.alloc ?_ _) | (with_reducible refine Below.alloc ?_ ?_ _) | (with_reducible apply Blk.set') | (with_reducible apply Blk.far') | (with_reducible refine RowIn.far' ?_ ?_ _) | (with_reducible refine Below.far' ?_ ?_ _) | rfl | omega | go_size))) (by rw [HO.out]; decide +kernel)).mono ?_
      rintro e w45 ⟨rfl, b45⟩
      have s45 := b45.size
      try simp only [World.size_alloc, World.size_setCell, World.size_drew, size_drewN] at s45
      obtain ⟨zd_45, zo_45, rt_45, ro_45, bb_45⟩ : Blk w45 (wr.heap.size) 24 [.slice none 0 0, .int .i64 1] ∧ Blk w45 (w41.heap.size) 24 [.slice Ao mo co, .int .i64 ((xo.length : Nat) : Int)] ∧ RowIn .u8 w45 (0) (w.heap.size) (some ⟨0, 0, none⟩) 64 dbTab ∧ RowIn .u8 w45 (wr.heap.size + 1) (w41.heap.size) Ao mo (pack xo) ∧ Below w.heap.size w w45 := by
        refine ⟨?_, ?_, ?_, ?_, ?_⟩
        all_goals repeat' (first | (with_reducible assumption) | (with_reducible exact Below.refl _ _) | (with_reducible refine Blk.after ?_ b45) | (with_reducible refine RowIn.belowS ?_ b45) | (with_reducible refine Below.after ?_ b45 ?_) | (with_reducible refine Blk.drewN ?_ _) | (with_reducible refine RowIn.drewN ?_ _) | (with_reducible refine below_drewN ?_ _) | (with_reducible refine Blk.drew ?_) | (with_reducible refine RowIn.drew ?_) | (with_reducible refine Below.drew ?_) | (with_reducible refine Blk.new' ?_ ?_ <;> first | (with_reducible rfl) | (simp; done)) | (with_reducible refine Blk.alloc ?_ _) | (with_reducible refine RowIn.alloc ?_ _) | (with_reducible refine Below.alloc ?_ ?_ _) | (with_reducible apply Blk.set') | (with_reducible apply Blk.far') | (with_reducible refine RowIn.far' ?_ ?_ _) | (with_reducible refine Below.far' ?_ ?_ _) | rfl | omega | go_size)
      clear zd_44 zo_44 rt_44 ro_44 rc_44 bb_44 kd_44 fd_44 ld_44 ko_44 fo_44 lo_44 b45
      have kd_45 := zd_45.cell; have fd_45 := zd_45.frozen; have ld_45 := zd_45.lt
      have ko_45 := zo_45.cell; have fo_45 := zo_45.frozen; have lo_45 := zo_45.lt
      go_wp2_with fail
      refine (rread_c Ao mo co xo (-1) (0) (0) (0) (2) _ (by exact RowIn.row (lo := wr.heap.size + 1) (hi := w41.heap.size) (by repeat' (first | (with_reducible assumption) | (with_reducible exact Below.refl _ _) | (with_reducible refine Blk.drewN ?_ _) | (with_reducible refine RowIn.drewN ?_ _) | (with_reducible refine below_drewN ?_ _) | (with_reducible refine Blk.drew ?_) | (with_reducible refine RowIn.drew ?_) | (with_reducible refine Below.drew ?_) | (with_reducible refine Blk.new' ?_ ?_ <;> first | (with_reducible rfl) | (simp; done)) | (with_reducible refine Blk.alloc ?_ _) | (with_reducible refine RowIn.alloc ?_ _) | (with_reducible refine Below.alloc ?_ ?_ _) | (with_reducible apply Blk.set') | (with_reducible apply Blk.far') | (with_reducible refine RowIn.far' ?_ ?_ _) | (with_reducible refine Below.far' ?_ ?_ _) | rfl | omega | go_size))) hco (by omega) (by omega) (by omega) (by exact RowIn.row (lo := 0) (hi := w.heap.size) (by repeat' (first | (with_reducible assumption) | (with_reducible exact Below.refl _ _) | (with_reducible refine Blk.drewN ?_ _) | (with_reducible refine RowIn.drewN ?_ _) | (with_reducible refine below_drewN ?_ _) | (with_reducible refine Blk.drew ?_) | (with_reducible refine RowIn.drew ?_) | (with_reducible refine Below.drew ?_) | (with_reducible refine Blk.new' ?_ ?_ <;> first | (with_reducible rfl) | (simp; done)) | (with_reducible refine Blk.alloc ?_ _) | (with_reducible refine RowIn.alloc ?_ _) | (with_reducible refine Below.alloc ?_ ?_ _) | (with_reducible apply Blk.set') | (with_reducible apply Blk.far') | (with_reducible refine RowIn.far' ?_ ?_ _) | (with_reducible refine Below.far' ?_ ?_ _) | rfl | omega | go_size))) (by rw [HO.out]; decide +kernel)).mono ?_
      rintro e w46 ⟨rfl, b46⟩
      have s46 := b46.size
      try simp only [World.size_alloc, World.size_setCell, World.size_drew, size_drewN] at s46
      obtain ⟨zd_46, zo_46, rt_46, ro_46, bb_46⟩ : Blk w46 (wr.heap.size) 24 [.slice none 0 0, .int .i64 1] ∧ Blk w46 (w41.heap.size) 24 [.slice Ao mo co, .int .i64 ((xo.length : Nat) : Int)] ∧ RowIn .u8 w46 (0) (w.heap.size) (some ⟨0, 0, none⟩) 64 dbTab ∧ RowIn .u8 w46 (wr.heap.size + 1) (w41.heap.size) Ao mo (pack xo) ∧ Below w.heap.size w w46 := by
        refine ⟨?_, ?_, ?_, ?_, ?_⟩
        all_goals repeat' (first | (with_reducible assumption) | (with_reducible exact Below.refl _ _) | (with_reducible refine Blk.after ?_ b46) | (with_reducible refine RowIn.belowS ?_ b46) | (with_reducible refine Below.after ?_ b46 ?_) | (with_reducible refine Blk.drewN ?_ _) | (with_reducible refine RowIn.drewN ?_ _) | (with_reducible refine below_drewN ?_ _) | (with_reducible refine Blk.drew ?_) | (with_reducible refine RowIn.drew ?_) | (with_reducible refine Below.drew ?_) | (with_reducible refine Blk.new' ?_ ?_ <;> first | (with_reducible rfl) | (simp; done)) | (with_reducible refine Blk.alloc ?_ _) | (with_reducible refine RowIn.alloc ?_ _) | (with_reducible refine Below.alloc ?_ ?_ _) | (with_reducible apply Blk.set') | (with_reducible apply Blk.far') | (with_reducible refine RowIn.far' ?_ ?_ _) | (with_reducible refine Below.far' ?_ ?_ _) | rfl | omega | go_size)
      clear zd_45 zo_45 rt_45 ro_45 bb_45 kd_45 fd_45 ld_45 ko_45 fo_45 lo_45 b46
      have kd_46 := zd_46.cell; have fd_46 := zd_46.frozen; have ld_46 := zd_46.lt
      have ko_46 := zo_46.cell; have fo_46 := zo_46.frozen; have lo_46 := zo_46.lt
      go_wp2_with fail
      refine (rread_c Ao mo co xo (1) (0) (0) (0) (24) _ (by exact RowIn.row (lo := wr.heap.size + 1) (hi := w41.heap.size) (by repeat' (first | (with_reducible assumption) | (with_reducible exact Below.refl _ _) | (with_reducible refine Blk.drewN ?_ _) | (with_reducible refine RowIn.drewN ?_ _) | (with_reducible refine below_drewN ?_ _) | (with_reducible refine Blk.drew ?_) | (with_reducible refine RowIn.drew ?_) | (with_reducible refine Below.drew ?_) | (with_reducible refine Blk.new' ?_ ?_ <;> first | (with_reducible rfl) | (simp; done)) | (with_reducible refine Blk.alloc ?_ _) | (with_reducible refine RowIn.alloc ?_ _) | (with_reducible refine Below.alloc ?_ ?_ _) | (with_reducible apply Blk.set') | (with_reducible apply Blk.far') | (with_reducible refine RowIn.far' ?_ ?_ _) | (with_reducible refine Below.far' ?_ ?_ _) | rfl | omega | go_size))) hco (by omega) (by omega) (by omega) (by exact RowIn.row (lo := 0) (hi := w.heap.size) (by repeat' (first | (with_reducible assumption) | (with_reducible exact Below.refl _ _) | (with_reducible refine Blk.drewN ?_ _) | (with_reducible refine RowIn.drewN ?_ _) | (with_reducible refine below_drewN ?_ _) | (with_reducible refine Blk.drew ?_) | (with_reducible refine RowIn.drew ?_) | (with_reducible refine Below.drew ?_) | (with_reducible refine Blk.new' ?_ ?_ <;> first | (with_reducible rfl) | (simp; done)) | (with_reducible refine Blk.alloc ?_ _) | (with_reducible refine RowIn.alloc ?_ _) | (with_reducible refine Below.alloc ?_ ?_ _) | (with_reducible apply Blk.set') | (with_reducible apply Blk.far') | (with_reducible refine RowIn.far' ?_ ?_ _) | (with_reducible refine Below.far' ?_ ?_ _) | rfl | omega | go_size))) (by rw [HO.out]; decide +kernel)).mono ?_
      rintro e w47 ⟨rfl, b47⟩
      have s47 := b47.size
      try simp only [World.size_alloc, World.size_setCell, World.size_drew, size_drewN] at s47
      obtain ⟨zd_47, zo_47, rt_47, ro_47, bb_47⟩ : Blk w47 (wr.heap.size) 24 [.slice none 0 0, .int .i64 1] ∧ Blk w47 (w41.heap.size) 24 [.slice Ao mo co, .int .i64 ((xo.length : Nat) : Int)] ∧ RowIn .u8 w47 (0) (w.heap.size) (some ⟨0, 0, none⟩) 64 dbTab ∧ RowIn .u8 w47 (wr.heap.size + 1) (w41.heap.size) Ao mo (pack xo) ∧ Below w.heap.size w w47 := by
        refine ⟨?_, ?_, ?_, ?_, ?_⟩
        all_goals repeat' (first | (with_reducible assumption) | (with_reducible exact Below.refl _ _) | (with_reducible refine Blk.after ?_ b47) | (with_reducible refine RowIn.belowS ?_ b47) | (with_reducible refine Below.after ?_ b47 ?_) | (with_reducible refine Blk.drewN ?_ _) | (with_reducible refine RowIn.drewN ?_ _) | (with_reducible refine below_drewN ?_ _) | (with_reducible refine Blk.drew ?_) | (with_reducible refine RowIn.drew ?_) | (with_reducible refine Below.drew ?_) | (with_reducible refine Blk.new' ?_ ?_ <;> first | (with_reducible rfl) | (simp; done)) | (with_reducible refine Blk.alloc ?_ _) | (with_reducible refine RowIn.alloc ?_ _) | (with_reducible refine Below.alloc ?_ ?_ _) | (with_reducible apply Blk.set') | (with_reducible apply Blk.far') | (with_reducible refine RowIn.far' ?_ ?_ _) | (with_reducible refine Below.far' ?_ ?_ _) | rfl | omega | go_size)
      clear zd_46 zo_46 rt_46 ro_46 bb_46 kd_46 fd_46 ld_46 ko_46 fo_46 lo_46 b47
      have kd_47 := zd_47.cell; have fd_47 := zd_47.frozen; have ld_47 := zd_47.lt
      have ko_47 := zo_47.cell; have fo_47 := zo_47.frozen; have lo_47 := zo_47.lt
      go_wp2_with fail
      refine (rread_c Ao mo co xo (0) (1) (0) (0) (24) _ (by exact RowIn.row (lo := wr.heap.size + 1) (hi := w41.heap.size) (by repeat' (first | (with_reducible assumption) | (with_reducible exact Below.refl _ _) | (with_reducible refine Blk.drewN ?_ _) | (with_reducible refine RowIn.drewN ?_ _) | (with_reducible refine below_drewN ?_ _) | (with_reducible refine Blk.drew ?_) | (with_reducible refine RowIn.drew ?_) | (with_reducible refine Below.drew ?_) | (with_reducible refine Blk.new' ?_ ?_ <;> first | (with_reducible rfl) | (simp; done)) | (with_reducible refine Blk.alloc ?_ _) | (with_reducible refine RowIn.alloc ?_ _) | (with_reducible refine Below.alloc ?_ ?_ _) | (with_reducible apply Blk.set') | (with_reducible apply Blk.far') | (with_reducible refine RowIn.far' ?_ ?_ _) | (with_reducible refine Below.far' ?_ ?_ _) | rfl | omega | go_size))) hco (by omega) (by omega) (by omega) (by exact RowIn.row (lo := 0) (hi := w.heap.size) (by repeat' (first | (with_reducible assumption) | (with_reducible exact Below.refl _ _) | (with_reducible refine Blk.drewN ?_ _) | (with_reducible refine RowIn.drewN ?_ _) | (with_reducible refine below_drewN ?_ _) | (with_reducible refine Blk.drew ?_) | (with_reducible refine RowIn.drew ?_) | (with_reducible refine Below.drew ?_) | (with_reducible refine Blk.new' ?_ ?_ <;> first | (with_reducible rfl) | (simp; done)) | (with_reducible refine Blk.alloc ?_ _) | (with_reducible refine RowIn.alloc ?_ _) | (with_reducible refine Below.alloc ?_ ?_ _) | (with_reducible apply Blk.set') | (with_reducible apply Blk.far') | (with_reducible refine RowIn.far' ?_ ?_ _) | (with_reducible refine Below.far' ?_ ?_ _) | rfl | omega | go_size))) (by rw [HO.out]; decide +kernel)).mono ?_
      rintro e w48 ⟨rfl, b48⟩
      have s48 := b48.size
      try simp only [World.size_alloc, World.size_setCell, World.size_drew, size_drewN] at s48
      obtain ⟨zd_48, zo_48, rt_48, ro_48, bb_48⟩ : Blk w48 (wr.heap.size) 24 [.slice none 0 0, .int .i64 1] ∧ Blk w48 (w41.heap.size) 24 [.slice Ao mo co, .int .i64 ((xo.length : Nat) : Int)] ∧ RowIn .u8 w48 (0) (w.heap.size) (some ⟨0, 0, none⟩) 64 dbTab ∧ RowIn .u8 w48 (wr.heap.size + 1) (w41.heap.size) Ao mo (pack xo) ∧ Below w.heap.size w w48 := by
        refine ⟨?_, ?_, ?_, ?_, ?_⟩
        all_goals repeat' (first | (with_reducible assumption) | (with_reducible exact Below.refl _ _) | (with_reducible refine Blk.after ?_ b48) | (with_reducible refine RowIn.belowS ?_ b48) | (with_reducible refine Below.after ?_ b48 ?_) | (with_reducible refine Blk.drewN ?_ _) | (with_reducible refine RowIn.drewN ?_ _) | (with_reducible refine below_drewN ?_ _) | (with_reducible refine Blk.drew ?_) | (with_reducible refine RowIn.drew ?_) | (with_reducible refine Below.drew ?_) | (with_reducible refine Blk.new' ?_ ?_ <;> first | (with_reducible rfl) | (simp; done)) | (with_reducible refine Blk.alloc ?_ _) | (with_reducible refine RowIn.alloc ?_ _) | (with_reducible refine Below.alloc ?_ ?_ _) | (with_reducible apply Blk.set') | (with_reducible apply Blk.far') | (with_reducible refine RowIn.far' ?_ ?_ _) | (with_reducible refine Below.far' ?_ ?_ _) | rfl | omega | go_size)
      clear zd_47 zo_47 rt_47 ro_47 bb_47 kd_47 fd_47 ld_47 ko_47 fo_47 lo_47 b48
      have kd_48 := zd_48.cell; have fd_48 := zd_48.frozen; have ld_48 := zd_48.lt
      have ko_48 := zo_48.cell; have fo_48 := zo_48.frozen; have lo_48 := zo_48.lt
      go_wp2_with fail
      refine (rread_c Ao mo co xo (0) (0) (0) (1) (0) _ (by exact RowIn.row (lo := wr.heap.size + 1) (hi := w41.heap.size) (by repeat' (first | (with_reducible assumption) | (with_reducible exact Below.refl _ _) | (with_reducible refine Blk.drewN ?_ _) | (with_reducible refine RowIn.drewN ?_ _) | (with_reducible refine below_drewN ?_ _) | (with_reducible refine Blk.drew ?_) | (with_reducible refine RowIn.drew ?_) | (with_reducible refine Below.drew ?_) | (with_reducible refine Blk.new' ?_ ?_ <;> first | (with_reducible rfl) | (simp; done)) | (with_reducible refine Blk.alloc ?_ _) | (with_reducible refine RowIn.alloc ?_ _) | (with_reducible refine Below.alloc ?_ ?_ _) | (with_reducible apply Blk.set') | (with_reducible apply Blk.far') | (with_reducible refine RowIn.far' ?_ ?_ _) | (with_reducible refine Below.far' ?_ ?_ _) | rfl | omega | go_size))) hco (by omega) (by omega) (by omega) (by exact RowIn.row (lo := 0) (hi := w.heap.size) (by repeat' (first | (with_reducible assumption) | (with_reducible exact Below.refl _ _) | (with_reducible refine Blk.drewN ?_ _) | (with_reducible refine RowIn.drewN ?_ _) | (with_reducible refine below_drewN ?_ _) | (with_reducible refine Blk.drew ?_) | (with_reducible refine RowIn.drew ?_) | (with_reducible refine Below.drew ?_) | (with_reducible refine Blk.new' ?_ ?_ <;> first | (with_reducible rfl) | (simp; done)) | (with_reducible refine Blk.alloc ?_ _) | (with_reducible refine RowIn.alloc ?_ _) | (with_reducible refine Below.alloc ?_ ?_ _) | (with_reducible apply Blk.set') | (with_reducible apply Blk.far') | (with_reducible refine RowIn.far' ?_ ?_ _) | (with_reducible refine Below.far' ?_ ?_ _) | rfl | omega | go_size))) (by rw [HO.out]; decide +kernel)).mono ?_
      rintro e w49 ⟨rfl, b49⟩
      have s49 := b49.size
      try simp only [World.size_alloc, World.size_setCell, World.size_drew, size_drewN] at s49
      obtain ⟨zd_49, zo_49, rt_49, ro_49, bb_49⟩ : Blk w49 (wr.heap.size) 24 [.slice none 0 0, .int .i64 1] ∧ Blk w49 (w41.heap.size) 24 [.slice Ao mo co, .int .i64 ((xo.length : Nat) : Int)] ∧ RowIn .u8 w49 (0) (w.heap.size) (some ⟨0, 0, none⟩) 64 dbTab ∧ RowIn .u8 w49 (wr.heap.size + 1) (w41.heap.size) Ao mo (pack xo) ∧ Below w.heap.size w w49 := by
        refine ⟨?_, ?_, ?_, ?_, ?_⟩
        all_goals repeat' (first | (with_reducible assumption) | (with_reducible exact Below.refl _ _) | (with_reducible refine Blk.after ?_ b49) | (with_reducible refine RowIn.belowS ?_ b49) | (with_reducible refine Below.after ?_ b49 ?_) | (with_reducible refine Blk.drewN ?_ _) | (with_reducible refine RowIn.drewN ?_ _) | (with_reducible refine below_drewN ?_ _) | (with_reducible refine Blk.drew ?_) | (with_reducible refine RowIn.drew ?_) | (with_reducible refine Below.drew ?_) | (with_reducible refine Blk.new' ?_ ?_ <;> first | (with_reducible rfl) | (simp; done)) | (with_reducible refine Blk.alloc ?_ _) | (with_reducible refine RowIn.alloc ?_ _) | (with_reducible refine Below.alloc ?_ ?_ _) | (with_reducible apply Blk.set') | (with_reducible apply Blk.far') | (with_reducible refine RowIn.far' ?_ ?_ _) | (with_reducible refine Below.far' ?_ ?_ _) | rfl | omega | go_size)
      clear zd_48 zo_48 rt_48 ro_48 bb_48 kd_48 fd_48 ld_48 ko_48 fo_48 lo_48 b49
      have kd_49 := zd_49.cell; have fd_49 := zd_49.frozen; have ld_49 := zd_49.lt
      have ko_49 := zo_49.cell; have fo_49 := zo_49.frozen; have lo_49 := zo_49.lt
      go_wp2_with fail
      refine (bof_ok (some ⟨w49.heap.size, 0, none⟩) 41249 41249 (zeros 41249) _ (by exact row_made (by simp)) (zeros_within _) (by omega) (by rw [zeros_len]; omega)).mono ?_
      rintro e w50 ⟨Af, mf, cf, xf, rfl, hcf, rf, HXf, b50⟩
      have Lf : xf.length ≤ 329992 ∧ 329992 ≤ xf.length := by rw [HXf.out]; rw [unpack_len, zeros_len]; omega
      obtain ⟨Lf1, Lf2⟩ := Lf
      replace rf := rf.mono (lo' := w49.heap.size + 1) (by go_size) (Nat.le_refl _)
      have s50 := b50.size
      try simp only [World.size_alloc, World.size_setCell, World.size_drew, size_drewN] at s50
      obtain ⟨zd_50, zo_50, rt_50, ro_50, rf_50, bb_50⟩ : Blk w50 (wr.heap.size) 24 [.slice none 0 0, .int .i64 1] ∧ Blk w50 (w41.heap.size) 24 [.slice Ao mo co, .int .i64 ((xo.length : Nat) : Int)] ∧ RowIn .u8 w50 (0) (w.heap.size) (some ⟨0, 0, none⟩) 64 dbTab ∧ RowIn .u8 w50 (wr.heap.size + 1) (w41.heap.size) Ao mo (pack xo) ∧ RowIn .u8 w50 (w49.heap.size + 1) (w50.heap.size) Af mf (pack xf) ∧ Below w.heap.size w w50 := by
        refine ⟨?_, ?_, ?_, ?_, ?_, ?_⟩
        all_goals repeat' (first | (with_reducible assumption) | (with_reducible exact Below.refl _ _) | (with_reducible refine Blk.after ?_ b50) | (with_reducible refine RowIn.belowS ?_ b50) | (with_reducible refine Below.after ?_ b50 ?_) | (with_reducible refine Blk.drewN ?_ _) | (with_reducible refine RowIn.drewN ?_ _) | (with_reducible refine below_drewN ?_ _) | (with_reducible refine Blk.drew ?_) | (with_reducible refine RowIn.drew ?_) | (with_reducible refine Below.drew ?_) | (with_reducible refine Blk.new' ?_ ?_ <;> first | (with_reducible rfl) | (simp; done)) | (with_reducible refine Blk.alloc ?_ _) | (with_reducible refine RowIn.alloc ?_ _) | (with_reducible refine Below.alloc ?_ ?_ _) | (with_reducible apply Blk.set') | (with_reducible apply Blk.far') | (with_reducible refine RowIn.far' ?_ ?_ _) | (with_reducible refine Below.far' ?_ ?_ _) | rfl | omega | go_size)
      clear zd_49 zo_49 rt_49 ro_49 bb_49 kd_49 fd_49 ld_49 ko_49 fo_49 lo_49 b50
      have kd_50 := zd_50.cell; have fd_50 := zd_50.frozen; have ld_50 := zd_50.lt
      have ko_50 := zo_50.cell; have fo_50 := zo_50.frozen; have lo_50 := zo_50.lt
      clear rf
      go_wp2_with fail
      refine (rwrite_c Af mf cf xf 0 8 [] 18 _ (by exact RowIn.row (lo := w49.heap.size + 1) (hi := w50.heap.size) (by repeat' (first | (with_reducible assumption) | (with_reducible exact Below.refl _ _) | (with_reducible refine Blk.drewN ?_ _) | (with_reducible refine RowIn.drewN ?_ _) | (with_reducible refine below_drewN ?_ _) | (with_reducible refine Blk.drew ?_) | (with_reducible refine RowIn.drew ?_) | (with_reducible refine Below.drew ?_) | (with_reducible refine Blk.new' ?_ ?_ <;> first | (with_reducible rfl) | (simp; done)) | (with_reducible refine Blk.alloc ?_ _) | (with_reducible refine RowIn.alloc ?_ _) | (with_reducible refine Below.alloc ?_ ?_ _) | (with_reducible apply Blk.set') | (with_reducible apply Blk.far') | (with_reducible refine RowIn.far' ?_ ?_ _) | (with_reducible refine Below.far' ?_ ?_ _) | rfl | omega | go_size))) hcf (by omega) (by decide) (by omega) (full_no (L := 9) (by omega) (by decide) (by decide) (by omega))).mono ?_
      rintro e w51 ⟨Ag, mg, cg, xg, rfl, hcg, rg, HXg, b51⟩
      replace rg := rg.mono (lo' := w50.heap.size + 1) (by go_size) (Nat.le_refl _)
      have s51 := b51.size
      try simp only [World.size_alloc, World.size_setCell, World.size_drew, size_drewN] at s51
      obtain ⟨zd_51, zo_51, zf_51, rt_51, ro_51, rf_51, rg_51, bb_51⟩ : Blk w51 (wr.heap.size) 24 [.slice none 0 0, .int .i64 1] ∧ Blk w51 (w41.heap.size) 24 [.slice Ao mo co, .int .i64 ((xo.length : Nat) : Int)] ∧ Blk w51 (w50.heap.size) 24 [.slice Af mf cf, .int .i64 ((xf.length : Nat) : Int)] ∧ RowIn .u8 w51 (0) (w.heap.size) (some ⟨0, 0, none⟩) 64 dbTab ∧ RowIn .u8 w51 (wr.heap.size + 1) (w41.heap.size) Ao mo (pack xo) ∧ RowIn .u8 w51 (w49.heap.size + 1) (w50.heap.size) Af mf (pack xf) ∧ RowIn .u8 w51 (w50.heap.size + 1) (w51.heap.size) Ag mg (pack xg) ∧ Below w.heap.size w w51 := by
        refine ⟨?_, ?_, ?_, ?_, ?_, ?_, ?_, ?_⟩
        all_goals repeat' (first | (with_reducible assumption) | (with_reducible exact Below.refl _ _) | (with_reducible refine Blk.after ?_ b51) | (with_reducible refine RowIn.belowS ?_ b51) | (with_reducible refine Below.after ?_ b51 ?_) | (with_reducible refine Blk.drewN ?_ _) | (with_reducible refine RowIn.drewN ?_ _) | (with_reducible refine below_drewN ?_ _) | (with_reducible refine Blk.drew ?_) | (with_reducible refine RowIn.drew ?_) | (with_reducible refine Below.drew ?_) | (with_reducible refine Blk.new' ?_ ?_ <;> first | (with_reducible rfl) | (simp; done)) | (with_reducible refine Blk.alloc ?_ _) | (with_reducible refine RowIn.alloc ?_ _) | (with_reducible refine Below.alloc ?_ ?_ _) | (with_reducible apply Blk.set') | (with_reducible apply Blk.far') | (with_reducible refine RowIn.far' ?_ ?_ _) | (with_reducible refine Below.far' ?_ ?_ _) | rfl | omega | go_size)
      clear zd_50 zo_50 rt_50 ro_50 rf_50 bb_50 kd_50 fd_50 ld_50 ko_50 fo_50 lo_50 b51
      have kd_51 := zd_51.cell; have fd_51 := zd_51.frozen; have ld_51 := zd_51.lt
      have ko_51 := zo_51.cell; have fo_51 := zo_51.frozen; have lo_51 := zo_51.lt
      have kf_51 := zf_51.cell; have ff_51 := zf_51.frozen; have lf_51 := zf_51.lt
      clear rg
      go_wp2_with fail
      refine (rwrite_c Af mf cf xf 255 7 [] 18 _ (by exact RowIn.row (lo := w49.heap.size + 1) (hi := w50.heap.size) (by repeat' (first | (with_reducible assumption) | (with_reducible exact Below.refl _ _) | (with_reducible refine Blk.drewN ?_ _) | (with_reducible refine RowIn.drewN ?_ _) | (with_reducible refine below_drewN ?_ _) | (with_reducible refine Blk.drew ?_) | (with_reducible refine RowIn.drew ?_) | (with_reducible refine Below.drew ?_) | (with_reducible refine Blk.new' ?_ ?_ <;> first | (with_reducible rfl) | (simp; done)) | (with_reducible refine Blk.alloc ?_ _) | (with_reducible refine RowIn.alloc ?_ _) | (with_reducible refine Below.alloc ?_ ?_ _) | (with_reducible apply Blk.set') | (with_reducible apply Blk.far') | (with_reducible refine RowIn.far' ?_ ?_ _) | (with_reducible refine Below.far' ?_ ?_ _) | rfl | omega | go_size))) hcf (by omega) (by decide) (by omega) (full_no (L := 9) (by omega) (by decide) (by decide) (by omega))).mono ?_
      rintro e w52 ⟨Ah, mh, ch, xh, rfl, hch, rh, HXh, b52⟩
      have Lh : xh.length ≤ 0 ∧ 0 ≤ xh.length := by rw [HXh.out]; simp
      obtain ⟨Lh1, Lh2⟩ := Lh
      replace rh := rh.mono (lo' := w51.heap.size + 1) (by go_size) (Nat.le_refl _)
      have s52 := b52.size
      try simp only [World.size_alloc, World.size_setCell, World.size_drew, size_drewN] at s52
      obtain ⟨zd_52, zo_52, zf_52, rt_52, ro_52, rf_52, rh_52, bb_52⟩ : Blk w52 (wr.heap.size) 24 [.slice none 0 0, .int .i64 1] ∧ Blk w52 (w41.heap.size) 24 [.slice Ao mo co, .int .i64 ((xo.length : Nat) : Int)] ∧ Blk w52 (w50.heap.size) 24 [.slice Af mf cf, .int .i64 ((xf.length : Nat) : Int)] ∧ RowIn .u8 w52 (0) (w.heap.size) (some ⟨0, 0, none⟩) 64 dbTab ∧ RowIn .u8 w52 (wr.heap.size + 1) (w41.heap.size) Ao mo (pack xo) ∧ RowIn .u8 w52 (w49.heap.size + 1) (w50.heap.size) Af mf (pack xf) ∧ RowIn .u8 w52 (w51.heap.size + 1) (w52.heap.size) Ah mh (pack xh) ∧ Below w.heap.size w w52 := by
        refine ⟨?_, ?_, ?_, ?_, ?_, ?_, ?_, ?_⟩
        all_goals repeat' (first | (with_reducible assumption) | (with_reducible exact Below.refl _ _) | (with_reducible refine Blk.after ?_ b52) | (with_reducible refine RowIn.belowS ?_ b52) | (with_reducible refine Below.after ?_ b52 ?_) | (with_reducible refine Blk.drewN ?_ _) | (with_reducible refine RowIn.drewN ?_ _) | (with_reducible refine below_drewN ?_ _) | (with_reducible refine Blk.drew ?_) | (with_reducible refine RowIn.drew ?_) | (with_reducible refine Below.drew ?_) | (with_reducible refine Blk.new' ?_ ?_ <;> first | (with_reducible rfl) | (simp; done)) | (with_reducible refine Blk.alloc ?_ _) | (with_reducible refine RowIn.alloc ?_ _) | (with_reducible refine Below.alloc ?_ ?_ _) | (with_reducible apply Blk.set') | (with_reducible apply Blk.far') | (with_reducible refine RowIn.far' ?_ ?_ _) | (with_reducible refine Below.far' ?_ ?_ _) | rfl | omega | go_size)
      clear zd_51 zo_51 zf_51 rt_51 ro_51 rf_51 rg_51 bb_51 kd_51 fd_51 ld_51 ko_51 fo_51 lo_51 kf_51 ff_51 lf_51 b52
      have kd_52 := zd_52.cell; have fd_52 := zd_52.frozen; have ld_52 := zd_52.lt
      have ko_52 := zo_52.cell; have fo_52 := zo_52.frozen; have lo_52 := zo_52.lt
      have kf_52 := zf_52.cell; have ff_52 := zf_52.frozen; have lf_52 := zf_52.lt
      clear rh
      go_wp2_with fail
      refine (rread_c Ao mo co xo (9223372036854775807) (0) (0) (0) (24) _ (by exact RowIn.row (lo := wr.heap.size + 1) (hi := w41.heap.size) (by repeat' (first | (with_reducible assumption) | (with_reducible exact Below.refl _ _) | (with_reducible refine Blk.drewN ?_ _) | (with_reducible refine RowIn.drewN ?_ _) | (with_reducible refine below_drewN ?_ _) | (with_reducible refine Blk.drew ?_) | (with_reducible refine RowIn.drew ?_) | (with_reducible refine Below.drew ?_) | (with_reducible refine Blk.new' ?_ ?_ <;> first | (with_reducible rfl) | (simp; done)) | (with_reducible refine Blk.alloc ?_ _) | (with_reducible refine RowIn.alloc ?_ _) | (with_reducible refine Below.alloc ?_ ?_ _) | (with_reducible apply Blk.set') | (with_reducible apply Blk.far') | (with_reducible refine RowIn.far' ?_ ?_ _) | (with_reducible refine Below.far' ?_ ?_ _) | rfl | omega | go_size))) hco (by omega) (by omega) (by omega) (by exact RowIn.row (lo := 0) (hi := w.heap.size) (by repeat' (first | (with_reducible assumption) | (with_reducible exact Below.refl _ _) | (with_reducible refine Blk.drewN ?_ _) | (with_reducible refine RowIn.drewN ?_ _) | (with_reducible refine below_drewN ?_ _) | (with_reducible refine Blk.drew ?_) | (with_reducible refine RowIn.drew ?_) | (with_reducible refine Below.drew ?_) | (with_reducible refine Blk.new' ?_ ?_ <;> first | (with_reducible rfl) | (simp; done)) | (with_reducible refine Blk.alloc ?_ _) | (with_reducible refine RowIn.alloc ?_ _) | (with_reducible refine Below.alloc ?_ ?_ _) | (with_reducible apply Blk.set') | (with_reducible apply Blk.far') | (with_reducible refine RowIn.far' ?_ ?_ _) | (with_reducible refine Below.far' ?_ ?_ _) | rfl | omega | go_size))) (by rw [HO.out]; decide +kernel)).mono ?_
      rintro e w53 ⟨rfl, b53⟩
      have s53 := b53.size
      try simp only [World.size_alloc, World.size_setCell, World.size_drew, size_drewN] at s53
      obtain ⟨zd_53, zo_53, zf_53, zh_53, rt_53, ro_53, bb_53⟩ : Blk w53 (wr.heap.size) 24 [.slice none 0 0, .int .i64 1] ∧ Blk w53 (w41.heap.size) 24 [.slice Ao mo co, .int .i64 ((xo.length : Nat) : Int)] ∧ Blk w53 (w50.heap.size) 24 [.slice Af mf cf, .int .i64 ((xf.length : Nat) : Int)] ∧ Blk w53 (w52.heap.size) 24 [.slice Ah mh ch, .int .i64 ((xh.length : Nat) : Int)] ∧ RowIn .u8 w53 (0) (w.heap.size) (some ⟨0, 0, none⟩) 64 dbTab ∧ RowIn .u8 w53 (wr.heap.size + 1) (w41.heap.size) Ao mo (pack xo) ∧ Below w.heap.size w w53 := by
        refine ⟨?_, ?_, ?_, ?_, ?_, ?_, ?_⟩
        all_goals repeat' (first | (with_reducible assumption) | (with_reducible exact Below.refl _ _) | (with_reducible refine Blk.after ?_ b53) | (with_reducible refine RowIn.belowS ?_ b53) | (with_reducible refine Below.after ?_ b53 ?_) | (with_reducible refine Blk.drewN ?_ _) | (with_reducible refine RowIn.drewN ?_ _) | (with_reducible refine below_drewN ?_ _) | (with_reducible refine Blk.drew ?_) | (with_reducible refine RowIn.drew ?_) | (with_reducible refine Below.drew ?_) | (with_reducible refine Blk.new' ?_ ?_ <;> first | (with_reducible rfl) | (simp; done)) | (with_reducible refine Blk.alloc ?_ _) | (with_reducible refine RowIn.alloc ?_ _) | (with_reducible refine Below.alloc ?_ ?_ _) | (with_reducible apply Blk.set') | (with_reducible apply Blk.far') | (with_reducible refine RowIn.far' ?_ ?_ _) | (with_reducible refine Below.far' ?_ ?_ _) | rfl | omega | go_size)
      clear zd_52 zo_52 zf_52 rt_52 ro_52 rf_52 rh_52 bb_52 kd_52 fd_52 ld_52 ko_52 fo_52 lo_52 kf_52 ff_52 lf_52 b53
      have kd_53 := zd_53.cell; have fd_53 := zd_53.frozen; have ld_53 := zd_53.lt
      have ko_53 := zo_53.cell; have fo_53 := zo_53.frozen; have lo_53 := zo_53.lt
      have kf_53 := zf_53.cell; have ff_53 := zf_53.frozen; have lf_53 := zf_53.lt
      have kh_53 := zh_53.cell; have fh_53 := zh_53.frozen; have lh_53 := zh_53.lt
      have tl : (((xh.length : Nat) : Int) == 0) = true := beq_iff_eq.2 (by omega)
      go_wp2_with fail
      refine (alive07 _).mono ?_
      rintro e w54 ⟨rfl, b54⟩
      have s54 := b54.size
      try simp only [World.size_alloc, World.size_setCell, World.size_drew, size_drewN] at s54
      have bb_54 : Below w.heap.size w w54 := by
        repeat' (first | (with_reducible assumption) | (with_reducible exact Below.refl _ _) | (with_reducible refine Blk.after ?_ b54) | (with_reducible refine RowIn.belowS ?_ b54) | (with_reducible refine Below.after ?_ b54 ?_) | (with_reducible refine Blk.drewN ?_ _) | (with_reducible refine RowIn.drewN ?_ _) | (with_reducible refine below_drewN ?_ _) | (with_reducible refine Blk.drew ?_) | (with_reducible refine RowIn.drew ?_) | (with_reducible refine Below.drew ?_) | (with_reducible refine Blk.new' ?_ ?_ <;> first | (with_reducible rfl) | (simp; done)) | (with_reducible refine Blk.alloc ?_ _) | (with_reducible refine RowIn.alloc ?_ _) | (with_reducible refine Below.alloc ?_ ?_ _) | (with_reducible apply Blk.set') | (with_reducible apply Blk.far') | (with_reducible refine RowIn.far' ?_ ?_ _) | (with_reducible refine Below.far' ?_ ?_ _) | rfl | omega | go_size)
      clear zd_53 zo_53 zf_53 zh_53 rt_53 ro_53 bb_53 kd_53 fd_53 ld_53 ko_53 fo_53 lo_53 kf_53 ff_53 lf_53 kh_53 fh_53 lh_53 b54
      go_wp2
      go_ret
      refine ⟨rfl, ?_⟩
      repeat' (first | (with_reducible assumption) | (with_reducible exact Below.refl _ _) | (with_reducible refine Blk.drewN ?_ _) | (with_reducible refine RowIn.drewN ?_ _) | (with_reducible refine below_drewN ?_ _) | (with_reducible refine Blk.drew ?_) | (with_reducible refine RowIn.drew ?_) | (with_reducible refine Below.drew ?_) | (with_reducible refine Blk.new' ?_ ?_ <;> first | (with_reducible rfl) | (simp; done)) | (with_reducible refine Blk.alloc ?_ _) | (with_reducible refine RowIn.alloc ?_ _) | (with_reducible refine Below.alloc ?_ ?_ _) | (with_reducible apply Blk.set') | (with_reducible apply Blk.far') | (with_reducible refine RowIn.far' ?_ ?_ _) | (with_reducible refine Below.far' ?_ ?_ _) | rfl | omega | go_size)


end Go.Proofs.YtlblkjefngofaaaDoor
