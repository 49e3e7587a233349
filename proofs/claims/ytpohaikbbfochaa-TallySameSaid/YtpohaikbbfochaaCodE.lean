/-
  Contract of coder.Encode.
-/
import Derived.Test.YtpohaikbbfochaaCodA
import Derived.Test.YtpohaikbbfochaaBitG
namespace Go.Proofs.Ytpohaikbbfochaa
open Go.RowKit Cad Cad.Bit Cad.Code
set_option linter.unusedVariables false
set_option linter.unusedSimpArgs false


theorem cenc_many (A : Option Addr) (n c : Nat) (w : World) (hn : 4000 < n) :
    Calls Try.prog 27 #[.slice A n c] w (RetB w [] 4) := by
  have ht0 : decide ((4000 : Int) < (n : Int)) = true := decide_eq_true (by omega)
  go_enter Try.func27, Try.ntmps27
  go_wp2
  have zr := Blk.new' (w := w) (g := w.heap.size) (t := 54) (l := [.slice none 0 0, .int .i64 0]) rfl rfl
  have kr := zr.cell; have lr := zr.lt
  refine bodyPost_ret (v := .tuple #[.agg #[.slice none 0 0, .int .i64 0], .int .i64 4]) (by simp [results, Try.results27, go_sem, kr, lr]) rfl ?_
  exact ⟨none, 0, 0, [], rfl, ⟨Nat.le_refl _, Nat.zero_le _⟩, RowIn.nil, Lib.hid rfl, by repeat' (first | (with_reducible assumption) | (with_reducible exact Below.refl _ _) | (with_reducible refine Blk.drewN ?_ _) | (with_reducible refine RowIn.drewN ?_ _) | (with_reducible refine below_drewN ?_ _) | (with_reducible refine Blk.drew ?_) | (with_reducible refine RowIn.drew ?_) | (with_reducible refine Below.drew ?_) | (with_reducible refine Blk.new' ?_ ?_ <;> first | (with_reducible rfl) | (simp; done)) | (with_reducible refine Blk.alloc ?_ _) | (with_reducible refine RowIn.alloc ?_ _) | (with_reducible refine Below.alloc ?_ ?_ _) | (with_reducible apply Blk.set') | (with_reducible apply Blk.far') | (with_reducible refine RowIn.far' ?_ ?_ _) | (with_reducible refine Below.far' ?_ ?_ _) | rfl | omega | go_size)⟩

set_option maxRecDepth 100000 in
set_option maxHeartbeats 4000000 in
theorem cenc_ok (A : Option Addr) (n c : Nat) (xs : List Int) (w : World) (ha : Row .u32 w A n xs) (hx : Within 0 4294967295 xs) (hn : n ≤ 4000) :
    Calls Try.prog 27 #[.slice A n c] w (RetB w (codeP Cad.Code.start xs n) 0) := by
  have ht0 : decide ((4000 : Int) < (n : Int)) = false := decide_eq_false (by omega)
  go_enter Try.func27, Try.ntmps27
  go_wp2_with fail
  refine (dstart_ok _).mono ?_
  rintro e w1 ⟨rfl, b1⟩
  have s1 := b1.size
  try simp only [World.size_alloc, World.size_setCell, World.size_drew, size_drewN] at s1
  obtain ⟨zr_1, za_1, zp_1, bb_1⟩ : Blk w1 (w.heap.size) 54 [.slice none 0 0, .int .i64 0] ∧ Blk w1 (w.heap.size + 1) 54 [.slice none 0 0, .int .i64 0] ∧ Blk w1 (w.heap.size + 1 + 1) 54 [.slice none 0 0, .int .i64 0] ∧ Below w.heap.size w w1 := by
    refine ⟨?_, ?_, ?_, ?_⟩
    all_goals repeat' (first | (with_reducible assumption) | (with_reducible exact Below.refl _ _) | (with_reducible refine Blk.drewN ?_ _) | (with_reducible refine RowIn.drewN ?_ _) | (with_reducible refine below_drewN ?_ _) | (with_reducible refine Blk.drew ?_) | (with_reducible refine RowIn.drew ?_) | (with_reducible refine Below.drew ?_) | (with_reducible refine Blk.new' ?_ ?_ <;> first | (with_reducible rfl) | (simp; done)) | (with_reducible refine Blk.alloc ?_ _) | (with_reducible refine RowIn.alloc ?_ _) | (with_reducible refine Below.alloc ?_ ?_ _) | (with_reducible apply Blk.set') | (with_reducible apply Blk.far') | (with_reducible refine RowIn.far' ?_ ?_ _) | (with_reducible refine Below.far' ?_ ?_ _) | (with_reducible refine Blk.after ?_ b1) | (with_reducible refine RowIn.belowS ?_ b1) | (with_reducible refine Below.after ?_ b1 ?_) | rfl | omega | go_size)
  clear b1
  have kr_1 := zr_1.cell; have fr_1 := zr_1.frozen; have lr_1 := zr_1.lt
  have ka_1 := za_1.cell; have fa_1 := za_1.frozen; have la_1 := za_1.lt
  have kp_1 := zp_1.cell; have fp_1 := zp_1.frozen; have lp_1 := zp_1.lt
  go_wp2_with fail
  go_loopg [17] n (fun k v wr => ∃ (j p0 p1 q0 q1 my cy mz cz loy hiy loz hiz : Nat) (Y Z : Option Addr) (y z : List Bool), j + k = n ∧ v = .int .i64 (j : Nat) ∧ Hid ((⟨p0, p1, q0, q1⟩ : Dual) = stP Cad.Code.start xs j) ∧ Hid (y ++ z = codeP Cad.Code.start xs j) ∧ Hid (j = n → z = []) ∧ y.length + z.length ≤ 81 * j ∧ (my ≤ cy ∧ cy ≤ 9223372036854775807) ∧ (mz ≤ cz ∧ cz ≤ 9223372036854775807) ∧ w1.heap.size + 1 ≤ loy ∧ w1.heap.size + 1 ≤ loz ∧ hiy ≤ wr.heap.size ∧ Blk wr (w.heap.size) 54 [.slice none 0 0, .int .i64 0] ∧ Blk wr (w.heap.size + 1) 54 [.slice Y my cy, .int .i64 ((y.length : Nat) : Int)] ∧ Blk wr (w.heap.size + 1 + 1) 54 [.slice Z mz cz, .int .i64 ((z.length : Nat) : Int)] ∧ Blk wr (w1.heap.size) 46 [.int .i64 (p0 : Int), .int .i64 (p1 : Int), .int .u64 (q0 : Int), .int .u64 (q1 : Int)] ∧ RowIn .u8 wr loy hiy Y my (pack y) ∧ RowIn .u8 wr loz hiz Z mz (pack z) ∧ Below w.heap.size w wr)
  case atStart =>
    refine ⟨0, 10, 10, 16384, 16384, 0, 0, 0, 0, w1.heap.size + 1, w1.heap.size + 1, w1.heap.size + 1, w1.heap.size + 1, none, none, [], [], by omega, rfl, Lib.hid rfl, Lib.hid rfl, Lib.hid (fun _ => rfl), by simp, ⟨Nat.le_refl _, Nat.zero_le _⟩, ⟨Nat.le_refl _, Nat.zero_le _⟩, by omega, by omega, by go_size, ?_, ?_, ?_, ?_, RowIn.nil, RowIn.nil, ?_⟩
    all_goals repeat' (first | (with_reducible assumption) | (with_reducible exact Below.refl _ _) | (with_reducible refine Blk.drewN ?_ _) | (with_reducible refine RowIn.drewN ?_ _) | (with_reducible refine below_drewN ?_ _) | (with_reducible refine Blk.drew ?_) | (with_reducible refine RowIn.drew ?_) | (with_reducible refine Below.drew ?_) | (with_reducible refine Blk.new' ?_ ?_ <;> first | (with_reducible rfl) | (simp; done)) | (with_reducible refine Blk.alloc ?_ _) | (with_reducible refine RowIn.alloc ?_ _) | (with_reducible refine Below.alloc ?_ ?_ _) | (with_reducible apply Blk.set') | (with_reducible apply Blk.far') | (with_reducible refine RowIn.far' ?_ ?_ _) | (with_reducible refine Below.far' ?_ ?_ _) | rfl | omega | go_size)
  case round =>
    obtain ⟨j, p0, p1, q0, q1, my, cy, mz, cz, loy, hiy, loz, hiz, Y, Z, y, z, hj, rfl, HP, HYZ, HLAST, hlen, hcy, hcz, hloy, hloz, hhiy, zr_5, za_5, zp_5, zd_5, ry_5, rz_5, bb_5⟩ := hrel
    clear zr_1 kr_1 fr_1 lr_1 za_1 ka_1 fa_1 la_1 zp_1 kp_1 fp_1 lp_1 bb_1
    have kr_5 := zr_5.cell; have fr_5 := zr_5.frozen; have lr_5 := zr_5.lt
    have ka_5 := za_5.cell; have fa_5 := za_5.frozen; have la_5 := za_5.lt
    have kp_5 := zp_5.cell; have fp_5 := zp_5.frozen; have lp_5 := zp_5.lt
    have kd_5 := zd_5.cell; have fd_5 := zd_5.frozen; have ld_5 := zd_5.lt
    have hw1 : w1.heap.size < wr.heap.size := ld_5
    by_cases hlt : j < n
    · obtain ⟨bl, ol, rfl, hbl, hcell⟩ := ha.at (by omega)
      obtain ⟨v, hv⟩ : ∃ v, nth xs j = v := ⟨_, rfl⟩
      have hvb := hx.nth (by decide) (by decide) j
      rw [hv] at hvb
      have c0 : w.cell? ⟨bl, ol + j, none⟩ = some (.int .u32 v) := by rw [hcell j hlt, hv]
      obtain ⟨v, rfl⟩ := Int.eq_ofNat_of_zero_le hvb.1
      have hv32 : v < 4294967296 := by omega
      have CL := Lib.hid c0
      have HV : Hid ((nth xs j).toNat = v) := Lib.hid (by rw [hv]; rfl)
      have hbL := hbl
      clear c0 hcell hv
      have hpo : Dual.Ok ⟨p0, p1, q0, q1⟩ := by rw [HP.out]; exact stP_ok start_ok hx j
      have HPO := Lib.hid hpo
      clear hpo
      obtain ⟨u0, u1, v0, v1, hu⟩ := Dual.four (learn ⟨p0, p1, q0, q1⟩ v)
      have HU := Lib.hid hu
      clear hu
      have hL : 1 ≤ lenD ⟨p0, p1, q0, q1⟩ v ∧ lenD ⟨p0, p1, q0, q1⟩ v ≤ 81 := lenD_le HPO.out v
      obtain ⟨L, HL⟩ : ∃ L, Hid (L = lenD ⟨p0, p1, q0, q1⟩ v) := ⟨_, Lib.hid rfl⟩
      rw [← HL.out] at hL
      obtain ⟨hL1, hL2⟩ := hL
      have HW : Hid (dwR z ⟨p0, p1, q0, q1⟩ v = (z ++ codeD ⟨p0, p1, q0, q1⟩ v, ⟨u0, u1, v0, v1⟩, 0)) := Lib.hid (by unfold dwR; rw [if_neg (by rw [← HL.out]; omega), HU.out])
      have HP2 : Hid ((⟨u0, u1, v0, v1⟩ : Dual) = stP Cad.Code.start xs (j + 1)) := Lib.hid (by rw [stP_next, ← HP.out, HV.out, HU.out])
      have HC2 : Hid (y ++ (z ++ codeD ⟨p0, p1, q0, q1⟩ v) = codeP Cad.Code.start xs (j + 1)) := Lib.hid (by rw [codeP_next, ← HYZ.out, ← HP.out, HV.out, List.append_assoc])
      have cL_5 : wr.cell? ⟨bl, ol + j, none⟩ = some (.int .u32 (v : Int)) := (bb_5.cell (p := ⟨bl, ol + j, none⟩) hbL).trans CL.out
      have hlt1 : (j : Int) < (n : Int) := by omega
      go_wp2_with fail
      refine (dwrite_c Z mz cz z (z ++ codeD ⟨p0, p1, q0, q1⟩ v) _ (by exact RowIn.row (lo := loz) (hi := hiz) (by repeat' (first | (with_reducible assumption) | (with_reducible exact Below.refl _ _) | (with_reducible refine Blk.drewN ?_ _) | (with_reducible refine RowIn.drewN ?_ _) | (with_reducible refine below_drewN ?_ _) | (with_reducible refine Blk.drew ?_) | (with_reducible refine RowIn.drew ?_) | (with_reducible refine Below.drew ?_) | (with_reducible refine Blk.new' ?_ ?_ <;> first | (with_reducible rfl) | (simp; done)) | (with_reducible refine Blk.alloc ?_ _) | (with_reducible refine RowIn.alloc ?_ _) | (with_reducible refine Below.alloc ?_ ?_ _) | (with_reducible apply Blk.set') | (with_reducible apply Blk.far') | (with_reducible refine RowIn.far' ?_ ?_ _) | (with_reducible refine Below.far' ?_ ?_ _) | rfl | omega | go_size))) hcz (by omega) HPO.out hv32 0 HW.out).mono ?_
      rintro e w6 ⟨Ax, mx, cx, xx, rfl, hcx, rx, HXx, b6⟩
      have Lx : xx.length ≤ z.length + L ∧ z.length + L ≤ xx.length := by rw [HXx.out]; rw [List.length_append, codeD_len, ← HL.out]; omega
      obtain ⟨Lx1, Lx2⟩ := Lx
      replace rx := rx.mono (lo' := wr.heap.size + 0) (by go_size) (Nat.le_refl _)
      have s6 := b6.size
      try simp only [World.size_alloc, World.size_setCell, World.size_drew, size_drewN] at s6
      obtain ⟨zr_6, za_6, zp_6, zd_6, ry_6, rz_6, rx_6, bb_6⟩ : Blk w6 (w.heap.size) 54 [.slice none 0 0, .int .i64 0] ∧ Blk w6 (w.heap.size + 1) 54 [.slice Y my cy, .int .i64 ((y.length : Nat) : Int)] ∧ Blk w6 (w.heap.size + 1 + 1) 54 [.slice Z mz cz, .int .i64 ((z.length : Nat) : Int)] ∧ Blk w6 (w1.heap.size) 46 [.int .i64 (p0 : Int), .int .i64 (p1 : Int), .int .u64 (q0 : Int), .int .u64 (q1 : Int)] ∧ RowIn .u8 w6 (loy) (hiy) Y my (pack y) ∧ RowIn .u8 w6 (loz) (hiz) Z mz (pack z) ∧ RowIn .u8 w6 (wr.heap.size + 0) (w6.heap.size) Ax mx (pack xx) ∧ Below w.heap.size w w6 := by
        refine ⟨?_, ?_, ?_, ?_, ?_, ?_, ?_, ?_⟩
        all_goals repeat' (first | (with_reducible assumption) | (with_reducible exact Below.refl _ _) | (with_reducible refine Blk.drewN ?_ _) | (with_reducible refine RowIn.drewN ?_ _) | (with_reducible refine below_drewN ?_ _) | (with_reducible refine Blk.drew ?_) | (with_reducible refine RowIn.drew ?_) | (with_reducible refine Below.drew ?_) | (with_reducible refine Blk.new' ?_ ?_ <;> first | (with_reducible rfl) | (simp; done)) | (with_reducible refine Blk.alloc ?_ _) | (with_reducible refine RowIn.alloc ?_ _) | (with_reducible refine Below.alloc ?_ ?_ _) | (with_reducible apply Blk.set') | (with_reducible apply Blk.far') | (with_reducible refine RowIn.far' ?_ ?_ _) | (with_reducible refine Below.far' ?_ ?_ _) | (with_reducible refine Blk.after ?_ b6) | (with_reducible refine RowIn.belowS ?_ b6) | (with_reducible refine Below.after ?_ b6 ?_) | rfl | omega | go_size)
      clear zr_5 za_5 zp_5 zd_5 kr_5 ka_5 kp_5 kd_5 fr_5 fa_5 fp_5 fd_5 lr_5 la_5 lp_5 ld_5 ry_5 rz_5 bb_5 cL_5 b6
      have kr_6 := zr_6.cell; have fr_6 := zr_6.frozen; have lr_6 := zr_6.lt
      have ka_6 := za_6.cell; have fa_6 := za_6.frozen; have la_6 := za_6.lt
      have kp_6 := zp_6.cell; have fp_6 := zp_6.frozen; have lp_6 := zp_6.lt
      have kd_6 := zd_6.cell; have fd_6 := zd_6.frozen; have ld_6 := zd_6.lt
      have cL_6 : w6.cell? ⟨bl, ol + j, none⟩ = some (.int .u32 (v : Int)) := (bb_6.cell (p := ⟨bl, ol + j, none⟩) hbL).trans CL.out
      clear rx
      by_cases hf : (j : Int) % 16 = 15
      · have t1 : ((j : Int) % 16 == 15) = true := beq_iff_eq.2 hf
        clear hf
        go_wp2_with fail
        obtain ⟨w7, hw7⟩ : ∃ w7, w7 = ((((((w6.setCell ⟨w.heap.size + 1 + 1, 0, none⟩ (.slice Ax mx cx)).setCell ⟨w.heap.size + 1 + 1, 1, none⟩ (.int .i64 ((xx.length : Nat) : Int))).setCell ⟨w1.heap.size, 0, none⟩ (.int .i64 (u0 : Int))).setCell ⟨w1.heap.size, 1, none⟩ (.int .i64 (u1 : Int))).setCell ⟨w1.heap.size, 2, none⟩ (.int .u64 (v0 : Int))).setCell ⟨w1.heap.size, 3, none⟩ (.int .u64 (v1 : Int))) := ⟨_, rfl⟩
        have zr_7 : Blk w7 (w.heap.size) 54 [.slice none 0 0, .int .i64 0] := by rw [hw7]; exact Blk.far4 (Blk.far2 zr_6 (by omega)) (by omega)
        have za_7 : Blk w7 (w.heap.size + 1) 54 [.slice Y my cy, .int .i64 ((y.length : Nat) : Int)] := by rw [hw7]; exact Blk.far4 (Blk.far2 za_6 (by omega)) (by omega)
        have zp_7 : Blk w7 (w.heap.size + 1 + 1) 54 [.slice Ax mx cx, .int .i64 ((xx.length : Nat) : Int)] := by rw [hw7]; exact Blk.far4 (Blk.set2 zp_6) (by omega)
        have zd_7 : Blk w7 (w1.heap.size) 46 [.int .i64 (u0 : Int), .int .i64 (u1 : Int), .int .u64 (v0 : Int), .int .u64 (v1 : Int)] := by rw [hw7]; exact Blk.set4 (Blk.far2 zd_6 (by omega))
        have ry_7 : RowIn .u8 w7 loy hiy Y my (pack y) := by rw [hw7]; exact RowIn.far4 (RowIn.far2 ry_6 (Or.inl (by omega))) (Or.inl (by omega))
        have rx_7 : RowIn .u8 w7 (wr.heap.size + 0) w6.heap.size Ax mx (pack xx) := by rw [hw7]; exact RowIn.far4 (RowIn.far2 rx_6 (Or.inl (by omega))) (Or.inl (by omega))
        have bb_7 : Below w.heap.size w w7 := by rw [hw7]; exact Below.far4 (Below.far2 bb_6 (by omega)) (by omega)
        have s7 : w6.heap.size ≤ w7.heap.size := by rw [hw7]; simp [World.setCell]
        rw [← hw7]
        clear hw7
        clear zr_6 za_6 zp_6 zd_6 ry_6 rz_6 rx_6 bb_6 kr_6 fr_6 lr_6 ka_6 fa_6 la_6 kp_6 fp_6 lp_6 kd_6 fd_6 ld_6 cL_6
        have kr_7 := zr_7.cell; have fr_7 := zr_7.frozen; have lr_7 := zr_7.lt
        have ka_7 := za_7.cell; have fa_7 := za_7.frozen; have la_7 := za_7.lt
        have kp_7 := zp_7.cell; have fp_7 := zp_7.frozen; have lp_7 := zp_7.lt
        have kd_7 := zd_7.cell; have fd_7 := zd_7.frozen; have ld_7 := zd_7.lt
        refine (bjoin_ok Y Ax my cy mx cx y xx _ (by exact RowIn.row (lo := loy) (hi := hiy) (by repeat' (first | (with_reducible assumption) | (with_reducible exact Below.refl _ _) | (with_reducible refine Blk.drewN ?_ _) | (with_reducible refine RowIn.drewN ?_ _) | (with_reducible refine below_drewN ?_ _) | (with_reducible refine Blk.drew ?_) | (with_reducible refine RowIn.drew ?_) | (with_reducible refine Below.drew ?_) | (with_reducible refine Blk.new' ?_ ?_ <;> first | (with_reducible rfl) | (simp; done)) | (with_reducible refine Blk.alloc ?_ _) | (with_reducible refine RowIn.alloc ?_ _) | (with_reducible refine Below.alloc ?_ ?_ _) | (with_reducible apply Blk.set') | (with_reducible apply Blk.far') | (with_reducible refine RowIn.far' ?_ ?_ _) | (with_reducible refine Below.far' ?_ ?_ _) | rfl | omega | go_size))) (by exact RowIn.row (lo := wr.heap.size + 0) (hi := w6.heap.size) (by repeat' (first | (with_reducible assumption) | (with_reducible exact Below.refl _ _) | (with_reducible refine Blk.drewN ?_ _) | (with_reducible refine RowIn.drewN ?_ _) | (with_reducible refine below_drewN ?_ _) | (with_reducible refine Blk.drew ?_) | (with_reducible refine RowIn.drew ?_) | (with_reducible refine Below.drew ?_) | (with_reducible refine Blk.new' ?_ ?_ <;> first | (with_reducible rfl) | (simp; done)) | (with_reducible refine Blk.alloc ?_ _) | (with_reducible refine RowIn.alloc ?_ _) | (with_reducible refine Below.alloc ?_ ?_ _) | (with_reducible apply Blk.set') | (with_reducible apply Blk.far') | (with_reducible refine RowIn.far' ?_ ?_ _) | (with_reducible refine Below.far' ?_ ?_ _) | rfl | omega | go_size))) hcy hcx (by omega)).mono ?_
        rintro e w8 ⟨Au, mu, cu, xu, rfl, hcu, ru, HXu, b8⟩
        have Lu : xu.length ≤ y.length + xx.length ∧ y.length + xx.length ≤ xu.length := by rw [HXu.out]; simp only [List.length_append, lowBits_len, List.length_nil, List.length_take, List.length_drop, unpack_len]; omega
        obtain ⟨Lu1, Lu2⟩ := Lu
        replace ru := ru.mono (lo' := w7.heap.size + 0) (by go_size) (Nat.le_refl _)
        have s8 := b8.size
        try simp only [World.size_alloc, World.size_setCell, World.size_drew, size_drewN] at s8
        obtain ⟨zr_8, za_8, zp_8, zd_8, ry_8, rx_8, ru_8, bb_8⟩ : Blk w8 (w.heap.size) 54 [.slice none 0 0, .int .i64 0] ∧ Blk w8 (w.heap.size + 1) 54 [.slice Y my cy, .int .i64 ((y.length : Nat) : Int)] ∧ Blk w8 (w.heap.size + 1 + 1) 54 [.slice Ax mx cx, .int .i64 ((xx.length : Nat) : Int)] ∧ Blk w8 (w1.heap.size) 46 [.int .i64 (u0 : Int), .int .i64 (u1 : Int), .int .u64 (v0 : Int), .int .u64 (v1 : Int)] ∧ RowIn .u8 w8 (loy) (hiy) Y my (pack y) ∧ RowIn .u8 w8 (wr.heap.size + 0) (w6.heap.size) Ax mx (pack xx) ∧ RowIn .u8 w8 (w7.heap.size + 0) (w8.heap.size) Au mu (pack xu) ∧ Below w.heap.size w w8 := by
          refine ⟨?_, ?_, ?_, ?_, ?_, ?_, ?_, ?_⟩
          all_goals repeat' (first | (with_reducible assumption) | (with_reducible exact Below.refl _ _) | (with_reducible refine Blk.drewN ?_ _) | (with_reducible refine RowIn.drewN ?_ _) | (with_reducible refine below_drewN ?_ _) | (with_reducible refine Blk.drew ?_) | (with_reducible refine RowIn.drew ?_) | (with_reducible refine Below.drew ?_) | (with_reducible refine Blk.new' ?_ ?_ <;> first | (with_reducible rfl) | (simp; done)) | (with_reducible refine Blk.alloc ?_ _) | (with_reducible refine RowIn.alloc ?_ _) | (with_reducible refine Below.alloc ?_ ?_ _) | (with_reducible apply Blk.set') | (with_reducible apply Blk.far') | (with_reducible refine RowIn.far' ?_ ?_ _) | (with_reducible refine Below.far' ?_ ?_ _) | (with_reducible refine Blk.after ?_ b8) | (with_reducible refine RowIn.belowS ?_ b8) | (with_reducible refine Below.after ?_ b8 ?_) | rfl | omega | go_size)
        clear zr_7 za_7 zp_7 zd_7 ry_7 rx_7 bb_7 kr_7 fr_7 lr_7 ka_7 fa_7 la_7 kp_7 fp_7 lp_7 kd_7 fd_7 ld_7 b8
        have kr_8 := zr_8.cell; have fr_8 := zr_8.frozen; have lr_8 := zr_8.lt
        have ka_8 := za_8.cell; have fa_8 := za_8.frozen; have la_8 := za_8.lt
        have kp_8 := zp_8.cell; have fp_8 := zp_8.frozen; have lp_8 := zp_8.lt
        have kd_8 := zd_8.cell; have fd_8 := zd_8.frozen; have ld_8 := zd_8.lt
        clear ru
        go_wp2
        go_roundg (n - (j + 1))
        case measure => omega
        case rel =>
          refine ⟨j + 1, u0, u1, v0, v1, mu, cu, 0, 0, w7.heap.size + 0, w8.heap.size, w1.heap.size + 1, w1.heap.size + 1, Au, none, xu, [], by omega, by go_num, HP2, by rw [List.append_nil, HXu.out, HXx.out]; exact HC2, Lib.hid (fun h => rfl), by simp; omega, hcu, ⟨Nat.le_refl _, Nat.zero_le _⟩, by omega, by omega, by go_size, ?_, ?_, ?_, ?_, ?_, RowIn.nil, ?_⟩
          · first | (with_reducible exact Blk.far2 (Blk.far2 zr_8 (by omega)) (by omega)) | (with_reducible exact (Blk.far2 (Blk.far2 zr_8 (by omega)) (by omega)).drew) | (with_reducible exact Blk.far2 (Blk.far2 zr_8.drew (by omega)) (by omega)) | (exact Blk.far2 (Blk.far2 zr_8 (by omega)) (by omega)) | (trace_state; fail)
          · first | (with_reducible exact Blk.far2 (Blk.set2 za_8) (by omega)) | (with_reducible exact (Blk.far2 (Blk.set2 za_8) (by omega)).drew) | (with_reducible exact Blk.far2 (Blk.set2 za_8.drew) (by omega)) | (exact Blk.far2 (Blk.set2 za_8) (by omega)) | (trace_state; fail)
          · first | (with_reducible exact Blk.set2 (Blk.far2 zp_8 (by omega))) | (with_reducible exact (Blk.set2 (Blk.far2 zp_8 (by omega))).drew) | (with_reducible exact Blk.set2 (Blk.far2 zp_8.drew (by omega))) | (exact Blk.set2 (Blk.far2 zp_8 (by omega))) | (trace_state; fail)
          · first | (with_reducible exact Blk.far2 (Blk.far2 zd_8 (by omega)) (by omega)) | (with_reducible exact (Blk.far2 (Blk.far2 zd_8 (by omega)) (by omega)).drew) | (with_reducible exact Blk.far2 (Blk.far2 zd_8.drew (by omega)) (by omega)) | (exact Blk.far2 (Blk.far2 zd_8 (by omega)) (by omega)) | (trace_state; fail)
          · first | (with_reducible exact RowIn.far2 (RowIn.far2 ru_8 (Or.inl (by omega))) (Or.inl (by omega))) | (with_reducible exact (RowIn.far2 (RowIn.far2 ru_8 (Or.inl (by omega))) (Or.inl (by omega))).drew) | (with_reducible exact RowIn.far2 (RowIn.far2 ru_8.drew (Or.inl (by omega))) (Or.inl (by omega))) | (exact RowIn.far2 (RowIn.far2 ru_8 (Or.inl (by omega))) (Or.inl (by omega))) | (trace_state; fail)
          · first | (with_reducible exact Below.far2 (Below.far2 bb_8 (by omega)) (by omega)) | (with_reducible exact (Below.far2 (Below.far2 bb_8 (by omega)) (by omega)).drew) | (with_reducible exact Below.far2 (Below.far2 bb_8.drew (by omega)) (by omega)) | (exact Below.far2 (Below.far2 bb_8 (by omega)) (by omega)) | (trace_state; fail)
      by_cases hf2 : j + 1 = n
      · have t1 : ((j : Int) % 16 == 15) = false := beq_eq_false_iff_ne.2 hf
        have t2 : ((j : Int) == (n : Int) - 1) = true := beq_iff_eq.2 (by omega)
        clear hf
        go_wp2_with fail
        obtain ⟨w7, hw7⟩ : ∃ w7, w7 = ((((((w6.setCell ⟨w.heap.size + 1 + 1, 0, none⟩ (.slice Ax mx cx)).setCell ⟨w.heap.size + 1 + 1, 1, none⟩ (.int .i64 ((xx.length : Nat) : Int))).setCell ⟨w1.heap.size, 0, none⟩ (.int .i64 (u0 : Int))).setCell ⟨w1.heap.size, 1, none⟩ (.int .i64 (u1 : Int))).setCell ⟨w1.heap.size, 2, none⟩ (.int .u64 (v0 : Int))).setCell ⟨w1.heap.size, 3, none⟩ (.int .u64 (v1 : Int))) := ⟨_, rfl⟩
        have zr_7 : Blk w7 (w.heap.size) 54 [.slice none 0 0, .int .i64 0] := by rw [hw7]; exact Blk.far4 (Blk.far2 zr_6 (by omega)) (by omega)
        have za_7 : Blk w7 (w.heap.size + 1) 54 [.slice Y my cy, .int .i64 ((y.length : Nat) : Int)] := by rw [hw7]; exact Blk.far4 (Blk.far2 za_6 (by omega)) (by omega)
        have zp_7 : Blk w7 (w.heap.size + 1 + 1) 54 [.slice Ax mx cx, .int .i64 ((xx.length : Nat) : Int)] := by rw [hw7]; exact Blk.far4 (Blk.set2 zp_6) (by omega)
        have zd_7 : Blk w7 (w1.heap.size) 46 [.int .i64 (u0 : Int), .int .i64 (u1 : Int), .int .u64 (v0 : Int), .int .u64 (v1 : Int)] := by rw [hw7]; exact Blk.set4 (Blk.far2 zd_6 (by omega))
        have ry_7 : RowIn .u8 w7 loy hiy Y my (pack y) := by rw [hw7]; exact RowIn.far4 (RowIn.far2 ry_6 (Or.inl (by omega))) (Or.inl (by omega))
        have rx_7 : RowIn .u8 w7 (wr.heap.size + 0) w6.heap.size Ax mx (pack xx) := by rw [hw7]; exact RowIn.far4 (RowIn.far2 rx_6 (Or.inl (by omega))) (Or.inl (by omega))
        have bb_7 : Below w.heap.size w w7 := by rw [hw7]; exact Below.far4 (Below.far2 bb_6 (by omega)) (by omega)
        have s7 : w6.heap.size ≤ w7.heap.size := by rw [hw7]; simp [World.setCell]
        rw [← hw7]
        clear hw7
        clear zr_6 za_6 zp_6 zd_6 ry_6 rz_6 rx_6 bb_6 kr_6 fr_6 lr_6 ka_6 fa_6 la_6 kp_6 fp_6 lp_6 kd_6 fd_6 ld_6 cL_6
        have kr_7 := zr_7.cell; have fr_7 := zr_7.frozen; have lr_7 := zr_7.lt
        have ka_7 := za_7.cell; have fa_7 := za_7.frozen; have la_7 := za_7.lt
        have kp_7 := zp_7.cell; have fp_7 := zp_7.frozen; have lp_7 := zp_7.lt
        have kd_7 := zd_7.cell; have fd_7 := zd_7.frozen; have ld_7 := zd_7.lt
        refine (bjoin_ok Y Ax my cy mx cx y xx _ (by exact RowIn.row (lo := loy) (hi := hiy) (by repeat' (first | (with_reducible assumption) | (with_reducible exact Below.refl _ _) | (with_reducible refine Blk.drewN ?_ _) | (with_reducible refine RowIn.drewN ?_ _) | (with_reducible refine below_drewN ?_ _) | (with_reducible refine Blk.drew ?_) | (with_reducible refine RowIn.drew ?_) | (with_reducible refine Below.drew ?_) | (with_reducible refine Blk.new' ?_ ?_ <;> first | (with_reducible rfl) | (simp; done)) | (with_reducible refine Blk.alloc ?_ _) | (with_reducible refine RowIn.alloc ?_ _) | (with_reducible refine Below.alloc ?_ ?_ _) | (with_reducible apply Blk.set') | (with_reducible apply Blk.far') | (with_reducible refine RowIn.far' ?_ ?_ _) | (with_reducible refine Below.far' ?_ ?_ _) | rfl | omega | go_size))) (by exact RowIn.row (lo := wr.heap.size + 0) (hi := w6.heap.size) (by repeat' (first | (with_reducible assumption) | (with_reducible exact Below.refl _ _) | (with_reducible refine Blk.drewN ?_ _) | (with_reducible refine RowIn.drewN ?_ _) | (with_reducible refine below_drewN ?_ _) | (with_reducible refine Blk.drew ?_) | (with_reducible refine RowIn.drew ?_) | (with_reducible refine Below.drew ?_) | (with_reducible refine Blk.new' ?_ ?_ <;> first | (with_reducible rfl) | (simp; done)) | (with_reducible refine Blk.alloc ?_ _) | (with_reducible refine RowIn.alloc ?_ _) | (with_reducible refine Below.alloc ?_ ?_ _) | (with_reducible apply Blk.set') | (with_reducible apply Blk.far') | (with_reducible refine RowIn.far' ?_ ?_ _) | (with_reducible refine Below.far' ?_ ?_ _) | rfl | omega | go_size))) hcy hcx (by omega)).mono ?_
        rintro e w8 ⟨Au, mu, cu, xu, rfl, hcu, ru, HXu, b8⟩
        have Lu : xu.length ≤ y.length + xx.length ∧ y.length + xx.length ≤ xu.length := by rw [HXu.out]; simp only [List.length_append, lowBits_len, List.length_nil, List.length_take, List.length_drop, unpack_len]; omega
        obtain ⟨Lu1, Lu2⟩ := Lu
        replace ru := ru.mono (lo' := w7.heap.size + 0) (by go_size) (Nat.le_refl _)
        have s8 := b8.size
        try simp only [World.size_alloc, World.size_setCell, World.size_drew, size_drewN] at s8
        obtain ⟨zr_8, za_8, zp_8, zd_8, ry_8, rx_8, ru_8, bb_8⟩ : Blk w8 (w.heap.size) 54 [.slice none 0 0, .int .i64 0] ∧ Blk w8 (w.heap.size + 1) 54 [.slice Y my cy, .int .i64 ((y.length : Nat) : Int)] ∧ Blk w8 (w.heap.size + 1 + 1) 54 [.slice Ax mx cx, .int .i64 ((xx.length : Nat) : Int)] ∧ Blk w8 (w1.heap.size) 46 [.int .i64 (u0 : Int), .int .i64 (u1 : Int), .int .u64 (v0 : Int), .int .u64 (v1 : Int)] ∧ RowIn .u8 w8 (loy) (hiy) Y my (pack y) ∧ RowIn .u8 w8 (wr.heap.size + 0) (w6.heap.size) Ax mx (pack xx) ∧ RowIn .u8 w8 (w7.heap.size + 0) (w8.heap.size) Au mu (pack xu) ∧ Below w.heap.size w w8 := by
          refine ⟨?_, ?_, ?_, ?_, ?_, ?_, ?_, ?_⟩
          all_goals repeat' (first | (with_reducible assumption) | (with_reducible exact Below.refl _ _) | (with_reducible refine Blk.drewN ?_ _) | (with_reducible refine RowIn.drewN ?_ _) | (with_reducible refine below_drewN ?_ _) | (with_reducible refine Blk.drew ?_) | (with_reducible refine RowIn.drew ?_) | (with_reducible refine Below.drew ?_) | (with_reducible refine Blk.new' ?_ ?_ <;> first | (with_reducible rfl) | (simp; done)) | (with_reducible refine Blk.alloc ?_ _) | (with_reducible refine RowIn.alloc ?_ _) | (with_reducible refine Below.alloc ?_ ?_ _) | (with_reducible apply Blk.set') | (with_reducible apply Blk.far') | (with_reducible refine RowIn.far' ?_ ?_ _) | (with_reducible refine Below.far' ?_ ?_ _) | (with_reducible refine Blk.after ?_ b8) | (with_reducible refine RowIn.belowS ?_ b8) | (with_reducible refine Below.after ?_ b8 ?_) | rfl | omega | go_size)
        clear zr_7 za_7 zp_7 zd_7 ry_7 rx_7 bb_7 kr_7 fr_7 lr_7 ka_7 fa_7 la_7 kp_7 fp_7 lp_7 kd_7 fd_7 ld_7 b8
        have kr_8 := zr_8.cell; have fr_8 := zr_8.frozen; have lr_8 := zr_8.lt
        have ka_8 := za_8.cell; have fa_8 := za_8.frozen; have la_8 := za_8.lt
        have kp_8 := zp_8.cell; have fp_8 := zp_8.frozen; have lp_8 := zp_8.lt
        have kd_8 := zd_8.cell; have fd_8 := zd_8.frozen; have ld_8 := zd_8.lt
        clear ru
        go_wp2
        go_roundg (n - (j + 1))
        case measure => omega
        case rel =>
          refine ⟨j + 1, u0, u1, v0, v1, mu, cu, 0, 0, w7.heap.size + 0, w8.heap.size, w1.heap.size + 1, w1.heap.size + 1, Au, none, xu, [], by omega, by go_num, HP2, by rw [List.append_nil, HXu.out, HXx.out]; exact HC2, Lib.hid (fun h => rfl), by simp; omega, hcu, ⟨Nat.le_refl _, Nat.zero_le _⟩, by omega, by omega, by go_size, ?_, ?_, ?_, ?_, ?_, RowIn.nil, ?_⟩
          · first | (with_reducible exact Blk.far2 (Blk.far2 zr_8 (by omega)) (by omega)) | (with_reducible exact (Blk.far2 (Blk.far2 zr_8 (by omega)) (by omega)).drew) | (with_reducible exact Blk.far2 (Blk.far2 zr_8.drew (by omega)) (by omega)) | (exact Blk.far2 (Blk.far2 zr_8 (by omega)) (by omega)) | (trace_state; fail)
          · first | (with_reducible exact Blk.far2 (Blk.set2 za_8) (by omega)) | (with_reducible exact (Blk.far2 (Blk.set2 za_8) (by omega)).drew) | (with_reducible exact Blk.far2 (Blk.set2 za_8.drew) (by omega)) | (exact Blk.far2 (Blk.set2 za_8) (by omega)) | (trace_state; fail)
          · first | (with_reducible exact Blk.set2 (Blk.far2 zp_8 (by omega))) | (with_reducible exact (Blk.set2 (Blk.far2 zp_8 (by omega))).drew) | (with_reducible exact Blk.set2 (Blk.far2 zp_8.drew (by omega))) | (exact Blk.set2 (Blk.far2 zp_8 (by omega))) | (trace_state; fail)
          · first | (with_reducible exact Blk.far2 (Blk.far2 zd_8 (by omega)) (by omega)) | (with_reducible exact (Blk.far2 (Blk.far2 zd_8 (by omega)) (by omega)).drew) | (with_reducible exact Blk.far2 (Blk.far2 zd_8.drew (by omega)) (by omega)) | (exact Blk.far2 (Blk.far2 zd_8 (by omega)) (by omega)) | (trace_state; fail)
          · first | (with_reducible exact RowIn.far2 (RowIn.far2 ru_8 (Or.inl (by omega))) (Or.inl (by omega))) | (with_reducible exact (RowIn.far2 (RowIn.far2 ru_8 (Or.inl (by omega))) (Or.inl (by omega))).drew) | (with_reducible exact RowIn.far2 (RowIn.far2 ru_8.drew (Or.inl (by omega))) (Or.inl (by omega))) | (exact RowIn.far2 (RowIn.far2 ru_8 (Or.inl (by omega))) (Or.inl (by omega))) | (trace_state; fail)
          · first | (with_reducible exact Below.far2 (Below.far2 bb_8 (by omega)) (by omega)) | (with_reducible exact (Below.far2 (Below.far2 bb_8 (by omega)) (by omega)).drew) | (with_reducible exact Below.far2 (Below.far2 bb_8.drew (by omega)) (by omega)) | (exact Below.far2 (Below.far2 bb_8 (by omega)) (by omega)) | (trace_state; fail)
      · have t1 : ((j : Int) % 16 == 15) = false := beq_eq_false_iff_ne.2 hf
        have t2 : ((j : Int) == (n : Int) - 1) = false := beq_eq_false_iff_ne.2 (by omega)
        have hjn : j + 1 ≠ n := hf2
        go_wp2
        obtain ⟨w7, hw7⟩ : ∃ w7, w7 = ((((((w6.setCell ⟨w.heap.size + 1 + 1, 0, none⟩ (.slice Ax mx cx)).setCell ⟨w.heap.size + 1 + 1, 1, none⟩ (.int .i64 ((xx.length : Nat) : Int))).setCell ⟨w1.heap.size, 0, none⟩ (.int .i64 (u0 : Int))).setCell ⟨w1.heap.size, 1, none⟩ (.int .i64 (u1 : Int))).setCell ⟨w1.heap.size, 2, none⟩ (.int .u64 (v0 : Int))).setCell ⟨w1.heap.size, 3, none⟩ (.int .u64 (v1 : Int))) := ⟨_, rfl⟩
        have zr_7 : Blk w7 (w.heap.size) 54 [.slice none 0 0, .int .i64 0] := by rw [hw7]; exact Blk.far4 (Blk.far2 zr_6 (by omega)) (by omega)
        have za_7 : Blk w7 (w.heap.size + 1) 54 [.slice Y my cy, .int .i64 ((y.length : Nat) : Int)] := by rw [hw7]; exact Blk.far4 (Blk.far2 za_6 (by omega)) (by omega)
        have zp_7 : Blk w7 (w.heap.size + 1 + 1) 54 [.slice Ax mx cx, .int .i64 ((xx.length : Nat) : Int)] := by rw [hw7]; exact Blk.far4 (Blk.set2 zp_6) (by omega)
        have zd_7 : Blk w7 (w1.heap.size) 46 [.int .i64 (u0 : Int), .int .i64 (u1 : Int), .int .u64 (v0 : Int), .int .u64 (v1 : Int)] := by rw [hw7]; exact Blk.set4 (Blk.far2 zd_6 (by omega))
        have ry_7 : RowIn .u8 w7 loy hiy Y my (pack y) := by rw [hw7]; exact RowIn.far4 (RowIn.far2 ry_6 (Or.inl (by omega))) (Or.inl (by omega))
        have rx_7 : RowIn .u8 w7 (wr.heap.size + 0) w6.heap.size Ax mx (pack xx) := by rw [hw7]; exact RowIn.far4 (RowIn.far2 rx_6 (Or.inl (by omega))) (Or.inl (by omega))
        have bb_7 : Below w.heap.size w w7 := by rw [hw7]; exact Below.far4 (Below.far2 bb_6 (by omega)) (by omega)
        have s7 : w6.heap.size ≤ w7.heap.size := by rw [hw7]; simp [World.setCell]
        rw [← hw7]
        clear hw7
        clear zr_6 za_6 zp_6 zd_6 ry_6 rz_6 rx_6 bb_6 kr_6 fr_6 lr_6 ka_6 fa_6 la_6 kp_6 fp_6 lp_6 kd_6 fd_6 ld_6 cL_6
        have kr_7 := zr_7.cell; have fr_7 := zr_7.frozen; have lr_7 := zr_7.lt
        have ka_7 := za_7.cell; have fa_7 := za_7.frozen; have la_7 := za_7.lt
        have kp_7 := zp_7.cell; have fp_7 := zp_7.frozen; have lp_7 := zp_7.lt
        have kd_7 := zd_7.cell; have fd_7 := zd_7.frozen; have ld_7 := zd_7.lt
        go_roundg (n - (j + 1))
        case measure => omega
        case rel => exact ⟨j + 1, u0, u1, v0, v1, my, cy, mx, cx, loy, hiy, wr.heap.size + 0, w6.heap.size, Y, Ax, y, xx, by omega, by go_num, HP2, by rw [HXx.out]; exact HC2, Lib.hid (fun h => absurd h hjn), by omega, hcy, hcx, hloy, by omega, by omega, zr_7, za_7, zp_7, zd_7, ry_7, rx_7, bb_7⟩
    · obtain rfl : j = n := by omega
      have hz := HLAST.out rfl
      have HYE : Hid (y = codeP Cad.Code.start xs j) := Lib.hid (by rw [← HYZ.out, hz, List.append_nil])
      clear hz
      go_wp2
      refine bodyPost_ret (v := .tuple #[.agg #[.slice Y my cy, .int .i64 ((y.length : Nat) : Int)], .int .i64 0]) (by simp [results, Try.results27, go_sem, kr_5, lr_5, fr_5]) rfl ?_
      refine ⟨Y, my, cy, y, rfl, hcy, ?_, HYE, ?_⟩
      · refine RowIn.mono (lo := loy) (hi := hiy) ?_ (by omega) ?_
        · exact RowIn.far2 ry_5 (Or.inl (by omega))
        · (try simp only [World.setCell]); simpa [World.setCell] using hhiy
      · exact Below.far2 bb_5 (by omega)


end Go.Proofs.Ytpohaikbbfochaa
