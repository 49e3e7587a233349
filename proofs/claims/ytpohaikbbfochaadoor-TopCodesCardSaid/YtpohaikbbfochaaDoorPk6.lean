/-
  Texts joined (CodM, FedC, Crc, CrcA, LeA, BlkA).
-/
import Derived.Test.YtpohaikbbfochaaDoorKit
import Derived.Test.YtpohaikbbfochaaDoorRows
import Derived.Deep.WholeRow
import Derived.Test.YtpohaikbbfochaaDoorPk5
/-
  Contract of coder.After.
-/
namespace Go.Proofs.YtpohaikbbfochaaDoor
open Go.RowKit Cad Cad.Bit Cad.Code
set_option linter.unusedVariables false
set_option linter.unusedSimpArgs false


/-- A state and an error are returned. -/
def RetS (w : World) (d : Dual) (er : Int) (e : Ending) (w' : World) : Prop :=
  ∃ u0 u1 v0 v1 : Nat, e = .returned (.tuple #[.agg #[.int .i64 (u0 : Int), .int .i64 (u1 : Int), .int .u64 (v0 : Int), .int .u64 (v1 : Int)], .int .i64 er]) ∧ Hid ((⟨u0, u1, v0, v1⟩ : Dual) = d) ∧ Below w.heap.size w w'

end Go.Proofs.YtpohaikbbfochaaDoor
/-
  Contract of coder.Encode.
-/
namespace Go.Proofs.YtpohaikbbfochaaDoor
open Go.RowKit Cad Cad.Bit Cad.Code
set_option linter.unusedVariables false
set_option linter.unusedSimpArgs false


theorem cenc_many (A : Option Addr) (n c : Nat) (w : World) (hn : 4000 < n) :
    Calls Tryd.prog 20 #[.slice A n c] w (RetB w [] 4) := by
  have ht0 : decide ((4000 : Int) < (n : Int)) = true := decide_eq_true (by omega)
  go_enter Tryd.func20, Tryd.ntmps20
  go_wp2
  have zr := Blk.new' (w := w) (g := w.heap.size) (t := 26) (l := [.slice none 0 0, .int .i64 0]) rfl rfl
  have kr := zr.cell; have lr := zr.lt
  refine bodyPost_ret (v := .tuple #[.agg #[.slice none 0 0, .int .i64 0], .int .i64 4]) (by simp [results, Tryd.results20, go_sem, kr, lr]) rfl ?_
  exact ⟨none, 0, 0, [], rfl, ⟨Nat.le_refl _, Nat.zero_le _⟩, RowIn.nil, Lib.hid rfl, by repeat' (first | (with_reducible assumption) | (with_reducible exact Below.refl _ _) | (with_reducible refine Blk.drewN ?_ _) | (with_reducible refine RowIn.drewN ?_ _) | (with_reducible refine below_drewN ?_ _) | (with_reducible refine Blk.drew ?_) | (with_reducible refine RowIn.drew ?_) | (with_reducible refine Below.drew ?_) | (with_reducible refine Blk.new' ?_ ?_ <;> first | (with_reducible rfl) | (simp; done)) | (with_reducible refine Blk.alloc ?_ _) | (with_reducible refine RowIn.alloc ?_ _) | (with_reducible refine Below.alloc ?_ ?_ _) | (with_reducible apply Blk.set') | (with_reducible apply Blk.far') | (with_reducible refine RowIn.far' ?_ ?_ _) | (with_reducible refine Below.far' ?_ ?_ _) | rfl | omega | go_size)⟩

set_option maxRecDepth 100000 in
set_option maxHeartbeats 4000000 in
theorem cenc_ok (A : Option Addr) (n c : Nat) (xs : List Int) (w : World) (ha : Row .u32 w A n xs) (hx : Within 0 4294967295 xs) (hn : n ≤ 4000) :
    Calls Tryd.prog 20 #[.slice A n c] w (RetB w (codeP Cad.Code.start xs n) 0) := by
  have ht0 : decide ((4000 : Int) < (n : Int)) = false := decide_eq_false (by omega)
  go_enter Tryd.func20, Tryd.ntmps20
  go_wp2_with fail
  refine (dstart_ok _).mono ?_
  rintro e w1 ⟨rfl, b1⟩
  have s1 := b1.size
  try simp only [World.size_alloc, World.size_setCell, World.size_drew, size_drewN] at s1
  obtain ⟨zr_1, za_1, zp_1, bb_1⟩ : Blk w1 (w.heap.size) 26 [.slice none 0 0, .int .i64 0] ∧ Blk w1 (w.heap.size + 1) 26 [.slice none 0 0, .int .i64 0] ∧ Blk w1 (w.heap.size + 1 + 1) 26 [.slice none 0 0, .int .i64 0] ∧ Below w.heap.size w w1 := by
    refine ⟨?_, ?_, ?_, ?_⟩
    all_goals repeat' (first | (with_reducible assumption) | (with_reducible exact Below.refl _ _) | (with_reducible refine Blk.drewN ?_ _) | (with_reducible refine RowIn.drewN ?_ _) | (with_reducible refine below_drewN ?_ _) | (with_reducible refine Blk.drew ?_) | (with_reducible refine RowIn.drew ?_) | (with_reducible refine Below.drew ?_) | (with_reducible refine Blk.new' ?_ ?_ <;> first | (with_reducible rfl) | (simp; done)) | (with_reducible refine Blk.alloc ?_ _) | (with_reducible refine RowIn.alloc ?_ _) | (with_reducible refine Below.alloc ?_ ?_ _) | (with_reducible apply Blk.set') | (with_reducible apply Blk.far') | (with_reducible refine RowIn.far' ?_ ?_ _) | (with_reducible refine Below.far' ?_ ?_ _) | (with_reducible refine Blk.after ?_ b1) | (with_reducible refine RowIn.belowS ?_ b1) | (with_reducible refine Below.after ?_ b1 ?_) | rfl | omega | go_size)
  clear b1
  have kr_1 := zr_1.cell; have fr_1 := zr_1.frozen; have lr_1 := zr_1.lt
  have ka_1 := za_1.cell; have fa_1 := za_1.frozen; have la_1 := za_1.lt
  have kp_1 := zp_1.cell; have fp_1 := zp_1.frozen; have lp_1 := zp_1.lt
  go_wp2_with fail
  go_loopg [17] n (fun k v wr => ∃ (j p0 p1 q0 q1 my cy mz cz loy hiy loz hiz : Nat) (Y Z : Option Addr) (y z : List Bool), j + k = n ∧ v = .int .i64 (j : Nat) ∧ Hid ((⟨p0, p1, q0, q1⟩ : Dual) = stP Cad.Code.start xs j) ∧ Hid (y ++ z = codeP Cad.Code.start xs j) ∧ Hid (j = n → z = []) ∧ y.length + z.length ≤ 81 * j ∧ (my ≤ cy ∧ cy ≤ 9223372036854775807) ∧ (mz ≤ cz ∧ cz ≤ 9223372036854775807) ∧ w1.heap.size + 1 ≤ loy ∧ w1.heap.size + 1 ≤ loz ∧ hiy ≤ wr.heap.size ∧ Blk wr (w.heap.size) 26 [.slice none 0 0, .int .i64 0] ∧ Blk wr (w.heap.size + 1) 26 [.slice Y my cy, .int .i64 ((y.length : Nat) : Int)] ∧ Blk wr (w.heap.size + 1 + 1) 26 [.slice Z mz cz, .int .i64 ((z.length : Nat) : Int)] ∧ Blk wr (w1.heap.size) 62 [.int .i64 (p0 : Int), .int .i64 (p1 : Int), .int .u64 (q0 : Int), .int .u64 (q1 : Int)] ∧ RowIn .u8 wr loy hiy Y my (pack y) ∧ RowIn .u8 wr loz hiz Z mz (pack z) ∧ Below w.heap.size w wr)
  case atStart =>
    refine ⟨0, 10, 10, 16384, 16384, 0, 0, 0, 0, w1.heap.size + 1, w1.heap.size + 1, w1.heap.size + 1, w1.heap.size + 1, none, none, [], [], by omega, rfl, Lib.hid rfl, Lib.hid rfl, Lib.hid (fun _ => rfl), by simp, ⟨Nat.le_refl _, Nat.zero_le _⟩, ⟨Nat.le_refl _, Nat.zero_le _⟩, by omega, by omega, by go_size, ?_, ?_, ?_, ?_, RowIn.nil, RowIn.nil, ?_⟩
    all_goals repeat' (first | (with_reducible assumption) | (with_reducible exact Below.refl _ _) | (with_reducible refine Blk.drewN ?_ _) | (with_reducible refine RowIn.drewN ?_ _) | (with_reducible refine below_drewN ?_ _) | (with_reducible refine Blk.drew ?_) | (with_reducible refine RowIn.drew ?_) | (with_reducible refine Below.drew ?_) | (with_reducible refine Blk.new' ?_ ?_ <;> first | (with_reducible rfl) | (simp; done)) | (with_reducible refine Blk.alloc ?_ _) | (with_reducible refine RowIn.alloc ?_ _) | (with_reducible refine Below.alloc ?_ ?_ _) | (with_reducible apply Blk.set') | (with_reducible apply Blk.far') | (with_reducible refine RowIn.far' ?_ ?_ _) | (with_reducible refine Below.far' ?_ ?_ _) | rfl | omega | go_size)
  case round =>
    obtain ⟨j, p0, p1, q0, q1, my, cy, mz, cz, loy, hiy, loz, hiz, Y, Z, y, z, hj, rfl, HP, HYZ, HLAST, hlen, hcy, hcz, hloy, hloz, hhiy, zr_5, za_5, zp_5, zd_5, ry_5, rz_5, bb_5⟩ := hrel
    clear zr_1 kr_1 fr_1 lr_1 za_1 ka_1 fa_1 la_1 zp_1 kp_1 fp_1 lp_1 bb_1
    have kr_5 := zr_5.cell; have fr_5 := zr_5.frozen; have lr_5 := zr_5.lt
    have ka_5 := za_5.cell; have fa_5 := za_5.frozen; have la_5 := za_5.lt
    have kp_5 := zp_5.cell; have fp_5 := zp_5.frozen; have lp_5 := zp_5.lt
    have kd_5 := zd_5.cell; have fd_5 := zd_5.frozen; have ld_5 := zd_5.lt
    have hw1 : w1.heap.size < wr.heap.size := ld_5
    by_cases hlt : j < n
    · obtain ⟨bl, ol, rfl, hbl, hcell⟩ := ha.at (by omega)
      obtain ⟨v, hv⟩ : ∃ v, nth xs j = v := ⟨_, rfl⟩
      have hvb := hx.nth (by decide) (by decide) j
      rw [hv] at hvb
      have c0 : w.cell? ⟨bl, ol + j, none⟩ = some (.int .u32 v) := by rw [hcell j hlt, hv]
      obtain ⟨v, rfl⟩ := Int.eq_ofNat_of_zero_le hvb.1
      have hv32 : v < 4294967296 := by omega
      have CL := Lib.hid c0
      have HV : Hid ((nth xs j).toNat = v) := Lib.hid (by rw [hv]; rfl)
      have hbL := hbl
      clear c0 hcell hv
      have hpo : Dual.Ok ⟨p0, p1, q0, q1⟩ := by rw [HP.out]; exact stP_ok start_ok hx j
      have HPO := Lib.hid hpo
      clear hpo
      obtain ⟨u0, u1, v0, v1, hu⟩ := Dual.four (learn ⟨p0, p1, q0, q1⟩ v)
      have HU := Lib.hid hu
      clear hu
      have hL : 1 ≤ lenD ⟨p0, p1, q0, q1⟩ v ∧ lenD ⟨p0, p1, q0, q1⟩ v ≤ 81 := lenD_le HPO.out v
      obtain ⟨L, HL⟩ : ∃ L, Hid (L = lenD ⟨p0, p1, q0, q1⟩ v) := ⟨_, Lib.hid rfl⟩
      rw [← HL.out] at hL
      obtain ⟨hL1, hL2⟩ := hL
      have HW : Hid (dwR z ⟨p0, p1, q0, q1⟩ v = (z ++ codeD ⟨p0, p1, q0, q1⟩ v, ⟨u0, u1, v0, v1⟩, 0)) := Lib.hid (by unfold dwR; rw [if_neg (by rw [← HL.out]; omega), HU.out])
      have HP2 : Hid ((⟨u0, u1, v0, v1⟩ : Dual) = stP Cad.Code.start xs (j + 1)) := Lib.hid (by rw [stP_next, ← HP.out, HV.out, HU.out])
      have HC2 : Hid (y ++ (z ++ codeD ⟨p0, p1, q0, q1⟩ v) = codeP Cad.Code.start xs (j + 1)) := Lib.hid (by rw [codeP_next, ← HYZ.out, ← HP.out, HV.out, List.append_assoc])
      have cL_5 : wr.cell? ⟨bl, ol + j, none⟩ = some (.int .u32 (v : Int)) := (bb_5.cell (p := ⟨bl, ol + j, none⟩) hbL).trans CL.out
      have hlt1 : (j : Int) < (n : Int) := by omega
      go_wp2_with fail
      refine (dwrite_c Z mz cz z (z ++ codeD ⟨p0, p1, q0, q1⟩ v) _ (by exact RowIn.row (lo := loz) (hi := hiz) (by repeat' (first | (with_reducible assumption) | (with_reducible exact Below.refl _ _) | (with_reducible refine Blk.drewN ?_ _) | (with_reducible refine RowIn.drewN ?_ _) | (with_reducible refine below_drewN ?_ _) | (with_reducible refine Blk.drew ?_) | (with_reducible refine RowIn.drew ?_) | (with_reducible refine Below.drew ?_) | (with_reducible refine Blk.new' ?_ ?_ <;> first | (with_reducible rfl) | (simp; done)) | (with_reducible refine Blk.alloc ?_ _) | (with_reducible refine RowIn.alloc ?_ _) | (with_reducible refine Below.alloc ?_ ?_ _) | (with_reducible apply Blk.set') | (with_reducible apply Blk.far') | (with_reducible refine RowIn.far' ?_ ?_ _) | (with_reducible refine Below.far' ?_ ?_ _) | rfl | omega | go_size))) hcz (by omega) HPO.out hv32 0 HW.out).mono ?_
      rintro e w6 ⟨Ax, mx, cx, xx, rfl, hcx, rx, HXx, b6⟩
      have Lx : xx.length ≤ z.length + L ∧ z.length + L ≤ xx.length := by rw [HXx.out]; rw [List.length_append, codeD_len, ← HL.out]; omega
      obtain ⟨Lx1, Lx2⟩ := Lx
      replace rx := rx.mono (lo' := wr.heap.size + 0) (by go_size) (Nat.le_refl _)
      have s6 := b6.size
      try simp only [World.size_alloc, World.size_setCell, World.size_drew, size_drewN] at s6
      obtain ⟨zr_6, za_6, zp_6, zd_6, ry_6, rz_6, rx_6, bb_6⟩ : Blk w6 (w.heap.size) 26 [.slice none 0 0, .int .i64 0] ∧ Blk w6 (w.heap.size + 1) 26 [.slice Y my cy, .int .i64 ((y.length : Nat) : Int)] ∧ Blk w6 (w.heap.size + 1 + 1) 26 [.slice Z mz cz, .int .i64 ((z.length : Nat) : Int)] ∧ Blk w6 (w1.heap.size) 62 [.int .i64 (p0 : Int), .int .i64 (p1 : Int), .int .u64 (q0 : Int), .int .u64 (q1 : Int)] ∧ RowIn .u8 w6 (loy) (hiy) Y my (pack y) ∧ RowIn .u8 w6 (loz) (hiz) Z mz (pack z) ∧ RowIn .u8 w6 (wr.heap.size + 0) (w6.heap.size) Ax mx (pack xx) ∧ Below w.heap.size w w6 := by
        refine ⟨?_, ?_, ?_, ?_, ?_, ?_, ?_, ?_⟩
        all_goals repeat' (first | (with_reducible assumption) | (with_reducible exact Below.refl _ _) | (with_reducible refine Blk.drewN ?_ _) | (with_reducible refine RowIn.drewN ?_ _) | (with_reducible refine below_drewN ?_ _) | (with_reducible refine Blk.drew ?_) | (with_reducible refine RowIn.drew ?_) | (with_reducible refine Below.drew ?_) | (with_reducible refine Blk.new' ?_ ?_ <;> first | (with_reducible rfl) | (simp; done)) | (with_reducible refine Blk.alloc ?_ _) | (with_reducible refine RowIn.alloc ?_ _) | (with_reducible refine Below.alloc ?_ ?_ _) | (with_reducible apply Blk.set') | (with_reducible apply Blk.far') | (with_reducible refine RowIn.far' ?_ ?_ _) | (with_reducible refine Below.far' ?_ ?_ _) | (with_reducible refine Blk.after ?_ b6) | (with_reducible refine RowIn.belowS ?_ b6) | (with_reducible refine Below.after ?_ b6 ?_) | rfl | omega | go_size)
      clear zr_5 za_5 zp_5 zd_5 kr_5 ka_5 kp_5 kd_5 fr_5 fa_5 fp_5 fd_5 lr_5 la_5 lp_5 ld_5 ry_5 rz_5 bb_5 cL_5 b6
      have kr_6 := zr_6.cell; have fr_6 := zr_6.frozen; have lr_6 := zr_6.lt
      have ka_6 := za_6.cell; have fa_6 := za_6.frozen; have la_6 := za_6.lt
      have kp_6 := zp_6.cell; have fp_6 := zp_6.frozen; have lp_6 := zp_6.lt
      have kd_6 := zd_6.cell; have fd_6 := zd_6.frozen; have ld_6 := zd_6.lt
      have cL_6 : w6.cell? ⟨bl, ol + j, none⟩ = some (.int .u32 (v : Int)) := (bb_6.cell (p := ⟨bl, ol + j, none⟩) hbL).trans CL.out
      clear rx
      by_cases hf : (j : Int) % 16 = 15
      · have t1 : ((j : Int) % 16 == 15) = true := beq_iff_eq.2 hf
        clear hf
        go_wp2_with fail
        obtain ⟨w7, hw7⟩ : ∃ w7, w7 = ((((((w6.setCell ⟨w.heap.size + 1 + 1, 0, none⟩ (.slice Ax mx cx)).setCell ⟨w.heap.size + 1 + 1, 1, none⟩ (.int .i64 ((xx.length : Nat) : Int))).setCell ⟨w1.heap.size, 0, none⟩ (.int .i64 (u0 : Int))).setCell ⟨w1.heap.size, 1, none⟩ (.int .i64 (u1 : Int))).setCell ⟨w1.heap.size, 2, none⟩ (.int .u64 (v0 : Int))).setCell ⟨w1.heap.size, 3, none⟩ (.int .u64 (v1 : Int))) := ⟨_, rfl⟩
        have zr_7 : Blk w7 (w.heap.size) 26 [.slice none 0 0, .int .i64 0] := by rw [hw7]; exact Blk.far4 (Blk.far2 zr_6 (by omega)) (by omega)
        have za_7 : Blk w7 (w.heap.size + 1) 26 [.slice Y my cy, .int .i64 ((y.length : Nat) : Int)] := by rw [hw7]; exact Blk.far4 (Blk.far2 za_6 (by omega)) (by omega)
        have zp_7 : Blk w7 (w.heap.size + 1 + 1) 26 [.slice Ax mx cx, .int .i64 ((xx.length : Nat) : Int)] := by rw [hw7]; exact Blk.far4 (Blk.set2 zp_6) (by omega)
        have zd_7 : Blk w7 (w1.heap.size) 62 [.int .i64 (u0 : Int), .int .i64 (u1 : Int), .int .u64 (v0 : Int), .int .u64 (v1 : Int)] := by rw [hw7]; exact Blk.set4 (Blk.far2 zd_6 (by omega))
        have ry_7 : RowIn .u8 w7 loy hiy Y my (pack y) := by rw [hw7]; exact RowIn.far4 (RowIn.far2 ry_6 (Or.inl (by omega))) (Or.inl (by omega))
        have rx_7 : RowIn .u8 w7 (wr.heap.size + 0) w6.heap.size Ax mx (pack xx) := by rw [hw7]; exact RowIn.far4 (RowIn.far2 rx_6 (Or.inl (by omega))) (Or.inl (by omega))
        have bb_7 : Below w.heap.size w w7 := by rw [hw7]; exact Below.far4 (Below.far2 bb_6 (by omega)) (by omega)
        have s7 : w6.heap.size ≤ w7.heap.size := by rw [hw7]; simp [World.setCell]
        rw [← hw7]
        clear hw7
        clear zr_6 za_6 zp_6 zd_6 ry_6 rz_6 rx_6 bb_6 kr_6 fr_6 lr_6 ka_6 fa_6 la_6 kp_6 fp_6 lp_6 kd_6 fd_6 ld_6 cL_6
        have kr_7 := zr_7.cell; have fr_7 := zr_7.frozen; have lr_7 := zr_7.lt
        have ka_7 := za_7.cell; have fa_7 := za_7.frozen; have la_7 := za_7.lt
        have kp_7 := zp_7.cell; have fp_7 := zp_7.frozen; have lp_7 := zp_7.lt
        have kd_7 := zd_7.cell; have fd_7 := zd_7.frozen; have ld_7 := zd_7.lt
        refine (bjoin_ok Y Ax my cy mx cx y xx _ (by exact RowIn.row (lo := loy) (hi := hiy) (by repeat' (first | (with_reducible assumption) | (with_reducible exact Below.refl _ _) | (with_reducible refine Blk.drewN ?_ _) | (with_reducible refine RowIn.drewN ?_ _) | (with_reducible refine below_drewN ?_ _) | (with_reducible refine Blk.drew ?_) | (with_reducible refine RowIn.drew ?_) | (with_reducible refine Below.drew ?_) | (with_reducible refine Blk.new' ?_ ?_ <;> first | (with_reducible rfl) | (simp; done)) | (with_reducible refine Blk.alloc ?_ _) | (with_reducible refine RowIn.alloc ?_ _) | (with_reducible refine Below.alloc ?_ ?_ _) | (with_reducible apply Blk.set') | (with_reducible apply Blk.far') | (with_reducible refine RowIn.far' ?_ ?_ _) | (with_reducible refine Below.far' ?_ ?_ _) | rfl | omega | go_size))) (by exact RowIn.row (lo := wr.heap.size + 0) (hi := w6.heap.size) (by repeat' (first | (with_reducible assumption) | (with_reducible exact Below.refl _ _) | (with_reducible refine Blk.drewN ?_ _) | (with_reducible refine RowIn.drewN ?_ _) | (with_reducible refine below_drewN ?_ _) | (with_reducible refine Blk.drew ?_) | (with_reducible refine RowIn.drew ?_) | (with_reducible refine Below.drew ?_) | (with_reducible refine Blk.new' ?_ ?_ <;> first | (with_reducible rfl) | (simp; done)) | (with_reducible refine Blk.alloc ?_ _) | (with_reducible refine RowIn.alloc ?_ _) | (with_reducible refine Below.alloc ?_ ?_ _) | (with_reducible apply Blk.set') | (with_reducible apply Blk.far') | (with_reducible refine RowIn.far' ?_ ?_ _) | (with_reducible refine Below.far' ?_ ?_ _) | rfl | omega | go_size))) hcy hcx (by omega)).mono ?_
        rintro e w8 ⟨Au, mu, cu, xu, rfl, hcu, ru, HXu, b8⟩
        have Lu : xu.length ≤ y.length + xx.length ∧ y.length + xx.length ≤ xu.length := by rw [HXu.out]; simp only [List.length_append, lowBits_len, List.length_nil, List.length_take, List.length_drop, unpack_len]; omega
        obtain ⟨Lu1, Lu2⟩ := Lu
        replace ru := ru.mono (lo' := w7.heap.size + 0) (by go_size) (Nat.le_refl _)
        have s8 := b8.size
        try simp only [World.size_alloc, World.size_setCell, World.size_drew, size_drewN] at s8
        obtain ⟨zr_8, za_8, zp_8, zd_8, ry_8, rx_8, ru_8, bb_8⟩ : Blk w8 (w.heap.size) 26 [.slice none 0 0, .int .i64 0] ∧ Blk w8 (w.heap.size + 1) 26 [.slice Y my cy, .int .i64 ((y.length : Nat) : Int)] ∧ Blk w8 (w.heap.size + 1 + 1) 26 [.slice Ax mx cx, .int .i64 ((xx.length : Nat) : Int)] ∧ Blk w8 (w1.heap.size) 62 [.int .i64 (u0 : Int), .int .i64 (u1 : Int), .int .u64 (v0 : Int), .int .u64 (v1 : Int)] ∧ RowIn .u8 w8 (loy) (hiy) Y my (pack y) ∧ RowIn .u8 w8 (wr.heap.size + 0) (w6.heap.size) Ax mx (pack xx) ∧ RowIn .u8 w8 (w7.heap.size + 0) (w8.heap.size) Au mu (pack xu) ∧ Below w.heap.size w w8 := by
          refine ⟨?_, ?_, ?_, ?_, ?_, ?_, ?_, ?_⟩
          all_goals repeat' (first | (with_reducible assumption) | (with_reducible exact Below.refl _ _) | (with_reducible refine Blk.drewN ?_ _) | (with_reducible refine RowIn.drewN ?_ _) | (with_reducible refine below_drewN ?_ _) | (with_reducible refine Blk.drew ?_) | (with_reducible refine RowIn.drew ?_) | (with_reducible refine Below.drew ?_) | (with_reducible refine Blk.new' ?_ ?_ <;> first | (with_reducible rfl) | (simp; done)) | (with_reducible refine Blk.alloc ?_ _) | (with_reducible refine RowIn.alloc ?_ _) | (with_reducible refine Below.alloc ?_ ?_ _) | (with_reducible apply Blk.set') | (with_reducible apply Blk.far') | (with_reducible refine RowIn.far' ?_ ?_ _) | (with_reducible refine Below.far' ?_ ?_ _) | (with_reducible refine Blk.after ?_ b8) | (with_reducible refine RowIn.belowS ?_ b8) | (with_reducible refine Below.after ?_ b8 ?_) | rfl | omega | go_size)
        clear zr_7 za_7 zp_7 zd_7 ry_7 rx_7 bb_7 kr_7 fr_7 lr_7 ka_7 fa_7 la_7 kp_7 fp_7 lp_7 kd_7 fd_7 ld_7 b8
        have kr_8 := zr_8.cell; have fr_8 := zr_8.frozen; have lr_8 := zr_8.lt
        have ka_8 := za_8.cell; have fa_8 := za_8.frozen; have la_8 := za_8.lt
        have kp_8 := zp_8.cell; have fp_8 := zp_8.frozen; have lp_8 := zp_8.lt
        have kd_8 := zd_8.cell; have fd_8 := zd_8.frozen; have ld_8 := zd_8.lt
        clear ru
        go_wp2
        go_roundg (n - (j + 1))
        case measure => omega
        case rel =>
          refine ⟨j + 1, u0, u1, v0, v1, mu, cu, 0, 0, w7.heap.size + 0, w8.heap.size, w1.heap.size + 1, w1.heap.size + 1, Au, none, xu, [], by omega, by go_num, HP2, by rw [List.append_nil, HXu.out, HXx.out]; exact HC2, Lib.hid (fun h => rfl), by simp; omega, hcu, ⟨Nat.le_refl _, Nat.zero_le _⟩, by omega, by omega, by go_size, ?_, ?_, ?_, ?_, ?_, RowIn.nil, ?_⟩
          · first | (with_reducible exact Blk.far2 (Blk.far2 zr_8 (by omega)) (by omega)) | (with_reducible exact (Blk.far2 (Blk.far2 zr_8 (by omega)) (by omega)).drew) | (with_reducible exact Blk.far2 (Blk.far2 zr_8.drew (by omega)) (by omega)) | (exact Blk.far2 (Blk.far2 zr_8 (by omega)) (by omega)) | (trace_state; fail)
          · first | (with_reducible exact Blk.far2 (Blk.set2 za_8) (by omega)) | (with_reducible exact (Blk.far2 (Blk.set2 za_8) (by omega)).drew) | (with_reducible exact Blk.far2 (Blk.set2 za_8.drew) (by omega)) | (exact Blk.far2 (Blk.set2 za_8) (by omega)) | (trace_state; fail)
          · first | (with_reducible exact Blk.set2 (Blk.far2 zp_8 (by omega))) | (with_reducible exact (Blk.set2 (Blk.far2 zp_8 (by omega))).drew) | (with_reducible exact Blk.set2 (Blk.far2 zp_8.drew (by omega))) | (exact Blk.set2 (Blk.far2 zp_8 (by omega))) | (trace_state; fail)
          · first | (with_reducible exact Blk.far2 (Blk.far2 zd_8 (by omega)) (by omega)) | (with_reducible exact (Blk.far2 (Blk.far2 zd_8 (by omega)) (by omega)).drew) | (with_reducible exact Blk.far2 (Blk.far2 zd_8.drew (by omega)) (by omega)) | (exact Blk.far2 (Blk.far2 zd_8 (by omega)) (by omega)) | (trace_state; fail)
          · first | (with_reducible exact RowIn.far2 (RowIn.far2 ru_8 (Or.inl (by omega))) (Or.inl (by omega))) | (with_reducible exact (RowIn.far2 (RowIn.far2 ru_8 (Or.inl (by omega))) (Or.inl (by omega))).drew) | (with_reducible exact RowIn.far2 (RowIn.far2 ru_8.drew (Or.inl (by omega))) (Or.inl (by omega))) | (exact RowIn.far2 (RowIn.far2 ru_8 (Or.inl (by omega))) (Or.inl (by omega))) | (trace_state; fail)
          · first | (with_reducible exact Below.far2 (Below.far2 bb_8 (by omega)) (by omega)) | (with_reducible exact (Below.far2 (Below.far2 bb_8 (by omega)) (by omega)).drew) | (with_reducible exact Below.far2 (Below.far2 bb_8.drew (by omega)) (by omega)) | (exact Below.far2 (Below.far2 bb_8 (by omega)) (by omega)) | (trace_state; fail)
      by_cases hf2 : j + 1 = n
      · have t1 : ((j : Int) % 16 == 15) = false := beq_eq_false_iff_ne.2 hf
        have t2 : ((j : Int) == (n : Int) - 1) = true := beq_iff_eq.2 (by omega)
        clear hf
        go_wp2_with fail
        obtain ⟨w7, hw7⟩ : ∃ w7, w7 = ((((((w6.setCell ⟨w.heap.size + 1 + 1, 0, none⟩ (.slice Ax mx cx)).setCell ⟨w.heap.size + 1 + 1, 1, none⟩ (.int .i64 ((xx.length : Nat) : Int))).setCell ⟨w1.heap.size, 0, none⟩ (.int .i64 (u0 : Int))).setCell ⟨w1.heap.size, 1, none⟩ (.int .i64 (u1 : Int))).setCell ⟨w1.heap.size, 2, none⟩ (.int .u64 (v0 : Int))).setCell ⟨w1.heap.size, 3, none⟩ (.int .u64 (v1 : Int))) := ⟨_, rfl⟩
        have zr_7 : Blk w7 (w.heap.size) 26 [.slice none 0 0, .int .i64 0] := by rw [hw7]; exact Blk.far4 (Blk.far2 zr_6 (by omega)) (by omega)
        have za_7 : Blk w7 (w.heap.size + 1) 26 [.slice Y my cy, .int .i64 ((y.length : Nat) : Int)] := by rw [hw7]; exact Blk.far4 (Blk.far2 za_6 (by omega)) (by omega)
        have zp_7 : Blk w7 (w.heap.size + 1 + 1) 26 [.slice Ax mx cx, .int .i64 ((xx.length : Nat) : Int)] := by rw [hw7]; exact Blk.far4 (Blk.set2 zp_6) (by omega)
        have zd_7 : Blk w7 (w1.heap.size) 62 [.int .i64 (u0 : Int), .int .i64 (u1 : Int), .int .u64 (v0 : Int), .int .u64 (v1 : Int)] := by rw [hw7]; exact Blk.set4 (Blk.far2 zd_6 (by omega))
        have ry_7 : RowIn .u8 w7 loy hiy Y my (pack y) := by rw [hw7]; exact RowIn.far4 (RowIn.far2 ry_6 (Or.inl (by omega))) (Or.inl (by omega))
        have rx_7 : RowIn .u8 w7 (wr.heap.size + 0) w6.heap.size Ax mx (pack xx) := by rw [hw7]; exact RowIn.far4 (RowIn.far2 rx_6 (Or.inl (by omega))) (Or.inl (by omega))
        have bb_7 : Below w.heap.size w w7 := by rw [hw7]; exact Below.far4 (Below.far2 bb_6 (by omega)) (by omega)
        have s7 : w6.heap.size ≤ w7.heap.size := by rw [hw7]; simp [World.setCell]
        rw [← hw7]
        clear hw7
        clear zr_6 za_6 zp_6 zd_6 ry_6 rz_6 rx_6 bb_6 kr_6 fr_6 lr_6 ka_6 fa_6 la_6 kp_6 fp_6 lp_6 kd_6 fd_6 ld_6 cL_6
        have kr_7 := zr_7.cell; have fr_7 := zr_7.frozen; have lr_7 := zr_7.lt
        have ka_7 := za_7.cell; have fa_7 := za_7.frozen; have la_7 := za_7.lt
        have kp_7 := zp_7.cell; have fp_7 := zp_7.frozen; have lp_7 := zp_7.lt
        have kd_7 := zd_7.cell; have fd_7 := zd_7.frozen; have ld_7 := zd_7.lt
        refine (bjoin_ok Y Ax my cy mx cx y xx _ (by exact RowIn.row (lo := loy) (hi := hiy) (by repeat' (first | (with_reducible assumption) | (with_reducible exact Below.refl _ _) | (with_reducible refine Blk.drewN ?_ _) | (with_reducible refine RowIn.drewN ?_ _) | (with_reducible refine below_drewN ?_ _) | (with_reducible refine Blk.drew ?_) | (with_reducible refine RowIn.drew ?_) | (with_reducible refine Below.drew ?_) | (with_reducible refine Blk.new' ?_ ?_ <;> first | (with_reducible rfl) | (simp; done)) | (with_reducible refine Blk.alloc ?_ _) | (with_reducible refine RowIn.alloc ?_ _) | (with_reducible refine Below.alloc ?_ ?_ _) | (with_reducible apply Blk.set') | (with_reducible apply Blk.far') | (with_reducible refine RowIn.far' ?_ ?_ _) | (with_reducible refine Below.far' ?_ ?_ _) | rfl | omega | go_size))) (by exact RowIn.row (lo := wr.heap.size + 0) (hi := w6.heap.size) (by repeat' (first | (with_reducible assumption) | (with_reducible exact Below.refl _ _) | (with_reducible refine Blk.drewN ?_ _) | (with_reducible refine RowIn.drewN ?_ _) | (with_reducible refine below_drewN ?_ _) | (with_reducible refine Blk.drew ?_) | (with_reducible refine RowIn.drew ?_) | (with_reducible refine Below.drew ?_) | (with_reducible refine Blk.new' ?_ ?_ <;> first | (with_reducible rfl) | (simp; done)) | (with_reducible refine Blk.alloc ?_ _) | (with_reducible refine RowIn.alloc ?_ _) | (with_reducible refine Below.alloc ?_ ?_ _) | (with_reducible apply Blk.set') | (with_reducible apply Blk.far') | (with_reducible refine RowIn.far' ?_ ?_ _) | (with_reducible refine Below.far' ?_ ?_ _) | rfl | omega | go_size))) hcy hcx (by omega)).mono ?_
        rintro e w8 ⟨Au, mu, cu, xu, rfl, hcu, ru, HXu, b8⟩
        have Lu : xu.length ≤ y.length + xx.length ∧ y.length + xx.length ≤ xu.length := by rw [HXu.out]; simp only [List.length_append, lowBits_len, List.length_nil, List.length_take, List.length_drop, unpack_len]; omega
        obtain ⟨Lu1, Lu2⟩ := Lu
        replace ru := ru.mono (lo' := w7.heap.size + 0) (by go_size) (Nat.le_refl _)
        have s8 := b8.size
        try simp only [World.size_alloc, World.size_setCell, World.size_drew, size_drewN] at s8
        obtain ⟨zr_8, za_8, zp_8, zd_8, ry_8, rx_8, ru_8, bb_8⟩ : Blk w8 (w.heap.size) 26 [.slice none 0 0, .int .i64 0] ∧ Blk w8 (w.heap.size + 1) 26 [.slice Y my cy, .int .i64 ((y.length : Nat) : Int)] ∧ Blk w8 (w.heap.size + 1 + 1) 26 [.slice Ax mx cx, .int .i64 ((xx.length : Nat) : Int)] ∧ Blk w8 (w1.heap.size) 62 [.int .i64 (u0 : Int), .int .i64 (u1 : Int), .int .u64 (v0 : Int), .int .u64 (v1 : Int)] ∧ RowIn .u8 w8 (loy) (hiy) Y my (pack y) ∧ RowIn .u8 w8 (wr.heap.size + 0) (w6.heap.size) Ax mx (pack xx) ∧ RowIn .u8 w8 (w7.heap.size + 0) (w8.heap.size) Au mu (pack xu) ∧ Below w.heap.size w w8 := by
          refine ⟨?_, ?_, ?_, ?_, ?_, ?_, ?_, ?_⟩
          all_goals repeat' (first | (with_reducible assumption) | (with_reducible exact Below.refl _ _) | (with_reducible refine Blk.drewN ?_ _) | (with_reducible refine RowIn.drewN ?_ _) | (with_reducible refine below_drewN ?_ _) | (with_reducible refine Blk.drew ?_) | (with_reducible refine RowIn.drew ?_) | (with_reducible refine Below.drew ?_) | (with_reducible refine Blk.new' ?_ ?_ <;> first | (with_reducible rfl) | (simp; done)) | (with_reducible refine Blk.alloc ?_ _) | (with_reducible refine RowIn.alloc ?_ _) | (with_reducible refine Below.alloc ?_ ?_ _) | (with_reducible apply Blk.set') | (with_reducible apply Blk.far') | (with_reducible refine RowIn.far' ?_ ?_ _) | (with_reducible refine Below.far' ?_ ?_ _) | (with_reducible refine Blk.after ?_ b8) | (with_reducible refine RowIn.belowS ?_ b8) | (with_reducible refine Below.after ?_ b8 ?_) | rfl | omega | go_size)
        clear zr_7 za_7 zp_7 zd_7 ry_7 rx_7 bb_7 kr_7 fr_7 lr_7 ka_7 fa_7 la_7 kp_7 fp_7 lp_7 kd_7 fd_7 ld_7 b8
        have kr_8 := zr_8.cell; have fr_8 := zr_8.frozen; have lr_8 := zr_8.lt
        have ka_8 := za_8.cell; have fa_8 := za_8.frozen; have la_8 := za_8.lt
        have kp_8 := zp_8.cell; have fp_8 := zp_8.frozen; have lp_8 := zp_8.lt
        have kd_8 := zd_8.cell; have fd_8 := zd_8.frozen; have ld_8 := zd_8.lt
        clear ru
        go_wp2
        go_roundg (n - (j + 1))
        case measure => omega
        case rel =>
          refine ⟨j + 1, u0, u1, v0, v1, mu, cu, 0, 0, w7.heap.size + 0, w8.heap.size, w1.heap.size + 1, w1.heap.size + 1, Au, none, xu, [], by omega, by go_num, HP2, by rw [List.append_nil, HXu.out, HXx.out]; exact HC2, Lib.hid (fun h => rfl), by simp; omega, hcu, ⟨Nat.le_refl _, Nat.zero_le _⟩, by omega, by omega, by go_size, ?_, ?_, ?_, ?_, ?_, RowIn.nil, ?_⟩
          · first | (with_reducible exact Blk.far2 (Blk.far2 zr_8 (by omega)) (by omega)) | (with_reducible exact (Blk.far2 (Blk.far2 zr_8 (by omega)) (by omega)).drew) | (with_reducible exact Blk.far2 (Blk.far2 zr_8.drew (by omega)) (by omega)) | (exact Blk.far2 (Blk.far2 zr_8 (by omega)) (by omega)) | (trace_state; fail)
          · first | (with_reducible exact Blk.far2 (Blk.set2 za_8) (by omega)) | (with_reducible exact (Blk.far2 (Blk.set2 za_8) (by omega)).drew) | (with_reducible exact Blk.far2 (Blk.set2 za_8.drew) (by omega)) | (exact Blk.far2 (Blk.set2 za_8) (by omega)) | (trace_state; fail)
          · first | (with_reducible exact Blk.set2 (Blk.far2 zp_8 (by omega))) | (with_reducible exact (Blk.set2 (Blk.far2 zp_8 (by omega))).drew) | (with_reducible exact Blk.set2 (Blk.far2 zp_8.drew (by omega))) | (exact Blk.set2 (Blk.far2 zp_8 (by omega))) | (trace_state; fail)
          · first | (with_reducible exact Blk.far2 (Blk.far2 zd_8 (by omega)) (by omega)) | (with_reducible exact (Blk.far2 (Blk.far2 zd_8 (by omega)) (by omega)).drew) | (with_reducible exact Blk.far2 (Blk.far2 zd_8.drew (by omega)) (by omega)) | (exact Blk.far2 (Blk.far2 zd_8 (by omega)) (by omega)) | (trace_state; fail)
          · first | (with_reducible exact RowIn.far2 (RowIn.far2 ru_8 (Or.inl (by omega))) (Or.inl (by omega))) | (with_reducible exact (RowIn.far2 (RowIn.far2 ru_8 (Or.inl (by omega))) (Or.inl (by omega))).drew) | (with_reducible exact RowIn.far2 (RowIn.far2 ru_8.drew (Or.inl (by omega))) (Or.inl (by omega))) | (exact RowIn.far2 (RowIn.far2 ru_8 (Or.inl (by omega))) (Or.inl (by omega))) | (trace_state; fail)
          · first | (with_reducible exact Below.far2 (Below.far2 bb_8 (by omega)) (by omega)) | (with_reducible exact (Below.far2 (Below.far2 bb_8 (by omega)) (by omega)).drew) | (with_reducible exact Below.far2 (Below.far2 bb_8.drew (by omega)) (by omega)) | (exact Below.far2 (Below.far2 bb_8 (by omega)) (by omega)) | (trace_state; fail)
      · have t1 : ((j : Int) % 16 == 15) = false := beq_eq_false_iff_ne.2 hf
        have t2 : ((j : Int) == (n : Int) - 1) = false := beq_eq_false_iff_ne.2 (by omega)
        have hjn : j + 1 ≠ n := hf2
        go_wp2
        obtain ⟨w7, hw7⟩ : ∃ w7, w7 = ((((((w6.setCell ⟨w.heap.size + 1 + 1, 0, none⟩ (.slice Ax mx cx)).setCell ⟨w.heap.size + 1 + 1, 1, none⟩ (.int .i64 ((xx.length : Nat) : Int))).setCell ⟨w1.heap.size, 0, none⟩ (.int .i64 (u0 : Int))).setCell ⟨w1.heap.size, 1, none⟩ (.int .i64 (u1 : Int))).setCell ⟨w1.heap.size, 2, none⟩ (.int .u64 (v0 : Int))).setCell ⟨w1.heap.size, 3, none⟩ (.int .u64 (v1 : Int))) := ⟨_, rfl⟩
        have zr_7 : Blk w7 (w.heap.size) 26 [.slice none 0 0, .int .i64 0] := by rw [hw7]; exact Blk.far4 (Blk.far2 zr_6 (by omega)) (by omega)
        have za_7 : Blk w7 (w.heap.size + 1) 26 [.slice Y my cy, .int .i64 ((y.length : Nat) : Int)] := by rw [hw7]; exact Blk.far4 (Blk.far2 za_6 (by omega)) (by omega)
        have zp_7 : Blk w7 (w.heap.size + 1 + 1) 26 [.slice Ax mx cx, .int .i64 ((xx.length : Nat) : Int)] := by rw [hw7]; exact Blk.far4 (Blk.set2 zp_6) (by omega)
        have zd_7 : Blk w7 (w1.heap.size) 62 [.int .i64 (u0 : Int), .int .i64 (u1 : Int), .int .u64 (v0 : Int), .int .u64 (v1 : Int)] := by rw [hw7]; exact Blk.set4 (Blk.far2 zd_6 (by omega))
        have ry_7 : RowIn .u8 w7 loy hiy Y my (pack y) := by rw [hw7]; exact RowIn.far4 (RowIn.far2 ry_6 (Or.inl (by omega))) (Or.inl (by omega))
        have rx_7 : RowIn .u8 w7 (wr.heap.size + 0) w6.heap.size Ax mx (pack xx) := by rw [hw7]; exact RowIn.far4 (RowIn.far2 rx_6 (Or.inl (by omega))) (Or.inl (by omega))
        have bb_7 : Below w.heap.size w w7 := by rw [hw7]; exact Below.far4 (Below.far2 bb_6 (by omega)) (by omega)
        have s7 : w6.heap.size ≤ w7.heap.size := by rw [hw7]; simp [World.setCell]
        rw [← hw7]
        clear hw7
        clear zr_6 za_6 zp_6 zd_6 ry_6 rz_6 rx_6 bb_6 kr_6 fr_6 lr_6 ka_6 fa_6 la_6 kp_6 fp_6 lp_6 kd_6 fd_6 ld_6 cL_6
        have kr_7 := zr_7.cell; have fr_7 := zr_7.frozen; have lr_7 := zr_7.lt
        have ka_7 := za_7.cell; have fa_7 := za_7.frozen; have la_7 := za_7.lt
        have kp_7 := zp_7.cell; have fp_7 := zp_7.frozen; have lp_7 := zp_7.lt
        have kd_7 := zd_7.cell; have fd_7 := zd_7.frozen; have ld_7 := zd_7.lt
        go_roundg (n - (j + 1))
        case measure => omega
        case rel => exact ⟨j + 1, u0, u1, v0, v1, my, cy, mx, cx, loy, hiy, wr.heap.size + 0, w6.heap.size, Y, Ax, y, xx, by omega, by go_num, HP2, by rw [HXx.out]; exact HC2, Lib.hid (fun h => absurd h hjn), by omega, hcy, hcx, hloy, by omega, by omega, zr_7, za_7, zp_7, zd_7, ry_7, rx_7, bb_7⟩
    · obtain rfl : j = n := by omega
      have hz := HLAST.out rfl
      have HYE : Hid (y = codeP Cad.Code.start xs j) := Lib.hid (by rw [← HYZ.out, hz, List.append_nil])
      clear hz
      go_wp2
      refine bodyPost_ret (v := .tuple #[.agg #[.slice Y my cy, .int .i64 ((y.length : Nat) : Int)], .int .i64 0]) (by simp [results, Tryd.results20, go_sem, kr_5, lr_5, fr_5]) rfl ?_
      refine ⟨Y, my, cy, y, rfl, hcy, ?_, HYE, ?_⟩
      · refine RowIn.mono (lo := loy) (hi := hiy) ?_ (by omega) ?_
        · exact RowIn.far2 ry_5 (Or.inl (by omega))
        · (try simp only [World.setCell]); simpa [World.setCell] using hhiy
      · exact Below.far2 bb_5 (by omega)


end Go.Proofs.YtpohaikbbfochaaDoor

/-
  Contract of coder.Decode.
-/
namespace Go.Proofs.YtpohaikbbfochaaDoor
open Go.RowKit Cad Cad.Bit Cad.Code
set_option linter.unusedVariables false
set_option linter.unusedSimpArgs false

theorem dread_c (A : Option Addr) (m c : Nat) (bs : List Bool) (p : Int) {p0 p1 q0 q1 u0 u1 v0 v1 : Nat} {x y er : Int} (w : World) (ha : Row .u8 w A m (pack bs)) (hc : m ≤ c ∧ c ≤ 9223372036854775807) (hl : bs.length ≤ 330000) (hp : -9223372036854775808 ≤ p ∧ p ≤ 9223372036854775807) (hd : Dual.Ok ⟨p0, p1, q0, q1⟩) (ht : Tab w) (he : drR bs p ⟨p0, p1, q0, q1⟩ = (x, y, ⟨u0, u1, v0, v1⟩, er)) :
    Calls Tryd.prog 57 #[.agg #[.slice A m c, .int .i64 ((bs.length : Nat) : Int)], .int .i64 p, .agg #[.int .i64 (p0 : Int), .int .i64 (p1 : Int), .int .u64 (q0 : Int), .int .u64 (q1 : Int)]] w fun e w' => e = .returned (.tuple #[.int .u32 x, .int .i64 y, .agg #[.int .i64 (u0 : Int), .int .i64 (u1 : Int), .int .u64 (v0 : Int), .int .u64 (v1 : Int)], .int .i64 er]) ∧ Below w.heap.size w w' := by
  have h := dRead_ret A m c bs p p0 p1 q0 q1 w ha hc hl hp hd ht
  rw [he] at h
  refine h.mono ?_
  rintro e w' ⟨a0, a1, b0, b1, rfl, HD, hb⟩
  have h := HD.out
  injection h with h1 h2 h3 h4
  exact ⟨by rw [h1, h2, h3, h4], hb⟩

theorem u32E : Elem Tryd.prog 49 27 .u32 4 := ⟨Tryd.underlying49, Tryd.underlying27, by kernel_rfl, by decide⟩


/-- Numbers, an index and an error are returned. -/
def RetL (w : World) (l : List Nat) (y er : Int) (e : Ending) (w' : World) : Prop :=
  ∃ (B : Option Addr) (k d : Nat) (ys : List Int), e = .returned (.tuple #[.slice B k d, .int .i64 y, .int .i64 er]) ∧ (k ≤ d ∧ d ≤ 9223372036854775807) ∧ RowIn .u32 w' w.heap.size w'.heap.size B k ys ∧ Hid (ys = ints l) ∧ Below w.heap.size w w'

theorem cdec_bad (A : Option Addr) (m c : Nat) (N : Int) (bytes : List Int) (n : Int) (w : World) (ha : Row .u8 w A m bytes) (hb : Within 0 255 bytes) (hc : m ≤ c ∧ c ≤ 9223372036854775807) (hv : ¬ Valid bytes N) :
    Calls Tryd.prog 25 #[.agg #[.slice A m c, .int .i64 N], .int .i64 n] w (RetL w [] 0 8) := by
  have hri := ha.rowIn
  go_enter Tryd.func25, Tryd.ntmps25
  go_wp2_with fail
  refine (bcheck_bad A m c N bytes _ (by exact RowIn.row (lo := 0) (hi := w.heap.size) (by repeat' (first | (with_reducible assumption) | (with_reducible exact Below.refl _ _) | (with_reducible refine Blk.drewN ?_ _) | (with_reducible refine RowIn.drewN ?_ _) | (with_reducible refine below_drewN ?_ _) | (with_reducible refine Blk.drew ?_) | (with_reducible refine RowIn.drew ?_) | (with_reducible refine Below.drew ?_) | (with_reducible refine Blk.new' ?_ ?_ <;> first | (with_reducible rfl) | (simp; done)) | (with_reducible refine Blk.alloc ?_ _) | (with_reducible refine RowIn.alloc ?_ _) | (with_reducible refine Below.alloc ?_ ?_ _) | (with_reducible apply Blk.set') | (with_reducible apply Blk.far') | (with_reducible refine RowIn.far' ?_ ?_ _) | (with_reducible refine Below.far' ?_ ?_ _) | rfl | omega | go_size))) hb (by omega) hv).mono ?_
  rintro e w1 ⟨rfl, b1⟩
  have s1 := b1.size
  try simp only [World.size_alloc, World.size_setCell, World.size_drew, size_drewN] at s1
  obtain ⟨zb_1, rb_1, bb_1⟩ : Blk w1 (w.heap.size) 26 [.slice A m c, .int .i64 N] ∧ RowIn .u8 w1 (0) (w.heap.size) A m bytes ∧ Below w.heap.size w w1 := by
    refine ⟨?_, ?_, ?_⟩
    all_goals repeat' (first | (with_reducible assumption) | (with_reducible exact Below.refl _ _) | (with_reducible refine Blk.drewN ?_ _) | (with_reducible refine RowIn.drewN ?_ _) | (with_reducible refine below_drewN ?_ _) | (with_reducible refine Blk.drew ?_) | (with_reducible refine RowIn.drew ?_) | (with_reducible refine Below.drew ?_) | (with_reducible refine Blk.new' ?_ ?_ <;> first | (with_reducible rfl) | (simp; done)) | (with_reducible refine Blk.alloc ?_ _) | (with_reducible refine RowIn.alloc ?_ _) | (with_reducible refine Below.alloc ?_ ?_ _) | (with_reducible apply Blk.set') | (with_reducible apply Blk.far') | (with_reducible refine RowIn.far' ?_ ?_ _) | (with_reducible refine Below.far' ?_ ?_ _) | (with_reducible refine Blk.after ?_ b1) | (with_reducible refine RowIn.belowS ?_ b1) | (with_reducible refine Below.after ?_ b1 ?_) | rfl | omega | go_size)
  clear b1
  have kb_1 := zb_1.cell; have fb_1 := zb_1.frozen; have lb_1 := zb_1.lt
  go_wp2
  refine bodyPost_ret (v := .tuple #[.slice none 0 0, .int .i64 0, .int .i64 8]) (by simp [results, Tryd.results25, go_sem]) rfl ?_
  exact ⟨none, 0, 0, [], rfl, ⟨Nat.le_refl _, Nat.zero_le _⟩, RowIn.nil, Lib.hid rfl, bb_1⟩


set_option maxRecDepth 100000 in
set_option maxHeartbeats 2000000 in
theorem cdec_ret (A : Option Addr) (m c : Nat) (bs : List Bool) (n : Int) (w : World) (ha : Row .u8 w A m (pack bs)) (hc : m ≤ c ∧ c ≤ 9223372036854775807) (hl : bs.length ≤ 330000) (hn : -9223372036854775808 ≤ n ∧ n ≤ 9223372036854775807) (ht : Tab w) :
    Calls Tryd.prog 25 #[.agg #[.slice A m c, .int .i64 ((bs.length : Nat) : Int)], .int .i64 n] w (RetL w (decR bs n).1 (decR bs n).2.1 (decR bs n).2.2) := by
  have hri := ha.rowIn
  have hti : RowIn .u8 w 0 w.heap.size (some ⟨0, 0, none⟩) 64 dbTab := ht.rowIn
  by_cases h1 : n < 0
  · have e : decR bs n = ([], 0, 2) := by unfold decR; rw [if_pos h1]
    rw [e]
    clear e
    go_enter Tryd.func25, Tryd.ntmps25
    go_wp2_with fail
    refine (bcheck_ok A m c bs _ (by exact RowIn.row (lo := 0) (hi := w.heap.size) (by repeat' (first | (with_reducible assumption) | (with_reducible exact Below.refl _ _) | (with_reducible refine Blk.drewN ?_ _) | (with_reducible refine RowIn.drewN ?_ _) | (with_reducible refine below_drewN ?_ _) | (with_reducible refine Blk.drew ?_) | (with_reducible refine RowIn.drew ?_) | (with_reducible refine Below.drew ?_) | (with_reducible refine Blk.new' ?_ ?_ <;> first | (with_reducible rfl) | (simp; done)) | (with_reducible refine Blk.alloc ?_ _) | (with_reducible refine RowIn.alloc ?_ _) | (with_reducible refine Below.alloc ?_ ?_ _) | (with_reducible apply Blk.set') | (with_reducible apply Blk.far') | (with_reducible refine RowIn.far' ?_ ?_ _) | (with_reducible refine Below.far' ?_ ?_ _) | rfl | omega | go_size))) (by omega) hl).mono ?_
    rintro e w1 ⟨rfl, b1⟩
    have s1 := b1.size
    try simp only [World.size_alloc, World.size_setCell, World.size_drew, size_drewN] at s1
    obtain ⟨zb_1, rb_1, rt_1, bb_1⟩ : Blk w1 (w.heap.size) 26 [.slice A m c, .int .i64 ((bs.length : Nat) : Int)] ∧ RowIn .u8 w1 (0) (w.heap.size) A m (pack bs) ∧ RowIn .u8 w1 (0) (w.heap.size) (some ⟨0, 0, none⟩) 64 dbTab ∧ Below w.heap.size w w1 := by
      refine ⟨?_, ?_, ?_, ?_⟩
      all_goals repeat' (first | (with_reducible assumption) | (with_reducible exact Below.refl _ _) | (with_reducible refine Blk.drewN ?_ _) | (with_reducible refine RowIn.drewN ?_ _) | (with_reducible refine below_drewN ?_ _) | (with_reducible refine Blk.drew ?_) | (with_reducible refine RowIn.drew ?_) | (with_reducible refine Below.drew ?_) | (with_reducible refine Blk.new' ?_ ?_ <;> first | (with_reducible rfl) | (simp; done)) | (with_reducible refine Blk.alloc ?_ _) | (with_reducible refine RowIn.alloc ?_ _) | (with_reducible refine Below.alloc ?_ ?_ _) | (with_reducible apply Blk.set') | (with_reducible apply Blk.far') | (with_reducible refine RowIn.far' ?_ ?_ _) | (with_reducible refine Below.far' ?_ ?_ _) | (with_reducible refine Blk.after ?_ b1) | (with_reducible refine RowIn.belowS ?_ b1) | (with_reducible refine Below.after ?_ b1 ?_) | rfl | omega | go_size)
    clear b1
    have kb_1 := zb_1.cell; have fb_1 := zb_1.frozen; have lb_1 := zb_1.lt
    go_wp2
    refine bodyPost_ret (v := .tuple #[.slice none 0 0, .int .i64 0, .int .i64 2]) (by simp [results, Tryd.results25, go_sem]) rfl ?_
    exact ⟨none, 0, 0, [], rfl, ⟨Nat.le_refl _, Nat.zero_le _⟩, RowIn.nil, Lib.hid rfl, bb_1⟩
  by_cases h2 : 4000 < n
  · have e : decR bs n = ([], 0, 4) := by unfold decR; rw [if_neg h1, if_pos h2]
    rw [e]
    clear e
    go_enter Tryd.func25, Tryd.ntmps25
    go_wp2_with fail
    refine (bcheck_ok A m c bs _ (by exact RowIn.row (lo := 0) (hi := w.heap.size) (by repeat' (first | (with_reducible assumption) | (with_reducible exact Below.refl _ _) | (with_reducible refine Blk.drewN ?_ _) | (with_reducible refine RowIn.drewN ?_ _) | (with_reducible refine below_drewN ?_ _) | (with_reducible refine Blk.drew ?_) | (with_reducible refine RowIn.drew ?_) | (with_reducible refine Below.drew ?_) | (with_reducible refine Blk.new' ?_ ?_ <;> first | (with_reducible rfl) | (simp; done)) | (with_reducible refine Blk.alloc ?_ _) | (with_reducible refine RowIn.alloc ?_ _) | (with_reducible refine Below.alloc ?_ ?_ _) | (with_reducible apply Blk.set') | (with_reducible apply Blk.far') | (with_reducible refine RowIn.far' ?_ ?_ _) | (with_reducible refine Below.far' ?_ ?_ _) | rfl | omega | go_size))) (by omega) hl).mono ?_
    rintro e w1 ⟨rfl, b1⟩
    have s1 := b1.size
    try simp only [World.size_alloc, World.size_setCell, World.size_drew, size_drewN] at s1
    obtain ⟨zb_1, rb_1, rt_1, bb_1⟩ : Blk w1 (w.heap.size) 26 [.slice A m c, .int .i64 ((bs.length : Nat) : Int)] ∧ RowIn .u8 w1 (0) (w.heap.size) A m (pack bs) ∧ RowIn .u8 w1 (0) (w.heap.size) (some ⟨0, 0, none⟩) 64 dbTab ∧ Below w.heap.size w w1 := by
      refine ⟨?_, ?_, ?_, ?_⟩
      all_goals repeat' (first | (with_reducible assumption) | (with_reducible exact Below.refl _ _) | (with_reducible refine Blk.drewN ?_ _) | (with_reducible refine RowIn.drewN ?_ _) | (with_reducible refine below_drewN ?_ _) | (with_reducible refine Blk.drew ?_) | (with_reducible refine RowIn.drew ?_) | (with_reducible refine Below.drew ?_) | (with_reducible refine Blk.new' ?_ ?_ <;> first | (with_reducible rfl) | (simp; done)) | (with_reducible refine Blk.alloc ?_ _) | (with_reducible refine RowIn.alloc ?_ _) | (with_reducible refine Below.alloc ?_ ?_ _) | (with_reducible apply Blk.set') | (with_reducible apply Blk.far') | (with_reducible refine RowIn.far' ?_ ?_ _) | (with_reducible refine Below.far' ?_ ?_ _) | (with_reducible refine Blk.after ?_ b1) | (with_reducible refine RowIn.belowS ?_ b1) | (with_reducible refine Below.after ?_ b1 ?_) | rfl | omega | go_size)
    clear b1
    have kb_1 := zb_1.cell; have fb_1 := zb_1.frozen; have lb_1 := zb_1.lt
    go_wp2
    refine bodyPost_ret (v := .tuple #[.slice none 0 0, .int .i64 0, .int .i64 4]) (by simp [results, Tryd.results25, go_sem]) rfl ?_
    exact ⟨none, 0, 0, [], rfl, ⟨Nat.le_refl _, Nat.zero_le _⟩, RowIn.nil, Lib.hid rfl, bb_1⟩
  obtain ⟨n, rfl⟩ := Int.eq_ofNat_of_zero_le (by omega : 0 ≤ n)
  have hn4 : n ≤ 4000 := by omega
  have HR : Hid (decR bs (n : Int) = match readL n bs Cad.Code.start with | .ok vs m _ => (vs, ((m : Nat) : Int), 0) | .err e => ([], 0, ((e : Nat) : Int))) := by unfold decR; rw [if_neg h1, if_neg h2, Int.toNat_natCast]; exact Lib.hid rfl
  obtain ⟨G, HG⟩ : ∃ G, Hid (G = readL n bs Cad.Code.start) := ⟨_, Lib.hid rfl⟩
  go_enter Tryd.func25, Tryd.ntmps25
  go_wp2_with fail
  refine (bcheck_ok A m c bs _ (by exact RowIn.row (lo := 0) (hi := w.heap.size) (by repeat' (first | (with_reducible assumption) | (with_reducible exact Below.refl _ _) | (with_reducible refine Blk.drewN ?_ _) | (with_reducible refine RowIn.drewN ?_ _) | (with_reducible refine below_drewN ?_ _) | (with_reducible refine Blk.drew ?_) | (with_reducible refine RowIn.drew ?_) | (with_reducible refine Below.drew ?_) | (with_reducible refine Blk.new' ?_ ?_ <;> first | (with_reducible rfl) | (simp; done)) | (with_reducible refine Blk.alloc ?_ _) | (with_reducible refine RowIn.alloc ?_ _) | (with_reducible refine Below.alloc ?_ ?_ _) | (with_reducible apply Blk.set') | (with_reducible apply Blk.far') | (with_reducible refine RowIn.far' ?_ ?_ _) | (with_reducible refine Below.far' ?_ ?_ _) | rfl | omega | go_size))) (by omega) hl).mono ?_
  rintro e w1 ⟨rfl, b1⟩
  have s1 := b1.size
  try simp only [World.size_alloc, World.size_setCell, World.size_drew, size_drewN] at s1
  obtain ⟨zb_1, rb_1, rt_1, bb_1⟩ : Blk w1 (w.heap.size) 26 [.slice A m c, .int .i64 ((bs.length : Nat) : Int)] ∧ RowIn .u8 w1 (0) (w.heap.size) A m (pack bs) ∧ RowIn .u8 w1 (0) (w.heap.size) (some ⟨0, 0, none⟩) 64 dbTab ∧ Below w.heap.size w w1 := by
    refine ⟨?_, ?_, ?_, ?_⟩
    all_goals repeat' (first | (with_reducible assumption) | (with_reducible exact Below.refl _ _) | (with_reducible refine Blk.drewN ?_ _) | (with_reducible refine RowIn.drewN ?_ _) | (with_reducible refine below_drewN ?_ _) | (with_reducible refine Blk.drew ?_) | (with_reducible refine RowIn.drew ?_) | (with_reducible refine Below.drew ?_) | (with_reducible refine Blk.new' ?_ ?_ <;> first | (with_reducible rfl) | (simp; done)) | (with_reducible refine Blk.alloc ?_ _) | (with_reducible refine RowIn.alloc ?_ _) | (with_reducible refine Below.alloc ?_ ?_ _) | (with_reducible apply Blk.set') | (with_reducible apply Blk.far') | (with_reducible refine RowIn.far' ?_ ?_ _) | (with_reducible refine Below.far' ?_ ?_ _) | (with_reducible refine Blk.after ?_ b1) | (with_reducible refine RowIn.belowS ?_ b1) | (with_reducible refine Below.after ?_ b1 ?_) | rfl | omega | go_size)
  clear b1
  have kb_1 := zb_1.cell; have fb_1 := zb_1.frozen; have lb_1 := zb_1.lt
  go_wp2_with fail
  refine (dstart_ok _).mono ?_
  rintro e w2 ⟨rfl, b2⟩
  have s2 := b2.size
  try simp only [World.size_alloc, World.size_setCell, World.size_drew, size_drewN] at s2
  obtain ⟨zb_2, rb_2, rt_2, bb_2⟩ : Blk w2 (w.heap.size) 26 [.slice A m c, .int .i64 ((bs.length : Nat) : Int)] ∧ RowIn .u8 w2 (0) (w.heap.size) A m (pack bs) ∧ RowIn .u8 w2 (0) (w.heap.size) (some ⟨0, 0, none⟩) 64 dbTab ∧ Below w.heap.size w w2 := by
    refine ⟨?_, ?_, ?_, ?_⟩
    all_goals repeat' (first | (with_reducible assumption) | (with_reducible exact Below.refl _ _) | (with_reducible refine Blk.drewN ?_ _) | (with_reducible refine RowIn.drewN ?_ _) | (with_reducible refine below_drewN ?_ _) | (with_reducible refine Blk.drew ?_) | (with_reducible refine RowIn.drew ?_) | (with_reducible refine Below.drew ?_) | (with_reducible refine Blk.new' ?_ ?_ <;> first | (with_reducible rfl) | (simp; done)) | (with_reducible refine Blk.alloc ?_ _) | (with_reducible refine RowIn.alloc ?_ _) | (with_reducible refine Below.alloc ?_ ?_ _) | (with_reducible apply Blk.set') | (with_reducible apply Blk.far') | (with_reducible refine RowIn.far' ?_ ?_ _) | (with_reducible refine Below.far' ?_ ?_ _) | (with_reducible refine Blk.after ?_ b2) | (with_reducible refine RowIn.belowS ?_ b2) | (with_reducible refine Below.after ?_ b2 ?_) | rfl | omega | go_size)
  clear zb_1 rb_1 rt_1 bb_1 kb_1 fb_1 lb_1 b2
  have kb_2 := zb_2.cell; have fb_2 := zb_2.frozen; have lb_2 := zb_2.lt
  go_wp2_with fail
  go_loopg [7, 8, 26] n (fun k vl va vi wr => ∃ (j a p0 p1 q0 q1 d : Nat) (B : Option Addr) (us : List Nat) (ys : List Int), j + k = n ∧ vi = .int .i64 (j : Nat) ∧ va = .int .i64 (a : Nat) ∧ vl = .slice B j d ∧ a ≤ bs.length ∧ us.length = j ∧ Hid (ys = ints us) ∧ Hid (Dual.Ok ⟨p0, p1, q0, q1⟩) ∧ Hid (G = (readL k (bs.drop a) ⟨p0, p1, q0, q1⟩).app us a) ∧ Own wr w.heap.size 27 .u32 B j d ys ∧ Blk wr (w.heap.size) 26 [.slice A m c, .int .i64 ((bs.length : Nat) : Int)] ∧ Blk wr (w2.heap.size) 62 [.int .i64 (p0 : Int), .int .i64 (p1 : Int), .int .u64 (q0 : Int), .int .u64 (q1 : Int)] ∧ Below w.heap.size w wr)
  case atStart => exact ⟨0, 0, 10, 10, 16384, 16384, 0, none, [], [], by omega, rfl, rfl, rfl, by omega, rfl, Lib.hid rfl, Lib.hid start_ok, by rw [HG.out, GotL.app_nil, List.drop_zero]; exact Lib.hid rfl, Own.nil _ _ _ _, by repeat' (first | (with_reducible assumption) | (with_reducible exact Below.refl _ _) | (with_reducible refine Blk.drewN ?_ _) | (with_reducible refine RowIn.drewN ?_ _) | (with_reducible refine below_drewN ?_ _) | (with_reducible refine Blk.drew ?_) | (with_reducible refine RowIn.drew ?_) | (with_reducible refine Below.drew ?_) | (with_reducible refine Blk.new' ?_ ?_ <;> first | (with_reducible rfl) | (simp; done)) | (with_reducible refine Blk.alloc ?_ _) | (with_reducible refine RowIn.alloc ?_ _) | (with_reducible refine Below.alloc ?_ ?_ _) | (with_reducible apply Blk.set') | (with_reducible apply Blk.far') | (with_reducible refine RowIn.far' ?_ ?_ _) | (with_reducible refine Below.far' ?_ ?_ _) | rfl | omega | go_size), by repeat' (first | (with_reducible assumption) | (with_reducible exact Below.refl _ _) | (with_reducible refine Blk.drewN ?_ _) | (with_reducible refine RowIn.drewN ?_ _) | (with_reducible refine below_drewN ?_ _) | (with_reducible refine Blk.drew ?_) | (with_reducible refine RowIn.drew ?_) | (with_reducible refine Below.drew ?_) | (with_reducible refine Blk.new' ?_ ?_ <;> first | (with_reducible rfl) | (simp; done)) | (with_reducible refine Blk.alloc ?_ _) | (with_reducible refine RowIn.alloc ?_ _) | (with_reducible refine Below.alloc ?_ ?_ _) | (with_reducible apply Blk.set') | (with_reducible apply Blk.far') | (with_reducible refine RowIn.far' ?_ ?_ _) | (with_reducible refine Below.far' ?_ ?_ _) | rfl | omega | go_size), by repeat' (first | (with_reducible assumption) | (with_reducible exact Below.refl _ _) | (with_reducible refine Blk.drewN ?_ _) | (with_reducible refine RowIn.drewN ?_ _) | (with_reducible refine below_drewN ?_ _) | (with_reducible refine Blk.drew ?_) | (with_reducible refine RowIn.drew ?_) | (with_reducible refine Below.drew ?_) | (with_reducible refine Blk.new' ?_ ?_ <;> first | (with_reducible rfl) | (simp; done)) | (with_reducible refine Blk.alloc ?_ _) | (with_reducible refine RowIn.alloc ?_ _) | (with_reducible refine Below.alloc ?_ ?_ _) | (with_reducible apply Blk.set') | (with_reducible apply Blk.far') | (with_reducible refine RowIn.far' ?_ ?_ _) | (with_reducible refine Below.far' ?_ ?_ _) | rfl | omega | go_size)⟩
  case round =>
    obtain ⟨j, a, p0, p1, q0, q1, d, B, us, ys, hj, rfl, rfl, rfl, haL, hus, HY, HPO, HGG, own5, zb_5, zd_5, bb_5⟩ := hrel
    clear zb_2 kb_2 fb_2 lb_2 rb_2 rt_2 bb_2
    have kb_5 := zb_5.cell; have fb_5 := zb_5.frozen; have lb_5 := zb_5.lt
    have kd_5 := zd_5.cell; have fd_5 := zd_5.frozen; have ld_5 := zd_5.lt
    have s5 := bb_5.size
    have rb_5 := hri.below bb_5 (Nat.le_refl _)
    have rt_5 := hti.below bb_5 (Nat.le_refl _)
    by_cases hlt : j < n
    · obtain ⟨r, hkr⟩ : ∃ r, gk = r + 1 := ⟨gk - 1, by omega⟩
      skip
      have hlt1 : (j : Int) < (n : Int) := by omega
      cases hrd : readD (bs.drop a) ⟨p0, p1, q0, q1⟩ with
      | err er =>
        have hg0 := HGG.out
        rw [hkr] at hg0
        have hg := readL_stop hg0 hrd
        have HRR : Hid (decR bs (n : Int) = ([], 0, (er : Int))) := Lib.hid (by rw [HR.out, ← HG.out, hg])
        have HRD : Hid (drR bs (a : Nat) ⟨p0, p1, q0, q1⟩ = (0, 0, ⟨0, 0, 0, 0⟩, (er : Int))) := Lib.hid (by unfold drR; rw [if_neg (by omega), Int.toNat_natCast, hrd]; rfl)
        have he2 : ((er : Int) != 0) = true := by rcases readD_err HPO.out hrd with rfl | ⟨rfl, _⟩ <;> rfl
        clear hg hg0 hrd
        go_wp2_with fail
        refine (dread_c A m c bs (a : Nat) _ (by exact RowIn.row (lo := 0) (hi := w.heap.size) (by repeat' (first | (with_reducible assumption) | (with_reducible exact Below.refl _ _) | (with_reducible refine Blk.drewN ?_ _) | (with_reducible refine RowIn.drewN ?_ _) | (with_reducible refine below_drewN ?_ _) | (with_reducible refine Blk.drew ?_) | (with_reducible refine RowIn.drew ?_) | (with_reducible refine Below.drew ?_) | (with_reducible refine Blk.new' ?_ ?_ <;> first | (with_reducible rfl) | (simp; done)) | (with_reducible refine Blk.alloc ?_ _) | (with_reducible refine RowIn.alloc ?_ _) | (with_reducible refine Below.alloc ?_ ?_ _) | (with_reducible apply Blk.set') | (with_reducible apply Blk.far') | (with_reducible refine RowIn.far' ?_ ?_ _) | (with_reducible refine Below.far' ?_ ?_ _) | rfl | omega | go_size))) hc hl (by omega) HPO.out (by exact RowIn.row (lo := 0) (hi := w.heap.size) (by repeat' (first | (with_reducible assumption) | (with_reducible exact Below.refl _ _) | (with_reducible refine Blk.drewN ?_ _) | (with_reducible refine RowIn.drewN ?_ _) | (with_reducible refine below_drewN ?_ _) | (with_reducible refine Blk.drew ?_) | (with_reducible refine RowIn.drew ?_) | (with_reducible refine Below.drew ?_) | (with_reducible refine Blk.new' ?_ ?_ <;> first | (with_reducible rfl) | (simp; done)) | (with_reducible refine Blk.alloc ?_ _) | (with_reducible refine RowIn.alloc ?_ _) | (with_reducible refine Below.alloc ?_ ?_ _) | (with_reducible apply Blk.set') | (with_reducible apply Blk.far') | (with_reducible refine RowIn.far' ?_ ?_ _) | (with_reducible refine Below.far' ?_ ?_ _) | rfl | omega | go_size))) HRD.out).mono ?_
        rintro e w6 ⟨rfl, b6⟩
        have s6 := b6.size
        try simp only [World.size_alloc, World.size_setCell, World.size_drew, size_drewN] at s6
        obtain ⟨zb_6, zd_6, rb_6, rt_6, bb_6⟩ : Blk w6 (w.heap.size) 26 [.slice A m c, .int .i64 ((bs.length : Nat) : Int)] ∧ Blk w6 (w2.heap.size) 62 [.int .i64 (p0 : Int), .int .i64 (p1 : Int), .int .u64 (q0 : Int), .int .u64 (q1 : Int)] ∧ RowIn .u8 w6 (0) (w.heap.size) A m (pack bs) ∧ RowIn .u8 w6 (0) (w.heap.size) (some ⟨0, 0, none⟩) 64 dbTab ∧ Below w.heap.size w w6 := by
          refine ⟨?_, ?_, ?_, ?_, ?_⟩
          all_goals repeat' (first | (with_reducible assumption) | (with_reducible exact Below.refl _ _) | (with_reducible refine Blk.drewN ?_ _) | (with_reducible refine RowIn.drewN ?_ _) | (with_reducible refine below_drewN ?_ _) | (with_reducible refine Blk.drew ?_) | (with_reducible refine RowIn.drew ?_) | (with_reducible refine Below.drew ?_) | (with_reducible refine Blk.new' ?_ ?_ <;> first | (with_reducible rfl) | (simp; done)) | (with_reducible refine Blk.alloc ?_ _) | (with_reducible refine RowIn.alloc ?_ _) | (with_reducible refine Below.alloc ?_ ?_ _) | (with_reducible apply Blk.set') | (with_reducible apply Blk.far') | (with_reducible refine RowIn.far' ?_ ?_ _) | (with_reducible refine Below.far' ?_ ?_ _) | (with_reducible refine Blk.after ?_ b6) | (with_reducible refine RowIn.belowS ?_ b6) | (with_reducible refine Below.after ?_ b6 ?_) | rfl | omega | go_size)
        clear zb_5 zd_5 kb_5 kd_5 fb_5 fd_5 lb_5 ld_5 bb_5 rb_5 rt_5 b6
        have kb_6 := zb_6.cell; have fb_6 := zb_6.frozen; have lb_6 := zb_6.lt
        have kd_6 := zd_6.cell; have fd_6 := zd_6.frozen; have ld_6 := zd_6.lt
        go_wp2
        refine bodyPost_ret (v := .tuple #[.slice none 0 0, .int .i64 0, .int .i64 (er : Int)]) (by simp [results, Tryd.results25, go_sem]) rfl ?_
        rw [HRR.out]
        exact ⟨none, 0, 0, [], rfl, ⟨Nat.le_refl _, Nat.zero_le _⟩, RowIn.nil, Lib.hid rfl, (by repeat' (first | (with_reducible assumption) | (with_reducible exact Below.refl _ _) | (with_reducible refine Blk.drewN ?_ _) | (with_reducible refine RowIn.drewN ?_ _) | (with_reducible refine below_drewN ?_ _) | (with_reducible refine Blk.drew ?_) | (with_reducible refine RowIn.drew ?_) | (with_reducible refine Below.drew ?_) | (with_reducible refine Blk.new' ?_ ?_ <;> first | (with_reducible rfl) | (simp; done)) | (with_reducible refine Blk.alloc ?_ _) | (with_reducible refine RowIn.alloc ?_ _) | (with_reducible refine Below.alloc ?_ ?_ _) | (with_reducible apply Blk.set') | (with_reducible apply Blk.far') | (with_reducible refine RowIn.far' ?_ ?_ _) | (with_reducible refine Below.far' ?_ ?_ _) | rfl | omega | go_size))⟩
      | ok v k =>
        obtain ⟨u0, u1, v0, v1, hu⟩ := Dual.four (learn ⟨p0, p1, q0, q1⟩ v)
        have hv32 := readD_lt HPO.out hrd
        have hkl := (readD_len HPO.out hrd).2.2
        rw [List.length_drop] at hkl
        have hg0 := HGG.out
        rw [hkr] at hg0
        have hg := readL_step hg0 hrd
        obtain ⟨z, hz⟩ : ∃ z, z = a + k := ⟨_, rfl⟩
        rw [hu, ← hz] at hg
        have HG2 := Lib.hid hg
        have HPO2 : Hid (Dual.Ok ⟨u0, u1, v0, v1⟩) := Lib.hid (by rw [← hu]; exact learn_ok HPO.out hv32)
        have HRD : Hid (drR bs (a : Nat) ⟨p0, p1, q0, q1⟩ = ((v : Int), (z : Int), ⟨u0, u1, v0, v1⟩, 0)) := Lib.hid (by unfold drR; rw [if_neg (by omega), Int.toNat_natCast, hrd]; dsimp only; rw [hu, hz]; simp)
        have hzl : z ≤ bs.length := by omega
        have HZ := Lib.hid hz
        clear hg hg0 hrd hu HGG hz
        go_wp2_with fail
        refine (dread_c A m c bs (a : Nat) _ (by exact RowIn.row (lo := 0) (hi := w.heap.size) (by repeat' (first | (with_reducible assumption) | (with_reducible exact Below.refl _ _) | (with_reducible refine Blk.drewN ?_ _) | (with_reducible refine RowIn.drewN ?_ _) | (with_reducible refine below_drewN ?_ _) | (with_reducible refine Blk.drew ?_) | (with_reducible refine RowIn.drew ?_) | (with_reducible refine Below.drew ?_) | (with_reducible refine Blk.new' ?_ ?_ <;> first | (with_reducible rfl) | (simp; done)) | (with_reducible refine Blk.alloc ?_ _) | (with_reducible refine RowIn.alloc ?_ _) | (with_reducible refine Below.alloc ?_ ?_ _) | (with_reducible apply Blk.set') | (with_reducible apply Blk.far') | (with_reducible refine RowIn.far' ?_ ?_ _) | (with_reducible refine Below.far' ?_ ?_ _) | rfl | omega | go_size))) hc hl (by omega) HPO.out (by exact RowIn.row (lo := 0) (hi := w.heap.size) (by repeat' (first | (with_reducible assumption) | (with_reducible exact Below.refl _ _) | (with_reducible refine Blk.drewN ?_ _) | (with_reducible refine RowIn.drewN ?_ _) | (with_reducible refine below_drewN ?_ _) | (with_reducible refine Blk.drew ?_) | (with_reducible refine RowIn.drew ?_) | (with_reducible refine Below.drew ?_) | (with_reducible refine Blk.new' ?_ ?_ <;> first | (with_reducible rfl) | (simp; done)) | (with_reducible refine Blk.alloc ?_ _) | (with_reducible refine RowIn.alloc ?_ _) | (with_reducible refine Below.alloc ?_ ?_ _) | (with_reducible apply Blk.set') | (with_reducible apply Blk.far') | (with_reducible refine RowIn.far' ?_ ?_ _) | (with_reducible refine Below.far' ?_ ?_ _) | rfl | omega | go_size))) HRD.out).mono ?_
        rintro e w6 ⟨rfl, b6⟩
        have own6 := own5.below b6 (Nat.le_refl _)
        have s6 := b6.size
        try simp only [World.size_alloc, World.size_setCell, World.size_drew, size_drewN] at s6
        obtain ⟨zb_6, zd_6, rb_6, rt_6, bb_6⟩ : Blk w6 (w.heap.size) 26 [.slice A m c, .int .i64 ((bs.length : Nat) : Int)] ∧ Blk w6 (w2.heap.size) 62 [.int .i64 (p0 : Int), .int .i64 (p1 : Int), .int .u64 (q0 : Int), .int .u64 (q1 : Int)] ∧ RowIn .u8 w6 (0) (w.heap.size) A m (pack bs) ∧ RowIn .u8 w6 (0) (w.heap.size) (some ⟨0, 0, none⟩) 64 dbTab ∧ Below w.heap.size w w6 := by
          refine ⟨?_, ?_, ?_, ?_, ?_⟩
          all_goals repeat' (first | (with_reducible assumption) | (with_reducible exact Below.refl _ _) | (with_reducible refine Blk.drewN ?_ _) | (with_reducible refine RowIn.drewN ?_ _) | (with_reducible refine below_drewN ?_ _) | (with_reducible refine Blk.drew ?_) | (with_reducible refine RowIn.drew ?_) | (with_reducible refine Below.drew ?_) | (with_reducible refine Blk.new' ?_ ?_ <;> first | (with_reducible rfl) | (simp; done)) | (with_reducible refine Blk.alloc ?_ _) | (with_reducible refine RowIn.alloc ?_ _) | (with_reducible refine Below.alloc ?_ ?_ _) | (with_reducible apply Blk.set') | (with_reducible apply Blk.far') | (with_reducible refine RowIn.far' ?_ ?_ _) | (with_reducible refine Below.far' ?_ ?_ _) | (with_reducible refine Blk.after ?_ b6) | (with_reducible refine RowIn.belowS ?_ b6) | (with_reducible refine Below.after ?_ b6 ?_) | rfl | omega | go_size)
        clear zb_5 zd_5 kb_5 kd_5 fb_5 fd_5 lb_5 ld_5 bb_5 rb_5 rt_5 b6
        have kb_6 := zb_6.cell; have fb_6 := zb_6.frozen; have lb_6 := zb_6.lt
        have kd_6 := zd_6.cell; have fd_6 := zd_6.frozen; have ld_6 := zd_6.lt
        have s6w : w.heap.size ≤ w6.heap.size := bb_6.size
        go_wp2_with (at_builtin; refine wpList_app _ u32E rfl _ _ rfl w.heap.size _ _ _ _ rfl (by exact (own6.alloc _).alloc _) _ _ _ [(v : Int)] rfl (by exact row_one' (by simp)) (by omega) (by simp; omega) ?_)
        intro B' d' w8 own8 hg8 hat8
        have zb_8 : Blk w8 w.heap.size 26 [.slice A m c, .int .i64 ((bs.length : Nat) : Int)] := by
          refine Blk.grown ?_ hg8 (fun e => (own6.ne_blk zb_6 (by decide)) e.symm)
          repeat' (first | (with_reducible assumption) | (with_reducible exact Below.refl _ _) | (with_reducible refine Blk.drewN ?_ _) | (with_reducible refine RowIn.drewN ?_ _) | (with_reducible refine below_drewN ?_ _) | (with_reducible refine Blk.drew ?_) | (with_reducible refine RowIn.drew ?_) | (with_reducible refine Below.drew ?_) | (with_reducible refine Blk.new' ?_ ?_ <;> first | (with_reducible rfl) | (simp; done)) | (with_reducible refine Blk.alloc ?_ _) | (with_reducible refine RowIn.alloc ?_ _) | (with_reducible refine Below.alloc ?_ ?_ _) | (with_reducible apply Blk.set') | (with_reducible apply Blk.far') | (with_reducible refine RowIn.far' ?_ ?_ _) | (with_reducible refine Below.far' ?_ ?_ _) | rfl | omega | go_size)
        have zd_8 : Blk w8 w2.heap.size 62 [.int .i64 (p0 : Int), .int .i64 (p1 : Int), .int .u64 (q0 : Int), .int .u64 (q1 : Int)] := by
          refine Blk.grown ?_ hg8 (fun e => (own6.ne_blk zd_6 (by decide)) e.symm)
          repeat' (first | (with_reducible assumption) | (with_reducible exact Below.refl _ _) | (with_reducible refine Blk.drewN ?_ _) | (with_reducible refine RowIn.drewN ?_ _) | (with_reducible refine below_drewN ?_ _) | (with_reducible refine Blk.drew ?_) | (with_reducible refine RowIn.drew ?_) | (with_reducible refine Below.drew ?_) | (with_reducible refine Blk.new' ?_ ?_ <;> first | (with_reducible rfl) | (simp; done)) | (with_reducible refine Blk.alloc ?_ _) | (with_reducible refine RowIn.alloc ?_ _) | (with_reducible refine Below.alloc ?_ ?_ _) | (with_reducible apply Blk.set') | (with_reducible apply Blk.far') | (with_reducible refine RowIn.far' ?_ ?_ _) | (with_reducible refine Below.far' ?_ ?_ _) | rfl | omega | go_size)
        have zx_8 : Blk w8 w6.heap.size 62 [.int .i64 (u0 : Int), .int .i64 (u1 : Int), .int .u64 (v0 : Int), .int .u64 (v1 : Int)] := by
          have z0 : Blk ((w6.alloc (.cells #[.int .i64 (u0 : Int), .int .i64 (u1 : Int), .int .u64 (v0 : Int), .int .u64 (v1 : Int)] 62)).alloc (.cells #[.int .u32 (v : Int)] 27)) w6.heap.size 62 [.int .i64 (u0 : Int), .int .i64 (u1 : Int), .int .u64 (v0 : Int), .int .u64 (v1 : Int)] := by repeat' (first | (with_reducible assumption) | (with_reducible exact Below.refl _ _) | (with_reducible refine Blk.drewN ?_ _) | (with_reducible refine RowIn.drewN ?_ _) | (with_reducible refine below_drewN ?_ _) | (with_reducible refine Blk.drew ?_) | (with_reducible refine RowIn.drew ?_) | (with_reducible refine Below.drew ?_) | (with_reducible refine Blk.new' ?_ ?_ <;> first | (with_reducible rfl) | (simp; done)) | (with_reducible refine Blk.alloc ?_ _) | (with_reducible refine RowIn.alloc ?_ _) | (with_reducible refine Below.alloc ?_ ?_ _) | (with_reducible apply Blk.set') | (with_reducible apply Blk.far') | (with_reducible refine RowIn.far' ?_ ?_ _) | (with_reducible refine Below.far' ?_ ?_ _) | rfl | omega | go_size)
          exact Blk.grown z0 hg8 (fun e => (((own6.alloc _).alloc _).ne_blk z0 (by decide)) e.symm)
        have bb_8 : Below w.heap.size w w8 := by
          have z0 : Below w.heap.size w ((w6.alloc (.cells #[.int .i64 (u0 : Int), .int .i64 (u1 : Int), .int .u64 (v0 : Int), .int .u64 (v1 : Int)] 62)).alloc (.cells #[.int .u32 (v : Int)] 27)) := by repeat' (first | (with_reducible assumption) | (with_reducible exact Below.refl _ _) | (with_reducible refine Blk.drewN ?_ _) | (with_reducible refine RowIn.drewN ?_ _) | (with_reducible refine below_drewN ?_ _) | (with_reducible refine Blk.drew ?_) | (with_reducible refine RowIn.drew ?_) | (with_reducible refine Below.drew ?_) | (with_reducible refine Blk.new' ?_ ?_ <;> first | (with_reducible rfl) | (simp; done)) | (with_reducible refine Blk.alloc ?_ _) | (with_reducible refine RowIn.alloc ?_ _) | (with_reducible refine Below.alloc ?_ ?_ _) | (with_reducible apply Blk.set') | (with_reducible apply Blk.far') | (with_reducible refine RowIn.far' ?_ ?_ _) | (with_reducible refine Below.far' ?_ ?_ _) | rfl | omega | go_size)
          exact Below.grown z0 hg8 (by simp; omega) (fun g e => (own6.block g e).1)
        have hj1 : us.length + 1 = j + 1 := by omega
        have HY2 : Hid (ys ++ [(v : Int)] = ints (us ++ [v])) := Lib.hid (by rw [ints_next, HY.out])
        have kd_8 := zd_8.cell; have fd_8 := zd_8.frozen; have ld_8 := zd_8.lt; have kx_8 := zx_8.cell; have fx_8 := zx_8.frozen; have lx_8 := zx_8.lt
        have s8 := bb_8.size
        clear zb_6 kb_6 fb_6 lb_6 zd_6 kd_6 fd_6 ld_6 rb_6 rt_6 bb_6 hat8 own6 hg8
        go_wp2
        go_region
        all_goals try go_wp2
        all_goals
          go_roundg r
          case measure => omega
          case rel =>
            have hne : blockOf B' ≠ some w2.heap.size := own8.ne_blk zd_8 (by decide)
            refine ⟨j + 1, z, u0, u1, v0, v1, d', B', us ++ [v], ys ++ [(v : Int)], by omega, by go_num, rfl, rfl, hzl, by simp; omega, HY2, HPO2, HG2, ?_, ?_, ?_, ?_⟩
            · exact (((own8.far' hne _).far' hne _).far' hne _).far' hne _
            · first | (with_reducible exact Blk.far4 zb_8 (by omega)) | (with_reducible exact Blk.drew (Blk.far4 zb_8 (by omega)))
            · first | (with_reducible exact Blk.set4 zd_8) | (with_reducible exact Blk.drew (Blk.set4 zd_8))
            · first | (with_reducible exact Below.far4 bb_8 (by omega)) | (with_reducible exact Below.drew (Below.far4 bb_8 (by omega)))
    · obtain rfl : gk = 0 := by omega
      obtain rfl : j = n := by omega
      have hg := readL_end HGG.out
      have HRR : Hid (decR bs (j : Int) = (us, (a : Int), 0)) := Lib.hid (by rw [HR.out, ← HG.out, hg])
      have hri5 := own5.rowIn
      have hcap := own5.rowC.2
      clear hg
      go_wp2
      refine bodyPost_ret (v := .tuple #[.slice B j d, .int .i64 (a : Int), .int .i64 0]) (by simp [results, Tryd.results25, go_sem]) rfl ?_
      rw [HRR.out]
      exact ⟨B, j, d, ys, rfl, hcap, hri5, HY, bb_5⟩


end Go.Proofs.YtpohaikbbfochaaDoor

/-
  Contract of the reference of chapter 9: Same.
-/
namespace Go.Proofs.YtpohaikbbfochaaDoor
open Go.RowKit Cad Cad.Bit Cad.Code
set_option linter.unusedVariables false
set_option linter.unusedSimpArgs false


theorem take_next {xs : List Int} {j : Nat} (h : j < xs.length) : xs.take (j + 1) = xs.take j ++ [nth xs j] := by
  rw [List.take_succ_eq_append_getElem h, ← nth_eq]
set_option maxHeartbeats 1000000 in
theorem r9same_any (A B : Option Addr) (n c m d : Nat) (xs ys : List Int) (w : World) (ha : Row .u32 w A n xs) (hb : Row .u32 w B m ys) (hn : n ≤ 900000) (hm : m ≤ 900000) :
    Calls Tryd.prog 26 #[.slice A n c, .slice B m d] w fun e w' => e = .returned (.bool (decide (xs = ys))) ∧ Below w.heap.size w w' := by
  have HX := Lib.hid ha.len
  have HY := Lib.hid hb.len
  by_cases h : n = m
  · subst h
    have hne : ((n : Int) != (n : Int)) = false := by simp
    go_enter Tryd.func26, Tryd.ntmps26
    go_wp2_with fail
    
    go_loopg [5] n (fun r i wr => ∃ j : Nat, j + r = n ∧ i = .int .i64 (j : Int) ∧ Hid (xs.take j = ys.take j) ∧ Below w.heap.size w wr)
    case atStart => exact ⟨0, by omega, rfl, Lib.hid rfl, Below.refl _ _⟩
    case round =>
      obtain ⟨j, hj, rfl, HJ, bb⟩ := hrel
      have sb := bb.size
      by_cases hlt : j < n
      · have hlt' : (j : Int) < (n : Int) := by omega
        obtain ⟨b1, o1, rfl, hbk1, hc1⟩ := ha.at (by omega)
        obtain ⟨b2, o2, rfl, hbk2, hc2⟩ := hb.at (by omega)
        obtain ⟨x, HXX⟩ : ∃ x, Hid (x = nth xs j) := ⟨_, Lib.hid rfl⟩
        obtain ⟨y, HYY⟩ : ∃ y, Hid (y = nth ys j) := ⟨_, Lib.hid rfl⟩
        have c1 : wr.cell? ⟨b1, o1 + j, none⟩ = some (.int .u32 x) := (bb.cell (p := ⟨b1, o1 + j, none⟩) hbk1).trans ((hc1 j hlt).trans (by rw [HXX.out]))
        have c2 : wr.cell? ⟨b2, o2 + j, none⟩ = some (.int .u32 y) := (bb.cell (p := ⟨b2, o2 + j, none⟩) hbk2).trans ((hc2 j hlt).trans (by rw [HYY.out]))
        clear hc1 hc2
        by_cases he : x = y
        · subst he
          have hxx : (x != x) = false := by simp
          go_wp2_with fail
          go_region
          all_goals try go_wp2
          all_goals
            go_roundg (n - (j + 1))
            case measure => omega
            case rel => exact ⟨j + 1, by omega, by go_num, Lib.hid (by rw [take_next (by rw [HX.out]; exact hlt), take_next (by rw [HY.out]; exact hlt), HJ.out, ← HXX.out, ← HYY.out]), by repeat' (first | (with_reducible assumption) | (with_reducible exact Below.refl _ _) | (with_reducible refine Blk.drewN ?_ _) | (with_reducible refine RowIn.drewN ?_ _) | (with_reducible refine below_drewN ?_ _) | (with_reducible refine Blk.drew ?_) | (with_reducible refine RowIn.drew ?_) | (with_reducible refine Below.drew ?_) | (with_reducible refine Blk.new' ?_ ?_ <;> first | (with_reducible rfl) | (simp; done)) | (with_reducible refine Blk.alloc ?_ _) | (with_reducible refine RowIn.alloc ?_ _) | (with_reducible refine Below.alloc ?_ ?_ _) | (with_reducible apply Blk.set') | (with_reducible apply Blk.far') | (with_reducible refine RowIn.far' ?_ ?_ _) | (with_reducible refine Below.far' ?_ ?_ _) | rfl | omega | go_size)⟩
        · have hxx : (x != y) = true := by simpa using he
          have HE : Hid (decide (xs = ys) = false) := by
            refine Lib.hid (decide_eq_false fun e => he ?_)
            rw [HXX.out, HYY.out, e]
          go_wp2_with fail
          go_region
          all_goals
            go_wp2
            go_ret
            exact ⟨ret_bool HE.out.symm, by repeat' (first | (with_reducible assumption) | (with_reducible exact Below.refl _ _) | (with_reducible refine Blk.drewN ?_ _) | (with_reducible refine RowIn.drewN ?_ _) | (with_reducible refine below_drewN ?_ _) | (with_reducible refine Blk.drew ?_) | (with_reducible refine RowIn.drew ?_) | (with_reducible refine Below.drew ?_) | (with_reducible refine Blk.new' ?_ ?_ <;> first | (with_reducible rfl) | (simp; done)) | (with_reducible refine Blk.alloc ?_ _) | (with_reducible refine RowIn.alloc ?_ _) | (with_reducible refine Below.alloc ?_ ?_ _) | (with_reducible apply Blk.set') | (with_reducible apply Blk.far') | (with_reducible refine RowIn.far' ?_ ?_ _) | (with_reducible refine Below.far' ?_ ?_ _) | rfl | omega | go_size)⟩
      · obtain rfl : j = n := by omega
        have HE : Hid (decide (xs = ys) = true) := by
          have h := HJ.out
          rw [List.take_of_length_le (by rw [HX.out]; exact Nat.le_refl _), List.take_of_length_le (by rw [HY.out]; exact Nat.le_refl _)] at h
          exact Lib.hid (decide_eq_true h)
        go_wp2
        go_ret
        exact ⟨ret_bool HE.out.symm, by repeat' (first | (with_reducible assumption) | (with_reducible exact Below.refl _ _) | (with_reducible refine Blk.drewN ?_ _) | (with_reducible refine RowIn.drewN ?_ _) | (with_reducible refine below_drewN ?_ _) | (with_reducible refine Blk.drew ?_) | (with_reducible refine RowIn.drew ?_) | (with_reducible refine Below.drew ?_) | (with_reducible refine Blk.new' ?_ ?_ <;> first | (with_reducible rfl) | (simp; done)) | (with_reducible refine Blk.alloc ?_ _) | (with_reducible refine RowIn.alloc ?_ _) | (with_reducible refine Below.alloc ?_ ?_ _) | (with_reducible apply Blk.set') | (with_reducible apply Blk.far') | (with_reducible refine RowIn.far' ?_ ?_ _) | (with_reducible refine Below.far' ?_ ?_ _) | rfl | omega | go_size)⟩
  · have hne : ((n : Int) != (m : Int)) = true := by simp; omega
    have HE : Hid (decide (xs = ys) = false) := by
      refine Lib.hid (decide_eq_false fun e => h ?_)
      rw [← HX.out, ← HY.out, e]
    go_enter Tryd.func26, Tryd.ntmps26
    go_wp2
    go_ret
    exact ⟨ret_bool HE.out.symm, by repeat' (first | (with_reducible assumption) | (with_reducible exact Below.refl _ _) | (with_reducible refine Blk.drewN ?_ _) | (with_reducible refine RowIn.drewN ?_ _) | (with_reducible refine below_drewN ?_ _) | (with_reducible refine Blk.drew ?_) | (with_reducible refine RowIn.drew ?_) | (with_reducible refine Below.drew ?_) | (with_reducible refine Blk.new' ?_ ?_ <;> first | (with_reducible rfl) | (simp; done)) | (with_reducible refine Blk.alloc ?_ _) | (with_reducible refine RowIn.alloc ?_ _) | (with_reducible refine Below.alloc ?_ ?_ _) | (with_reducible apply Blk.set') | (with_reducible apply Blk.far') | (with_reducible refine RowIn.far' ?_ ?_ _) | (with_reducible refine Below.far' ?_ ?_ _) | rfl | omega | go_size)⟩
theorem r9same_eq (A B : Option Addr) (n c m d : Nat) (xs ys : List Int) (w : World) (ha : Row .u32 w A n xs) (hb : Row .u32 w B m ys) (hn : n ≤ 900000) (he : xs = ys) :
    Calls Tryd.prog 26 #[.slice A n c, .slice B m d] w fun e w' => e = .returned (.bool true) ∧ Below w.heap.size w w' :=
  (r9same_any A B n c m d xs ys w ha hb hn (by rw [← hb.len, ← he, ha.len]; exact hn)).mono fun e w' h => ⟨by rw [h.1, decide_eq_true he], h.2⟩
end Go.Proofs.YtpohaikbbfochaaDoor

/-
  The examples of chapter 9.
-/
namespace Go.Proofs.YtpohaikbbfochaaDoor
open Go.RowKit Cad Cad.Bit Cad.Code
set_option linter.unusedVariables false
set_option linter.unusedSimpArgs false


theorem cenc_c (A : Option Addr) (n c : Nat) (xs : List Int) (l : List Bool) (w : World) (ha : Row .u32 w A n xs) (hx : Within 0 4294967295 xs) (hn : n ≤ 4000) (he : codeP Cad.Code.start xs n = l) :
    Calls Tryd.prog 20 #[.slice A n c] w (RetB w l 0) := by
  rw [← he]; exact cenc_ok A n c xs w ha hx hn
theorem cdec_c (A : Option Addr) (m c : Nat) (bs : List Bool) (n : Int) (l : List Nat) (y er : Int) (w : World) (ha : Row .u8 w A m (pack bs)) (hc : m ≤ c ∧ c ≤ 9223372036854775807) (hl : bs.length ≤ 330000) (hn : -9223372036854775808 ≤ n ∧ n ≤ 9223372036854775807) (ht : Tab w) (he : decR bs n = (l, y, er)) :
    Calls Tryd.prog 25 #[.agg #[.slice A m c, .int .i64 ((bs.length : Nat) : Int)], .int .i64 n] w (RetL w l y er) := by
  have h := cdec_ret A m c bs n w ha hc hl hn ht
  rw [he] at h; exact h
/-- The bits of the examples. -/
def exBits : List Bool := codeP Cad.Code.start [5, 2000] 2
theorem ex_len : exBits.length = 24 := by decide +kernel
theorem ex_dec : decR exBits 2 = ([5, 2000], 24, 0) := by decide +kernel
theorem within_ex : Within 0 4294967295 [5, 2000] := by intro x hx; simp at hx; omega
end Go.Proofs.YtpohaikbbfochaaDoor


/-
  Bytes of bits, read back; feeding the code of numbers, plainly.
-/
namespace Cad.Code
open Go Cad Cad.Bit
set_option linter.unusedVariables false

theorem low_pad (l : List Bool) {m : Nat} (h : l.length ≤ m) : ∃ t, lowBits (bval l) m = l ++ t ∧ t.length = m - l.length := by
  obtain ⟨k, rfl⟩ : ∃ k, m = l.length + k := ⟨m - l.length, by omega⟩
  rw [lowBits_add, lowBits_bval]
  exact ⟨_, rfl, by rw [lowBits_len]; omega⟩
theorem unpack_bytes (bs : List Bool) : ∀ j, 8 * j ≤ bs.length → unpack ((List.range j).map fun i => ((byteAt bs i : Nat) : Int)) = bs.take (8 * j) := by
  intro j
  induction j with
  | zero => intro _; rfl
  | succ j ih =>
    intro h
    rw [List.range_succ, List.map_append, Cad.Bit.unpack_append, ih (by omega), Nat.mul_succ, List.take_add]
    congr 1
    show unpack [((byteAt bs j : Nat) : Int)] = _
    unfold unpack
    rw [List.flatMap_cons, List.flatMap_nil, List.append_nil, Int.toNat_natCast]
    unfold byteAt
    have hl : ((bs.drop (8 * j)).take 8).length = 8 := by rw [List.length_take, List.length_drop]; omega
    have h2 := lowBits_bval ((bs.drop (8 * j)).take 8)
    rw [hl] at h2; exact h2
/-- The bits of the bytes of bits are these bits, and less than a byte behind them. -/
theorem unpack_pack (bs : List Bool) : ∃ t, unpack (pack bs) = bs ++ t ∧ t.length = 8 * bytesFor bs.length - bs.length ∧ t.length < 8 := by
  have hb : bytesFor bs.length = (bs.length + 7) / 8 := rfl
  by_cases h : bs.length % 8 = 0
  · refine ⟨[], ?_, by rw [hb]; simp; omega, by simp⟩
    have h2 := unpack_bytes bs (bs.length / 8) (by omega)
    rw [List.append_nil]
    have e : pack bs = (List.range (bs.length / 8)).map fun i => ((byteAt bs i : Nat) : Int) := by
      unfold pack; rw [show bytesFor bs.length = bs.length / 8 by rw [hb]; omega]
    rw [e, h2, List.take_of_length_le (by omega)]
  · have h2 := unpack_bytes bs (bs.length / 8) (by omega)
    obtain ⟨t, ht, htl⟩ := low_pad ((bs.drop (8 * (bs.length / 8))).take 8) (m := 8) (by rw [List.length_take]; omega)
    have hl : ((bs.drop (8 * (bs.length / 8))).take 8).length = bs.length % 8 := by rw [List.length_take, List.length_drop]; omega
    rw [hl] at htl
    refine ⟨t, ?_, by rw [hb, htl]; omega, by rw [htl]; omega⟩
    have e : pack bs = ((List.range (bs.length / 8)).map fun i => ((byteAt bs i : Nat) : Int)) ++ [((byteAt bs (bs.length / 8) : Nat) : Int)] := by
      unfold pack; rw [show bytesFor bs.length = bs.length / 8 + 1 by rw [hb]; omega, List.range_succ, List.map_append]; rfl
    rw [e, Cad.Bit.unpack_append, h2]
    have e2 : unpack [((byteAt bs (bs.length / 8) : Nat) : Int)] = (bs.drop (8 * (bs.length / 8))).take 8 ++ t := by
      unfold unpack
      rw [List.flatMap_cons, List.flatMap_nil, List.append_nil, Int.toNat_natCast]
      unfold byteAt; exact ht
    rw [e2, ← List.append_assoc]
    congr 1
    rw [List.take_of_length_le (l := bs.drop _) (by rw [List.length_drop]; omega), List.take_append_drop]
theorem feed_code (d : Dual) (vs : List Nat) (hs : Small vs) (t : List Bool) : feed vs.length d (codeL d vs ++ t) = if 8 ≤ t.length then .err 38 else .ok vs 0 (afterL d vs) t := by
  induction vs generalizing d with
  | nil =>
    show feed 0 d t = _
    rw [feed]; rfl
  | cons v r ih =>
    have hv := hs v (List.mem_cons_self ..)
    rw [List.length_cons, codeL, List.append_assoc, feed, readD_code hv]
    dsimp only
    rw [List.drop_left' (codeD_len d v), ih _ (fun x hx => hs x (List.mem_cons_of_mem _ hx))]
    by_cases h : 8 ≤ t.length
    · rw [if_pos h, if_pos h]; rfl
    · rw [if_neg h, if_neg h]; rfl
end Cad.Code

/-
  The sum of 32 bits, plainly: a step of one bit, a byte, bytes.
-/
namespace Cad.Crc
open Go Cad
set_option linter.unusedVariables false

/-- One step of the register. -/
def step (c : Nat) : Nat := c / 2 ^^^ 3988292384 * (c % 2)
def steps : Nat → Nat → Nat
  | 0, c => c
  | n + 1, c => steps n (step c)
theorem steps_succ (n c : Nat) : steps (n + 1) c = step (steps n c) := by
  induction n generalizing c with
  | zero => rfl
  | succ n ih => exact ih (step c)
theorem xor_lt {a b n : Nat} (ha : a < 2 ^ n) (hb : b < 2 ^ n) : a ^^^ b < 2 ^ n := Nat.xor_lt_two_pow ha hb
theorem step_lt {c : Nat} (h : c < 4294967296) : step c < 4294967296 := by
  unfold step
  refine xor_lt (n := 32) (by omega) ?_
  rcases Nat.mod_two_eq_zero_or_one c with h | h <;> rw [h] <;> decide
theorem steps_lt (n : Nat) {c : Nat} (h : c < 4294967296) : steps n c < 4294967296 := by
  induction n generalizing c with
  | zero => exact h
  | succ n ih => exact ih (step_lt h)
theorem xor_div (a b : Nat) : (a ^^^ b) / 2 = a / 2 ^^^ b / 2 := by
  have := Nat.shiftRight_xor_distrib (a := a) (b := b) (i := 1)
  simpa [Nat.shiftRight_eq_div_pow] using this
theorem xor_mod (a b : Nat) : (a ^^^ b) % 2 = (a % 2) ^^^ (b % 2) := Nat.xor_mod_two_pow (n := 1)
theorem mul_bit (x y : Nat) (hx : x < 2) (hy : y < 2) : 3988292384 * (x ^^^ y) = 3988292384 * x ^^^ 3988292384 * y := by
  have h : ∀ a : Fin 2, ∀ b : Fin 2, 3988292384 * (a.1 ^^^ b.1) = 3988292384 * a.1 ^^^ 3988292384 * b.1 := by decide
  exact h ⟨x, hx⟩ ⟨y, hy⟩
theorem xor4 (a b c d : Nat) : (a ^^^ b) ^^^ (c ^^^ d) = (a ^^^ c) ^^^ (b ^^^ d) := by
  rw [Nat.xor_assoc, ← Nat.xor_assoc b c d, Nat.xor_comm b c, Nat.xor_assoc c b d, ← Nat.xor_assoc]
/-- The step is linear. -/
theorem step_xor (a b : Nat) : step (a ^^^ b) = step a ^^^ step b := by
  unfold step
  rw [xor_div, xor_mod, mul_bit _ _ (Nat.mod_lt _ (by decide)) (Nat.mod_lt _ (by decide)), xor4]
theorem steps_xor (n a b : Nat) : steps n (a ^^^ b) = steps n a ^^^ steps n b := by
  induction n generalizing a b with
  | zero => rfl
  | succ n ih => show steps n (step (a ^^^ b)) = steps n (step a) ^^^ steps n (step b); rw [step_xor, ih]
theorem step_zero : step 0 = 0 := rfl
theorem step_even (x : Nat) : step (2 * x) = x := by
  unfold step
  rw [show 2 * x / 2 = x by omega, show 2 * x % 2 = 0 by omega, Nat.mul_zero, Nat.xor_zero]
theorem steps_shift (n x : Nat) : steps n (2 ^ n * x) = x := by
  induction n generalizing x with
  | zero => simp [steps]
  | succ n ih => show steps n (step (2 ^ (n + 1) * x)) = x; rw [Nat.pow_succ, Nat.mul_comm (2 ^ n) 2, Nat.mul_assoc, step_even, ih]

/-- The register behind a byte. -/
def byte (s b : Nat) : Nat := steps 8 (s ^^^ b)
def bytes (s : Nat) (l : List Int) : Nat := l.foldl (fun s b => byte s b.toNat) s
def sum (l : List Int) : Nat := 4294967295 - bytes 4294967295 l
theorem byte_lt {s b : Nat} (hs : s < 4294967296) (hb : b < 256) : byte s b < 4294967296 := steps_lt 8 (xor_lt (n := 32) hs (by omega))
theorem split8 (s : Nat) : s = 2 ^ 8 * (s / 256) ^^^ s % 256 := by
  apply Nat.eq_of_testBit_eq
  intro i
  rw [Nat.testBit_xor, Nat.testBit_two_pow_mul, show (256 : Nat) = 2 ^ 8 by decide, Nat.testBit_div_two_pow, Nat.testBit_mod_two_pow]
  by_cases h : i < 8
  · simp [h, Nat.not_le.2 h]
  · have h' : 8 ≤ i := by omega
    simp [h, h']
/-- A byte by the table. -/
theorem byte_table (s b : Nat) : byte s b = s / 256 ^^^ steps 8 (s % 256 ^^^ b) := by
  unfold byte
  conv => lhs; rw [split8 s, Nat.xor_assoc, steps_xor, steps_shift]
theorem bytes_nil (s : Nat) : bytes s [] = s := rfl
theorem bytes_append (s : Nat) (a b : List Int) : bytes s (a ++ b) = bytes (bytes s a) b := by unfold bytes; rw [List.foldl_append]
theorem bytes_one (s : Nat) (b : Int) : bytes s [b] = byte s b.toNat := rfl
theorem bytes_lt {s : Nat} {l : List Int} (hs : s < 4294967296) (hl : Within 0 255 l) : bytes s l < 4294967296 := by
  induction l generalizing s with
  | nil => exact hs
  | cons x l ih => exact ih (byte_lt hs (by have := hl x (by simp); omega)) (fun y hy => hl y (by simp [hy]))
theorem take_succ {l : List Int} {k : Nat} (h : k < l.length) : l.take (k + 1) = l.take k ++ [nth l k] := by
  rw [List.take_add_one, List.getElem?_eq_getElem h, nth_eq h]; rfl
theorem bytes_next {s : Nat} {l : List Int} {k : Nat} (h : k < l.length) : bytes s (l.take (k + 1)) = byte (bytes s (l.take k)) (nth l k).toNat := by
  rw [take_succ h, bytes_append, bytes_one]
theorem sum_lt {l : List Int} (hl : Within 0 255 l) : sum l < 4294967296 := by unfold sum; omega

/-- A byte bit by bit. -/
def bitsOf : Nat → Nat → Nat → Nat
  | 0, s, b => s
  | n + 1, s, b => bitsOf n (step (s ^^^ b % 2)) (b / 2)
theorem half_xor (s b : Nat) : step (s ^^^ b) = step (s ^^^ b % 2) ^^^ b / 2 := by
  have h : b = b % 2 ^^^ 2 * (b / 2) := by
    apply Nat.eq_of_testBit_eq
    intro i
    have e := Nat.testBit_two_pow_mul (a := b / 2) (i := 1) (j := i)
    have e2 := Nat.testBit_mod_two_pow b 1 i
    rw [Nat.pow_one] at e e2
    rw [Nat.testBit_xor, e, e2]
    cases i with
    | zero => simp
    | succ i => simp [Nat.testBit_succ]
  conv => lhs; rw [h, ← Nat.xor_assoc, step_xor, step_even]
theorem bitsOf_eq (n s b : Nat) (hb : b < 2 ^ n) : bitsOf n s b = steps n (s ^^^ b) := by
  induction n generalizing s b with
  | zero => simp at hb; subst hb; simp [bitsOf, steps]
  | succ n ih =>
    show bitsOf n (step (s ^^^ b % 2)) (b / 2) = steps n (step (s ^^^ b))
    rw [ih _ _ (by rw [Nat.pow_succ] at hb; omega), half_xor s b]

end Cad.Crc

/-
  Contracts of the sum of 32 bits.
-/
namespace Go.Proofs.YtpohaikbbfochaaDoor
open Go.RowKit Cad Cad.Crc
set_option linter.unusedVariables false
set_option linter.unusedSimpArgs false

/-- The table as far as it has been made. -/
def tabTo (j : Nat) : List Int := ((List.range j).map fun i => (steps 8 i : Int)) ++ zeros (256 - j)

theorem tabTo_len {j : Nat} (h : j ≤ 256) : (tabTo j).length = 256 := by
  unfold tabTo; rw [List.length_append, List.length_map, List.length_range, zeros_len]; omega
theorem nth_tabTo {i j : Nat} : nth (tabTo j) i = if i < j then (steps 8 i : Int) else 0 := by
  unfold tabTo
  by_cases h : i < j
  · rw [nth_append_left (by simpa using h), if_pos h, nth_map_range h]
  · rw [nth_append_right (by simpa using Nat.not_lt.1 h), if_neg h, nth_zeros]
theorem tabTo_set {j : Nat} (h : j < 256) : (tabTo j).set j (steps 8 j : Int) = tabTo (j + 1) := by
  refine list_ext (by rw [List.length_set, tabTo_len (by omega), tabTo_len (by omega)]) fun i hi => ?_
  rw [nth_set (by rw [tabTo_len (by omega)]; exact h), nth_tabTo, nth_tabTo]
  by_cases e : j = i
  · subst e; simp
  · rw [if_neg e]
    by_cases h2 : i < j
    · rw [if_pos h2, if_pos (by omega)]
    · rw [if_neg h2, if_neg (by omega)]
theorem map_set {k : IntKind} {xs : List Int} {j : Nat} {v : Int} : (xs.map (Value.int k)).set j (.int k v) = (xs.set j v).map (Value.int k) := by
  rw [List.map_set]
theorem xor_u32 (x y : Nat) (hx : x < 4294967296) (hy : y < 4294967296) : bits .xor .u32 (x : Int) (y : Int) = ((x ^^^ y : Nat) : Int) := by
  show IntKind.u32.wrap ((BitVec.ofInt 32 (x : Int) ^^^ BitVec.ofInt 32 (y : Int)).toNat : Int) = _
  have h1 : ∀ m : Nat, m < 4294967296 → (BitVec.ofInt 32 (m : Int)).toNat = m := fun m h => by
    rw [BitVec.ofInt_natCast, BitVec.toNat_ofNat]; exact Nat.mod_eq_of_lt (by omega)
  have h2 := xor_lt (n := 32) hx hy
  rw [BitVec.toNat_xor, h1 x hx, h1 y hy, IntKind.wrap_u32]
  omega
theorem xor_u8 (x y : Nat) (hx : x < 256) (hy : y < 256) : bits .xor .u8 (x : Int) (y : Int) = ((x ^^^ y : Nat) : Int) := by
  show IntKind.u8.wrap ((BitVec.ofInt 8 (x : Int) ^^^ BitVec.ofInt 8 (y : Int)).toNat : Int) = _
  have h1 : ∀ m : Nat, m < 256 → (BitVec.ofInt 8 (m : Int)).toNat = m := fun m h => by
    rw [BitVec.ofInt_natCast, BitVec.toNat_ofNat]; exact Nat.mod_eq_of_lt (by omega)
  have h2 := xor_lt (n := 8) hx hy
  rw [BitVec.toNat_xor, h1 x hx, h1 y hy, IntKind.wrap_u8]
  omega
theorem and1_u32 (c : Nat) (h : c < 4294967296) : bits .and .u32 (c : Int) 1 = ((c % 2 : Nat) : Int) := by
  have hx : c &&& 1 = c % 2 := Nat.and_two_pow_sub_one_eq_mod c 1
  show IntKind.u32.wrap ((BitVec.ofInt 32 (c : Int) &&& BitVec.ofInt 32 1).toNat : Int) = _
  have h1 : (BitVec.ofInt 32 (c : Int)).toNat = c := by
    rw [BitVec.ofInt_natCast, BitVec.toNat_ofNat]; exact Nat.mod_eq_of_lt (by omega)
  have h2 : (BitVec.ofInt 32 1).toNat = 1 := by rfl
  rw [BitVec.toNat_and, h1, h2, hx, IntKind.wrap_u32]
  omega
theorem step_word (c : Nat) (h : c < 4294967296) : bits .xor .u32 ((c : Int) / 2) (3988292384 * bits .and .u32 (c : Int) 1 % 4294967296) = ((Crc.step c : Nat) : Int) := by
  rw [and1_u32 c h]
  have e : (3988292384 * ((c % 2 : Nat) : Int) % 4294967296) = ((3988292384 * (c % 2) : Nat) : Int) := by omega
  rw [e, show (c : Int) / 2 = ((c / 2 : Nat) : Int) by omega, xor_u32 _ _ (by omega) (by omega)]
  rfl

theorem zero256 : ∀ w, (zeroValue 115).run Tryd.prog w = .ok (.agg (zeroRow .u32 256)) w := (zero_of_info (n := 256) (by kernel_rfl)).1

set_option maxHeartbeats 400000 in
theorem table_ok (w : World) :
    Calls Tryd.prog 38 #[] w fun e w' => e = .returned (.pointer (some ⟨w.heap.size, 0, none⟩)) ∧ Blk w' w.heap.size 115 ((tabTo 256).map (Value.int .u32)) ∧ Below w.heap.size w w' := by
  have hz := zero256
  go_enter Tryd.func38, Tryd.ntmps38
  go_wp2_with fail
  go_loopg [3, 5] 256 (fun r v i wr => ∃ j : Nat, j + r = 256 ∧ i = .int .i64 (j : Int) ∧ Blk wr w.heap.size 115 ((tabTo j).map (Value.int .u32)) ∧ Below w.heap.size w wr)
  case atStart => exact ⟨0, rfl, rfl, Blk.new w _ _, (Below.refl _ _).alloc (Nat.le_refl _) _⟩
  case round =>
    obtain ⟨j, hj, rfl, hb, hw⟩ := hrel
    by_cases hlt : j < 256
    · have hlt' : (j : Int) < 256 := by omega
      go_wp2_with fail
      go_loopg [3, 4, 10] 8 (fun r v lo i wr' => ∃ k c : Nat, k + r = 8 ∧ i = .int .i64 (k : Int) ∧ v = .int .u32 (c : Int) ∧ Hid (c = steps k j) ∧ wr' = wr)
      case atStart => exact ⟨0, j, rfl, rfl, rfl, Lib.hid rfl, rfl⟩
      case round =>
        obtain ⟨k, c, hk, rfl, rfl, HC, rfl⟩ := hrel
        have hc : c < 4294967296 := by rw [HC.out]; exact steps_lt _ (by omega)
        by_cases hlt2 : k < 8
        · have hlt2' : (k : Int) < 8 := by omega
          go_wp2
          go_roundg (8 - (k + 1))
          case measure => omega
          case rel => refine ⟨k + 1, Crc.step c, by omega, by go_num, by rw [step_word c hc], Lib.hid (by rw [HC.out, steps_succ]), rfl⟩
        · obtain rfl : k = 8 := by omega
          have kc : wr.cell? ⟨w.heap.size, j, none⟩ = some (.int .u32 0) := by rw [hb.cell, getElem?_map_nth (by rw [tabTo_len (by omega)]; exact hlt), nth_tabTo, if_neg (by omega)]
          have kf : wr.frozen? ⟨w.heap.size, j, none⟩ = false := hb.frozen j
          have HB := Lib.hid hb
          clear hb
          go_wp2
          go_roundg (256 - (j + 1))
          case measure => omega
          case rel =>
            refine ⟨j + 1, by omega, by go_num, ?_, hw.setCell (p := ⟨w.heap.size, j, none⟩) (Nat.le_refl _) _⟩
            rw [← tabTo_set hlt, ← map_set, ← HC.out]
            exact HB.out.set j _
    · obtain rfl : j = 256 := by omega
      go_wp2
      go_ret
      exact ⟨rfl, hb, hw⟩

theorem not_nat (x : Nat) (h : x < 4294967296) : 4294967295 ^^^ x = 4294967295 - x := by
  have h1 := BitVec.toNat_not (x := BitVec.ofNat 32 x)
  have h2 : (BitVec.ofNat 32 x).toNat = x := by rw [BitVec.toNat_ofNat]; exact Nat.mod_eq_of_lt (by omega)
  rw [BitVec.not_def, BitVec.toNat_xor, h2, BitVec.toNat_allOnes] at h1
  exact h1
theorem not_u32 (x : Nat) (h : x < 4294967296) : bits .xor .u32 IntKind.u32.max (x : Int) = ((4294967295 - x : Nat) : Int) := by
  have := xor_u32 4294967295 x (by decide) h
  rw [not_nat x h] at this
  exact this
theorem next_word (s b : Nat) (hs : s < 4294967296) (hb : b < 256) : bits .xor .u32 ((s : Int) / 256) ((steps 8 (s % 256 ^^^ b) : Nat) : Int) = ((byte s b : Nat) : Int) := by
  rw [byte_table, show (s : Int) / 256 = ((s / 256 : Nat) : Int) by omega, xor_u32 _ _ (by omega) (steps_lt _ (by have := xor_lt (n := 8) (show s % 256 < 2 ^ 8 by omega) hb; omega))]

set_option maxHeartbeats 400000 in
theorem next_ok (s : Nat) (A : Option Addr) (n c : Nat) (l : List Int) (w : World) (ha : Row .u8 w A n l) (hl : Within 0 255 l) (hn : n ≤ 100000) (hs : s < 4294967296) :
    Calls Tryd.prog 9 #[.int .u32 (s : Int), .slice A n c] w fun e w' => e = .returned (.tuple #[.int .u32 ((Crc.bytes s l : Nat) : Int), .int .i64 0]) ∧ Below w.heap.size w w' := by
  have HL := Lib.hid ha.len
  go_enter Tryd.func9, Tryd.ntmps9
  go_wp2_with fail
  refine (table_ok w).mono ?_
  rintro e w1 ⟨rfl, hb, hw⟩
  have hsz := hb.lt
  have HB := Lib.hid hb
  clear hb
  go_wp2_with fail
  go_loopg [0, 15] n (fun r v i wr => ∃ k x : Nat, k + r = n ∧ i = .int .i64 (k : Int) ∧ v = .int .u32 (x : Int) ∧ Hid (x = Crc.bytes s (l.take k)) ∧ wr = w1)
  case atStart => exact ⟨0, s, by omega, rfl, rfl, Lib.hid rfl, rfl⟩
  case round =>
    obtain ⟨k, x, hk, rfl, rfl, HX, rfl⟩ := hrel
    have hx : x < 4294967296 := by rw [HX.out]; exact bytes_lt hs (hl.take k)
    by_cases hlt : k < n
    · have hlt' : (k : Int) < (n : Int) := by omega
      obtain ⟨b, o, rfl, hbk, hc⟩ := ha.at (by omega)
      have hy := hl.nth (by decide) (by decide) k
      obtain ⟨y, hye⟩ : ∃ y : Nat, nth l k = (y : Int) := ⟨(nth l k).toNat, by omega⟩
      have hy8 : y < 256 := by omega
      have c1 : wr.cell? ⟨b, o + k, none⟩ = some (.int .u8 (y : Int)) := by rw [hw.cell hbk, hc k hlt, hye]
      obtain ⟨q, HQ⟩ : ∃ q, Hid (q = x % 256 ^^^ y) := ⟨_, Lib.hid rfl⟩
      have hq : q < 256 := by rw [HQ.out]; exact xor_lt (n := 8) (Nat.mod_lt _ (by decide)) hy8
      have hqe : bits .xor .u8 ((x : Int) % 256) (y : Int) = (q : Int) := by
        rw [HQ.out, show (x : Int) % 256 = ((x % 256 : Nat) : Int) by omega, xor_u8 _ _ (Nat.mod_lt _ (by decide)) hy8]
      obtain ⟨t, HT⟩ : ∃ t : Nat, Hid (t = steps 8 q) := ⟨_, Lib.hid rfl⟩
      have ht : t < 4294967296 := by rw [HT.out]; exact steps_lt 8 (by omega)
      have c2 : wr.cell? ⟨w.heap.size, q, none⟩ = some (.int .u32 (t : Int)) := by
        rw [HB.out.cell, getElem?_map_nth (by rw [tabTo_len (by omega)]; exact hq), nth_tabTo, if_pos hq, HT.out]
      have HN : Hid (bits .xor .u32 ((x : Int) / 256) (t : Int) = ((Crc.byte x y : Nat) : Int)) := by
        rw [HT.out, HQ.out, next_word x y hx hy8]; exact Lib.hid rfl
      clear hc hy
      have HY := Lib.hid hye
      clear hye
      go_wp2
      go_roundg (n - (k + 1))
      case measure => omega
      case rel =>
        refine ⟨k + 1, Crc.byte x y, by omega, by go_num, by rw [HN.out], Lib.hid ?_, rfl⟩
        rw [bytes_next (by rw [HL.out]; exact hlt), ← HX.out, HY.out, Int.toNat_natCast]
    · obtain rfl : k = n := by omega
      have HE : Hid (x = Crc.bytes s l) := by rw [HX.out, List.take_of_length_le (by rw [HL.out]; exact Nat.le_refl _)]; exact Lib.hid rfl
      go_wp2
      go_ret2
      exact ⟨by rw [← HE.out]; rfl, hw⟩
theorem next_many (s : Int) (A : Option Addr) (n c : Nat) (w : World) (hn : 100000 < n) (hn2 : n ≤ 9223372036854775807) :
    Calls Tryd.prog 9 #[.int .u32 s, .slice A n c] w fun e w' => e = .returned (.tuple #[.int .u32 0, .int .i64 4]) ∧ w = w' := by
  go_enter Tryd.func9, Tryd.ntmps9
  go_wp2
  go_ret2
  exact ⟨rfl, rfl⟩
set_option maxHeartbeats 400000 in
theorem sum_ok (A : Option Addr) (n c : Nat) (l : List Int) (w : World) (ha : Row .u8 w A n l) (hl : Within 0 255 l) (hn : n ≤ 100000) :
    Calls Tryd.prog 13 #[.slice A n c] w fun e w' => e = .returned (.tuple #[.int .u32 ((Crc.sum l : Nat) : Int), .int .i64 0]) ∧ Below w.heap.size w w' := by
  obtain ⟨x, HX⟩ : ∃ x, Hid (x = Crc.bytes 4294967295 l) := ⟨_, Lib.hid rfl⟩
  have hx : x < 4294967296 := by rw [HX.out]; exact bytes_lt (by decide) hl
  have hc := next_ok 4294967295 A n c l w ha hl hn (by decide)
  rw [← HX.out] at hc
  have HC := Lib.hid hc
  clear hc
  go_enter Tryd.func13, Tryd.ntmps13
  go_wp2_with fail
  refine HC.out.mono ?_
  rintro e w1 ⟨rfl, hw⟩
  have hsg : ¬ IntKind.u32.signed = true := by decide
  go_wp2
  go_ret2
  · have e : bits .xor .u32 IntKind.u32.max (x : Int) = ((4294967295 - x : Nat) : Int) := not_u32 x hx
    exact ⟨by unfold Crc.sum; rw [← HX.out, ← e]; rfl, hw⟩

end Go.Proofs.YtpohaikbbfochaaDoor

/-
  Contracts of numbers as bytes, the lowest one first.
-/
namespace Cad.Le
open Go Cad
/-- A number as bytes. -/
def leB (n w : Nat) : List Int := (List.range w).map fun i => ((n / 2 ^ (8 * i) % 256 : Nat) : Int)
def leTo (n w j : Nat) : List Int := leB n j ++ zeros (w - j)
theorem leB_len (n w : Nat) : (leB n w).length = w := by simp [leB]
theorem leB_within (n w : Nat) : Within 0 255 (leB n w) := by
  intro x hx
  unfold leB at hx
  rw [List.mem_map] at hx
  obtain ⟨i, _, rfl⟩ := hx
  omega
theorem nth_leB {n w i : Nat} (h : i < w) : nth (leB n w) i = ((n / 2 ^ (8 * i) % 256 : Nat) : Int) := nth_map_range h
theorem leTo_len {n w j : Nat} (h : j ≤ w) : (leTo n w j).length = w := by unfold leTo; rw [List.length_append, leB_len, zeros_len]; omega
theorem nth_leTo {n w i j : Nat} : nth (leTo n w j) i = if i < j then ((n / 2 ^ (8 * i) % 256 : Nat) : Int) else 0 := by
  unfold leTo
  by_cases h : i < j
  · rw [nth_append_left (by rw [leB_len]; exact h), if_pos h, nth_leB h]
  · rw [nth_append_right (by rw [leB_len]; omega), if_neg h, nth_zeros]
theorem leTo_set {n w j : Nat} (h : j < w) : (leTo n w j).set j ((n / 2 ^ (8 * j) % 256 : Nat) : Int) = leTo n w (j + 1) := by
  refine list_ext (by rw [List.length_set, leTo_len (by omega), leTo_len (by omega)]) fun i hi => ?_
  rw [nth_set (by rw [leTo_len (by omega)]; exact h), nth_leTo, nth_leTo]
  by_cases e : j = i
  · subst e; simp
  · rw [if_neg e]
    by_cases h2 : i < j
    · rw [if_pos h2, if_pos (by omega)]
    · rw [if_neg h2, if_neg (by omega)]
theorem leTo_zero (n w : Nat) : leTo n w 0 = zeros w := rfl
theorem leTo_all (n w : Nat) : leTo n w w = leB n w := by unfold leTo; simp [zeros]
end Cad.Le

namespace Go.Proofs.YtpohaikbbfochaaDoor
open Go.RowKit Cad Cad.Crc Cad.Le Cad.Bit
set_option linter.unusedVariables false
set_option linter.unusedSimpArgs false

theorem fits_ok (n m : Nat) (w : World) (h8 : m ≤ 8) (hn : n < 18446744073709551616) (hf : n < 2 ^ (8 * m)) :
    Calls Tryd.prog 37 #[.int .u64 (n : Int), .int .i64 (m : Int)] w fun e w' => e = .returned (.bool true) ∧ w = w' := by
  have hd : (n : Int) / 2 ^ (8 * m) = 0 := by
    rw [pow_cast, ← Int.natCast_ediv, Nat.div_eq_of_lt hf]; rfl
  by_cases h : m = 8
  · subst h
    go_enter Tryd.func37, Tryd.ntmps37
    go_wp2
    go_ret
    exact ⟨rfl, rfl⟩
  · have hlt : (m : Int) < 8 := by omega
    have hne : ((m : Int) == 8) = false := by simp; omega
    have h64 : (8 * (m : Int)) < 64 := by omega
    have ht : (8 * (m : Int)).toNat = 8 * m := by omega
    go_enter Tryd.func37, Tryd.ntmps37
    go_wp2
    go_ret
    exact ⟨rfl, rfl⟩

set_option maxHeartbeats 400000 in
theorem lebytes_ok (n m : Nat) (w : World) (h1 : 1 ≤ m) (h8 : m ≤ 8) (hn : n < 18446744073709551616) (hf : n < 2 ^ (8 * m)) :
    Calls Tryd.prog 8 #[.int .u64 (n : Int), .int .i64 (m : Int)] w fun e w' => e = .returned (.tuple #[.slice (some ⟨w.heap.size, 0, none⟩) m m, .int .i64 0]) ∧ Own w' w.heap.size 5 .u8 (some ⟨w.heap.size, 0, none⟩) m m (leB n m) ∧ Below w.heap.size w w' := by
  have hmk : ∀ W, (Instr.makeSlice 24 (.int .i64 (m : Int)) (.int .i64 (m : Int))).run Tryd.prog W = .ok (.slice (some ⟨W.heap.size, 0, none⟩) m m) (W.alloc (.cells (zeroRow .u8 m) 5)) := fun W => run_mk u8E m (by omega) .i64 .i64 W
  have a1 : ¬ (m : Int) < 1 := by omega
  have a2 : ¬ (8 : Int) < (m : Int) := by omega
  have HF := Lib.hid hf
  clear hf
  go_enter Tryd.func8, Tryd.ntmps8
  go_wp2_with fail
  refine (fits_ok n m w h8 hn HF.out).mono ?_
  rintro e _ ⟨rfl, rfl⟩
  go_wp2_with fail
  go_loopg [22] m (fun r i wr => ∃ j : Nat, j + r = m ∧ i = .int .i64 (j : Int) ∧ Blk wr w.heap.size 5 ((leTo n m j).map (Value.int .u8)) ∧ Below w.heap.size w wr)
  case atStart => exact ⟨0, by omega, rfl, blk_made w .u8 m _, (Below.refl _ _).alloc (Nat.le_refl _) _⟩
  case round =>
    obtain ⟨j, hj, rfl, hb, hw⟩ := hrel
    have hsz := hb.lt
    by_cases hlt : j < m
    · have hlt' : (j : Int) < (m : Int) := by omega
      have ht : (8 * (j : Int)).toNat = 8 * j := by omega
      have h64 : (8 * (j : Int)) < 64 := by omega
      have kc : wr.cell? ⟨w.heap.size, j, none⟩ = some (.int .u8 0) := by rw [hb.cell, getElem?_map_nth (by rw [leTo_len (by omega)]; exact hlt), nth_leTo, if_neg (by omega)]
      have kf : wr.frozen? ⟨w.heap.size, j, none⟩ = false := hb.frozen j
      obtain ⟨y, HY⟩ : ∃ y : Nat, Hid (y = n / 2 ^ (8 * j)) := ⟨_, Lib.hid rfl⟩
      have hy : (n : Int) / 2 ^ (8 * j) = (y : Int) := by rw [HY.out, pow_cast, ← Int.natCast_ediv]
      have hy2 : y < 18446744073709551616 := by rw [HY.out]; exact Nat.lt_of_le_of_lt (Nat.div_le_self _ _) hn
      have HB := Lib.hid hb
      clear hb
      go_wp2
      go_roundg (m - (j + 1))
      case measure => omega
      case rel =>
        refine ⟨j + 1, by omega, by go_num, ?_, hw.setCell (p := ⟨w.heap.size, j, none⟩) (Nat.le_refl _) _⟩
        have hs := HB.out.set j (.int .u8 ((y : Int) % 256))
        rw [← leTo_set hlt, ← map_set, ← HY.out]
        exact hs
    · obtain rfl : j = m := by omega
      rw [leTo_all] at hb
      have HB := Lib.hid hb
      clear hb
      go_wp2
      go_ret2
      exact ⟨rfl, Own.mk (rest := []) (Nat.le_refl _) (leB_len _ _) (by simp) (by simp only [maxLen]; omega) (by rw [List.append_nil]; exact HB.out), hw⟩

end Go.Proofs.YtpohaikbbfochaaDoor

/-
  Contracts of the library's Grow, Concat, Equal for bytes.
-/
namespace Go.Proofs.YtpohaikbbfochaaDoor
open Go.RowKit Cad Cad.Crc Cad.Le Cad.Bit
set_option linter.unusedVariables false
set_option linter.unusedSimpArgs false

set_option maxHeartbeats 400000 in
theorem grow_nil (n : Nat) (w : World) (hn : n ≤ 900000) :
    Calls Tryd.prog 72 #[.slice none 0 0, .int .i64 (n : Int)] w fun e w' => ∃ B d, e = .returned (.slice B 0 d) ∧ Own w' w.heap.size 5 .u8 B 0 d [] ∧ Below w.heap.size w w' := by
  have a1 : ¬ (n : Int) < 0 := by omega
  by_cases h : n = 0
  · subst h
    go_enter Tryd.func72, Tryd.ntmps72
    go_wp2
    go_ret
    exact ⟨none, 0, rfl, Own.nil _ _ _ _, Below.refl _ _⟩
  · have hpos : 0 < (n : Int) := by omega
    have hmk : ∀ W, (Instr.makeSlice 24 (.int .i64 (n : Int)) (.int .i64 (n : Int))).run Tryd.prog W = .ok (.slice (some ⟨W.heap.size, 0, none⟩) n n) (W.alloc (.cells (zeroRow .u8 n) 5)) := fun W => run_mk u8E n (by omega) .i64 .i64 W
    go_enter Tryd.func72, Tryd.ntmps72
    have hb : (Tryd.t5).bytes = 1 := rfl
    have hc : ¬ 281474976710656 < Builtin.nextslicecap n 0 * (Tryd.t5).bytes := by
      unfold Builtin.nextslicecap; rw [if_pos (by omega), hb]; omega
    have hc2 : (n : Int) * ((Tryd.t5).bytes : Int) ≤ 281474976710656 := by rw [hb]; omega
    have hc3 : ¬ 281474976710656 < (n : Int) * ((Tryd.t5).bytes : Int) := by omega
    obtain ⟨q, hq⟩ : ∃ q, (Question.appendCap n 0 5).cut (w.tape w.drawn (Question.appendCap n 0 5)) = q := ⟨_, rfl⟩
    have hq1 : n ≤ q ∧ q ≤ maxLen := by
      rw [← hq]; unfold Question.cut
      have := Nat.mod_lt (w.tape w.drawn (Question.appendCap n 0 5)) (show 0 < 2 ^ 63 - n by omega)
      simp only [maxLen]
      omega
    clear hb
    go_wp2_with fail
    clear hc hc2 hc3
    go_ret
    have hs : (Builtin.zeroCells #[Value.int IntKind.u8 0] n ++ Builtin.zeroCells #[Value.int IntKind.u8 0] (q - n)).size = q := by
      unfold Builtin.zeroCells; simp; omega
    refine ⟨some ⟨w.heap.size, 0, none⟩, q, rfl, ?_, ((Below.refl _ _).alloc (Nat.le_refl _) _).drew⟩
    refine Own.mk (rest := (Builtin.zeroCells #[Value.int IntKind.u8 0] n ++ Builtin.zeroCells #[Value.int IntKind.u8 0] (q - n)).toList) (Nat.le_refl _) rfl (by rw [Array.length_toList, hs]; omega) hq1.2 ?_
    have h := Blk.new w 5 (Builtin.zeroCells #[Value.int IntKind.u8 0] n ++ Builtin.zeroCells #[Value.int IntKind.u8 0] (q - n)).toList
    exact h

set_option maxHeartbeats 400000 in
theorem equal_any (A : Option Addr) (n c : Nat) (xs : List Int) (B : Option Addr) (m d : Nat) (ys : List Int) (w : World) (ha : Row .u8 w A n xs) (hb : Row .u8 w B m ys) (hn : n ≤ 900000) (hm : m ≤ 900000) :
    Calls Tryd.prog 55 #[.slice A n c, .slice B m d] w fun e w' => e = .returned (.bool (decide (xs = ys))) ∧ Below w.heap.size w w' := by
  have HX := Lib.hid ha.len
  have HY := Lib.hid hb.len
  by_cases h : n = m
  · subst h
    have hne : ((n : Int) != (n : Int)) = false := by simp
    go_enter Tryd.func55, Tryd.ntmps55
    go_wp2_with fail
    go_loopg [13] n (fun r i wr => ∃ j : Nat, j + r = n ∧ i = .int .i64 (j : Int) ∧ Hid (xs.take j = ys.take j) ∧ ∃ t, wr = w.drewN t)
    case atStart => exact ⟨0, by omega, rfl, Lib.hid rfl, 0, rfl⟩
    case round =>
      obtain ⟨j, hj, rfl, HJ, t, rfl⟩ := hrel
      by_cases hlt : j < n
      · have hlt' : (j : Int) < (n : Int) := by omega
        obtain ⟨b1, o1, rfl, hbk1, hc1⟩ := ha.at (by omega)
        obtain ⟨b2, o2, rfl, hbk2, hc2⟩ := hb.at (by omega)
        have c1 := hc1 j hlt
        have c2 := hc2 j hlt
        clear hc1 hc2
        obtain ⟨x, HXX⟩ : ∃ x, Hid (x = nth xs j) := ⟨_, Lib.hid rfl⟩
        obtain ⟨y, HYY⟩ : ∃ y, Hid (y = nth ys j) := ⟨_, Lib.hid rfl⟩
        rw [← HXX.out] at c1
        rw [← HYY.out] at c2
        by_cases he : x = y
        · subst he
          have hxx : (x != x) = false := by simp
          go_wp2_with fail
          go_quiet (fail)
          go_wp2
          go_roundg (n - (j + 1))
          case measure => omega
          case rel => exact ⟨j + 1, by omega, by go_num, Lib.hid (by rw [take_succ (by rw [HX.out]; exact hlt), take_succ (by rw [HY.out]; exact hlt), HJ.out, ← HXX.out, ← HYY.out]), _, rfl⟩
        · have hxx : (x != y) = true := by simpa using he
          have HE : Hid (decide (xs = ys) = false) := by
            refine Lib.hid (decide_eq_false fun e => he ?_)
            rw [HXX.out, HYY.out, e]
          go_wp2_with fail
          go_quiet (fail)
          go_wp2
          go_ret
          exact ⟨ret_bool HE.out.symm, by repeat' (first | exact Below.refl _ _ | with_reducible refine below_drewN ?_ _)⟩
      · obtain rfl : j = n := by omega
        have HE : Hid (decide (xs = ys) = true) := by
          have h := HJ.out
          rw [List.take_of_length_le (by rw [HX.out]; exact Nat.le_refl _), List.take_of_length_le (by rw [HY.out]; exact Nat.le_refl _)] at h
          exact Lib.hid (decide_eq_true h)
        go_wp2
        go_ret
        exact ⟨ret_bool HE.out.symm, by repeat' (first | exact Below.refl _ _ | with_reducible refine below_drewN ?_ _)⟩
  · have hne : ((n : Int) != (m : Int)) = true := by simp; omega
    have HE : Hid (decide (xs = ys) = false) := by
      refine Lib.hid (decide_eq_false fun e => h ?_)
      rw [← HX.out, ← HY.out, e]
    go_enter Tryd.func55, Tryd.ntmps55
    go_wp2
    go_ret
    exact ⟨ret_bool HE.out.symm, by repeat' (first | exact Below.refl _ _ | with_reducible refine below_drewN ?_ _)⟩

set_option maxHeartbeats 400000 in
theorem concat_ok (g : Nat) (A : Option Addr) (n c : Nat) (xs : List Int) (B : Option Addr) (m d : Nat) (ys : List Int) (w : World) (ha : Row .u8 w A n xs) (hb : Row .u8 w B m ys) (hn : n ≤ 800000) (hm : m ≤ 8)
    (h0 : w.cell? ⟨g, 0, none⟩ = some (.slice A n c)) (h1 : w.cell? ⟨g, 1, none⟩ = some (.slice B m d)) (hg : g < w.heap.size) :
    Calls Tryd.prog 50 #[.slice (some ⟨g, 0, none⟩) 2 2] w fun e w' => ∃ C q, e = .returned (.slice C (n + m) q) ∧ Own w' w.heap.size 5 .u8 C (n + m) q (xs ++ ys) ∧ Below w.heap.size w w' := by
  go_enter Tryd.func50, Tryd.ntmps50
  go_wp2_with fail
  go_loopg [3, 11] 2 (fun r v i wr => wr = w ∧ ((r = 2 ∧ i = .int .i64 0 ∧ v = .int .i64 0) ∨ (r = 1 ∧ i = .int .i64 1 ∧ v = .int .i64 (n : Int)) ∨ (r = 0 ∧ i = .int .i64 2 ∧ v = .int .i64 ((n + m : Nat) : Int))))
  case atStart => exact ⟨rfl, .inl ⟨rfl, rfl, rfl⟩⟩
  case round =>
    obtain ⟨hww, hrel⟩ := hrel
    have hww' := hww.symm
    subst hww'
    clear hww
    obtain ⟨hr, rfl, rfl⟩ | ⟨hr, rfl, rfl⟩ | ⟨hr, rfl, rfl⟩ := hrel
    · have hnn : ¬ (n : Int) < 0 := by omega
      go_wp2
      go_roundg 1
      case measure => omega
      case rel => exact ⟨rfl, .inr (.inl ⟨rfl, rfl, rfl⟩)⟩
    · have hnn : ¬ (n : Int) + (m : Int) < 0 := by omega
      go_wp2
      go_roundg 0
      case measure => omega
      case rel => exact ⟨rfl, .inr (.inr ⟨rfl, rfl, by go_num⟩)⟩
    · go_wp2_with fail
      refine (grow_nil (n + m) w (by omega)).mono ?_
      rintro e w1 ⟨C, q, rfl, hown, hbel⟩
      go_wp2_with fail
      go_loopg [6, 27] 2 (fun r v i wr => Below w.heap.size w wr ∧ ∃ C q, ((r = 2 ∧ i = .int .i64 0 ∧ v = .slice C 0 q ∧ Own wr w.heap.size 5 .u8 C 0 q []) ∨ (r = 1 ∧ i = .int .i64 1 ∧ v = .slice C n q ∧ Own wr w.heap.size 5 .u8 C n q xs) ∨ (r = 0 ∧ i = .int .i64 2 ∧ v = .slice C (n + m) q ∧ Own wr w.heap.size 5 .u8 C (n + m) q (xs ++ ys))))
      case atStart => exact ⟨hbel, C, q, .inl ⟨rfl, rfl, rfl, hown⟩⟩
      case round =>
        clear hown hbel
        obtain ⟨hbw, C, q, hrel⟩ := hrel
        have hsz := hbw.size
        have k0 : wr.cell? ⟨g, 0, none⟩ = some (.slice A n c) := by rw [hbw.cell hg]; exact h0
        have k1 : wr.cell? ⟨g, 1, none⟩ = some (.slice B m d) := by rw [hbw.cell hg]; exact h1
        have ra := ha.below hbw
        have rb := hb.below hbw
        obtain ⟨hr, rfl, rfl, hown⟩ | ⟨hr, rfl, rfl, hown⟩ | ⟨hr, rfl, rfl, hown⟩ := hrel
        · go_wp2_with (at_builtin; refine wpList_app _ u8E rfl _ _ rfl w.heap.size _ _ _ [] rfl hown _ _ _ xs rfl ra (by omega) hsz ?_)
          intro C' q' w2 hown2 hg2 _
          try rw [Nat.zero_add] at hown2
          try rw [List.nil_append] at hown2
          have hb2 := hbw.trans (below_of_own hown hg2 hsz)
          clear hg2 hown
          go_wp2
          go_roundg 1
          case measure => omega
          case rel => exact ⟨hb2, C', q', .inr (.inl ⟨rfl, rfl, by go_num, hown2⟩)⟩
        · go_wp2_with (at_builtin; refine wpList_app _ u8E rfl _ _ rfl w.heap.size _ _ _ xs rfl hown _ _ _ ys rfl rb (by omega) hsz ?_)
          intro C' q' w2 hown2 hg2 _
          have hb2 := hbw.trans (below_of_own hown hg2 hsz)
          clear hg2 hown
          go_wp2
          go_roundg 0
          case measure => omega
          case rel => exact ⟨hb2, C', q', .inr (.inr ⟨rfl, rfl, rfl, hown2⟩)⟩
        · go_wp2
          go_ret
          exact ⟨C, q, rfl, hown, hbw⟩

end Go.Proofs.YtpohaikbbfochaaDoor
