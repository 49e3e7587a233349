/-
  Contract of coder.After.
-/
import Derived.Test.YtppilidcjlnmoaaDoorCod
import Derived.Test.YtppilidcjlnmoaaDoorLawDA
import Derived.Test.YtppilidcjlnmoaaDoorMerge
import Derived.Test.YtppilidcjlnmoaaDoorBitG
import Derived.Test.YtppilidcjlnmoaaDoorDualD
import Derived.Test.YtppilidcjlnmoaaDoorPre
import Derived.Test.YtppilidcjlnmoaaDoorBitX
import Derived.Test.YtppilidcjlnmoaaDoorBitA
namespace Go.Proofs.YtppilidcjlnmoaaDoor
open Go.RowKit Cad Cad.Bit Cad.Code
set_option linter.unusedVariables false
set_option linter.unusedSimpArgs false


/-- A state and an error are returned. -/
def RetS (w : World) (d : Dual) (er : Int) (e : Ending) (w' : World) : Prop :=
  ∃ u0 u1 v0 v1 : Nat, e = .returned (.tuple #[.agg #[.int .i64 (u0 : Int), .int .i64 (u1 : Int), .int .u64 (v0 : Int), .int .u64 (v1 : Int)], .int .i64 er]) ∧ Hid ((⟨u0, u1, v0, v1⟩ : Dual) = d) ∧ Below w.heap.size w w'

set_option maxRecDepth 100000 in
set_option maxHeartbeats 2000000 in
theorem cafter_ok (A : Option Addr) (n c : Nat) (xs : List Int) (w : World) (ha : Row .u32 w A n xs) (hx : Within 0 4294967295 xs) (hn : n ≤ 4000) :
    Calls Tryd.prog 46 #[.slice A n c] w (RetS w (stP Cad.Code.start xs n) 0) := by
  have ht0 : decide ((4000 : Int) < (n : Int)) = false := decide_eq_false (by omega)
  go_enter Tryd.func46, Tryd.ntmps46
  go_wp2_with fail
  refine (dstart_ok _).mono ?_
  rintro e w1 ⟨rfl, b1⟩
  have s1 := b1.size
  try simp only [World.size_alloc, World.size_setCell, World.size_drew, size_drewN] at s1
  obtain ⟨zr_1, bb_1⟩ : Blk w1 (w.heap.size) 38 [.int .i64 0, .int .i64 0, .int .u64 0, .int .u64 0] ∧ Below w.heap.size w w1 := by
    refine ⟨?_, ?_⟩
    all_goals repeat' (first | (with_reducible assumption) | (with_reducible exact Below.refl _ _) | (with_reducible refine Blk.drewN ?_ _) | (with_reducible refine RowIn.drewN ?_ _) | (with_reducible refine below_drewN ?_ _) | (with_reducible refine Blk.drew ?_) | (with_reducible refine RowIn.drew ?_) | (with_reducible refine Below.drew ?_) | (with_reducible refine Blk.new' ?_ ?_ <;> first | (with_reducible rfl) | (simp; done)) | (with_reducible refine Blk.alloc ?_ _) | (with_reducible refine RowIn.alloc ?_ _) | (with_reducible refine Below.alloc ?_ ?_ _) | (with_reducible apply Blk.set') | (with_reducible apply Blk.far') | (with_reducible refine RowIn.far' ?_ ?_ _) | (with_reducible refine Below.far' ?_ ?_ _) | (with_reducible refine Blk.after ?_ b1) | (with_reducible refine RowIn.belowS ?_ b1) | (with_reducible refine Below.after ?_ b1 ?_) | rfl | omega | go_size)
  clear b1
  have kr_1 := zr_1.cell; have fr_1 := zr_1.frozen; have lr_1 := zr_1.lt
  go_wp2_with fail
  go_loopg [16] n (fun k v wr => ∃ (j p0 p1 q0 q1 : Nat), j + k = n ∧ v = .int .i64 (j : Nat) ∧ Hid ((⟨p0, p1, q0, q1⟩ : Dual) = stP Cad.Code.start xs j) ∧ Blk wr w1.heap.size 38 [.int .i64 (p0 : Int), .int .i64 (p1 : Int), .int .u64 (q0 : Int), .int .u64 (q1 : Int)] ∧ Blk wr w.heap.size 38 [.int .i64 0, .int .i64 0, .int .u64 0, .int .u64 0] ∧ Below w.heap.size w wr)
  case atStart => exact ⟨0, 10, 10, 16384, 16384, by omega, rfl, Lib.hid rfl, by repeat' (first | (with_reducible assumption) | (with_reducible exact Below.refl _ _) | (with_reducible refine Blk.drewN ?_ _) | (with_reducible refine RowIn.drewN ?_ _) | (with_reducible refine below_drewN ?_ _) | (with_reducible refine Blk.drew ?_) | (with_reducible refine RowIn.drew ?_) | (with_reducible refine Below.drew ?_) | (with_reducible refine Blk.new' ?_ ?_ <;> first | (with_reducible rfl) | (simp; done)) | (with_reducible refine Blk.alloc ?_ _) | (with_reducible refine RowIn.alloc ?_ _) | (with_reducible refine Below.alloc ?_ ?_ _) | (with_reducible apply Blk.set') | (with_reducible apply Blk.far') | (with_reducible refine RowIn.far' ?_ ?_ _) | (with_reducible refine Below.far' ?_ ?_ _) | rfl | omega | go_size), by repeat' (first | (with_reducible assumption) | (with_reducible exact Below.refl _ _) | (with_reducible refine Blk.drewN ?_ _) | (with_reducible refine RowIn.drewN ?_ _) | (with_reducible refine below_drewN ?_ _) | (with_reducible refine Blk.drew ?_) | (with_reducible refine RowIn.drew ?_) | (with_reducible refine Below.drew ?_) | (with_reducible refine Blk.new' ?_ ?_ <;> first | (with_reducible rfl) | (simp; done)) | (with_reducible refine Blk.alloc ?_ _) | (with_reducible refine RowIn.alloc ?_ _) | (with_reducible refine Below.alloc ?_ ?_ _) | (with_reducible apply Blk.set') | (with_reducible apply Blk.far') | (with_reducible refine RowIn.far' ?_ ?_ _) | (with_reducible refine Below.far' ?_ ?_ _) | rfl | omega | go_size), by repeat' (first | (with_reducible assumption) | (with_reducible exact Below.refl _ _) | (with_reducible refine Blk.drewN ?_ _) | (with_reducible refine RowIn.drewN ?_ _) | (with_reducible refine below_drewN ?_ _) | (with_reducible refine Blk.drew ?_) | (with_reducible refine RowIn.drew ?_) | (with_reducible refine Below.drew ?_) | (with_reducible refine Blk.new' ?_ ?_ <;> first | (with_reducible rfl) | (simp; done)) | (with_reducible refine Blk.alloc ?_ _) | (with_reducible refine RowIn.alloc ?_ _) | (with_reducible refine Below.alloc ?_ ?_ _) | (with_reducible apply Blk.set') | (with_reducible apply Blk.far') | (with_reducible refine RowIn.far' ?_ ?_ _) | (with_reducible refine Below.far' ?_ ?_ _) | rfl | omega | go_size)⟩
  case round =>
    obtain ⟨j, p0, p1, q0, q1, hj, rfl, HP, zd, zr, bb⟩ := hrel
    clear zr_1 kr_1 fr_1 lr_1 bb_1
    have zd_5 := zd; have bb_5 := bb; have zr_5 := zr
    clear zd bb zr
    have kr_5 := zr_5.cell; have fr_5 := zr_5.frozen; have lr_5 := zr_5.lt
    have kd_5 := zd_5.cell; have fd_5 := zd_5.frozen; have ld_5 := zd_5.lt
    have s5 := bb_5.size
    by_cases hlt : j < n
    · obtain ⟨bl, ol, rfl, hbl, hcell⟩ := ha.at (by omega)
      obtain ⟨v, hv⟩ : ∃ v, nth xs j = v := ⟨_, rfl⟩
      have hvb := hx.nth (by decide) (by decide) j
      rw [hv] at hvb
      have c0 : w.cell? ⟨bl, ol + j, none⟩ = some (.int .u32 v) := by rw [hcell j hlt, hv]
      obtain ⟨v, rfl⟩ := Int.eq_ofNat_of_zero_le hvb.1
      have hv32 : v < 4294967296 := by omega
      have CL := Lib.hid c0
      have HV : Hid ((nth xs j).toNat = v) := Lib.hid (by rw [hv]; rfl)
      have hbL := hbl
      clear c0 hcell hv
      have hpo : Dual.Ok ⟨p0, p1, q0, q1⟩ := by rw [HP.out]; exact stP_ok start_ok hx j
      have HPO := Lib.hid hpo
      clear hpo
      obtain ⟨u0, u1, v0, v1, hu⟩ := Dual.four (learn ⟨p0, p1, q0, q1⟩ v)
      have HU := Lib.hid hu
      clear hu
      have cL_5 : wr.cell? ⟨bl, ol + j, none⟩ = some (.int .u32 (v : Int)) := (bb_5.cell (p := ⟨bl, ol + j, none⟩) hbL).trans CL.out
      have hlt1 : (j : Int) < (n : Int) := by omega
      go_wp2_with fail
      refine (dlearn_c _ HPO.out hv32 HU.out).mono ?_
      rintro e w6 ⟨rfl, b6⟩
      have s6 := b6.size
      try simp only [World.size_alloc, World.size_setCell, World.size_drew, size_drewN] at s6
      obtain ⟨zr_6, zd_6, bb_6⟩ : Blk w6 (w.heap.size) 38 [.int .i64 0, .int .i64 0, .int .u64 0, .int .u64 0] ∧ Blk w6 (w1.heap.size) 38 [.int .i64 (p0 : Int), .int .i64 (p1 : Int), .int .u64 (q0 : Int), .int .u64 (q1 : Int)] ∧ Below w.heap.size w w6 := by
        refine ⟨?_, ?_, ?_⟩
        all_goals repeat' (first | (with_reducible assumption) | (with_reducible exact Below.refl _ _) | (with_reducible refine Blk.drewN ?_ _) | (with_reducible refine RowIn.drewN ?_ _) | (with_reducible refine below_drewN ?_ _) | (with_reducible refine Blk.drew ?_) | (with_reducible refine RowIn.drew ?_) | (with_reducible refine Below.drew ?_) | (with_reducible refine Blk.new' ?_ ?_ <;> first | (with_reducible rfl) | (simp; done)) | (with_reducible refine Blk.alloc ?_ _) | (with_reducible refine RowIn.alloc ?_ _) | (with_reducible refine Below.alloc ?_ ?_ _) | (with_reducible apply Blk.set') | (with_reducible apply Blk.far') | (with_reducible refine RowIn.far' ?_ ?_ _) | (with_reducible refine Below.far' ?_ ?_ _) | (with_reducible refine Blk.after ?_ b6) | (with_reducible refine RowIn.belowS ?_ b6) | (with_reducible refine Below.after ?_ b6 ?_) | rfl | omega | go_size)
      clear zd_5 kd_5 fd_5 ld_5 bb_5 zr_5 kr_5 fr_5 lr_5 cL_5 b6
      have kr_6 := zr_6.cell; have fr_6 := zr_6.frozen; have lr_6 := zr_6.lt
      have kd_6 := zd_6.cell; have fd_6 := zd_6.frozen; have ld_6 := zd_6.lt
      have cL_6 : w6.cell? ⟨bl, ol + j, none⟩ = some (.int .u32 (v : Int)) := (bb_6.cell (p := ⟨bl, ol + j, none⟩) hbL).trans CL.out
      have HP2 : Hid ((⟨u0, u1, v0, v1⟩ : Dual) = stP Cad.Code.start xs (j + 1)) := Lib.hid (by rw [stP_next, ← HP.out, HV.out, HU.out])
      clear HP HU
      go_wp2
      go_roundg (n - (j + 1))
      case measure => omega
      case rel =>
        refine ⟨j + 1, u0, u1, v0, v1, by omega, by go_num, HP2, ?_, ?_, ?_⟩
        · first | (with_reducible exact Blk.drew (Blk.alloc (Blk.set4 zd_6) _)) | (with_reducible exact Blk.alloc (Blk.drew (Blk.set4 zd_6)) _) | (with_reducible exact Blk.set4 (Blk.alloc (Blk.drew zd_6) _)) | (with_reducible exact Blk.alloc (Blk.set4 zd_6) _) | (with_reducible exact Blk.set4 (Blk.alloc zd_6 _))
        · repeat' (first | (with_reducible assumption) | (with_reducible exact Below.refl _ _) | (with_reducible refine Blk.drewN ?_ _) | (with_reducible refine RowIn.drewN ?_ _) | (with_reducible refine below_drewN ?_ _) | (with_reducible refine Blk.drew ?_) | (with_reducible refine RowIn.drew ?_) | (with_reducible refine Below.drew ?_) | (with_reducible refine Blk.new' ?_ ?_ <;> first | (with_reducible rfl) | (simp; done)) | (with_reducible refine Blk.alloc ?_ _) | (with_reducible refine RowIn.alloc ?_ _) | (with_reducible refine Below.alloc ?_ ?_ _) | (with_reducible apply Blk.set') | (with_reducible apply Blk.far') | (with_reducible refine RowIn.far' ?_ ?_ _) | (with_reducible refine Below.far' ?_ ?_ _) | rfl | omega | go_size)
        · repeat' (first | (with_reducible assumption) | (with_reducible exact Below.refl _ _) | (with_reducible refine Blk.drewN ?_ _) | (with_reducible refine RowIn.drewN ?_ _) | (with_reducible refine below_drewN ?_ _) | (with_reducible refine Blk.drew ?_) | (with_reducible refine RowIn.drew ?_) | (with_reducible refine Below.drew ?_) | (with_reducible refine Blk.new' ?_ ?_ <;> first | (with_reducible rfl) | (simp; done)) | (with_reducible refine Blk.alloc ?_ _) | (with_reducible refine RowIn.alloc ?_ _) | (with_reducible refine Below.alloc ?_ ?_ _) | (with_reducible apply Blk.set') | (with_reducible apply Blk.far') | (with_reducible refine RowIn.far' ?_ ?_ _) | (with_reducible refine Below.far' ?_ ?_ _) | rfl | omega | go_size)
    · obtain rfl : j = n := by omega
      go_wp2
      refine bodyPost_ret (v := .tuple #[.agg #[.int .i64 (p0 : Int), .int .i64 (p1 : Int), .int .u64 (q0 : Int), .int .u64 (q1 : Int)], .int .i64 0]) (by simp [results, Tryd.results46, go_sem, kr_5, lr_5, fr_5]) rfl ?_
      refine ⟨p0, p1, q0, q1, rfl, HP, ?_⟩
      repeat' (first | (with_reducible assumption) | (with_reducible exact Below.refl _ _) | (with_reducible refine Blk.drewN ?_ _) | (with_reducible refine RowIn.drewN ?_ _) | (with_reducible refine below_drewN ?_ _) | (with_reducible refine Blk.drew ?_) | (with_reducible refine RowIn.drew ?_) | (with_reducible refine Below.drew ?_) | (with_reducible refine Blk.new' ?_ ?_ <;> first | (with_reducible rfl) | (simp; done)) | (with_reducible refine Blk.alloc ?_ _) | (with_reducible refine RowIn.alloc ?_ _) | (with_reducible refine Below.alloc ?_ ?_ _) | (with_reducible apply Blk.set') | (with_reducible apply Blk.far') | (with_reducible refine RowIn.far' ?_ ?_ _) | (with_reducible refine Below.far' ?_ ?_ _) | rfl | omega | go_size)


theorem cafter_many (A : Option Addr) (n c : Nat) (w : World) (hn : 4000 < n) :
    Calls Tryd.prog 46 #[.slice A n c] w (RetS w ⟨0, 0, 0, 0⟩ 4) := by
  have ht0 : decide ((4000 : Int) < (n : Int)) = true := decide_eq_true (by omega)
  go_enter Tryd.func46, Tryd.ntmps46
  go_wp2
  have zr := Blk.new' (w := w) (g := w.heap.size) (t := 38) (l := [.int .i64 0, .int .i64 0, .int .u64 0, .int .u64 0]) rfl rfl
  have kr := zr.cell; have lr := zr.lt
  refine bodyPost_ret (v := .tuple #[.agg #[.int .i64 0, .int .i64 0, .int .u64 0, .int .u64 0], .int .i64 4]) (by simp [results, Tryd.results46, go_sem, kr, lr]) rfl ?_
  exact ⟨0, 0, 0, 0, rfl, Lib.hid rfl, by repeat' (first | (with_reducible assumption) | (with_reducible exact Below.refl _ _) | (with_reducible refine Blk.drewN ?_ _) | (with_reducible refine RowIn.drewN ?_ _) | (with_reducible refine below_drewN ?_ _) | (with_reducible refine Blk.drew ?_) | (with_reducible refine RowIn.drew ?_) | (with_reducible refine Below.drew ?_) | (with_reducible refine Blk.new' ?_ ?_ <;> first | (with_reducible rfl) | (simp; done)) | (with_reducible refine Blk.alloc ?_ _) | (with_reducible refine RowIn.alloc ?_ _) | (with_reducible refine Below.alloc ?_ ?_ _) | (with_reducible apply Blk.set') | (with_reducible apply Blk.far') | (with_reducible refine RowIn.far' ?_ ?_ _) | (with_reducible refine Below.far' ?_ ?_ _) | rfl | omega | go_size)⟩


end Go.Proofs.YtppilidcjlnmoaaDoor
/-
  Contract of coder.Encode.
-/
namespace Go.Proofs.YtppilidcjlnmoaaDoor
open Go.RowKit Cad Cad.Bit Cad.Code
set_option linter.unusedVariables false
set_option linter.unusedSimpArgs false


theorem cenc_many (A : Option Addr) (n c : Nat) (w : World) (hn : 4000 < n) :
    Calls Tryd.prog 43 #[.slice A n c] w (RetB w [] 4) := by
  have ht0 : decide ((4000 : Int) < (n : Int)) = true := decide_eq_true (by omega)
  go_enter Tryd.func43, Tryd.ntmps43
  go_wp2
  have zr := Blk.new' (w := w) (g := w.heap.size) (t := 24) (l := [.slice none 0 0, .int .i64 0]) rfl rfl
  have kr := zr.cell; have lr := zr.lt
  refine bodyPost_ret (v := .tuple #[.agg #[.slice none 0 0, .int .i64 0], .int .i64 4]) (by simp [results, Tryd.results43, go_sem, kr, lr]) rfl ?_
  exact ⟨none, 0, 0, [], rfl, ⟨Nat.le_refl _, Nat.zero_le _⟩, RowIn.nil, Lib.hid rfl, by repeat' (first | (with_reducible assumption) | (with_reducible exact Below.refl _ _) | (with_reducible refine Blk.drewN ?_ _) | (with_reducible refine RowIn.drewN ?_ _) | (with_reducible refine below_drewN ?_ _) | (with_reducible refine Blk.drew ?_) | (with_reducible refine RowIn.drew ?_) | (with_reducible refine Below.drew ?_) | (with_reducible refine Blk.new' ?_ ?_ <;> first | (with_reducible rfl) | (simp; done)) | (with_reducible refine Blk.alloc ?_ _) | (with_reducible refine RowIn.alloc ?_ _) | (with_reducible refine Below.alloc ?_ ?_ _) | (with_reducible apply Blk.set') | (with_reducible apply Blk.far') | (with_reducible refine RowIn.far' ?_ ?_ _) | (with_reducible refine Below.far' ?_ ?_ _) | rfl | omega | go_size)⟩

set_option maxRecDepth 100000 in
set_option maxHeartbeats 4000000 in
theorem cenc_ok (A : Option Addr) (n c : Nat) (xs : List Int) (w : World) (ha : Row .u32 w A n xs) (hx : Within 0 4294967295 xs) (hn : n ≤ 4000) :
    Calls Tryd.prog 43 #[.slice A n c] w (RetB w (codeP Cad.Code.start xs n) 0) := by
  have ht0 : decide ((4000 : Int) < (n : Int)) = false := decide_eq_false (by omega)
  go_enter Tryd.func43, Tryd.ntmps43
  go_wp2_with fail
  refine (dstart_ok _).mono ?_
  rintro e w1 ⟨rfl, b1⟩
  have s1 := b1.size
  try simp only [World.size_alloc, World.size_setCell, World.size_drew, size_drewN] at s1
  obtain ⟨zr_1, za_1, zp_1, bb_1⟩ : Blk w1 (w.heap.size) 24 [.slice none 0 0, .int .i64 0] ∧ Blk w1 (w.heap.size + 1) 24 [.slice none 0 0, .int .i64 0] ∧ Blk w1 (w.heap.size + 1 + 1) 24 [.slice none 0 0, .int .i64 0] ∧ Below w.heap.size w w1 := by
    refine ⟨?_, ?_, ?_, ?_⟩
    all_goals repeat' (first | (with_reducible assumption) | (with_reducible exact Below.refl _ _) | (with_reducible refine Blk.drewN ?_ _) | (with_reducible refine RowIn.drewN ?_ _) | (with_reducible refine below_drewN ?_ _) | (with_reducible refine Blk.drew ?_) | (with_reducible refine RowIn.drew ?_) | (with_reducible refine Below.drew ?_) | (with_reducible refine Blk.new' ?_ ?_ <;> first | (with_reducible rfl) | (simp; done)) | (with_reducible refine Blk.alloc ?_ _) | (with_reducible refine RowIn.alloc ?_ _) | (with_reducible refine Below.alloc ?_ ?_ _) | (with_reducible apply Blk.set') | (with_reducible apply Blk.far') | (with_reducible refine RowIn.far' ?_ ?_ _) | (with_reducible refine Below.far' ?_ ?_ _) | (with_reducible refine Blk.after ?_ b1) | (with_reducible refine RowIn.belowS ?_ b1) | (with_reducible refine Below.after ?_ b1 ?_) | rfl | omega | go_size)
  clear b1
  have kr_1 := zr_1.cell; have fr_1 := zr_1.frozen; have lr_1 := zr_1.lt
  have ka_1 := za_1.cell; have fa_1 := za_1.frozen; have la_1 := za_1.lt
  have kp_1 := zp_1.cell; have fp_1 := zp_1.frozen; have lp_1 := zp_1.lt
  go_wp2_with fail
  go_loopg [17] n (fun k v wr => ∃ (j p0 p1 q0 q1 my cy mz cz loy hiy loz hiz : Nat) (Y Z : Option Addr) (y z : List Bool), j + k = n ∧ v = .int .i64 (j : Nat) ∧ Hid ((⟨p0, p1, q0, q1⟩ : Dual) = stP Cad.Code.start xs j) ∧ Hid (y ++ z = codeP Cad.Code.start xs j) ∧ Hid (j = n → z = []) ∧ y.length + z.length ≤ 81 * j ∧ (my ≤ cy ∧ cy ≤ 9223372036854775807) ∧ (mz ≤ cz ∧ cz ≤ 9223372036854775807) ∧ w1.heap.size + 1 ≤ loy ∧ w1.heap.size + 1 ≤ loz ∧ hiy ≤ wr.heap.size ∧ Blk wr (w.heap.size) 24 [.slice none 0 0, .int .i64 0] ∧ Blk wr (w.heap.size + 1) 24 [.slice Y my cy, .int .i64 ((y.length : Nat) : Int)] ∧ Blk wr (w.heap.size + 1 + 1) 24 [.slice Z mz cz, .int .i64 ((z.length : Nat) : Int)] ∧ Blk wr (w1.heap.size) 38 [.int .i64 (p0 : Int), .int .i64 (p1 : Int), .int .u64 (q0 : Int), .int .u64 (q1 : Int)] ∧ RowIn .u8 wr loy hiy Y my (pack y) ∧ RowIn .u8 wr loz hiz Z mz (pack z) ∧ Below w.heap.size w wr)
  case atStart =>
    refine ⟨0, 10, 10, 16384, 16384, 0, 0, 0, 0, w1.heap.size + 1, w1.heap.size + 1, w1.heap.size + 1, w1.heap.size + 1, none, none, [], [], by omega, rfl, Lib.hid rfl, Lib.hid rfl, Lib.hid (fun _ => rfl), by simp, ⟨Nat.le_refl _, Nat.zero_le _⟩, ⟨Nat.le_refl _, Nat.zero_le _⟩, by omega, by omega, by go_size, ?_, ?_, ?_, ?_, RowIn.nil, RowIn.nil, ?_⟩
    all_goals repeat' (first | (with_reducible assumption) | (with_reducible exact Below.refl _ _) | (with_reducible refine Blk.drewN ?_ _) | (with_reducible refine RowIn.drewN ?_ _) | (with_reducible refine below_drewN ?_ _) | (with_reducible refine Blk.drew ?_) | (with_reducible refine RowIn.drew ?_) | (with_reducible refine Below.drew ?_) | (with_reducible refine Blk.new' ?_ ?_ <;> first | (with_reducible rfl) | (simp; done)) | (with_reducible refine Blk.alloc ?_ _) | (with_reducible refine RowIn.alloc ?_ _) | (with_reducible refine Below.alloc ?_ ?_ _) | (with_reducible apply Blk.set') | (with_reducible apply Blk.far') | (with_reducible refine RowIn.far' ?_ ?_ _) | (with_reducible refine Below.far' ?_ ?_ _) | rfl | omega | go_size)
  case round =>
    obtain ⟨j, p0, p1, q0, q1, my, cy, mz, cz, loy, hiy, loz, hiz, Y, Z, y, z, hj, rfl, HP, HYZ, HLAST, hlen, hcy, hcz, hloy, hloz, hhiy, zr_5, za_5, zp_5, zd_5, ry_5, rz_5, bb_5⟩ := hrel
    clear zr_1 kr_1 fr_1 lr_1 za_1 ka_1 fa_1 la_1 zp_1 kp_1 fp_1 lp_1 bb_1
    have kr_5 := zr_5.cell; have fr_5 := zr_5.frozen; have lr_5 := zr_5.lt
    have ka_5 := za_5.cell; have fa_5 := za_5.frozen; have la_5 := za_5.lt
    have kp_5 := zp_5.cell; have fp_5 := zp_5.frozen; have lp_5 := zp_5.lt
    have kd_5 := zd_5.cell; have fd_5 := zd_5.frozen; have ld_5 := zd_5.lt
    have hw1 : w1.heap.size < wr.heap.size := ld_5
    by_cases hlt : j < n
    · obtain ⟨bl, ol, rfl, hbl, hcell⟩ := ha.at (by omega)
      obtain ⟨v, hv⟩ : ∃ v, nth xs j = v := ⟨_, rfl⟩
      have hvb := hx.nth (by decide) (by decide) j
      rw [hv] at hvb
      have c0 : w.cell? ⟨bl, ol + j, none⟩ = some (.int .u32 v) := by rw [hcell j hlt, hv]
      obtain ⟨v, rfl⟩ := Int.eq_ofNat_of_zero_le hvb.1
      have hv32 : v < 4294967296 := by omega
      have CL := Lib.hid c0
      have HV : Hid ((nth xs j).toNat = v) := Lib.hid (by rw [hv]; rfl)
      have hbL := hbl
      clear c0 hcell hv
      have hpo : Dual.Ok ⟨p0, p1, q0, q1⟩ := by rw [HP.out]; exact stP_ok start_ok hx j
      have HPO := Lib.hid hpo
      clear hpo
      obtain ⟨u0, u1, v0, v1, hu⟩ := Dual.four (learn ⟨p0, p1, q0, q1⟩ v)
      have HU := Lib.hid hu
      clear hu
      have hL : 1 ≤ lenD ⟨p0, p1, q0, q1⟩ v ∧ lenD ⟨p0, p1, q0, q1⟩ v ≤ 81 := lenD_le HPO.out v
      obtain ⟨L, HL⟩ : ∃ L, Hid (L = lenD ⟨p0, p1, q0, q1⟩ v) := ⟨_, Lib.hid rfl⟩
      rw [← HL.out] at hL
      obtain ⟨hL1, hL2⟩ := hL
      have HW : Hid (dwR z ⟨p0, p1, q0, q1⟩ v = (z ++ codeD ⟨p0, p1, q0, q1⟩ v, ⟨u0, u1, v0, v1⟩, 0)) := Lib.hid (by unfold dwR; rw [if_neg (by rw [← HL.out]; omega), HU.out])
      have HP2 : Hid ((⟨u0, u1, v0, v1⟩ : Dual) = stP Cad.Code.start xs (j + 1)) := Lib.hid (by rw [stP_next, ← HP.out, HV.out, HU.out])
      have HC2 : Hid (y ++ (z ++ codeD ⟨p0, p1, q0, q1⟩ v) = codeP Cad.Code.start xs (j + 1)) := Lib.hid (by rw [codeP_next, ← HYZ.out, ← HP.out, HV.out, List.append_assoc])
      have cL_5 : wr.cell? ⟨bl, ol + j, none⟩ = some (.int .u32 (v : Int)) := (bb_5.cell (p := ⟨bl, ol + j, none⟩) hbL).trans CL.out
      have hlt1 : (j : Int) < (n : Int) := by omega
      go_wp2_with fail
      refine (dwrite_c Z mz cz z (z ++ codeD ⟨p0, p1, q0, q1⟩ v) _ (by exact RowIn.row (lo := loz) (hi := hiz) (by repeat' (first | (with_reducible assumption) | (with_reducible exact Below.refl _ _) | (with_reducible refine Blk.drewN ?_ _) | (with_reducible refine RowIn.drewN ?_ _) | (with_reducible refine below_drewN ?_ _) | (with_reducible refine Blk.drew ?_) | (with_reducible refine RowIn.drew ?_) | (with_reducible refine Below.drew ?_) | (with_reducible refine Blk.new' ?_ ?_ <;> first | (with_reducible rfl) | (simp; done)) | (with_reducible refine Blk.alloc ?_ _) | (with_reducible refine RowIn.alloc ?_ _) | (with_reducible refine Below.alloc ?_ ?_ _) | (with_reducible apply Blk.set') | (with_reducible apply Blk.far') | (with_reducible refine RowIn.far' ?_ ?_ _) | (with_reducible refine Below.far' ?_ ?_ _) | rfl | omega | go_size))) hcz (by omega) HPO.out hv32 0 HW.out).mono ?_
      rintro e w6 ⟨Ax, mx, cx, xx, rfl, hcx, rx, HXx, b6⟩
      have Lx : xx.length ≤ z.length + L ∧ z.length + L ≤ xx.length := by rw [HXx.out]; rw [List.length_append, codeD_len, ← HL.out]; omega
      obtain ⟨Lx1, Lx2⟩ := Lx
      replace rx := rx.mono (lo' := wr.heap.size + 0) (by go_size) (Nat.le_refl _)
      have s6 := b6.size
      try simp only [World.size_alloc, World.size_setCell, World.size_drew, size_drewN] at s6
      obtain ⟨zr_6, za_6, zp_6, zd_6, ry_6, rz_6, rx_6, bb_6⟩ : Blk w6 (w.heap.size) 24 [.slice none 0 0, .int .i64 0] ∧ Blk w6 (w.heap.size + 1) 24 [.slice Y my cy, .int .i64 ((y.length : Nat) : Int)] ∧ Blk w6 (w.heap.size + 1 + 1) 24 [.slice Z mz cz, .int .i64 ((z.length : Nat) : Int)] ∧ Blk w6 (w1.heap.size) 38 [.int .i64 (p0 : Int), .int .i64 (p1 : Int), .int .u64 (q0 : Int), .int .u64 (q1 : Int)] ∧ RowIn .u8 w6 (loy) (hiy) Y my (pack y) ∧ RowIn .u8 w6 (loz) (hiz) Z mz (pack z) ∧ RowIn .u8 w6 (wr.heap.size + 0) (w6.heap.size) Ax mx (pack xx) ∧ Below w.heap.size w w6 := by
        refine ⟨?_, ?_, ?_, ?_, ?_, ?_, ?_, ?_⟩
        all_goals repeat' (first | (with_reducible assumption) | (with_reducible exact Below.refl _ _) | (with_reducible refine Blk.drewN ?_ _) | (with_reducible refine RowIn.drewN ?_ _) | (with_reducible refine below_drewN ?_ _) | (with_reducible refine Blk.drew ?_) | (with_reducible refine RowIn.drew ?_) | (with_reducible refine Below.drew ?_) | (with_reducible refine Blk.new' ?_ ?_ <;> first | (with_reducible rfl) | (simp; done)) | (with_reducible refine Blk.alloc ?_ _) | (with_reducible refine RowIn.alloc ?_ _) | (with_reducible refine Below.alloc ?_ ?_ _) | (with_reducible apply Blk.set') | (with_reducible apply Blk.far') | (with_reducible refine RowIn.far' ?_ ?_ _) | (with_reducible refine Below.far' ?_ ?_ _) | (with_reducible refine Blk.after ?_ b6) | (with_reducible refine RowIn.belowS ?_ b6) | (with_reducible refine Below.after ?_ b6 ?_) | rfl | omega | go_size)
      clear zr_5 za_5 zp_5 zd_5 kr_5 ka_5 kp_5 kd_5 fr_5 fa_5 fp_5 fd_5 lr_5 la_5 lp_5 ld_5 ry_5 rz_5 bb_5 cL_5 b6
      have kr_6 := zr_6.cell; have fr_6 := zr_6.frozen; have lr_6 := zr_6.lt
      have ka_6 := za_6.cell; have fa_6 := za_6.frozen; have la_6 := za_6.lt
      have kp_6 := zp_6.cell; have fp_6 := zp_6.frozen; have lp_6 := zp_6.lt
      have kd_6 := zd_6.cell; have fd_6 := zd_6.frozen; have ld_6 := zd_6.lt
      have cL_6 : w6.cell? ⟨bl, ol + j, none⟩ = some (.int .u32 (v : Int)) := (bb_6.cell (p := ⟨bl, ol + j, none⟩) hbL).trans CL.out
      clear rx
      by_cases hf : (j : Int) % 16 = 15
      · have t1 : ((j : Int) % 16 == 15) = true := beq_iff_eq.2 hf
        clear hf
        go_wp2_with fail
        obtain ⟨w7, hw7⟩ : ∃ w7, w7 = ((((((w6.setCell ⟨w.heap.size + 1 + 1, 0, none⟩ (.slice Ax mx cx)).setCell ⟨w.heap.size + 1 + 1, 1, none⟩ (.int .i64 ((xx.length : Nat) : Int))).setCell ⟨w1.heap.size, 0, none⟩ (.int .i64 (u0 : Int))).setCell ⟨w1.heap.size, 1, none⟩ (.int .i64 (u1 : Int))).setCell ⟨w1.heap.size, 2, none⟩ (.int .u64 (v0 : Int))).setCell ⟨w1.heap.size, 3, none⟩ (.int .u64 (v1 : Int))) := ⟨_, rfl⟩
        have zr_7 : Blk w7 (w.heap.size) 24 [.slice none 0 0, .int .i64 0] := by rw [hw7]; exact Blk.far4 (Blk.far2 zr_6 (by omega)) (by omega)
        have za_7 : Blk w7 (w.heap.size + 1) 24 [.slice Y my cy, .int .i64 ((y.length : Nat) : Int)] := by rw [hw7]; exact Blk.far4 (Blk.far2 za_6 (by omega)) (by omega)
        have zp_7 : Blk w7 (w.heap.size + 1 + 1) 24 [.slice Ax mx cx, .int .i64 ((xx.length : Nat) : Int)] := by rw [hw7]; exact Blk.far4 (Blk.set2 zp_6) (by omega)
        have zd_7 : Blk w7 (w1.heap.size) 38 [.int .i64 (u0 : Int), .int .i64 (u1 : Int), .int .u64 (v0 : Int), .int .u64 (v1 : Int)] := by rw [hw7]; exact Blk.set4 (Blk.far2 zd_6 (by omega))
        have ry_7 : RowIn .u8 w7 loy hiy Y my (pack y) := by rw [hw7]; exact RowIn.far4 (RowIn.far2 ry_6 (Or.inl (by omega))) (Or.inl (by omega))
        have rx_7 : RowIn .u8 w7 (wr.heap.size + 0) w6.heap.size Ax mx (pack xx) := by rw [hw7]; exact RowIn.far4 (RowIn.far2 rx_6 (Or.inl (by omega))) (Or.inl (by omega))
        have bb_7 : Below w.heap.size w w7 := by rw [hw7]; exact Below.far4 (Below.far2 bb_6 (by omega)) (by omega)
        have s7 : w6.heap.size ≤ w7.heap.size := by rw [hw7]; simp [World.setCell]
        rw [← hw7]
        clear hw7
        clear zr_6 za_6 zp_6 zd_6 ry_6 rz_6 rx_6 bb_6 kr_6 fr_6 lr_6 ka_6 fa_6 la_6 kp_6 fp_6 lp_6 kd_6 fd_6 ld_6 cL_6
        have kr_7 := zr_7.cell; have fr_7 := zr_7.frozen; have lr_7 := zr_7.lt
        have ka_7 := za_7.cell; have fa_7 := za_7.frozen; have la_7 := za_7.lt
        have kp_7 := zp_7.cell; have fp_7 := zp_7.frozen; have lp_7 := zp_7.lt
        have kd_7 := zd_7.cell; have fd_7 := zd_7.frozen; have ld_7 := zd_7.lt
        refine (bjoin_ok Y Ax my cy mx cx y xx _ (by exact RowIn.row (lo := loy) (hi := hiy) (by repeat' (first | (with_reducible assumption) | (with_reducible exact Below.refl _ _) | (with_reducible refine Blk.drewN ?_ _) | (with_reducible refine RowIn.drewN ?_ _) | (with_reducible refine below_drewN ?_ _) | (with_reducible refine Blk.drew ?_) | (with_reducible refine RowIn.drew ?_) | (with_reducible refine Below.drew ?_) | (with_reducible refine Blk.new' ?_ ?_ <;> first | (with_reducible rfl) | (simp; done)) | (with_reducible refine Blk.alloc ?_ _) | (with_reducible refine RowIn.alloc ?_ _) | (with_reducible refine Below.alloc ?_ ?_ _) | (with_reducible apply Blk.set') | (with_reducible apply Blk.far') | (with_reducible refine RowIn.far' ?_ ?_ _) | (with_reducible refine Below.far' ?_ ?_ _) | rfl | omega | go_size))) (by exact RowIn.row (lo := wr.heap.size + 0) (hi := w6.heap.size) (by repeat' (first | (with_reducible assumption) | (with_reducible exact Below.refl _ _) | (with_reducible refine Blk.drewN ?_ _) | (with_reducible refine RowIn.drewN ?_ _) | (with_reducible refine below_drewN ?_ _) | (with_reducible refine Blk.drew ?_) | (with_reducible refine RowIn.drew ?_) | (with_reducible refine Below.drew ?_) | (with_reducible refine Blk.new' ?_ ?_ <;> first | (with_reducible rfl) | (simp; done)) | (with_reducible refine Blk.alloc ?_ _) | (with_reducible refine RowIn.alloc ?_ _) | (with_reducible refine Below.alloc ?_ ?_ _) | (with_reducible apply Blk.set') | (with_reducible apply Blk.far') | (with_reducible refine RowIn.far' ?_ ?_ _) | (with_reducible refine Below.far' ?_ ?_ _) | rfl | omega | go_size))) hcy hcx (by omega)).mono ?_
        rintro e w8 ⟨Au, mu, cu, xu, rfl, hcu, ru, HXu, b8⟩
        have Lu : xu.length ≤ y.length + xx.length ∧ y.length + xx.length ≤ xu.length := by rw [HXu.out]; simp only [List.length_append, lowBits_len, List.length_nil, List.length_take, List.length_drop, unpack_len]; omega
        obtain ⟨Lu1, Lu2⟩ := Lu
        replace ru := ru.mono (lo' := w7.heap.size + 0) (by go_size) (Nat.le_refl _)
        have s8 := b8.size
        try simp only [World.size_alloc, World.size_setCell, World.size_drew, size_drewN] at s8
        obtain ⟨zr_8, za_8, zp_8, zd_8, ry_8, rx_8, ru_8, bb_8⟩ : Blk w8 (w.heap.size) 24 [.slice none 0 0, .int .i64 0] ∧ Blk w8 (w.heap.size + 1) 24 [.slice Y my cy, .int .i64 ((y.length : Nat) : Int)] ∧ Blk w8 (w.heap.size + 1 + 1) 24 [.slice Ax mx cx, .int .i64 ((xx.length : Nat) : Int)] ∧ Blk w8 (w1.heap.size) 38 [.int .i64 (u0 : Int), .int .i64 (u1 : Int), .int .u64 (v0 : Int), .int .u64 (v1 : Int)] ∧ RowIn .u8 w8 (loy) (hiy) Y my (pack y) ∧ RowIn .u8 w8 (wr.heap.size + 0) (w6.heap.size) Ax mx (pack xx) ∧ RowIn .u8 w8 (w7.heap.size + 0) (w8.heap.size) Au mu (pack xu) ∧ Below w.heap.size w w8 := by
          refine ⟨?_, ?_, ?_, ?_, ?_, ?_, ?_, ?_⟩
          all_goals repeat' (first | (with_reducible assumption) | (with_reducible exact Below.refl _ _) | (with_reducible refine Blk.drewN ?_ _) | (with_reducible refine RowIn.drewN ?_ _) | (with_reducible refine below_drewN ?_ _) | (with_reducible refine Blk.drew ?_) | (with_reducible refine RowIn.drew ?_) | (with_reducible refine Below.drew ?_) | (with_reducible refine Blk.new' ?_ ?_ <;> first | (with_reducible rfl) | (simp; done)) | (with_reducible refine Blk.alloc ?_ _) | (with_reducible refine RowIn.alloc ?_ _) | (with_reducible refine Below.alloc ?_ ?_ _) | (with_reducible apply Blk.set') | (with_reducible apply Blk.far') | (with_reducible refine RowIn.far' ?_ ?_ _) | (with_reducible refine Below.far' ?_ ?_ _) | (with_reducible refine Blk.after ?_ b8) | (with_reducible refine RowIn.belowS ?_ b8) | (with_reducible refine Below.after ?_ b8 ?_) | rfl | omega | go_size)
        clear zr_7 za_7 zp_7 zd_7 ry_7 rx_7 bb_7 kr_7 fr_7 lr_7 ka_7 fa_7 la_7 kp_7 fp_7 lp_7 kd_7 fd_7 ld_7 b8
        have kr_8 := zr_8.cell; have fr_8 := zr_8.frozen; have lr_8 := zr_8.lt
        have ka_8 := za_8.cell; have fa_8 := za_8.frozen; have la_8 := za_8.lt
        have kp_8 := zp_8.cell; have fp_8 := zp_8.frozen; have lp_8 := zp_8.lt
        have kd_8 := zd_8.cell; have fd_8 := zd_8.frozen; have ld_8 := zd_8.lt
        clear ru
        go_wp2
        go_roundg (n - (j + 1))
        case measure => omega
        case rel =>
          refine ⟨j + 1, u0, u1, v0, v1, mu, cu, 0, 0, w7.heap.size + 0, w8.heap.size, w1.heap.size + 1, w1.heap.size + 1, Au, none, xu, [], by omega, by go_num, HP2, by rw [List.append_nil, HXu.out, HXx.out]; exact HC2, Lib.hid (fun h => rfl), by simp; omega, hcu, ⟨Nat.le_refl _, Nat.zero_le _⟩, by omega, by omega, by go_size, ?_, ?_, ?_, ?_, ?_, RowIn.nil, ?_⟩
          · first | (with_reducible exact Blk.far2 (Blk.far2 zr_8 (by omega)) (by omega)) | (with_reducible exact (Blk.far2 (Blk.far2 zr_8 (by omega)) (by omega)).drew) | (with_reducible exact Blk.far2 (Blk.far2 zr_8.drew (by omega)) (by omega)) | (exact Blk.far2 (Blk.far2 zr_8 (by omega)) (by omega)) | (trace_state; fail)
          · first | (with_reducible exact Blk.far2 (Blk.set2 za_8) (by omega)) | (with_reducible exact (Blk.far2 (Blk.set2 za_8) (by omega)).drew) | (with_reducible exact Blk.far2 (Blk.set2 za_8.drew) (by omega)) | (exact Blk.far2 (Blk.set2 za_8) (by omega)) | (trace_state; fail)
          · first | (with_reducible exact Blk.set2 (Blk.far2 zp_8 (by omega))) | (with_reducible exact (Blk.set2 (Blk.far2 zp_8 (by omega))).drew) | (with_reducible exact Blk.set2 (Blk.far2 zp_8.drew (by omega))) | (exact Blk.set2 (Blk.far2 zp_8 (by omega))) | (trace_state; fail)
          · first | (with_reducible exact Blk.far2 (Blk.far2 zd_8 (by omega)) (by omega)) | (with_reducible exact (Blk.far2 (Blk.far2 zd_8 (by omega)) (by omega)).drew) | (with_reducible exact Blk.far2 (Blk.far2 zd_8.drew (by omega)) (by omega)) | (exact Blk.far2 (Blk.far2 zd_8 (by omega)) (by omega)) | (trace_state; fail)
          · first | (with_reducible exact RowIn.far2 (RowIn.far2 ru_8 (Or.inl (by omega))) (Or.inl (by omega))) | (with_reducible exact (RowIn.far2 (RowIn.far2 ru_8 (Or.inl (by omega))) (Or.inl (by omega))).drew) | (with_reducible exact RowIn.far2 (RowIn.far2 ru_8.drew (Or.inl (by omega))) (Or.inl (by omega))) | (exact RowIn.far2 (RowIn.far2 ru_8 (Or.inl (by omega))) (Or.inl (by omega))) | (trace_state; fail)
          · first | (with_reducible exact Below.far2 (Below.far2 bb_8 (by omega)) (by omega)) | (with_reducible exact (Below.far2 (Below.far2 bb_8 (by omega)) (by omega)).drew) | (with_reducible exact Below.far2 (Below.far2 bb_8.drew (by omega)) (by omega)) | (exact Below.far2 (Below.far2 bb_8 (by omega)) (by omega)) | (trace_state; fail)
      by_cases hf2 : j + 1 = n
      · have t1 : ((j : Int) % 16 == 15) = false := beq_eq_false_iff_ne.2 hf
        have t2 : ((j : Int) == (n : Int) - 1) = true := beq_iff_eq.2 (by omega)
        clear hf
        go_wp2_with fail
        obtain ⟨w7, hw7⟩ : ∃ w7, w7 = ((((((w6.setCell ⟨w.heap.size + 1 + 1, 0, none⟩ (.slice Ax mx cx)).setCell ⟨w.heap.size + 1 + 1, 1, none⟩ (.int .i64 ((xx.length : Nat) : Int))).setCell ⟨w1.heap.size, 0, none⟩ (.int .i64 (u0 : Int))).setCell ⟨w1.heap.size, 1, none⟩ (.int .i64 (u1 : Int))).setCell ⟨w1.heap.size, 2, none⟩ (.int .u64 (v0 : Int))).setCell ⟨w1.heap.size, 3, none⟩ (.int .u64 (v1 : Int))) := ⟨_, rfl⟩
        have zr_7 : Blk w7 (w.heap.size) 24 [.slice none 0 0, .int .i64 0] := by rw [hw7]; exact Blk.far4 (Blk.far2 zr_6 (by omega)) (by omega)
        have za_7 : Blk w7 (w.heap.size + 1) 24 [.slice Y my cy, .int .i64 ((y.length : Nat) : Int)] := by rw [hw7]; exact Blk.far4 (Blk.far2 za_6 (by omega)) (by omega)
        have zp_7 : Blk w7 (w.heap.size + 1 + 1) 24 [.slice Ax mx cx, .int .i64 ((xx.length : Nat) : Int)] := by rw [hw7]; exact Blk.far4 (Blk.set2 zp_6) (by omega)
        have zd_7 : Blk w7 (w1.heap.size) 38 [.int .i64 (u0 : Int), .int .i64 (u1 : Int), .int .u64 (v0 : Int), .int .u64 (v1 : Int)] := by rw [hw7]; exact Blk.set4 (Blk.far2 zd_6 (by omega))
        have ry_7 : RowIn .u8 w7 loy hiy Y my (pack y) := by rw [hw7]; exact RowIn.far4 (RowIn.far2 ry_6 (Or.inl (by omega))) (Or.inl (by omega))
        have rx_7 : RowIn .u8 w7 (wr.heap.size + 0) w6.heap.size Ax mx (pack xx) := by rw [hw7]; exact RowIn.far4 (RowIn.far2 rx_6 (Or.inl (by omega))) (Or.inl (by omega))
        have bb_7 : Below w.heap.size w w7 := by rw [hw7]; exact Below.far4 (Below.far2 bb_6 (by omega)) (by omega)
        have s7 : w6.heap.size ≤ w7.heap.size := by rw [hw7]; simp [World.setCell]
        rw [← hw7]
        clear hw7
        clear zr_6 za_6 zp_6 zd_6 ry_6 rz_6 rx_6 bb_6 kr_6 fr_6 lr_6 ka_6 fa_6 la_6 kp_6 fp_6 lp_6 kd_6 fd_6 ld_6 cL_6
        have kr_7 := zr_7.cell; have fr_7 := zr_7.frozen; have lr_7 := zr_7.lt
        have ka_7 := za_7.cell; have fa_7 := za_7.frozen; have la_7 := za_7.lt
        have kp_7 := zp_7.cell; have fp_7 := zp_7.frozen; have lp_7 := zp_7.lt
        have kd_7 := zd_7.cell; have fd_7 := zd_7.frozen; have ld_7 := zd_7.lt
        refine (bjoin_ok Y Ax my cy mx cx y xx _ (by exact RowIn.row (lo := loy) (hi := hiy) (by repeat' (first | (with_reducible assumption) | (with_reducible exact Below.refl _ _) | (with_reducible refine Blk.drewN ?_ _) | (with_reducible refine RowIn.drewN ?_ _) | (with_reducible refine below_drewN ?_ _) | (with_reducible refine Blk.drew ?_) | (with_reducible refine RowIn.drew ?_) | (with_reducible refine Below.drew ?_) | (with_reducible refine Blk.new' ?_ ?_ <;> first | (with_reducible rfl) | (simp; done)) | (with_reducible refine Blk.alloc ?_ _) | (with_reducible refine RowIn.alloc ?_ _) | (with_reducible refine Below.alloc ?_ ?_ _) | (with_reducible apply Blk.set') | (with_reducible apply Blk.far') | (with_reducible refine RowIn.far' ?_ ?_ _) | (with_reducible refine Below.far' ?_ ?_ _) | rfl | omega | go_size))) (by exact RowIn.row (lo := wr.heap.size + 0) (hi := w6.heap.size) (by repeat' (first | (with_reducible assumption) | (with_reducible exact Below.refl _ _) | (with_reducible refine Blk.drewN ?_ _) | (with_reducible refine RowIn.drewN ?_ _) | (with_reducible refine below_drewN ?_ _) | (with_reducible refine Blk.drew ?_) | (with_reducible refine RowIn.drew ?_) | (with_reducible refine Below.drew ?_) | (with_reducible refine Blk.new' ?_ ?_ <;> first | (with_reducible rfl) | (simp; done)) | (with_reducible refine Blk.alloc ?_ _) | (with_reducible refine RowIn.alloc ?_ _) | (with_reducible refine Below.alloc ?_ ?_ _) | (with_reducible apply Blk.set') | (with_reducible apply Blk.far') | (with_reducible refine RowIn.far' ?_ ?_ _) | (with_reducible refine Below.far' ?_ ?_ _) | rfl | omega | go_size))) hcy hcx (by omega)).mono ?_
        rintro e w8 ⟨Au, mu, cu, xu, rfl, hcu, ru, HXu, b8⟩
        have Lu : xu.length ≤ y.length + xx.length ∧ y.length + xx.length ≤ xu.length := by rw [HXu.out]; simp only [List.length_append, lowBits_len, List.length_nil, List.length_take, List.length_drop, unpack_len]; omega
        obtain ⟨Lu1, Lu2⟩ := Lu
        replace ru := ru.mono (lo' := w7.heap.size + 0) (by go_size) (Nat.le_refl _)
        have s8 := b8.size
        try simp only [World.size_alloc, World.size_setCell, World.size_drew, size_drewN] at s8
        obtain ⟨zr_8, za_8, zp_8, zd_8, ry_8, rx_8, ru_8, bb_8⟩ : Blk w8 (w.heap.size) 24 [.slice none 0 0, .int .i64 0] ∧ Blk w8 (w.heap.size + 1) 24 [.slice Y my cy, .int .i64 ((y.length : Nat) : Int)] ∧ Blk w8 (w.heap.size + 1 + 1) 24 [.slice Ax mx cx, .int .i64 ((xx.length : Nat) : Int)] ∧ Blk w8 (w1.heap.size) 38 [.int .i64 (u0 : Int), .int .i64 (u1 : Int), .int .u64 (v0 : Int), .int .u64 (v1 : Int)] ∧ RowIn .u8 w8 (loy) (hiy) Y my (pack y) ∧ RowIn .u8 w8 (wr.heap.size + 0) (w6.heap.size) Ax mx (pack xx) ∧ RowIn .u8 w8 (w7.heap.size + 0) (w8.heap.size) Au mu (pack xu) ∧ Below w.heap.size w w8 := by
          refine ⟨?_, ?_, ?_, ?_, ?_, ?_, ?_, ?_⟩
          all_goals repeat' (first | (with_reducible assumption) | (with_reducible exact Below.refl _ _) | (with_reducible refine Blk.drewN ?_ _) | (with_reducible refine RowIn.drewN ?_ _) | (with_reducible refine below_drewN ?_ _) | (with_reducible refine Blk.drew ?_) | (with_reducible refine RowIn.drew ?_) | (with_reducible refine Below.drew ?_) | (with_reducible refine Blk.new' ?_ ?_ <;> first | (with_reducible rfl) | (simp; done)) | (with_reducible refine Blk.alloc ?_ _) | (with_reducible refine RowIn.alloc ?_ _) | (with_reducible refine Below.alloc ?_ ?_ _) | (with_reducible apply Blk.set') | (with_reducible apply Blk.far') | (with_reducible refine RowIn.far' ?_ ?_ _) | (with_reducible refine Below.far' ?_ ?_ _) | (with_reducible refine Blk.after ?_ b8) | (with_reducible refine RowIn.belowS ?_ b8) | (with_reducible refine Below.after ?_ b8 ?_) | rfl | omega | go_size)
        clear zr_7 za_7 zp_7 zd_7 ry_7 rx_7 bb_7 kr_7 fr_7 lr_7 ka_7 fa_7 la_7 kp_7 fp_7 lp_7 kd_7 fd_7 ld_7 b8
        have kr_8 := zr_8.cell; have fr_8 := zr_8.frozen; have lr_8 := zr_8.lt
        have ka_8 := za_8.cell; have fa_8 := za_8.frozen; have la_8 := za_8.lt
        have kp_8 := zp_8.cell; have fp_8 := zp_8.frozen; have lp_8 := zp_8.lt
        have kd_8 := zd_8.cell; have fd_8 := zd_8.frozen; have ld_8 := zd_8.lt
        clear ru
        go_wp2
        go_roundg (n - (j + 1))
        case measure => omega
        case rel =>
          refine ⟨j + 1, u0, u1, v0, v1, mu, cu, 0, 0, w7.heap.size + 0, w8.heap.size, w1.heap.size + 1, w1.heap.size + 1, Au, none, xu, [], by omega, by go_num, HP2, by rw [List.append_nil, HXu.out, HXx.out]; exact HC2, Lib.hid (fun h => rfl), by simp; omega, hcu, ⟨Nat.le_refl _, Nat.zero_le _⟩, by omega, by omega, by go_size, ?_, ?_, ?_, ?_, ?_, RowIn.nil, ?_⟩
          · first | (with_reducible exact Blk.far2 (Blk.far2 zr_8 (by omega)) (by omega)) | (with_reducible exact (Blk.far2 (Blk.far2 zr_8 (by omega)) (by omega)).drew) | (with_reducible exact Blk.far2 (Blk.far2 zr_8.drew (by omega)) (by omega)) | (exact Blk.far2 (Blk.far2 zr_8 (by omega)) (by omega)) | (trace_state; fail)
          · first | (with_reducible exact Blk.far2 (Blk.set2 za_8) (by omega)) | (with_reducible exact (Blk.far2 (Blk.set2 za_8) (by omega)).drew) | (with_reducible exact Blk.far2 (Blk.set2 za_8.drew) (by omega)) | (exact Blk.far2 (Blk.set2 za_8) (by omega)) | (trace_state; fail)
          · first | (with_reducible exact Blk.set2 (Blk.far2 zp_8 (by omega))) | (with_reducible exact (Blk.set2 (Blk.far2 zp_8 (by omega))).drew) | (with_reducible exact Blk.set2 (Blk.far2 zp_8.drew (by omega))) | (exact Blk.set2 (Blk.far2 zp_8 (by omega))) | (trace_state; fail)
          · first | (with_reducible exact Blk.far2 (Blk.far2 zd_8 (by omega)) (by omega)) | (with_reducible exact (Blk.far2 (Blk.far2 zd_8 (by omega)) (by omega)).drew) | (with_reducible exact Blk.far2 (Blk.far2 zd_8.drew (by omega)) (by omega)) | (exact Blk.far2 (Blk.far2 zd_8 (by omega)) (by omega)) | (trace_state; fail)
          · first | (with_reducible exact RowIn.far2 (RowIn.far2 ru_8 (Or.inl (by omega))) (Or.inl (by omega))) | (with_reducible exact (RowIn.far2 (RowIn.far2 ru_8 (Or.inl (by omega))) (Or.inl (by omega))).drew) | (with_reducible exact RowIn.far2 (RowIn.far2 ru_8.drew (Or.inl (by omega))) (Or.inl (by omega))) | (exact RowIn.far2 (RowIn.far2 ru_8 (Or.inl (by omega))) (Or.inl (by omega))) | (trace_state; fail)
          · first | (with_reducible exact Below.far2 (Below.far2 bb_8 (by omega)) (by omega)) | (with_reducible exact (Below.far2 (Below.far2 bb_8 (by omega)) (by omega)).drew) | (with_reducible exact Below.far2 (Below.far2 bb_8.drew (by omega)) (by omega)) | (exact Below.far2 (Below.far2 bb_8 (by omega)) (by omega)) | (trace_state; fail)
      · have t1 : ((j : Int) % 16 == 15) = false := beq_eq_false_iff_ne.2 hf
        have t2 : ((j : Int) == (n : Int) - 1) = false := beq_eq_false_iff_ne.2 (by omega)
        have hjn : j + 1 ≠ n := hf2
        go_wp2
        obtain ⟨w7, hw7⟩ : ∃ w7, w7 = ((((((w6.setCell ⟨w.heap.size + 1 + 1, 0, none⟩ (.slice Ax mx cx)).setCell ⟨w.heap.size + 1 + 1, 1, none⟩ (.int .i64 ((xx.length : Nat) : Int))).setCell ⟨w1.heap.size, 0, none⟩ (.int .i64 (u0 : Int))).setCell ⟨w1.heap.size, 1, none⟩ (.int .i64 (u1 : Int))).setCell ⟨w1.heap.size, 2, none⟩ (.int .u64 (v0 : Int))).setCell ⟨w1.heap.size, 3, none⟩ (.int .u64 (v1 : Int))) := ⟨_, rfl⟩
        have zr_7 : Blk w7 (w.heap.size) 24 [.slice none 0 0, .int .i64 0] := by rw [hw7]; exact Blk.far4 (Blk.far2 zr_6 (by omega)) (by omega)
        have za_7 : Blk w7 (w.heap.size + 1) 24 [.slice Y my cy, .int .i64 ((y.length : Nat) : Int)] := by rw [hw7]; exact Blk.far4 (Blk.far2 za_6 (by omega)) (by omega)
        have zp_7 : Blk w7 (w.heap.size + 1 + 1) 24 [.slice Ax mx cx, .int .i64 ((xx.length : Nat) : Int)] := by rw [hw7]; exact Blk.far4 (Blk.set2 zp_6) (by omega)
        have zd_7 : Blk w7 (w1.heap.size) 38 [.int .i64 (u0 : Int), .int .i64 (u1 : Int), .int .u64 (v0 : Int), .int .u64 (v1 : Int)] := by rw [hw7]; exact Blk.set4 (Blk.far2 zd_6 (by omega))
        have ry_7 : RowIn .u8 w7 loy hiy Y my (pack y) := by rw [hw7]; exact RowIn.far4 (RowIn.far2 ry_6 (Or.inl (by omega))) (Or.inl (by omega))
        have rx_7 : RowIn .u8 w7 (wr.heap.size + 0) w6.heap.size Ax mx (pack xx) := by rw [hw7]; exact RowIn.far4 (RowIn.far2 rx_6 (Or.inl (by omega))) (Or.inl (by omega))
        have bb_7 : Below w.heap.size w w7 := by rw [hw7]; exact Below.far4 (Below.far2 bb_6 (by omega)) (by omega)
        have s7 : w6.heap.size ≤ w7.heap.size := by rw [hw7]; simp [World.setCell]
        rw [← hw7]
        clear hw7
        clear zr_6 za_6 zp_6 zd_6 ry_6 rz_6 rx_6 bb_6 kr_6 fr_6 lr_6 ka_6 fa_6 la_6 kp_6 fp_6 lp_6 kd_6 fd_6 ld_6 cL_6
        have kr_7 := zr_7.cell; have fr_7 := zr_7.frozen; have lr_7 := zr_7.lt
        have ka_7 := za_7.cell; have fa_7 := za_7.frozen; have la_7 := za_7.lt
        have kp_7 := zp_7.cell; have fp_7 := zp_7.frozen; have lp_7 := zp_7.lt
        have kd_7 := zd_7.cell; have fd_7 := zd_7.frozen; have ld_7 := zd_7.lt
        go_roundg (n - (j + 1))
        case measure => omega
        case rel => exact ⟨j + 1, u0, u1, v0, v1, my, cy, mx, cx, loy, hiy, wr.heap.size + 0, w6.heap.size, Y, Ax, y, xx, by omega, by go_num, HP2, by rw [HXx.out]; exact HC2, Lib.hid (fun h => absurd h hjn), by omega, hcy, hcx, hloy, by omega, by omega, zr_7, za_7, zp_7, zd_7, ry_7, rx_7, bb_7⟩
    · obtain rfl : j = n := by omega
      have hz := HLAST.out rfl
      have HYE : Hid (y = codeP Cad.Code.start xs j) := Lib.hid (by rw [← HYZ.out, hz, List.append_nil])
      clear hz
      go_wp2
      refine bodyPost_ret (v := .tuple #[.agg #[.slice Y my cy, .int .i64 ((y.length : Nat) : Int)], .int .i64 0]) (by simp [results, Tryd.results43, go_sem, kr_5, lr_5, fr_5]) rfl ?_
      refine ⟨Y, my, cy, y, rfl, hcy, ?_, HYE, ?_⟩
      · refine RowIn.mono (lo := loy) (hi := hiy) ?_ (by omega) ?_
        · exact RowIn.far2 ry_5 (Or.inl (by omega))
        · (try simp only [World.setCell]); simpa [World.setCell] using hhiy
      · exact Below.far2 bb_5 (by omega)


end Go.Proofs.YtppilidcjlnmoaaDoor

/-
  Contract of coder.Decode.
-/
namespace Go.Proofs.YtppilidcjlnmoaaDoor
open Go.RowKit Cad Cad.Bit Cad.Code
set_option linter.unusedVariables false
set_option linter.unusedSimpArgs false

theorem dread_c (A : Option Addr) (m c : Nat) (bs : List Bool) (p : Int) {p0 p1 q0 q1 u0 u1 v0 v1 : Nat} {x y er : Int} (w : World) (ha : Row .u8 w A m (pack bs)) (hc : m ≤ c ∧ c ≤ 9223372036854775807) (hl : bs.length ≤ 330000) (hp : -9223372036854775808 ≤ p ∧ p ≤ 9223372036854775807) (hd : Dual.Ok ⟨p0, p1, q0, q1⟩) (ht : Tab w) (he : drR bs p ⟨p0, p1, q0, q1⟩ = (x, y, ⟨u0, u1, v0, v1⟩, er)) :
    Calls Tryd.prog 33 #[.agg #[.slice A m c, .int .i64 ((bs.length : Nat) : Int)], .int .i64 p, .agg #[.int .i64 (p0 : Int), .int .i64 (p1 : Int), .int .u64 (q0 : Int), .int .u64 (q1 : Int)]] w fun e w' => e = .returned (.tuple #[.int .u32 x, .int .i64 y, .agg #[.int .i64 (u0 : Int), .int .i64 (u1 : Int), .int .u64 (v0 : Int), .int .u64 (v1 : Int)], .int .i64 er]) ∧ Below w.heap.size w w' := by
  have h := dRead_ret A m c bs p p0 p1 q0 q1 w ha hc hl hp hd ht
  rw [he] at h
  refine h.mono ?_
  rintro e w' ⟨a0, a1, b0, b1, rfl, HD, hb⟩
  have h := HD.out
  injection h with h1 h2 h3 h4
  exact ⟨by rw [h1, h2, h3, h4], hb⟩

theorem u32E : Elem Tryd.prog 27 55 .u32 4 := ⟨Tryd.underlying27, Tryd.underlying55, by kernel_rfl, by decide⟩


/-- Numbers, an index and an error are returned. -/
def RetL (w : World) (l : List Nat) (y er : Int) (e : Ending) (w' : World) : Prop :=
  ∃ (B : Option Addr) (k d : Nat) (ys : List Int), e = .returned (.tuple #[.slice B k d, .int .i64 y, .int .i64 er]) ∧ (k ≤ d ∧ d ≤ 9223372036854775807) ∧ RowIn .u32 w' w.heap.size w'.heap.size B k ys ∧ Hid (ys = ints l) ∧ Below w.heap.size w w'

theorem cdec_bad (A : Option Addr) (m c : Nat) (N : Int) (bytes : List Int) (n : Int) (w : World) (ha : Row .u8 w A m bytes) (hb : Within 0 255 bytes) (hc : m ≤ c ∧ c ≤ 9223372036854775807) (hv : ¬ Valid bytes N) :
    Calls Tryd.prog 19 #[.agg #[.slice A m c, .int .i64 N], .int .i64 n] w (RetL w [] 0 8) := by
  have hri := ha.rowIn
  go_enter Tryd.func19, Tryd.ntmps19
  go_wp2_with fail
  refine (bcheck_bad A m c N bytes _ (by exact RowIn.row (lo := 0) (hi := w.heap.size) (by repeat' (first | (with_reducible assumption) | (with_reducible exact Below.refl _ _) | (with_reducible refine Blk.drewN ?_ _) | (with_reducible refine RowIn.drewN ?_ _) | (with_reducible refine below_drewN ?_ _) | (with_reducible refine Blk.drew ?_) | (with_reducible refine RowIn.drew ?_) | (with_reducible refine Below.drew ?_) | (with_reducible refine Blk.new' ?_ ?_ <;> first | (with_reducible rfl) | (simp; done)) | (with_reducible refine Blk.alloc ?_ _) | (with_reducible refine RowIn.alloc ?_ _) | (with_reducible refine Below.alloc ?_ ?_ _) | (with_reducible apply Blk.set') | (with_reducible apply Blk.far') | (with_reducible refine RowIn.far' ?_ ?_ _) | (with_reducible refine Below.far' ?_ ?_ _) | rfl | omega | go_size))) hb (by omega) hv).mono ?_
  rintro e w1 ⟨rfl, b1⟩
  have s1 := b1.size
  try simp only [World.size_alloc, World.size_setCell, World.size_drew, size_drewN] at s1
  obtain ⟨zb_1, rb_1, bb_1⟩ : Blk w1 (w.heap.size) 24 [.slice A m c, .int .i64 N] ∧ RowIn .u8 w1 (0) (w.heap.size) A m bytes ∧ Below w.heap.size w w1 := by
    refine ⟨?_, ?_, ?_⟩
    all_goals repeat' (first | (with_reducible assumption) | (with_reducible exact Below.refl _ _) | (with_reducible refine Blk.drewN ?_ _) | (with_reducible refine RowIn.drewN ?_ _) | (with_reducible refine below_drewN ?_ _) | (with_reducible refine Blk.drew ?_) | (with_reducible refine RowIn.drew ?_) | (with_reducible refine Below.drew ?_) | (with_reducible refine Blk.new' ?_ ?_ <;> first | (with_reducible rfl) | (simp; done)) | (with_reducible refine Blk.alloc ?_ _) | (with_reducible refine RowIn.alloc ?_ _) | (with_reducible refine Below.alloc ?_ ?_ _) | (with_reducible apply Blk.set') | (with_reducible apply Blk.far') | (with_reducible refine RowIn.far' ?_ ?_ _) | (with_reducible refine Below.far' ?_ ?_ _) | (with_reducible refine Blk.after ?_ b1) | (with_reducible refine RowIn.belowS ?_ b1) | (with_reducible refine Below.after ?_ b1 ?_) | rfl | omega | go_size)
  clear b1
  have kb_1 := zb_1.cell; have fb_1 := zb_1.frozen; have lb_1 := zb_1.lt
  go_wp2
  refine bodyPost_ret (v := .tuple #[.slice none 0 0, .int .i64 0, .int .i64 8]) (by simp [results, Tryd.results19, go_sem]) rfl ?_
  exact ⟨none, 0, 0, [], rfl, ⟨Nat.le_refl _, Nat.zero_le _⟩, RowIn.nil, Lib.hid rfl, bb_1⟩


set_option maxRecDepth 100000 in
set_option maxHeartbeats 2000000 in
theorem cdec_ret (A : Option Addr) (m c : Nat) (bs : List Bool) (n : Int) (w : World) (ha : Row .u8 w A m (pack bs)) (hc : m ≤ c ∧ c ≤ 9223372036854775807) (hl : bs.length ≤ 330000) (hn : -9223372036854775808 ≤ n ∧ n ≤ 9223372036854775807) (ht : Tab w) :
    Calls Tryd.prog 19 #[.agg #[.slice A m c, .int .i64 ((bs.length : Nat) : Int)], .int .i64 n] w (RetL w (decR bs n).1 (decR bs n).2.1 (decR bs n).2.2) := by
  have hri := ha.rowIn
  have hti : RowIn .u8 w 0 w.heap.size (some ⟨0, 0, none⟩) 64 dbTab := ht.rowIn
  by_cases h1 : n < 0
  · have e : decR bs n = ([], 0, 2) := by unfold decR; rw [if_pos h1]
    rw [e]
    clear e
    go_enter Tryd.func19, Tryd.ntmps19
    go_wp2_with fail
    refine (bcheck_ok A m c bs _ (by exact RowIn.row (lo := 0) (hi := w.heap.size) (by repeat' (first | (with_reducible assumption) | (with_reducible exact Below.refl _ _) | (with_reducible refine Blk.drewN ?_ _) | (with_reducible refine RowIn.drewN ?_ _) | (with_reducible refine below_drewN ?_ _) | (with_reducible refine Blk.drew ?_) | (with_reducible refine RowIn.drew ?_) | (with_reducible refine Below.drew ?_) | (with_reducible refine Blk.new' ?_ ?_ <;> first | (with_reducible rfl) | (simp; done)) | (with_reducible refine Blk.alloc ?_ _) | (with_reducible refine RowIn.alloc ?_ _) | (with_reducible refine Below.alloc ?_ ?_ _) | (with_reducible apply Blk.set') | (with_reducible apply Blk.far') | (with_reducible refine RowIn.far' ?_ ?_ _) | (with_reducible refine Below.far' ?_ ?_ _) | rfl | omega | go_size))) (by omega) hl).mono ?_
    rintro e w1 ⟨rfl, b1⟩
    have s1 := b1.size
    try simp only [World.size_alloc, World.size_setCell, World.size_drew, size_drewN] at s1
    obtain ⟨zb_1, rb_1, rt_1, bb_1⟩ : Blk w1 (w.heap.size) 24 [.slice A m c, .int .i64 ((bs.length : Nat) : Int)] ∧ RowIn .u8 w1 (0) (w.heap.size) A m (pack bs) ∧ RowIn .u8 w1 (0) (w.heap.size) (some ⟨0, 0, none⟩) 64 dbTab ∧ Below w.heap.size w w1 := by
      refine ⟨?_, ?_, ?_, ?_⟩
      all_goals repeat' (first | (with_reducible assumption) | (with_reducible exact Below.refl _ _) | (with_reducible refine Blk.drewN ?_ _) | (with_reducible refine RowIn.drewN ?_ _) | (with_reducible refine below_drewN ?_ _) | (with_reducible refine Blk.drew ?_) | (with_reducible refine RowIn.drew ?_) | (with_reducible refine Below.drew ?_) | (with_reducible refine Blk.new' ?_ ?_ <;> first | (with_reducible rfl) | (simp; done)) | (with_reducible refine Blk.alloc ?_ _) | (with_reducible refine RowIn.alloc ?_ _) | (with_reducible refine Below.alloc ?_ ?_ _) | (with_reducible apply Blk.set') | (with_reducible apply Blk.far') | (with_reducible refine RowIn.far' ?_ ?_ _) | (with_reducible refine Below.far' ?_ ?_ _) | (with_reducible refine Blk.after ?_ b1) | (with_reducible refine RowIn.belowS ?_ b1) | (with_reducible refine Below.after ?_ b1 ?_) | rfl | omega | go_size)
    clear b1
    have kb_1 := zb_1.cell; have fb_1 := zb_1.frozen; have lb_1 := zb_1.lt
    go_wp2
    refine bodyPost_ret (v := .tuple #[.slice none 0 0, .int .i64 0, .int .i64 2]) (by simp [results, Tryd.results19, go_sem]) rfl ?_
    exact ⟨none, 0, 0, [], rfl, ⟨Nat.le_refl _, Nat.zero_le _⟩, RowIn.nil, Lib.hid rfl, bb_1⟩
  by_cases h2 : 4000 < n
  · have e : decR bs n = ([], 0, 4) := by unfold decR; rw [if_neg h1, if_pos h2]
    rw [e]
    clear e
    go_enter Tryd.func19, Tryd.ntmps19
    go_wp2_with fail
    refine (bcheck_ok A m c bs _ (by exact RowIn.row (lo := 0) (hi := w.heap.size) (by repeat' (first | (with_reducible assumption) | (with_reducible exact Below.refl _ _) | (with_reducible refine Blk.drewN ?_ _) | (with_reducible refine RowIn.drewN ?_ _) | (with_reducible refine below_drewN ?_ _) | (with_reducible refine Blk.drew ?_) | (with_reducible refine RowIn.drew ?_) | (with_reducible refine Below.drew ?_) | (with_reducible refine Blk.new' ?_ ?_ <;> first | (with_reducible rfl) | (simp; done)) | (with_reducible refine Blk.alloc ?_ _) | (with_reducible refine RowIn.alloc ?_ _) | (with_reducible refine Below.alloc ?_ ?_ _) | (with_reducible apply Blk.set') | (with_reducible apply Blk.far') | (with_reducible refine RowIn.far' ?_ ?_ _) | (with_reducible refine Below.far' ?_ ?_ _) | rfl | omega | go_size))) (by omega) hl).mono ?_
    rintro e w1 ⟨rfl, b1⟩
    have s1 := b1.size
    try simp only [World.size_alloc, World.size_setCell, World.size_drew, size_drewN] at s1
    obtain ⟨zb_1, rb_1, rt_1, bb_1⟩ : Blk w1 (w.heap.size) 24 [.slice A m c, .int .i64 ((bs.length : Nat) : Int)] ∧ RowIn .u8 w1 (0) (w.heap.size) A m (pack bs) ∧ RowIn .u8 w1 (0) (w.heap.size) (some ⟨0, 0, none⟩) 64 dbTab ∧ Below w.heap.size w w1 := by
      refine ⟨?_, ?_, ?_, ?_⟩
      all_goals repeat' (first | (with_reducible assumption) | (with_reducible exact Below.refl _ _) | (with_reducible refine Blk.drewN ?_ _) | (with_reducible refine RowIn.drewN ?_ _) | (with_reducible refine below_drewN ?_ _) | (with_reducible refine Blk.drew ?_) | (with_reducible refine RowIn.drew ?_) | (with_reducible refine Below.drew ?_) | (with_reducible refine Blk.new' ?_ ?_ <;> first | (with_reducible rfl) | (simp; done)) | (with_reducible refine Blk.alloc ?_ _) | (with_reducible refine RowIn.alloc ?_ _) | (with_reducible refine Below.alloc ?_ ?_ _) | (with_reducible apply Blk.set') | (with_reducible apply Blk.far') | (with_reducible refine RowIn.far' ?_ ?_ _) | (with_reducible refine Below.far' ?_ ?_ _) | (with_reducible refine Blk.after ?_ b1) | (with_reducible refine RowIn.belowS ?_ b1) | (with_reducible refine Below.after ?_ b1 ?_) | rfl | omega | go_size)
    clear b1
    have kb_1 := zb_1.cell; have fb_1 := zb_1.frozen; have lb_1 := zb_1.lt
    go_wp2
    refine bodyPost_ret (v := .tuple #[.slice none 0 0, .int .i64 0, .int .i64 4]) (by simp [results, Tryd.results19, go_sem]) rfl ?_
    exact ⟨none, 0, 0, [], rfl, ⟨Nat.le_refl _, Nat.zero_le _⟩, RowIn.nil, Lib.hid rfl, bb_1⟩
  obtain ⟨n, rfl⟩ := Int.eq_ofNat_of_zero_le (by omega : 0 ≤ n)
  have hn4 : n ≤ 4000 := by omega
  have HR : Hid (decR bs (n : Int) = match readL n bs Cad.Code.start with | .ok vs m _ => (vs, ((m : Nat) : Int), 0) | .err e => ([], 0, ((e : Nat) : Int))) := by unfold decR; rw [if_neg h1, if_neg h2, Int.toNat_natCast]; exact Lib.hid rfl
  obtain ⟨G, HG⟩ : ∃ G, Hid (G = readL n bs Cad.Code.start) := ⟨_, Lib.hid rfl⟩
  go_enter Tryd.func19, Tryd.ntmps19
  go_wp2_with fail
  refine (bcheck_ok A m c bs _ (by exact RowIn.row (lo := 0) (hi := w.heap.size) (by repeat' (first | (with_reducible assumption) | (with_reducible exact Below.refl _ _) | (with_reducible refine Blk.drewN ?_ _) | (with_reducible refine RowIn.drewN ?_ _) | (with_reducible refine below_drewN ?_ _) | (with_reducible refine Blk.drew ?_) | (with_reducible refine RowIn.drew ?_) | (with_reducible refine Below.drew ?_) | (with_reducible refine Blk.new' ?_ ?_ <;> first | (with_reducible rfl) | (simp; done)) | (with_reducible refine Blk.alloc ?_ _) | (with_reducible refine RowIn.alloc ?_ _) | (with_reducible refine Below.alloc ?_ ?_ _) | (with_reducible apply Blk.set') | (with_reducible apply Blk.far') | (with_reducible refine RowIn.far' ?_ ?_ _) | (with_reducible refine Below.far' ?_ ?_ _) | rfl | omega | go_size))) (by omega) hl).mono ?_
  rintro e w1 ⟨rfl, b1⟩
  have s1 := b1.size
  try simp only [World.size_alloc, World.size_setCell, World.size_drew, size_drewN] at s1
  obtain ⟨zb_1, rb_1, rt_1, bb_1⟩ : Blk w1 (w.heap.size) 24 [.slice A m c, .int .i64 ((bs.length : Nat) : Int)] ∧ RowIn .u8 w1 (0) (w.heap.size) A m (pack bs) ∧ RowIn .u8 w1 (0) (w.heap.size) (some ⟨0, 0, none⟩) 64 dbTab ∧ Below w.heap.size w w1 := by
    refine ⟨?_, ?_, ?_, ?_⟩
    all_goals repeat' (first | (with_reducible assumption) | (with_reducible exact Below.refl _ _) | (with_reducible refine Blk.drewN ?_ _) | (with_reducible refine RowIn.drewN ?_ _) | (with_reducible refine below_drewN ?_ _) | (with_reducible refine Blk.drew ?_) | (with_reducible refine RowIn.drew ?_) | (with_reducible refine Below.drew ?_) | (with_reducible refine Blk.new' ?_ ?_ <;> first | (with_reducible rfl) | (simp; done)) | (with_reducible refine Blk.alloc ?_ _) | (with_reducible refine RowIn.alloc ?_ _) | (with_reducible refine Below.alloc ?_ ?_ _) | (with_reducible apply Blk.set') | (with_reducible apply Blk.far') | (with_reducible refine RowIn.far' ?_ ?_ _) | (with_reducible refine Below.far' ?_ ?_ _) | (with_reducible refine Blk.after ?_ b1) | (with_reducible refine RowIn.belowS ?_ b1) | (with_reducible refine Below.after ?_ b1 ?_) | rfl | omega | go_size)
  clear b1
  have kb_1 := zb_1.cell; have fb_1 := zb_1.frozen; have lb_1 := zb_1.lt
  go_wp2_with fail
  refine (dstart_ok _).mono ?_
  rintro e w2 ⟨rfl, b2⟩
  have s2 := b2.size
  try simp only [World.size_alloc, World.size_setCell, World.size_drew, size_drewN] at s2
  obtain ⟨zb_2, rb_2, rt_2, bb_2⟩ : Blk w2 (w.heap.size) 24 [.slice A m c, .int .i64 ((bs.length : Nat) : Int)] ∧ RowIn .u8 w2 (0) (w.heap.size) A m (pack bs) ∧ RowIn .u8 w2 (0) (w.heap.size) (some ⟨0, 0, none⟩) 64 dbTab ∧ Below w.heap.size w w2 := by
    refine ⟨?_, ?_, ?_, ?_⟩
    all_goals repeat' (first | (with_reducible assumption) | (with_reducible exact Below.refl _ _) | (with_reducible refine Blk.drewN ?_ _) | (with_reducible refine RowIn.drewN ?_ _) | (with_reducible refine below_drewN ?_ _) | (with_reducible refine Blk.drew ?_) | (with_reducible refine RowIn.drew ?_) | (with_reducible refine Below.drew ?_) | (with_reducible refine Blk.new' ?_ ?_ <;> first | (with_reducible rfl) | (simp; done)) | (with_reducible refine Blk.alloc ?_ _) | (with_reducible refine RowIn.alloc ?_ _) | (with_reducible refine Below.alloc ?_ ?_ _) | (with_reducible apply Blk.set') | (with_reducible apply Blk.far') | (with_reducible refine RowIn.far' ?_ ?_ _) | (with_reducible refine Below.far' ?_ ?_ _) | (with_reducible refine Blk.after ?_ b2) | (with_reducible refine RowIn.belowS ?_ b2) | (with_reducible refine Below.after ?_ b2 ?_) | rfl | omega | go_size)
  clear zb_1 rb_1 rt_1 bb_1 kb_1 fb_1 lb_1 b2
  have kb_2 := zb_2.cell; have fb_2 := zb_2.frozen; have lb_2 := zb_2.lt
  go_wp2_with fail
  go_loopg [7, 8, 26] n (fun k vl va vi wr => ∃ (j a p0 p1 q0 q1 d : Nat) (B : Option Addr) (us : List Nat) (ys : List Int), j + k = n ∧ vi = .int .i64 (j : Nat) ∧ va = .int .i64 (a : Nat) ∧ vl = .slice B j d ∧ a ≤ bs.length ∧ us.length = j ∧ Hid (ys = ints us) ∧ Hid (Dual.Ok ⟨p0, p1, q0, q1⟩) ∧ Hid (G = (readL k (bs.drop a) ⟨p0, p1, q0, q1⟩).app us a) ∧ Own wr w.heap.size 55 .u32 B j d ys ∧ Blk wr (w.heap.size) 24 [.slice A m c, .int .i64 ((bs.length : Nat) : Int)] ∧ Blk wr (w2.heap.size) 38 [.int .i64 (p0 : Int), .int .i64 (p1 : Int), .int .u64 (q0 : Int), .int .u64 (q1 : Int)] ∧ Below w.heap.size w wr)
  case atStart => exact ⟨0, 0, 10, 10, 16384, 16384, 0, none, [], [], by omega, rfl, rfl, rfl, by omega, rfl, Lib.hid rfl, Lib.hid start_ok, by rw [HG.out, GotL.app_nil, List.drop_zero]; exact Lib.hid rfl, Own.nil _ _ _ _, by repeat' (first | (with_reducible assumption) | (with_reducible exact Below.refl _ _) | (with_reducible refine Blk.drewN ?_ _) | (with_reducible refine RowIn.drewN ?_ _) | (with_reducible refine below_drewN ?_ _) | (with_reducible refine Blk.drew ?_) | (with_reducible refine RowIn.drew ?_) | (with_reducible refine Below.drew ?_) | (with_reducible refine Blk.new' ?_ ?_ <;> first | (with_reducible rfl) | (simp; done)) | (with_reducible refine Blk.alloc ?_ _) | (with_reducible refine RowIn.alloc ?_ _) | (with_reducible refine Below.alloc ?_ ?_ _) | (with_reducible apply Blk.set') | (with_reducible apply Blk.far') | (with_reducible refine RowIn.far' ?_ ?_ _) | (with_reducible refine Below.far' ?_ ?_ _) | rfl | omega | go_size), by repeat' (first | (with_reducible assumption) | (with_reducible exact Below.refl _ _) | (with_reducible refine Blk.drewN ?_ _) | (with_reducible refine RowIn.drewN ?_ _) | (with_reducible refine below_drewN ?_ _) | (with_reducible refine Blk.drew ?_) | (with_reducible refine RowIn.drew ?_) | (with_reducible refine Below.drew ?_) | (with_reducible refine Blk.new' ?_ ?_ <;> first | (with_reducible rfl) | (simp; done)) | (with_reducible refine Blk.alloc ?_ _) | (with_reducible refine RowIn.alloc ?_ _) | (with_reducible refine Below.alloc ?_ ?_ _) | (with_reducible apply Blk.set') | (with_reducible apply Blk.far') | (with_reducible refine RowIn.far' ?_ ?_ _) | (with_reducible refine Below.far' ?_ ?_ _) | rfl | omega | go_size), by repeat' (first | (with_reducible assumption) | (with_reducible exact Below.refl _ _) | (with_reducible refine Blk.drewN ?_ _) | (with_reducible refine RowIn.drewN ?_ _) | (with_reducible refine below_drewN ?_ _) | (with_reducible refine Blk.drew ?_) | (with_reducible refine RowIn.drew ?_) | (with_reducible refine Below.drew ?_) | (with_reducible refine Blk.new' ?_ ?_ <;> first | (with_reducible rfl) | (simp; done)) | (with_reducible refine Blk.alloc ?_ _) | (with_reducible refine RowIn.alloc ?_ _) | (with_reducible refine Below.alloc ?_ ?_ _) | (with_reducible apply Blk.set') | (with_reducible apply Blk.far') | (with_reducible refine RowIn.far' ?_ ?_ _) | (with_reducible refine Below.far' ?_ ?_ _) | rfl | omega | go_size)⟩
  case round =>
    obtain ⟨j, a, p0, p1, q0, q1, d, B, us, ys, hj, rfl, rfl, rfl, haL, hus, HY, HPO, HGG, own5, zb_5, zd_5, bb_5⟩ := hrel
    clear zb_2 kb_2 fb_2 lb_2 rb_2 rt_2 bb_2
    have kb_5 := zb_5.cell; have fb_5 := zb_5.frozen; have lb_5 := zb_5.lt
    have kd_5 := zd_5.cell; have fd_5 := zd_5.frozen; have ld_5 := zd_5.lt
    have s5 := bb_5.size
    have rb_5 := hri.below bb_5 (Nat.le_refl _)
    have rt_5 := hti.below bb_5 (Nat.le_refl _)
    by_cases hlt : j < n
    · obtain ⟨r, hkr⟩ : ∃ r, gk = r + 1 := ⟨gk - 1, by omega⟩
      skip
      have hlt1 : (j : Int) < (n : Int) := by omega
      cases hrd : readD (bs.drop a) ⟨p0, p1, q0, q1⟩ with
      | err er =>
        have hg0 := HGG.out
        rw [hkr] at hg0
        have hg := readL_stop hg0 hrd
        have HRR : Hid (decR bs (n : Int) = ([], 0, (er : Int))) := Lib.hid (by rw [HR.out, ← HG.out, hg])
        have HRD : Hid (drR bs (a : Nat) ⟨p0, p1, q0, q1⟩ = (0, 0, ⟨0, 0, 0, 0⟩, (er : Int))) := Lib.hid (by unfold drR; rw [if_neg (by omega), Int.toNat_natCast, hrd]; rfl)
        have he2 : ((er : Int) != 0) = true := by rcases readD_err HPO.out hrd with rfl | ⟨rfl, _⟩ <;> rfl
        clear hg hg0 hrd
        go_wp2_with fail
        refine (dread_c A m c bs (a : Nat) _ (by exact RowIn.row (lo := 0) (hi := w.heap.size) (by repeat' (first | (with_reducible assumption) | (with_reducible exact Below.refl _ _) | (with_reducible refine Blk.drewN ?_ _) | (with_reducible refine RowIn.drewN ?_ _) | (with_reducible refine below_drewN ?_ _) | (with_reducible refine Blk.drew ?_) | (with_reducible refine RowIn.drew ?_) | (with_reducible refine Below.drew ?_) | (with_reducible refine Blk.new' ?_ ?_ <;> first | (with_reducible rfl) | (simp; done)) | (with_reducible refine Blk.alloc ?_ _) | (with_reducible refine RowIn.alloc ?_ _) | (with_reducible refine Below.alloc ?_ ?_ _) | (with_reducible apply Blk.set') | (with_reducible apply Blk.far') | (with_reducible refine RowIn.far' ?_ ?_ _) | (with_reducible refine Below.far' ?_ ?_ _) | rfl | omega | go_size))) hc hl (by omega) HPO.out (by exact RowIn.row (lo := 0) (hi := w.heap.size) (by repeat' (first | (with_reducible assumption) | (with_reducible exact Below.refl _ _) | (with_reducible refine Blk.drewN ?_ _) | (with_reducible refine RowIn.drewN ?_ _) | (with_reducible refine below_drewN ?_ _) | (with_reducible refine Blk.drew ?_) | (with_reducible refine RowIn.drew ?_) | (with_reducible refine Below.drew ?_) | (with_reducible refine Blk.new' ?_ ?_ <;> first | (with_reducible rfl) | (simp; done)) | (with_reducible refine Blk.alloc ?_ _) | (with_reducible refine RowIn.alloc ?_ _) | (with_reducible refine Below.alloc ?_ ?_ _) | (with_reducible apply Blk.set') | (with_reducible apply Blk.far') | (with_reducible refine RowIn.far' ?_ ?_ _) | (with_reducible refine Below.far' ?_ ?_ _) | rfl | omega | go_size))) HRD.out).mono ?_
        rintro e w6 ⟨rfl, b6⟩
        have s6 := b6.size
        try simp only [World.size_alloc, World.size_setCell, World.size_drew, size_drewN] at s6
        obtain ⟨zb_6, zd_6, rb_6, rt_6, bb_6⟩ : Blk w6 (w.heap.size) 24 [.slice A m c, .int .i64 ((bs.length : Nat) : Int)] ∧ Blk w6 (w2.heap.size) 38 [.int .i64 (p0 : Int), .int .i64 (p1 : Int), .int .u64 (q0 : Int), .int .u64 (q1 : Int)] ∧ RowIn .u8 w6 (0) (w.heap.size) A m (pack bs) ∧ RowIn .u8 w6 (0) (w.heap.size) (some ⟨0, 0, none⟩) 64 dbTab ∧ Below w.heap.size w w6 := by
          refine ⟨?_, ?_, ?_, ?_, ?_⟩
          all_goals repeat' (first | (with_reducible assumption) | (with_reducible exact Below.refl _ _) | (with_reducible refine Blk.drewN ?_ _) | (with_reducible refine RowIn.drewN ?_ _) | (with_reducible refine below_drewN ?_ _) | (with_reducible refine Blk.drew ?_) | (with_reducible refine RowIn.drew ?_) | (with_reducible refine Below.drew ?_) | (with_reducible refine Blk.new' ?_ ?_ <;> first | (with_reducible rfl) | (simp; done)) | (with_reducible refine Blk.alloc ?_ _) | (with_reducible refine RowIn.alloc ?_ _) | (with_reducible refine Below.alloc ?_ ?_ _) | (with_reducible apply Blk.set') | (with_reducible apply Blk.far') | (with_reducible refine RowIn.far' ?_ ?_ _) | (with_reducible refine Below.far' ?_ ?_ _) | (with_reducible refine Blk.after ?_ b6) | (with_reducible refine RowIn.belowS ?_ b6) | (with_reducible refine Below.after ?_ b6 ?_) | rfl | omega | go_size)
        clear zb_5 zd_5 kb_5 kd_5 fb_5 fd_5 lb_5 ld_5 bb_5 rb_5 rt_5 b6
        have kb_6 := zb_6.cell; have fb_6 := zb_6.frozen; have lb_6 := zb_6.lt
        have kd_6 := zd_6.cell; have fd_6 := zd_6.frozen; have ld_6 := zd_6.lt
        go_wp2
        refine bodyPost_ret (v := .tuple #[.slice none 0 0, .int .i64 0, .int .i64 (er : Int)]) (by simp [results, Tryd.results19, go_sem]) rfl ?_
        rw [HRR.out]
        exact ⟨none, 0, 0, [], rfl, ⟨Nat.le_refl _, Nat.zero_le _⟩, RowIn.nil, Lib.hid rfl, (by repeat' (first | (with_reducible assumption) | (with_reducible exact Below.refl _ _) | (with_reducible refine Blk.drewN ?_ _) | (with_reducible refine RowIn.drewN ?_ _) | (with_reducible refine below_drewN ?_ _) | (with_reducible refine Blk.drew ?_) | (with_reducible refine RowIn.drew ?_) | (with_reducible refine Below.drew ?_) | (with_reducible refine Blk.new' ?_ ?_ <;> first | (with_reducible rfl) | (simp; done)) | (with_reducible refine Blk.alloc ?_ _) | (with_reducible refine RowIn.alloc ?_ _) | (with_reducible refine Below.alloc ?_ ?_ _) | (with_reducible apply Blk.set') | (with_reducible apply Blk.far') | (with_reducible refine RowIn.far' ?_ ?_ _) | (with_reducible refine Below.far' ?_ ?_ _) | rfl | omega | go_size))⟩
      | ok v k =>
        obtain ⟨u0, u1, v0, v1, hu⟩ := Dual.four (learn ⟨p0, p1, q0, q1⟩ v)
        have hv32 := readD_lt HPO.out hrd
        have hkl := (readD_len HPO.out hrd).2.2
        rw [List.length_drop] at hkl
        have hg0 := HGG.out
        rw [hkr] at hg0
        have hg := readL_step hg0 hrd
        obtain ⟨z, hz⟩ : ∃ z, z = a + k := ⟨_, rfl⟩
        rw [hu, ← hz] at hg
        have HG2 := Lib.hid hg
        have HPO2 : Hid (Dual.Ok ⟨u0, u1, v0, v1⟩) := Lib.hid (by rw [← hu]; exact learn_ok HPO.out hv32)
        have HRD : Hid (drR bs (a : Nat) ⟨p0, p1, q0, q1⟩ = ((v : Int), (z : Int), ⟨u0, u1, v0, v1⟩, 0)) := Lib.hid (by unfold drR; rw [if_neg (by omega), Int.toNat_natCast, hrd]; dsimp only; rw [hu, hz]; simp)
        have hzl : z ≤ bs.length := by omega
        have HZ := Lib.hid hz
        clear hg hg0 hrd hu HGG hz
        go_wp2_with fail
        refine (dread_c A m c bs (a : Nat) _ (by exact RowIn.row (lo := 0) (hi := w.heap.size) (by repeat' (first | (with_reducible assumption) | (with_reducible exact Below.refl _ _) | (with_reducible refine Blk.drewN ?_ _) | (with_reducible refine RowIn.drewN ?_ _) | (with_reducible refine below_drewN ?_ _) | (with_reducible refine Blk.drew ?_) | (with_reducible refine RowIn.drew ?_) | (with_reducible refine Below.drew ?_) | (with_reducible refine Blk.new' ?_ ?_ <;> first | (with_reducible rfl) | (simp; done)) | (with_reducible refine Blk.alloc ?_ _) | (with_reducible refine RowIn.alloc ?_ _) | (with_reducible refine Below.alloc ?_ ?_ _) | (with_reducible apply Blk.set') | (with_reducible apply Blk.far') | (with_reducible refine RowIn.far' ?_ ?_ _) | (with_reducible refine Below.far' ?_ ?_ _) | rfl | omega | go_size))) hc hl (by omega) HPO.out (by exact RowIn.row (lo := 0) (hi := w.heap.size) (by repeat' (first | (with_reducible assumption) | (with_reducible exact Below.refl _ _) | (with_reducible refine Blk.drewN ?_ _) | (with_reducible refine RowIn.drewN ?_ _) | (with_reducible refine below_drewN ?_ _) | (with_reducible refine Blk.drew ?_) | (with_reducible refine RowIn.drew ?_) | (with_reducible refine Below.drew ?_) | (with_reducible refine Blk.new' ?_ ?_ <;> first | (with_reducible rfl) | (simp; done)) | (with_reducible refine Blk.alloc ?_ _) | (with_reducible refine RowIn.alloc ?_ _) | (with_reducible refine Below.alloc ?_ ?_ _) | (with_reducible apply Blk.set') | (with_reducible apply Blk.far') | (with_reducible refine RowIn.far' ?_ ?_ _) | (with_reducible refine Below.far' ?_ ?_ _) | rfl | omega | go_size))) HRD.out).mono ?_
        rintro e w6 ⟨rfl, b6⟩
        have own6 := own5.below b6 (Nat.le_refl _)
        have s6 := b6.size
        try simp only [World.size_alloc, World.size_setCell, World.size_drew, size_drewN] at s6
        obtain ⟨zb_6, zd_6, rb_6, rt_6, bb_6⟩ : Blk w6 (w.heap.size) 24 [.slice A m c, .int .i64 ((bs.length : Nat) : Int)] ∧ Blk w6 (w2.heap.size) 38 [.int .i64 (p0 : Int), .int .i64 (p1 : Int), .int .u64 (q0 : Int), .int .u64 (q1 : Int)] ∧ RowIn .u8 w6 (0) (w.heap.size) A m (pack bs) ∧ RowIn .u8 w6 (0) (w.heap.size) (some ⟨0, 0, none⟩) 64 dbTab ∧ Below w.heap.size w w6 := by
          refine ⟨?_, ?_, ?_, ?_, ?_⟩
          all_goals repeat' (first | (with_reducible assumption) | (with_reducible exact Below.refl _ _) | (with_reducible refine Blk.drewN ?_ _) | (with_reducible refine RowIn.drewN ?_ _) | (with_reducible refine below_drewN ?_ _) | (with_reducible refine Blk.drew ?_) | (with_reducible refine RowIn.drew ?_) | (with_reducible refine Below.drew ?_) | (with_reducible refine Blk.new' ?_ ?_ <;> first | (with_reducible rfl) | (simp; done)) | (with_reducible refine Blk.alloc ?_ _) | (with_reducible refine RowIn.alloc ?_ _) | (with_reducible refine Below.alloc ?_ ?_ _) | (with_reducible apply Blk.set') | (with_reducible apply Blk.far') | (with_reducible refine RowIn.far' ?_ ?_ _) | (with_reducible refine Below.far' ?_ ?_ _) | (with_reducible refine Blk.after ?_ b6) | (with_reducible refine RowIn.belowS ?_ b6) | (with_reducible refine Below.after ?_ b6 ?_) | rfl | omega | go_size)
        clear zb_5 zd_5 kb_5 kd_5 fb_5 fd_5 lb_5 ld_5 bb_5 rb_5 rt_5 b6
        have kb_6 := zb_6.cell; have fb_6 := zb_6.frozen; have lb_6 := zb_6.lt
        have kd_6 := zd_6.cell; have fd_6 := zd_6.frozen; have ld_6 := zd_6.lt
        have s6w : w.heap.size ≤ w6.heap.size := bb_6.size
        go_wp2_with (at_builtin; refine wpList_app _ u32E rfl _ _ rfl w.heap.size _ _ _ _ rfl (by exact (own6.alloc _).alloc _) _ _ _ [(v : Int)] rfl (by exact row_one' (by simp)) (by omega) (by simp; omega) ?_)
        intro B' d' w8 own8 hg8 hat8
        have zb_8 : Blk w8 w.heap.size 24 [.slice A m c, .int .i64 ((bs.length : Nat) : Int)] := by
          refine Blk.grown ?_ hg8 (fun e => (own6.ne_blk zb_6 (by decide)) e.symm)
          repeat' (first | (with_reducible assumption) | (with_reducible exact Below.refl _ _) | (with_reducible refine Blk.drewN ?_ _) | (with_reducible refine RowIn.drewN ?_ _) | (with_reducible refine below_drewN ?_ _) | (with_reducible refine Blk.drew ?_) | (with_reducible refine RowIn.drew ?_) | (with_reducible refine Below.drew ?_) | (with_reducible refine Blk.new' ?_ ?_ <;> first | (with_reducible rfl) | (simp; done)) | (with_reducible refine Blk.alloc ?_ _) | (with_reducible refine RowIn.alloc ?_ _) | (with_reducible refine Below.alloc ?_ ?_ _) | (with_reducible apply Blk.set') | (with_reducible apply Blk.far') | (with_reducible refine RowIn.far' ?_ ?_ _) | (with_reducible refine Below.far' ?_ ?_ _) | rfl | omega | go_size)
        have zd_8 : Blk w8 w2.heap.size 38 [.int .i64 (p0 : Int), .int .i64 (p1 : Int), .int .u64 (q0 : Int), .int .u64 (q1 : Int)] := by
          refine Blk.grown ?_ hg8 (fun e => (own6.ne_blk zd_6 (by decide)) e.symm)
          repeat' (first | (with_reducible assumption) | (with_reducible exact Below.refl _ _) | (with_reducible refine Blk.drewN ?_ _) | (with_reducible refine RowIn.drewN ?_ _) | (with_reducible refine below_drewN ?_ _) | (with_reducible refine Blk.drew ?_) | (with_reducible refine RowIn.drew ?_) | (with_reducible refine Below.drew ?_) | (with_reducible refine Blk.new' ?_ ?_ <;> first | (with_reducible rfl) | (simp; done)) | (with_reducible refine Blk.alloc ?_ _) | (with_reducible refine RowIn.alloc ?_ _) | (with_reducible refine Below.alloc ?_ ?_ _) | (with_reducible apply Blk.set') | (with_reducible apply Blk.far') | (with_reducible refine RowIn.far' ?_ ?_ _) | (with_reducible refine Below.far' ?_ ?_ _) | rfl | omega | go_size)
        have zx_8 : Blk w8 w6.heap.size 38 [.int .i64 (u0 : Int), .int .i64 (u1 : Int), .int .u64 (v0 : Int), .int .u64 (v1 : Int)] := by
          have z0 : Blk ((w6.alloc (.cells #[.int .i64 (u0 : Int), .int .i64 (u1 : Int), .int .u64 (v0 : Int), .int .u64 (v1 : Int)] 38)).alloc (.cells #[.int .u32 (v : Int)] 55)) w6.heap.size 38 [.int .i64 (u0 : Int), .int .i64 (u1 : Int), .int .u64 (v0 : Int), .int .u64 (v1 : Int)] := by repeat' (first | (with_reducible assumption) | (with_reducible exact Below.refl _ _) | (with_reducible refine Blk.drewN ?_ _) | (with_reducible refine RowIn.drewN ?_ _) | (with_reducible refine below_drewN ?_ _) | (with_reducible refine Blk.drew ?_) | (with_reducible refine RowIn.drew ?_) | (with_reducible refine Below.drew ?_) | (with_reducible refine Blk.new' ?_ ?_ <;> first | (with_reducible rfl) | (simp; done)) | (with_reducible refine Blk.alloc ?_ _) | (with_reducible refine RowIn.alloc ?_ _) | (with_reducible refine Below.alloc ?_ ?_ _) | (with_reducible apply Blk.set') | (with_reducible apply Blk.far') | (with_reducible refine RowIn.far' ?_ ?_ _) | (with_reducible refine Below.far' ?_ ?_ _) | rfl | omega | go_size)
          exact Blk.grown z0 hg8 (fun e => (((own6.alloc _).alloc _).ne_blk z0 (by decide)) e.symm)
        have bb_8 : Below w.heap.size w w8 := by
          have z0 : Below w.heap.size w ((w6.alloc (.cells #[.int .i64 (u0 : Int), .int .i64 (u1 : Int), .int .u64 (v0 : Int), .int .u64 (v1 : Int)] 38)).alloc (.cells #[.int .u32 (v : Int)] 55)) := by repeat' (first | (with_reducible assumption) | (with_reducible exact Below.refl _ _) | (with_reducible refine Blk.drewN ?_ _) | (with_reducible refine RowIn.drewN ?_ _) | (with_reducible refine below_drewN ?_ _) | (with_reducible refine Blk.drew ?_) | (with_reducible refine RowIn.drew ?_) | (with_reducible refine Below.drew ?_) | (with_reducible refine Blk.new' ?_ ?_ <;> first | (with_reducible rfl) | (simp; done)) | (with_reducible refine Blk.alloc ?_ _) | (with_reducible refine RowIn.alloc ?_ _) | (with_reducible refine Below.alloc ?_ ?_ _) | (with_reducible apply Blk.set') | (with_reducible apply Blk.far') | (with_reducible refine RowIn.far' ?_ ?_ _) | (with_reducible refine Below.far' ?_ ?_ _) | rfl | omega | go_size)
          exact Below.grown z0 hg8 (by simp; omega) (fun g e => (own6.block g e).1)
        have hj1 : us.length + 1 = j + 1 := by omega
        have HY2 : Hid (ys ++ [(v : Int)] = ints (us ++ [v])) := Lib.hid (by rw [ints_next, HY.out])
        have kd_8 := zd_8.cell; have fd_8 := zd_8.frozen; have ld_8 := zd_8.lt; have kx_8 := zx_8.cell; have fx_8 := zx_8.frozen; have lx_8 := zx_8.lt
        have s8 := bb_8.size
        clear zb_6 kb_6 fb_6 lb_6 zd_6 kd_6 fd_6 ld_6 rb_6 rt_6 bb_6 hat8 own6 hg8
        go_wp2
        go_region
        all_goals try go_wp2
        all_goals
          go_roundg r
          case measure => omega
          case rel =>
            have hne : blockOf B' ≠ some w2.heap.size := own8.ne_blk zd_8 (by decide)
            refine ⟨j + 1, z, u0, u1, v0, v1, d', B', us ++ [v], ys ++ [(v : Int)], by omega, by go_num, rfl, rfl, hzl, by simp; omega, HY2, HPO2, HG2, ?_, ?_, ?_, ?_⟩
            · exact (((own8.far' hne _).far' hne _).far' hne _).far' hne _
            · first | (with_reducible exact Blk.far4 zb_8 (by omega)) | (with_reducible exact Blk.drew (Blk.far4 zb_8 (by omega)))
            · first | (with_reducible exact Blk.set4 zd_8) | (with_reducible exact Blk.drew (Blk.set4 zd_8))
            · first | (with_reducible exact Below.far4 bb_8 (by omega)) | (with_reducible exact Below.drew (Below.far4 bb_8 (by omega)))
    · obtain rfl : gk = 0 := by omega
      obtain rfl : j = n := by omega
      have hg := readL_end HGG.out
      have HRR : Hid (decR bs (j : Int) = (us, (a : Int), 0)) := Lib.hid (by rw [HR.out, ← HG.out, hg])
      have hri5 := own5.rowIn
      have hcap := own5.rowC.2
      clear hg
      go_wp2
      refine bodyPost_ret (v := .tuple #[.slice B j d, .int .i64 (a : Int), .int .i64 0]) (by simp [results, Tryd.results19, go_sem]) rfl ?_
      rw [HRR.out]
      exact ⟨B, j, d, ys, rfl, hcap, hri5, HY, bb_5⟩


end Go.Proofs.YtppilidcjlnmoaaDoor

/-
  Contract of the reference of chapter 9: Same.
-/
namespace Go.Proofs.YtppilidcjlnmoaaDoor
open Go.RowKit Cad Cad.Bit Cad.Code
set_option linter.unusedVariables false
set_option linter.unusedSimpArgs false


theorem take_next {xs : List Int} {j : Nat} (h : j < xs.length) : xs.take (j + 1) = xs.take j ++ [nth xs j] := by
  rw [List.take_succ_eq_append_getElem h, ← nth_eq]
set_option maxHeartbeats 1000000 in
theorem r9same_any (A B : Option Addr) (n c m d : Nat) (xs ys : List Int) (w : World) (ha : Row .u32 w A n xs) (hb : Row .u32 w B m ys) (hn : n ≤ 900000) (hm : m ≤ 900000) :
    Calls Tryd.prog 21 #[.slice A n c, .slice B m d] w fun e w' => e = .returned (.bool (decide (xs = ys))) ∧ Below w.heap.size w w' := by
  have HX := Lib.hid ha.len
  have HY := Lib.hid hb.len
  by_cases h : n = m
  · subst h
    have hne : ((n : Int) != (n : Int)) = false := by simp
    go_enter Tryd.func21, Tryd.ntmps21
    go_wp2_with fail
    
    go_loopg [5] n (fun r i wr => ∃ j : Nat, j + r = n ∧ i = .int .i64 (j : Int) ∧ Hid (xs.take j = ys.take j) ∧ Below w.heap.size w wr)
    case atStart => exact ⟨0, by omega, rfl, Lib.hid rfl, Below.refl _ _⟩
    case round =>
      obtain ⟨j, hj, rfl, HJ, bb⟩ := hrel
      have sb := bb.size
      by_cases hlt : j < n
      · have hlt' : (j : Int) < (n : Int) := by omega
        obtain ⟨b1, o1, rfl, hbk1, hc1⟩ := ha.at (by omega)
        obtain ⟨b2, o2, rfl, hbk2, hc2⟩ := hb.at (by omega)
        obtain ⟨x, HXX⟩ : ∃ x, Hid (x = nth xs j) := ⟨_, Lib.hid rfl⟩
        obtain ⟨y, HYY⟩ : ∃ y, Hid (y = nth ys j) := ⟨_, Lib.hid rfl⟩
        have c1 : wr.cell? ⟨b1, o1 + j, none⟩ = some (.int .u32 x) := (bb.cell (p := ⟨b1, o1 + j, none⟩) hbk1).trans ((hc1 j hlt).trans (by rw [HXX.out]))
        have c2 : wr.cell? ⟨b2, o2 + j, none⟩ = some (.int .u32 y) := (bb.cell (p := ⟨b2, o2 + j, none⟩) hbk2).trans ((hc2 j hlt).trans (by rw [HYY.out]))
        clear hc1 hc2
        by_cases he : x = y
        · subst he
          have hxx : (x != x) = false := by simp
          go_wp2_with fail
          go_region
          all_goals try go_wp2
          all_goals
            go_roundg (n - (j + 1))
            case measure => omega
            case rel => exact ⟨j + 1, by omega, by go_num, Lib.hid (by rw [take_next (by rw [HX.out]; exact hlt), take_next (by rw [HY.out]; exact hlt), HJ.out, ← HXX.out, ← HYY.out]), by repeat' (first | (with_reducible assumption) | (with_reducible exact Below.refl _ _) | (with_reducible refine Blk.drewN ?_ _) | (with_reducible refine RowIn.drewN ?_ _) | (with_reducible refine below_drewN ?_ _) | (with_reducible refine Blk.drew ?_) | (with_reducible refine RowIn.drew ?_) | (with_reducible refine Below.drew ?_) | (with_reducible refine Blk.new' ?_ ?_ <;> first | (with_reducible rfl) | (simp; done)) | (with_reducible refine Blk.alloc ?_ _) | (with_reducible refine RowIn.alloc ?_ _) | (with_reducible refine Below.alloc ?_ ?_ _) | (with_reducible apply Blk.set') | (with_reducible apply Blk.far') | (with_reducible refine RowIn.far' ?_ ?_ _) | (with_reducible refine Below.far' ?_ ?_ _) | rfl | omega | go_size)⟩
        · have hxx : (x != y) = true := by simpa using he
          have HE : Hid (decide (xs = ys) = false) := by
            refine Lib.hid (decide_eq_false fun e => he ?_)
            rw [HXX.out, HYY.out, e]
          go_wp2_with fail
          go_region
          all_goals
            go_wp2
            go_ret
            exact ⟨ret_bool HE.out.symm, by repeat' (first | (with_reducible assumption) | (with_reducible exact Below.refl _ _) | (with_reducible refine Blk.drewN ?_ _) | (with_reducible refine RowIn.drewN ?_ _) | (with_reducible refine below_drewN ?_ _) | (with_reducible refine Blk.drew ?_) | (with_reducible refine RowIn.drew ?_) | (with_reducible refine Below.drew ?_) | (with_reducible refine Blk.new' ?_ ?_ <;> first | (with_reducible rfl) | (simp; done)) | (with_reducible refine Blk.alloc ?_ _) | (with_reducible refine RowIn.alloc ?_ _) | (with_reducible refine Below.alloc ?_ ?_ _) | (with_reducible apply Blk.set') | (with_reducible apply Blk.far') | (with_reducible refine RowIn.far' ?_ ?_ _) | (with_reducible refine Below.far' ?_ ?_ _) | rfl | omega | go_size)⟩
      · obtain rfl : j = n := by omega
        have HE : Hid (decide (xs = ys) = true) := by
          have h := HJ.out
          rw [List.take_of_length_le (by rw [HX.out]; exact Nat.le_refl _), List.take_of_length_le (by rw [HY.out]; exact Nat.le_refl _)] at h
          exact Lib.hid (decide_eq_true h)
        go_wp2
        go_ret
        exact ⟨ret_bool HE.out.symm, by repeat' (first | (with_reducible assumption) | (with_reducible exact Below.refl _ _) | (with_reducible refine Blk.drewN ?_ _) | (with_reducible refine RowIn.drewN ?_ _) | (with_reducible refine below_drewN ?_ _) | (with_reducible refine Blk.drew ?_) | (with_reducible refine RowIn.drew ?_) | (with_reducible refine Below.drew ?_) | (with_reducible refine Blk.new' ?_ ?_ <;> first | (with_reducible rfl) | (simp; done)) | (with_reducible refine Blk.alloc ?_ _) | (with_reducible refine RowIn.alloc ?_ _) | (with_reducible refine Below.alloc ?_ ?_ _) | (with_reducible apply Blk.set') | (with_reducible apply Blk.far') | (with_reducible refine RowIn.far' ?_ ?_ _) | (with_reducible refine Below.far' ?_ ?_ _) | rfl | omega | go_size)⟩
  · have hne : ((n : Int) != (m : Int)) = true := by simp; omega
    have HE : Hid (decide (xs = ys) = false) := by
      refine Lib.hid (decide_eq_false fun e => h ?_)
      rw [← HX.out, ← HY.out, e]
    go_enter Tryd.func21, Tryd.ntmps21
    go_wp2
    go_ret
    exact ⟨ret_bool HE.out.symm, by repeat' (first | (with_reducible assumption) | (with_reducible exact Below.refl _ _) | (with_reducible refine Blk.drewN ?_ _) | (with_reducible refine RowIn.drewN ?_ _) | (with_reducible refine below_drewN ?_ _) | (with_reducible refine Blk.drew ?_) | (with_reducible refine RowIn.drew ?_) | (with_reducible refine Below.drew ?_) | (with_reducible refine Blk.new' ?_ ?_ <;> first | (with_reducible rfl) | (simp; done)) | (with_reducible refine Blk.alloc ?_ _) | (with_reducible refine RowIn.alloc ?_ _) | (with_reducible refine Below.alloc ?_ ?_ _) | (with_reducible apply Blk.set') | (with_reducible apply Blk.far') | (with_reducible refine RowIn.far' ?_ ?_ _) | (with_reducible refine Below.far' ?_ ?_ _) | rfl | omega | go_size)⟩
theorem r9same_eq (A B : Option Addr) (n c m d : Nat) (xs ys : List Int) (w : World) (ha : Row .u32 w A n xs) (hb : Row .u32 w B m ys) (hn : n ≤ 900000) (he : xs = ys) :
    Calls Tryd.prog 21 #[.slice A n c, .slice B m d] w fun e w' => e = .returned (.bool true) ∧ Below w.heap.size w w' :=
  (r9same_any A B n c m d xs ys w ha hb hn (by rw [← hb.len, ← he, ha.len]; exact hn)).mono fun e w' h => ⟨by rw [h.1, decide_eq_true he], h.2⟩
end Go.Proofs.YtppilidcjlnmoaaDoor

/-
  The examples of chapter 9.
-/
namespace Go.Proofs.YtppilidcjlnmoaaDoor
open Go.RowKit Cad Cad.Bit Cad.Code
set_option linter.unusedVariables false
set_option linter.unusedSimpArgs false


theorem cenc_c (A : Option Addr) (n c : Nat) (xs : List Int) (l : List Bool) (w : World) (ha : Row .u32 w A n xs) (hx : Within 0 4294967295 xs) (hn : n ≤ 4000) (he : codeP Cad.Code.start xs n = l) :
    Calls Tryd.prog 43 #[.slice A n c] w (RetB w l 0) := by
  rw [← he]; exact cenc_ok A n c xs w ha hx hn
theorem cdec_c (A : Option Addr) (m c : Nat) (bs : List Bool) (n : Int) (l : List Nat) (y er : Int) (w : World) (ha : Row .u8 w A m (pack bs)) (hc : m ≤ c ∧ c ≤ 9223372036854775807) (hl : bs.length ≤ 330000) (hn : -9223372036854775808 ≤ n ∧ n ≤ 9223372036854775807) (ht : Tab w) (he : decR bs n = (l, y, er)) :
    Calls Tryd.prog 19 #[.agg #[.slice A m c, .int .i64 ((bs.length : Nat) : Int)], .int .i64 n] w (RetL w l y er) := by
  have h := cdec_ret A m c bs n w ha hc hl hn ht
  rw [he] at h; exact h
/-- The bits of the examples. -/
def exBits : List Bool := codeP Cad.Code.start [5, 2000] 2
theorem ex_len : exBits.length = 24 := by decide +kernel
theorem ex_dec : decR exBits 2 = ([5, 2000], 24, 0) := by decide +kernel
theorem within_ex : Within 0 4294967295 [5, 2000] := by intro x hx; simp at hx; omega
set_option maxRecDepth 100000 in
set_option maxHeartbeats 1000000 in
theorem alive09 (w : World) (ht : Tab w) :
    Calls Tryd.prog 42 #[] w fun e w' => e = .returned (.bool true) ∧ Below w.heap.size w w' := by
  have hti : RowIn .u8 w 0 w.heap.size (some ⟨0, 0, none⟩) 64 dbTab := ht.rowIn
  go_enter Tryd.func42, Tryd.ntmps42
  go_wp2_with fail
  have rl : RowIn .u32 (w.alloc (.cells #[.int .u32 5, .int .u32 2000] 55)) 0 (w.heap.size + 1) (some ⟨w.heap.size, 0, none⟩) 2 [5, 2000] := by have h := (row_new .u32 w [5, 2000] 55).rowIn; simpa using h
  refine (cenc_c _ 2 2 [5, 2000] exBits _ (by exact rl.row) within_ex (by omega) rfl).mono ?_
  rintro e w1 ⟨Ab, mb, cb, xb, rfl, hcb, rb, HXb, b1⟩
  have Lb : xb.length ≤ 24 ∧ 24 ≤ xb.length := by rw [HXb.out]; rw [ex_len]; omega
  obtain ⟨Lb1, Lb2⟩ := Lb
  replace rb := rb.mono (lo' := w.heap.size + 0) (by go_size) (Nat.le_refl _)
  have s1 := b1.size
  try simp only [World.size_alloc, World.size_setCell, World.size_drew, size_drewN] at s1
  obtain ⟨rt_1, rb_1, bb_1⟩ : RowIn .u8 w1 (0) (w.heap.size) (some ⟨0, 0, none⟩) 64 dbTab ∧ RowIn .u8 w1 (w.heap.size + 0) (w1.heap.size) Ab mb (pack xb) ∧ Below w.heap.size w w1 := by
    refine ⟨?_, ?_, ?_⟩
    all_goals repeat' (first | (with_reducible assumption) | (with_reducible exact Below.refl _ _) | (with_reducible refine Blk.drewN ?_ _) | (with_reducible refine RowIn.drewN ?_ _) | (with_reducible refine below_drewN ?_ _) | (with_reducible refine Blk.drew ?_) | (with_reducible refine RowIn.drew ?_) | (with_reducible refine Below.drew ?_) | (with_reducible refine Blk.new' ?_ ?_ <;> first | (with_reducible rfl) | (simp; done)) | (with_reducible refine Blk.alloc ?_ _) | (with_reducible refine RowIn.alloc ?_ _) | (with_reducible refine Below.alloc ?_ ?_ _) | (with_reducible apply Blk.set') | (with_reducible apply Blk.far') | (with_reducible refine RowIn.far' ?_ ?_ _) | (with_reducible refine Below.far' ?_ ?_ _) | (with_reducible refine Blk.after ?_ b1) | (with_reducible refine RowIn.belowS ?_ b1) | (with_reducible refine Below.after ?_ b1 ?_) | rfl | omega | go_size)
  clear b1
  clear rb
  have tl : (((xb.length : Nat) : Int) == 24) = true := beq_iff_eq.2 (by omega)
  go_wp2_with fail
  refine (cdec_c Ab mb cb xb 2 [5, 2000] 24 0 _ (by exact RowIn.row (lo := w.heap.size + 0) (hi := w1.heap.size) (by repeat' (first | (with_reducible assumption) | (with_reducible exact Below.refl _ _) | (with_reducible refine Blk.drewN ?_ _) | (with_reducible refine RowIn.drewN ?_ _) | (with_reducible refine below_drewN ?_ _) | (with_reducible refine Blk.drew ?_) | (with_reducible refine RowIn.drew ?_) | (with_reducible refine Below.drew ?_) | (with_reducible refine Blk.new' ?_ ?_ <;> first | (with_reducible rfl) | (simp; done)) | (with_reducible refine Blk.alloc ?_ _) | (with_reducible refine RowIn.alloc ?_ _) | (with_reducible refine Below.alloc ?_ ?_ _) | (with_reducible apply Blk.set') | (with_reducible apply Blk.far') | (with_reducible refine RowIn.far' ?_ ?_ _) | (with_reducible refine Below.far' ?_ ?_ _) | rfl | omega | go_size))) hcb (by omega) (by omega) (by exact RowIn.row (lo := 0) (hi := w.heap.size) (by repeat' (first | (with_reducible assumption) | (with_reducible exact Below.refl _ _) | (with_reducible refine Blk.drewN ?_ _) | (with_reducible refine RowIn.drewN ?_ _) | (with_reducible refine below_drewN ?_ _) | (with_reducible refine Blk.drew ?_) | (with_reducible refine RowIn.drew ?_) | (with_reducible refine Below.drew ?_) | (with_reducible refine Blk.new' ?_ ?_ <;> first | (with_reducible rfl) | (simp; done)) | (with_reducible refine Blk.alloc ?_ _) | (with_reducible refine RowIn.alloc ?_ _) | (with_reducible refine Below.alloc ?_ ?_ _) | (with_reducible apply Blk.set') | (with_reducible apply Blk.far') | (with_reducible refine RowIn.far' ?_ ?_ _) | (with_reducible refine Below.far' ?_ ?_ _) | rfl | omega | go_size))) (by rw [HXb.out]; exact ex_dec)).mono ?_
  rintro e w9 ⟨B, k, d, ys, rfl, hcB, rB, HYS, b9⟩
  replace rB := rB.mono (lo' := w1.heap.size) (by go_size) (Nat.le_refl _)
  have s9 := b9.size
  try simp only [World.size_alloc, World.size_setCell, World.size_drew, size_drewN] at s9
  obtain ⟨zb_9, rt_9, rb_9, rm_9, bb_9⟩ : Blk w9 (w1.heap.size) 24 [.slice Ab mb cb, .int .i64 ((xb.length : Nat) : Int)] ∧ RowIn .u8 w9 (0) (w.heap.size) (some ⟨0, 0, none⟩) 64 dbTab ∧ RowIn .u8 w9 (w.heap.size + 0) (w1.heap.size) Ab mb (pack xb) ∧ RowIn .u32 w9 (w1.heap.size) (w9.heap.size) B k ys ∧ Below w.heap.size w w9 := by
    refine ⟨?_, ?_, ?_, ?_, ?_⟩
    all_goals repeat' (first | (with_reducible assumption) | (with_reducible exact Below.refl _ _) | (with_reducible refine Blk.drewN ?_ _) | (with_reducible refine RowIn.drewN ?_ _) | (with_reducible refine below_drewN ?_ _) | (with_reducible refine Blk.drew ?_) | (with_reducible refine RowIn.drew ?_) | (with_reducible refine Below.drew ?_) | (with_reducible refine Blk.new' ?_ ?_ <;> first | (with_reducible rfl) | (simp; done)) | (with_reducible refine Blk.alloc ?_ _) | (with_reducible refine RowIn.alloc ?_ _) | (with_reducible refine Below.alloc ?_ ?_ _) | (with_reducible apply Blk.set') | (with_reducible apply Blk.far') | (with_reducible refine RowIn.far' ?_ ?_ _) | (with_reducible refine Below.far' ?_ ?_ _) | (with_reducible refine Blk.after ?_ b9) | (with_reducible refine RowIn.belowS ?_ b9) | (with_reducible refine Below.after ?_ b9 ?_) | rfl | omega | go_size)
  clear rt_1 rb_1 bb_1 b9
  have kb_9 := zb_9.cell; have fb_9 := zb_9.frozen; have lb_9 := zb_9.lt
  go_wp2_with fail
  have r2 : Row .u32 (w9.alloc (.cells #[.int .u32 5, .int .u32 2000] 55)) (some ⟨w9.heap.size, 0, none⟩) 2 [5, 2000] := row_new .u32 w9 [5, 2000] 55
  refine (r9same_eq B _ k d 2 2 ys [5, 2000] _ (by exact RowIn.row (lo := w1.heap.size) (hi := w9.heap.size) (by repeat' (first | (with_reducible assumption) | (with_reducible exact Below.refl _ _) | (with_reducible refine Blk.drewN ?_ _) | (with_reducible refine RowIn.drewN ?_ _) | (with_reducible refine below_drewN ?_ _) | (with_reducible refine Blk.drew ?_) | (with_reducible refine RowIn.drew ?_) | (with_reducible refine Below.drew ?_) | (with_reducible refine Blk.new' ?_ ?_ <;> first | (with_reducible rfl) | (simp; done)) | (with_reducible refine Blk.alloc ?_ _) | (with_reducible refine RowIn.alloc ?_ _) | (with_reducible refine Below.alloc ?_ ?_ _) | (with_reducible apply Blk.set') | (with_reducible apply Blk.far') | (with_reducible refine RowIn.far' ?_ ?_ _) | (with_reducible refine Below.far' ?_ ?_ _) | rfl | omega | go_size))) r2 (by have h := HYS.out; have h2 := rm_9.len; rw [h] at h2; have h3 : (ints [5, 2000]).length = 2 := rfl; omega) (by rw [HYS.out]; rfl)).mono ?_
  rintro e w10 ⟨rfl, b10⟩
  have s10 := b10.size
  try simp only [World.size_alloc, World.size_setCell, World.size_drew, size_drewN] at s10
  obtain ⟨zb_10, rt_10, rb_10, rm_10, bb_10⟩ : Blk w10 (w1.heap.size) 24 [.slice Ab mb cb, .int .i64 ((xb.length : Nat) : Int)] ∧ RowIn .u8 w10 (0) (w.heap.size) (some ⟨0, 0, none⟩) 64 dbTab ∧ RowIn .u8 w10 (w.heap.size + 0) (w1.heap.size) Ab mb (pack xb) ∧ RowIn .u32 w10 (w1.heap.size) (w9.heap.size) B k ys ∧ Below w.heap.size w w10 := by
    refine ⟨?_, ?_, ?_, ?_, ?_⟩
    all_goals repeat' (first | (with_reducible assumption) | (with_reducible exact Below.refl _ _) | (with_reducible refine Blk.drewN ?_ _) | (with_reducible refine RowIn.drewN ?_ _) | (with_reducible refine below_drewN ?_ _) | (with_reducible refine Blk.drew ?_) | (with_reducible refine RowIn.drew ?_) | (with_reducible refine Below.drew ?_) | (with_reducible refine Blk.new' ?_ ?_ <;> first | (with_reducible rfl) | (simp; done)) | (with_reducible refine Blk.alloc ?_ _) | (with_reducible refine RowIn.alloc ?_ _) | (with_reducible refine Below.alloc ?_ ?_ _) | (with_reducible apply Blk.set') | (with_reducible apply Blk.far') | (with_reducible refine RowIn.far' ?_ ?_ _) | (with_reducible refine Below.far' ?_ ?_ _) | (with_reducible refine Blk.after ?_ b10) | (with_reducible refine RowIn.belowS ?_ b10) | (with_reducible refine Below.after ?_ b10 ?_) | rfl | omega | go_size)
  clear zb_9 rt_9 rb_9 rm_9 bb_9 kb_9 fb_9 lb_9 b10
  have kb_10 := zb_10.cell; have fb_10 := zb_10.frozen; have lb_10 := zb_10.lt
  go_wp2
  go_ret
  refine ⟨rfl, ?_⟩
  repeat' (first | (with_reducible assumption) | (with_reducible exact Below.refl _ _) | (with_reducible refine Blk.drewN ?_ _) | (with_reducible refine RowIn.drewN ?_ _) | (with_reducible refine below_drewN ?_ _) | (with_reducible refine Blk.drew ?_) | (with_reducible refine RowIn.drew ?_) | (with_reducible refine Below.drew ?_) | (with_reducible refine Blk.new' ?_ ?_ <;> first | (with_reducible rfl) | (simp; done)) | (with_reducible refine Blk.alloc ?_ _) | (with_reducible refine RowIn.alloc ?_ _) | (with_reducible refine Below.alloc ?_ ?_ _) | (with_reducible apply Blk.set') | (with_reducible apply Blk.far') | (with_reducible refine RowIn.far' ?_ ?_ _) | (with_reducible refine Below.far' ?_ ?_ _) | rfl | omega | go_size)


end Go.Proofs.YtppilidcjlnmoaaDoor

