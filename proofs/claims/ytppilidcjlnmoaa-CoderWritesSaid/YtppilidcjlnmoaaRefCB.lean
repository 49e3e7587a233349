/-
  Contracts of the reference of chapter 9: Coded, Encode, After.
-/
import Derived.Test.YtppilidcjlnmoaaRefAA
import Derived.Test.YtppilidcjlnmoaaRefY
import Derived.Test.YtppilidcjlnmoaaCod
import Derived.Test.YtppilidcjlnmoaaCodA
import Derived.Test.YtppilidcjlnmoaaRefCA
namespace Go.Proofs.Ytppilidcjlnmoaa
open Go.RowKit Cad Cad.Bit Cad.Code
set_option linter.unusedVariables false
set_option linter.unusedSimpArgs false


/-- Bits and a state are returned. -/
def RetC (w : World) (l : List Bool) (dd : Dual) (e : Ending) (w' : World) : Prop :=
  ∃ (B : Option Addr) (m d : Nat) (ys : List Bool) (u0 u1 v0 v1 : Nat), e = .returned (.tuple #[.agg #[.slice B m d, .int .i64 ((ys.length : Nat) : Int)], .agg #[.int .i64 (u0 : Int), .int .i64 (u1 : Int), .int .u64 (v0 : Int), .int .u64 (v1 : Int)]]) ∧ (m ≤ d ∧ d ≤ 9223372036854775807) ∧ RowIn .u8 w' w.heap.size w'.heap.size B m (pack ys) ∧ Hid (ys = l) ∧ Hid ((⟨u0, u1, v0, v1⟩ : Dual) = dd) ∧ Below w.heap.size w w'

set_option maxRecDepth 100000 in
set_option maxHeartbeats 4000000 in
theorem rcoded_ok (A : Option Addr) (n c : Nat) (xs : List Int) (w : World) (ha : Row .u32 w A n xs) (hx : Within 0 4294967295 xs) (hn : n ≤ 4000) :
    Calls Try.prog 14 #[.slice A n c] w (RetC w (codeP Cad.Code.start xs n) (stP Cad.Code.start xs n)) := by
  go_enter Try.func14, Try.ntmps14
  go_wp2_with fail
  refine (rdstart_ok _).mono ?_
  rintro e w1 ⟨rfl, b1⟩
  have s1 := b1.size
  try simp only [World.size_alloc, World.size_setCell, World.size_drew, size_drewN] at s1
  obtain ⟨ze_1, zf_1, zb_1, bb_1⟩ : Blk w1 (w.heap.size) 26 [.slice none 0 0, .int .i64 0] ∧ Blk w1 (w.heap.size + 1) 34 [.int .i64 0, .int .i64 0, .int .u64 0, .int .u64 0] ∧ Blk w1 (w.heap.size + 1 + 1) 26 [.slice none 0 0, .int .i64 0] ∧ Below w.heap.size w w1 := by
    refine ⟨?_, ?_, ?_, ?_⟩
    all_goals repeat' (first | (with_reducible assumption) | (with_reducible exact Below.refl _ _) | (with_reducible refine Blk.drewN ?_ _) | (with_reducible refine RowIn.drewN ?_ _) | (with_reducible refine below_drewN ?_ _) | (with_reducible refine Blk.drew ?_) | (with_reducible refine RowIn.drew ?_) | (with_reducible refine Below.drew ?_) | (with_reducible refine Blk.new' ?_ ?_ <;> first | (with_reducible rfl) | (simp; done)) | (with_reducible refine Blk.alloc ?_ _) | (with_reducible refine RowIn.alloc ?_ _) | (with_reducible refine Below.alloc ?_ ?_ _) | (with_reducible apply Blk.set') | (with_reducible apply Blk.far') | (with_reducible refine RowIn.far' ?_ ?_ _) | (with_reducible refine Below.far' ?_ ?_ _) | (with_reducible refine Blk.after ?_ b1) | (with_reducible refine RowIn.belowS ?_ b1) | (with_reducible refine Below.after ?_ b1 ?_) | rfl | omega | go_size)
  clear b1
  have ke_1 := ze_1.cell; have fe_1 := ze_1.frozen; have le_1 := ze_1.lt
  have kf_1 := zf_1.cell; have ff_1 := zf_1.frozen; have lf_1 := zf_1.lt
  have kb_1 := zb_1.cell; have fb_1 := zb_1.frozen; have lb_1 := zb_1.lt
  go_wp2_with fail
  go_loopg [6] n (fun k v wr => ∃ (j p0 p1 q0 q1 m d : Nat) (B : Option Addr) (y : List Bool), j + k = n ∧ v = .int .i64 (j : Nat) ∧ Hid ((⟨p0, p1, q0, q1⟩ : Dual) = stP Cad.Code.start xs j) ∧ Hid (y = codeP Cad.Code.start xs j) ∧ y.length ≤ 81 * j ∧ Own wr w.heap.size 5 .u8 B m d (pack y) ∧ Blk wr (w.heap.size) 26 [.slice none 0 0, .int .i64 0] ∧ Blk wr (w.heap.size + 1) 34 [.int .i64 0, .int .i64 0, .int .u64 0, .int .u64 0] ∧ Blk wr (w.heap.size + 1 + 1) 26 [.slice B m d, .int .i64 ((y.length : Nat) : Int)] ∧ Blk wr (w1.heap.size) 34 [.int .i64 (p0 : Int), .int .i64 (p1 : Int), .int .u64 (q0 : Int), .int .u64 (q1 : Int)] ∧ Below w.heap.size w wr)
  case atStart =>
    refine ⟨0, 10, 10, 16384, 16384, 0, 0, none, [], by omega, rfl, Lib.hid rfl, Lib.hid rfl, by simp, Own.nil _ _ _ _, ?_, ?_, ?_, ?_, ?_⟩
    all_goals repeat' (first | (with_reducible assumption) | (with_reducible exact Below.refl _ _) | (with_reducible refine Blk.drewN ?_ _) | (with_reducible refine RowIn.drewN ?_ _) | (with_reducible refine below_drewN ?_ _) | (with_reducible refine Blk.drew ?_) | (with_reducible refine RowIn.drew ?_) | (with_reducible refine Below.drew ?_) | (with_reducible refine Blk.new' ?_ ?_ <;> first | (with_reducible rfl) | (simp; done)) | (with_reducible refine Blk.alloc ?_ _) | (with_reducible refine RowIn.alloc ?_ _) | (with_reducible refine Below.alloc ?_ ?_ _) | (with_reducible apply Blk.set') | (with_reducible apply Blk.far') | (with_reducible refine RowIn.far' ?_ ?_ _) | (with_reducible refine Below.far' ?_ ?_ _) | rfl | omega | go_size)
  case round =>
    obtain ⟨j, p0, p1, q0, q1, m, d, B, y, hj, rfl, HP, HY, hyl, own5, ze_5, zf_5, zb_5, zd_5, bb_5⟩ := hrel
    clear ze_1 ke_1 fe_1 le_1 zf_1 kf_1 ff_1 lf_1 zb_1 kb_1 fb_1 lb_1 bb_1
    have ke_5 := ze_5.cell; have fe_5 := ze_5.frozen; have le_5 := ze_5.lt
    have kf_5 := zf_5.cell; have ff_5 := zf_5.frozen; have lf_5 := zf_5.lt
    have kb_5 := zb_5.cell; have fb_5 := zb_5.frozen; have lb_5 := zb_5.lt
    have kd_5 := zd_5.cell; have fd_5 := zd_5.frozen; have ld_5 := zd_5.lt
    have s5 := bb_5.size
    by_cases hlt : j < n
    · obtain ⟨bl, ol, rfl, hbl, hcell⟩ := ha.at (by omega)
      obtain ⟨v, hv⟩ : ∃ v, nth xs j = v := ⟨_, rfl⟩
      have hvb := hx.nth (by decide) (by decide) j
      rw [hv] at hvb
      have c0 : w.cell? ⟨bl, ol + j, none⟩ = some (.int .u32 v) := by rw [hcell j hlt, hv]
      obtain ⟨v, rfl⟩ := Int.eq_ofNat_of_zero_le hvb.1
      have hv32 : v < 4294967296 := by omega
      have CL := Lib.hid c0
      have HV : Hid ((nth xs j).toNat = v) := Lib.hid (by rw [hv]; rfl)
      have hbL := hbl
      clear c0 hcell hv
      have hpo : Dual.Ok ⟨p0, p1, q0, q1⟩ := by rw [HP.out]; exact stP_ok start_ok hx j
      have HPO := Lib.hid hpo
      clear hpo
      have hL : lenD ⟨p0, p1, q0, q1⟩ v ≤ 81 := (lenD_le HPO.out v).2
      have HLL := Lib.hid hL
      clear hL
      have cL_5 : wr.cell? ⟨bl, ol + j, none⟩ = some (.int .u32 (v : Int)) := (bb_5.cell (p := ⟨bl, ol + j, none⟩) hbL).trans CL.out
      have hlt1 : (j : Int) < (n : Int) := by omega
      go_wp2_with fail
      have own5d := own5.drew; have zb_5d := Blk.drew zb_5; have zd_5d := Blk.drew zd_5; have ze_5d := Blk.drew ze_5; have zf_5d := Blk.drew zf_5; have kb_5d := zb_5d.cell; have kd_5d := zd_5d.cell; have bb_5d := bb_5.drew; have cL_5d : wr.drew.cell? ⟨bl, ol + j, none⟩ = some (.int .u32 (v : Int)) := cL_5
      refine wp_still_tail 6 (by kernel_rfl) (by kernel_rfl) ?_
      simp only [List.take_succ_cons, List.take_zero, List.drop_succ_cons, List.drop_zero]
      repeat still_step
      refine wpStill_nil ?_
      go_wp2_with fail
      refine (rdadd_any w.heap.size B m d y p0 p1 q0 q1 v _ hv32 HPO.out (by have := HLL.out; omega) (by go_size) own5d).mono ?_
      rintro e w6 ⟨B', m', d', y', rfl, own6, HY', fr6, hB'⟩
      have s6 := fr6.size; try simp only [World.size_drew] at s6
      have zb_6 := zb_5d.frm fr6 (own5d.ne_blk zb_5d (by decide)); have zd_6 := zd_5d.frm fr6 (own5d.ne_blk zd_5d (by decide)); have ze_6 := ze_5d.frm fr6 (own5d.ne_blk ze_5d (by decide)); have zf_6 := zf_5d.frm fr6 (own5d.ne_blk zf_5d (by decide))
      have kb_6 := zb_6.cell; have fb_6 := zb_6.frozen; have lb_6 := zb_6.lt; have kd_6 := zd_6.cell; have fd_6 := zd_6.frozen; have ld_6 := zd_6.lt
      have bb_6 : Below w.heap.size w w6 := bb_5d.trans (fr6.below (by go_size) (fun k hk h => absurd (own5d.block k h).1 (by omega)))
      go_wp2_with fail
      have hne6 : blockOf B' ≠ some (w.heap.size + 1 + 1) := own6.ne_blk zb_6 (by decide)
      obtain ⟨w7, hw7⟩ : ∃ w7, w7 = (w6.setCell ⟨w.heap.size + 1 + 1, 0, none⟩ (.slice B' m' d')).setCell ⟨w.heap.size + 1 + 1, 1, none⟩ (.int .i64 ((y'.length : Nat) : Int)) := ⟨_, rfl⟩
      have own7 : Own w7 w.heap.size 5 .u8 B' m' d' (pack y') := by rw [hw7]; exact (own6.far' hne6 _).far' hne6 _
      have zb_7 : Blk w7 (w.heap.size + 1 + 1) 26 [.slice B' m' d', .int .i64 ((y'.length : Nat) : Int)] := by rw [hw7]; exact Blk.set2 zb_6
      have zd_7 : Blk w7 w1.heap.size 34 [.int .i64 (p0 : Int), .int .i64 (p1 : Int), .int .u64 (q0 : Int), .int .u64 (q1 : Int)] := by rw [hw7]; exact Blk.far2 zd_6 (by omega)
      have ze_7 : Blk w7 (w.heap.size) 26 [.slice none 0 0, .int .i64 0] := by rw [hw7]; exact Blk.far2 ze_6 (by omega)
      have zf_7 : Blk w7 (w.heap.size + 1) 34 [.int .i64 0, .int .i64 0, .int .u64 0, .int .u64 0] := by rw [hw7]; exact Blk.far2 zf_6 (by omega)
      have bb_7 : Below w.heap.size w w7 := by rw [hw7]; exact Below.far2 bb_6 (by omega)
      rw [← hw7]
      clear hw7 own6 zb_6 zd_6 ze_6 zf_6 bb_6 kb_6 fb_6 lb_6 kd_6 fd_6 ld_6
      have kb_7 := zb_7.cell; have fb_7 := zb_7.frozen; have lb_7 := zb_7.lt; have kd_7 := zd_7.cell; have fd_7 := zd_7.frozen; have ld_7 := zd_7.lt; have s7 := bb_7.size
      have cL_7 : w7.cell? ⟨bl, ol + j, none⟩ = some (.int .u32 (v : Int)) := (bb_7.cell (p := ⟨bl, ol + j, none⟩) hbL).trans CL.out
      have hbl7 : bl < w7.heap.size := by omega
      have cL_7d : w7.drew.cell? ⟨bl, ol + j, none⟩ = some (.int .u32 (v : Int)) := cL_7
      have kd_7d := (Blk.drew zd_7).cell
      go_wp2_with fail
      refine wp_still_tail 5 (by kernel_rfl) (by kernel_rfl) ?_
      simp only [List.take_succ_cons, List.take_zero, List.drop_succ_cons, List.drop_zero]
      repeat still_step
      refine wpStill_nil ?_
      go_wp2_with fail
      refine (rdlearnt_ok p0 p1 q0 q1 v _ HPO.out hv32).mono ?_
      rintro e w9 ⟨u0, u1, v0, v1, rfl, HU, b9⟩
      have own9 := own7.drew.below b9 (Nat.le_refl _)
      have zb_9 := (Blk.drew zb_7).after b9
      have ze_9 := (Blk.drew ze_7).after b9
      have zf_9 := (Blk.drew zf_7).after b9
      have zd_9 := (Blk.drew zd_7).after b9
      have bb_9 := Below.after (Below.drew bb_7) b9 s7
      have s9 := b9.size
      have kd_9 := zd_9.cell; have fd_9 := zd_9.frozen; have ld_9 := zd_9.lt
      have HP2 : Hid ((⟨u0, u1, v0, v1⟩ : Dual) = stP Cad.Code.start xs (j + 1)) := Lib.hid (by rw [stP_next, ← HP.out, HV.out, HU.out])
      have HY2 : Hid (y' = codeP Cad.Code.start xs (j + 1)) := Lib.hid (by rw [HY'.out, codeP_next, ← HP.out, HV.out, HY.out])
      have hyl2 : y'.length ≤ 81 * (j + 1) := by rw [HY2.out]; exact (codeP_le start_ok hx _).2
      go_wp2
      go_roundg (n - (j + 1))
      case measure => omega
      case rel =>
        have hne : blockOf B' ≠ some w1.heap.size := own9.ne_blk zd_9 (by decide)
        refine ⟨j + 1, u0, u1, v0, v1, m', d', B', y', by omega, by go_num, HP2, HY2, hyl2, ?_, ?_, ?_, ?_, ?_, ?_⟩
        · exact (((own9.far' hne _).far' hne _).far' hne _).far' hne _
        · exact Blk.far4 ze_9 (by omega)
        · exact Blk.far4 zf_9 (by omega)
        · exact Blk.far4 zb_9 (by omega)
        · exact Blk.set4 zd_9
        · exact Below.far4 bb_9 (by omega)
    · obtain rfl : j = n := by omega
      have hcap := own5.rowC.2
      have hneE : blockOf B ≠ some w.heap.size := own5.ne_blk ze_5 (by decide)
      have hneF : blockOf B ≠ some (w.heap.size + 1) := own5.ne_blk zf_5 (by decide)
      go_wp2
      go_region
      all_goals
        go_wp2
        refine bodyPost_ret (v := .tuple #[.agg #[.slice B m d, .int .i64 ((y.length : Nat) : Int)], .agg #[.int .i64 (p0 : Int), .int .i64 (p1 : Int), .int .u64 (q0 : Int), .int .u64 (q1 : Int)]]) (by simp [results, Try.results14, go_sem, ke_5, le_5, fe_5, kf_5, lf_5, ff_5]) rfl ?_
        refine ⟨B, m, d, y, p0, p1, q0, q1, rfl, hcap, ?_, HY, HP, ?_⟩
        · refine Own.rowIn (base := w.heap.size) (e := 5) (c := d) ?_
          repeat' (first | (with_reducible exact own5) | (with_reducible refine Own.far' ?_ hneE _) | (with_reducible refine Own.far' ?_ hneF _) | (with_reducible refine Own.drew ?_))
        · repeat' (first | (with_reducible assumption) | (with_reducible exact Below.refl _ _) | (with_reducible refine Blk.drewN ?_ _) | (with_reducible refine RowIn.drewN ?_ _) | (with_reducible refine below_drewN ?_ _) | (with_reducible refine Blk.drew ?_) | (with_reducible refine RowIn.drew ?_) | (with_reducible refine Below.drew ?_) | (with_reducible refine Blk.new' ?_ ?_ <;> first | (with_reducible rfl) | (simp; done)) | (with_reducible refine Blk.alloc ?_ _) | (with_reducible refine RowIn.alloc ?_ _) | (with_reducible refine Below.alloc ?_ ?_ _) | (with_reducible apply Blk.set') | (with_reducible apply Blk.far') | (with_reducible refine RowIn.far' ?_ ?_ _) | (with_reducible refine Below.far' ?_ ?_ _) | rfl | omega | go_size)


theorem renc_many (A : Option Addr) (n c : Nat) (w : World) (hn : 4000 < n) :
    Calls Try.prog 6 #[.slice A n c] w (RetB w [] 4) := by
  have ht0 : decide ((4000 : Int) < (n : Int)) = true := decide_eq_true (by omega)
  go_enter Try.func6, Try.ntmps6
  go_wp2
  have zr := Blk.new' (w := w) (g := w.heap.size) (t := 26) (l := [.slice none 0 0, .int .i64 0]) rfl rfl
  have kr := zr.cell; have lr := zr.lt
  refine bodyPost_ret (v := .tuple #[.agg #[.slice none 0 0, .int .i64 0], .int .i64 4]) (by simp [results, Try.results6, go_sem, kr, lr]) rfl ?_
  exact ⟨none, 0, 0, [], rfl, ⟨Nat.le_refl _, Nat.zero_le _⟩, RowIn.nil, Lib.hid rfl, by repeat' (first | (with_reducible assumption) | (with_reducible exact Below.refl _ _) | (with_reducible refine Blk.drewN ?_ _) | (with_reducible refine RowIn.drewN ?_ _) | (with_reducible refine below_drewN ?_ _) | (with_reducible refine Blk.drew ?_) | (with_reducible refine RowIn.drew ?_) | (with_reducible refine Below.drew ?_) | (with_reducible refine Blk.new' ?_ ?_ <;> first | (with_reducible rfl) | (simp; done)) | (with_reducible refine Blk.alloc ?_ _) | (with_reducible refine RowIn.alloc ?_ _) | (with_reducible refine Below.alloc ?_ ?_ _) | (with_reducible apply Blk.set') | (with_reducible apply Blk.far') | (with_reducible refine RowIn.far' ?_ ?_ _) | (with_reducible refine Below.far' ?_ ?_ _) | rfl | omega | go_size)⟩

set_option maxRecDepth 100000 in
set_option maxHeartbeats 1000000 in
theorem renc_ok (A : Option Addr) (n c : Nat) (xs : List Int) (w : World) (ha : Row .u32 w A n xs) (hx : Within 0 4294967295 xs) (hn : n ≤ 4000) :
    Calls Try.prog 6 #[.slice A n c] w (RetB w (codeP Cad.Code.start xs n) 0) := by
  have ht0 : decide ((4000 : Int) < (n : Int)) = false := decide_eq_false (by omega)
  have hri := ha.rowIn
  go_enter Try.func6, Try.ntmps6
  go_wp2_with fail
  refine (rcoded_ok A n c xs _ (by exact RowIn.row (lo := 0) (hi := w.heap.size) (by repeat' (first | (with_reducible assumption) | (with_reducible exact Below.refl _ _) | (with_reducible refine Blk.drewN ?_ _) | (with_reducible refine RowIn.drewN ?_ _) | (with_reducible refine below_drewN ?_ _) | (with_reducible refine Blk.drew ?_) | (with_reducible refine RowIn.drew ?_) | (with_reducible refine Below.drew ?_) | (with_reducible refine Blk.new' ?_ ?_ <;> first | (with_reducible rfl) | (simp; done)) | (with_reducible refine Blk.alloc ?_ _) | (with_reducible refine RowIn.alloc ?_ _) | (with_reducible refine Below.alloc ?_ ?_ _) | (with_reducible apply Blk.set') | (with_reducible apply Blk.far') | (with_reducible refine RowIn.far' ?_ ?_ _) | (with_reducible refine Below.far' ?_ ?_ _) | rfl | omega | go_size))) hx hn).mono ?_
  rintro e w1 ⟨B, m, d, y, u0, u1, v0, v1, rfl, hcap, ry, HY, HU, b1⟩
  have s1 := b1.size
  try simp only [World.size_alloc, World.size_setCell, World.size_drew, size_drewN] at s1
  obtain ⟨zr_1, rl_1, bb_1⟩ : Blk w1 (w.heap.size) 26 [.slice none 0 0, .int .i64 0] ∧ RowIn .u32 w1 (0) (w.heap.size) A n xs ∧ Below w.heap.size w w1 := by
    refine ⟨?_, ?_, ?_⟩
    all_goals repeat' (first | (with_reducible assumption) | (with_reducible exact Below.refl _ _) | (with_reducible refine Blk.drewN ?_ _) | (with_reducible refine RowIn.drewN ?_ _) | (with_reducible refine below_drewN ?_ _) | (with_reducible refine Blk.drew ?_) | (with_reducible refine RowIn.drew ?_) | (with_reducible refine Below.drew ?_) | (with_reducible refine Blk.new' ?_ ?_ <;> first | (with_reducible rfl) | (simp; done)) | (with_reducible refine Blk.alloc ?_ _) | (with_reducible refine RowIn.alloc ?_ _) | (with_reducible refine Below.alloc ?_ ?_ _) | (with_reducible apply Blk.set') | (with_reducible apply Blk.far') | (with_reducible refine RowIn.far' ?_ ?_ _) | (with_reducible refine Below.far' ?_ ?_ _) | (with_reducible refine Blk.after ?_ b1) | (with_reducible refine RowIn.belowS ?_ b1) | (with_reducible refine Below.after ?_ b1 ?_) | rfl | omega | go_size)
  clear b1
  have kr_1 := zr_1.cell; have fr_1 := zr_1.frozen; have lr_1 := zr_1.lt
  go_wp2
  refine bodyPost_ret (v := .tuple #[.agg #[.slice B m d, .int .i64 ((y.length : Nat) : Int)], .int .i64 0]) (by simp [results, Try.results6, go_sem, kr_1, lr_1, fr_1]) rfl ?_
  refine ⟨B, m, d, y, rfl, hcap, ?_, HY, ?_⟩
  · refine RowIn.mono (lo := w.heap.size + 1) (hi := w1.heap.size) ?_ (by omega) (by go_size)
    have ry2 := ry.mono (lo' := w.heap.size + 1) (by simp) (Nat.le_refl _)
    repeat' (first | (with_reducible assumption) | (with_reducible exact Below.refl _ _) | (with_reducible refine Blk.drewN ?_ _) | (with_reducible refine RowIn.drewN ?_ _) | (with_reducible refine below_drewN ?_ _) | (with_reducible refine Blk.drew ?_) | (with_reducible refine RowIn.drew ?_) | (with_reducible refine Below.drew ?_) | (with_reducible refine Blk.new' ?_ ?_ <;> first | (with_reducible rfl) | (simp; done)) | (with_reducible refine Blk.alloc ?_ _) | (with_reducible refine RowIn.alloc ?_ _) | (with_reducible refine Below.alloc ?_ ?_ _) | (with_reducible apply Blk.set') | (with_reducible apply Blk.far') | (with_reducible refine RowIn.far' ?_ ?_ _) | (with_reducible refine Below.far' ?_ ?_ _) | rfl | omega | go_size)
  · repeat' (first | (with_reducible assumption) | (with_reducible exact Below.refl _ _) | (with_reducible refine Blk.drewN ?_ _) | (with_reducible refine RowIn.drewN ?_ _) | (with_reducible refine below_drewN ?_ _) | (with_reducible refine Blk.drew ?_) | (with_reducible refine RowIn.drew ?_) | (with_reducible refine Below.drew ?_) | (with_reducible refine Blk.new' ?_ ?_ <;> first | (with_reducible rfl) | (simp; done)) | (with_reducible refine Blk.alloc ?_ _) | (with_reducible refine RowIn.alloc ?_ _) | (with_reducible refine Below.alloc ?_ ?_ _) | (with_reducible apply Blk.set') | (with_reducible apply Blk.far') | (with_reducible refine RowIn.far' ?_ ?_ _) | (with_reducible refine Below.far' ?_ ?_ _) | rfl | omega | go_size)


theorem rafter_many (A : Option Addr) (n c : Nat) (w : World) (hn : 4000 < n) :
    Calls Try.prog 8 #[.slice A n c] w (RetS w ⟨0, 0, 0, 0⟩ 4) := by
  have ht0 : decide ((4000 : Int) < (n : Int)) = true := decide_eq_true (by omega)
  go_enter Try.func8, Try.ntmps8
  go_wp2
  have zr := Blk.new' (w := w) (g := w.heap.size) (t := 34) (l := [.int .i64 0, .int .i64 0, .int .u64 0, .int .u64 0]) rfl rfl
  have kr := zr.cell; have lr := zr.lt
  refine bodyPost_ret (v := .tuple #[.agg #[.int .i64 0, .int .i64 0, .int .u64 0, .int .u64 0], .int .i64 4]) (by simp [results, Try.results8, go_sem, kr, lr]) rfl ?_
  exact ⟨0, 0, 0, 0, rfl, Lib.hid rfl, by repeat' (first | (with_reducible assumption) | (with_reducible exact Below.refl _ _) | (with_reducible refine Blk.drewN ?_ _) | (with_reducible refine RowIn.drewN ?_ _) | (with_reducible refine below_drewN ?_ _) | (with_reducible refine Blk.drew ?_) | (with_reducible refine RowIn.drew ?_) | (with_reducible refine Below.drew ?_) | (with_reducible refine Blk.new' ?_ ?_ <;> first | (with_reducible rfl) | (simp; done)) | (with_reducible refine Blk.alloc ?_ _) | (with_reducible refine RowIn.alloc ?_ _) | (with_reducible refine Below.alloc ?_ ?_ _) | (with_reducible apply Blk.set') | (with_reducible apply Blk.far') | (with_reducible refine RowIn.far' ?_ ?_ _) | (with_reducible refine Below.far' ?_ ?_ _) | rfl | omega | go_size)⟩

set_option maxRecDepth 100000 in
set_option maxHeartbeats 1000000 in
theorem rafter_ok (A : Option Addr) (n c : Nat) (xs : List Int) (w : World) (ha : Row .u32 w A n xs) (hx : Within 0 4294967295 xs) (hn : n ≤ 4000) :
    Calls Try.prog 8 #[.slice A n c] w (RetS w (stP Cad.Code.start xs n) 0) := by
  have ht0 : decide ((4000 : Int) < (n : Int)) = false := decide_eq_false (by omega)
  have hri := ha.rowIn
  go_enter Try.func8, Try.ntmps8
  go_wp2_with fail
  refine (rcoded_ok A n c xs _ (by exact RowIn.row (lo := 0) (hi := w.heap.size) (by repeat' (first | (with_reducible assumption) | (with_reducible exact Below.refl _ _) | (with_reducible refine Blk.drewN ?_ _) | (with_reducible refine RowIn.drewN ?_ _) | (with_reducible refine below_drewN ?_ _) | (with_reducible refine Blk.drew ?_) | (with_reducible refine RowIn.drew ?_) | (with_reducible refine Below.drew ?_) | (with_reducible refine Blk.new' ?_ ?_ <;> first | (with_reducible rfl) | (simp; done)) | (with_reducible refine Blk.alloc ?_ _) | (with_reducible refine RowIn.alloc ?_ _) | (with_reducible refine Below.alloc ?_ ?_ _) | (with_reducible apply Blk.set') | (with_reducible apply Blk.far') | (with_reducible refine RowIn.far' ?_ ?_ _) | (with_reducible refine Below.far' ?_ ?_ _) | rfl | omega | go_size))) hx hn).mono ?_
  rintro e w1 ⟨B, m, d, y, u0, u1, v0, v1, rfl, hcap, ry, HY, HU, b1⟩
  have s1 := b1.size
  try simp only [World.size_alloc, World.size_setCell, World.size_drew, size_drewN] at s1
  obtain ⟨zr_1, rl_1, bb_1⟩ : Blk w1 (w.heap.size) 34 [.int .i64 0, .int .i64 0, .int .u64 0, .int .u64 0] ∧ RowIn .u32 w1 (0) (w.heap.size) A n xs ∧ Below w.heap.size w w1 := by
    refine ⟨?_, ?_, ?_⟩
    all_goals repeat' (first | (with_reducible assumption) | (with_reducible exact Below.refl _ _) | (with_reducible refine Blk.drewN ?_ _) | (with_reducible refine RowIn.drewN ?_ _) | (with_reducible refine below_drewN ?_ _) | (with_reducible refine Blk.drew ?_) | (with_reducible refine RowIn.drew ?_) | (with_reducible refine Below.drew ?_) | (with_reducible refine Blk.new' ?_ ?_ <;> first | (with_reducible rfl) | (simp; done)) | (with_reducible refine Blk.alloc ?_ _) | (with_reducible refine RowIn.alloc ?_ _) | (with_reducible refine Below.alloc ?_ ?_ _) | (with_reducible apply Blk.set') | (with_reducible apply Blk.far') | (with_reducible refine RowIn.far' ?_ ?_ _) | (with_reducible refine Below.far' ?_ ?_ _) | (with_reducible refine Blk.after ?_ b1) | (with_reducible refine RowIn.belowS ?_ b1) | (with_reducible refine Below.after ?_ b1 ?_) | rfl | omega | go_size)
  clear b1
  have kr_1 := zr_1.cell; have fr_1 := zr_1.frozen; have lr_1 := zr_1.lt
  go_wp2
  refine bodyPost_ret (v := .tuple #[.agg #[.int .i64 (u0 : Int), .int .i64 (u1 : Int), .int .u64 (v0 : Int), .int .u64 (v1 : Int)], .int .i64 0]) (by simp [results, Try.results8, go_sem, kr_1, lr_1, fr_1]) rfl ?_
  refine ⟨u0, u1, v0, v1, rfl, HU, ?_⟩
  repeat' (first | (with_reducible assumption) | (with_reducible exact Below.refl _ _) | (with_reducible refine Blk.drewN ?_ _) | (with_reducible refine RowIn.drewN ?_ _) | (with_reducible refine below_drewN ?_ _) | (with_reducible refine Blk.drew ?_) | (with_reducible refine RowIn.drew ?_) | (with_reducible refine Below.drew ?_) | (with_reducible refine Blk.new' ?_ ?_ <;> first | (with_reducible rfl) | (simp; done)) | (with_reducible refine Blk.alloc ?_ _) | (with_reducible refine RowIn.alloc ?_ _) | (with_reducible refine Below.alloc ?_ ?_ _) | (with_reducible apply Blk.set') | (with_reducible apply Blk.far') | (with_reducible refine RowIn.far' ?_ ?_ _) | (with_reducible refine Below.far' ?_ ?_ _) | rfl | omega | go_size)


end Go.Proofs.Ytppilidcjlnmoaa
