/-
  The walk of TallyParts.
-/
import Derived.Test.YtpohaikbbfochaaLawTM
import Derived.Test.YtpohaikbbfochaaCodA
namespace Go.Proofs.Ytpohaikbbfochaa
open Go.RowKit Cad Cad.Bit Cad.Code
set_option linter.unusedVariables false
set_option linter.unusedSimpArgs false


theorem RowIn.cellAt {k : IntKind} {w : World} {lo hi b o n j : Nat} {xs : List Int} {v : Int} (h : RowIn k w lo hi (some ⟨b, o, none⟩) n xs) (hj : j < n) (hv : nth xs j = v) : w.cell? ⟨b, o + j, none⟩ = some (.int k v) := by
  obtain ⟨b', o', e, _, _, hc⟩ := h.2 (by omega)
  injection e with e
  injection e with e1 e2 _
  subst e1 e2
  rw [hc j hj, hv]


set_option maxRecDepth 100000 in
set_option maxHeartbeats 4000000 in
theorem lawTallyParts (w : World) (Al : Option Addr) (nl cl : Nat) (xsl : List Int) (hAl : RowC .u32 w Al nl cl xsl) (hxl : Within 0 4294967295 xsl) (p : Int) (hp : -9223372036854775808 ≤ p ∧ p ≤ 9223372036854775807) :
    Calls Try.prog 7 #[.slice Al nl cl, .int .i64 p] w fun e w' => e = .returned (.bool true) ∧ Below w.heap.size w w' := by
  have hal := hAl.row
  have hcl := hAl.2
  have hril := hal.rowIn
  have HLl := Lib.hid hal.len
  by_cases h0 : 150 < nl
  · have t0 : decide ((150 : Int) < (nl : Int)) = true := decide_eq_true (by omega)
    go_enter Try.func7, Try.ntmps7
    go_wp2_with fail
    refine (alive12 _).mono ?_
    rintro e w1 ⟨rfl, b1⟩
    have s1 := b1.size
    try simp only [World.size_alloc, World.size_setCell, World.size_drew, size_drewN] at s1
    have bb_1 : Below w.heap.size w w1 := by
      repeat' (first | (with_reducible first | assumption | exact Below.refl _ _ | refine Blk.drewN ?_ _ | refine RowIn.drewN ?_ _ | refine below_drewN ?_ _ | refine Blk.drew ?_ | refine RowIn.drew ?_ | refine Below.drew ?_) | (with_reducible refine Blk.new' ?_ ?_ <;> first | (with_reducible rfl) | (simp; done)) | (with_reducible first | refine Blk.alloc ?_ _ | refine RowIn.alloc ?_ _ | refine Below.alloc ?_ ?_ _ | apply Blk.set' | apply Blk.far' | refine RowIn.far' ?_ ?_ _ | refine Below.far' ?_ ?_ _ | refine Blk.after ?_ b1 | refine RowIn.belowS ?_ b1 | refine Below.after ?_ b1 ?_) | (exact (Eq.refl _ : (_ : List Value) = _)) | omega | go_size)
    clear b1
    go_wp2
    go_ret
    refine ⟨rfl, ?_⟩
    repeat' (first | (with_reducible first | assumption | exact Below.refl _ _ | refine Blk.drewN ?_ _ | refine RowIn.drewN ?_ _ | refine below_drewN ?_ _ | refine Blk.drew ?_ | refine RowIn.drew ?_ | refine Below.drew ?_) | (with_reducible refine Blk.new' ?_ ?_ <;> first | (with_reducible rfl) | (simp; done)) | (with_reducible first | refine Blk.alloc ?_ _ | refine RowIn.alloc ?_ _ | refine Below.alloc ?_ ?_ _ | apply Blk.set' | apply Blk.far' | refine RowIn.far' ?_ ?_ _ | refine Below.far' ?_ ?_ _) | (exact (Eq.refl _ : (_ : List Value) = _)) | omega | go_size)
  have t0 : decide ((150 : Int) < (nl : Int)) = false := decide_eq_false (by omega)
  by_cases h1 : p < 0
  · have t1 : decide (p < 0) = true := decide_eq_true (by omega)
    go_enter Try.func7, Try.ntmps7
    go_wp2_with fail
    refine (alive12 _).mono ?_
    rintro e w1 ⟨rfl, b1⟩
    have s1 := b1.size
    try simp only [World.size_alloc, World.size_setCell, World.size_drew, size_drewN] at s1
    have bb_1 : Below w.heap.size w w1 := by
      repeat' (first | (with_reducible first | assumption | exact Below.refl _ _ | refine Blk.drewN ?_ _ | refine RowIn.drewN ?_ _ | refine below_drewN ?_ _ | refine Blk.drew ?_ | refine RowIn.drew ?_ | refine Below.drew ?_) | (with_reducible refine Blk.new' ?_ ?_ <;> first | (with_reducible rfl) | (simp; done)) | (with_reducible first | refine Blk.alloc ?_ _ | refine RowIn.alloc ?_ _ | refine Below.alloc ?_ ?_ _ | apply Blk.set' | apply Blk.far' | refine RowIn.far' ?_ ?_ _ | refine Below.far' ?_ ?_ _ | refine Blk.after ?_ b1 | refine RowIn.belowS ?_ b1 | refine Below.after ?_ b1 ?_) | (exact (Eq.refl _ : (_ : List Value) = _)) | omega | go_size)
    clear b1
    go_wp2
    go_ret
    refine ⟨rfl, ?_⟩
    repeat' (first | (with_reducible first | assumption | exact Below.refl _ _ | refine Blk.drewN ?_ _ | refine RowIn.drewN ?_ _ | refine below_drewN ?_ _ | refine Blk.drew ?_ | refine RowIn.drew ?_ | refine Below.drew ?_) | (with_reducible refine Blk.new' ?_ ?_ <;> first | (with_reducible rfl) | (simp; done)) | (with_reducible first | refine Blk.alloc ?_ _ | refine RowIn.alloc ?_ _ | refine Below.alloc ?_ ?_ _ | apply Blk.set' | apply Blk.far' | refine RowIn.far' ?_ ?_ _ | refine Below.far' ?_ ?_ _) | (exact (Eq.refl _ : (_ : List Value) = _)) | omega | go_size)
  have t1 : decide (p < 0) = false := decide_eq_false (by omega)
  by_cases h2 : (nl : Int) < p
  · have t2 : decide ((nl : Int) < p) = true := decide_eq_true (by omega)
    go_enter Try.func7, Try.ntmps7
    go_wp2_with fail
    refine (alive12 _).mono ?_
    rintro e w1 ⟨rfl, b1⟩
    have s1 := b1.size
    try simp only [World.size_alloc, World.size_setCell, World.size_drew, size_drewN] at s1
    have bb_1 : Below w.heap.size w w1 := by
      repeat' (first | (with_reducible first | assumption | exact Below.refl _ _ | refine Blk.drewN ?_ _ | refine RowIn.drewN ?_ _ | refine below_drewN ?_ _ | refine Blk.drew ?_ | refine RowIn.drew ?_ | refine Below.drew ?_) | (with_reducible refine Blk.new' ?_ ?_ <;> first | (with_reducible rfl) | (simp; done)) | (with_reducible first | refine Blk.alloc ?_ _ | refine RowIn.alloc ?_ _ | refine Below.alloc ?_ ?_ _ | apply Blk.set' | apply Blk.far' | refine RowIn.far' ?_ ?_ _ | refine Below.far' ?_ ?_ _ | refine Blk.after ?_ b1 | refine RowIn.belowS ?_ b1 | refine Below.after ?_ b1 ?_) | (exact (Eq.refl _ : (_ : List Value) = _)) | omega | go_size)
    clear b1
    go_wp2
    go_ret
    refine ⟨rfl, ?_⟩
    repeat' (first | (with_reducible first | assumption | exact Below.refl _ _ | refine Blk.drewN ?_ _ | refine RowIn.drewN ?_ _ | refine below_drewN ?_ _ | refine Blk.drew ?_ | refine RowIn.drew ?_ | refine Below.drew ?_) | (with_reducible refine Blk.new' ?_ ?_ <;> first | (with_reducible rfl) | (simp; done)) | (with_reducible first | refine Blk.alloc ?_ _ | refine RowIn.alloc ?_ _ | refine Below.alloc ?_ ?_ _ | apply Blk.set' | apply Blk.far' | refine RowIn.far' ?_ ?_ _ | refine Below.far' ?_ ?_ _) | (exact (Eq.refl _ : (_ : List Value) = _)) | omega | go_size)
  have t2 : decide ((nl : Int) < p) = false := decide_eq_false (by omega)
  obtain ⟨a, rfl⟩ := Int.eq_ofNat_of_zero_le (by omega : 0 ≤ p)
  have han : a ≤ nl := by omega
  have hac : (a : Int) ≤ (cl : Int) := by omega
  obtain ⟨L, HL⟩ : ∃ L, Hid (lenP Cad.Code.start xsl nl = L) := ⟨_, Lib.hid rfl⟩
  obtain ⟨N, HN⟩ : ∃ N, Hid (lenP Cad.Code.start (xsl.take a) a = N) := ⟨_, Lib.hid rfl⟩
  have HN2 : Hid (N = lenP Cad.Code.start xsl a) := Lib.hid (by rw [← HN.out, lenP_row _ _ (Nat.le_refl _)])
  have hL := lenP_le start_ok hxl nl
  rw [HL.out] at hL
  obtain ⟨hL1, hL2⟩ := hL
  have hN := (lenP_le start_ok hxl a).2
  rw [← HN2.out] at hN
  go_enter Try.func7, Try.ntmps7
  go_wp2_with fail
  refine (tlen_c Al nl cl xsl L _ (by exact RowIn.row (lo := 0) (hi := w.heap.size) (by repeat' (first | (with_reducible first | assumption | exact Below.refl _ _ | refine Blk.drewN ?_ _ | refine RowIn.drewN ?_ _ | refine below_drewN ?_ _ | refine Blk.drew ?_ | refine RowIn.drew ?_ | refine Below.drew ?_) | (with_reducible refine Blk.new' ?_ ?_ <;> first | (with_reducible rfl) | (simp; done)) | (with_reducible first | refine Blk.alloc ?_ _ | refine RowIn.alloc ?_ _ | refine Below.alloc ?_ ?_ _ | apply Blk.set' | apply Blk.far' | refine RowIn.far' ?_ ?_ _ | refine Below.far' ?_ ?_ _) | (exact (Eq.refl _ : (_ : List Value) = _)) | omega | go_size))) hxl (by omega) HL.out).mono ?_
  rintro e w1 ⟨rfl, b1⟩
  have s1 := b1.size
  try simp only [World.size_alloc, World.size_setCell, World.size_drew, size_drewN] at s1
  obtain ⟨rl_1, bb_1⟩ : RowIn .u32 w1 (0) (w.heap.size) Al nl xsl ∧ Below w.heap.size w w1 := by
    refine ⟨?_, ?_⟩
    all_goals repeat' (first | (with_reducible first | assumption | exact Below.refl _ _ | refine Blk.drewN ?_ _ | refine RowIn.drewN ?_ _ | refine below_drewN ?_ _ | refine Blk.drew ?_ | refine RowIn.drew ?_ | refine Below.drew ?_) | (with_reducible refine Blk.new' ?_ ?_ <;> first | (with_reducible rfl) | (simp; done)) | (with_reducible first | refine Blk.alloc ?_ _ | refine RowIn.alloc ?_ _ | refine Below.alloc ?_ ?_ _ | apply Blk.set' | apply Blk.far' | refine RowIn.far' ?_ ?_ _ | refine Below.far' ?_ ?_ _ | refine Blk.after ?_ b1 | refine RowIn.belowS ?_ b1 | refine Below.after ?_ b1 ?_) | (exact (Eq.refl _ : (_ : List Value) = _)) | omega | go_size)
  clear b1
  go_wp2_with fail
  refine (tlen_c Al a cl (xsl.take a) N _ (by exact RowIn.row (lo := 0) (hi := w.heap.size) (by refine part_row12 (n := nl) ?_ (by omega); repeat' (first | (with_reducible first | assumption | exact Below.refl _ _ | refine Blk.drewN ?_ _ | refine RowIn.drewN ?_ _ | refine below_drewN ?_ _ | refine Blk.drew ?_ | refine RowIn.drew ?_ | refine Below.drew ?_) | (with_reducible refine Blk.new' ?_ ?_ <;> first | (with_reducible rfl) | (simp; done)) | (with_reducible first | refine Blk.alloc ?_ _ | refine RowIn.alloc ?_ _ | refine Below.alloc ?_ ?_ _ | apply Blk.set' | apply Blk.far' | refine RowIn.far' ?_ ?_ _ | refine Below.far' ?_ ?_ _) | (exact (Eq.refl _ : (_ : List Value) = _)) | omega | go_size))) (within_take12 hxl a) (by omega) HN.out).mono ?_
  rintro e w2 ⟨rfl, b2⟩
  have s2 := b2.size
  try simp only [World.size_alloc, World.size_setCell, World.size_drew, size_drewN] at s2
  obtain ⟨rl_2, bb_2⟩ : RowIn .u32 w2 (0) (w.heap.size) Al nl xsl ∧ Below w.heap.size w w2 := by
    refine ⟨?_, ?_⟩
    all_goals repeat' (first | (with_reducible first | assumption | exact Below.refl _ _ | refine Blk.drewN ?_ _ | refine RowIn.drewN ?_ _ | refine below_drewN ?_ _ | refine Blk.drew ?_ | refine RowIn.drew ?_ | refine Below.drew ?_) | (with_reducible refine Blk.new' ?_ ?_ <;> first | (with_reducible rfl) | (simp; done)) | (with_reducible first | refine Blk.alloc ?_ _ | refine RowIn.alloc ?_ _ | refine Below.alloc ?_ ?_ _ | apply Blk.set' | apply Blk.far' | refine RowIn.far' ?_ ?_ _ | refine Below.far' ?_ ?_ _ | refine Blk.after ?_ b2 | refine RowIn.belowS ?_ b2 | refine Below.after ?_ b2 ?_) | (exact (Eq.refl _ : (_ : List Value) = _)) | omega | go_size)
  clear rl_1 bb_1 b2
  go_wp2_with fail
  refine (teach_ok Al nl cl xsl _ (by exact RowIn.row (lo := 0) (hi := w.heap.size) (by repeat' (first | (with_reducible first | assumption | exact Below.refl _ _ | refine Blk.drewN ?_ _ | refine RowIn.drewN ?_ _ | refine below_drewN ?_ _ | refine Blk.drew ?_ | refine RowIn.drew ?_ | refine Below.drew ?_) | (with_reducible refine Blk.new' ?_ ?_ <;> first | (with_reducible rfl) | (simp; done)) | (with_reducible first | refine Blk.alloc ?_ _ | refine RowIn.alloc ?_ _ | refine Below.alloc ?_ ?_ _ | apply Blk.set' | apply Blk.far' | refine RowIn.far' ?_ ?_ _ | refine Below.far' ?_ ?_ _) | (exact (Eq.refl _ : (_ : List Value) = _)) | omega | go_size))) hxl (by omega)).mono ?_
  rintro e w3 ⟨Ae, me, ce, ye, rfl, hce, re, HYe, b3⟩
  have lne := re.len
  replace re := re.mono (lo' := w2.heap.size + 0) (by go_size) (Nat.le_refl _)
  have s3 := b3.size
  try simp only [World.size_alloc, World.size_setCell, World.size_drew, size_drewN] at s3
  obtain ⟨rl_3, re_3, bb_3⟩ : RowIn .u32 w3 (0) (w.heap.size) Al nl xsl ∧ RowIn .i64 w3 (w2.heap.size + 0) (w3.heap.size) Ae me ye ∧ Below w.heap.size w w3 := by
    refine ⟨?_, ?_, ?_⟩
    all_goals repeat' (first | (with_reducible first | assumption | exact Below.refl _ _ | refine Blk.drewN ?_ _ | refine RowIn.drewN ?_ _ | refine below_drewN ?_ _ | refine Blk.drew ?_ | refine RowIn.drew ?_ | refine Below.drew ?_) | (with_reducible refine Blk.new' ?_ ?_ <;> first | (with_reducible rfl) | (simp; done)) | (with_reducible first | refine Blk.alloc ?_ _ | refine RowIn.alloc ?_ _ | refine Below.alloc ?_ ?_ _ | apply Blk.set' | apply Blk.far' | refine RowIn.far' ?_ ?_ _ | refine Below.far' ?_ ?_ _ | refine Blk.after ?_ b3 | refine RowIn.belowS ?_ b3 | refine Below.after ?_ b3 ?_) | (exact (Eq.refl _ : (_ : List Value) = _)) | omega | go_size)
  clear rl_2 bb_2 b3
  clear re
  go_wp2_with fail
  refine (teach_ok Al a cl (xsl.take a) _ (by exact RowIn.row (lo := 0) (hi := w.heap.size) (by refine part_row12 (n := nl) ?_ (by omega); repeat' (first | (with_reducible first | assumption | exact Below.refl _ _ | refine Blk.drewN ?_ _ | refine RowIn.drewN ?_ _ | refine below_drewN ?_ _ | refine Blk.drew ?_ | refine RowIn.drew ?_ | refine Below.drew ?_) | (with_reducible refine Blk.new' ?_ ?_ <;> first | (with_reducible rfl) | (simp; done)) | (with_reducible first | refine Blk.alloc ?_ _ | refine RowIn.alloc ?_ _ | refine Below.alloc ?_ ?_ _ | apply Blk.set' | apply Blk.far' | refine RowIn.far' ?_ ?_ _ | refine Below.far' ?_ ?_ _) | (exact (Eq.refl _ : (_ : List Value) = _)) | omega | go_size))) (within_take12 hxl a) (by omega)).mono ?_
  rintro e w4 ⟨Af, mf, cf, yf, rfl, hcf, rf, HYf, b4⟩
  have lnf := rf.len
  replace rf := rf.mono (lo' := w3.heap.size + 0) (by go_size) (Nat.le_refl _)
  have s4 := b4.size
  try simp only [World.size_alloc, World.size_setCell, World.size_drew, size_drewN] at s4
  obtain ⟨rl_4, re_4, rf_4, bb_4⟩ : RowIn .u32 w4 (0) (w.heap.size) Al nl xsl ∧ RowIn .i64 w4 (w2.heap.size + 0) (w3.heap.size) Ae me ye ∧ RowIn .i64 w4 (w3.heap.size + 0) (w4.heap.size) Af mf yf ∧ Below w.heap.size w w4 := by
    refine ⟨?_, ?_, ?_, ?_⟩
    all_goals repeat' (first | (with_reducible first | assumption | exact Below.refl _ _ | refine Blk.drewN ?_ _ | refine RowIn.drewN ?_ _ | refine below_drewN ?_ _ | refine Blk.drew ?_ | refine RowIn.drew ?_ | refine Below.drew ?_) | (with_reducible refine Blk.new' ?_ ?_ <;> first | (with_reducible rfl) | (simp; done)) | (with_reducible first | refine Blk.alloc ?_ _ | refine RowIn.alloc ?_ _ | refine Below.alloc ?_ ?_ _ | apply Blk.set' | apply Blk.far' | refine RowIn.far' ?_ ?_ _ | refine Below.far' ?_ ?_ _ | refine Blk.after ?_ b4 | refine RowIn.belowS ?_ b4 | refine Below.after ?_ b4 ?_) | (exact (Eq.refl _ : (_ : List Value) = _)) | omega | go_size)
  clear rl_3 re_3 bb_3 b4
  clear rf
  go_wp2_with fail
  refine (cafter_ok Al a cl (xsl.take a) _ (by exact RowIn.row (lo := 0) (hi := w.heap.size) (by refine part_row12 (n := nl) ?_ (by omega); repeat' (first | (with_reducible first | assumption | exact Below.refl _ _ | refine Blk.drewN ?_ _ | refine RowIn.drewN ?_ _ | refine below_drewN ?_ _ | refine Blk.drew ?_ | refine RowIn.drew ?_ | refine Below.drew ?_) | (with_reducible refine Blk.new' ?_ ?_ <;> first | (with_reducible rfl) | (simp; done)) | (with_reducible first | refine Blk.alloc ?_ _ | refine RowIn.alloc ?_ _ | refine Below.alloc ?_ ?_ _ | apply Blk.set' | apply Blk.far' | refine RowIn.far' ?_ ?_ _ | refine Below.far' ?_ ?_ _) | (exact (Eq.refl _ : (_ : List Value) = _)) | omega | go_size))) (within_take12 hxl a) (by omega)).mono ?_
  rintro e w5 ⟨p0, p1, q0, q1, rfl, HSx, b5⟩
  have s5 := b5.size
  try simp only [World.size_alloc, World.size_setCell, World.size_drew, size_drewN] at s5
  obtain ⟨rl_5, re_5, rf_5, bb_5⟩ : RowIn .u32 w5 (0) (w.heap.size) Al nl xsl ∧ RowIn .i64 w5 (w2.heap.size + 0) (w3.heap.size) Ae me ye ∧ RowIn .i64 w5 (w3.heap.size + 0) (w4.heap.size) Af mf yf ∧ Below w.heap.size w w5 := by
    refine ⟨?_, ?_, ?_, ?_⟩
    all_goals repeat' (first | (with_reducible first | assumption | exact Below.refl _ _ | refine Blk.drewN ?_ _ | refine RowIn.drewN ?_ _ | refine below_drewN ?_ _ | refine Blk.drew ?_ | refine RowIn.drew ?_ | refine Below.drew ?_) | (with_reducible refine Blk.new' ?_ ?_ <;> first | (with_reducible rfl) | (simp; done)) | (with_reducible first | refine Blk.alloc ?_ _ | refine RowIn.alloc ?_ _ | refine Below.alloc ?_ ?_ _ | apply Blk.set' | apply Blk.far' | refine RowIn.far' ?_ ?_ _ | refine Below.far' ?_ ?_ _ | refine Blk.after ?_ b5 | refine RowIn.belowS ?_ b5 | refine Below.after ?_ b5 ?_) | (exact (Eq.refl _ : (_ : List Value) = _)) | omega | go_size)
  clear rl_4 re_4 rf_4 bb_4 b5
  have HP : Hid ((⟨p0, p1, q0, q1⟩ : Dual) = stP Cad.Code.start xsl a) := Lib.hid (by rw [HSx.out, stP_row' _ _ (Nat.le_refl _)])
  clear HSx
  have hpo : Dual.Ok ⟨p0, p1, q0, q1⟩ := by rw [HP.out]; exact stP_ok start_ok hxl a
  have HPO := Lib.hid hpo
  clear hpo
  have hme : (me : Int) = (nl : Int) := by rw [← lne, HYe.out, lens_len]
  have hmf : mf ≤ 4000 := by rw [← lnf, HYf.out, lens_len]; omega
  have e3 : ((me : Int) != (nl : Int)) = false := by rw [bne_eq_false_iff_eq]; omega
  have hae : (a : Int) ≤ (ce : Int) := by omega
  have HEF : Hid (ye.take a = yf) := Lib.hid (by rw [HYe.out, HYf.out, lens_row _ _ (Nat.le_refl _)]; unfold lens; rw [← List.map_take, List.take_range, Nat.min_eq_left han])
  replace hme := Lib.hid hme
  have LNE := Lib.hid lne
  clear lne lnf
  go_wp2_with fail
  have rq : RowIn .i64 w5 0 w5.heap.size Ae a (ye.take a) := part_row12 (re_5.mono (Nat.zero_le _) (by omega)) (by have := hme.out; omega)
  refine (r12same_eq Ae Af a ce mf cf (ye.take a) yf _ (by first | exact rq.row | exact (rq.drew).row | exact (rq.alloc _).row | exact ((rq.alloc _).drew).row) (by exact RowIn.row (lo := w3.heap.size + 0) (hi := w4.heap.size) (by repeat' (first | (with_reducible first | assumption | exact Below.refl _ _ | refine Blk.drewN ?_ _ | refine RowIn.drewN ?_ _ | refine below_drewN ?_ _ | refine Blk.drew ?_ | refine RowIn.drew ?_ | refine Below.drew ?_) | (with_reducible refine Blk.new' ?_ ?_ <;> first | (with_reducible rfl) | (simp; done)) | (with_reducible first | refine Blk.alloc ?_ _ | refine RowIn.alloc ?_ _ | refine Below.alloc ?_ ?_ _ | apply Blk.set' | apply Blk.far' | refine RowIn.far' ?_ ?_ _ | refine Below.far' ?_ ?_ _) | (exact (Eq.refl _ : (_ : List Value) = _)) | omega | go_size))) (by omega) HEF.out).mono ?_
  rintro e w6 ⟨rfl, b6⟩
  have s6 := b6.size
  try simp only [World.size_alloc, World.size_setCell, World.size_drew, size_drewN] at s6
  obtain ⟨zd_6, rl_6, re_6, rf_6, bb_6⟩ : Blk w6 (w5.heap.size) 46 [.int .i64 (p0 : Int), .int .i64 (p1 : Int), .int .u64 (q0 : Int), .int .u64 (q1 : Int)] ∧ RowIn .u32 w6 (0) (w.heap.size) Al nl xsl ∧ RowIn .i64 w6 (w2.heap.size + 0) (w3.heap.size) Ae me ye ∧ RowIn .i64 w6 (w3.heap.size + 0) (w4.heap.size) Af mf yf ∧ Below w.heap.size w w6 := by
    refine ⟨?_, ?_, ?_, ?_, ?_⟩
    all_goals repeat' (first | (with_reducible first | assumption | exact Below.refl _ _ | refine Blk.drewN ?_ _ | refine RowIn.drewN ?_ _ | refine below_drewN ?_ _ | refine Blk.drew ?_ | refine RowIn.drew ?_ | refine Below.drew ?_) | (with_reducible refine Blk.new' ?_ ?_ <;> first | (with_reducible rfl) | (simp; done)) | (with_reducible first | refine Blk.alloc ?_ _ | refine RowIn.alloc ?_ _ | refine Below.alloc ?_ ?_ _ | apply Blk.set' | apply Blk.far' | refine RowIn.far' ?_ ?_ _ | refine Below.far' ?_ ?_ _ | refine Blk.after ?_ b6 | refine RowIn.belowS ?_ b6 | refine Below.after ?_ b6 ?_) | (exact (Eq.refl _ : (_ : List Value) = _)) | omega | go_size)
  clear rl_5 re_5 rf_5 bb_5 b6
  have kd_6 := zd_6.cell; have fd_6 := zd_6.frozen; have ld_6 := zd_6.lt
  clear rq
  go_wp2_with fail
  have hdk : DOk (p0 : Int) (p1 : Int) (q0 : Int) (q1 : Int) := by obtain ⟨d0, d1, d2, d3⟩ : p0 ≤ 24 ∧ p1 ≤ 24 ∧ q0 ≤ 68719476735 ∧ q1 ≤ 68719476735 := id HPO.out; unfold DOk; omega
  have HDK := Lib.hid hdk
  clear hdk
  refine (rdcheck_any (p0 : Int) (p1 : Int) (q0 : Int) (q1 : Int) 0 _ (by omega) (by omega) (by rw [if_pos HDK.out])).mono ?_
  rintro e w7 ⟨rfl, b7⟩
  have s7 := b7.size
  try simp only [World.size_alloc, World.size_setCell, World.size_drew, size_drewN] at s7
  obtain ⟨zd_7, rl_7, re_7, bb_7⟩ : Blk w7 (w5.heap.size) 46 [.int .i64 (p0 : Int), .int .i64 (p1 : Int), .int .u64 (q0 : Int), .int .u64 (q1 : Int)] ∧ RowIn .u32 w7 (0) (w.heap.size) Al nl xsl ∧ RowIn .i64 w7 (w2.heap.size + 0) (w3.heap.size) Ae me ye ∧ Below w.heap.size w w7 := by
    refine ⟨?_, ?_, ?_, ?_⟩
    all_goals repeat' (first | (with_reducible first | assumption | exact Below.refl _ _ | refine Blk.drewN ?_ _ | refine RowIn.drewN ?_ _ | refine below_drewN ?_ _ | refine Blk.drew ?_ | refine RowIn.drew ?_ | refine Below.drew ?_) | (with_reducible refine Blk.new' ?_ ?_ <;> first | (with_reducible rfl) | (simp; done)) | (with_reducible first | refine Blk.alloc ?_ _ | refine RowIn.alloc ?_ _ | refine Below.alloc ?_ ?_ _ | apply Blk.set' | apply Blk.far' | refine RowIn.far' ?_ ?_ _ | refine Below.far' ?_ ?_ _ | refine Blk.after ?_ b7 | refine RowIn.belowS ?_ b7 | refine Below.after ?_ b7 ?_) | (exact (Eq.refl _ : (_ : List Value) = _)) | omega | go_size)
  clear zd_6 rl_6 re_6 rf_6 bb_6 kd_6 fd_6 ld_6 b7
  have kd_7 := zd_7.cell; have fd_7 := zd_7.frozen; have ld_7 := zd_7.lt
  go_wp2_with fail
  have BB0 := bb_7
  have s0w := bb_7.size
  have hgd : w5.heap.size < w7.heap.size := ld_7
  go_loopg [7, 15] (nl - a) (fun r u v wr => ∃ j z p0 p1 q0 q1 : Nat, j + r = nl ∧ a ≤ j ∧ u = .int .i64 (z : Nat) ∧ v = .int .i64 (j : Nat) ∧ Hid (z = lenP Cad.Code.start xsl j) ∧ z ≤ 81 * j ∧ Hid ((⟨p0, p1, q0, q1⟩ : Dual) = stP Cad.Code.start xsl j) ∧ Blk wr (w5.heap.size) 46 [.int .i64 (p0 : Int), .int .i64 (p1 : Int), .int .u64 (q0 : Int), .int .u64 (q1 : Int)] ∧ RowIn .u32 wr 0 w.heap.size Al nl xsl ∧ RowIn .i64 wr (w2.heap.size + 0) w3.heap.size Ae me ye ∧ Below w.heap.size w wr)
  case atStart => exact ⟨a, N, p0, p1, q0, q1, by omega, by omega, rfl, rfl, HN2, by omega, HP, zd_7, rl_7, re_7, bb_7⟩
  case round =>
    clear HP HPO HDK zd_7 rl_7 re_7 bb_7 kd_7 fd_7 ld_7
    obtain ⟨j, z, p0, p1, q0, q1, hj, haj, rfl, rfl, HZ, hz, HP, zd_20, rl_20, re_20, bb_20⟩ := hrel
    have s20 := bb_20.size
    have kd_20 := zd_20.cell; have fd_20 := zd_20.frozen; have ld_20 := zd_20.lt
    by_cases hlt : j < nl
    · have hme2 := hme.out
      obtain ⟨be, oe, rfl, hbe, hcell⟩ := re_20.row.at (by omega)
      obtain ⟨bl, ol, rfl, hbl, hcelll⟩ := hal.at (by omega)
      obtain ⟨x, HX⟩ : ∃ x : Nat, Hid (lenAt Cad.Code.start xsl j = x) := ⟨_, Lib.hid rfl⟩
      have hx := lenAt_le start_ok hxl j
      rw [HX.out] at hx
      obtain ⟨hx1, hx2⟩ := hx
      obtain ⟨v, hv⟩ : ∃ v, nth xsl j = v := ⟨_, rfl⟩
      have hvb := hxl.nth (by decide) (by decide) j
      rw [hv] at hvb
      obtain ⟨v, rfl⟩ := Int.eq_ofNat_of_zero_le hvb.1
      have hv32 : v < 4294967296 := by omega
      have HV : Hid ((nth xsl j).toNat = v) := Lib.hid (by rw [hv]; rfl)
      have hbL := hbl
      have hbE := hbe
      have HNE : Hid (nth ye j = (x : Int)) := Lib.hid (by rw [HYe.out, nth_lens _ _ hlt, HX.out])
      have HNV : Hid (nth xsl j = (v : Int)) := Lib.hid hv
      have hjm : j < me := by omega
      have c0 : wr.cell? ⟨be, oe + j, none⟩ = some (.int .i64 (x : Int)) := by rw [hcell j (by omega), HYe.out, nth_lens _ _ hlt, HX.out]
      have c1 : w.cell? ⟨bl, ol + j, none⟩ = some (.int .u32 (v : Int)) := by rw [hcelll j hlt, hv]
      have CL := Lib.hid c1
      clear c1
      clear hcell hcelll hv
      have hlt1 : (j : Int) < (nl : Int) := by omega
      have hlt2 : (j : Int) < (me : Int) := by omega
      have HZ2 : Hid (z + x = lenP Cad.Code.start xsl (j + 1)) := Lib.hid (by rw [lenP_step, HZ.out, HX.out])
      clear hme2
      have hpo : Dual.Ok ⟨p0, p1, q0, q1⟩ := by rw [HP.out]; exact stP_ok start_ok hxl j
      have HPO := Lib.hid hpo
      clear hpo
      have HXD : Hid (lenD ⟨p0, p1, q0, q1⟩ v = x) := Lib.hid (by rw [HP.out, ← HV.out]; exact HX.out)
      obtain ⟨u0, u1, v0, v1, hu⟩ := Dual.four (learn ⟨p0, p1, q0, q1⟩ v)
      have HU := Lib.hid hu
      clear hu
      have HP2 : Hid ((⟨u0, u1, v0, v1⟩ : Dual) = stP Cad.Code.start xsl (j + 1)) := Lib.hid (by rw [stP_next, ← HP.out, HV.out, HU.out])
      clear HP
      have ex : ((x : Int) != (x : Int)) = false := by simp
      have cL_20 : wr.cell? ⟨bl, ol + j, none⟩ = some (.int .u32 (v : Int)) := (bb_20.cell (p := ⟨bl, ol + j, none⟩) hbL).trans CL.out
      clear c0
      go_wp2_with fail
      have kd_20d := (Blk.drew zd_20).cell
      have cL_20d : wr.drew.cell? ⟨bl, ol + j, none⟩ = some (.int .u32 (v : Int)) := cL_20
      go_region_held3 (fun w' => (∀ a, w'.cell? ⟨w5.heap.size, a, none⟩ = [.int .i64 (p0 : Int), .int .i64 (p1 : Int), .int .u64 (q0 : Int), .int .u64 (q1 : Int)][a]?) ∧ w'.cell? ⟨bl, ol + j, none⟩ = some (.int .u32 (v : Int))) (first | with_reducible exact ⟨kd_20, cL_20⟩ | with_reducible exact ⟨kd_20d, cL_20d⟩ | with_reducible exact ⟨kd_21, cL_21⟩) (first
        | (go_simp; go_at_call 25; refine (dlen_c _ HPO.out hv32 HXD.out).mono ?_
           rintro e w21 ⟨rfl, b21⟩
           have s21 : wr.heap.size ≤ w21.heap.size := b21.size
           have zd_21 := ((Blk.drew zd_20)).after b21; have kd_21 := zd_21.cell; have fd_21 := zd_21.frozen; have ld_21 := zd_21.lt
           have rl_21 := ((RowIn.drew rl_20)).belowS b21
           have re_21 := ((RowIn.drew re_20)).belowS b21
           have bb_21 := Below.after (Below.drew bb_20) b21 bb_20.size
           have cL_21 : w21.cell? ⟨bl, ol + j, none⟩ = some (.int .u32 (v : Int)) := (bb_21.cell (p := ⟨bl, ol + j, none⟩) hbL).trans CL.out))
      all_goals
        go_wp2_with fail
        go_wp2_with fail
        apply merge2 (fun (gz : Nat) (wz : World) => Blk wz gz 46 [.int .i64 (u0 : Int), .int .i64 (u1 : Int), .int .u64 (v0 : Int), .int .u64 (v1 : Int)] ∧ w21.heap.size ≤ gz ∧ Blk wz (w5.heap.size) 46 [.int .i64 (p0 : Int), .int .i64 (p1 : Int), .int .u64 (q0 : Int), .int .u64 (q1 : Int)] ∧ RowIn .u32 wz (0) (w.heap.size) (some ⟨bl, ol, none⟩) nl xsl ∧ RowIn .i64 wz (w2.heap.size + 0) (w3.heap.size) (some ⟨be, oe, none⟩) me ye ∧ Below w.heap.size w wz ∧ w21.heap.size ≤ wz.heap.size)
        case main =>
          intro key
          have na_0 : w.heap.size ≤ w21.heap.size := by omega
          have nad_0 : w5.heap.size ≠ w21.heap.size := by omega
          have nrl_0 : w21.heap.size < 0 ∨ w.heap.size ≤ w21.heap.size := by omega
          have nre_0 : w21.heap.size < w2.heap.size + 0 ∨ w3.heap.size ≤ w21.heap.size := by omega
          go_region_held3 (fun w' => (∀ a, w'.cell? ⟨w5.heap.size, a, none⟩ = [.int .i64 (p0 : Int), .int .i64 (p1 : Int), .int .u64 (q0 : Int), .int .u64 (q1 : Int)][a]?) ∧ w'.cell? ⟨bl, ol + j, none⟩ = some (.int .u32 (v : Int))) (first | with_reducible exact ⟨kd_21, cL_21⟩ | (refine ⟨Blk.cell (t := 46) ?_, (Below.cell (p := ⟨bl, ol + j, none⟩) (B := w.heap.size) (w := w) ?_ hbL).trans CL.out⟩; all_goals repeat' (first | (with_reducible first | assumption | exact Below.refl _ _ | refine Blk.drewN ?_ _ | refine RowIn.drewN ?_ _ | refine below_drewN ?_ _ | refine Blk.drew ?_ | refine RowIn.drew ?_ | refine Below.drew ?_) | (with_reducible refine Blk.new' ?_ ?_ <;> first | (with_reducible rfl) | (simp; done)) | (with_reducible first | refine Blk.alloc ?_ _ | refine RowIn.alloc ?_ _ | refine Below.alloc ?_ ?_ _ | apply Blk.set' | apply Blk.far4 | apply RowIn.far4 | apply Below.far4 | apply Blk.far2 | apply RowIn.far2 | apply Below.far2 | apply Blk.far' | refine RowIn.far' ?_ ?_ _ | refine Below.far' ?_ ?_ _ | refine Blk.after ?_ bq | refine RowIn.belowS ?_ bq | refine Below.after ?_ bq ?_) | (exact (Eq.refl _ : (_ : List Value) = _)) | omega | go_size))) (
            (go_simp; go_at_call 26; refine (dlearn_c _ HPO.out hv32 HU.out).mono ?_; rintro e wq ⟨rfl, bq⟩
             have sq := bq.size
             try simp only [World.size_alloc, World.size_setCell, World.size_drew, size_drewN] at sq
             try (with_reducible (have zq1 := Blk.after (Blk.drew (Blk.new' (g := w21.heap.size) (t := 46) (l := [.int .i64 0, .int .i64 0, .int .u64 0, .int .u64 0]) rfl rfl)) bq); have kq1 := zq1.cell; have fq1 := zq1.frozen; have lq1 := zq1.lt)))
          all_goals
            refine gen_world (fun wz hwz => ?_)
            first
            | (generalize hg0 : wq.heap.size = gz; refine key gz wz ?_; subst hg0; subst hwz; refine ⟨?_, ?_, ?_, ?_, ?_, ?_, ?_⟩ <;> ((repeat' (first | (with_reducible first | assumption | exact Below.refl _ _ | refine Blk.drewN ?_ _ | refine RowIn.drewN ?_ _ | refine below_drewN ?_ _ | refine Blk.drew ?_ | refine RowIn.drew ?_ | refine Below.drew ?_) | (with_reducible refine Blk.new' ?_ ?_ <;> first | (with_reducible rfl) | (simp; done)) | (with_reducible first | refine Blk.alloc ?_ _ | refine RowIn.alloc ?_ _ | refine Below.alloc ?_ ?_ _ | apply Blk.set' | apply Blk.far4 | apply RowIn.far4 | apply Below.far4 | apply Blk.far2 | apply RowIn.far2 | apply Below.far2 | apply Blk.far' | refine RowIn.far' ?_ ?_ _ | refine Below.far' ?_ ?_ _ | refine Blk.after ?_ bq | refine RowIn.belowS ?_ bq | refine Below.after ?_ bq ?_) | (exact (Eq.refl _ : (_ : List Value) = _)) | omega | go_size)); done))
            | (generalize hg0 : w21.heap.size = gz; refine key gz wz ?_; subst hg0; subst hwz; refine ⟨?_, ?_, ?_, ?_, ?_, ?_, ?_⟩ <;> ((repeat' (first | (with_reducible first | assumption | exact Below.refl _ _ | refine Blk.drewN ?_ _ | refine RowIn.drewN ?_ _ | refine below_drewN ?_ _ | refine Blk.drew ?_ | refine RowIn.drew ?_ | refine Below.drew ?_) | (with_reducible refine Blk.new' ?_ ?_ <;> first | (with_reducible rfl) | (simp; done)) | (with_reducible first | refine Blk.alloc ?_ _ | refine RowIn.alloc ?_ _ | refine Below.alloc ?_ ?_ _ | apply Blk.set' | apply Blk.far4 | apply RowIn.far4 | apply Below.far4 | apply Blk.far2 | apply RowIn.far2 | apply Below.far2 | apply Blk.far' | refine RowIn.far' ?_ ?_ _ | refine Below.far' ?_ ?_ _ | refine Blk.after ?_ bq | refine RowIn.belowS ?_ bq | refine Below.after ?_ bq ?_) | (exact (Eq.refl _ : (_ : List Value) = _)) | omega | go_size)); done))
        case k =>
          intro gz w22 hF
          obtain ⟨zz0, hgz, zd_22, rl_22, re_22, bb_22, s22⟩ := hF
          clear zd_21 rl_21 re_21 bb_21 kd_21 fd_21 ld_21 cL_21
          have kd_22 := zd_22.cell; have fd_22 := zd_22.frozen; have ld_22 := zd_22.lt
          have zz_22 := zz0; have kz_22 := zz_22.cell; have fz_22 := zz_22.frozen; have lz_22 := zz_22.lt
          have c0_22 := RowIn.cellAt re_22 hjm HNE.out
          have hgdz : w5.heap.size ≠ gz := by omega
          go_wp2_with fail
          go_roundg (nl - (j + 1))
          case measure => omega
          case rel =>
            refine ⟨j + 1, z + x, u0, u1, v0, v1, by omega, by omega, by go_num, by go_num, HZ2, by omega, HP2, ?_, ?_, ?_, ?_⟩
            · first | (with_reducible exact Blk.drew (Blk.set4 zd_22)) | (with_reducible exact Blk.set4 zd_22) | exact Blk.set4 zd_22
            all_goals repeat' (first | (with_reducible first | assumption | exact Below.refl _ _ | refine Blk.drewN ?_ _ | refine RowIn.drewN ?_ _ | refine below_drewN ?_ _ | refine Blk.drew ?_ | refine RowIn.drew ?_ | refine Below.drew ?_) | (with_reducible refine Blk.new' ?_ ?_ <;> first | (with_reducible rfl) | (simp; done)) | (with_reducible first | refine Blk.alloc ?_ _ | refine RowIn.alloc ?_ _ | refine Below.alloc ?_ ?_ _ | apply Blk.set' | apply Blk.far' | refine RowIn.far' ?_ ?_ _ | refine Below.far' ?_ ?_ _) | (exact (Eq.refl _ : (_ : List Value) = _)) | omega | go_size)
    · obtain rfl : j = nl := by omega
      have g1 : ((z : Int) == (L : Int)) = true := beq_iff_eq.2 (by rw [HZ.out, HL.out])
      go_wp2_with fail
      go_wp2_with fail
      refine (alive12 _).mono ?_
      rintro e w21 ⟨rfl, b21⟩
      have s21 := b21.size
      try simp only [World.size_alloc, World.size_setCell, World.size_drew, size_drewN] at s21
      have bb_21 : Below w.heap.size w w21 := by
        repeat' (first | (with_reducible first | assumption | exact Below.refl _ _ | refine Blk.drewN ?_ _ | refine RowIn.drewN ?_ _ | refine below_drewN ?_ _ | refine Blk.drew ?_ | refine RowIn.drew ?_ | refine Below.drew ?_) | (with_reducible refine Blk.new' ?_ ?_ <;> first | (with_reducible rfl) | (simp; done)) | (with_reducible first | refine Blk.alloc ?_ _ | refine RowIn.alloc ?_ _ | refine Below.alloc ?_ ?_ _ | apply Blk.set' | apply Blk.far' | refine RowIn.far' ?_ ?_ _ | refine Below.far' ?_ ?_ _ | refine Blk.after ?_ b21 | refine RowIn.belowS ?_ b21 | refine Below.after ?_ b21 ?_) | (exact (Eq.refl _ : (_ : List Value) = _)) | omega | go_size)
      clear zd_20 rl_20 re_20 bb_20 kd_20 fd_20 ld_20 b21
      go_wp2
      go_ret
      refine ⟨rfl, ?_⟩
      repeat' (first | (with_reducible first | assumption | exact Below.refl _ _ | refine Blk.drewN ?_ _ | refine RowIn.drewN ?_ _ | refine below_drewN ?_ _ | refine Blk.drew ?_ | refine RowIn.drew ?_ | refine Below.drew ?_) | (with_reducible refine Blk.new' ?_ ?_ <;> first | (with_reducible rfl) | (simp; done)) | (with_reducible first | refine Blk.alloc ?_ _ | refine RowIn.alloc ?_ _ | refine Below.alloc ?_ ?_ _ | apply Blk.set' | apply Blk.far' | refine RowIn.far' ?_ ?_ _ | refine Below.far' ?_ ?_ _) | (exact (Eq.refl _ : (_ : List Value) = _)) | omega | go_size)


end Go.Proofs.Ytpohaikbbfochaa
