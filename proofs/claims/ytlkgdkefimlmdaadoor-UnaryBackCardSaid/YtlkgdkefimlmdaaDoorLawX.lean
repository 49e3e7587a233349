/-
  The walk of UnaryBack.
-/
import Derived.Test.YtlkgdkefimlmdaaDoorLawU
import Derived.Test.YtlkgdkefimlmdaaDoorUnaB
import Derived.Test.YtlkgdkefimlmdaaDoorRefD
namespace Go.Proofs.YtlkgdkefimlmdaaDoor
open Go.RowKit Cad Cad.Bit Cad.Code
set_option linter.unusedVariables false
set_option linter.unusedSimpArgs false

/-- The runs of numbers, one behind the other. -/
def runs (l : List Int) : List Bool := l.flatMap fun v => run v.toNat
theorem runs_append (a b : List Int) : runs (a ++ b) = runs a ++ runs b := by simp [runs]
theorem take_nth {xs : List Int} {j : Nat} (h : j < xs.length) : xs.take (j + 1) = xs.take j ++ [nth xs j] := by rw [List.take_succ_eq_append_getElem h, nth_eq h]
theorem runs_next {xs : List Int} {j : Nat} (h : j < xs.length) : runs (xs.take (j + 1)) = runs (xs.take j) ++ run (nth xs j).toNat := by rw [take_nth h, runs_append]; simp [runs]
theorem runs_split {xs : List Int} {j : Nat} (h : j < xs.length) : runs xs = runs (xs.take j) ++ (run (nth xs j).toNat ++ runs (xs.drop (j + 1))) := by
  conv => lhs; rw [← List.take_append_drop (j + 1) xs, runs_append, runs_next h, List.append_assoc]
theorem RowIn.pick {k : IntKind} {w : World} {lo hi : Nat} {A : Option Addr} {n : Nat} {xs : List Int} (h : RowIn k w lo hi A n xs) : ∃ lo', lo ≤ lo' ∧ lo' ≤ lo ∧ RowIn k w lo' hi A n xs := ⟨lo, Nat.le_refl _, Nat.le_refl _, h⟩
theorem have_of {P Q : Prop} (h : P) (k : P → Q) : Q := k h
theorem runLen_le (n : Nat) : 1 ≤ runLen n ∧ runLen n ≤ 48 := by unfold runLen; omega


set_option maxRecDepth 100000 in
set_option maxHeartbeats 1000000 in
theorem lawUnaryBack (w : World) (ht : Tab w) (Af : Option Addr) (nf cf : Nat) (Nf : Int) (xsf : List Int) (hAf : RowC .u8 w Af nf cf xsf) (hxf : Within 0 255 xsf) (hNf : -9223372036854775808 ≤ Nf ∧ Nf ≤ 9223372036854775807) (Al : Option Addr) (nl cl : Nat) (xs : List Int) (hAl : RowC .i64 w Al nl cl xs) (hxs : Within (-9223372036854775808) 9223372036854775807 xs) :
    Calls Tryd.prog 5 #[.agg #[.slice Af nf cf, .int .i64 Nf], .slice Al nl cl] w fun e w' => e = .returned (.bool true) ∧ Below w.heap.size w w' := by
  have haf := hAf.row
  have hcf := hAf.2
  have hrif := haf.rowIn
  have hti : RowIn .u8 w 0 w.heap.size (some ⟨0, 0, none⟩) 64 dbTab := ht.rowIn
  have hal := hAl.row
  have hcl := hAl.2
  have HXL := Lib.hid hal.len
  by_cases hvf : ¬ Valid xsf Nf
  · go_enter Tryd.func5, Tryd.ntmps5
    go_wp2_with fail
    refine (rcheck_bad Af nf cf Nf xsf _ (by exact haf.alloc _) hxf (by omega) hvf).mono ?_
    rintro e w1 ⟨rfl, b1⟩
    have s1 := b1.size
    try simp only [World.size_alloc, World.size_setCell, World.size_drew, size_drewN] at s1
    obtain ⟨zf_1, rf_1, rt_1, bb_1⟩ : Blk w1 (w.heap.size) 24 [.slice Af nf cf, .int .i64 Nf] ∧ RowIn .u8 w1 (0) (w.heap.size) Af nf xsf ∧ RowIn .u8 w1 (0) (w.heap.size) (some ⟨0, 0, none⟩) 64 dbTab ∧ Below w.heap.size w w1 := by
      refine ⟨?_, ?_, ?_, ?_⟩
      all_goals repeat' (first | (with_reducible assumption) | (with_reducible exact Below.refl _ _) | (with_reducible refine Blk.after ?_ b1) | (with_reducible refine RowIn.belowS ?_ b1) | (with_reducible refine Below.after ?_ b1 ?_) | (with_reducible refine Blk.drewN ?_ _) | (with_reducible refine RowIn.drewN ?_ _) | (with_reducible refine below_drewN ?_ _) | (with_reducible refine Blk.drew ?_) | (with_reducible refine RowIn.drew ?_) | (with_reducible refine Below.drew ?_) | (with_reducible refine Blk.new' ?_ ?_ <;> first | (with_reducible rfl) | (simp; done)) | (with_reducible refine Blk.alloc ?_ _) | (with_reducible refine RowIn.alloc ?_ _) | (with_reducible refine Below.alloc ?_ ?_ _) | (with_reducible apply Blk.set') | (with_reducible apply Blk.far') | (with_reducible refine RowIn.far' ?_ ?_ _) | (with_reducible refine Below.far' ?_ ?_ _) | rfl | omega | go_size)
    clear b1
    have kf_1 := zf_1.cell; have ff_1 := zf_1.frozen; have lf_1 := zf_1.lt
    go_wp2_with fail
    refine (alive06 _).mono ?_
    rintro e w2 ⟨rfl, b2⟩
    have s2 := b2.size
    try simp only [World.size_alloc, World.size_setCell, World.size_drew, size_drewN] at s2
    have bb_2 : Below w.heap.size w w2 := by
      repeat' (first | (with_reducible assumption) | (with_reducible exact Below.refl _ _) | (with_reducible refine Blk.after ?_ b2) | (with_reducible refine RowIn.belowS ?_ b2) | (with_reducible refine Below.after ?_ b2 ?_) | (with_reducible refine Blk.drewN ?_ _) | (with_reducible refine RowIn.drewN ?_ _) | (with_reducible refine below_drewN ?_ _) | (with_reducible refine Blk.drew ?_) | (with_reducible refine RowIn.drew ?_) | (with_reducible refine Below.drew ?_) | (with_reducible refine Blk.new' ?_ ?_ <;> first | (with_reducible rfl) | (simp; done)) | (with_reducible refine Blk.alloc ?_ _) | (with_reducible refine RowIn.alloc ?_ _) | (with_reducible refine Below.alloc ?_ ?_ _) | (with_reducible apply Blk.set') | (with_reducible apply Blk.far') | (with_reducible refine RowIn.far' ?_ ?_ _) | (with_reducible refine Below.far' ?_ ?_ _) | rfl | omega | go_size)
    clear zf_1 rf_1 rt_1 bb_1 kf_1 ff_1 lf_1 b2
    go_wp2
    go_ret
    refine ⟨rfl, ?_⟩
    repeat' (first | (with_reducible assumption) | (with_reducible exact Below.refl _ _) | (with_reducible refine Blk.drewN ?_ _) | (with_reducible refine RowIn.drewN ?_ _) | (with_reducible refine below_drewN ?_ _) | (with_reducible refine Blk.drew ?_) | (with_reducible refine RowIn.drew ?_) | (with_reducible refine Below.drew ?_) | (with_reducible refine Blk.new' ?_ ?_ <;> first | (with_reducible rfl) | (simp; done)) | (with_reducible refine Blk.alloc ?_ _) | (with_reducible refine RowIn.alloc ?_ _) | (with_reducible refine Below.alloc ?_ ?_ _) | (with_reducible apply Blk.set') | (with_reducible apply Blk.far') | (with_reducible refine RowIn.far' ?_ ?_ _) | (with_reducible refine Below.far' ?_ ?_ _) | rfl | omega | go_size)
  obtain ⟨xf, rfl, rfl, hlf⟩ := valid_bits hxf (Decidable.not_not.1 hvf)
  clear hvf
  by_cases h1 : 500 < xf.length
  · go_enter Tryd.func5, Tryd.ntmps5
    go_wp2_with fail
    refine (rcheck_ok Af nf cf xf _ (by exact haf.alloc _) (by omega) hlf).mono ?_
    rintro e w1 ⟨rfl, b1⟩
    have s1 := b1.size
    try simp only [World.size_alloc, World.size_setCell, World.size_drew, size_drewN] at s1
    obtain ⟨zf_1, rf_1, rt_1, bb_1⟩ : Blk w1 (w.heap.size) 24 [.slice Af nf cf, .int .i64 ((xf.length : Nat) : Int)] ∧ RowIn .u8 w1 (0) (w.heap.size) Af nf (pack xf) ∧ RowIn .u8 w1 (0) (w.heap.size) (some ⟨0, 0, none⟩) 64 dbTab ∧ Below w.heap.size w w1 := by
      refine ⟨?_, ?_, ?_, ?_⟩
      all_goals repeat' (first | (with_reducible assumption) | (with_reducible exact Below.refl _ _) | (with_reducible refine Blk.after ?_ b1) | (with_reducible refine RowIn.belowS ?_ b1) | (with_reducible refine Below.after ?_ b1 ?_) | (with_reducible refine Blk.drewN ?_ _) | (with_reducible refine RowIn.drewN ?_ _) | (with_reducible refine below_drewN ?_ _) | (with_reducible refine Blk.drew ?_) | (with_reducible refine RowIn.drew ?_) | (with_reducible refine Below.drew ?_) | (with_reducible refine Blk.new' ?_ ?_ <;> first | (with_reducible rfl) | (simp; done)) | (with_reducible refine Blk.alloc ?_ _) | (with_reducible refine RowIn.alloc ?_ _) | (with_reducible refine Below.alloc ?_ ?_ _) | (with_reducible apply Blk.set') | (with_reducible apply Blk.far') | (with_reducible refine RowIn.far' ?_ ?_ _) | (with_reducible refine Below.far' ?_ ?_ _) | rfl | omega | go_size)
    clear b1
    have kf_1 := zf_1.cell; have ff_1 := zf_1.frozen; have lf_1 := zf_1.lt
    go_wp2_with fail
    refine (alive06 _).mono ?_
    rintro e w2 ⟨rfl, b2⟩
    have s2 := b2.size
    try simp only [World.size_alloc, World.size_setCell, World.size_drew, size_drewN] at s2
    have bb_2 : Below w.heap.size w w2 := by
      repeat' (first | (with_reducible assumption) | (with_reducible exact Below.refl _ _) | (with_reducible refine Blk.after ?_ b2) | (with_reducible refine RowIn.belowS ?_ b2) | (with_reducible refine Below.after ?_ b2 ?_) | (with_reducible refine Blk.drewN ?_ _) | (with_reducible refine RowIn.drewN ?_ _) | (with_reducible refine below_drewN ?_ _) | (with_reducible refine Blk.drew ?_) | (with_reducible refine RowIn.drew ?_) | (with_reducible refine Below.drew ?_) | (with_reducible refine Blk.new' ?_ ?_ <;> first | (with_reducible rfl) | (simp; done)) | (with_reducible refine Blk.alloc ?_ _) | (with_reducible refine RowIn.alloc ?_ _) | (with_reducible refine Below.alloc ?_ ?_ _) | (with_reducible apply Blk.set') | (with_reducible apply Blk.far') | (with_reducible refine RowIn.far' ?_ ?_ _) | (with_reducible refine Below.far' ?_ ?_ _) | rfl | omega | go_size)
    clear zf_1 rf_1 rt_1 bb_1 kf_1 ff_1 lf_1 b2
    go_wp2
    go_ret
    refine ⟨rfl, ?_⟩
    repeat' (first | (with_reducible assumption) | (with_reducible exact Below.refl _ _) | (with_reducible refine Blk.drewN ?_ _) | (with_reducible refine RowIn.drewN ?_ _) | (with_reducible refine below_drewN ?_ _) | (with_reducible refine Blk.drew ?_) | (with_reducible refine RowIn.drew ?_) | (with_reducible refine Below.drew ?_) | (with_reducible refine Blk.new' ?_ ?_ <;> first | (with_reducible rfl) | (simp; done)) | (with_reducible refine Blk.alloc ?_ _) | (with_reducible refine RowIn.alloc ?_ _) | (with_reducible refine Below.alloc ?_ ?_ _) | (with_reducible apply Blk.set') | (with_reducible apply Blk.far') | (with_reducible refine RowIn.far' ?_ ?_ _) | (with_reducible refine Below.far' ?_ ?_ _) | rfl | omega | go_size)
  by_cases h2 : 20 < nl
  · go_enter Tryd.func5, Tryd.ntmps5
    go_wp2_with fail
    refine (rcheck_ok Af nf cf xf _ (by exact haf.alloc _) (by omega) hlf).mono ?_
    rintro e w1 ⟨rfl, b1⟩
    have s1 := b1.size
    try simp only [World.size_alloc, World.size_setCell, World.size_drew, size_drewN] at s1
    obtain ⟨zf_1, rf_1, rt_1, bb_1⟩ : Blk w1 (w.heap.size) 24 [.slice Af nf cf, .int .i64 ((xf.length : Nat) : Int)] ∧ RowIn .u8 w1 (0) (w.heap.size) Af nf (pack xf) ∧ RowIn .u8 w1 (0) (w.heap.size) (some ⟨0, 0, none⟩) 64 dbTab ∧ Below w.heap.size w w1 := by
      refine ⟨?_, ?_, ?_, ?_⟩
      all_goals repeat' (first | (with_reducible assumption) | (with_reducible exact Below.refl _ _) | (with_reducible refine Blk.after ?_ b1) | (with_reducible refine RowIn.belowS ?_ b1) | (with_reducible refine Below.after ?_ b1 ?_) | (with_reducible refine Blk.drewN ?_ _) | (with_reducible refine RowIn.drewN ?_ _) | (with_reducible refine below_drewN ?_ _) | (with_reducible refine Blk.drew ?_) | (with_reducible refine RowIn.drew ?_) | (with_reducible refine Below.drew ?_) | (with_reducible refine Blk.new' ?_ ?_ <;> first | (with_reducible rfl) | (simp; done)) | (with_reducible refine Blk.alloc ?_ _) | (with_reducible refine RowIn.alloc ?_ _) | (with_reducible refine Below.alloc ?_ ?_ _) | (with_reducible apply Blk.set') | (with_reducible apply Blk.far') | (with_reducible refine RowIn.far' ?_ ?_ _) | (with_reducible refine Below.far' ?_ ?_ _) | rfl | omega | go_size)
    clear b1
    have kf_1 := zf_1.cell; have ff_1 := zf_1.frozen; have lf_1 := zf_1.lt
    go_wp2_with fail
    refine (alive06 _).mono ?_
    rintro e w2 ⟨rfl, b2⟩
    have s2 := b2.size
    try simp only [World.size_alloc, World.size_setCell, World.size_drew, size_drewN] at s2
    have bb_2 : Below w.heap.size w w2 := by
      repeat' (first | (with_reducible assumption) | (with_reducible exact Below.refl _ _) | (with_reducible refine Blk.after ?_ b2) | (with_reducible refine RowIn.belowS ?_ b2) | (with_reducible refine Below.after ?_ b2 ?_) | (with_reducible refine Blk.drewN ?_ _) | (with_reducible refine RowIn.drewN ?_ _) | (with_reducible refine below_drewN ?_ _) | (with_reducible refine Blk.drew ?_) | (with_reducible refine RowIn.drew ?_) | (with_reducible refine Below.drew ?_) | (with_reducible refine Blk.new' ?_ ?_ <;> first | (with_reducible rfl) | (simp; done)) | (with_reducible refine Blk.alloc ?_ _) | (with_reducible refine RowIn.alloc ?_ _) | (with_reducible refine Below.alloc ?_ ?_ _) | (with_reducible apply Blk.set') | (with_reducible apply Blk.far') | (with_reducible refine RowIn.far' ?_ ?_ _) | (with_reducible refine Below.far' ?_ ?_ _) | rfl | omega | go_size)
    clear zf_1 rf_1 rt_1 bb_1 kf_1 ff_1 lf_1 b2
    go_wp2
    go_ret
    refine ⟨rfl, ?_⟩
    repeat' (first | (with_reducible assumption) | (with_reducible exact Below.refl _ _) | (with_reducible refine Blk.drewN ?_ _) | (with_reducible refine RowIn.drewN ?_ _) | (with_reducible refine below_drewN ?_ _) | (with_reducible refine Blk.drew ?_) | (with_reducible refine RowIn.drew ?_) | (with_reducible refine Below.drew ?_) | (with_reducible refine Blk.new' ?_ ?_ <;> first | (with_reducible rfl) | (simp; done)) | (with_reducible refine Blk.alloc ?_ _) | (with_reducible refine RowIn.alloc ?_ _) | (with_reducible refine Below.alloc ?_ ?_ _) | (with_reducible apply Blk.set') | (with_reducible apply Blk.far') | (with_reducible refine RowIn.far' ?_ ?_ _) | (with_reducible refine Below.far' ?_ ?_ _) | rfl | omega | go_size)
  have t1 : decide ((500 : Int) < (xf.length : Int)) = false := decide_eq_false (by omega)
  have t2 : decide ((20 : Int) < (nl : Int)) = false := decide_eq_false (by omega)
  have hx500 : xf.length ≤ 500 := by omega
  have hnl20 : nl ≤ 20 := by omega
  clear h1 h2
  go_enter Tryd.func5, Tryd.ntmps5
  go_wp2_with fail
  refine (rcheck_ok Af nf cf xf _ (by exact haf.alloc _) (by omega) hlf).mono ?_
  rintro e w1 ⟨rfl, b1⟩
  have s1 := b1.size
  try simp only [World.size_alloc, World.size_setCell, World.size_drew, size_drewN] at s1
  obtain ⟨zf_1, rf_1, rt_1, bb_1⟩ : Blk w1 (w.heap.size) 24 [.slice Af nf cf, .int .i64 ((xf.length : Nat) : Int)] ∧ RowIn .u8 w1 (0) (w.heap.size) Af nf (pack xf) ∧ RowIn .u8 w1 (0) (w.heap.size) (some ⟨0, 0, none⟩) 64 dbTab ∧ Below w.heap.size w w1 := by
    refine ⟨?_, ?_, ?_, ?_⟩
    all_goals repeat' (first | (with_reducible assumption) | (with_reducible exact Below.refl _ _) | (with_reducible refine Blk.after ?_ b1) | (with_reducible refine RowIn.belowS ?_ b1) | (with_reducible refine Below.after ?_ b1 ?_) | (with_reducible refine Blk.drewN ?_ _) | (with_reducible refine RowIn.drewN ?_ _) | (with_reducible refine below_drewN ?_ _) | (with_reducible refine Blk.drew ?_) | (with_reducible refine RowIn.drew ?_) | (with_reducible refine Below.drew ?_) | (with_reducible refine Blk.new' ?_ ?_ <;> first | (with_reducible rfl) | (simp; done)) | (with_reducible refine Blk.alloc ?_ _) | (with_reducible refine RowIn.alloc ?_ _) | (with_reducible refine Below.alloc ?_ ?_ _) | (with_reducible apply Blk.set') | (with_reducible apply Blk.far') | (with_reducible refine RowIn.far' ?_ ?_ _) | (with_reducible refine Below.far' ?_ ?_ _) | rfl | omega | go_size)
  clear b1
  have kf_1 := zf_1.cell; have ff_1 := zf_1.frozen; have lf_1 := zf_1.lt
  go_wp2_with fail
  go_loopg [6] nl (fun k v wr => ∃ (j : Nat) (B : Option Addr) (m c lo hi : Nat) (y : List Bool), j + k = nl ∧ v = .int .i64 (j : Nat) ∧ Hid (y = xf ++ runs (xs.take j)) ∧ y.length ≤ xf.length + 48 * j ∧ (m ≤ c ∧ c ≤ 9223372036854775807) ∧ Blk wr w.heap.size 24 [.slice Af nf cf, .int .i64 ((xf.length : Nat) : Int)] ∧ Blk wr w1.heap.size 24 [.slice B m c, .int .i64 ((y.length : Nat) : Int)] ∧ RowIn .u8 wr lo hi B m (pack y) ∧ (w1.heap.size < lo ∨ hi ≤ w1.heap.size) ∧ Below w.heap.size w wr ∧ Hid (∀ i, i < j → 0 ≤ nth xs i ∧ nth xs i ≤ 48) ∧ w1.heap.size ≤ wr.heap.size)
  case atStart =>
    refine ⟨0, Af, nf, cf, 0, w.heap.size, xf, by omega, rfl, Lib.hid (by simp [runs]), by omega, hcf, ?_, ?_, ?_, Or.inr (by omega), ?_, Lib.hid (fun i h => absurd h (by omega)), by simp⟩
    all_goals repeat' (first | (with_reducible assumption) | (with_reducible exact Below.refl _ _) | (with_reducible refine Blk.drewN ?_ _) | (with_reducible refine RowIn.drewN ?_ _) | (with_reducible refine below_drewN ?_ _) | (with_reducible refine Blk.drew ?_) | (with_reducible refine RowIn.drew ?_) | (with_reducible refine Below.drew ?_) | (with_reducible refine Blk.new' ?_ ?_ <;> first | (with_reducible rfl) | (simp; done)) | (with_reducible refine Blk.alloc ?_ _) | (with_reducible refine RowIn.alloc ?_ _) | (with_reducible refine Below.alloc ?_ ?_ _) | (with_reducible apply Blk.set') | (with_reducible apply Blk.far') | (with_reducible refine RowIn.far' ?_ ?_ _) | (with_reducible refine Below.far' ?_ ?_ _) | rfl | omega | go_size)
  case round =>
    obtain ⟨j, B, m, c, lo, hi, y, hj, rfl, HY, hyl, hcy, zf, zb, ry, hlo, bb, HALL, sw⟩ := hrel
    clear zf_1 kf_1 ff_1 lf_1 rf_1 rt_1 bb_1
    have s5 := bb.size
    have kf := zf.cell; have ff := zf.frozen; have lf := zf.lt; have kb := zb.cell; have fb := zb.frozen; have lb := zb.lt
    have rf : RowIn .u8 wr 0 w.heap.size Af nf (pack xf) := hrif.below bb (Nat.le_refl _)
    have rt : RowIn .u8 wr 0 w.heap.size (some ⟨0, 0, none⟩) 64 dbTab := hti.below bb (Nat.le_refl _)
    by_cases hlt : j < nl
    · obtain ⟨bl, ol, rfl, hbl, hcell⟩ := hal.at (by omega)
      obtain ⟨v, hv⟩ : ∃ v, nth xs j = v := ⟨_, rfl⟩
      have c0 : w.cell? ⟨bl, ol + j, none⟩ = some (.int .i64 v) := by rw [hcell j hlt, hv]
      have HV := Lib.hid hv
      have c1 : wr.cell? ⟨bl, ol + j, none⟩ = some (.int .i64 v) := (bb.cell (p := ⟨bl, ol + j, none⟩) hbl).trans c0
      have C0 := Lib.hid c0
      have hbl1 : bl < wr.heap.size := by omega
      clear hcell hv c0
      by_cases hv0 : v < 0
      · go_wp2_with fail
        refine (alive06 _).mono ?_
        rintro e w2 ⟨rfl, b2⟩
        have s2 := b2.size
        try simp only [World.size_alloc, World.size_setCell, World.size_drew, size_drewN] at s2
        have bb_2 : Below w.heap.size w w2 := by
          repeat' (first | (with_reducible assumption) | (with_reducible exact Below.refl _ _) | (with_reducible refine Blk.after ?_ b2) | (with_reducible refine RowIn.belowS ?_ b2) | (with_reducible refine Below.after ?_ b2 ?_) | (with_reducible refine Blk.drewN ?_ _) | (with_reducible refine RowIn.drewN ?_ _) | (with_reducible refine below_drewN ?_ _) | (with_reducible refine Blk.drew ?_) | (with_reducible refine RowIn.drew ?_) | (with_reducible refine Below.drew ?_) | (with_reducible refine Blk.new' ?_ ?_ <;> first | (with_reducible rfl) | (simp; done)) | (with_reducible refine Blk.alloc ?_ _) | (with_reducible refine RowIn.alloc ?_ _) | (with_reducible refine Below.alloc ?_ ?_ _) | (with_reducible apply Blk.set') | (with_reducible apply Blk.far') | (with_reducible refine RowIn.far' ?_ ?_ _) | (with_reducible refine Below.far' ?_ ?_ _) | rfl | omega | go_size)
        clear b2
        go_wp2
        go_ret
        refine ⟨rfl, ?_⟩
        repeat' (first | (with_reducible assumption) | (with_reducible exact Below.refl _ _) | (with_reducible refine Blk.drewN ?_ _) | (with_reducible refine RowIn.drewN ?_ _) | (with_reducible refine below_drewN ?_ _) | (with_reducible refine Blk.drew ?_) | (with_reducible refine RowIn.drew ?_) | (with_reducible refine Below.drew ?_) | (with_reducible refine Blk.new' ?_ ?_ <;> first | (with_reducible rfl) | (simp; done)) | (with_reducible refine Blk.alloc ?_ _) | (with_reducible refine RowIn.alloc ?_ _) | (with_reducible refine Below.alloc ?_ ?_ _) | (with_reducible apply Blk.set') | (with_reducible apply Blk.far') | (with_reducible refine RowIn.far' ?_ ?_ _) | (with_reducible refine Below.far' ?_ ?_ _) | rfl | omega | go_size)
      by_cases hv1 : 48 < v
      · go_wp2_with fail
        refine (alive06 _).mono ?_
        rintro e w2 ⟨rfl, b2⟩
        have s2 := b2.size
        try simp only [World.size_alloc, World.size_setCell, World.size_drew, size_drewN] at s2
        have bb_2 : Below w.heap.size w w2 := by
          repeat' (first | (with_reducible assumption) | (with_reducible exact Below.refl _ _) | (with_reducible refine Blk.after ?_ b2) | (with_reducible refine RowIn.belowS ?_ b2) | (with_reducible refine Below.after ?_ b2 ?_) | (with_reducible refine Blk.drewN ?_ _) | (with_reducible refine RowIn.drewN ?_ _) | (with_reducible refine below_drewN ?_ _) | (with_reducible refine Blk.drew ?_) | (with_reducible refine RowIn.drew ?_) | (with_reducible refine Below.drew ?_) | (with_reducible refine Blk.new' ?_ ?_ <;> first | (with_reducible rfl) | (simp; done)) | (with_reducible refine Blk.alloc ?_ _) | (with_reducible refine RowIn.alloc ?_ _) | (with_reducible refine Below.alloc ?_ ?_ _) | (with_reducible apply Blk.set') | (with_reducible apply Blk.far') | (with_reducible refine RowIn.far' ?_ ?_ _) | (with_reducible refine Below.far' ?_ ?_ _) | rfl | omega | go_size)
        clear b2
        go_wp2
        go_ret
        refine ⟨rfl, ?_⟩
        repeat' (first | (with_reducible assumption) | (with_reducible exact Below.refl _ _) | (with_reducible refine Blk.drewN ?_ _) | (with_reducible refine RowIn.drewN ?_ _) | (with_reducible refine below_drewN ?_ _) | (with_reducible refine Blk.drew ?_) | (with_reducible refine RowIn.drew ?_) | (with_reducible refine Below.drew ?_) | (with_reducible refine Blk.new' ?_ ?_ <;> first | (with_reducible rfl) | (simp; done)) | (with_reducible refine Blk.alloc ?_ _) | (with_reducible refine RowIn.alloc ?_ _) | (with_reducible refine Below.alloc ?_ ?_ _) | (with_reducible apply Blk.set') | (with_reducible apply Blk.far') | (with_reducible refine RowIn.far' ?_ ?_ _) | (with_reducible refine Below.far' ?_ ?_ _) | rfl | omega | go_size)
      have hv48 : 0 ≤ v ∧ v ≤ 48 := by omega
      obtain ⟨hv48a, hv48b⟩ := hv48
      have hrl := runLen_le v.toNat
      obtain ⟨hrl1, hrl2⟩ := hrl
      go_wp2_with fail
      go_region_law (go_simp; go_at_call 12
                     refine (uwrite_ok B m c y v _ (by first | exact ry.row | exact (ry.alloc _).row) hcy (by omega) (by omega)).mono ?_
                     rintro e w10 ⟨Ax, mx, cx, xx, rfl, hcx, rx, HXx, b10⟩
                     first | (have zq := Blk.after (Blk.drew (Blk.new' (g := wr.heap.size) (t := 24) (l := [.slice none 0 0, .int .i64 0]) rfl rfl)) b10; have kq := zq.cell; have fq := zq.frozen; have lq := zq.lt) | skip)
      all_goals
        have Lx : xx.length ≤ y.length + runLen v.toNat ∧ y.length + runLen v.toNat ≤ xx.length := by rw [HXx.out]; rw [List.length_append, run_len (by omega)]; omega
        obtain ⟨Lx1, Lx2⟩ := Lx
        obtain ⟨lox, hlox1, hlox2, rx⟩ := RowIn.pick rx
        try simp only [World.size_alloc, World.size_drew, size_drewN] at hlox1
        try simp only [World.size_alloc, World.size_drew, size_drewN] at hlox2
        have s10 := b10.size
        try simp only [World.size_alloc, World.size_setCell, World.size_drew, size_drewN] at s10
        obtain ⟨zf_10, zb_10, rf_10, rt_10, ry_10, rx_10, bb_10⟩ : Blk w10 (w.heap.size) 24 [.slice Af nf cf, .int .i64 ((xf.length : Nat) : Int)] ∧ Blk w10 (w1.heap.size) 24 [.slice B m c, .int .i64 ((y.length : Nat) : Int)] ∧ RowIn .u8 w10 (0) (w.heap.size) Af nf (pack xf) ∧ RowIn .u8 w10 (0) (w.heap.size) (some ⟨0, 0, none⟩) 64 dbTab ∧ RowIn .u8 w10 (lo) (hi) B m (pack y) ∧ RowIn .u8 w10 (lox) (w10.heap.size) Ax mx (pack xx) ∧ Below w.heap.size w w10 := by
          refine ⟨?_, ?_, ?_, ?_, ?_, ?_, ?_⟩
          all_goals repeat' (first | (with_reducible assumption) | (with_reducible exact Below.refl _ _) | (with_reducible refine Blk.after ?_ b10) | (with_reducible refine RowIn.belowS ?_ b10) | (with_reducible refine Below.after ?_ b10 ?_) | (with_reducible refine Blk.drewN ?_ _) | (with_reducible refine RowIn.drewN ?_ _) | (with_reducible refine below_drewN ?_ _) | (with_reducible refine Blk.drew ?_) | (with_reducible refine RowIn.drew ?_) | (with_reducible refine Below.drew ?_) | (with_reducible refine Blk.new' ?_ ?_ <;> first | (with_reducible rfl) | (simp; done)) | (with_reducible refine Blk.alloc ?_ _) | (with_reducible refine RowIn.alloc ?_ _) | (with_reducible refine Below.alloc ?_ ?_ _) | (with_reducible apply Blk.set') | (with_reducible apply Blk.far') | (with_reducible refine RowIn.far' ?_ ?_ _) | (with_reducible refine Below.far' ?_ ?_ _) | rfl | omega | go_size)
        clear b10
        have kf_10 := zf_10.cell; have ff_10 := zf_10.frozen; have lf_10 := zf_10.lt
        have kb_10 := zb_10.cell; have fb_10 := zb_10.frozen; have lb_10 := zb_10.lt
        clear rx
        have c10 : w10.cell? ⟨bl, ol + j, none⟩ = some (.int .i64 v) := (bb_10.cell (p := ⟨bl, ol + j, none⟩) hbl).trans C0.out
        have hbl10 : bl < w10.heap.size := by omega
        go_wp2_with fail
        refine (ulen_ok v _ (by omega) (by omega)).mono ?_
        rintro e _ ⟨z, rfl, HZ, rfl⟩
        have hz48 : z ≤ 48 := by rw [HZ.out]; exact hrl2
        have t5 : (((xx.length : Nat) : Int) != ((y.length : Nat) : Int) + (z : Int)) = false := by rw [bne_eq_false_iff_eq]; have := HZ.out; omega
        have HXY : Hid (xx = xf ++ runs (xs.take (j + 1))) := by rw [HXx.out, HY.out, runs_next (by rw [HXL.out]; exact hlt), HV.out, List.append_assoc]; exact Lib.hid rfl
        have HALL2 : Hid (∀ i, i < j + 1 → 0 ≤ nth xs i ∧ nth xs i ≤ 48) := Lib.hid (fun i hi => by
          rcases Nat.lt_or_ge i j with h | h
          · exact HALL.out i h
          · rw [show i = j by omega, HV.out]; exact ⟨hv48a, hv48b⟩)
        clear HXx HY HALL HZ
        go_wp2
        go_roundg (nl - (j + 1))
        case measure => omega
        case rel =>
          refine ⟨j + 1, Ax, mx, cx, lox, w10.heap.size, xx, by omega, by go_num, HXY, by omega, hcx, ?_, ?_, ?_, Or.inl (by omega), ?_, HALL2, by go_size⟩
          all_goals repeat' (first | (with_reducible assumption) | (with_reducible exact Below.refl _ _) | (with_reducible refine Blk.drewN ?_ _) | (with_reducible refine RowIn.drewN ?_ _) | (with_reducible refine below_drewN ?_ _) | (with_reducible refine Blk.drew ?_) | (with_reducible refine RowIn.drew ?_) | (with_reducible refine Below.drew ?_) | (with_reducible refine Blk.new' ?_ ?_ <;> first | (with_reducible rfl) | (simp; done)) | (with_reducible refine Blk.alloc ?_ _) | (with_reducible refine RowIn.alloc ?_ _) | (with_reducible refine Below.alloc ?_ ?_ _) | (with_reducible apply Blk.set') | (with_reducible apply Blk.far') | (with_reducible refine RowIn.far' ?_ ?_ _) | (with_reducible refine Below.far' ?_ ?_ _) | rfl | omega | go_size)
    · have hjn : j = nl := by omega
      have HYY : Hid (y = xf ++ runs xs) := by rw [HY.out, hjn, ← HXL.out, List.take_length]; exact Lib.hid rfl
      have HALL2 : Hid (∀ i, i < nl → 0 ≤ nth xs i ∧ nth xs i ≤ 48) := by rw [← hjn]; exact HALL
      clear hjn HY HALL
      obtain ⟨w20, hw20⟩ : ∃ w20, w20 = wr := ⟨_, rfl⟩
      subst hw20
      go_wp2_with fail
      go_loopg [12, 13] nl (fun k v12 v13 wr => ∃ (i a : Nat), i + k = nl ∧ v13 = .int .i64 (i : Nat) ∧ v12 = .int .i64 (a : Nat) ∧ Hid (a = xf.length + (runs (xs.take i)).length) ∧ a ≤ y.length ∧ Below w20.heap.size w20 wr)
      case atStart => exact ⟨0, xf.length, by omega, rfl, rfl, Lib.hid (by simp [runs]), by rw [HYY.out, List.length_append]; omega, Below.refl _ _⟩
      case round =>
        obtain ⟨i, a, hi2, rfl, rfl, HA, hay, b30⟩ := hrel
        have s30 := b30.size
        try simp only [World.size_alloc, World.size_setCell, World.size_drew, size_drewN] at s30
        obtain ⟨zf_30, zb_30, rf_30, rt_30, ry_30, bb_30⟩ : Blk wr (w.heap.size) 24 [.slice Af nf cf, .int .i64 ((xf.length : Nat) : Int)] ∧ Blk wr (w1.heap.size) 24 [.slice B m c, .int .i64 ((y.length : Nat) : Int)] ∧ RowIn .u8 wr (0) (w.heap.size) Af nf (pack xf) ∧ RowIn .u8 wr (0) (w.heap.size) (some ⟨0, 0, none⟩) 64 dbTab ∧ RowIn .u8 wr (lo) (hi) B m (pack y) ∧ Below w.heap.size w wr := by
          refine ⟨?_, ?_, ?_, ?_, ?_, ?_⟩
          all_goals repeat' (first | (with_reducible assumption) | (with_reducible exact Below.refl _ _) | (with_reducible refine Blk.after ?_ b30) | (with_reducible refine RowIn.belowS ?_ b30) | (with_reducible refine Below.after ?_ b30 ?_) | (with_reducible refine Blk.drewN ?_ _) | (with_reducible refine RowIn.drewN ?_ _) | (with_reducible refine below_drewN ?_ _) | (with_reducible refine Blk.drew ?_) | (with_reducible refine RowIn.drew ?_) | (with_reducible refine Below.drew ?_) | (with_reducible refine Blk.new' ?_ ?_ <;> first | (with_reducible rfl) | (simp; done)) | (with_reducible refine Blk.alloc ?_ _) | (with_reducible refine RowIn.alloc ?_ _) | (with_reducible refine Below.alloc ?_ ?_ _) | (with_reducible apply Blk.set') | (with_reducible apply Blk.far') | (with_reducible refine RowIn.far' ?_ ?_ _) | (with_reducible refine Below.far' ?_ ?_ _) | rfl | omega | go_size)
        have kf_30 := zf_30.cell; have ff_30 := zf_30.frozen; have lf_30 := zf_30.lt
        have kb_30 := zb_30.cell; have fb_30 := zb_30.frozen; have lb_30 := zb_30.lt
        by_cases hlt2 : i < nl
        · obtain ⟨bl, ol, rfl, hbl, hcell⟩ := hal.at (by omega)
          obtain ⟨v, hv⟩ : ∃ v, nth xs i = v := ⟨_, rfl⟩
          have c0 : w.cell? ⟨bl, ol + i, none⟩ = some (.int .i64 v) := by rw [hcell i hlt2, hv]
          have C0 := Lib.hid c0
          have HV := Lib.hid hv
          have hv48 := HALL2.out i hlt2
          rw [hv] at hv48
          obtain ⟨hv48a, hv48b⟩ := hv48
          clear hcell hv c0
          obtain ⟨v, rfl⟩ := Int.eq_ofNat_of_zero_le hv48a
          have HRD : Hid (readU (y.drop ((a : Int).toNat)) = .ok v (runLen v)) := by
            refine Lib.hid ?_
            rw [Int.toNat_natCast, HA.out, HYY.out, runs_split (xs := xs) (j := i) (by rw [HXL.out]; exact hlt2), HV.out, Int.toNat_natCast, ← List.length_append, ← List.append_assoc, List.drop_left]
            exact readU_run (by omega) _
          have hlen : a + runLen v ≤ y.length := by
            rw [HA.out, HYY.out, runs_split (xs := xs) (j := i) (by rw [HXL.out]; exact hlt2), HV.out, Int.toNat_natCast, List.length_append, List.length_append, List.length_append, run_len (by omega)]; omega
          obtain ⟨hrl1, hrl2⟩ := runLen_le v
          go_wp2_with fail
          refine (uread_ok B m c y (a : Nat) v (runLen v) _ ry_30.row hcy (by omega) (by omega) HRD.out rt_30.row).mono ?_
          rintro e w31 ⟨z, rfl, HZ, b31⟩
          have B31 := Below.after b30 b31 b30.size
          have s31 := b31.size
          try simp only [World.size_alloc, World.size_setCell, World.size_drew, size_drewN] at s31
          obtain ⟨zf_31, zb_31, rf_31, rt_31, ry_31, bb_31⟩ : Blk w31 (w.heap.size) 24 [.slice Af nf cf, .int .i64 ((xf.length : Nat) : Int)] ∧ Blk w31 (w1.heap.size) 24 [.slice B m c, .int .i64 ((y.length : Nat) : Int)] ∧ RowIn .u8 w31 (0) (w.heap.size) Af nf (pack xf) ∧ RowIn .u8 w31 (0) (w.heap.size) (some ⟨0, 0, none⟩) 64 dbTab ∧ RowIn .u8 w31 (lo) (hi) B m (pack y) ∧ Below w.heap.size w w31 := by
            refine ⟨?_, ?_, ?_, ?_, ?_, ?_⟩
            all_goals repeat' (first | (with_reducible assumption) | (with_reducible exact Below.refl _ _) | (with_reducible refine Blk.after ?_ b31) | (with_reducible refine RowIn.belowS ?_ b31) | (with_reducible refine Below.after ?_ b31 ?_) | (with_reducible refine Blk.drewN ?_ _) | (with_reducible refine RowIn.drewN ?_ _) | (with_reducible refine below_drewN ?_ _) | (with_reducible refine Blk.drew ?_) | (with_reducible refine RowIn.drew ?_) | (with_reducible refine Below.drew ?_) | (with_reducible refine Blk.new' ?_ ?_ <;> first | (with_reducible rfl) | (simp; done)) | (with_reducible refine Blk.alloc ?_ _) | (with_reducible refine RowIn.alloc ?_ _) | (with_reducible refine Below.alloc ?_ ?_ _) | (with_reducible apply Blk.set') | (with_reducible apply Blk.far') | (with_reducible refine RowIn.far' ?_ ?_ _) | (with_reducible refine Below.far' ?_ ?_ _) | rfl | omega | go_size)
          clear zf_30 zb_30 rf_30 rt_30 ry_30 bb_30 kf_30 ff_30 lf_30 kb_30 fb_30 lb_30 b31
          have kf_31 := zf_31.cell; have ff_31 := zf_31.frozen; have lf_31 := zf_31.lt
          have kb_31 := zb_31.cell; have fb_31 := zb_31.frozen; have lb_31 := zb_31.lt
          have hz1 : z ≤ a + runLen v ∧ a + runLen v ≤ z := by have := HZ.out; omega
          obtain ⟨hz1, hz2⟩ := hz1
          have HA2 : Hid (z = xf.length + (runs (xs.take (i + 1))).length) := by
            refine Lib.hid ?_
            rw [HZ.out, Int.toNat_natCast, HA.out, runs_next (by rw [HXL.out]; exact hlt2), HV.out, Int.toNat_natCast, List.length_append, run_len (by omega)]; omega
          have c31 : w31.cell? ⟨bl, ol + i, none⟩ = some (.int .i64 (v : Int)) := (bb_31.cell (p := ⟨bl, ol + i, none⟩) hbl).trans C0.out
          have b31 : Below w20.heap.size w20 w31 := B31
          clear HZ HA HRD
          go_wp2
          go_roundg (nl - (i + 1))
          case measure => omega
          case rel => exact ⟨i + 1, z, by omega, by go_num, by rfl, HA2, by omega, b31⟩
        · have hin : i = nl := by omega
          have hal2 : a = y.length := by rw [HA.out, HYY.out, hin, ← HXL.out, List.take_length, List.length_append]
          have t6 : ((a : Int) == ((y.length : Nat) : Int)) = true := beq_iff_eq.2 (by omega)
          have hxy : xf.length ≤ y.length := by rw [HYY.out, List.length_append]; omega
          clear hin hal2
          go_wp2_with fail
          refine (bcut_ok B m c y _ _ _ ry_30.row hcy (by omega) (by omega) (by omega) (by omega)).mono ?_
          rintro e w31 ⟨Ap, mp, cp, xp, rfl, hcp, rp, HXp, b31⟩
          have Lp : xp.length ≤ xf.length ∧ xf.length ≤ xp.length := by rw [HXp.out]; rw [List.length_take, List.length_drop]; omega
          obtain ⟨Lp1, Lp2⟩ := Lp
          replace rp := rp.mono (lo' := wr.heap.size + 0) (by go_size) (Nat.le_refl _)
          have s31 := b31.size
          try simp only [World.size_alloc, World.size_setCell, World.size_drew, size_drewN] at s31
          obtain ⟨zf_31, zb_31, rf_31, rt_31, ry_31, rp_31, bb_31⟩ : Blk w31 (w.heap.size) 24 [.slice Af nf cf, .int .i64 ((xf.length : Nat) : Int)] ∧ Blk w31 (w1.heap.size) 24 [.slice B m c, .int .i64 ((y.length : Nat) : Int)] ∧ RowIn .u8 w31 (0) (w.heap.size) Af nf (pack xf) ∧ RowIn .u8 w31 (0) (w.heap.size) (some ⟨0, 0, none⟩) 64 dbTab ∧ RowIn .u8 w31 (lo) (hi) B m (pack y) ∧ RowIn .u8 w31 (wr.heap.size + 0) (w31.heap.size) Ap mp (pack xp) ∧ Below w.heap.size w w31 := by
            refine ⟨?_, ?_, ?_, ?_, ?_, ?_, ?_⟩
            all_goals repeat' (first | (with_reducible assumption) | (with_reducible exact Below.refl _ _) | (with_reducible refine Blk.after ?_ b31) | (with_reducible refine RowIn.belowS ?_ b31) | (with_reducible refine Below.after ?_ b31 ?_) | (with_reducible refine Blk.drewN ?_ _) | (with_reducible refine RowIn.drewN ?_ _) | (with_reducible refine below_drewN ?_ _) | (with_reducible refine Blk.drew ?_) | (with_reducible refine RowIn.drew ?_) | (with_reducible refine Below.drew ?_) | (with_reducible refine Blk.new' ?_ ?_ <;> first | (with_reducible rfl) | (simp; done)) | (with_reducible refine Blk.alloc ?_ _) | (with_reducible refine RowIn.alloc ?_ _) | (with_reducible refine Below.alloc ?_ ?_ _) | (with_reducible apply Blk.set') | (with_reducible apply Blk.far') | (with_reducible refine RowIn.far' ?_ ?_ _) | (with_reducible refine Below.far' ?_ ?_ _) | rfl | omega | go_size)
          clear zf_30 zb_30 rf_30 rt_30 ry_30 bb_30 kf_30 ff_30 lf_30 kb_30 fb_30 lb_30 b31
          have kf_31 := zf_31.cell; have ff_31 := zf_31.frozen; have lf_31 := zf_31.lt
          have kb_31 := zb_31.cell; have fb_31 := zb_31.frozen; have lb_31 := zb_31.lt
          clear rp
          have HE : Hid (xp = xf) := by
            refine Lib.hid ?_
            rw [HXp.out, HYY.out, Int.toNat_natCast, show ((0 : Int).toNat) = 0 from rfl, List.drop_zero, Nat.sub_zero, List.take_left]
          go_wp2_with fail
          refine (rsame_bits Ap Af mp nf cp cf xp xf _ (by exact (rp_31.row.alloc _)) (by exact (rf_31.row.alloc _)) HE.out).mono ?_
          rintro e w32 ⟨rfl, b32⟩
          have s32 := b32.size
          try simp only [World.size_alloc, World.size_setCell, World.size_drew, size_drewN] at s32
          obtain ⟨zf_32, zb_32, zp_32, rf_32, rt_32, ry_32, rp_32, bb_32⟩ : Blk w32 (w.heap.size) 24 [.slice Af nf cf, .int .i64 ((xf.length : Nat) : Int)] ∧ Blk w32 (w1.heap.size) 24 [.slice B m c, .int .i64 ((y.length : Nat) : Int)] ∧ Blk w32 (w31.heap.size) 24 [.slice Ap mp cp, .int .i64 ((xp.length : Nat) : Int)] ∧ RowIn .u8 w32 (0) (w.heap.size) Af nf (pack xf) ∧ RowIn .u8 w32 (0) (w.heap.size) (some ⟨0, 0, none⟩) 64 dbTab ∧ RowIn .u8 w32 (lo) (hi) B m (pack y) ∧ RowIn .u8 w32 (wr.heap.size + 0) (w31.heap.size) Ap mp (pack xp) ∧ Below w.heap.size w w32 := by
            refine ⟨?_, ?_, ?_, ?_, ?_, ?_, ?_, ?_⟩
            all_goals repeat' (first | (with_reducible assumption) | (with_reducible exact Below.refl _ _) | (with_reducible refine Blk.after ?_ b32) | (with_reducible refine RowIn.belowS ?_ b32) | (with_reducible refine Below.after ?_ b32 ?_) | (with_reducible refine Blk.drewN ?_ _) | (with_reducible refine RowIn.drewN ?_ _) | (with_reducible refine below_drewN ?_ _) | (with_reducible refine Blk.drew ?_) | (with_reducible refine RowIn.drew ?_) | (with_reducible refine Below.drew ?_) | (with_reducible refine Blk.new' ?_ ?_ <;> first | (with_reducible rfl) | (simp; done)) | (with_reducible refine Blk.alloc ?_ _) | (with_reducible refine RowIn.alloc ?_ _) | (with_reducible refine Below.alloc ?_ ?_ _) | (with_reducible apply Blk.set') | (with_reducible apply Blk.far') | (with_reducible refine RowIn.far' ?_ ?_ _) | (with_reducible refine Below.far' ?_ ?_ _) | rfl | omega | go_size)
          clear zf_31 zb_31 rf_31 rt_31 ry_31 rp_31 bb_31 kf_31 ff_31 lf_31 kb_31 fb_31 lb_31 b32
          have kf_32 := zf_32.cell; have ff_32 := zf_32.frozen; have lf_32 := zf_32.lt
          have kb_32 := zb_32.cell; have fb_32 := zb_32.frozen; have lb_32 := zb_32.lt
          have kp_32 := zp_32.cell; have fp_32 := zp_32.frozen; have lp_32 := zp_32.lt
          go_wp2_with fail
          refine (alive06 _).mono ?_
          rintro e w33 ⟨rfl, b33⟩
          have s33 := b33.size
          try simp only [World.size_alloc, World.size_setCell, World.size_drew, size_drewN] at s33
          have bb_33 : Below w.heap.size w w33 := by
            repeat' (first | (with_reducible assumption) | (with_reducible exact Below.refl _ _) | (with_reducible refine Blk.after ?_ b33) | (with_reducible refine RowIn.belowS ?_ b33) | (with_reducible refine Below.after ?_ b33 ?_) | (with_reducible refine Blk.drewN ?_ _) | (with_reducible refine RowIn.drewN ?_ _) | (with_reducible refine below_drewN ?_ _) | (with_reducible refine Blk.drew ?_) | (with_reducible refine RowIn.drew ?_) | (with_reducible refine Below.drew ?_) | (with_reducible refine Blk.new' ?_ ?_ <;> first | (with_reducible rfl) | (simp; done)) | (with_reducible refine Blk.alloc ?_ _) | (with_reducible refine RowIn.alloc ?_ _) | (with_reducible refine Below.alloc ?_ ?_ _) | (with_reducible apply Blk.set') | (with_reducible apply Blk.far') | (with_reducible refine RowIn.far' ?_ ?_ _) | (with_reducible refine Below.far' ?_ ?_ _) | rfl | omega | go_size)
          clear zf_32 zb_32 zp_32 rf_32 rt_32 ry_32 rp_32 bb_32 kf_32 ff_32 lf_32 kb_32 fb_32 lb_32 kp_32 fp_32 lp_32 b33
          go_wp2
          go_ret
          refine ⟨rfl, ?_⟩
          repeat' (first | (with_reducible assumption) | (with_reducible exact Below.refl _ _) | (with_reducible refine Blk.drewN ?_ _) | (with_reducible refine RowIn.drewN ?_ _) | (with_reducible refine below_drewN ?_ _) | (with_reducible refine Blk.drew ?_) | (with_reducible refine RowIn.drew ?_) | (with_reducible refine Below.drew ?_) | (with_reducible refine Blk.new' ?_ ?_ <;> first | (with_reducible rfl) | (simp; done)) | (with_reducible refine Blk.alloc ?_ _) | (with_reducible refine RowIn.alloc ?_ _) | (with_reducible refine Below.alloc ?_ ?_ _) | (with_reducible apply Blk.set') | (with_reducible apply Blk.far') | (with_reducible refine RowIn.far' ?_ ?_ _) | (with_reducible refine Below.far' ?_ ?_ _) | rfl | omega | go_size)


end Go.Proofs.YtlkgdkefimlmdaaDoor
