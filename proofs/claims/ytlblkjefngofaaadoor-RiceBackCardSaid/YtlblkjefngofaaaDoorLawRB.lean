/-
  The walk of RiceBack.
-/
import Derived.Test.YtlblkjefngofaaaDoorLawR
import Derived.Test.YtlblkjefngofaaaDoorRiceB
import Derived.Test.YtlblkjefngofaaaDoorRefB
import Derived.Test.YtlblkjefngofaaaDoorRefD
import Derived.Test.YtlblkjefngofaaaDoorBitG
namespace Go.Proofs.YtlblkjefngofaaaDoor
open Go.RowKit Cad Cad.Bit Cad.Code
set_option linter.unusedVariables false
set_option linter.unusedSimpArgs false

theorem rlen_is (v k L : Nat) (w : World) (hk : k ≤ 24) (hv : v < 4294967296) (hL : L = riceLen v k) :
    Calls Tryd.prog 17 #[.int .u32 (v : Int), .int .i64 (k : Int)] w fun e w' => e = .returned (.tuple #[.int .i64 (L : Int), .int .i64 0]) ∧ w' = w := by
  refine (rlen_ok v k w hk hv).mono ?_
  rintro e w' ⟨y, rfl, HY, rfl⟩
  exact ⟨by rw [HY.out, hL], rfl⟩
/-- The code of the i-th number, with the i-th parameter; the codes of the first ones. -/
def riceAt (xs ys : List Int) (i : Nat) : List Bool := rice (nth xs i).toNat (nth ys i).toNat
def rices (xs ys : List Int) (j : Nat) : List Bool := (List.range j).flatMap (riceAt xs ys)
theorem rices_next (xs ys : List Int) (j : Nat) : rices xs ys (j + 1) = rices xs ys j ++ riceAt xs ys j := by
  unfold rices; rw [List.range_succ, List.flatMap_append]; simp
theorem rices_split (xs ys : List Int) (i : Nat) : ∀ n, i < n → ∃ r, rices xs ys n = rices xs ys i ++ (riceAt xs ys i ++ r) := by
  intro n
  induction n with
  | zero => intro h; omega
  | succ n ih =>
    intro h
    rcases Nat.lt_or_ge i n with h2 | h2
    · obtain ⟨r, hr⟩ := ih h2
      exact ⟨r ++ riceAt xs ys n, by rw [rices_next, hr, List.append_assoc, List.append_assoc]⟩
    · obtain rfl : i = n := by omega
      exact ⟨[], by rw [rices_next, List.append_nil]⟩
theorem RowIn.pick {k : IntKind} {w : World} {lo hi : Nat} {A : Option Addr} {n : Nat} {xs : List Int} (h : RowIn k w lo hi A n xs) : ∃ lo', lo ≤ lo' ∧ lo' ≤ lo ∧ RowIn k w lo' hi A n xs := ⟨lo, Nat.le_refl _, Nat.le_refl _, h⟩


set_option maxRecDepth 100000 in
set_option maxHeartbeats 16000000 in
theorem lawRiceBack (w : World) (ht : Tab w) (Af : Option Addr) (nf cf : Nat) (Nf : Int) (xsf : List Int) (hAf : RowC .u8 w Af nf cf xsf) (hxf : Within 0 255 xsf) (hNf : -9223372036854775808 ≤ Nf ∧ Nf ≤ 9223372036854775807) (Al : Option Addr) (nl cl : Nat) (xsl : List Int) (hAl : RowC .u32 w Al nl cl xsl) (hxl : Within 0 4294967295 xsl) (As : Option Addr) (ns cs : Nat) (xss : List Int) (hAs : RowC .i64 w As ns cs xss) (hxs : Within (-9223372036854775808) 9223372036854775807 xss) :
    Calls Tryd.prog 5 #[.agg #[.slice Af nf cf, .int .i64 Nf], .slice Al nl cl, .slice As ns cs] w fun e w' => e = .returned (.bool true) ∧ Below w.heap.size w w' := by
  have haf := hAf.row
  have hcf := hAf.2
  have hrif := haf.rowIn
  have hti : RowIn .u8 w 0 w.heap.size (some ⟨0, 0, none⟩) 64 dbTab := ht.rowIn
  have hal := hAl.row
  have hcl := hAl.2
  have has_ := hAs.row
  have hcs := hAs.2
  by_cases hvf : ¬ Valid xsf Nf
  · go_enter Tryd.func5, Tryd.ntmps5
    go_wp2_with fail
    refine (rcheck_bad Af nf cf Nf xsf _ (by exact RowIn.row (lo := 0) (hi := w.heap.size) (by repeat' (first | (with_reducible assumption) | (with_reducible exact Below.refl _ _) | (with_reducible refine Blk.drewN ?_ _) | (with_reducible refine RowIn.drewN ?_ _) | (with_reducible refine below_drewN ?_ _) | (with_reducible refine Blk.drew ?_) | (with_reducible refine RowIn.drew ?_) | (with_reducible refine Below.drew ?_) | (with_reducible refine Blk.new' ?_ ?_ <;> first | (with_reducible rfl) | (simp; done)) | (with_reducible refine Blk.alloc ?_ _) | (with_reducible refine RowIn.alloc ?_ _) | (with_reducible refine Below.alloc ?_ ?_ _) | (with_reducible apply Blk.set') | (with_reducible apply Blk.far') | (with_reducible refine RowIn.far' ?_ ?_ _) | (with_reducible refine Below.far' ?_ ?_ _) | rfl | omega | go_size))) hxf (by omega) hvf).mono ?_
    rintro e w1 ⟨rfl, b1⟩
    have s1 := b1.size
    try simp only [World.size_alloc, World.size_setCell, World.size_drew, size_drewN] at s1
    obtain ⟨zf_1, rf_1, rt_1, bb_1⟩ : Blk w1 (w.heap.size) 24 [.slice Af nf cf, .int .i64 Nf] ∧ RowIn .u8 w1 (0) (w.heap.size) Af nf xsf ∧ RowIn .u8 w1 (0) (w.heap.size) (some ⟨0, 0, none⟩) 64 dbTab ∧ Below w.heap.size w w1 := by
      refine ⟨?_, ?_, ?_, ?_⟩
      all_goals repeat' (first | (with_reducible assumption) | (with_reducible exact Below.refl _ _) | (with_reducible refine Blk.after ?_ b1) | (with_reducible refine RowIn.belowS ?_ b1) | (with_reducible refine Below.after ?_ b1 ?_) | (with_reducible refine Blk.drewN ?_ _) | (with_reducible refine RowIn.drewN ?_ _) | (with_reducible refine below_drewN ?_ _) | (with_reducible refine Blk.drew ?_) | (with_reducible refine RowIn.drew ?_) | (with_reducible refine Below.drew ?_) | (with_reducible refine Blk.new' ?_ ?_ <;> first | (with_reducible rfl) | (simp; done)) | (with_reducible refine Blk.alloc ?_ _) | (with_reducible refine RowIn.alloc ?_ _) | (with_reducible refine Below.alloc ?_ ?_ _) | (with_reducible apply Blk.set') | (with_reducible apply Blk.far') | (with_reducible refine RowIn.far' ?_ ?_ _) | (with_reducible refine Below.far' ?_ ?_ _) | rfl | omega | go_size)
    clear b1
    have kf_1 := zf_1.cell; have ff_1 := zf_1.frozen; have lf_1 := zf_1.lt
    go_wp2_with fail
    refine (alive07 _).mono ?_
    rintro e w2 ⟨rfl, b2⟩
    have s2 := b2.size
    try simp only [World.size_alloc, World.size_setCell, World.size_drew, size_drewN] at s2
    have bb_2 : Below w.heap.size w w2 := by
      repeat' (first | (with_reducible assumption) | (with_reducible exact Below.refl _ _) | (with_reducible refine Blk.after ?_ b2) | (with_reducible refine RowIn.belowS ?_ b2) | (with_reducible refine Below.after ?_ b2 ?_) | (with_reducible refine Blk.drewN ?_ _) | (with_reducible refine RowIn.drewN ?_ _) | (with_reducible refine below_drewN ?_ _) | (with_reducible refine Blk.drew ?_) | (with_reducible refine RowIn.drew ?_) | (with_reducible refine Below.drew ?_) | (with_reducible refine Blk.new' ?_ ?_ <;> first | (with_reducible rfl) | (simp; done)) | (with_reducible refine Blk.alloc ?_ _) | (with_reducible refine RowIn.alloc ?_ _) | (with_reducible refine Below.alloc ?_ ?_ _) | (with_reducible apply Blk.set') | (with_reducible apply Blk.far') | (with_reducible refine RowIn.far' ?_ ?_ _) | (with_reducible refine Below.far' ?_ ?_ _) | rfl | omega | go_size)
    clear zf_1 rf_1 rt_1 bb_1 kf_1 ff_1 lf_1 b2
    go_wp2
    go_ret
    refine ⟨rfl, ?_⟩
    repeat' (first | (with_reducible assumption) | (with_reducible exact Below.refl _ _) | (with_reducible refine Blk.drewN ?_ _) | (with_reducible refine RowIn.drewN ?_ _) | (with_reducible refine below_drewN ?_ _) | (with_reducible refine Blk.drew ?_) | (with_reducible refine RowIn.drew ?_) | (with_reducible refine Below.drew ?_) | (with_reducible refine Blk.new' ?_ ?_ <;> first | (with_reducible rfl) | (simp; done)) | (with_reducible refine Blk.alloc ?_ _) | (with_reducible refine RowIn.alloc ?_ _) | (with_reducible refine Below.alloc ?_ ?_ _) | (with_reducible apply Blk.set') | (with_reducible apply Blk.far') | (with_reducible refine RowIn.far' ?_ ?_ _) | (with_reducible refine Below.far' ?_ ?_ _) | rfl | omega | go_size)
  obtain ⟨xf, rfl, rfl, hlf⟩ := valid_bits hxf (Decidable.not_not.1 hvf)
  clear hvf
  by_cases h1 : 500 < xf.length
  · go_enter Tryd.func5, Tryd.ntmps5
    go_wp2_with fail
    refine (rcheck_ok Af nf cf xf _ (by exact RowIn.row (lo := 0) (hi := w.heap.size) (by repeat' (first | (with_reducible assumption) | (with_reducible exact Below.refl _ _) | (with_reducible refine Blk.drewN ?_ _) | (with_reducible refine RowIn.drewN ?_ _) | (with_reducible refine below_drewN ?_ _) | (with_reducible refine Blk.drew ?_) | (with_reducible refine RowIn.drew ?_) | (with_reducible refine Below.drew ?_) | (with_reducible refine Blk.new' ?_ ?_ <;> first | (with_reducible rfl) | (simp; done)) | (with_reducible refine Blk.alloc ?_ _) | (with_reducible refine RowIn.alloc ?_ _) | (with_reducible refine Below.alloc ?_ ?_ _) | (with_reducible apply Blk.set') | (with_reducible apply Blk.far') | (with_reducible refine RowIn.far' ?_ ?_ _) | (with_reducible refine Below.far' ?_ ?_ _) | rfl | omega | go_size))) (by omega) hlf).mono ?_
    rintro e w1 ⟨rfl, b1⟩
    have s1 := b1.size
    try simp only [World.size_alloc, World.size_setCell, World.size_drew, size_drewN] at s1
    obtain ⟨zf_1, rf_1, rt_1, bb_1⟩ : Blk w1 (w.heap.size) 24 [.slice Af nf cf, .int .i64 ((xf.length : Nat) : Int)] ∧ RowIn .u8 w1 (0) (w.heap.size) Af nf (pack xf) ∧ RowIn .u8 w1 (0) (w.heap.size) (some ⟨0, 0, none⟩) 64 dbTab ∧ Below w.heap.size w w1 := by
      refine ⟨?_, ?_, ?_, ?_⟩
      all_goals repeat' (first | (with_reducible assumption) | (with_reducible exact Below.refl _ _) | (with_reducible refine Blk.after ?_ b1) | (with_reducible refine RowIn.belowS ?_ b1) | (with_reducible refine Below.after ?_ b1 ?_) | (with_reducible refine Blk.drewN ?_ _) | (with_reducible refine RowIn.drewN ?_ _) | (with_reducible refine below_drewN ?_ _) | (with_reducible refine Blk.drew ?_) | (with_reducible refine RowIn.drew ?_) | (with_reducible refine Below.drew ?_) | (with_reducible refine Blk.new' ?_ ?_ <;> first | (with_reducible rfl) | (simp; done)) | (with_reducible refine Blk.alloc ?_ _) | (with_reducible refine RowIn.alloc ?_ _) | (with_reducible refine Below.alloc ?_ ?_ _) | (with_reducible apply Blk.set') | (with_reducible apply Blk.far') | (with_reducible refine RowIn.far' ?_ ?_ _) | (with_reducible refine Below.far' ?_ ?_ _) | rfl | omega | go_size)
    clear b1
    have kf_1 := zf_1.cell; have ff_1 := zf_1.frozen; have lf_1 := zf_1.lt
    go_wp2_with fail
    refine (alive07 _).mono ?_
    rintro e w2 ⟨rfl, b2⟩
    have s2 := b2.size
    try simp only [World.size_alloc, World.size_setCell, World.size_drew, size_drewN] at s2
    have bb_2 : Below w.heap.size w w2 := by
      repeat' (first | (with_reducible assumption) | (with_reducible exact Below.refl _ _) | (with_reducible refine Blk.after ?_ b2) | (with_reducible refine RowIn.belowS ?_ b2) | (with_reducible refine Below.after ?_ b2 ?_) | (with_reducible refine Blk.drewN ?_ _) | (with_reducible refine RowIn.drewN ?_ _) | (with_reducible refine below_drewN ?_ _) | (with_reducible refine Blk.drew ?_) | (with_reducible refine RowIn.drew ?_) | (with_reducible refine Below.drew ?_) | (with_reducible refine Blk.new' ?_ ?_ <;> first | (with_reducible rfl) | (simp; done)) | (with_reducible refine Blk.alloc ?_ _) | (with_reducible refine RowIn.alloc ?_ _) | (with_reducible refine Below.alloc ?_ ?_ _) | (with_reducible apply Blk.set') | (with_reducible apply Blk.far') | (with_reducible refine RowIn.far' ?_ ?_ _) | (with_reducible refine Below.far' ?_ ?_ _) | rfl | omega | go_size)
    clear zf_1 rf_1 rt_1 bb_1 kf_1 ff_1 lf_1 b2
    go_wp2
    go_ret
    refine ⟨rfl, ?_⟩
    repeat' (first | (with_reducible assumption) | (with_reducible exact Below.refl _ _) | (with_reducible refine Blk.drewN ?_ _) | (with_reducible refine RowIn.drewN ?_ _) | (with_reducible refine below_drewN ?_ _) | (with_reducible refine Blk.drew ?_) | (with_reducible refine RowIn.drew ?_) | (with_reducible refine Below.drew ?_) | (with_reducible refine Blk.new' ?_ ?_ <;> first | (with_reducible rfl) | (simp; done)) | (with_reducible refine Blk.alloc ?_ _) | (with_reducible refine RowIn.alloc ?_ _) | (with_reducible refine Below.alloc ?_ ?_ _) | (with_reducible apply Blk.set') | (with_reducible apply Blk.far') | (with_reducible refine RowIn.far' ?_ ?_ _) | (with_reducible refine Below.far' ?_ ?_ _) | rfl | omega | go_size)
  by_cases h2 : 12 < nl
  · go_enter Tryd.func5, Tryd.ntmps5
    go_wp2_with fail
    refine (rcheck_ok Af nf cf xf _ (by exact RowIn.row (lo := 0) (hi := w.heap.size) (by repeat' (first | (with_reducible assumption) | (with_reducible exact Below.refl _ _) | (with_reducible refine Blk.drewN ?_ _) | (with_reducible refine RowIn.drewN ?_ _) | (with_reducible refine below_drewN ?_ _) | (with_reducible refine Blk.drew ?_) | (with_reducible refine RowIn.drew ?_) | (with_reducible refine Below.drew ?_) | (with_reducible refine Blk.new' ?_ ?_ <;> first | (with_reducible rfl) | (simp; done)) | (with_reducible refine Blk.alloc ?_ _) | (with_reducible refine RowIn.alloc ?_ _) | (with_reducible refine Below.alloc ?_ ?_ _) | (with_reducible apply Blk.set') | (with_reducible apply Blk.far') | (with_reducible refine RowIn.far' ?_ ?_ _) | (with_reducible refine Below.far' ?_ ?_ _) | rfl | omega | go_size))) (by omega) hlf).mono ?_
    rintro e w1 ⟨rfl, b1⟩
    have s1 := b1.size
    try simp only [World.size_alloc, World.size_setCell, World.size_drew, size_drewN] at s1
    obtain ⟨zf_1, rf_1, rt_1, bb_1⟩ : Blk w1 (w.heap.size) 24 [.slice Af nf cf, .int .i64 ((xf.length : Nat) : Int)] ∧ RowIn .u8 w1 (0) (w.heap.size) Af nf (pack xf) ∧ RowIn .u8 w1 (0) (w.heap.size) (some ⟨0, 0, none⟩) 64 dbTab ∧ Below w.heap.size w w1 := by
      refine ⟨?_, ?_, ?_, ?_⟩
      all_goals repeat' (first | (with_reducible assumption) | (with_reducible exact Below.refl _ _) | (with_reducible refine Blk.after ?_ b1) | (with_reducible refine RowIn.belowS ?_ b1) | (with_reducible refine Below.after ?_ b1 ?_) | (with_reducible refine Blk.drewN ?_ _) | (with_reducible refine RowIn.drewN ?_ _) | (with_reducible refine below_drewN ?_ _) | (with_reducible refine Blk.drew ?_) | (with_reducible refine RowIn.drew ?_) | (with_reducible refine Below.drew ?_) | (with_reducible refine Blk.new' ?_ ?_ <;> first | (with_reducible rfl) | (simp; done)) | (with_reducible refine Blk.alloc ?_ _) | (with_reducible refine RowIn.alloc ?_ _) | (with_reducible refine Below.alloc ?_ ?_ _) | (with_reducible apply Blk.set') | (with_reducible apply Blk.far') | (with_reducible refine RowIn.far' ?_ ?_ _) | (with_reducible refine Below.far' ?_ ?_ _) | rfl | omega | go_size)
    clear b1
    have kf_1 := zf_1.cell; have ff_1 := zf_1.frozen; have lf_1 := zf_1.lt
    go_wp2_with fail
    refine (alive07 _).mono ?_
    rintro e w2 ⟨rfl, b2⟩
    have s2 := b2.size
    try simp only [World.size_alloc, World.size_setCell, World.size_drew, size_drewN] at s2
    have bb_2 : Below w.heap.size w w2 := by
      repeat' (first | (with_reducible assumption) | (with_reducible exact Below.refl _ _) | (with_reducible refine Blk.after ?_ b2) | (with_reducible refine RowIn.belowS ?_ b2) | (with_reducible refine Below.after ?_ b2 ?_) | (with_reducible refine Blk.drewN ?_ _) | (with_reducible refine RowIn.drewN ?_ _) | (with_reducible refine below_drewN ?_ _) | (with_reducible refine Blk.drew ?_) | (with_reducible refine RowIn.drew ?_) | (with_reducible refine Below.drew ?_) | (with_reducible refine Blk.new' ?_ ?_ <;> first | (with_reducible rfl) | (simp; done)) | (with_reducible refine Blk.alloc ?_ _) | (with_reducible refine RowIn.alloc ?_ _) | (with_reducible refine Below.alloc ?_ ?_ _) | (with_reducible apply Blk.set') | (with_reducible apply Blk.far') | (with_reducible refine RowIn.far' ?_ ?_ _) | (with_reducible refine Below.far' ?_ ?_ _) | rfl | omega | go_size)
    clear zf_1 rf_1 rt_1 bb_1 kf_1 ff_1 lf_1 b2
    go_wp2
    go_ret
    refine ⟨rfl, ?_⟩
    repeat' (first | (with_reducible assumption) | (with_reducible exact Below.refl _ _) | (with_reducible refine Blk.drewN ?_ _) | (with_reducible refine RowIn.drewN ?_ _) | (with_reducible refine below_drewN ?_ _) | (with_reducible refine Blk.drew ?_) | (with_reducible refine RowIn.drew ?_) | (with_reducible refine Below.drew ?_) | (with_reducible refine Blk.new' ?_ ?_ <;> first | (with_reducible rfl) | (simp; done)) | (with_reducible refine Blk.alloc ?_ _) | (with_reducible refine RowIn.alloc ?_ _) | (with_reducible refine Below.alloc ?_ ?_ _) | (with_reducible apply Blk.set') | (with_reducible apply Blk.far') | (with_reducible refine RowIn.far' ?_ ?_ _) | (with_reducible refine Below.far' ?_ ?_ _) | rfl | omega | go_size)
  by_cases h3 : ¬ ns = nl
  · have t3 : ((ns : Int) != (nl : Int)) = true := by simp; omega
    go_enter Tryd.func5, Tryd.ntmps5
    go_wp2_with fail
    refine (rcheck_ok Af nf cf xf _ (by exact RowIn.row (lo := 0) (hi := w.heap.size) (by repeat' (first | (with_reducible assumption) | (with_reducible exact Below.refl _ _) | (with_reducible refine Blk.drewN ?_ _) | (with_reducible refine RowIn.drewN ?_ _) | (with_reducible refine below_drewN ?_ _) | (with_reducible refine Blk.drew ?_) | (with_reducible refine RowIn.drew ?_) | (with_reducible refine Below.drew ?_) | (with_reducible refine Blk.new' ?_ ?_ <;> first | (with_reducible rfl) | (simp; done)) | (with_reducible refine Blk.alloc ?_ _) | (with_reducible refine RowIn.alloc ?_ _) | (with_reducible refine Below.alloc ?_ ?_ _) | (with_reducible apply Blk.set') | (with_reducible apply Blk.far') | (with_reducible refine RowIn.far' ?_ ?_ _) | (with_reducible refine Below.far' ?_ ?_ _) | rfl | omega | go_size))) (by omega) hlf).mono ?_
    rintro e w1 ⟨rfl, b1⟩
    have s1 := b1.size
    try simp only [World.size_alloc, World.size_setCell, World.size_drew, size_drewN] at s1
    obtain ⟨zf_1, rf_1, rt_1, bb_1⟩ : Blk w1 (w.heap.size) 24 [.slice Af nf cf, .int .i64 ((xf.length : Nat) : Int)] ∧ RowIn .u8 w1 (0) (w.heap.size) Af nf (pack xf) ∧ RowIn .u8 w1 (0) (w.heap.size) (some ⟨0, 0, none⟩) 64 dbTab ∧ Below w.heap.size w w1 := by
      refine ⟨?_, ?_, ?_, ?_⟩
      all_goals repeat' (first | (with_reducible assumption) | (with_reducible exact Below.refl _ _) | (with_reducible refine Blk.after ?_ b1) | (with_reducible refine RowIn.belowS ?_ b1) | (with_reducible refine Below.after ?_ b1 ?_) | (with_reducible refine Blk.drewN ?_ _) | (with_reducible refine RowIn.drewN ?_ _) | (with_reducible refine below_drewN ?_ _) | (with_reducible refine Blk.drew ?_) | (with_reducible refine RowIn.drew ?_) | (with_reducible refine Below.drew ?_) | (with_reducible refine Blk.new' ?_ ?_ <;> first | (with_reducible rfl) | (simp; done)) | (with_reducible refine Blk.alloc ?_ _) | (with_reducible refine RowIn.alloc ?_ _) | (with_reducible refine Below.alloc ?_ ?_ _) | (with_reducible apply Blk.set') | (with_reducible apply Blk.far') | (with_reducible refine RowIn.far' ?_ ?_ _) | (with_reducible refine Below.far' ?_ ?_ _) | rfl | omega | go_size)
    clear b1
    have kf_1 := zf_1.cell; have ff_1 := zf_1.frozen; have lf_1 := zf_1.lt
    go_wp2_with fail
    refine (alive07 _).mono ?_
    rintro e w2 ⟨rfl, b2⟩
    have s2 := b2.size
    try simp only [World.size_alloc, World.size_setCell, World.size_drew, size_drewN] at s2
    have bb_2 : Below w.heap.size w w2 := by
      repeat' (first | (with_reducible assumption) | (with_reducible exact Below.refl _ _) | (with_reducible refine Blk.after ?_ b2) | (with_reducible refine RowIn.belowS ?_ b2) | (with_reducible refine Below.after ?_ b2 ?_) | (with_reducible refine Blk.drewN ?_ _) | (with_reducible refine RowIn.drewN ?_ _) | (with_reducible refine below_drewN ?_ _) | (with_reducible refine Blk.drew ?_) | (with_reducible refine RowIn.drew ?_) | (with_reducible refine Below.drew ?_) | (with_reducible refine Blk.new' ?_ ?_ <;> first | (with_reducible rfl) | (simp; done)) | (with_reducible refine Blk.alloc ?_ _) | (with_reducible refine RowIn.alloc ?_ _) | (with_reducible refine Below.alloc ?_ ?_ _) | (with_reducible apply Blk.set') | (with_reducible apply Blk.far') | (with_reducible refine RowIn.far' ?_ ?_ _) | (with_reducible refine Below.far' ?_ ?_ _) | rfl | omega | go_size)
    clear zf_1 rf_1 rt_1 bb_1 kf_1 ff_1 lf_1 b2
    go_wp2
    go_ret
    refine ⟨rfl, ?_⟩
    repeat' (first | (with_reducible assumption) | (with_reducible exact Below.refl _ _) | (with_reducible refine Blk.drewN ?_ _) | (with_reducible refine RowIn.drewN ?_ _) | (with_reducible refine below_drewN ?_ _) | (with_reducible refine Blk.drew ?_) | (with_reducible refine RowIn.drew ?_) | (with_reducible refine Below.drew ?_) | (with_reducible refine Blk.new' ?_ ?_ <;> first | (with_reducible rfl) | (simp; done)) | (with_reducible refine Blk.alloc ?_ _) | (with_reducible refine RowIn.alloc ?_ _) | (with_reducible refine Below.alloc ?_ ?_ _) | (with_reducible apply Blk.set') | (with_reducible apply Blk.far') | (with_reducible refine RowIn.far' ?_ ?_ _) | (with_reducible refine Below.far' ?_ ?_ _) | rfl | omega | go_size)
  obtain rfl : ns = nl := Decidable.not_not.1 h3
  have t1 : decide ((500 : Int) < (xf.length : Int)) = false := decide_eq_false (by omega)
  have t2 : decide ((12 : Int) < (ns : Int)) = false := decide_eq_false (by omega)
  have hx500 : xf.length ≤ 500 := by omega
  have hnl20 : ns ≤ 12 := by omega
  clear h1 h2 h3
  go_enter Tryd.func5, Tryd.ntmps5
  go_wp2_with fail
  refine (rcheck_ok Af nf cf xf _ (by exact RowIn.row (lo := 0) (hi := w.heap.size) (by repeat' (first | (with_reducible assumption) | (with_reducible exact Below.refl _ _) | (with_reducible refine Blk.drewN ?_ _) | (with_reducible refine RowIn.drewN ?_ _) | (with_reducible refine below_drewN ?_ _) | (with_reducible refine Blk.drew ?_) | (with_reducible refine RowIn.drew ?_) | (with_reducible refine Below.drew ?_) | (with_reducible refine Blk.new' ?_ ?_ <;> first | (with_reducible rfl) | (simp; done)) | (with_reducible refine Blk.alloc ?_ _) | (with_reducible refine RowIn.alloc ?_ _) | (with_reducible refine Below.alloc ?_ ?_ _) | (with_reducible apply Blk.set') | (with_reducible apply Blk.far') | (with_reducible refine RowIn.far' ?_ ?_ _) | (with_reducible refine Below.far' ?_ ?_ _) | rfl | omega | go_size))) (by omega) hlf).mono ?_
  rintro e w1 ⟨rfl, b1⟩
  have s1 := b1.size
  try simp only [World.size_alloc, World.size_setCell, World.size_drew, size_drewN] at s1
  obtain ⟨zf_1, rf_1, rt_1, bb_1⟩ : Blk w1 (w.heap.size) 24 [.slice Af nf cf, .int .i64 ((xf.length : Nat) : Int)] ∧ RowIn .u8 w1 (0) (w.heap.size) Af nf (pack xf) ∧ RowIn .u8 w1 (0) (w.heap.size) (some ⟨0, 0, none⟩) 64 dbTab ∧ Below w.heap.size w w1 := by
    refine ⟨?_, ?_, ?_, ?_⟩
    all_goals repeat' (first | (with_reducible assumption) | (with_reducible exact Below.refl _ _) | (with_reducible refine Blk.after ?_ b1) | (with_reducible refine RowIn.belowS ?_ b1) | (with_reducible refine Below.after ?_ b1 ?_) | (with_reducible refine Blk.drewN ?_ _) | (with_reducible refine RowIn.drewN ?_ _) | (with_reducible refine below_drewN ?_ _) | (with_reducible refine Blk.drew ?_) | (with_reducible refine RowIn.drew ?_) | (with_reducible refine Below.drew ?_) | (with_reducible refine Blk.new' ?_ ?_ <;> first | (with_reducible rfl) | (simp; done)) | (with_reducible refine Blk.alloc ?_ _) | (with_reducible refine RowIn.alloc ?_ _) | (with_reducible refine Below.alloc ?_ ?_ _) | (with_reducible apply Blk.set') | (with_reducible apply Blk.far') | (with_reducible refine RowIn.far' ?_ ?_ _) | (with_reducible refine Below.far' ?_ ?_ _) | rfl | omega | go_size)
  clear b1
  have kf_1 := zf_1.cell; have ff_1 := zf_1.frozen; have lf_1 := zf_1.lt
  go_wp2_with fail
  go_loopg [8] ns (fun k v wr => ∃ (j : Nat) (B : Option Addr) (m c lo hi : Nat) (y : List Bool), j + k = ns ∧ v = .int .i64 (j : Nat) ∧ Hid (y = xf ++ rices xsl xss j) ∧ y.length ≤ xf.length + 80 * j ∧ (m ≤ c ∧ c ≤ 9223372036854775807) ∧ Blk wr w.heap.size 24 [.slice Af nf cf, .int .i64 ((xf.length : Nat) : Int)] ∧ Blk wr w1.heap.size 24 [.slice B m c, .int .i64 ((y.length : Nat) : Int)] ∧ RowIn .u8 wr lo hi B m (pack y) ∧ (w1.heap.size < lo ∨ hi ≤ w1.heap.size) ∧ Below w.heap.size w wr ∧ Hid (∀ i, i < j → 0 ≤ nth xss i ∧ nth xss i ≤ 24) ∧ w1.heap.size ≤ wr.heap.size)
  case atStart =>
    refine ⟨0, Af, nf, cf, 0, w.heap.size, xf, by omega, rfl, Lib.hid (by simp [rices]), by omega, hcf, ?_, ?_, ?_, Or.inr (by omega), ?_, Lib.hid (fun i h => absurd h (by omega)), by simp⟩
    all_goals repeat' (first | (with_reducible assumption) | (with_reducible exact Below.refl _ _) | (with_reducible refine Blk.drewN ?_ _) | (with_reducible refine RowIn.drewN ?_ _) | (with_reducible refine below_drewN ?_ _) | (with_reducible refine Blk.drew ?_) | (with_reducible refine RowIn.drew ?_) | (with_reducible refine Below.drew ?_) | (with_reducible refine Blk.new' ?_ ?_ <;> first | (with_reducible rfl) | (simp; done)) | (with_reducible refine Blk.alloc ?_ _) | (with_reducible refine RowIn.alloc ?_ _) | (with_reducible refine Below.alloc ?_ ?_ _) | (with_reducible apply Blk.set') | (with_reducible apply Blk.far') | (with_reducible refine RowIn.far' ?_ ?_ _) | (with_reducible refine Below.far' ?_ ?_ _) | rfl | omega | go_size)
  case round =>
    obtain ⟨j, B, m, c, lo, hi, y, hj, rfl, HY, hyl, hcy, zf, zb, ry, hlo, bb, HALL, sw⟩ := hrel
    clear zf_1 kf_1 ff_1 lf_1 rf_1 rt_1 bb_1
    have s5 := bb.size
    have kf := zf.cell; have ff := zf.frozen; have lf := zf.lt; have kb := zb.cell; have fb := zb.frozen; have lb := zb.lt
    have rf : RowIn .u8 wr 0 w.heap.size Af nf (pack xf) := hrif.below bb (Nat.le_refl _)
    have rt : RowIn .u8 wr 0 w.heap.size (some ⟨0, 0, none⟩) 64 dbTab := hti.below bb (Nat.le_refl _)
    by_cases hlt : j < ns
    · obtain ⟨bl, ol, rfl, hbl, hcell⟩ := hal.at (by omega)
      obtain ⟨bs, os, rfl, hbs, hcells⟩ := has_.at (by omega)
      obtain ⟨v, hv⟩ : ∃ v, nth xsl j = v := ⟨_, rfl⟩
      obtain ⟨q, hq⟩ : ∃ q, nth xss j = q := ⟨_, rfl⟩
      have hvb := hxl.nth (by decide) (by decide) j
      rw [hv] at hvb
      have c0 : w.cell? ⟨bl, ol + j, none⟩ = some (.int .u32 v) := by rw [hcell j hlt, hv]
      have d0 : w.cell? ⟨bs, os + j, none⟩ = some (.int .i64 q) := by rw [hcells j hlt, hq]
      have HV := Lib.hid hv; have HQ := Lib.hid hq
      have c1 : wr.cell? ⟨bl, ol + j, none⟩ = some (.int .u32 v) := (bb.cell (p := ⟨bl, ol + j, none⟩) hbl).trans c0
      have d1 : wr.cell? ⟨bs, os + j, none⟩ = some (.int .i64 q) := (bb.cell (p := ⟨bs, os + j, none⟩) hbs).trans d0
      have C0 := Lib.hid c0; have D0 := Lib.hid d0
      have C1 := Lib.hid c1; have D1 := Lib.hid d1
      have hbl1 : bl < wr.heap.size := by omega
      have hbs1 : bs < wr.heap.size := by omega
      clear hcell hcells hv hq c0 d0
      by_cases hv0 : q < 0
      · go_wp2_with fail
        refine (alive07 _).mono ?_
        rintro e w2 ⟨rfl, b2⟩
        have s2 := b2.size
        try simp only [World.size_alloc, World.size_setCell, World.size_drew, size_drewN] at s2
        have bb_2 : Below w.heap.size w w2 := by
          repeat' (first | (with_reducible assumption) | (with_reducible exact Below.refl _ _) | (with_reducible refine Blk.after ?_ b2) | (with_reducible refine RowIn.belowS ?_ b2) | (with_reducible refine Below.after ?_ b2 ?_) | (with_reducible refine Blk.drewN ?_ _) | (with_reducible refine RowIn.drewN ?_ _) | (with_reducible refine below_drewN ?_ _) | (with_reducible refine Blk.drew ?_) | (with_reducible refine RowIn.drew ?_) | (with_reducible refine Below.drew ?_) | (with_reducible refine Blk.new' ?_ ?_ <;> first | (with_reducible rfl) | (simp; done)) | (with_reducible refine Blk.alloc ?_ _) | (with_reducible refine RowIn.alloc ?_ _) | (with_reducible refine Below.alloc ?_ ?_ _) | (with_reducible apply Blk.set') | (with_reducible apply Blk.far') | (with_reducible refine RowIn.far' ?_ ?_ _) | (with_reducible refine Below.far' ?_ ?_ _) | rfl | omega | go_size)
        clear b2
        go_wp2
        go_ret
        refine ⟨rfl, ?_⟩
        repeat' (first | (with_reducible assumption) | (with_reducible exact Below.refl _ _) | (with_reducible refine Blk.drewN ?_ _) | (with_reducible refine RowIn.drewN ?_ _) | (with_reducible refine below_drewN ?_ _) | (with_reducible refine Blk.drew ?_) | (with_reducible refine RowIn.drew ?_) | (with_reducible refine Below.drew ?_) | (with_reducible refine Blk.new' ?_ ?_ <;> first | (with_reducible rfl) | (simp; done)) | (with_reducible refine Blk.alloc ?_ _) | (with_reducible refine RowIn.alloc ?_ _) | (with_reducible refine Below.alloc ?_ ?_ _) | (with_reducible apply Blk.set') | (with_reducible apply Blk.far') | (with_reducible refine RowIn.far' ?_ ?_ _) | (with_reducible refine Below.far' ?_ ?_ _) | rfl | omega | go_size)
      by_cases hv1 : 24 < q
      · go_wp2_with fail
        refine (alive07 _).mono ?_
        rintro e w2 ⟨rfl, b2⟩
        have s2 := b2.size
        try simp only [World.size_alloc, World.size_setCell, World.size_drew, size_drewN] at s2
        have bb_2 : Below w.heap.size w w2 := by
          repeat' (first | (with_reducible assumption) | (with_reducible exact Below.refl _ _) | (with_reducible refine Blk.after ?_ b2) | (with_reducible refine RowIn.belowS ?_ b2) | (with_reducible refine Below.after ?_ b2 ?_) | (with_reducible refine Blk.drewN ?_ _) | (with_reducible refine RowIn.drewN ?_ _) | (with_reducible refine below_drewN ?_ _) | (with_reducible refine Blk.drew ?_) | (with_reducible refine RowIn.drew ?_) | (with_reducible refine Below.drew ?_) | (with_reducible refine Blk.new' ?_ ?_ <;> first | (with_reducible rfl) | (simp; done)) | (with_reducible refine Blk.alloc ?_ _) | (with_reducible refine RowIn.alloc ?_ _) | (with_reducible refine Below.alloc ?_ ?_ _) | (with_reducible apply Blk.set') | (with_reducible apply Blk.far') | (with_reducible refine RowIn.far' ?_ ?_ _) | (with_reducible refine Below.far' ?_ ?_ _) | rfl | omega | go_size)
        clear b2
        go_wp2
        go_ret
        refine ⟨rfl, ?_⟩
        repeat' (first | (with_reducible assumption) | (with_reducible exact Below.refl _ _) | (with_reducible refine Blk.drewN ?_ _) | (with_reducible refine RowIn.drewN ?_ _) | (with_reducible refine below_drewN ?_ _) | (with_reducible refine Blk.drew ?_) | (with_reducible refine RowIn.drew ?_) | (with_reducible refine Below.drew ?_) | (with_reducible refine Blk.new' ?_ ?_ <;> first | (with_reducible rfl) | (simp; done)) | (with_reducible refine Blk.alloc ?_ _) | (with_reducible refine RowIn.alloc ?_ _) | (with_reducible refine Below.alloc ?_ ?_ _) | (with_reducible apply Blk.set') | (with_reducible apply Blk.far') | (with_reducible refine RowIn.far' ?_ ?_ _) | (with_reducible refine Below.far' ?_ ?_ _) | rfl | omega | go_size)
      obtain ⟨q, rfl⟩ := Int.eq_ofNat_of_zero_le (by omega : 0 ≤ q)
      obtain ⟨v, rfl⟩ := Int.eq_ofNat_of_zero_le hvb.1
      have hq24 : q ≤ 24 := by omega
      have hv32 : v < 4294967296 := by omega
      obtain ⟨L, HL⟩ : ∃ L, Hid (L = riceLen v q) := ⟨_, Lib.hid rfl⟩
      have hrl : q + 1 ≤ L ∧ L ≤ 80 := by rw [HL.out]; exact rice_len_le v q hq24
      obtain ⟨hrl1, hrl2⟩ := hrl
      go_wp2_with fail
      have kbd := (Blk.drew zb).cell; have c1d : wr.drew.cell? ⟨bl, ol + j, none⟩ = some (.int .u32 (v : Int)) := C1.out; have d1d : wr.drew.cell? ⟨bs, os + j, none⟩ = some (.int .i64 (q : Int)) := D1.out
      go_region_held3 (fun w' => (∀ a, w'.cell? ⟨w1.heap.size, a, none⟩ = [.slice B m c, .int .i64 ((y.length : Nat) : Int)][a]?) ∧ w'.cell? ⟨bl, ol + j, none⟩ = some (.int .u32 (v : Int)) ∧ w'.cell? ⟨bs, os + j, none⟩ = some (.int .i64 (q : Int))) (first | with_reducible exact ⟨kb, C1.out, D1.out⟩ | with_reducible exact ⟨kbd, c1d, d1d⟩ | (refine ⟨Blk.cell (t := 24) ?_, (Below.cell (p := ⟨bl, ol + j, none⟩) (B := wr.heap.size) (w := wr) ?_ hbl1).trans C1.out, (Below.cell (p := ⟨bs, os + j, none⟩) (B := wr.heap.size) (w := wr) ?_ hbs1).trans D1.out⟩; all_goals repeat' (first | (with_reducible assumption) | (with_reducible exact Below.refl _ _) | (with_reducible refine Blk.after ?_ b10) | (with_reducible refine RowIn.belowS ?_ b10) | (with_reducible refine Below.after ?_ b10 ?_) | (with_reducible refine Blk.drewN ?_ _) | (with_reducible refine RowIn.drewN ?_ _) | (with_reducible refine below_drewN ?_ _) | (with_reducible refine Blk.drew ?_) | (with_reducible refine RowIn.drew ?_) | (with_reducible refine Below.drew ?_) | (with_reducible refine Blk.new' ?_ ?_ <;> first | (with_reducible rfl) | (simp; done)) | (with_reducible refine Blk.alloc ?_ _) | (with_reducible refine RowIn.alloc ?_ _) | (with_reducible refine Below.alloc ?_ ?_ _) | (with_reducible apply Blk.set') | (with_reducible apply Blk.far') | (with_reducible refine RowIn.far' ?_ ?_ _) | (with_reducible refine Below.far' ?_ ?_ _) | rfl | omega | go_size))) (
         (go_simp; go_at_call 19; refine (rwrite_ok B m c y v q _ (by first | exact ry.row | exact (ry.drew).row | exact (ry.alloc _).row | exact ((ry.alloc _).drew).row) hcy hv32 hq24 (by rw [← HL.out]; omega)).mono ?_; rintro e w10 ⟨Ax, mx, cx, xx, rfl, hcx, rx, HXx, b10⟩; have sz10 := b10.size; try simp only [World.size_alloc, World.size_setCell, World.size_drew, size_drewN] at sz10; (first | (have zq := Blk.after (Blk.drew (Blk.new' (g := wr.heap.size) (t := 24) (l := [.slice none 0 0, .int .i64 0]) rfl rfl)) b10; have kq := zq.cell; have fq := zq.frozen; have lq := zq.lt) | (have zq := Blk.after (Blk.new' (w := wr.drew) (g := wr.heap.size) (t := 24) (l := [.slice none 0 0, .int .i64 0]) rfl rfl) b10; have kq := zq.cell; have fq := zq.frozen; have lq := zq.lt) | skip)))
      all_goals
        have Lx : xx.length ≤ y.length + L ∧ y.length + L ≤ xx.length := by rw [HXx.out, List.length_append, rice_len, HL.out]; omega
        obtain ⟨Lx1, Lx2⟩ := Lx
        obtain ⟨lox, hlox1, hlox2, rx⟩ := RowIn.pick rx
        try simp only [World.size_alloc, World.size_drew, size_drewN] at hlox1
        try simp only [World.size_alloc, World.size_drew, size_drewN] at hlox2
        have s10 := b10.size
        try simp only [World.size_alloc, World.size_setCell, World.size_drew, size_drewN] at s10
        obtain ⟨zf_10, zb_10, rf_10, rt_10, ry_10, rx_10, bb_10⟩ : Blk w10 (w.heap.size) 24 [.slice Af nf cf, .int .i64 ((xf.length : Nat) : Int)] ∧ Blk w10 (w1.heap.size) 24 [.slice B m c, .int .i64 ((y.length : Nat) : Int)] ∧ RowIn .u8 w10 (0) (w.heap.size) Af nf (pack xf) ∧ RowIn .u8 w10 (0) (w.heap.size) (some ⟨0, 0, none⟩) 64 dbTab ∧ RowIn .u8 w10 (lo) (hi) B m (pack y) ∧ RowIn .u8 w10 (lox) (w10.heap.size) Ax mx (pack xx) ∧ Below w.heap.size w w10 := by
          refine ⟨?_, ?_, ?_, ?_, ?_, ?_, ?_⟩
          all_goals repeat' (first | (with_reducible assumption) | (with_reducible exact Below.refl _ _) | (with_reducible refine Blk.after ?_ b10) | (with_reducible refine RowIn.belowS ?_ b10) | (with_reducible refine Below.after ?_ b10 ?_) | (with_reducible refine Blk.drewN ?_ _) | (with_reducible refine RowIn.drewN ?_ _) | (with_reducible refine below_drewN ?_ _) | (with_reducible refine Blk.drew ?_) | (with_reducible refine RowIn.drew ?_) | (with_reducible refine Below.drew ?_) | (with_reducible refine Blk.new' ?_ ?_ <;> first | (with_reducible rfl) | (simp; done)) | (with_reducible refine Blk.alloc ?_ _) | (with_reducible refine RowIn.alloc ?_ _) | (with_reducible refine Below.alloc ?_ ?_ _) | (with_reducible apply Blk.set') | (with_reducible apply Blk.far') | (with_reducible refine RowIn.far' ?_ ?_ _) | (with_reducible refine Below.far' ?_ ?_ _) | rfl | omega | go_size)
        clear b10
        have kf_10 := zf_10.cell; have ff_10 := zf_10.frozen; have lf_10 := zf_10.lt
        have kb_10 := zb_10.cell; have fb_10 := zb_10.frozen; have lb_10 := zb_10.lt
        clear rx
        have c10 : w10.cell? ⟨bl, ol + j, none⟩ = some (.int .u32 (v : Int)) := (bb_10.cell (p := ⟨bl, ol + j, none⟩) hbl).trans C0.out
        have hbl10 : bl < w10.heap.size := by omega
        have d10 : w10.cell? ⟨bs, os + j, none⟩ = some (.int .i64 (q : Int)) := (bb_10.cell (p := ⟨bs, os + j, none⟩) hbs).trans D0.out
        have hbs10 : bs < w10.heap.size := by omega
        go_wp2_with fail
        go_quiet ((go_at_call 17; exact Calls.quiet_of_same (rlen_is v q L _ hq24 hv32 HL.out)))
        have t5 : (((xx.length : Nat) : Int) != ((y.length : Nat) : Int) + (L : Int)) = false := by rw [bne_eq_false_iff_eq]; omega
        have HXY : Hid (xx = xf ++ rices xsl xss (j + 1)) := by rw [HXx.out, HY.out, rices_next, List.append_assoc]; unfold riceAt; rw [HV.out, HQ.out]; exact Lib.hid rfl
        have HALL2 : Hid (∀ i, i < j + 1 → 0 ≤ nth xss i ∧ nth xss i ≤ 24) := Lib.hid (fun i hi => by
          rcases Nat.lt_or_ge i j with h | h
          · exact HALL.out i h
          · rw [show i = j by omega, HQ.out]; omega)
        clear HXx HY HALL
        go_wp2
        go_roundg (ns - (j + 1))
        case measure => omega
        case rel =>
          refine ⟨j + 1, Ax, mx, cx, lox, w10.heap.size, xx, by omega, by go_num, HXY, by omega, hcx, ?_, ?_, ?_, Or.inl (by omega), ?_, HALL2, by go_size⟩
          · repeat' (first | (with_reducible assumption) | (with_reducible exact Below.refl _ _) | (with_reducible refine Blk.drewN ?_ _) | (with_reducible refine RowIn.drewN ?_ _) | (with_reducible refine below_drewN ?_ _) | (with_reducible refine Blk.drew ?_) | (with_reducible refine RowIn.drew ?_) | (with_reducible refine Below.drew ?_) | (with_reducible refine Blk.new' ?_ ?_ <;> first | (with_reducible rfl) | (simp; done)) | (with_reducible refine Blk.alloc ?_ _) | (with_reducible refine RowIn.alloc ?_ _) | (with_reducible refine Below.alloc ?_ ?_ _) | (with_reducible apply Blk.set') | (with_reducible apply Blk.far') | (with_reducible refine RowIn.far' ?_ ?_ _) | (with_reducible refine Below.far' ?_ ?_ _) | rfl | omega | go_size)
          · refine Blk.set' (l0 := [.slice Ax mx cx, .int .i64 ((y.length : Nat) : Int)]) (Blk.set' (l0 := [.slice B m c, .int .i64 ((y.length : Nat) : Int)]) ?_ rfl) rfl
            repeat' (first | (with_reducible assumption) | (with_reducible exact Below.refl _ _) | (with_reducible refine Blk.drewN ?_ _) | (with_reducible refine RowIn.drewN ?_ _) | (with_reducible refine below_drewN ?_ _) | (with_reducible refine Blk.drew ?_) | (with_reducible refine RowIn.drew ?_) | (with_reducible refine Below.drew ?_) | (with_reducible refine Blk.new' ?_ ?_ <;> first | (with_reducible rfl) | (simp; done)) | (with_reducible refine Blk.alloc ?_ _) | (with_reducible refine RowIn.alloc ?_ _) | (with_reducible refine Below.alloc ?_ ?_ _) | (with_reducible apply Blk.set') | (with_reducible apply Blk.far') | (with_reducible refine RowIn.far' ?_ ?_ _) | (with_reducible refine Below.far' ?_ ?_ _) | rfl | omega | go_size)
          all_goals repeat' (first | (with_reducible assumption) | (with_reducible exact Below.refl _ _) | (with_reducible refine Blk.drewN ?_ _) | (with_reducible refine RowIn.drewN ?_ _) | (with_reducible refine below_drewN ?_ _) | (with_reducible refine Blk.drew ?_) | (with_reducible refine RowIn.drew ?_) | (with_reducible refine Below.drew ?_) | (with_reducible refine Blk.new' ?_ ?_ <;> first | (with_reducible rfl) | (simp; done)) | (with_reducible refine Blk.alloc ?_ _) | (with_reducible refine RowIn.alloc ?_ _) | (with_reducible refine Below.alloc ?_ ?_ _) | (with_reducible apply Blk.set') | (with_reducible apply Blk.far') | (with_reducible refine RowIn.far' ?_ ?_ _) | (with_reducible refine Below.far' ?_ ?_ _) | rfl | omega | go_size)
    · have hjn : j = ns := by omega
      have HYY : Hid (y = xf ++ rices xsl xss ns) := by rw [HY.out, hjn]; exact Lib.hid rfl
      have HALL2 : Hid (∀ i, i < ns → 0 ≤ nth xss i ∧ nth xss i ≤ 24) := by rw [← hjn]; exact HALL
      clear hjn HY HALL
      obtain ⟨w20, hw20⟩ : ∃ w20, w20 = wr := ⟨_, rfl⟩
      subst hw20
      go_wp2_with fail
      go_loopg [14, 15] ns (fun k v12 v13 wr => ∃ (i a : Nat), i + k = ns ∧ v13 = .int .i64 (i : Nat) ∧ v12 = .int .i64 (a : Nat) ∧ Hid (a = xf.length + (rices xsl xss i).length) ∧ a ≤ y.length ∧ Below w20.heap.size w20 wr)
      case atStart => exact ⟨0, xf.length, by omega, rfl, rfl, Lib.hid (by simp [rices]), by rw [HYY.out, List.length_append]; omega, Below.refl _ _⟩
      case round =>
        obtain ⟨i, a, hi2, rfl, rfl, HA, hay, b30⟩ := hrel
        have s30 := b30.size
        try simp only [World.size_alloc, World.size_setCell, World.size_drew, size_drewN] at s30
        obtain ⟨zf_30, zb_30, rf_30, rt_30, ry_30, bb_30⟩ : Blk wr (w.heap.size) 24 [.slice Af nf cf, .int .i64 ((xf.length : Nat) : Int)] ∧ Blk wr (w1.heap.size) 24 [.slice B m c, .int .i64 ((y.length : Nat) : Int)] ∧ RowIn .u8 wr (0) (w.heap.size) Af nf (pack xf) ∧ RowIn .u8 wr (0) (w.heap.size) (some ⟨0, 0, none⟩) 64 dbTab ∧ RowIn .u8 wr (lo) (hi) B m (pack y) ∧ Below w.heap.size w wr := by
          refine ⟨?_, ?_, ?_, ?_, ?_, ?_⟩
          all_goals repeat' (first | (with_reducible assumption) | (with_reducible exact Below.refl _ _) | (with_reducible refine Blk.after ?_ b30) | (with_reducible refine RowIn.belowS ?_ b30) | (with_reducible refine Below.after ?_ b30 ?_) | (with_reducible refine Blk.drewN ?_ _) | (with_reducible refine RowIn.drewN ?_ _) | (with_reducible refine below_drewN ?_ _) | (with_reducible refine Blk.drew ?_) | (with_reducible refine RowIn.drew ?_) | (with_reducible refine Below.drew ?_) | (with_reducible refine Blk.new' ?_ ?_ <;> first | (with_reducible rfl) | (simp; done)) | (with_reducible refine Blk.alloc ?_ _) | (with_reducible refine RowIn.alloc ?_ _) | (with_reducible refine Below.alloc ?_ ?_ _) | (with_reducible apply Blk.set') | (with_reducible apply Blk.far') | (with_reducible refine RowIn.far' ?_ ?_ _) | (with_reducible refine Below.far' ?_ ?_ _) | rfl | omega | go_size)
        have kf_30 := zf_30.cell; have ff_30 := zf_30.frozen; have lf_30 := zf_30.lt
        have kb_30 := zb_30.cell; have fb_30 := zb_30.frozen; have lb_30 := zb_30.lt
        by_cases hlt2 : i < ns
        · obtain ⟨bl, ol, rfl, hbl, hcell⟩ := hal.at (by omega)
          obtain ⟨bs, os, rfl, hbs, hcells⟩ := has_.at (by omega)
          obtain ⟨v, hv⟩ : ∃ v, nth xsl i = v := ⟨_, rfl⟩
          obtain ⟨q, hq⟩ : ∃ q, nth xss i = q := ⟨_, rfl⟩
          have hvb := hxl.nth (by decide) (by decide) i
          rw [hv] at hvb
          have c0 : w.cell? ⟨bl, ol + i, none⟩ = some (.int .u32 v) := by rw [hcell i hlt2, hv]
          have d0 : w.cell? ⟨bs, os + i, none⟩ = some (.int .i64 q) := by rw [hcells i hlt2, hq]
          have HV := Lib.hid hv; have HQ := Lib.hid hq
          have hq24 := HALL2.out i hlt2
          rw [hq] at hq24
          obtain ⟨q, rfl⟩ := Int.eq_ofNat_of_zero_le hq24.1
          obtain ⟨v, rfl⟩ := Int.eq_ofNat_of_zero_le hvb.1
          have hq24 : q ≤ 24 := by omega
          have hv32 : v < 4294967296 := by omega
          have C0 := Lib.hid c0; have D0 := Lib.hid d0
          have c31 : wr.cell? ⟨bl, ol + i, none⟩ = some (.int .u32 (v : Int)) := (bb_30.cell (p := ⟨bl, ol + i, none⟩) hbl).trans c0
          have d31 : wr.cell? ⟨bs, os + i, none⟩ = some (.int .i64 (q : Int)) := (bb_30.cell (p := ⟨bs, os + i, none⟩) hbs).trans d0
          have hbl1 : bl < wr.heap.size := by have := bb_30.size; omega
          have hbs1 : bs < wr.heap.size := by have := bb_30.size; omega
          clear hcell hcells hv hq c0 d0
          obtain ⟨L, HL⟩ : ∃ L, Hid (L = riceLen v q) := ⟨_, Lib.hid rfl⟩
          have hsp : ∃ r, y = (xf ++ rices xsl xss i) ++ (rice v q ++ r) := by
            obtain ⟨r, hr⟩ := rices_split xsl xss i ns hlt2
            refine ⟨r, ?_⟩
            unfold riceAt at hr
            rw [HV.out, HQ.out] at hr
            rw [HYY.out, hr, List.append_assoc]; rfl
          have HSP := Lib.hid hsp
          clear hsp
          have hal2 : a = (xf ++ rices xsl xss i).length := by rw [HA.out, List.length_append]
          have HRD : Hid (readR (y.drop ((a : Int).toNat)) q = .ok v L) := by
            obtain ⟨r, hr⟩ := HSP.out
            refine Lib.hid ?_
            rw [Int.toNat_natCast, hal2, hr, List.drop_left, HL.out]
            exact readR_rice hv32 _
          have hlen : a + L ≤ y.length := by
            obtain ⟨r, hr⟩ := HSP.out
            rw [hr, hal2]; simp only [List.length_append, rice_len]; rw [← HL.out]; omega
          clear hal2 HSP
          go_wp2_with fail
          go_region_law (go_simp; go_at_call 21
                         refine (rread_ok B m c y (a : Nat) q v L _ (by first | exact ry_30.row | exact (ry_30.alloc _).row) hcy (by omega) (by omega) hq24 HRD.out (by exact rt_30.row)).mono ?_
                         rintro e w31 ⟨z, rfl, HZ, b31⟩)
          all_goals
            have B31 := Below.after (Below.drew b30) b31 b30.size
            have s31 := b31.size
            try simp only [World.size_alloc, World.size_setCell, World.size_drew, size_drewN] at s31
            obtain ⟨zf_31, zb_31, rf_31, rt_31, ry_31, bb_31⟩ : Blk w31 (w.heap.size) 24 [.slice Af nf cf, .int .i64 ((xf.length : Nat) : Int)] ∧ Blk w31 (w1.heap.size) 24 [.slice B m c, .int .i64 ((y.length : Nat) : Int)] ∧ RowIn .u8 w31 (0) (w.heap.size) Af nf (pack xf) ∧ RowIn .u8 w31 (0) (w.heap.size) (some ⟨0, 0, none⟩) 64 dbTab ∧ RowIn .u8 w31 (lo) (hi) B m (pack y) ∧ Below w.heap.size w w31 := by
              refine ⟨?_, ?_, ?_, ?_, ?_, ?_⟩
              all_goals repeat' (first | (with_reducible assumption) | (with_reducible exact Below.refl _ _) | (with_reducible refine Blk.after ?_ b31) | (with_reducible refine RowIn.belowS ?_ b31) | (with_reducible refine Below.after ?_ b31 ?_) | (with_reducible refine Blk.drewN ?_ _) | (with_reducible refine RowIn.drewN ?_ _) | (with_reducible refine below_drewN ?_ _) | (with_reducible refine Blk.drew ?_) | (with_reducible refine RowIn.drew ?_) | (with_reducible refine Below.drew ?_) | (with_reducible refine Blk.new' ?_ ?_ <;> first | (with_reducible rfl) | (simp; done)) | (with_reducible refine Blk.alloc ?_ _) | (with_reducible refine RowIn.alloc ?_ _) | (with_reducible refine Below.alloc ?_ ?_ _) | (with_reducible apply Blk.set') | (with_reducible apply Blk.far') | (with_reducible refine RowIn.far' ?_ ?_ _) | (with_reducible refine Below.far' ?_ ?_ _) | rfl | omega | go_size)
            clear zf_30 zb_30 rf_30 rt_30 ry_30 bb_30 kf_30 ff_30 lf_30 kb_30 fb_30 lb_30 b31
            have kf_31 := zf_31.cell; have ff_31 := zf_31.frozen; have lf_31 := zf_31.lt
            have kb_31 := zb_31.cell; have fb_31 := zb_31.frozen; have lb_31 := zb_31.lt
            have hz1 : z ≤ a + L ∧ a + L ≤ z := by have := HZ.out; omega
            obtain ⟨hz1, hz2⟩ := hz1
            have HA2 : Hid (z = xf.length + (rices xsl xss (i + 1)).length) := by
              refine Lib.hid ?_
              rw [HZ.out, Int.toNat_natCast, HA.out, rices_next, List.length_append]
              unfold riceAt
              rw [HV.out, HQ.out, Int.toNat_natCast, Int.toNat_natCast, rice_len, HL.out]; omega
            have c32 : w31.cell? ⟨bl, ol + i, none⟩ = some (.int .u32 (v : Int)) := (bb_31.cell (p := ⟨bl, ol + i, none⟩) hbl).trans C0.out
            have t7 : ((v : Int) != (v : Int)) = false := by simp
            clear HZ HA HRD
            go_wp2
            go_roundg (ns - (i + 1))
            case measure => omega
            case rel => exact ⟨i + 1, z, by omega, by go_num, by rfl, HA2, by omega, B31⟩
        · have hin : i = ns := by omega
          have hal2 : a = y.length := by rw [HA.out, HYY.out, hin, List.length_append]
          have t6 : ((a : Int) == ((y.length : Nat) : Int)) = true := beq_iff_eq.2 (by omega)
          clear hin hal2
          go_wp2_with fail
          refine (alive07 _).mono ?_
          rintro e w31 ⟨rfl, b31⟩
          have s31 := b31.size
          try simp only [World.size_alloc, World.size_setCell, World.size_drew, size_drewN] at s31
          have bb_31 : Below w.heap.size w w31 := by
            repeat' (first | (with_reducible assumption) | (with_reducible exact Below.refl _ _) | (with_reducible refine Blk.after ?_ b31) | (with_reducible refine RowIn.belowS ?_ b31) | (with_reducible refine Below.after ?_ b31 ?_) | (with_reducible refine Blk.drewN ?_ _) | (with_reducible refine RowIn.drewN ?_ _) | (with_reducible refine below_drewN ?_ _) | (with_reducible refine Blk.drew ?_) | (with_reducible refine RowIn.drew ?_) | (with_reducible refine Below.drew ?_) | (with_reducible refine Blk.new' ?_ ?_ <;> first | (with_reducible rfl) | (simp; done)) | (with_reducible refine Blk.alloc ?_ _) | (with_reducible refine RowIn.alloc ?_ _) | (with_reducible refine Below.alloc ?_ ?_ _) | (with_reducible apply Blk.set') | (with_reducible apply Blk.far') | (with_reducible refine RowIn.far' ?_ ?_ _) | (with_reducible refine Below.far' ?_ ?_ _) | rfl | omega | go_size)
          clear zf_30 zb_30 rf_30 rt_30 ry_30 bb_30 kf_30 ff_30 lf_30 kb_30 fb_30 lb_30 b31
          go_wp2
          go_ret
          refine ⟨rfl, ?_⟩
          repeat' (first | (with_reducible assumption) | (with_reducible exact Below.refl _ _) | (with_reducible refine Blk.drewN ?_ _) | (with_reducible refine RowIn.drewN ?_ _) | (with_reducible refine below_drewN ?_ _) | (with_reducible refine Blk.drew ?_) | (with_reducible refine RowIn.drew ?_) | (with_reducible refine Below.drew ?_) | (with_reducible refine Blk.new' ?_ ?_ <;> first | (with_reducible rfl) | (simp; done)) | (with_reducible refine Blk.alloc ?_ _) | (with_reducible refine RowIn.alloc ?_ _) | (with_reducible refine Below.alloc ?_ ?_ _) | (with_reducible apply Blk.set') | (with_reducible apply Blk.far') | (with_reducible refine RowIn.far' ?_ ?_ _) | (with_reducible refine Below.far' ?_ ?_ _) | rfl | omega | go_size)


end Go.Proofs.YtlblkjefngofaaaDoor
