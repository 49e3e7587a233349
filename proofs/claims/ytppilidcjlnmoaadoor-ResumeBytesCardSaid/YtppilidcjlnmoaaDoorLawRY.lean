/-
  The walk of ResumeBytes.
-/
import Derived.Test.YtppilidcjlnmoaaDoorPcsM
namespace Go.Proofs.YtppilidcjlnmoaaDoor
open Go.RowKit Cad Cad.Bit Cad.Code
set_option linter.unusedVariables false
set_option linter.unusedSimpArgs false


set_option maxRecDepth 100000 in
set_option maxHeartbeats 2000000 in
theorem lawResumeBytes (w : World) (ht : Tab w) (L : Int) (p0 p1 q0 q1 : Int) (hL : -9223372036854775808 ≤ L ∧ L ≤ 9223372036854775807) (hp0 : -9223372036854775808 ≤ p0 ∧ p0 ≤ 9223372036854775807) (hp1 : -9223372036854775808 ≤ p1 ∧ p1 ≤ 9223372036854775807) (hq0 : 0 ≤ q0 ∧ q0 ≤ 18446744073709551615) (hq1 : 0 ≤ q1 ∧ q1 ≤ 18446744073709551615) (As : Option Addr) (ns cs : Nat) (Ns : Int) (xss : List Int) (hAs : RowC .u8 w As ns cs xss) (hxs : Within 0 255 xss) (hNs : -9223372036854775808 ≤ Ns ∧ Ns ≤ 9223372036854775807) (Ab : Option Addr) (nb cb : Nat) (xsb : List Int) (hAb : RowC .u8 w Ab nb cb xsb) (hxb : Within 0 255 xsb) :
    Calls Tryd.prog 8 #[.agg #[.int .i64 (L : Int), .int .i64 (p0 : Int), .int .i64 (p1 : Int), .int .u64 (q0 : Int), .int .u64 (q1 : Int), .slice As ns cs, .int .i64 Ns], .slice Ab nb cb] w fun e w' => e = .returned (.bool true) ∧ Below w.heap.size w w' := by
  have has := hAs.row
  have hcs := hAs.2
  have hris := has.rowIn
  have hti : RowIn .u8 w 0 w.heap.size (some ⟨0, 0, none⟩) 64 dbTab := ht.rowIn
  have HLs := Lib.hid has.len
  have hab := hAb.row
  have hcb := hAb.2
  have hrib := hab.rowIn
  have HLb := Lib.hid hab.len
  by_cases hg : 190 < ns ∧ ns < 41230 ∨ 41350 < ns
  · go_enter Tryd.func8, Tryd.ntmps8
    go_wp2_with fail
    refine (rgreat_yes As ns cs _ _ hg).mono ?_
    rintro e w1 ⟨rfl, b1⟩
    have s1 := b1.size
    try simp only [World.size_alloc, World.size_setCell, World.size_drew, size_drewN] at s1
    obtain ⟨zs_1, rs_1, rt_1, rb_1, bb_1⟩ : Blk w1 (w.heap.size) 40 [.int .i64 (L : Int), .int .i64 (p0 : Int), .int .i64 (p1 : Int), .int .u64 (q0 : Int), .int .u64 (q1 : Int), .slice As ns cs, .int .i64 Ns] ∧ RowIn .u8 w1 (0) (w.heap.size) As ns xss ∧ RowIn .u8 w1 (0) (w.heap.size) (some ⟨0, 0, none⟩) 64 dbTab ∧ RowIn .u8 w1 (0) (w.heap.size) Ab nb xsb ∧ Below w.heap.size w w1 := by
      refine ⟨?_, ?_, ?_, ?_, ?_⟩
      all_goals repeat' (first | (with_reducible first | assumption | exact Below.refl _ _ | refine Blk.drewN ?_ _ | refine RowIn.drewN ?_ _ | refine below_drewN ?_ _ | refine Blk.drew ?_ | refine RowIn.drew ?_ | refine Below.drew ?_) | (with_reducible refine Blk.new' ?_ ?_ <;> first | (with_reducible rfl) | (simp; done)) | (with_reducible first | refine Blk.alloc ?_ _ | refine RowIn.alloc ?_ _ | refine Below.alloc ?_ ?_ _ | apply Blk.set' | apply Blk.far' | refine RowIn.far' ?_ ?_ _ | refine Below.far' ?_ ?_ _ | refine RowV.drewN ?_ _ | refine RowV.drew ?_ | refine RowV.alloc ?_ _ | refine RowV.belowS ?_ b1 | refine Blk.after ?_ b1 | refine RowIn.belowS ?_ b1 | refine Below.after ?_ b1 ?_) | (exact (Eq.refl _ : (_ : List Value) = _)) | omega | go_size)
    clear b1
    have ks_1 := zs_1.cell; have fs_1 := zs_1.frozen; have ls_1 := zs_1.lt
    go_wp2_with fail
    refine (alive10 _ (by exact RowIn.row (lo := 0) (hi := w.heap.size) (by repeat' (first | (with_reducible first | assumption | exact Below.refl _ _ | refine Blk.drewN ?_ _ | refine RowIn.drewN ?_ _ | refine below_drewN ?_ _ | refine Blk.drew ?_ | refine RowIn.drew ?_ | refine Below.drew ?_) | (with_reducible refine Blk.new' ?_ ?_ <;> first | (with_reducible rfl) | (simp; done)) | (with_reducible first | refine Blk.alloc ?_ _ | refine RowIn.alloc ?_ _ | refine Below.alloc ?_ ?_ _ | apply Blk.set' | apply Blk.far' | refine RowIn.far' ?_ ?_ _ | refine Below.far' ?_ ?_ _ | refine RowV.drewN ?_ _ | refine RowV.drew ?_ | refine RowV.alloc ?_ _) | (exact (Eq.refl _ : (_ : List Value) = _)) | omega | go_size)))).mono ?_
    rintro e w2 ⟨rfl, b2⟩
    have s2 := b2.size
    try simp only [World.size_alloc, World.size_setCell, World.size_drew, size_drewN] at s2
    have bb_2 : Below w.heap.size w w2 := by
      repeat' (first | (with_reducible first | assumption | exact Below.refl _ _ | refine Blk.drewN ?_ _ | refine RowIn.drewN ?_ _ | refine below_drewN ?_ _ | refine Blk.drew ?_ | refine RowIn.drew ?_ | refine Below.drew ?_) | (with_reducible refine Blk.new' ?_ ?_ <;> first | (with_reducible rfl) | (simp; done)) | (with_reducible first | refine Blk.alloc ?_ _ | refine RowIn.alloc ?_ _ | refine Below.alloc ?_ ?_ _ | apply Blk.set' | apply Blk.far' | refine RowIn.far' ?_ ?_ _ | refine Below.far' ?_ ?_ _ | refine RowV.drewN ?_ _ | refine RowV.drew ?_ | refine RowV.alloc ?_ _ | refine RowV.belowS ?_ b2 | refine Blk.after ?_ b2 | refine RowIn.belowS ?_ b2 | refine Below.after ?_ b2 ?_) | (exact (Eq.refl _ : (_ : List Value) = _)) | omega | go_size)
    clear zs_1 rs_1 rt_1 rb_1 bb_1 ks_1 fs_1 ls_1 b2
    go_wp2
    go_ret
    refine ⟨rfl, ?_⟩
    repeat' (first | (with_reducible first | assumption | exact Below.refl _ _ | refine Blk.drewN ?_ _ | refine RowIn.drewN ?_ _ | refine below_drewN ?_ _ | refine Blk.drew ?_ | refine RowIn.drew ?_ | refine Below.drew ?_) | (with_reducible refine Blk.new' ?_ ?_ <;> first | (with_reducible rfl) | (simp; done)) | (with_reducible first | refine Blk.alloc ?_ _ | refine RowIn.alloc ?_ _ | refine Below.alloc ?_ ?_ _ | apply Blk.set' | apply Blk.far' | refine RowIn.far' ?_ ?_ _ | refine Below.far' ?_ ?_ _ | refine RowV.drewN ?_ _ | refine RowV.drew ?_ | refine RowV.alloc ?_ _) | (exact (Eq.refl _ : (_ : List Value) = _)) | omega | go_size)
  by_cases hRS : ¬ RS L p0 p1 q0 q1 xss Ns
  · go_enter Tryd.func8, Tryd.ntmps8
    go_wp2_with fail
    refine (rgreat_no As ns cs _ _ hg).mono ?_
    rintro e w1 ⟨rfl, b1⟩
    have s1 := b1.size
    try simp only [World.size_alloc, World.size_setCell, World.size_drew, size_drewN] at s1
    obtain ⟨zs_1, rs_1, rt_1, rb_1, bb_1⟩ : Blk w1 (w.heap.size) 40 [.int .i64 (L : Int), .int .i64 (p0 : Int), .int .i64 (p1 : Int), .int .u64 (q0 : Int), .int .u64 (q1 : Int), .slice As ns cs, .int .i64 Ns] ∧ RowIn .u8 w1 (0) (w.heap.size) As ns xss ∧ RowIn .u8 w1 (0) (w.heap.size) (some ⟨0, 0, none⟩) 64 dbTab ∧ RowIn .u8 w1 (0) (w.heap.size) Ab nb xsb ∧ Below w.heap.size w w1 := by
      refine ⟨?_, ?_, ?_, ?_, ?_⟩
      all_goals repeat' (first | (with_reducible first | assumption | exact Below.refl _ _ | refine Blk.drewN ?_ _ | refine RowIn.drewN ?_ _ | refine below_drewN ?_ _ | refine Blk.drew ?_ | refine RowIn.drew ?_ | refine Below.drew ?_) | (with_reducible refine Blk.new' ?_ ?_ <;> first | (with_reducible rfl) | (simp; done)) | (with_reducible first | refine Blk.alloc ?_ _ | refine RowIn.alloc ?_ _ | refine Below.alloc ?_ ?_ _ | apply Blk.set' | apply Blk.far' | refine RowIn.far' ?_ ?_ _ | refine Below.far' ?_ ?_ _ | refine RowV.drewN ?_ _ | refine RowV.drew ?_ | refine RowV.alloc ?_ _ | refine RowV.belowS ?_ b1 | refine Blk.after ?_ b1 | refine RowIn.belowS ?_ b1 | refine Below.after ?_ b1 ?_) | (exact (Eq.refl _ : (_ : List Value) = _)) | omega | go_size)
    clear b1
    have ks_1 := zs_1.cell; have fs_1 := zs_1.frozen; have ls_1 := zs_1.lt
    go_wp2_with fail
    refine (rrc_any L p0 p1 q0 q1 Ns ns cs As xss _ hL hq0.1 hq1.1 (by exact RowIn.row (lo := 0) (hi := w.heap.size) (by repeat' (first | (with_reducible first | assumption | exact Below.refl _ _ | refine Blk.drewN ?_ _ | refine RowIn.drewN ?_ _ | refine below_drewN ?_ _ | refine Blk.drew ?_ | refine RowIn.drew ?_ | refine Below.drew ?_) | (with_reducible refine Blk.new' ?_ ?_ <;> first | (with_reducible rfl) | (simp; done)) | (with_reducible first | refine Blk.alloc ?_ _ | refine RowIn.alloc ?_ _ | refine Below.alloc ?_ ?_ _ | apply Blk.set' | apply Blk.far' | refine RowIn.far' ?_ ?_ _ | refine Below.far' ?_ ?_ _ | refine RowV.drewN ?_ _ | refine RowV.drew ?_ | refine RowV.alloc ?_ _) | (exact (Eq.refl _ : (_ : List Value) = _)) | omega | go_size))) hxs hcs hRS).mono ?_
    rintro e w2 ⟨rfl, b2⟩
    have s2 := b2.size
    try simp only [World.size_alloc, World.size_setCell, World.size_drew, size_drewN] at s2
    obtain ⟨zs_2, rs_2, rt_2, rb_2, bb_2⟩ : Blk w2 (w.heap.size) 40 [.int .i64 (L : Int), .int .i64 (p0 : Int), .int .i64 (p1 : Int), .int .u64 (q0 : Int), .int .u64 (q1 : Int), .slice As ns cs, .int .i64 Ns] ∧ RowIn .u8 w2 (0) (w.heap.size) As ns xss ∧ RowIn .u8 w2 (0) (w.heap.size) (some ⟨0, 0, none⟩) 64 dbTab ∧ RowIn .u8 w2 (0) (w.heap.size) Ab nb xsb ∧ Below w.heap.size w w2 := by
      refine ⟨?_, ?_, ?_, ?_, ?_⟩
      all_goals repeat' (first | (with_reducible first | assumption | exact Below.refl _ _ | refine Blk.drewN ?_ _ | refine RowIn.drewN ?_ _ | refine below_drewN ?_ _ | refine Blk.drew ?_ | refine RowIn.drew ?_ | refine Below.drew ?_) | (with_reducible refine Blk.new' ?_ ?_ <;> first | (with_reducible rfl) | (simp; done)) | (with_reducible first | refine Blk.alloc ?_ _ | refine RowIn.alloc ?_ _ | refine Below.alloc ?_ ?_ _ | apply Blk.set' | apply Blk.far' | refine RowIn.far' ?_ ?_ _ | refine Below.far' ?_ ?_ _ | refine RowV.drewN ?_ _ | refine RowV.drew ?_ | refine RowV.alloc ?_ _ | refine RowV.belowS ?_ b2 | refine Blk.after ?_ b2 | refine RowIn.belowS ?_ b2 | refine Below.after ?_ b2 ?_) | (exact (Eq.refl _ : (_ : List Value) = _)) | omega | go_size)
    clear zs_1 rs_1 rt_1 rb_1 bb_1 ks_1 fs_1 ls_1 b2
    have ks_2 := zs_2.cell; have fs_2 := zs_2.frozen; have ls_2 := zs_2.lt
    go_wp2_with fail
    refine (alive10 _ (by exact RowIn.row (lo := 0) (hi := w.heap.size) (by repeat' (first | (with_reducible first | assumption | exact Below.refl _ _ | refine Blk.drewN ?_ _ | refine RowIn.drewN ?_ _ | refine below_drewN ?_ _ | refine Blk.drew ?_ | refine RowIn.drew ?_ | refine Below.drew ?_) | (with_reducible refine Blk.new' ?_ ?_ <;> first | (with_reducible rfl) | (simp; done)) | (with_reducible first | refine Blk.alloc ?_ _ | refine RowIn.alloc ?_ _ | refine Below.alloc ?_ ?_ _ | apply Blk.set' | apply Blk.far' | refine RowIn.far' ?_ ?_ _ | refine Below.far' ?_ ?_ _ | refine RowV.drewN ?_ _ | refine RowV.drew ?_ | refine RowV.alloc ?_ _) | (exact (Eq.refl _ : (_ : List Value) = _)) | omega | go_size)))).mono ?_
    rintro e w3 ⟨rfl, b3⟩
    have s3 := b3.size
    try simp only [World.size_alloc, World.size_setCell, World.size_drew, size_drewN] at s3
    have bb_3 : Below w.heap.size w w3 := by
      repeat' (first | (with_reducible first | assumption | exact Below.refl _ _ | refine Blk.drewN ?_ _ | refine RowIn.drewN ?_ _ | refine below_drewN ?_ _ | refine Blk.drew ?_ | refine RowIn.drew ?_ | refine Below.drew ?_) | (with_reducible refine Blk.new' ?_ ?_ <;> first | (with_reducible rfl) | (simp; done)) | (with_reducible first | refine Blk.alloc ?_ _ | refine RowIn.alloc ?_ _ | refine Below.alloc ?_ ?_ _ | apply Blk.set' | apply Blk.far' | refine RowIn.far' ?_ ?_ _ | refine Below.far' ?_ ?_ _ | refine RowV.drewN ?_ _ | refine RowV.drew ?_ | refine RowV.alloc ?_ _ | refine RowV.belowS ?_ b3 | refine Blk.after ?_ b3 | refine RowIn.belowS ?_ b3 | refine Below.after ?_ b3 ?_) | (exact (Eq.refl _ : (_ : List Value) = _)) | omega | go_size)
    clear zs_2 rs_2 rt_2 rb_2 bb_2 ks_2 fs_2 ls_2 b3
    go_wp2
    go_ret
    refine ⟨rfl, ?_⟩
    repeat' (first | (with_reducible first | assumption | exact Below.refl _ _ | refine Blk.drewN ?_ _ | refine RowIn.drewN ?_ _ | refine below_drewN ?_ _ | refine Blk.drew ?_ | refine RowIn.drew ?_ | refine Below.drew ?_) | (with_reducible refine Blk.new' ?_ ?_ <;> first | (with_reducible rfl) | (simp; done)) | (with_reducible first | refine Blk.alloc ?_ _ | refine RowIn.alloc ?_ _ | refine Below.alloc ?_ ?_ _ | apply Blk.set' | apply Blk.far' | refine RowIn.far' ?_ ?_ _ | refine Below.far' ?_ ?_ _ | refine RowV.drewN ?_ _ | refine RowV.drew ?_ | refine RowV.alloc ?_ _) | (exact (Eq.refl _ : (_ : List Value) = _)) | omega | go_size)
  obtain ⟨Ln, p0, p1, q0, q1, xs, rfl, rfl, rfl, rfl, rfl, rfl, rfl, hxl, hLn, hfok⟩ := rs_nat (Classical.not_not.1 hRS)
  have HFO := Lib.hid hfok
  have hsh := hfok.short
  clear hfok hRS
  by_cases h3 : 100 < nb
  · have t_h3 : decide ((100 : Int) < (nb : Int)) = true := decide_eq_true (by omega)
    go_enter Tryd.func8, Tryd.ntmps8
    go_wp2_with fail
    refine (rgreat_no As ns cs _ _ hg).mono ?_
    rintro e w1 ⟨rfl, b1⟩
    have s1 := b1.size
    try simp only [World.size_alloc, World.size_setCell, World.size_drew, size_drewN] at s1
    obtain ⟨zs_1, rs_1, rt_1, rb_1, bb_1⟩ : Blk w1 (w.heap.size) 40 [.int .i64 (Ln : Int), .int .i64 (p0 : Int), .int .i64 (p1 : Int), .int .u64 (q0 : Int), .int .u64 (q1 : Int), .slice As ns cs, .int .i64 (((xs.length : Nat)) : Int)] ∧ RowIn .u8 w1 (0) (w.heap.size) As ns (pack xs) ∧ RowIn .u8 w1 (0) (w.heap.size) (some ⟨0, 0, none⟩) 64 dbTab ∧ RowIn .u8 w1 (0) (w.heap.size) Ab nb xsb ∧ Below w.heap.size w w1 := by
      refine ⟨?_, ?_, ?_, ?_, ?_⟩
      all_goals repeat' (first | (with_reducible first | assumption | exact Below.refl _ _ | refine Blk.drewN ?_ _ | refine RowIn.drewN ?_ _ | refine below_drewN ?_ _ | refine Blk.drew ?_ | refine RowIn.drew ?_ | refine Below.drew ?_) | (with_reducible refine Blk.new' ?_ ?_ <;> first | (with_reducible rfl) | (simp; done)) | (with_reducible first | refine Blk.alloc ?_ _ | refine RowIn.alloc ?_ _ | refine Below.alloc ?_ ?_ _ | apply Blk.set' | apply Blk.far' | refine RowIn.far' ?_ ?_ _ | refine Below.far' ?_ ?_ _ | refine RowV.drewN ?_ _ | refine RowV.drew ?_ | refine RowV.alloc ?_ _ | refine RowV.belowS ?_ b1 | refine Blk.after ?_ b1 | refine RowIn.belowS ?_ b1 | refine Below.after ?_ b1 ?_) | (exact (Eq.refl _ : (_ : List Value) = _)) | omega | go_size)
    clear b1
    have ks_1 := zs_1.cell; have fs_1 := zs_1.frozen; have ls_1 := zs_1.lt
    go_wp2_with fail
    refine (rrc_val Ln p0 p1 q0 q1 ns cs As xs 0 _ hLn HFO.out.1 (by exact RowIn.row (lo := 0) (hi := w.heap.size) (by repeat' (first | (with_reducible first | assumption | exact Below.refl _ _ | refine Blk.drewN ?_ _ | refine RowIn.drewN ?_ _ | refine below_drewN ?_ _ | refine Blk.drew ?_ | refine RowIn.drew ?_ | refine Below.drew ?_) | (with_reducible refine Blk.new' ?_ ?_ <;> first | (with_reducible rfl) | (simp; done)) | (with_reducible first | refine Blk.alloc ?_ _ | refine RowIn.alloc ?_ _ | refine Below.alloc ?_ ?_ _ | apply Blk.set' | apply Blk.far' | refine RowIn.far' ?_ ?_ _ | refine Below.far' ?_ ?_ _ | refine RowV.drewN ?_ _ | refine RowV.drew ?_ | refine RowV.alloc ?_ _) | (exact (Eq.refl _ : (_ : List Value) = _)) | omega | go_size))) hcs hxl (Or.inl ⟨rfl, HFO.out⟩)).mono ?_
    rintro e w2 ⟨rfl, b2⟩
    have s2 := b2.size
    try simp only [World.size_alloc, World.size_setCell, World.size_drew, size_drewN] at s2
    obtain ⟨zs_2, rs_2, rt_2, rb_2, bb_2⟩ : Blk w2 (w.heap.size) 40 [.int .i64 (Ln : Int), .int .i64 (p0 : Int), .int .i64 (p1 : Int), .int .u64 (q0 : Int), .int .u64 (q1 : Int), .slice As ns cs, .int .i64 (((xs.length : Nat)) : Int)] ∧ RowIn .u8 w2 (0) (w.heap.size) As ns (pack xs) ∧ RowIn .u8 w2 (0) (w.heap.size) (some ⟨0, 0, none⟩) 64 dbTab ∧ RowIn .u8 w2 (0) (w.heap.size) Ab nb xsb ∧ Below w.heap.size w w2 := by
      refine ⟨?_, ?_, ?_, ?_, ?_⟩
      all_goals repeat' (first | (with_reducible first | assumption | exact Below.refl _ _ | refine Blk.drewN ?_ _ | refine RowIn.drewN ?_ _ | refine below_drewN ?_ _ | refine Blk.drew ?_ | refine RowIn.drew ?_ | refine Below.drew ?_) | (with_reducible refine Blk.new' ?_ ?_ <;> first | (with_reducible rfl) | (simp; done)) | (with_reducible first | refine Blk.alloc ?_ _ | refine RowIn.alloc ?_ _ | refine Below.alloc ?_ ?_ _ | apply Blk.set' | apply Blk.far' | refine RowIn.far' ?_ ?_ _ | refine Below.far' ?_ ?_ _ | refine RowV.drewN ?_ _ | refine RowV.drew ?_ | refine RowV.alloc ?_ _ | refine RowV.belowS ?_ b2 | refine Blk.after ?_ b2 | refine RowIn.belowS ?_ b2 | refine Below.after ?_ b2 ?_) | (exact (Eq.refl _ : (_ : List Value) = _)) | omega | go_size)
    clear zs_1 rs_1 rt_1 rb_1 bb_1 ks_1 fs_1 ls_1 b2
    have ks_2 := zs_2.cell; have fs_2 := zs_2.frozen; have ls_2 := zs_2.lt
    go_wp2_with fail
    refine (alive10 _ (by exact RowIn.row (lo := 0) (hi := w.heap.size) (by repeat' (first | (with_reducible first | assumption | exact Below.refl _ _ | refine Blk.drewN ?_ _ | refine RowIn.drewN ?_ _ | refine below_drewN ?_ _ | refine Blk.drew ?_ | refine RowIn.drew ?_ | refine Below.drew ?_) | (with_reducible refine Blk.new' ?_ ?_ <;> first | (with_reducible rfl) | (simp; done)) | (with_reducible first | refine Blk.alloc ?_ _ | refine RowIn.alloc ?_ _ | refine Below.alloc ?_ ?_ _ | apply Blk.set' | apply Blk.far' | refine RowIn.far' ?_ ?_ _ | refine Below.far' ?_ ?_ _ | refine RowV.drewN ?_ _ | refine RowV.drew ?_ | refine RowV.alloc ?_ _) | (exact (Eq.refl _ : (_ : List Value) = _)) | omega | go_size)))).mono ?_
    rintro e w3 ⟨rfl, b3⟩
    have s3 := b3.size
    try simp only [World.size_alloc, World.size_setCell, World.size_drew, size_drewN] at s3
    have bb_3 : Below w.heap.size w w3 := by
      repeat' (first | (with_reducible first | assumption | exact Below.refl _ _ | refine Blk.drewN ?_ _ | refine RowIn.drewN ?_ _ | refine below_drewN ?_ _ | refine Blk.drew ?_ | refine RowIn.drew ?_ | refine Below.drew ?_) | (with_reducible refine Blk.new' ?_ ?_ <;> first | (with_reducible rfl) | (simp; done)) | (with_reducible first | refine Blk.alloc ?_ _ | refine RowIn.alloc ?_ _ | refine Below.alloc ?_ ?_ _ | apply Blk.set' | apply Blk.far' | refine RowIn.far' ?_ ?_ _ | refine Below.far' ?_ ?_ _ | refine RowV.drewN ?_ _ | refine RowV.drew ?_ | refine RowV.alloc ?_ _ | refine RowV.belowS ?_ b3 | refine Blk.after ?_ b3 | refine RowIn.belowS ?_ b3 | refine Below.after ?_ b3 ?_) | (exact (Eq.refl _ : (_ : List Value) = _)) | omega | go_size)
    clear zs_2 rs_2 rt_2 rb_2 bb_2 ks_2 fs_2 ls_2 b3
    go_wp2
    go_ret
    refine ⟨rfl, ?_⟩
    repeat' (first | (with_reducible first | assumption | exact Below.refl _ _ | refine Blk.drewN ?_ _ | refine RowIn.drewN ?_ _ | refine below_drewN ?_ _ | refine Blk.drew ?_ | refine RowIn.drew ?_ | refine Below.drew ?_) | (with_reducible refine Blk.new' ?_ ?_ <;> first | (with_reducible rfl) | (simp; done)) | (with_reducible first | refine Blk.alloc ?_ _ | refine RowIn.alloc ?_ _ | refine Below.alloc ?_ ?_ _ | apply Blk.set' | apply Blk.far' | refine RowIn.far' ?_ ?_ _ | refine Below.far' ?_ ?_ _ | refine RowV.drewN ?_ _ | refine RowV.drew ?_ | refine RowV.alloc ?_ _) | (exact (Eq.refl _ : (_ : List Value) = _)) | omega | go_size)
  have t_h3 : decide ((100 : Int) < (nb : Int)) = false := decide_eq_false (by omega)
  go_enter Tryd.func8, Tryd.ntmps8
  go_wp2_with fail
  refine (rgreat_no As ns cs _ _ hg).mono ?_
  rintro e w1 ⟨rfl, b1⟩
  have s1 := b1.size
  try simp only [World.size_alloc, World.size_setCell, World.size_drew, size_drewN] at s1
  obtain ⟨zs_1, rs_1, rt_1, rb_1, bb_1⟩ : Blk w1 (w.heap.size) 40 [.int .i64 (Ln : Int), .int .i64 (p0 : Int), .int .i64 (p1 : Int), .int .u64 (q0 : Int), .int .u64 (q1 : Int), .slice As ns cs, .int .i64 (((xs.length : Nat)) : Int)] ∧ RowIn .u8 w1 (0) (w.heap.size) As ns (pack xs) ∧ RowIn .u8 w1 (0) (w.heap.size) (some ⟨0, 0, none⟩) 64 dbTab ∧ RowIn .u8 w1 (0) (w.heap.size) Ab nb xsb ∧ Below w.heap.size w w1 := by
    refine ⟨?_, ?_, ?_, ?_, ?_⟩
    all_goals repeat' (first | (with_reducible first | assumption | exact Below.refl _ _ | refine Blk.drewN ?_ _ | refine RowIn.drewN ?_ _ | refine below_drewN ?_ _ | refine Blk.drew ?_ | refine RowIn.drew ?_ | refine Below.drew ?_) | (with_reducible refine Blk.new' ?_ ?_ <;> first | (with_reducible rfl) | (simp; done)) | (with_reducible first | refine Blk.alloc ?_ _ | refine RowIn.alloc ?_ _ | refine Below.alloc ?_ ?_ _ | apply Blk.set' | apply Blk.far' | refine RowIn.far' ?_ ?_ _ | refine Below.far' ?_ ?_ _ | refine RowV.drewN ?_ _ | refine RowV.drew ?_ | refine RowV.alloc ?_ _ | refine RowV.belowS ?_ b1 | refine Blk.after ?_ b1 | refine RowIn.belowS ?_ b1 | refine Below.after ?_ b1 ?_) | (exact (Eq.refl _ : (_ : List Value) = _)) | omega | go_size)
  clear b1
  have ks_1 := zs_1.cell; have fs_1 := zs_1.frozen; have ls_1 := zs_1.lt
  go_wp2_with fail
  refine (rrc_val Ln p0 p1 q0 q1 ns cs As xs 0 _ hLn HFO.out.1 (by exact RowIn.row (lo := 0) (hi := w.heap.size) (by repeat' (first | (with_reducible first | assumption | exact Below.refl _ _ | refine Blk.drewN ?_ _ | refine RowIn.drewN ?_ _ | refine below_drewN ?_ _ | refine Blk.drew ?_ | refine RowIn.drew ?_ | refine Below.drew ?_) | (with_reducible refine Blk.new' ?_ ?_ <;> first | (with_reducible rfl) | (simp; done)) | (with_reducible first | refine Blk.alloc ?_ _ | refine RowIn.alloc ?_ _ | refine Below.alloc ?_ ?_ _ | apply Blk.set' | apply Blk.far' | refine RowIn.far' ?_ ?_ _ | refine Below.far' ?_ ?_ _ | refine RowV.drewN ?_ _ | refine RowV.drew ?_ | refine RowV.alloc ?_ _) | (exact (Eq.refl _ : (_ : List Value) = _)) | omega | go_size))) hcs hxl (Or.inl ⟨rfl, HFO.out⟩)).mono ?_
  rintro e w2 ⟨rfl, b2⟩
  have s2 := b2.size
  try simp only [World.size_alloc, World.size_setCell, World.size_drew, size_drewN] at s2
  obtain ⟨zs_2, rs_2, rt_2, rb_2, bb_2⟩ : Blk w2 (w.heap.size) 40 [.int .i64 (Ln : Int), .int .i64 (p0 : Int), .int .i64 (p1 : Int), .int .u64 (q0 : Int), .int .u64 (q1 : Int), .slice As ns cs, .int .i64 (((xs.length : Nat)) : Int)] ∧ RowIn .u8 w2 (0) (w.heap.size) As ns (pack xs) ∧ RowIn .u8 w2 (0) (w.heap.size) (some ⟨0, 0, none⟩) 64 dbTab ∧ RowIn .u8 w2 (0) (w.heap.size) Ab nb xsb ∧ Below w.heap.size w w2 := by
    refine ⟨?_, ?_, ?_, ?_, ?_⟩
    all_goals repeat' (first | (with_reducible first | assumption | exact Below.refl _ _ | refine Blk.drewN ?_ _ | refine RowIn.drewN ?_ _ | refine below_drewN ?_ _ | refine Blk.drew ?_ | refine RowIn.drew ?_ | refine Below.drew ?_) | (with_reducible refine Blk.new' ?_ ?_ <;> first | (with_reducible rfl) | (simp; done)) | (with_reducible first | refine Blk.alloc ?_ _ | refine RowIn.alloc ?_ _ | refine Below.alloc ?_ ?_ _ | apply Blk.set' | apply Blk.far' | refine RowIn.far' ?_ ?_ _ | refine Below.far' ?_ ?_ _ | refine RowV.drewN ?_ _ | refine RowV.drew ?_ | refine RowV.alloc ?_ _ | refine RowV.belowS ?_ b2 | refine Blk.after ?_ b2 | refine RowIn.belowS ?_ b2 | refine Below.after ?_ b2 ?_) | (exact (Eq.refl _ : (_ : List Value) = _)) | omega | go_size)
  clear zs_1 rs_1 rt_1 rb_1 bb_1 ks_1 fs_1 ls_1 b2
  have ks_2 := zs_2.cell; have fs_2 := zs_2.frozen; have ls_2 := zs_2.lt
  go_wp2_with fail
  go_loopg [5, 6] nb (fun k vones vi wr => ∃ (i cp : Nat) (Dp : Option Addr) (vsp : List Value) (psp : List (List Int)), i + k = nb ∧ vi = .int .i64 (i : Nat) ∧ vones = .slice Dp (2 * i) cp ∧ Hid (Pieces w vsp psp) ∧ Hid (psp.flatten = xsb.take i) ∧ OwnV wr w.heap.size 22 Dp (2 * i) cp vsp ∧ Blk wr (w.heap.size) 40 [.int .i64 (Ln : Int), .int .i64 (p0 : Int), .int .i64 (p1 : Int), .int .u64 (q0 : Int), .int .u64 (q1 : Int), .slice As ns cs, .int .i64 (((xs.length : Nat)) : Int)] ∧ Below w.heap.size w wr ∧ w.heap.size < wr.heap.size)
  case atStart =>
    refine ⟨0, 0, none, [], [], by omega, rfl, rfl, Lib.hid (Pieces.nil w), Lib.hid rfl, OwnV.nil _ _ _, ?_, ?_, ?_⟩
    all_goals repeat' (first | (with_reducible first | assumption | exact Below.refl _ _ | refine Blk.drewN ?_ _ | refine RowIn.drewN ?_ _ | refine below_drewN ?_ _ | refine Blk.drew ?_ | refine RowIn.drew ?_ | refine Below.drew ?_) | (with_reducible refine Blk.new' ?_ ?_ <;> first | (with_reducible rfl) | (simp; done)) | (with_reducible first | refine Blk.alloc ?_ _ | refine RowIn.alloc ?_ _ | refine Below.alloc ?_ ?_ _ | apply Blk.set' | apply Blk.far' | refine RowIn.far' ?_ ?_ _ | refine Below.far' ?_ ?_ _ | refine RowV.drewN ?_ _ | refine RowV.drew ?_ | refine RowV.alloc ?_ _) | (exact (Eq.refl _ : (_ : List Value) = _)) | omega | go_size)
  case round =>
    obtain ⟨i, cp, Dp, vsp, psp, hik, rfl, rfl, HP, HPF, own5, zs_5, bb_5, sw5⟩ := hrel
    clear zs_2 rs_2 rt_2 rb_2 bb_2 ks_2 fs_2 ls_2
    have s5 := bb_5.size
    have rs_5 : RowIn .u8 wr 0 w.heap.size As ns (pack xs) := hris.below bb_5 (Nat.le_refl _)
    have rb_5 : RowIn .u8 wr 0 w.heap.size Ab nb xsb := hrib.below bb_5 (Nat.le_refl _)
    have rt_5 : RowIn .u8 wr 0 w.heap.size (some ⟨0, 0, none⟩) 64 dbTab := hti.below bb_5 (Nat.le_refl _)
    have ks_5 := zs_5.cell; have fs_5 := zs_5.frozen; have ls_5 := zs_5.lt
    by_cases hlt : i < nb
    · have hlti : (i : Int) < (nb : Int) := by omega
      have hicb : (i : Int) + 1 ≤ (cb : Int) := by omega
      have hcbi : cb ≠ i := by omega
      have HR2 := row_rest hab (by omega : i ≤ nb) hcb.1
      rw [if_neg hcbi] at HR2
      have HR1 := row_firsts HR2 (by omega : 1 ≤ nb - i)
      have HP1 := HP.out.snoc (c := cb - i) (by omega) HR1
      have HP2 := Lib.hid (HP1.snoc (A := none) (n := 0) (c := 0) (xs := []) (by omega) Row.nil)
      have HPF2 : Hid ((psp ++ [(xsb.drop i).take 1] ++ [[]]).flatten = xsb.take (i + 1)) := Lib.hid (by rw [List.flatten_append, List.flatten_append, HPF.out, List.take_add]; simp)
      clear HR2 HR1 HP1
      go_wp2_with (at_builtin; go_loud (refine wpList_appV _ bytesE rfl _ _ rfl w.heap.size _ _ _ _ rfl (by exact own5.alloc _) ⟨wr.heap.size, 0, none⟩ 2 2 [.slice (Ab.map (·.add i)) 1 (cb - i), .slice none 0 0] rfl rfl (fresh_cells (Blk.new' rfl rfl)) (by intro u hu; simp at hu; rcases hu with rfl | rfl <;> rfl) (by omega) (by go_size) ?_))
      intro B8 d8 w8 own8 hg8 hat8
      have bb_8 : Below w.heap.size w w8 := (bb_5.alloc (by omega) _).grown hg8 (by go_size) (fun g e => (own5.block g e).1)
      have zs_8 : Blk w8 (w.heap.size) 40 [.int .i64 (Ln : Int), .int .i64 (p0 : Int), .int .i64 (p1 : Int), .int .u64 (q0 : Int), .int .u64 (q1 : Int), .slice As ns cs, .int .i64 (((xs.length : Nat)) : Int)] := (zs_5.alloc _).grown hg8 (fun e => own5.ne_blk zs_5 (by decide) e.symm)
      have s8 := bb_8.size
      have sw8 : w.heap.size < w8.heap.size := zs_8.lt
      clear hg8 hat8
      go_wp2
      rw [show 2 * i + 2 = 2 * (i + 1) by omega] at own8
      go_roundg (nb - (i + 1))
      case measure => omega
      case rel => exact ⟨i + 1, d8, B8, _, _, by omega, by go_num, by rw [show 2 * (i + 1) = 2 * i + 2 by omega], HP2, HPF2, by rw [List.append_assoc]; exact own8, zs_8, bb_8, sw8⟩
    · obtain rfl : nb = i := by omega
      have HPF3 : Hid (psp.flatten = xsb) := Lib.hid (by rw [HPF.out, List.take_of_length_le (by rw [HLb.out]; omega)])
      clear HPF
      have HPF := HPF3
      have hcp := own5.cap
      have HPD2 := HP.out
      have rones_5 := own5.rowV.mono (lo' := 0) (Nat.zero_le _) (Nat.le_refl _)
      go_wp2_with fail
      cases hfd : feed Ln ⟨p0, p1, q0, q1⟩ (xs ++ unpack xsb) with
      | err er =>
        have HFD := Lib.hid hfd
        clear hfd
        have ter : ((er : Int) == (er : Int)) = true := by simp
        have hee := feed_err HFO.out.1 HFD.out
        have ten : ((er : Int) != 0) = true := by rcases hee with rfl | rfl <;> rfl
        clear hee
        go_wp2_with fail
        refine (rfeed_e Ln p0 p1 q0 q1 ns cs As xs Ab nb cb xsb _ hLn HFO.out (by exact RowIn.row (lo := 0) (hi := w.heap.size) (by repeat' (first | (with_reducible first | assumption | exact Below.refl _ _ | refine Blk.drewN ?_ _ | refine RowIn.drewN ?_ _ | refine below_drewN ?_ _ | refine Blk.drew ?_ | refine RowIn.drew ?_ | refine Below.drew ?_) | (with_reducible refine Blk.new' ?_ ?_ <;> first | (with_reducible rfl) | (simp; done)) | (with_reducible first | refine Blk.alloc ?_ _ | refine RowIn.alloc ?_ _ | refine Below.alloc ?_ ?_ _ | apply Blk.set' | apply Blk.far' | refine RowIn.far' ?_ ?_ _ | refine Below.far' ?_ ?_ _ | refine RowV.drewN ?_ _ | refine RowV.drew ?_ | refine RowV.alloc ?_ _) | (exact (Eq.refl _ : (_ : List Value) = _)) | omega | go_size))) hcs (by exact RowIn.row (lo := 0) (hi := w.heap.size) (by repeat' (first | (with_reducible first | assumption | exact Below.refl _ _ | refine Blk.drewN ?_ _ | refine RowIn.drewN ?_ _ | refine below_drewN ?_ _ | refine Blk.drew ?_ | refine RowIn.drew ?_ | refine Below.drew ?_) | (with_reducible refine Blk.new' ?_ ?_ <;> first | (with_reducible rfl) | (simp; done)) | (with_reducible first | refine Blk.alloc ?_ _ | refine RowIn.alloc ?_ _ | refine Below.alloc ?_ ?_ _ | apply Blk.set' | apply Blk.far' | refine RowIn.far' ?_ ?_ _ | refine Below.far' ?_ ?_ _ | refine RowV.drewN ?_ _ | refine RowV.drew ?_ | refine RowV.alloc ?_ _) | (exact (Eq.refl _ : (_ : List Value) = _)) | omega | go_size))) hcb hxb (by exact RowIn.row (lo := 0) (hi := w.heap.size) (by repeat' (first | (with_reducible first | assumption | exact Below.refl _ _ | refine Blk.drewN ?_ _ | refine RowIn.drewN ?_ _ | refine below_drewN ?_ _ | refine Blk.drew ?_ | refine RowIn.drew ?_ | refine Below.drew ?_) | (with_reducible refine Blk.new' ?_ ?_ <;> first | (with_reducible rfl) | (simp; done)) | (with_reducible first | refine Blk.alloc ?_ _ | refine RowIn.alloc ?_ _ | refine Below.alloc ?_ ?_ _ | apply Blk.set' | apply Blk.far' | refine RowIn.far' ?_ ?_ _ | refine Below.far' ?_ ?_ _ | refine RowV.drewN ?_ _ | refine RowV.drew ?_ | refine RowV.alloc ?_ _) | (exact (Eq.refl _ : (_ : List Value) = _)) | omega | go_size))) (by omega) HFD.out).mono ?_
        rintro e w6 ⟨b6, rfl⟩
        have s6 := b6.size
        try simp only [World.size_alloc, World.size_setCell, World.size_drew, size_drewN] at s6
        obtain ⟨zs_6, rs_6, rt_6, rb_6, rones_6, bb_6⟩ : Blk w6 (w.heap.size) 40 [.int .i64 (Ln : Int), .int .i64 (p0 : Int), .int .i64 (p1 : Int), .int .u64 (q0 : Int), .int .u64 (q1 : Int), .slice As ns cs, .int .i64 (((xs.length : Nat)) : Int)] ∧ RowIn .u8 w6 (0) (w.heap.size) As ns (pack xs) ∧ RowIn .u8 w6 (0) (w.heap.size) (some ⟨0, 0, none⟩) 64 dbTab ∧ RowIn .u8 w6 (0) (w.heap.size) Ab nb xsb ∧ RowV w6 (0) (wr.heap.size) Dp (2 * nb) vsp ∧ Below w.heap.size w w6 := by
          refine ⟨?_, ?_, ?_, ?_, ?_, ?_⟩
          all_goals repeat' (first | (with_reducible first | assumption | exact Below.refl _ _ | refine Blk.drewN ?_ _ | refine RowIn.drewN ?_ _ | refine below_drewN ?_ _ | refine Blk.drew ?_ | refine RowIn.drew ?_ | refine Below.drew ?_) | (with_reducible refine Blk.new' ?_ ?_ <;> first | (with_reducible rfl) | (simp; done)) | (with_reducible first | refine Blk.alloc ?_ _ | refine RowIn.alloc ?_ _ | refine Below.alloc ?_ ?_ _ | apply Blk.set' | apply Blk.far' | refine RowIn.far' ?_ ?_ _ | refine Below.far' ?_ ?_ _ | refine RowV.drewN ?_ _ | refine RowV.drew ?_ | refine RowV.alloc ?_ _ | refine RowV.belowS ?_ b6 | refine Blk.after ?_ b6 | refine RowIn.belowS ?_ b6 | refine Below.after ?_ b6 ?_) | (exact (Eq.refl _ : (_ : List Value) = _)) | omega | go_size)
        clear zs_5 rs_5 rb_5 rt_5 bb_5 ks_5 fs_5 ls_5 rones_5 b6
        have ks_6 := zs_6.cell; have fs_6 := zs_6.frozen; have ls_6 := zs_6.lt
        go_wp2_with fail
        obtain ⟨w7, hw7⟩ : ∃ w7, w7 = w6.alloc (.cells #[.int .i64 0, .int .i64 0, .int .i64 0, .int .u64 0, .int .u64 0, .slice none 0 0, .int .i64 0] 40) := ⟨_, rfl⟩
        obtain ⟨zs_7, zx_7, rs_7, rt_7, rb_7, rones_7, bb_7, s7⟩ : Blk w7 (w.heap.size) 40 [.int .i64 (Ln : Int), .int .i64 (p0 : Int), .int .i64 (p1 : Int), .int .u64 (q0 : Int), .int .u64 (q1 : Int), .slice As ns cs, .int .i64 (((xs.length : Nat)) : Int)] ∧ Blk w7 (w6.heap.size) 40 [.int .i64 0, .int .i64 0, .int .i64 0, .int .u64 0, .int .u64 0, .slice none 0 0, .int .i64 0] ∧ RowIn .u8 w7 (0) (w.heap.size) As ns (pack xs) ∧ RowIn .u8 w7 (0) (w.heap.size) (some ⟨0, 0, none⟩) 64 dbTab ∧ RowIn .u8 w7 (0) (w.heap.size) Ab nb xsb ∧ RowV w7 (0) (wr.heap.size) Dp (2 * nb) vsp ∧ Below w.heap.size w w7 ∧ w6.heap.size ≤ w7.heap.size := by
          rw [hw7]
          refine ⟨?_, ?_, ?_, ?_, ?_, ?_, ?_, by go_size⟩
          all_goals repeat' (first | (with_reducible first | assumption | exact Below.refl _ _ | refine Blk.drewN ?_ _ | refine RowIn.drewN ?_ _ | refine below_drewN ?_ _ | refine Blk.drew ?_ | refine RowIn.drew ?_ | refine Below.drew ?_) | (with_reducible refine Blk.new' ?_ ?_ <;> first | (with_reducible rfl) | (simp; done)) | (with_reducible first | refine Blk.alloc ?_ _ | refine RowIn.alloc ?_ _ | refine Below.alloc ?_ ?_ _ | apply Blk.set' | apply Blk.far' | refine RowIn.far' ?_ ?_ _ | refine Below.far' ?_ ?_ _ | refine RowV.drewN ?_ _ | refine RowV.drew ?_ | refine RowV.alloc ?_ _) | (exact (Eq.refl _ : (_ : List Value) = _)) | omega | go_size)
        rw [← hw7]
        clear hw7
        clear zs_6 rs_6 rt_6 rb_6 rones_6 bb_6 ks_6 fs_6 ls_6
        have ks_7 := zs_7.cell; have fs_7 := zs_7.frozen; have ls_7 := zs_7.lt
        have kx_7 := zx_7.cell; have fx_7 := zx_7.frozen; have lx_7 := zx_7.lt
        refine (feeds_e Ln p0 p1 q0 q1 ns cs As xs Dp (2 * nb) cp vsp psp _ hLn HFO.out (by exact RowIn.row (lo := 0) (hi := w.heap.size) (by repeat' (first | (with_reducible first | assumption | exact Below.refl _ _ | refine Blk.drewN ?_ _ | refine RowIn.drewN ?_ _ | refine below_drewN ?_ _ | refine Blk.drew ?_ | refine RowIn.drew ?_ | refine Below.drew ?_) | (with_reducible refine Blk.new' ?_ ?_ <;> first | (with_reducible rfl) | (simp; done)) | (with_reducible first | refine Blk.alloc ?_ _ | refine RowIn.alloc ?_ _ | refine Below.alloc ?_ ?_ _ | apply Blk.set' | apply Blk.far' | refine RowIn.far' ?_ ?_ _ | refine Below.far' ?_ ?_ _ | refine RowV.drewN ?_ _ | refine RowV.drew ?_ | refine RowV.alloc ?_ _) | (exact (Eq.refl _ : (_ : List Value) = _)) | omega | go_size))) hcs (RowV.mono (lo := 0) (hi := wr.heap.size) (by first | exact rones_7 | exact rones_7.drew | exact rones_7.alloc _ | exact (rones_7.alloc _).drew) (Nat.le_refl _) (by go_size)) hcp (HPD2.below (by repeat' (first | (with_reducible first | assumption | exact Below.refl _ _ | refine Blk.drewN ?_ _ | refine RowIn.drewN ?_ _ | refine below_drewN ?_ _ | refine Blk.drew ?_ | refine RowIn.drew ?_ | refine Below.drew ?_) | (with_reducible refine Blk.new' ?_ ?_ <;> first | (with_reducible rfl) | (simp; done)) | (with_reducible first | refine Blk.alloc ?_ _ | refine RowIn.alloc ?_ _ | refine Below.alloc ?_ ?_ _ | apply Blk.set' | apply Blk.far4 | apply RowIn.far4 | apply Below.far4 | apply Blk.far2 | apply RowIn.far2 | apply Below.far2 | apply Blk.far' | refine RowIn.far' ?_ ?_ _ | refine Below.far' ?_ ?_ _ | refine RowV.drewN ?_ _ | refine RowV.drew ?_ | refine RowV.alloc ?_ _ | refine RowV.belowS ?_ bq | refine Blk.after ?_ bq | refine RowIn.belowS ?_ bq | refine Below.after ?_ bq ?_) | (exact (Eq.refl _ : (_ : List Value) = _)) | omega | go_size))) (flat_within HPF.out hxb (by rw [HLb.out]; omega)) (by exact RowIn.row (lo := 0) (hi := w.heap.size) (by repeat' (first | (with_reducible first | assumption | exact Below.refl _ _ | refine Blk.drewN ?_ _ | refine RowIn.drewN ?_ _ | refine below_drewN ?_ _ | refine Blk.drew ?_ | refine RowIn.drew ?_ | refine Below.drew ?_) | (with_reducible refine Blk.new' ?_ ?_ <;> first | (with_reducible rfl) | (simp; done)) | (with_reducible first | refine Blk.alloc ?_ _ | refine RowIn.alloc ?_ _ | refine Below.alloc ?_ ?_ _ | apply Blk.set' | apply Blk.far' | refine RowIn.far' ?_ ?_ _ | refine Below.far' ?_ ?_ _ | refine RowV.drewN ?_ _ | refine RowV.drew ?_ | refine RowV.alloc ?_ _) | (exact (Eq.refl _ : (_ : List Value) = _)) | omega | go_size))) (by omega) (by rw [HPF.out]; exact HFD.out)).mono ?_
        rintro e w8 ⟨b8, rfl⟩
        have s8 := b8.size
        try simp only [World.size_alloc, World.size_setCell, World.size_drew, size_drewN] at s8
        obtain ⟨zs_8, zx_8, rs_8, rt_8, rb_8, bb_8⟩ : Blk w8 (w.heap.size) 40 [.int .i64 (Ln : Int), .int .i64 (p0 : Int), .int .i64 (p1 : Int), .int .u64 (q0 : Int), .int .u64 (q1 : Int), .slice As ns cs, .int .i64 (((xs.length : Nat)) : Int)] ∧ Blk w8 (w6.heap.size) 40 [.int .i64 0, .int .i64 0, .int .i64 0, .int .u64 0, .int .u64 0, .slice none 0 0, .int .i64 0] ∧ RowIn .u8 w8 (0) (w.heap.size) As ns (pack xs) ∧ RowIn .u8 w8 (0) (w.heap.size) (some ⟨0, 0, none⟩) 64 dbTab ∧ RowIn .u8 w8 (0) (w.heap.size) Ab nb xsb ∧ Below w.heap.size w w8 := by
          refine ⟨?_, ?_, ?_, ?_, ?_, ?_⟩
          all_goals repeat' (first | (with_reducible first | assumption | exact Below.refl _ _ | refine Blk.drewN ?_ _ | refine RowIn.drewN ?_ _ | refine below_drewN ?_ _ | refine Blk.drew ?_ | refine RowIn.drew ?_ | refine Below.drew ?_) | (with_reducible refine Blk.new' ?_ ?_ <;> first | (with_reducible rfl) | (simp; done)) | (with_reducible first | refine Blk.alloc ?_ _ | refine RowIn.alloc ?_ _ | refine Below.alloc ?_ ?_ _ | apply Blk.set' | apply Blk.far' | refine RowIn.far' ?_ ?_ _ | refine Below.far' ?_ ?_ _ | refine RowV.drewN ?_ _ | refine RowV.drew ?_ | refine RowV.alloc ?_ _ | refine RowV.belowS ?_ b8 | refine Blk.after ?_ b8 | refine RowIn.belowS ?_ b8 | refine Below.after ?_ b8 ?_) | (exact (Eq.refl _ : (_ : List Value) = _)) | omega | go_size)
        clear zs_7 zx_7 rs_7 rt_7 rb_7 rones_7 bb_7 ks_7 fs_7 ls_7 kx_7 fx_7 lx_7 b8
        have ks_8 := zs_8.cell; have fs_8 := zs_8.frozen; have ls_8 := zs_8.lt
        have kx_8 := zx_8.cell; have fx_8 := zx_8.frozen; have lx_8 := zx_8.lt
        go_wp2_with fail
        obtain ⟨w9, hw9⟩ : ∃ w9, w9 = w8.alloc (.cells #[.int .i64 0, .int .i64 0, .int .i64 0, .int .u64 0, .int .u64 0, .slice none 0 0, .int .i64 0] 40) := ⟨_, rfl⟩
        obtain ⟨zs_9, zx_9, zy_9, rs_9, rt_9, rb_9, bb_9, s9⟩ : Blk w9 (w.heap.size) 40 [.int .i64 (Ln : Int), .int .i64 (p0 : Int), .int .i64 (p1 : Int), .int .u64 (q0 : Int), .int .u64 (q1 : Int), .slice As ns cs, .int .i64 (((xs.length : Nat)) : Int)] ∧ Blk w9 (w6.heap.size) 40 [.int .i64 0, .int .i64 0, .int .i64 0, .int .u64 0, .int .u64 0, .slice none 0 0, .int .i64 0] ∧ Blk w9 (w8.heap.size) 40 [.int .i64 0, .int .i64 0, .int .i64 0, .int .u64 0, .int .u64 0, .slice none 0 0, .int .i64 0] ∧ RowIn .u8 w9 (0) (w.heap.size) As ns (pack xs) ∧ RowIn .u8 w9 (0) (w.heap.size) (some ⟨0, 0, none⟩) 64 dbTab ∧ RowIn .u8 w9 (0) (w.heap.size) Ab nb xsb ∧ Below w.heap.size w w9 ∧ w8.heap.size ≤ w9.heap.size := by
          rw [hw9]
          refine ⟨?_, ?_, ?_, ?_, ?_, ?_, ?_, by go_size⟩
          all_goals repeat' (first | (with_reducible first | assumption | exact Below.refl _ _ | refine Blk.drewN ?_ _ | refine RowIn.drewN ?_ _ | refine below_drewN ?_ _ | refine Blk.drew ?_ | refine RowIn.drew ?_ | refine Below.drew ?_) | (with_reducible refine Blk.new' ?_ ?_ <;> first | (with_reducible rfl) | (simp; done)) | (with_reducible first | refine Blk.alloc ?_ _ | refine RowIn.alloc ?_ _ | refine Below.alloc ?_ ?_ _ | apply Blk.set' | apply Blk.far' | refine RowIn.far' ?_ ?_ _ | refine Below.far' ?_ ?_ _ | refine RowV.drewN ?_ _ | refine RowV.drew ?_ | refine RowV.alloc ?_ _) | (exact (Eq.refl _ : (_ : List Value) = _)) | omega | go_size)
        rw [← hw9]
        clear hw9
        clear zs_8 zx_8 rs_8 rt_8 rb_8 bb_8 ks_8 fs_8 ls_8 kx_8 fx_8 lx_8
        have ks_9 := zs_9.cell; have fs_9 := zs_9.frozen; have ls_9 := zs_9.lt
        have kx_9 := zx_9.cell; have fx_9 := zx_9.frozen; have lx_9 := zx_9.lt
        have ky_9 := zy_9.cell; have fy_9 := zy_9.frozen; have ly_9 := zy_9.lt
        refine (rrsame_eq 0 0 0 0 0 0 0 0 0 0 0 none none [] [] _ Row.nil Row.nil (fun x hx => by simp at hx) rfl rfl).mono ?_
        rintro e w10 ⟨rfl, b10⟩
        have s10 := b10.size
        try simp only [World.size_alloc, World.size_setCell, World.size_drew, size_drewN] at s10
        obtain ⟨zs_10, zx_10, rs_10, rt_10, rb_10, bb_10⟩ : Blk w10 (w.heap.size) 40 [.int .i64 (Ln : Int), .int .i64 (p0 : Int), .int .i64 (p1 : Int), .int .u64 (q0 : Int), .int .u64 (q1 : Int), .slice As ns cs, .int .i64 (((xs.length : Nat)) : Int)] ∧ Blk w10 (w6.heap.size) 40 [.int .i64 0, .int .i64 0, .int .i64 0, .int .u64 0, .int .u64 0, .slice none 0 0, .int .i64 0] ∧ RowIn .u8 w10 (0) (w.heap.size) As ns (pack xs) ∧ RowIn .u8 w10 (0) (w.heap.size) (some ⟨0, 0, none⟩) 64 dbTab ∧ RowIn .u8 w10 (0) (w.heap.size) Ab nb xsb ∧ Below w.heap.size w w10 := by
          refine ⟨?_, ?_, ?_, ?_, ?_, ?_⟩
          all_goals repeat' (first | (with_reducible first | assumption | exact Below.refl _ _ | refine Blk.drewN ?_ _ | refine RowIn.drewN ?_ _ | refine below_drewN ?_ _ | refine Blk.drew ?_ | refine RowIn.drew ?_ | refine Below.drew ?_) | (with_reducible refine Blk.new' ?_ ?_ <;> first | (with_reducible rfl) | (simp; done)) | (with_reducible first | refine Blk.alloc ?_ _ | refine RowIn.alloc ?_ _ | refine Below.alloc ?_ ?_ _ | apply Blk.set' | apply Blk.far' | refine RowIn.far' ?_ ?_ _ | refine Below.far' ?_ ?_ _ | refine RowV.drewN ?_ _ | refine RowV.drew ?_ | refine RowV.alloc ?_ _ | refine RowV.belowS ?_ b10 | refine Blk.after ?_ b10 | refine RowIn.belowS ?_ b10 | refine Below.after ?_ b10 ?_) | (exact (Eq.refl _ : (_ : List Value) = _)) | omega | go_size)
        clear zs_9 zx_9 zy_9 rs_9 rt_9 rb_9 bb_9 ks_9 fs_9 ls_9 kx_9 fx_9 lx_9 ky_9 fy_9 ly_9 b10
        have ks_10 := zs_10.cell; have fs_10 := zs_10.frozen; have ls_10 := zs_10.lt
        have kx_10 := zx_10.cell; have fx_10 := zx_10.frozen; have lx_10 := zx_10.lt
        go_wp2_with fail
        refine (r9same_eq none none 0 0 0 0 [] [] _ Row.nil Row.nil (by omega) rfl).mono ?_
        rintro e w11 ⟨rfl, b11⟩
        have s11 := b11.size
        try simp only [World.size_alloc, World.size_setCell, World.size_drew, size_drewN] at s11
        obtain ⟨zs_11, zx_11, rs_11, rt_11, rb_11, bb_11⟩ : Blk w11 (w.heap.size) 40 [.int .i64 (Ln : Int), .int .i64 (p0 : Int), .int .i64 (p1 : Int), .int .u64 (q0 : Int), .int .u64 (q1 : Int), .slice As ns cs, .int .i64 (((xs.length : Nat)) : Int)] ∧ Blk w11 (w6.heap.size) 40 [.int .i64 0, .int .i64 0, .int .i64 0, .int .u64 0, .int .u64 0, .slice none 0 0, .int .i64 0] ∧ RowIn .u8 w11 (0) (w.heap.size) As ns (pack xs) ∧ RowIn .u8 w11 (0) (w.heap.size) (some ⟨0, 0, none⟩) 64 dbTab ∧ RowIn .u8 w11 (0) (w.heap.size) Ab nb xsb ∧ Below w.heap.size w w11 := by
          refine ⟨?_, ?_, ?_, ?_, ?_, ?_⟩
          all_goals repeat' (first | (with_reducible first | assumption | exact Below.refl _ _ | refine Blk.drewN ?_ _ | refine RowIn.drewN ?_ _ | refine below_drewN ?_ _ | refine Blk.drew ?_ | refine RowIn.drew ?_ | refine Below.drew ?_) | (with_reducible refine Blk.new' ?_ ?_ <;> first | (with_reducible rfl) | (simp; done)) | (with_reducible first | refine Blk.alloc ?_ _ | refine RowIn.alloc ?_ _ | refine Below.alloc ?_ ?_ _ | apply Blk.set' | apply Blk.far' | refine RowIn.far' ?_ ?_ _ | refine Below.far' ?_ ?_ _ | refine RowV.drewN ?_ _ | refine RowV.drew ?_ | refine RowV.alloc ?_ _ | refine RowV.belowS ?_ b11 | refine Blk.after ?_ b11 | refine RowIn.belowS ?_ b11 | refine Below.after ?_ b11 ?_) | (exact (Eq.refl _ : (_ : List Value) = _)) | omega | go_size)
        clear zs_10 zx_10 rs_10 rt_10 rb_10 bb_10 ks_10 fs_10 ls_10 kx_10 fx_10 lx_10 b11
        have ks_11 := zs_11.cell; have fs_11 := zs_11.frozen; have ls_11 := zs_11.lt
        have kx_11 := zx_11.cell; have fx_11 := zx_11.frozen; have lx_11 := zx_11.lt
        go_wp2_with fail
        refine (alive10 _ (by exact RowIn.row (lo := 0) (hi := w.heap.size) (by repeat' (first | (with_reducible first | assumption | exact Below.refl _ _ | refine Blk.drewN ?_ _ | refine RowIn.drewN ?_ _ | refine below_drewN ?_ _ | refine Blk.drew ?_ | refine RowIn.drew ?_ | refine Below.drew ?_) | (with_reducible refine Blk.new' ?_ ?_ <;> first | (with_reducible rfl) | (simp; done)) | (with_reducible first | refine Blk.alloc ?_ _ | refine RowIn.alloc ?_ _ | refine Below.alloc ?_ ?_ _ | apply Blk.set' | apply Blk.far' | refine RowIn.far' ?_ ?_ _ | refine Below.far' ?_ ?_ _ | refine RowV.drewN ?_ _ | refine RowV.drew ?_ | refine RowV.alloc ?_ _) | (exact (Eq.refl _ : (_ : List Value) = _)) | omega | go_size)))).mono ?_
        rintro e w12 ⟨rfl, b12⟩
        have s12 := b12.size
        try simp only [World.size_alloc, World.size_setCell, World.size_drew, size_drewN] at s12
        have bb_12 : Below w.heap.size w w12 := by
          repeat' (first | (with_reducible first | assumption | exact Below.refl _ _ | refine Blk.drewN ?_ _ | refine RowIn.drewN ?_ _ | refine below_drewN ?_ _ | refine Blk.drew ?_ | refine RowIn.drew ?_ | refine Below.drew ?_) | (with_reducible refine Blk.new' ?_ ?_ <;> first | (with_reducible rfl) | (simp; done)) | (with_reducible first | refine Blk.alloc ?_ _ | refine RowIn.alloc ?_ _ | refine Below.alloc ?_ ?_ _ | apply Blk.set' | apply Blk.far' | refine RowIn.far' ?_ ?_ _ | refine Below.far' ?_ ?_ _ | refine RowV.drewN ?_ _ | refine RowV.drew ?_ | refine RowV.alloc ?_ _ | refine RowV.belowS ?_ b12 | refine Blk.after ?_ b12 | refine RowIn.belowS ?_ b12 | refine Below.after ?_ b12 ?_) | (exact (Eq.refl _ : (_ : List Value) = _)) | omega | go_size)
        clear zs_11 zx_11 rs_11 rt_11 rb_11 bb_11 ks_11 fs_11 ls_11 kx_11 fx_11 lx_11 b12
        go_wp2
        go_ret
        refine ⟨rfl, ?_⟩
        repeat' (first | (with_reducible first | assumption | exact Below.refl _ _ | refine Blk.drewN ?_ _ | refine RowIn.drewN ?_ _ | refine below_drewN ?_ _ | refine Blk.drew ?_ | refine RowIn.drew ?_ | refine Below.drew ?_) | (with_reducible refine Blk.new' ?_ ?_ <;> first | (with_reducible rfl) | (simp; done)) | (with_reducible first | refine Blk.alloc ?_ _ | refine RowIn.alloc ?_ _ | refine Below.alloc ?_ ?_ _ | apply Blk.set' | apply Blk.far' | refine RowIn.far' ?_ ?_ _ | refine Below.far' ?_ ?_ _ | refine RowV.drewN ?_ _ | refine RowV.drew ?_ | refine RowV.alloc ?_ _) | (exact (Eq.refl _ : (_ : List Value) = _)) | omega | go_size)
      | ok us n2 d2 r2 =>
        obtain ⟨⟨u0, u1, v0, v1⟩, hd2⟩ : ∃ q, q = d2 := ⟨_, rfl⟩
        subst hd2
        obtain ⟨f1, f2, f3, f4, f5⟩ := feed_ok HFO.out.1 hfd
        have HFD := Lib.hid hfd
        have HF1 := Lib.hid f1
        have hsh2 := f1.short
        clear hfd f1 f3 f4 f5
        go_wp2_with fail
        refine (rfeed_c Ln p0 p1 q0 q1 ns cs As xs Ab nb cb xsb _ hLn HFO.out (by exact RowIn.row (lo := 0) (hi := w.heap.size) (by repeat' (first | (with_reducible first | assumption | exact Below.refl _ _ | refine Blk.drewN ?_ _ | refine RowIn.drewN ?_ _ | refine below_drewN ?_ _ | refine Blk.drew ?_ | refine RowIn.drew ?_ | refine Below.drew ?_) | (with_reducible refine Blk.new' ?_ ?_ <;> first | (with_reducible rfl) | (simp; done)) | (with_reducible first | refine Blk.alloc ?_ _ | refine RowIn.alloc ?_ _ | refine Below.alloc ?_ ?_ _ | apply Blk.set' | apply Blk.far' | refine RowIn.far' ?_ ?_ _ | refine Below.far' ?_ ?_ _ | refine RowV.drewN ?_ _ | refine RowV.drew ?_ | refine RowV.alloc ?_ _) | (exact (Eq.refl _ : (_ : List Value) = _)) | omega | go_size))) hcs (by exact RowIn.row (lo := 0) (hi := w.heap.size) (by repeat' (first | (with_reducible first | assumption | exact Below.refl _ _ | refine Blk.drewN ?_ _ | refine RowIn.drewN ?_ _ | refine below_drewN ?_ _ | refine Blk.drew ?_ | refine RowIn.drew ?_ | refine Below.drew ?_) | (with_reducible refine Blk.new' ?_ ?_ <;> first | (with_reducible rfl) | (simp; done)) | (with_reducible first | refine Blk.alloc ?_ _ | refine RowIn.alloc ?_ _ | refine Below.alloc ?_ ?_ _ | apply Blk.set' | apply Blk.far' | refine RowIn.far' ?_ ?_ _ | refine Below.far' ?_ ?_ _ | refine RowV.drewN ?_ _ | refine RowV.drew ?_ | refine RowV.alloc ?_ _) | (exact (Eq.refl _ : (_ : List Value) = _)) | omega | go_size))) hcb hxb (by exact RowIn.row (lo := 0) (hi := w.heap.size) (by repeat' (first | (with_reducible first | assumption | exact Below.refl _ _ | refine Blk.drewN ?_ _ | refine RowIn.drewN ?_ _ | refine below_drewN ?_ _ | refine Blk.drew ?_ | refine RowIn.drew ?_ | refine Below.drew ?_) | (with_reducible refine Blk.new' ?_ ?_ <;> first | (with_reducible rfl) | (simp; done)) | (with_reducible first | refine Blk.alloc ?_ _ | refine RowIn.alloc ?_ _ | refine Below.alloc ?_ ?_ _ | apply Blk.set' | apply Blk.far' | refine RowIn.far' ?_ ?_ _ | refine Below.far' ?_ ?_ _ | refine RowV.drewN ?_ _ | refine RowV.drew ?_ | refine RowV.alloc ?_ _) | (exact (Eq.refl _ : (_ : List Value) = _)) | omega | go_size))) (by omega) HFD.out).mono ?_
        rintro e w6 ⟨mx, cx, kx, dx, Ax, Bx, xx, zx, rfl, hcx, HXx, rx, hdx, HZx, rlx, b6⟩
        have lnx := rlx.len
        replace rx := rx.mono (lo' := wr.heap.size + 0) (by go_size) (Nat.le_refl _)
        replace rlx := rlx.mono (lo' := wr.heap.size + 0) (by go_size) (Nat.le_refl _)
        have s6 := b6.size
        try simp only [World.size_alloc, World.size_setCell, World.size_drew, size_drewN] at s6
        obtain ⟨zs_6, rs_6, rt_6, rb_6, rones_6, rx_6, rlx_6, bb_6⟩ : Blk w6 (w.heap.size) 40 [.int .i64 (Ln : Int), .int .i64 (p0 : Int), .int .i64 (p1 : Int), .int .u64 (q0 : Int), .int .u64 (q1 : Int), .slice As ns cs, .int .i64 (((xs.length : Nat)) : Int)] ∧ RowIn .u8 w6 (0) (w.heap.size) As ns (pack xs) ∧ RowIn .u8 w6 (0) (w.heap.size) (some ⟨0, 0, none⟩) 64 dbTab ∧ RowIn .u8 w6 (0) (w.heap.size) Ab nb xsb ∧ RowV w6 (0) (wr.heap.size) Dp (2 * nb) vsp ∧ RowIn .u8 w6 (wr.heap.size + 0) (w6.heap.size) Ax mx (pack xx) ∧ RowIn .u32 w6 (wr.heap.size + 0) (w6.heap.size) Bx kx zx ∧ Below w.heap.size w w6 := by
          refine ⟨?_, ?_, ?_, ?_, ?_, ?_, ?_, ?_⟩
          all_goals repeat' (first | (with_reducible first | assumption | exact Below.refl _ _ | refine Blk.drewN ?_ _ | refine RowIn.drewN ?_ _ | refine below_drewN ?_ _ | refine Blk.drew ?_ | refine RowIn.drew ?_ | refine Below.drew ?_) | (with_reducible refine Blk.new' ?_ ?_ <;> first | (with_reducible rfl) | (simp; done)) | (with_reducible first | refine Blk.alloc ?_ _ | refine RowIn.alloc ?_ _ | refine Below.alloc ?_ ?_ _ | apply Blk.set' | apply Blk.far' | refine RowIn.far' ?_ ?_ _ | refine Below.far' ?_ ?_ _ | refine RowV.drewN ?_ _ | refine RowV.drew ?_ | refine RowV.alloc ?_ _ | refine RowV.belowS ?_ b6 | refine Blk.after ?_ b6 | refine RowIn.belowS ?_ b6 | refine Below.after ?_ b6 ?_) | (exact (Eq.refl _ : (_ : List Value) = _)) | omega | go_size)
        clear zs_5 rs_5 rb_5 rt_5 bb_5 ks_5 fs_5 ls_5 rones_5 b6
        have ks_6 := zs_6.cell; have fs_6 := zs_6.frozen; have ls_6 := zs_6.lt
        clear rx rlx
        have hkx : kx = us.length := by rw [← lnx, HZx.out, ints_len]
        have HKX := Lib.hid hkx
        have hkn : kx + n2 = Ln := by omega
        have tkn : ((n2 : Int) + (kx : Int) == (Ln : Int)) = true := beq_iff_eq.2 (by omega)
        have hkx4 : kx ≤ 4000 := by omega
        have hn24 : n2 ≤ 4000 := by omega
        have hlx : xx.length ≤ 80 := by rw [HXx.out]; exact hsh2
        clear hkx hkn f2
        go_wp2_with fail
        obtain ⟨w7, hw7⟩ : ∃ w7, w7 = w6.alloc (.cells #[.int .i64 (n2 : Int), .int .i64 (u0 : Int), .int .i64 (u1 : Int), .int .u64 (v0 : Int), .int .u64 (v1 : Int), .slice Ax mx cx, .int .i64 (((xx.length : Nat)) : Int)] 40) := ⟨_, rfl⟩
        obtain ⟨zs_7, zx_7, rs_7, rt_7, rb_7, rones_7, rx_7, rlx_7, bb_7, s7⟩ : Blk w7 (w.heap.size) 40 [.int .i64 (Ln : Int), .int .i64 (p0 : Int), .int .i64 (p1 : Int), .int .u64 (q0 : Int), .int .u64 (q1 : Int), .slice As ns cs, .int .i64 (((xs.length : Nat)) : Int)] ∧ Blk w7 (w6.heap.size) 40 [.int .i64 (n2 : Int), .int .i64 (u0 : Int), .int .i64 (u1 : Int), .int .u64 (v0 : Int), .int .u64 (v1 : Int), .slice Ax mx cx, .int .i64 (((xx.length : Nat)) : Int)] ∧ RowIn .u8 w7 (0) (w.heap.size) As ns (pack xs) ∧ RowIn .u8 w7 (0) (w.heap.size) (some ⟨0, 0, none⟩) 64 dbTab ∧ RowIn .u8 w7 (0) (w.heap.size) Ab nb xsb ∧ RowV w7 (0) (wr.heap.size) Dp (2 * nb) vsp ∧ RowIn .u8 w7 (wr.heap.size + 0) (w6.heap.size) Ax mx (pack xx) ∧ RowIn .u32 w7 (wr.heap.size + 0) (w6.heap.size) Bx kx zx ∧ Below w.heap.size w w7 ∧ w6.heap.size ≤ w7.heap.size := by
          rw [hw7]
          refine ⟨?_, ?_, ?_, ?_, ?_, ?_, ?_, ?_, ?_, by go_size⟩
          all_goals repeat' (first | (with_reducible first | assumption | exact Below.refl _ _ | refine Blk.drewN ?_ _ | refine RowIn.drewN ?_ _ | refine below_drewN ?_ _ | refine Blk.drew ?_ | refine RowIn.drew ?_ | refine Below.drew ?_) | (with_reducible refine Blk.new' ?_ ?_ <;> first | (with_reducible rfl) | (simp; done)) | (with_reducible first | refine Blk.alloc ?_ _ | refine RowIn.alloc ?_ _ | refine Below.alloc ?_ ?_ _ | apply Blk.set' | apply Blk.far' | refine RowIn.far' ?_ ?_ _ | refine Below.far' ?_ ?_ _ | refine RowV.drewN ?_ _ | refine RowV.drew ?_ | refine RowV.alloc ?_ _) | (exact (Eq.refl _ : (_ : List Value) = _)) | omega | go_size)
        rw [← hw7]
        clear hw7
        clear zs_6 rs_6 rt_6 rb_6 rones_6 rx_6 rlx_6 bb_6 ks_6 fs_6 ls_6
        have ks_7 := zs_7.cell; have fs_7 := zs_7.frozen; have ls_7 := zs_7.lt
        have kx_7 := zx_7.cell; have fx_7 := zx_7.frozen; have lx_7 := zx_7.lt
        refine (feeds_c Ln p0 p1 q0 q1 ns cs As xs Dp (2 * nb) cp vsp psp _ hLn HFO.out (by exact RowIn.row (lo := 0) (hi := w.heap.size) (by repeat' (first | (with_reducible first | assumption | exact Below.refl _ _ | refine Blk.drewN ?_ _ | refine RowIn.drewN ?_ _ | refine below_drewN ?_ _ | refine Blk.drew ?_ | refine RowIn.drew ?_ | refine Below.drew ?_) | (with_reducible refine Blk.new' ?_ ?_ <;> first | (with_reducible rfl) | (simp; done)) | (with_reducible first | refine Blk.alloc ?_ _ | refine RowIn.alloc ?_ _ | refine Below.alloc ?_ ?_ _ | apply Blk.set' | apply Blk.far' | refine RowIn.far' ?_ ?_ _ | refine Below.far' ?_ ?_ _ | refine RowV.drewN ?_ _ | refine RowV.drew ?_ | refine RowV.alloc ?_ _) | (exact (Eq.refl _ : (_ : List Value) = _)) | omega | go_size))) hcs (RowV.mono (lo := 0) (hi := wr.heap.size) (by first | exact rones_7 | exact rones_7.drew | exact rones_7.alloc _ | exact (rones_7.alloc _).drew) (Nat.le_refl _) (by go_size)) hcp (HPD2.below (by repeat' (first | (with_reducible first | assumption | exact Below.refl _ _ | refine Blk.drewN ?_ _ | refine RowIn.drewN ?_ _ | refine below_drewN ?_ _ | refine Blk.drew ?_ | refine RowIn.drew ?_ | refine Below.drew ?_) | (with_reducible refine Blk.new' ?_ ?_ <;> first | (with_reducible rfl) | (simp; done)) | (with_reducible first | refine Blk.alloc ?_ _ | refine RowIn.alloc ?_ _ | refine Below.alloc ?_ ?_ _ | apply Blk.set' | apply Blk.far4 | apply RowIn.far4 | apply Below.far4 | apply Blk.far2 | apply RowIn.far2 | apply Below.far2 | apply Blk.far' | refine RowIn.far' ?_ ?_ _ | refine Below.far' ?_ ?_ _ | refine RowV.drewN ?_ _ | refine RowV.drew ?_ | refine RowV.alloc ?_ _ | refine RowV.belowS ?_ bq | refine Blk.after ?_ bq | refine RowIn.belowS ?_ bq | refine Below.after ?_ bq ?_) | (exact (Eq.refl _ : (_ : List Value) = _)) | omega | go_size))) (flat_within HPF.out hxb (by rw [HLb.out]; omega)) (by exact RowIn.row (lo := 0) (hi := w.heap.size) (by repeat' (first | (with_reducible first | assumption | exact Below.refl _ _ | refine Blk.drewN ?_ _ | refine RowIn.drewN ?_ _ | refine below_drewN ?_ _ | refine Blk.drew ?_ | refine RowIn.drew ?_ | refine Below.drew ?_) | (with_reducible refine Blk.new' ?_ ?_ <;> first | (with_reducible rfl) | (simp; done)) | (with_reducible first | refine Blk.alloc ?_ _ | refine RowIn.alloc ?_ _ | refine Below.alloc ?_ ?_ _ | apply Blk.set' | apply Blk.far' | refine RowIn.far' ?_ ?_ _ | refine Below.far' ?_ ?_ _ | refine RowV.drewN ?_ _ | refine RowV.drew ?_ | refine RowV.alloc ?_ _) | (exact (Eq.refl _ : (_ : List Value) = _)) | omega | go_size))) (by omega) (by rw [HPF.out]; exact HFD.out)).mono ?_
        rintro e w8 ⟨my, cy, ky, dy, Ay, By, xy, zy, rfl, hcy, HXy, ry, hdy, HZy, rly, b8⟩
        have s8 := b8.size
        try simp only [World.size_alloc, World.size_setCell, World.size_drew, size_drewN] at s8
        obtain ⟨zs_8, zx_8, rs_8, rt_8, rb_8, rx_8, rlx_8, ry_8, rly_8, bb_8⟩ : Blk w8 (w.heap.size) 40 [.int .i64 (Ln : Int), .int .i64 (p0 : Int), .int .i64 (p1 : Int), .int .u64 (q0 : Int), .int .u64 (q1 : Int), .slice As ns cs, .int .i64 (((xs.length : Nat)) : Int)] ∧ Blk w8 (w6.heap.size) 40 [.int .i64 (n2 : Int), .int .i64 (u0 : Int), .int .i64 (u1 : Int), .int .u64 (v0 : Int), .int .u64 (v1 : Int), .slice Ax mx cx, .int .i64 (((xx.length : Nat)) : Int)] ∧ RowIn .u8 w8 (0) (w.heap.size) As ns (pack xs) ∧ RowIn .u8 w8 (0) (w.heap.size) (some ⟨0, 0, none⟩) 64 dbTab ∧ RowIn .u8 w8 (0) (w.heap.size) Ab nb xsb ∧ RowIn .u8 w8 (wr.heap.size + 0) (w6.heap.size) Ax mx (pack xx) ∧ RowIn .u32 w8 (wr.heap.size + 0) (w6.heap.size) Bx kx zx ∧ RowIn .u8 w8 (0) (w8.heap.size) Ay my (pack xy) ∧ RowIn .u32 w8 (0) (w8.heap.size) By ky zy ∧ Below w.heap.size w w8 := by
          refine ⟨?_, ?_, ?_, ?_, ?_, ?_, ?_, ?_, ?_, ?_⟩
          all_goals repeat' (first | (with_reducible first | assumption | exact Below.refl _ _ | refine Blk.drewN ?_ _ | refine RowIn.drewN ?_ _ | refine below_drewN ?_ _ | refine Blk.drew ?_ | refine RowIn.drew ?_ | refine Below.drew ?_) | (with_reducible refine Blk.new' ?_ ?_ <;> first | (with_reducible rfl) | (simp; done)) | (with_reducible first | refine Blk.alloc ?_ _ | refine RowIn.alloc ?_ _ | refine Below.alloc ?_ ?_ _ | apply Blk.set' | apply Blk.far' | refine RowIn.far' ?_ ?_ _ | refine Below.far' ?_ ?_ _ | refine RowV.drewN ?_ _ | refine RowV.drew ?_ | refine RowV.alloc ?_ _ | refine RowV.belowS ?_ b8 | refine Blk.after ?_ b8 | refine RowIn.belowS ?_ b8 | refine Below.after ?_ b8 ?_) | (exact (Eq.refl _ : (_ : List Value) = _)) | omega | go_size)
        clear zs_7 zx_7 rs_7 rt_7 rb_7 rones_7 rx_7 rlx_7 bb_7 ks_7 fs_7 ls_7 kx_7 fx_7 lx_7 b8
        have ks_8 := zs_8.cell; have fs_8 := zs_8.frozen; have ls_8 := zs_8.lt
        have kx_8 := zx_8.cell; have fx_8 := zx_8.frozen; have lx_8 := zx_8.lt
        clear ry rly
        have HE1 : Hid (pack xx = pack xy) := Lib.hid (by rw [HXx.out, HXy.out])
        have HE2 : Hid (((xx.length : Nat) : Int) = ((xy.length : Nat) : Int)) := Lib.hid (by rw [HXx.out, HXy.out])
        have HE3 : Hid (zx = zy) := Lib.hid (by rw [HZx.out, HZy.out])
        go_wp2_with fail
        refine (rrsame_eq n2 u0 u1 v0 v1 _ _ mx cx my cy Ax Ay (pack xx) (pack xy) _ (by exact RowIn.row (lo := wr.heap.size + 0) (hi := w6.heap.size) (by repeat' (first | (with_reducible first | assumption | exact Below.refl _ _ | refine Blk.drewN ?_ _ | refine RowIn.drewN ?_ _ | refine below_drewN ?_ _ | refine Blk.drew ?_ | refine RowIn.drew ?_ | refine Below.drew ?_) | (with_reducible refine Blk.new' ?_ ?_ <;> first | (with_reducible rfl) | (simp; done)) | (with_reducible first | refine Blk.alloc ?_ _ | refine RowIn.alloc ?_ _ | refine Below.alloc ?_ ?_ _ | apply Blk.set' | apply Blk.far' | refine RowIn.far' ?_ ?_ _ | refine Below.far' ?_ ?_ _ | refine RowV.drewN ?_ _ | refine RowV.drew ?_ | refine RowV.alloc ?_ _) | (exact (Eq.refl _ : (_ : List Value) = _)) | omega | go_size))) (by exact RowIn.row (lo := 0) (hi := w8.heap.size) (by repeat' (first | (with_reducible first | assumption | exact Below.refl _ _ | refine Blk.drewN ?_ _ | refine RowIn.drewN ?_ _ | refine below_drewN ?_ _ | refine Blk.drew ?_ | refine RowIn.drew ?_ | refine Below.drew ?_) | (with_reducible refine Blk.new' ?_ ?_ <;> first | (with_reducible rfl) | (simp; done)) | (with_reducible first | refine Blk.alloc ?_ _ | refine RowIn.alloc ?_ _ | refine Below.alloc ?_ ?_ _ | apply Blk.set' | apply Blk.far' | refine RowIn.far' ?_ ?_ _ | refine Below.far' ?_ ?_ _ | refine RowV.drewN ?_ _ | refine RowV.drew ?_ | refine RowV.alloc ?_ _) | (exact (Eq.refl _ : (_ : List Value) = _)) | omega | go_size))) (pack_u8 _) HE1.out HE2.out).mono ?_
        rintro e w9 ⟨rfl, b9⟩
        have s9 := b9.size
        try simp only [World.size_alloc, World.size_setCell, World.size_drew, size_drewN] at s9
        obtain ⟨zs_9, zx_9, zy_9, rs_9, rt_9, rb_9, rx_9, rlx_9, ry_9, rly_9, bb_9⟩ : Blk w9 (w.heap.size) 40 [.int .i64 (Ln : Int), .int .i64 (p0 : Int), .int .i64 (p1 : Int), .int .u64 (q0 : Int), .int .u64 (q1 : Int), .slice As ns cs, .int .i64 (((xs.length : Nat)) : Int)] ∧ Blk w9 (w6.heap.size) 40 [.int .i64 (n2 : Int), .int .i64 (u0 : Int), .int .i64 (u1 : Int), .int .u64 (v0 : Int), .int .u64 (v1 : Int), .slice Ax mx cx, .int .i64 (((xx.length : Nat)) : Int)] ∧ Blk w9 (w8.heap.size) 40 [.int .i64 (n2 : Int), .int .i64 (u0 : Int), .int .i64 (u1 : Int), .int .u64 (v0 : Int), .int .u64 (v1 : Int), .slice Ay my cy, .int .i64 (((xy.length : Nat)) : Int)] ∧ RowIn .u8 w9 (0) (w.heap.size) As ns (pack xs) ∧ RowIn .u8 w9 (0) (w.heap.size) (some ⟨0, 0, none⟩) 64 dbTab ∧ RowIn .u8 w9 (0) (w.heap.size) Ab nb xsb ∧ RowIn .u8 w9 (wr.heap.size + 0) (w6.heap.size) Ax mx (pack xx) ∧ RowIn .u32 w9 (wr.heap.size + 0) (w6.heap.size) Bx kx zx ∧ RowIn .u8 w9 (0) (w8.heap.size) Ay my (pack xy) ∧ RowIn .u32 w9 (0) (w8.heap.size) By ky zy ∧ Below w.heap.size w w9 := by
          refine ⟨?_, ?_, ?_, ?_, ?_, ?_, ?_, ?_, ?_, ?_, ?_⟩
          all_goals repeat' (first | (with_reducible first | assumption | exact Below.refl _ _ | refine Blk.drewN ?_ _ | refine RowIn.drewN ?_ _ | refine below_drewN ?_ _ | refine Blk.drew ?_ | refine RowIn.drew ?_ | refine Below.drew ?_) | (with_reducible refine Blk.new' ?_ ?_ <;> first | (with_reducible rfl) | (simp; done)) | (with_reducible first | refine Blk.alloc ?_ _ | refine RowIn.alloc ?_ _ | refine Below.alloc ?_ ?_ _ | apply Blk.set' | apply Blk.far' | refine RowIn.far' ?_ ?_ _ | refine Below.far' ?_ ?_ _ | refine RowV.drewN ?_ _ | refine RowV.drew ?_ | refine RowV.alloc ?_ _ | refine RowV.belowS ?_ b9 | refine Blk.after ?_ b9 | refine RowIn.belowS ?_ b9 | refine Below.after ?_ b9 ?_) | (exact (Eq.refl _ : (_ : List Value) = _)) | omega | go_size)
        clear zs_8 zx_8 rs_8 rt_8 rb_8 rx_8 rlx_8 ry_8 rly_8 bb_8 ks_8 fs_8 ls_8 kx_8 fx_8 lx_8 b9
        have ks_9 := zs_9.cell; have fs_9 := zs_9.frozen; have ls_9 := zs_9.lt
        have kx_9 := zx_9.cell; have fx_9 := zx_9.frozen; have lx_9 := zx_9.lt
        have ky_9 := zy_9.cell; have fy_9 := zy_9.frozen; have ly_9 := zy_9.lt
        go_wp2_with fail
        refine (r9same_eq Bx By kx dx ky dy zx zy _ (by exact RowIn.row (lo := wr.heap.size + 0) (hi := w6.heap.size) (by repeat' (first | (with_reducible first | assumption | exact Below.refl _ _ | refine Blk.drewN ?_ _ | refine RowIn.drewN ?_ _ | refine below_drewN ?_ _ | refine Blk.drew ?_ | refine RowIn.drew ?_ | refine Below.drew ?_) | (with_reducible refine Blk.new' ?_ ?_ <;> first | (with_reducible rfl) | (simp; done)) | (with_reducible first | refine Blk.alloc ?_ _ | refine RowIn.alloc ?_ _ | refine Below.alloc ?_ ?_ _ | apply Blk.set' | apply Blk.far' | refine RowIn.far' ?_ ?_ _ | refine Below.far' ?_ ?_ _ | refine RowV.drewN ?_ _ | refine RowV.drew ?_ | refine RowV.alloc ?_ _) | (exact (Eq.refl _ : (_ : List Value) = _)) | omega | go_size))) (by exact RowIn.row (lo := 0) (hi := w8.heap.size) (by repeat' (first | (with_reducible first | assumption | exact Below.refl _ _ | refine Blk.drewN ?_ _ | refine RowIn.drewN ?_ _ | refine below_drewN ?_ _ | refine Blk.drew ?_ | refine RowIn.drew ?_ | refine Below.drew ?_) | (with_reducible refine Blk.new' ?_ ?_ <;> first | (with_reducible rfl) | (simp; done)) | (with_reducible first | refine Blk.alloc ?_ _ | refine RowIn.alloc ?_ _ | refine Below.alloc ?_ ?_ _ | apply Blk.set' | apply Blk.far' | refine RowIn.far' ?_ ?_ _ | refine Below.far' ?_ ?_ _ | refine RowV.drewN ?_ _ | refine RowV.drew ?_ | refine RowV.alloc ?_ _) | (exact (Eq.refl _ : (_ : List Value) = _)) | omega | go_size))) (by omega) HE3.out).mono ?_
        rintro e w10 ⟨rfl, b10⟩
        have s10 := b10.size
        try simp only [World.size_alloc, World.size_setCell, World.size_drew, size_drewN] at s10
        obtain ⟨zs_10, zx_10, zy_10, rs_10, rt_10, rb_10, rx_10, rlx_10, ry_10, rly_10, bb_10⟩ : Blk w10 (w.heap.size) 40 [.int .i64 (Ln : Int), .int .i64 (p0 : Int), .int .i64 (p1 : Int), .int .u64 (q0 : Int), .int .u64 (q1 : Int), .slice As ns cs, .int .i64 (((xs.length : Nat)) : Int)] ∧ Blk w10 (w6.heap.size) 40 [.int .i64 (n2 : Int), .int .i64 (u0 : Int), .int .i64 (u1 : Int), .int .u64 (v0 : Int), .int .u64 (v1 : Int), .slice Ax mx cx, .int .i64 (((xx.length : Nat)) : Int)] ∧ Blk w10 (w8.heap.size) 40 [.int .i64 (n2 : Int), .int .i64 (u0 : Int), .int .i64 (u1 : Int), .int .u64 (v0 : Int), .int .u64 (v1 : Int), .slice Ay my cy, .int .i64 (((xy.length : Nat)) : Int)] ∧ RowIn .u8 w10 (0) (w.heap.size) As ns (pack xs) ∧ RowIn .u8 w10 (0) (w.heap.size) (some ⟨0, 0, none⟩) 64 dbTab ∧ RowIn .u8 w10 (0) (w.heap.size) Ab nb xsb ∧ RowIn .u8 w10 (wr.heap.size + 0) (w6.heap.size) Ax mx (pack xx) ∧ RowIn .u32 w10 (wr.heap.size + 0) (w6.heap.size) Bx kx zx ∧ RowIn .u8 w10 (0) (w8.heap.size) Ay my (pack xy) ∧ RowIn .u32 w10 (0) (w8.heap.size) By ky zy ∧ Below w.heap.size w w10 := by
          refine ⟨?_, ?_, ?_, ?_, ?_, ?_, ?_, ?_, ?_, ?_, ?_⟩
          all_goals repeat' (first | (with_reducible first | assumption | exact Below.refl _ _ | refine Blk.drewN ?_ _ | refine RowIn.drewN ?_ _ | refine below_drewN ?_ _ | refine Blk.drew ?_ | refine RowIn.drew ?_ | refine Below.drew ?_) | (with_reducible refine Blk.new' ?_ ?_ <;> first | (with_reducible rfl) | (simp; done)) | (with_reducible first | refine Blk.alloc ?_ _ | refine RowIn.alloc ?_ _ | refine Below.alloc ?_ ?_ _ | apply Blk.set' | apply Blk.far' | refine RowIn.far' ?_ ?_ _ | refine Below.far' ?_ ?_ _ | refine RowV.drewN ?_ _ | refine RowV.drew ?_ | refine RowV.alloc ?_ _ | refine RowV.belowS ?_ b10 | refine Blk.after ?_ b10 | refine RowIn.belowS ?_ b10 | refine Below.after ?_ b10 ?_) | (exact (Eq.refl _ : (_ : List Value) = _)) | omega | go_size)
        clear zs_9 zx_9 zy_9 rs_9 rt_9 rb_9 rx_9 rlx_9 ry_9 rly_9 bb_9 ks_9 fs_9 ls_9 kx_9 fx_9 lx_9 ky_9 fy_9 ly_9 b10
        have ks_10 := zs_10.cell; have fs_10 := zs_10.frozen; have ls_10 := zs_10.lt
        have kx_10 := zx_10.cell; have fx_10 := zx_10.frozen; have lx_10 := zx_10.lt
        have ky_10 := zy_10.cell; have fy_10 := zy_10.frozen; have ly_10 := zy_10.lt
        go_wp2_with fail
        refine (alive10 _ (by exact RowIn.row (lo := 0) (hi := w.heap.size) (by repeat' (first | (with_reducible first | assumption | exact Below.refl _ _ | refine Blk.drewN ?_ _ | refine RowIn.drewN ?_ _ | refine below_drewN ?_ _ | refine Blk.drew ?_ | refine RowIn.drew ?_ | refine Below.drew ?_) | (with_reducible refine Blk.new' ?_ ?_ <;> first | (with_reducible rfl) | (simp; done)) | (with_reducible first | refine Blk.alloc ?_ _ | refine RowIn.alloc ?_ _ | refine Below.alloc ?_ ?_ _ | apply Blk.set' | apply Blk.far' | refine RowIn.far' ?_ ?_ _ | refine Below.far' ?_ ?_ _ | refine RowV.drewN ?_ _ | refine RowV.drew ?_ | refine RowV.alloc ?_ _) | (exact (Eq.refl _ : (_ : List Value) = _)) | omega | go_size)))).mono ?_
        rintro e w11 ⟨rfl, b11⟩
        have s11 := b11.size
        try simp only [World.size_alloc, World.size_setCell, World.size_drew, size_drewN] at s11
        have bb_11 : Below w.heap.size w w11 := by
          repeat' (first | (with_reducible first | assumption | exact Below.refl _ _ | refine Blk.drewN ?_ _ | refine RowIn.drewN ?_ _ | refine below_drewN ?_ _ | refine Blk.drew ?_ | refine RowIn.drew ?_ | refine Below.drew ?_) | (with_reducible refine Blk.new' ?_ ?_ <;> first | (with_reducible rfl) | (simp; done)) | (with_reducible first | refine Blk.alloc ?_ _ | refine RowIn.alloc ?_ _ | refine Below.alloc ?_ ?_ _ | apply Blk.set' | apply Blk.far' | refine RowIn.far' ?_ ?_ _ | refine Below.far' ?_ ?_ _ | refine RowV.drewN ?_ _ | refine RowV.drew ?_ | refine RowV.alloc ?_ _ | refine RowV.belowS ?_ b11 | refine Blk.after ?_ b11 | refine RowIn.belowS ?_ b11 | refine Below.after ?_ b11 ?_) | (exact (Eq.refl _ : (_ : List Value) = _)) | omega | go_size)
        clear zs_10 zx_10 zy_10 rs_10 rt_10 rb_10 rx_10 rlx_10 ry_10 rly_10 bb_10 ks_10 fs_10 ls_10 kx_10 fx_10 lx_10 ky_10 fy_10 ly_10 b11
        go_wp2
        go_ret
        refine ⟨rfl, ?_⟩
        repeat' (first | (with_reducible first | assumption | exact Below.refl _ _ | refine Blk.drewN ?_ _ | refine RowIn.drewN ?_ _ | refine below_drewN ?_ _ | refine Blk.drew ?_ | refine RowIn.drew ?_ | refine Below.drew ?_) | (with_reducible refine Blk.new' ?_ ?_ <;> first | (with_reducible rfl) | (simp; done)) | (with_reducible first | refine Blk.alloc ?_ _ | refine RowIn.alloc ?_ _ | refine Below.alloc ?_ ?_ _ | apply Blk.set' | apply Blk.far' | refine RowIn.far' ?_ ?_ _ | refine Below.far' ?_ ?_ _ | refine RowV.drewN ?_ _ | refine RowV.drew ?_ | refine RowV.alloc ?_ _) | (exact (Eq.refl _ : (_ : List Value) = _)) | omega | go_size)


end Go.Proofs.YtppilidcjlnmoaaDoor
