/-
  The walk of DualSides.
-/
import Derived.Test.YtlblkjefngofaaaDoorLawDA
import Derived.Test.YtlblkjefngofaaaDoorLawDC
import Derived.Test.YtlblkjefngofaaaDoorDualD
import Derived.Test.YtlblkjefngofaaaDoorRefT
import Derived.Test.YtlblkjefngofaaaDoorRefB
import Derived.Test.YtlblkjefngofaaaDoorRefD
import Derived.Test.YtlblkjefngofaaaDoorPre
import Derived.Test.YtlblkjefngofaaaDoorMerge
namespace Go.Proofs.YtlblkjefngofaaaDoor
open Go.RowKit Cad Cad.Bit Cad.Code
set_option linter.unusedVariables false
set_option linter.unusedSimpArgs false


set_option maxRecDepth 100000 in
set_option maxHeartbeats 16000000 in
theorem lawDualSides (w : World) (ht : Tab w) (Af : Option Addr) (nf cf : Nat) (Nf : Int) (xsf : List Int) (hAf : RowC .u8 w Af nf cf xsf) (hxf : Within 0 255 xsf) (hNf : -9223372036854775808 ≤ Nf ∧ Nf ≤ 9223372036854775807) (d0 d1 e0 e1 : Int) (hd0 : -9223372036854775808 ≤ d0 ∧ d0 ≤ 9223372036854775807) (hd1 : -9223372036854775808 ≤ d1 ∧ d1 ≤ 9223372036854775807) (he0 : 0 ≤ e0 ∧ e0 ≤ 18446744073709551615) (he1 : 0 ≤ e1 ∧ e1 ≤ 18446744073709551615) (Al : Option Addr) (nl cl : Nat) (xsl : List Int) (hAl : RowC .u32 w Al nl cl xsl) (hxl : Within 0 4294967295 xsl) :
    Calls Tryd.prog 9 #[.agg #[.slice Af nf cf, .int .i64 Nf], .agg #[.int .i64 d0, .int .i64 d1, .int .u64 e0, .int .u64 e1], .slice Al nl cl] w fun e w' => e = .returned (.bool true) ∧ Below w.heap.size w w' := by
  have haf := hAf.row
  have hcf := hAf.2
  have hrif := haf.rowIn
  have hti : RowIn .u8 w 0 w.heap.size (some ⟨0, 0, none⟩) 64 dbTab := ht.rowIn
  have hal := hAl.row
  have hcl := hAl.2
  by_cases hvf : ¬ Valid xsf Nf
  · go_enter Tryd.func9, Tryd.ntmps9
    go_wp2_with fail
    refine (rcheck_bad Af nf cf Nf xsf _ (by exact RowIn.row (lo := 0) (hi := w.heap.size) (by repeat' (first | (with_reducible assumption) | (with_reducible exact Below.refl _ _) | (with_reducible refine Blk.drewN ?_ _) | (with_reducible refine RowIn.drewN ?_ _) | (with_reducible refine below_drewN ?_ _) | (with_reducible refine Blk.drew ?_) | (with_reducible refine RowIn.drew ?_) | (with_reducible refine Below.drew ?_) | (with_reducible refine Blk.new' ?_ ?_ <;> first | (with_reducible rfl) | (simp; done)) | (with_reducible refine Blk.alloc ?_ _) | (with_reducible refine RowIn.alloc ?_ _) | (with_reducible refine Below.alloc ?_ ?_ _) | (with_reducible apply Blk.set') | (with_reducible apply Blk.far') | (with_reducible refine RowIn.far' ?_ ?_ _) | (with_reducible refine Below.far' ?_ ?_ _) | rfl | omega | go_size))) hxf (by omega) hvf).mono ?_
    rintro e w1 ⟨rfl, b1⟩
    have s1 := b1.size
    try simp only [World.size_alloc, World.size_setCell, World.size_drew, size_drewN] at s1
    obtain ⟨zf_1, zd_1, rf_1, rt_1, bb_1⟩ : Blk w1 (w.heap.size) 24 [.slice Af nf cf, .int .i64 Nf] ∧ Blk w1 (w.heap.size + 1) 27 [.int .i64 d0, .int .i64 d1, .int .u64 e0, .int .u64 e1] ∧ RowIn .u8 w1 (0) (w.heap.size) Af nf xsf ∧ RowIn .u8 w1 (0) (w.heap.size) (some ⟨0, 0, none⟩) 64 dbTab ∧ Below w.heap.size w w1 := by
      refine ⟨?_, ?_, ?_, ?_, ?_⟩
      all_goals repeat' (first | (with_reducible assumption) | (with_reducible exact Below.refl _ _) | (with_reducible refine Blk.drewN ?_ _) | (with_reducible refine RowIn.drewN ?_ _) | (with_reducible refine below_drewN ?_ _) | (with_reducible refine Blk.drew ?_) | (with_reducible refine RowIn.drew ?_) | (with_reducible refine Below.drew ?_) | (with_reducible refine Blk.new' ?_ ?_ <;> first | (with_reducible rfl) | (simp; done)) | (with_reducible refine Blk.alloc ?_ _) | (with_reducible refine RowIn.alloc ?_ _) | (with_reducible refine Below.alloc ?_ ?_ _) | (with_reducible apply Blk.set') | (with_reducible apply Blk.far') | (with_reducible refine RowIn.far' ?_ ?_ _) | (with_reducible refine Below.far' ?_ ?_ _) | (with_reducible refine Blk.after ?_ b1) | (with_reducible refine RowIn.belowS ?_ b1) | (with_reducible refine Below.after ?_ b1 ?_) | rfl | omega | go_size)
    clear b1
    have kf_1 := zf_1.cell; have ff_1 := zf_1.frozen; have lf_1 := zf_1.lt
    have kd_1 := zd_1.cell; have fd_1 := zd_1.frozen; have ld_1 := zd_1.lt
    go_wp2_with fail
    refine (alive08 _).mono ?_
    rintro e w2 ⟨rfl, b2⟩
    have s2 := b2.size
    try simp only [World.size_alloc, World.size_setCell, World.size_drew, size_drewN] at s2
    have bb_2 : Below w.heap.size w w2 := by
      repeat' (first | (with_reducible assumption) | (with_reducible exact Below.refl _ _) | (with_reducible refine Blk.drewN ?_ _) | (with_reducible refine RowIn.drewN ?_ _) | (with_reducible refine below_drewN ?_ _) | (with_reducible refine Blk.drew ?_) | (with_reducible refine RowIn.drew ?_) | (with_reducible refine Below.drew ?_) | (with_reducible refine Blk.new' ?_ ?_ <;> first | (with_reducible rfl) | (simp; done)) | (with_reducible refine Blk.alloc ?_ _) | (with_reducible refine RowIn.alloc ?_ _) | (with_reducible refine Below.alloc ?_ ?_ _) | (with_reducible apply Blk.set') | (with_reducible apply Blk.far') | (with_reducible refine RowIn.far' ?_ ?_ _) | (with_reducible refine Below.far' ?_ ?_ _) | (with_reducible refine Blk.after ?_ b2) | (with_reducible refine RowIn.belowS ?_ b2) | (with_reducible refine Below.after ?_ b2 ?_) | rfl | omega | go_size)
    clear zf_1 zd_1 rf_1 rt_1 bb_1 kf_1 ff_1 lf_1 kd_1 fd_1 ld_1 b2
    go_wp2
    go_ret
    refine ⟨rfl, ?_⟩
    repeat' (first | (with_reducible assumption) | (with_reducible exact Below.refl _ _) | (with_reducible refine Blk.drewN ?_ _) | (with_reducible refine RowIn.drewN ?_ _) | (with_reducible refine below_drewN ?_ _) | (with_reducible refine Blk.drew ?_) | (with_reducible refine RowIn.drew ?_) | (with_reducible refine Below.drew ?_) | (with_reducible refine Blk.new' ?_ ?_ <;> first | (with_reducible rfl) | (simp; done)) | (with_reducible refine Blk.alloc ?_ _) | (with_reducible refine RowIn.alloc ?_ _) | (with_reducible refine Below.alloc ?_ ?_ _) | (with_reducible apply Blk.set') | (with_reducible apply Blk.far') | (with_reducible refine RowIn.far' ?_ ?_ _) | (with_reducible refine Below.far' ?_ ?_ _) | rfl | omega | go_size)
  obtain ⟨xf, rfl, rfl, hlf⟩ := valid_bits hxf (Decidable.not_not.1 hvf)
  clear hvf
  by_cases h1 : 500 < xf.length
  · go_enter Tryd.func9, Tryd.ntmps9
    go_wp2_with fail
    refine (rcheck_ok Af nf cf xf _ (by exact RowIn.row (lo := 0) (hi := w.heap.size) (by repeat' (first | (with_reducible assumption) | (with_reducible exact Below.refl _ _) | (with_reducible refine Blk.drewN ?_ _) | (with_reducible refine RowIn.drewN ?_ _) | (with_reducible refine below_drewN ?_ _) | (with_reducible refine Blk.drew ?_) | (with_reducible refine RowIn.drew ?_) | (with_reducible refine Below.drew ?_) | (with_reducible refine Blk.new' ?_ ?_ <;> first | (with_reducible rfl) | (simp; done)) | (with_reducible refine Blk.alloc ?_ _) | (with_reducible refine RowIn.alloc ?_ _) | (with_reducible refine Below.alloc ?_ ?_ _) | (with_reducible apply Blk.set') | (with_reducible apply Blk.far') | (with_reducible refine RowIn.far' ?_ ?_ _) | (with_reducible refine Below.far' ?_ ?_ _) | rfl | omega | go_size))) (by omega) hlf).mono ?_
    rintro e w1 ⟨rfl, b1⟩
    have s1 := b1.size
    try simp only [World.size_alloc, World.size_setCell, World.size_drew, size_drewN] at s1
    obtain ⟨zf_1, zd_1, rf_1, rt_1, bb_1⟩ : Blk w1 (w.heap.size) 24 [.slice Af nf cf, .int .i64 ((xf.length : Nat) : Int)] ∧ Blk w1 (w.heap.size + 1) 27 [.int .i64 d0, .int .i64 d1, .int .u64 e0, .int .u64 e1] ∧ RowIn .u8 w1 (0) (w.heap.size) Af nf (pack xf) ∧ RowIn .u8 w1 (0) (w.heap.size) (some ⟨0, 0, none⟩) 64 dbTab ∧ Below w.heap.size w w1 := by
      refine ⟨?_, ?_, ?_, ?_, ?_⟩
      all_goals repeat' (first | (with_reducible assumption) | (with_reducible exact Below.refl _ _) | (with_reducible refine Blk.drewN ?_ _) | (with_reducible refine RowIn.drewN ?_ _) | (with_reducible refine below_drewN ?_ _) | (with_reducible refine Blk.drew ?_) | (with_reducible refine RowIn.drew ?_) | (with_reducible refine Below.drew ?_) | (with_reducible refine Blk.new' ?_ ?_ <;> first | (with_reducible rfl) | (simp; done)) | (with_reducible refine Blk.alloc ?_ _) | (with_reducible refine RowIn.alloc ?_ _) | (with_reducible refine Below.alloc ?_ ?_ _) | (with_reducible apply Blk.set') | (with_reducible apply Blk.far') | (with_reducible refine RowIn.far' ?_ ?_ _) | (with_reducible refine Below.far' ?_ ?_ _) | (with_reducible refine Blk.after ?_ b1) | (with_reducible refine RowIn.belowS ?_ b1) | (with_reducible refine Below.after ?_ b1 ?_) | rfl | omega | go_size)
    clear b1
    have kf_1 := zf_1.cell; have ff_1 := zf_1.frozen; have lf_1 := zf_1.lt
    have kd_1 := zd_1.cell; have fd_1 := zd_1.frozen; have ld_1 := zd_1.lt
    go_wp2_with fail
    refine (alive08 _).mono ?_
    rintro e w2 ⟨rfl, b2⟩
    have s2 := b2.size
    try simp only [World.size_alloc, World.size_setCell, World.size_drew, size_drewN] at s2
    have bb_2 : Below w.heap.size w w2 := by
      repeat' (first | (with_reducible assumption) | (with_reducible exact Below.refl _ _) | (with_reducible refine Blk.drewN ?_ _) | (with_reducible refine RowIn.drewN ?_ _) | (with_reducible refine below_drewN ?_ _) | (with_reducible refine Blk.drew ?_) | (with_reducible refine RowIn.drew ?_) | (with_reducible refine Below.drew ?_) | (with_reducible refine Blk.new' ?_ ?_ <;> first | (with_reducible rfl) | (simp; done)) | (with_reducible refine Blk.alloc ?_ _) | (with_reducible refine RowIn.alloc ?_ _) | (with_reducible refine Below.alloc ?_ ?_ _) | (with_reducible apply Blk.set') | (with_reducible apply Blk.far') | (with_reducible refine RowIn.far' ?_ ?_ _) | (with_reducible refine Below.far' ?_ ?_ _) | (with_reducible refine Blk.after ?_ b2) | (with_reducible refine RowIn.belowS ?_ b2) | (with_reducible refine Below.after ?_ b2 ?_) | rfl | omega | go_size)
    clear zf_1 zd_1 rf_1 rt_1 bb_1 kf_1 ff_1 lf_1 kd_1 fd_1 ld_1 b2
    go_wp2
    go_ret
    refine ⟨rfl, ?_⟩
    repeat' (first | (with_reducible assumption) | (with_reducible exact Below.refl _ _) | (with_reducible refine Blk.drewN ?_ _) | (with_reducible refine RowIn.drewN ?_ _) | (with_reducible refine below_drewN ?_ _) | (with_reducible refine Blk.drew ?_) | (with_reducible refine RowIn.drew ?_) | (with_reducible refine Below.drew ?_) | (with_reducible refine Blk.new' ?_ ?_ <;> first | (with_reducible rfl) | (simp; done)) | (with_reducible refine Blk.alloc ?_ _) | (with_reducible refine RowIn.alloc ?_ _) | (with_reducible refine Below.alloc ?_ ?_ _) | (with_reducible apply Blk.set') | (with_reducible apply Blk.far') | (with_reducible refine RowIn.far' ?_ ?_ _) | (with_reducible refine Below.far' ?_ ?_ _) | rfl | omega | go_size)
  by_cases hdk : ¬ DOk d0 d1 e0 e1
  · have HN := Lib.hid hdk
    clear hdk
    go_enter Tryd.func9, Tryd.ntmps9
    go_wp2_with fail
    refine (rcheck_ok Af nf cf xf _ (by exact RowIn.row (lo := 0) (hi := w.heap.size) (by repeat' (first | (with_reducible assumption) | (with_reducible exact Below.refl _ _) | (with_reducible refine Blk.drewN ?_ _) | (with_reducible refine RowIn.drewN ?_ _) | (with_reducible refine below_drewN ?_ _) | (with_reducible refine Blk.drew ?_) | (with_reducible refine RowIn.drew ?_) | (with_reducible refine Below.drew ?_) | (with_reducible refine Blk.new' ?_ ?_ <;> first | (with_reducible rfl) | (simp; done)) | (with_reducible refine Blk.alloc ?_ _) | (with_reducible refine RowIn.alloc ?_ _) | (with_reducible refine Below.alloc ?_ ?_ _) | (with_reducible apply Blk.set') | (with_reducible apply Blk.far') | (with_reducible refine RowIn.far' ?_ ?_ _) | (with_reducible refine Below.far' ?_ ?_ _) | rfl | omega | go_size))) (by omega) hlf).mono ?_
    rintro e w1 ⟨rfl, b1⟩
    have s1 := b1.size
    try simp only [World.size_alloc, World.size_setCell, World.size_drew, size_drewN] at s1
    obtain ⟨zf_1, zd_1, rf_1, rt_1, bb_1⟩ : Blk w1 (w.heap.size) 24 [.slice Af nf cf, .int .i64 ((xf.length : Nat) : Int)] ∧ Blk w1 (w.heap.size + 1) 27 [.int .i64 d0, .int .i64 d1, .int .u64 e0, .int .u64 e1] ∧ RowIn .u8 w1 (0) (w.heap.size) Af nf (pack xf) ∧ RowIn .u8 w1 (0) (w.heap.size) (some ⟨0, 0, none⟩) 64 dbTab ∧ Below w.heap.size w w1 := by
      refine ⟨?_, ?_, ?_, ?_, ?_⟩
      all_goals repeat' (first | (with_reducible assumption) | (with_reducible exact Below.refl _ _) | (with_reducible refine Blk.drewN ?_ _) | (with_reducible refine RowIn.drewN ?_ _) | (with_reducible refine below_drewN ?_ _) | (with_reducible refine Blk.drew ?_) | (with_reducible refine RowIn.drew ?_) | (with_reducible refine Below.drew ?_) | (with_reducible refine Blk.new' ?_ ?_ <;> first | (with_reducible rfl) | (simp; done)) | (with_reducible refine Blk.alloc ?_ _) | (with_reducible refine RowIn.alloc ?_ _) | (with_reducible refine Below.alloc ?_ ?_ _) | (with_reducible apply Blk.set') | (with_reducible apply Blk.far') | (with_reducible refine RowIn.far' ?_ ?_ _) | (with_reducible refine Below.far' ?_ ?_ _) | (with_reducible refine Blk.after ?_ b1) | (with_reducible refine RowIn.belowS ?_ b1) | (with_reducible refine Below.after ?_ b1 ?_) | rfl | omega | go_size)
    clear b1
    have kf_1 := zf_1.cell; have ff_1 := zf_1.frozen; have lf_1 := zf_1.lt
    have kd_1 := zd_1.cell; have fd_1 := zd_1.frozen; have ld_1 := zd_1.lt
    go_wp2_with fail
    refine (rdcheck_any d0 d1 e0 e1 8 _ he0.1 he1.1 (by rw [if_neg HN.out])).mono ?_
    rintro e w2 ⟨rfl, b2⟩
    have s2 := b2.size
    try simp only [World.size_alloc, World.size_setCell, World.size_drew, size_drewN] at s2
    obtain ⟨zf_2, zd_2, rf_2, rt_2, bb_2⟩ : Blk w2 (w.heap.size) 24 [.slice Af nf cf, .int .i64 ((xf.length : Nat) : Int)] ∧ Blk w2 (w.heap.size + 1) 27 [.int .i64 d0, .int .i64 d1, .int .u64 e0, .int .u64 e1] ∧ RowIn .u8 w2 (0) (w.heap.size) Af nf (pack xf) ∧ RowIn .u8 w2 (0) (w.heap.size) (some ⟨0, 0, none⟩) 64 dbTab ∧ Below w.heap.size w w2 := by
      refine ⟨?_, ?_, ?_, ?_, ?_⟩
      all_goals repeat' (first | (with_reducible assumption) | (with_reducible exact Below.refl _ _) | (with_reducible refine Blk.drewN ?_ _) | (with_reducible refine RowIn.drewN ?_ _) | (with_reducible refine below_drewN ?_ _) | (with_reducible refine Blk.drew ?_) | (with_reducible refine RowIn.drew ?_) | (with_reducible refine Below.drew ?_) | (with_reducible refine Blk.new' ?_ ?_ <;> first | (with_reducible rfl) | (simp; done)) | (with_reducible refine Blk.alloc ?_ _) | (with_reducible refine RowIn.alloc ?_ _) | (with_reducible refine Below.alloc ?_ ?_ _) | (with_reducible apply Blk.set') | (with_reducible apply Blk.far') | (with_reducible refine RowIn.far' ?_ ?_ _) | (with_reducible refine Below.far' ?_ ?_ _) | (with_reducible refine Blk.after ?_ b2) | (with_reducible refine RowIn.belowS ?_ b2) | (with_reducible refine Below.after ?_ b2 ?_) | rfl | omega | go_size)
    clear zf_1 zd_1 rf_1 rt_1 bb_1 kf_1 ff_1 lf_1 kd_1 fd_1 ld_1 b2
    have kf_2 := zf_2.cell; have ff_2 := zf_2.frozen; have lf_2 := zf_2.lt
    have kd_2 := zd_2.cell; have fd_2 := zd_2.frozen; have ld_2 := zd_2.lt
    go_wp2_with fail
    refine (alive08 _).mono ?_
    rintro e w3 ⟨rfl, b3⟩
    have s3 := b3.size
    try simp only [World.size_alloc, World.size_setCell, World.size_drew, size_drewN] at s3
    have bb_3 : Below w.heap.size w w3 := by
      repeat' (first | (with_reducible assumption) | (with_reducible exact Below.refl _ _) | (with_reducible refine Blk.drewN ?_ _) | (with_reducible refine RowIn.drewN ?_ _) | (with_reducible refine below_drewN ?_ _) | (with_reducible refine Blk.drew ?_) | (with_reducible refine RowIn.drew ?_) | (with_reducible refine Below.drew ?_) | (with_reducible refine Blk.new' ?_ ?_ <;> first | (with_reducible rfl) | (simp; done)) | (with_reducible refine Blk.alloc ?_ _) | (with_reducible refine RowIn.alloc ?_ _) | (with_reducible refine Below.alloc ?_ ?_ _) | (with_reducible apply Blk.set') | (with_reducible apply Blk.far') | (with_reducible refine RowIn.far' ?_ ?_ _) | (with_reducible refine Below.far' ?_ ?_ _) | (with_reducible refine Blk.after ?_ b3) | (with_reducible refine RowIn.belowS ?_ b3) | (with_reducible refine Below.after ?_ b3 ?_) | rfl | omega | go_size)
    clear zf_2 zd_2 rf_2 rt_2 bb_2 kf_2 ff_2 lf_2 kd_2 fd_2 ld_2 b3
    go_wp2
    go_ret
    refine ⟨rfl, ?_⟩
    repeat' (first | (with_reducible assumption) | (with_reducible exact Below.refl _ _) | (with_reducible refine Blk.drewN ?_ _) | (with_reducible refine RowIn.drewN ?_ _) | (with_reducible refine below_drewN ?_ _) | (with_reducible refine Blk.drew ?_) | (with_reducible refine RowIn.drew ?_) | (with_reducible refine Below.drew ?_) | (with_reducible refine Blk.new' ?_ ?_ <;> first | (with_reducible rfl) | (simp; done)) | (with_reducible refine Blk.alloc ?_ _) | (with_reducible refine RowIn.alloc ?_ _) | (with_reducible refine Below.alloc ?_ ?_ _) | (with_reducible apply Blk.set') | (with_reducible apply Blk.far') | (with_reducible refine RowIn.far' ?_ ?_ _) | (with_reducible refine Below.far' ?_ ?_ _) | rfl | omega | go_size)
  obtain ⟨d0, d1, e0, e1, rfl, rfl, rfl, rfl, hd⟩ := dok_dual he0.1 he1.1 (Decidable.not_not.1 hdk)
  have HD := Lib.hid hd
  have HDK : Hid (DOk (d0 : Int) (d1 : Int) (e0 : Int) (e1 : Int)) := Lib.hid (Decidable.not_not.1 hdk)
  clear hdk hd hd0 hd1 he0 he1
  by_cases h2 : 12 < nl
  · go_enter Tryd.func9, Tryd.ntmps9
    go_wp2_with fail
    refine (rcheck_ok Af nf cf xf _ (by exact RowIn.row (lo := 0) (hi := w.heap.size) (by repeat' (first | (with_reducible assumption) | (with_reducible exact Below.refl _ _) | (with_reducible refine Blk.drewN ?_ _) | (with_reducible refine RowIn.drewN ?_ _) | (with_reducible refine below_drewN ?_ _) | (with_reducible refine Blk.drew ?_) | (with_reducible refine RowIn.drew ?_) | (with_reducible refine Below.drew ?_) | (with_reducible refine Blk.new' ?_ ?_ <;> first | (with_reducible rfl) | (simp; done)) | (with_reducible refine Blk.alloc ?_ _) | (with_reducible refine RowIn.alloc ?_ _) | (with_reducible refine Below.alloc ?_ ?_ _) | (with_reducible apply Blk.set') | (with_reducible apply Blk.far') | (with_reducible refine RowIn.far' ?_ ?_ _) | (with_reducible refine Below.far' ?_ ?_ _) | rfl | omega | go_size))) (by omega) hlf).mono ?_
    rintro e w1 ⟨rfl, b1⟩
    have s1 := b1.size
    try simp only [World.size_alloc, World.size_setCell, World.size_drew, size_drewN] at s1
    obtain ⟨zf_1, zd_1, rf_1, rt_1, bb_1⟩ : Blk w1 (w.heap.size) 24 [.slice Af nf cf, .int .i64 ((xf.length : Nat) : Int)] ∧ Blk w1 (w.heap.size + 1) 27 [.int .i64 (d0 : Int), .int .i64 (d1 : Int), .int .u64 (e0 : Int), .int .u64 (e1 : Int)] ∧ RowIn .u8 w1 (0) (w.heap.size) Af nf (pack xf) ∧ RowIn .u8 w1 (0) (w.heap.size) (some ⟨0, 0, none⟩) 64 dbTab ∧ Below w.heap.size w w1 := by
      refine ⟨?_, ?_, ?_, ?_, ?_⟩
      all_goals repeat' (first | (with_reducible assumption) | (with_reducible exact Below.refl _ _) | (with_reducible refine Blk.drewN ?_ _) | (with_reducible refine RowIn.drewN ?_ _) | (with_reducible refine below_drewN ?_ _) | (with_reducible refine Blk.drew ?_) | (with_reducible refine RowIn.drew ?_) | (with_reducible refine Below.drew ?_) | (with_reducible refine Blk.new' ?_ ?_ <;> first | (with_reducible rfl) | (simp; done)) | (with_reducible refine Blk.alloc ?_ _) | (with_reducible refine RowIn.alloc ?_ _) | (with_reducible refine Below.alloc ?_ ?_ _) | (with_reducible apply Blk.set') | (with_reducible apply Blk.far') | (with_reducible refine RowIn.far' ?_ ?_ _) | (with_reducible refine Below.far' ?_ ?_ _) | (with_reducible refine Blk.after ?_ b1) | (with_reducible refine RowIn.belowS ?_ b1) | (with_reducible refine Below.after ?_ b1 ?_) | rfl | omega | go_size)
    clear b1
    have kf_1 := zf_1.cell; have ff_1 := zf_1.frozen; have lf_1 := zf_1.lt
    have kd_1 := zd_1.cell; have fd_1 := zd_1.frozen; have ld_1 := zd_1.lt
    go_wp2_with fail
    refine (rdcheck_any (d0 : Int) (d1 : Int) (e0 : Int) (e1 : Int) 0 _ (by omega) (by omega) (by rw [if_pos HDK.out])).mono ?_
    rintro e w2 ⟨rfl, b2⟩
    have s2 := b2.size
    try simp only [World.size_alloc, World.size_setCell, World.size_drew, size_drewN] at s2
    obtain ⟨zf_2, zd_2, rf_2, rt_2, bb_2⟩ : Blk w2 (w.heap.size) 24 [.slice Af nf cf, .int .i64 ((xf.length : Nat) : Int)] ∧ Blk w2 (w.heap.size + 1) 27 [.int .i64 (d0 : Int), .int .i64 (d1 : Int), .int .u64 (e0 : Int), .int .u64 (e1 : Int)] ∧ RowIn .u8 w2 (0) (w.heap.size) Af nf (pack xf) ∧ RowIn .u8 w2 (0) (w.heap.size) (some ⟨0, 0, none⟩) 64 dbTab ∧ Below w.heap.size w w2 := by
      refine ⟨?_, ?_, ?_, ?_, ?_⟩
      all_goals repeat' (first | (with_reducible assumption) | (with_reducible exact Below.refl _ _) | (with_reducible refine Blk.drewN ?_ _) | (with_reducible refine RowIn.drewN ?_ _) | (with_reducible refine below_drewN ?_ _) | (with_reducible refine Blk.drew ?_) | (with_reducible refine RowIn.drew ?_) | (with_reducible refine Below.drew ?_) | (with_reducible refine Blk.new' ?_ ?_ <;> first | (with_reducible rfl) | (simp; done)) | (with_reducible refine Blk.alloc ?_ _) | (with_reducible refine RowIn.alloc ?_ _) | (with_reducible refine Below.alloc ?_ ?_ _) | (with_reducible apply Blk.set') | (with_reducible apply Blk.far') | (with_reducible refine RowIn.far' ?_ ?_ _) | (with_reducible refine Below.far' ?_ ?_ _) | (with_reducible refine Blk.after ?_ b2) | (with_reducible refine RowIn.belowS ?_ b2) | (with_reducible refine Below.after ?_ b2 ?_) | rfl | omega | go_size)
    clear zf_1 zd_1 rf_1 rt_1 bb_1 kf_1 ff_1 lf_1 kd_1 fd_1 ld_1 b2
    have kf_2 := zf_2.cell; have ff_2 := zf_2.frozen; have lf_2 := zf_2.lt
    have kd_2 := zd_2.cell; have fd_2 := zd_2.frozen; have ld_2 := zd_2.lt
    go_wp2_with fail
    refine (alive08 _).mono ?_
    rintro e w3 ⟨rfl, b3⟩
    have s3 := b3.size
    try simp only [World.size_alloc, World.size_setCell, World.size_drew, size_drewN] at s3
    have bb_3 : Below w.heap.size w w3 := by
      repeat' (first | (with_reducible assumption) | (with_reducible exact Below.refl _ _) | (with_reducible refine Blk.drewN ?_ _) | (with_reducible refine RowIn.drewN ?_ _) | (with_reducible refine below_drewN ?_ _) | (with_reducible refine Blk.drew ?_) | (with_reducible refine RowIn.drew ?_) | (with_reducible refine Below.drew ?_) | (with_reducible refine Blk.new' ?_ ?_ <;> first | (with_reducible rfl) | (simp; done)) | (with_reducible refine Blk.alloc ?_ _) | (with_reducible refine RowIn.alloc ?_ _) | (with_reducible refine Below.alloc ?_ ?_ _) | (with_reducible apply Blk.set') | (with_reducible apply Blk.far') | (with_reducible refine RowIn.far' ?_ ?_ _) | (with_reducible refine Below.far' ?_ ?_ _) | (with_reducible refine Blk.after ?_ b3) | (with_reducible refine RowIn.belowS ?_ b3) | (with_reducible refine Below.after ?_ b3 ?_) | rfl | omega | go_size)
    clear zf_2 zd_2 rf_2 rt_2 bb_2 kf_2 ff_2 lf_2 kd_2 fd_2 ld_2 b3
    go_wp2
    go_ret
    refine ⟨rfl, ?_⟩
    repeat' (first | (with_reducible assumption) | (with_reducible exact Below.refl _ _) | (with_reducible refine Blk.drewN ?_ _) | (with_reducible refine RowIn.drewN ?_ _) | (with_reducible refine below_drewN ?_ _) | (with_reducible refine Blk.drew ?_) | (with_reducible refine RowIn.drew ?_) | (with_reducible refine Below.drew ?_) | (with_reducible refine Blk.new' ?_ ?_ <;> first | (with_reducible rfl) | (simp; done)) | (with_reducible refine Blk.alloc ?_ _) | (with_reducible refine RowIn.alloc ?_ _) | (with_reducible refine Below.alloc ?_ ?_ _) | (with_reducible apply Blk.set') | (with_reducible apply Blk.far') | (with_reducible refine RowIn.far' ?_ ?_ _) | (with_reducible refine Below.far' ?_ ?_ _) | rfl | omega | go_size)
  have t1 : decide ((500 : Int) < (xf.length : Int)) = false := decide_eq_false (by omega)
  have t2 : decide ((12 : Int) < (nl : Int)) = false := decide_eq_false (by omega)
  have hx500 : xf.length ≤ 500 := by omega
  have hnl20 : nl ≤ 12 := by omega
  clear h1 h2
  go_enter Tryd.func9, Tryd.ntmps9
  go_wp2_with fail
  refine (rcheck_ok Af nf cf xf _ (by exact RowIn.row (lo := 0) (hi := w.heap.size) (by repeat' (first | (with_reducible assumption) | (with_reducible exact Below.refl _ _) | (with_reducible refine Blk.drewN ?_ _) | (with_reducible refine RowIn.drewN ?_ _) | (with_reducible refine below_drewN ?_ _) | (with_reducible refine Blk.drew ?_) | (with_reducible refine RowIn.drew ?_) | (with_reducible refine Below.drew ?_) | (with_reducible refine Blk.new' ?_ ?_ <;> first | (with_reducible rfl) | (simp; done)) | (with_reducible refine Blk.alloc ?_ _) | (with_reducible refine RowIn.alloc ?_ _) | (with_reducible refine Below.alloc ?_ ?_ _) | (with_reducible apply Blk.set') | (with_reducible apply Blk.far') | (with_reducible refine RowIn.far' ?_ ?_ _) | (with_reducible refine Below.far' ?_ ?_ _) | rfl | omega | go_size))) (by omega) hlf).mono ?_
  rintro e w1 ⟨rfl, b1⟩
  have s1 := b1.size
  try simp only [World.size_alloc, World.size_setCell, World.size_drew, size_drewN] at s1
  obtain ⟨zf_1, zd_1, rf_1, rt_1, bb_1⟩ : Blk w1 (w.heap.size) 24 [.slice Af nf cf, .int .i64 ((xf.length : Nat) : Int)] ∧ Blk w1 (w.heap.size + 1) 27 [.int .i64 (d0 : Int), .int .i64 (d1 : Int), .int .u64 (e0 : Int), .int .u64 (e1 : Int)] ∧ RowIn .u8 w1 (0) (w.heap.size) Af nf (pack xf) ∧ RowIn .u8 w1 (0) (w.heap.size) (some ⟨0, 0, none⟩) 64 dbTab ∧ Below w.heap.size w w1 := by
    refine ⟨?_, ?_, ?_, ?_, ?_⟩
    all_goals repeat' (first | (with_reducible assumption) | (with_reducible exact Below.refl _ _) | (with_reducible refine Blk.drewN ?_ _) | (with_reducible refine RowIn.drewN ?_ _) | (with_reducible refine below_drewN ?_ _) | (with_reducible refine Blk.drew ?_) | (with_reducible refine RowIn.drew ?_) | (with_reducible refine Below.drew ?_) | (with_reducible refine Blk.new' ?_ ?_ <;> first | (with_reducible rfl) | (simp; done)) | (with_reducible refine Blk.alloc ?_ _) | (with_reducible refine RowIn.alloc ?_ _) | (with_reducible refine Below.alloc ?_ ?_ _) | (with_reducible apply Blk.set') | (with_reducible apply Blk.far') | (with_reducible refine RowIn.far' ?_ ?_ _) | (with_reducible refine Below.far' ?_ ?_ _) | (with_reducible refine Blk.after ?_ b1) | (with_reducible refine RowIn.belowS ?_ b1) | (with_reducible refine Below.after ?_ b1 ?_) | rfl | omega | go_size)
  clear b1
  have kf_1 := zf_1.cell; have ff_1 := zf_1.frozen; have lf_1 := zf_1.lt
  have kd_1 := zd_1.cell; have fd_1 := zd_1.frozen; have ld_1 := zd_1.lt
  go_wp2_with fail
  refine (rdcheck_any (d0 : Int) (d1 : Int) (e0 : Int) (e1 : Int) 0 _ (by omega) (by omega) (by rw [if_pos HDK.out])).mono ?_
  rintro e w2 ⟨rfl, b2⟩
  have s2 := b2.size
  try simp only [World.size_alloc, World.size_setCell, World.size_drew, size_drewN] at s2
  obtain ⟨zf_2, zd_2, rf_2, rt_2, bb_2⟩ : Blk w2 (w.heap.size) 24 [.slice Af nf cf, .int .i64 ((xf.length : Nat) : Int)] ∧ Blk w2 (w.heap.size + 1) 27 [.int .i64 (d0 : Int), .int .i64 (d1 : Int), .int .u64 (e0 : Int), .int .u64 (e1 : Int)] ∧ RowIn .u8 w2 (0) (w.heap.size) Af nf (pack xf) ∧ RowIn .u8 w2 (0) (w.heap.size) (some ⟨0, 0, none⟩) 64 dbTab ∧ Below w.heap.size w w2 := by
    refine ⟨?_, ?_, ?_, ?_, ?_⟩
    all_goals repeat' (first | (with_reducible assumption) | (with_reducible exact Below.refl _ _) | (with_reducible refine Blk.drewN ?_ _) | (with_reducible refine RowIn.drewN ?_ _) | (with_reducible refine below_drewN ?_ _) | (with_reducible refine Blk.drew ?_) | (with_reducible refine RowIn.drew ?_) | (with_reducible refine Below.drew ?_) | (with_reducible refine Blk.new' ?_ ?_ <;> first | (with_reducible rfl) | (simp; done)) | (with_reducible refine Blk.alloc ?_ _) | (with_reducible refine RowIn.alloc ?_ _) | (with_reducible refine Below.alloc ?_ ?_ _) | (with_reducible apply Blk.set') | (with_reducible apply Blk.far') | (with_reducible refine RowIn.far' ?_ ?_ _) | (with_reducible refine Below.far' ?_ ?_ _) | (with_reducible refine Blk.after ?_ b2) | (with_reducible refine RowIn.belowS ?_ b2) | (with_reducible refine Below.after ?_ b2 ?_) | rfl | omega | go_size)
  clear zf_1 zd_1 rf_1 rt_1 bb_1 kf_1 ff_1 lf_1 kd_1 fd_1 ld_1 b2
  have kf_2 := zf_2.cell; have ff_2 := zf_2.frozen; have lf_2 := zf_2.lt
  have kd_2 := zd_2.cell; have fd_2 := zd_2.frozen; have ld_2 := zd_2.lt
  go_wp2_with fail
  apply merge3 (fun (gb : Nat) (gn : Nat) (wz : World) => Blk wz gb 24 [.slice Af nf cf, .int .i64 ((xf.length : Nat) : Int)] ∧ Blk wz gn 27 [.int .i64 (d0 : Int), .int .i64 (d1 : Int), .int .u64 (e0 : Int), .int .u64 (e1 : Int)] ∧ w2.heap.size ≤ gb ∧ w2.heap.size ≤ gn ∧ gb ≠ gn ∧ Blk wz (w.heap.size) 24 [.slice Af nf cf, .int .i64 ((xf.length : Nat) : Int)] ∧ Blk wz (w.heap.size + 1) 27 [.int .i64 (d0 : Int), .int .i64 (d1 : Int), .int .u64 (e0 : Int), .int .u64 (e1 : Int)] ∧ RowIn .u8 wz (0) (w.heap.size) Af nf (pack xf) ∧ RowIn .u8 wz (0) (w.heap.size) (some ⟨0, 0, none⟩) 64 dbTab ∧ Below w.heap.size w wz ∧ w2.heap.size ≤ wz.heap.size)
  case main =>
    intro key
    go_region
    all_goals
      refine gen_world (fun wz hwz => ?_)
      first
      | (generalize hg0 : w2.heap.size + 1 = gn; generalize hg1 : w2.heap.size = gb; refine key gb gn wz ?_; subst hg1; subst hg0; subst hwz; refine ⟨?_, ?_, ?_, ?_, ?_, ?_, ?_, ?_, ?_, ?_, ?_⟩ <;> ((repeat' (first | (with_reducible assumption) | (with_reducible exact Below.refl _ _) | (with_reducible refine Blk.drewN ?_ _) | (with_reducible refine RowIn.drewN ?_ _) | (with_reducible refine below_drewN ?_ _) | (with_reducible refine Blk.drew ?_) | (with_reducible refine RowIn.drew ?_) | (with_reducible refine Below.drew ?_) | (with_reducible refine Blk.new' ?_ ?_ <;> first | (with_reducible rfl) | (simp; done)) | (with_reducible refine Blk.alloc ?_ _) | (with_reducible refine RowIn.alloc ?_ _) | (with_reducible refine Below.alloc ?_ ?_ _) | (with_reducible apply Blk.set') | (with_reducible apply Blk.far') | (with_reducible refine RowIn.far' ?_ ?_ _) | (with_reducible refine Below.far' ?_ ?_ _) | rfl | omega | go_size)); done))
      | (generalize hg0 : w2.heap.size + 1 = gb; generalize hg1 : w2.heap.size = gn; refine key gb gn wz ?_; subst hg1; subst hg0; subst hwz; refine ⟨?_, ?_, ?_, ?_, ?_, ?_, ?_, ?_, ?_, ?_, ?_⟩ <;> ((repeat' (first | (with_reducible assumption) | (with_reducible exact Below.refl _ _) | (with_reducible refine Blk.drewN ?_ _) | (with_reducible refine RowIn.drewN ?_ _) | (with_reducible refine below_drewN ?_ _) | (with_reducible refine Blk.drew ?_) | (with_reducible refine RowIn.drew ?_) | (with_reducible refine Below.drew ?_) | (with_reducible refine Blk.new' ?_ ?_ <;> first | (with_reducible rfl) | (simp; done)) | (with_reducible refine Blk.alloc ?_ _) | (with_reducible refine RowIn.alloc ?_ _) | (with_reducible refine Below.alloc ?_ ?_ _) | (with_reducible apply Blk.set') | (with_reducible apply Blk.far') | (with_reducible refine RowIn.far' ?_ ?_ _) | (with_reducible refine Below.far' ?_ ?_ _) | rfl | omega | go_size)); done))
  case k =>
    intro gb gn w3 hF
    obtain ⟨zb0, zn0, hgb, hgn, hgbn, zf_3, zd_3, rf_3, rt_3, bb_3, s3⟩ := hF
    clear zf_2 zd_2 rf_2 rt_2 bb_2 kf_2 ff_2 lf_2 kd_2 fd_2 ld_2
    have kf_3 := zf_3.cell; have ff_3 := zf_3.frozen; have lf_3 := zf_3.lt
    have kd_3 := zd_3.cell; have fd_3 := zd_3.frozen; have ld_3 := zd_3.lt
    go_wp2_with fail
    go_loopg [9] nl (fun k v wr => ∃ (j : Nat) (B : Option Addr) (m c lo hi : Nat) (y : List Bool) (p0 p1 q0 q1 : Nat), j + k = nl ∧ v = .int .i64 (j : Nat) ∧ Hid (y = xf ++ codeP ⟨d0, d1, e0, e1⟩ xsl j) ∧ y.length ≤ xf.length + 81 * j ∧ (m ≤ c ∧ c ≤ 9223372036854775807) ∧ Hid ((⟨p0, p1, q0, q1⟩ : Dual) = stP ⟨d0, d1, e0, e1⟩ xsl j) ∧ Blk wr (w.heap.size) 24 [.slice Af nf cf, .int .i64 ((xf.length : Nat) : Int)] ∧ Blk wr (w.heap.size + 1) 27 [.int .i64 (d0 : Int), .int .i64 (d1 : Int), .int .u64 (e0 : Int), .int .u64 (e1 : Int)] ∧ Blk wr gb 24 [.slice B m c, .int .i64 ((y.length : Nat) : Int)] ∧ Blk wr gn 27 [.int .i64 (p0 : Int), .int .i64 (p1 : Int), .int .u64 (q0 : Int), .int .u64 (q1 : Int)] ∧ RowIn .u8 wr lo hi B m (pack y) ∧ (gb < lo ∨ hi ≤ gb) ∧ (gn < lo ∨ hi ≤ gn) ∧ hi ≤ wr.heap.size ∧ Below w.heap.size w wr ∧ w2.heap.size ≤ wr.heap.size)
    case atStart =>
      refine ⟨0, Af, nf, cf, 0, w.heap.size, xf, d0, d1, e0, e1, by omega, rfl, Lib.hid (by rw [codeP_zero, List.append_nil]), by omega, hcf, Lib.hid rfl, ?_, ?_, ?_, ?_, ?_, Or.inr (by omega), Or.inr (by omega), by go_size, ?_, by go_size⟩
      all_goals repeat' (first | (with_reducible assumption) | (with_reducible exact Below.refl _ _) | (with_reducible refine Blk.drewN ?_ _) | (with_reducible refine RowIn.drewN ?_ _) | (with_reducible refine below_drewN ?_ _) | (with_reducible refine Blk.drew ?_) | (with_reducible refine RowIn.drew ?_) | (with_reducible refine Below.drew ?_) | (with_reducible refine Blk.new' ?_ ?_ <;> first | (with_reducible rfl) | (simp; done)) | (with_reducible refine Blk.alloc ?_ _) | (with_reducible refine RowIn.alloc ?_ _) | (with_reducible refine Below.alloc ?_ ?_ _) | (with_reducible apply Blk.set') | (with_reducible apply Blk.far') | (with_reducible refine RowIn.far' ?_ ?_ _) | (with_reducible refine Below.far' ?_ ?_ _) | rfl | omega | go_size)
    case round =>
      obtain ⟨j, B, m, c, lo, hi, y, p0, p1, q0, q1, hj, rfl, HY, hyl, hcy, HP, zf, zd, zb, zn, ry, hlo, hlo2, hhi, bb, sw⟩ := hrel
      clear zf_3 kf_3 ff_3 lf_3 zd_3 kd_3 fd_3 ld_3 rf_3 rt_3 bb_3 zb0 zn0
      have s5 := bb.size
      have rt : RowIn .u8 wr 0 w.heap.size (some ⟨0, 0, none⟩) 64 dbTab := hti.below bb (Nat.le_refl _)
      obtain ⟨zf_5, zd_5, zb_5, zn_5, rt_5, ry_5, bb_5⟩ := And.intro zf (And.intro zd (And.intro zb (And.intro zn (And.intro rt (And.intro ry bb)))))
      clear zf zd zb zn rt ry bb
      have kf_5 := zf_5.cell; have ff_5 := zf_5.frozen; have lf_5 := zf_5.lt
      have kd_5 := zd_5.cell; have fd_5 := zd_5.frozen; have ld_5 := zd_5.lt
      have kb_5 := zb_5.cell; have fb_5 := zb_5.frozen; have lb_5 := zb_5.lt
      have kn_5 := zn_5.cell; have fn_5 := zn_5.frozen; have ln_5 := zn_5.lt
      by_cases hlt : j < nl
      · obtain ⟨bl, ol, rfl, hbl, hcell⟩ := hal.at (by omega)
        obtain ⟨v, hv⟩ : ∃ v, nth xsl j = v := ⟨_, rfl⟩
        have hvb := hxl.nth (by decide) (by decide) j
        rw [hv] at hvb
        have c0 : w.cell? ⟨bl, ol + j, none⟩ = some (.int .u32 v) := by rw [hcell j hlt, hv]
        obtain ⟨v, rfl⟩ := Int.eq_ofNat_of_zero_le hvb.1
        have hv32 : v < 4294967296 := by omega
        have CL := Lib.hid c0
        have HV : Hid ((nth xsl j).toNat = v) := Lib.hid (by rw [hv]; rfl)
        clear c0 hcell hv
        have hpo : Dual.Ok ⟨p0, p1, q0, q1⟩ := by rw [HP.out]; exact stP_ok HD.out hxl j
        have HPO := Lib.hid hpo
        clear hpo
        obtain ⟨u0, u1, v0, v1, hu⟩ := Dual.four (learn ⟨p0, p1, q0, q1⟩ v)
        have HU := Lib.hid hu
        have HUO : Hid (Dual.Ok ⟨u0, u1, v0, v1⟩) := Lib.hid (by rw [← hu]; exact learn_ok HPO.out hv32)
        clear hu
        obtain ⟨L, hL⟩ : ∃ L, lenD ⟨p0, p1, q0, q1⟩ v = L := ⟨_, rfl⟩
        have hL2 : 1 ≤ L ∧ L ≤ 81 := by rw [← hL]; exact lenD_le HPO.out v
        have HL := Lib.hid hL
        clear hL
        obtain ⟨hL3, hL4⟩ := hL2
        have hbl1 : bl < w.heap.size := hbl
        have hbL := hbl1
        have cL_5 : wr.cell? ⟨bl, ol + j, none⟩ = some (.int .u32 (v : Int)) := (bb_5.cell (p := ⟨bl, ol + j, none⟩) hbL).trans CL.out
        have l0b := lb_5; have l0n := ln_5
        go_wp2_with fail
        have kn_5d := (Blk.drew zn_5).cell
        have cL_5d : wr.drew.cell? ⟨bl, ol + j, none⟩ = some (.int .u32 (v : Int)) := cL_5
        go_region_held3 (fun w' => (∀ a, w'.cell? ⟨gn, a, none⟩ = [.int .i64 (p0 : Int), .int .i64 (p1 : Int), .int .u64 (q0 : Int), .int .u64 (q1 : Int)][a]?) ∧ w'.cell? ⟨bl, ol + j, none⟩ = some (.int .u32 (v : Int))) (first | with_reducible exact ⟨kn_5, cL_5⟩ | with_reducible exact ⟨kn_5d, cL_5d⟩ | with_reducible exact ⟨kn_6, cL_6⟩) (first
          | (go_simp; go_at_call 32; refine (dlen_c _ HPO.out hv32 HL.out).mono ?_
             rintro e w6 ⟨rfl, b6⟩
             have s6 : wr.heap.size ≤ w6.heap.size := b6.size
             have zf_6 := ((Blk.drew zf_5)).after b6; have kf_6 := zf_6.cell; have ff_6 := zf_6.frozen; have lf_6 := zf_6.lt
             have zd_6 := ((Blk.drew zd_5)).after b6; have kd_6 := zd_6.cell; have fd_6 := zd_6.frozen; have ld_6 := zd_6.lt
             have zb_6 := ((Blk.drew zb_5)).after b6; have kb_6 := zb_6.cell; have fb_6 := zb_6.frozen; have lb_6 := zb_6.lt
             have zn_6 := ((Blk.drew zn_5)).after b6; have kn_6 := zn_6.cell; have fn_6 := zn_6.frozen; have ln_6 := zn_6.lt
             have rt_6 := ((RowIn.drew rt_5)).belowS b6
             have ry_6 := ((RowIn.drew ry_5)).belowS b6
             have bb_6 := Below.after (Below.drew bb_5) b6 bb_5.size
             have cL_6 : w6.cell? ⟨bl, ol + j, none⟩ = some (.int .u32 (v : Int)) := (bb_6.cell (p := ⟨bl, ol + j, none⟩) hbL).trans CL.out))
        all_goals
          go_wp2_with fail
          apply merge2 (fun (gx : Nat) (wz : World) => Blk wz gx 27 [.int .i64 (u0 : Int), .int .i64 (u1 : Int), .int .u64 (v0 : Int), .int .u64 (v1 : Int)] ∧ w6.heap.size ≤ gx ∧ Blk wz (w.heap.size) 24 [.slice Af nf cf, .int .i64 ((xf.length : Nat) : Int)] ∧ Blk wz (w.heap.size + 1) 27 [.int .i64 (d0 : Int), .int .i64 (d1 : Int), .int .u64 (e0 : Int), .int .u64 (e1 : Int)] ∧ Blk wz (gb) 24 [.slice B m c, .int .i64 ((y.length : Nat) : Int)] ∧ Blk wz (gn) 27 [.int .i64 (p0 : Int), .int .i64 (p1 : Int), .int .u64 (q0 : Int), .int .u64 (q1 : Int)] ∧ RowIn .u8 wz (0) (w.heap.size) (some ⟨0, 0, none⟩) 64 dbTab ∧ RowIn .u8 wz (lo) (hi) B m (pack y) ∧ Below w.heap.size w wz ∧ w6.heap.size ≤ wz.heap.size)
          case main =>
            intro key
            have na_0 : w.heap.size ≤ w6.heap.size := by omega
            have naf_0 : w.heap.size ≠ w6.heap.size := by omega
            have nad_0 : w.heap.size + 1 ≠ w6.heap.size := by omega
            have nab_0 : gb ≠ w6.heap.size := by omega
            have nan_0 : gn ≠ w6.heap.size := by omega
            have nrt_0 : w6.heap.size < 0 ∨ w.heap.size ≤ w6.heap.size := by omega
            have nry_0 : w6.heap.size < lo ∨ hi ≤ w6.heap.size := by omega
            go_region_held3 (fun w' => (∀ a, w'.cell? ⟨gn, a, none⟩ = [.int .i64 (p0 : Int), .int .i64 (p1 : Int), .int .u64 (q0 : Int), .int .u64 (q1 : Int)][a]?) ∧ w'.cell? ⟨bl, ol + j, none⟩ = some (.int .u32 (v : Int))) (first | with_reducible exact ⟨kn_6, cL_6⟩ | (refine ⟨Blk.cell (t := 27) ?_, (Below.cell (p := ⟨bl, ol + j, none⟩) (B := w.heap.size) (w := w) ?_ hbL).trans CL.out⟩; all_goals repeat' (first | (with_reducible assumption) | (with_reducible exact Below.refl _ _) | (with_reducible refine Blk.drewN ?_ _) | (with_reducible refine RowIn.drewN ?_ _) | (with_reducible refine below_drewN ?_ _) | (with_reducible refine Blk.drew ?_) | (with_reducible refine RowIn.drew ?_) | (with_reducible refine Below.drew ?_) | (with_reducible refine Blk.new' ?_ ?_ <;> first | (with_reducible rfl) | (simp; done)) | (with_reducible refine Blk.alloc ?_ _) | (with_reducible refine RowIn.alloc ?_ _) | (with_reducible refine Below.alloc ?_ ?_ _) | (with_reducible apply Blk.set') | (with_reducible apply Blk.far4) | (with_reducible apply RowIn.far4) | (with_reducible apply Below.far4) | (with_reducible apply Blk.far2) | (with_reducible apply RowIn.far2) | (with_reducible apply Below.far2) | (with_reducible apply Blk.far') | (with_reducible refine RowIn.far' ?_ ?_ _) | (with_reducible refine Below.far' ?_ ?_ _) | (with_reducible refine Blk.after ?_ bq) | (with_reducible refine RowIn.belowS ?_ bq) | (with_reducible refine Below.after ?_ bq ?_) | rfl | omega | go_size))) (
              (go_simp; go_at_call 33; refine (dlearn_c _ HPO.out hv32 HU.out).mono ?_; rintro e wq ⟨rfl, bq⟩
               have sq := bq.size
               try simp only [World.size_alloc, World.size_setCell, World.size_drew, size_drewN] at sq
               try (with_reducible (have zq1 := Blk.after (Blk.drew (Blk.new' (g := w6.heap.size) (t := 27) (l := [.int .i64 0, .int .i64 0, .int .u64 0, .int .u64 0]) rfl rfl)) bq); have kq1 := zq1.cell; have fq1 := zq1.frozen; have lq1 := zq1.lt)))
            all_goals
              refine gen_world (fun wz hwz => ?_)
              first
              | (generalize hg0 : wq.heap.size = gx; refine key gx wz ?_; subst hg0; subst hwz; refine ⟨?_, ?_, ?_, ?_, ?_, ?_, ?_, ?_, ?_, ?_⟩ <;> ((repeat' (first | (with_reducible assumption) | (with_reducible exact Below.refl _ _) | (with_reducible refine Blk.drewN ?_ _) | (with_reducible refine RowIn.drewN ?_ _) | (with_reducible refine below_drewN ?_ _) | (with_reducible refine Blk.drew ?_) | (with_reducible refine RowIn.drew ?_) | (with_reducible refine Below.drew ?_) | (with_reducible refine Blk.new' ?_ ?_ <;> first | (with_reducible rfl) | (simp; done)) | (with_reducible refine Blk.alloc ?_ _) | (with_reducible refine RowIn.alloc ?_ _) | (with_reducible refine Below.alloc ?_ ?_ _) | (with_reducible apply Blk.set') | (with_reducible apply Blk.far4) | (with_reducible apply RowIn.far4) | (with_reducible apply Below.far4) | (with_reducible apply Blk.far2) | (with_reducible apply RowIn.far2) | (with_reducible apply Below.far2) | (with_reducible apply Blk.far') | (with_reducible refine RowIn.far' ?_ ?_ _) | (with_reducible refine Below.far' ?_ ?_ _) | (with_reducible refine Blk.after ?_ bq) | (with_reducible refine RowIn.belowS ?_ bq) | (with_reducible refine Below.after ?_ bq ?_) | rfl | omega | go_size)); done))
              | (generalize hg0 : w6.heap.size = gx; refine key gx wz ?_; subst hg0; subst hwz; refine ⟨?_, ?_, ?_, ?_, ?_, ?_, ?_, ?_, ?_, ?_⟩ <;> ((repeat' (first | (with_reducible assumption) | (with_reducible exact Below.refl _ _) | (with_reducible refine Blk.drewN ?_ _) | (with_reducible refine RowIn.drewN ?_ _) | (with_reducible refine below_drewN ?_ _) | (with_reducible refine Blk.drew ?_) | (with_reducible refine RowIn.drew ?_) | (with_reducible refine Below.drew ?_) | (with_reducible refine Blk.new' ?_ ?_ <;> first | (with_reducible rfl) | (simp; done)) | (with_reducible refine Blk.alloc ?_ _) | (with_reducible refine RowIn.alloc ?_ _) | (with_reducible refine Below.alloc ?_ ?_ _) | (with_reducible apply Blk.set') | (with_reducible apply Blk.far4) | (with_reducible apply RowIn.far4) | (with_reducible apply Below.far4) | (with_reducible apply Blk.far2) | (with_reducible apply RowIn.far2) | (with_reducible apply Below.far2) | (with_reducible apply Blk.far') | (with_reducible refine RowIn.far' ?_ ?_ _) | (with_reducible refine Below.far' ?_ ?_ _) | (with_reducible refine Blk.after ?_ bq) | (with_reducible refine RowIn.belowS ?_ bq) | (with_reducible refine Below.after ?_ bq ?_) | rfl | omega | go_size)); done))
          case k =>
            intro gx w7 hF
            obtain ⟨zx0, hgx, zf_7, zd_7, zb_7, zn_7, rt_7, ry_7, bb_7, s7⟩ := hF
            clear zf_6 zd_6 zb_6 zn_6 rt_6 ry_6 bb_6 kf_6 ff_6 lf_6 kd_6 fd_6 ld_6 kb_6 fb_6 lb_6 kn_6 fn_6 ln_6 cL_6
            have kf_7 := zf_7.cell; have ff_7 := zf_7.frozen; have lf_7 := zf_7.lt
            have kd_7 := zd_7.cell; have fd_7 := zd_7.frozen; have ld_7 := zd_7.lt
            have kb_7 := zb_7.cell; have fb_7 := zb_7.frozen; have lb_7 := zb_7.lt
            have kn_7 := zn_7.cell; have fn_7 := zn_7.frozen; have ln_7 := zn_7.lt
            have cL_7 : w7.cell? ⟨bl, ol + j, none⟩ = some (.int .u32 (v : Int)) := (bb_7.cell (p := ⟨bl, ol + j, none⟩) hbL).trans CL.out
            have S7 : wr.heap.size ≤ w7.heap.size := by omega
            have zx_7 := zx0; have kx_7 := zx_7.cell; have fx_7 := zx_7.frozen; have lx_7 := zx_7.lt
            clear zx0
            go_wp2_with fail
            have hcl0 : (codeD ⟨p0, p1, q0, q1⟩ v).length = L := by rw [codeD_len]; exact HL.out
            have HCL := Lib.hid hcl0
            clear hcl0
            have HDW : Hid (dwR y ⟨p0, p1, q0, q1⟩ v = (y ++ codeD ⟨p0, p1, q0, q1⟩ v, ⟨u0, u1, v0, v1⟩, 0)) := Lib.hid (by unfold dwR; rw [if_neg (by have := HL.out; omega), HU.out])
            apply merge7 (fun (Ax : Option Addr) (mx : Nat) (cx : Nat) (xx : List Bool) (gy : Nat) (gz : Nat) (wz : World) => Blk wz gy 24 [.slice Ax mx cx, .int .i64 ((xx.length : Nat) : Int)] ∧ Blk wz gz 27 [.int .i64 (u0 : Int), .int .i64 (u1 : Int), .int .u64 (v0 : Int), .int .u64 (v1 : Int)] ∧ (mx ≤ cx ∧ cx ≤ 9223372036854775807) ∧ Hid (xx = y ++ codeD ⟨p0, p1, q0, q1⟩ v) ∧ w7.heap.size ≤ gy ∧ w7.heap.size ≤ gz ∧ gy ≠ gz ∧ (∃ lo hi : Nat, w7.heap.size ≤ lo ∧ hi ≤ wz.heap.size ∧ RowIn .u8 wz lo hi Ax mx (pack xx)) ∧ Blk wz (w.heap.size) 24 [.slice Af nf cf, .int .i64 ((xf.length : Nat) : Int)] ∧ Blk wz (w.heap.size + 1) 27 [.int .i64 (d0 : Int), .int .i64 (d1 : Int), .int .u64 (e0 : Int), .int .u64 (e1 : Int)] ∧ Blk wz (gb) 24 [.slice B m c, .int .i64 ((y.length : Nat) : Int)] ∧ Blk wz (gn) 27 [.int .i64 (p0 : Int), .int .i64 (p1 : Int), .int .u64 (q0 : Int), .int .u64 (q1 : Int)] ∧ Blk wz (gx) 27 [.int .i64 (u0 : Int), .int .i64 (u1 : Int), .int .u64 (v0 : Int), .int .u64 (v1 : Int)] ∧ RowIn .u8 wz (0) (w.heap.size) (some ⟨0, 0, none⟩) 64 dbTab ∧ RowIn .u8 wz (lo) (hi) B m (pack y) ∧ Below w.heap.size w wz ∧ w7.heap.size ≤ wz.heap.size)
            case main =>
              intro key
              have na_0 : w.heap.size ≤ w7.heap.size := by omega
              have naf_0 : w.heap.size ≠ w7.heap.size := by omega
              have nad_0 : w.heap.size + 1 ≠ w7.heap.size := by omega
              have nab_0 : gb ≠ w7.heap.size := by omega
              have nan_0 : gn ≠ w7.heap.size := by omega
              have nax_0 : gx ≠ w7.heap.size := by omega
              have nrt_0 : w7.heap.size < 0 ∨ w.heap.size ≤ w7.heap.size := by omega
              have nry_0 : w7.heap.size < lo ∨ hi ≤ w7.heap.size := by omega
              have na_1 : w.heap.size ≤ w7.heap.size + 1 := by omega
              have naf_1 : w.heap.size ≠ w7.heap.size + 1 := by omega
              have nad_1 : w.heap.size + 1 ≠ w7.heap.size + 1 := by omega
              have nab_1 : gb ≠ w7.heap.size + 1 := by omega
              have nan_1 : gn ≠ w7.heap.size + 1 := by omega
              have nax_1 : gx ≠ w7.heap.size + 1 := by omega
              have nrt_1 : w7.heap.size + 1 < 0 ∨ w.heap.size ≤ w7.heap.size + 1 := by omega
              have nry_1 : w7.heap.size + 1 < lo ∨ hi ≤ w7.heap.size + 1 := by omega
              go_region_held3 (fun w' => (∀ a, w'.cell? ⟨gb, a, none⟩ = [.slice B m c, .int .i64 ((y.length : Nat) : Int)][a]?) ∧ (∀ a, w'.cell? ⟨gn, a, none⟩ = [.int .i64 (p0 : Int), .int .i64 (p1 : Int), .int .u64 (q0 : Int), .int .u64 (q1 : Int)][a]?) ∧ w'.cell? ⟨bl, ol + j, none⟩ = some (.int .u32 (v : Int))) (first | with_reducible exact ⟨kb_7, kn_7, cL_7⟩ | (refine ⟨Blk.cell (t := 24) ?_, Blk.cell (t := 27) ?_, (Below.cell (p := ⟨bl, ol + j, none⟩) (B := w.heap.size) (w := w) ?_ hbL).trans CL.out⟩; all_goals repeat' (first | (with_reducible assumption) | (with_reducible exact Below.refl _ _) | (with_reducible refine Blk.drewN ?_ _) | (with_reducible refine RowIn.drewN ?_ _) | (with_reducible refine below_drewN ?_ _) | (with_reducible refine Blk.drew ?_) | (with_reducible refine RowIn.drew ?_) | (with_reducible refine Below.drew ?_) | (with_reducible refine Blk.new' ?_ ?_ <;> first | (with_reducible rfl) | (simp; done)) | (with_reducible refine Blk.alloc ?_ _) | (with_reducible refine RowIn.alloc ?_ _) | (with_reducible refine Below.alloc ?_ ?_ _) | (with_reducible apply Blk.set') | (with_reducible apply Blk.far4) | (with_reducible apply RowIn.far4) | (with_reducible apply Below.far4) | (with_reducible apply Blk.far2) | (with_reducible apply RowIn.far2) | (with_reducible apply Below.far2) | (with_reducible apply Blk.far') | (with_reducible refine RowIn.far' ?_ ?_ _) | (with_reducible refine Below.far' ?_ ?_ _) | (with_reducible refine Blk.after ?_ bq) | (with_reducible refine RowIn.belowS ?_ bq) | (with_reducible refine Below.after ?_ bq ?_) | rfl | omega | go_size))) (
                (go_simp; go_at_call 34; refine (dwrite_c B m c y (y ++ codeD ⟨p0, p1, q0, q1⟩ v) _ (by exact RowIn.row (lo := lo) (hi := hi) (by repeat' (first | (with_reducible assumption) | (with_reducible exact Below.refl _ _) | (with_reducible refine Blk.drewN ?_ _) | (with_reducible refine RowIn.drewN ?_ _) | (with_reducible refine below_drewN ?_ _) | (with_reducible refine Blk.drew ?_) | (with_reducible refine RowIn.drew ?_) | (with_reducible refine Below.drew ?_) | (with_reducible refine Blk.new' ?_ ?_ <;> first | (with_reducible rfl) | (simp; done)) | (with_reducible refine Blk.alloc ?_ _) | (with_reducible refine RowIn.alloc ?_ _) | (with_reducible refine Below.alloc ?_ ?_ _) | (with_reducible apply Blk.set') | (with_reducible apply Blk.far') | (with_reducible refine RowIn.far' ?_ ?_ _) | (with_reducible refine Below.far' ?_ ?_ _) | rfl | omega | go_size))) hcy (by omega) HPO.out hv32 0 HDW.out).mono ?_; rintro e wq ⟨Ax, mx, cx, xx, rfl, hcx, rx, HXx, bq⟩
                 have sq := bq.size
                 try simp only [World.size_alloc, World.size_setCell, World.size_drew, size_drewN] at sq
                 obtain ⟨lox, hlox1, hlox2, rx⟩ := RowIn.pick2 rx
                 try simp only [World.size_alloc, World.size_drew, size_drewN] at hlox1
                 try simp only [World.size_alloc, World.size_drew, size_drewN] at hlox2
                 try (with_reducible (have zq1 := Blk.after (Blk.drew (Blk.new' (g := w7.heap.size) (t := 24) (l := [.slice none 0 0, .int .i64 0]) rfl rfl)) bq); have kq1 := zq1.cell; have fq1 := zq1.frozen; have lq1 := zq1.lt)
                 try (with_reducible (have zq2 := Blk.after (Blk.drew (Blk.new0 (w := w7) (t := 24) (l := [.slice none 0 0, .int .i64 0]) rfl)) bq); have kq2 := zq2.cell; have fq2 := zq2.frozen; have lq2 := zq2.lt)
                 try (with_reducible (have zq3 := Blk.after (Blk.drew (Blk.new1 (w := w7) (t := 24) (l := [.slice none 0 0, .int .i64 0]) rfl)) bq); have kq3 := zq3.cell; have fq3 := zq3.frozen; have lq3 := zq3.lt)
                 try (with_reducible (have zq4 := Blk.after (Blk.drew (Blk.new' (g := w7.heap.size) (t := 27) (l := [.int .i64 0, .int .i64 0, .int .u64 0, .int .u64 0]) rfl rfl)) bq); have kq4 := zq4.cell; have fq4 := zq4.frozen; have lq4 := zq4.lt)
                 try (with_reducible (have zq5 := Blk.after (Blk.drew (Blk.new0 (w := w7) (t := 27) (l := [.int .i64 0, .int .i64 0, .int .u64 0, .int .u64 0]) rfl)) bq); have kq5 := zq5.cell; have fq5 := zq5.frozen; have lq5 := zq5.lt)
                 try (with_reducible (have zq6 := Blk.after (Blk.drew (Blk.new1 (w := w7) (t := 27) (l := [.int .i64 0, .int .i64 0, .int .u64 0, .int .u64 0]) rfl)) bq); have kq6 := zq6.cell; have fq6 := zq6.frozen; have lq6 := zq6.lt)))
              all_goals
                refine gen_world (fun wz hwz => ?_)
                first
                | (generalize hg0 : wq.heap.size + 1 = gz; generalize hg1 : wq.heap.size = gy; refine key Ax mx cx xx gy gz wz ?_; subst hg1; subst hg0; subst hwz; refine ⟨?_, ?_, ?_, ?_, ?_, ?_, ?_, ?_, ?_, ?_, ?_, ?_, ?_, ?_, ?_, ?_, ?_⟩ <;> ((repeat' (first | (refine ⟨lox, wq.heap.size, by omega, by go_size, ?_⟩) | (with_reducible assumption) | (with_reducible exact Below.refl _ _) | (with_reducible refine Blk.drewN ?_ _) | (with_reducible refine RowIn.drewN ?_ _) | (with_reducible refine below_drewN ?_ _) | (with_reducible refine Blk.drew ?_) | (with_reducible refine RowIn.drew ?_) | (with_reducible refine Below.drew ?_) | (with_reducible refine Blk.new' ?_ ?_ <;> first | (with_reducible rfl) | (simp; done)) | (with_reducible refine Blk.alloc ?_ _) | (with_reducible refine RowIn.alloc ?_ _) | (with_reducible refine Below.alloc ?_ ?_ _) | (with_reducible apply Blk.set') | (with_reducible apply Blk.far4) | (with_reducible apply RowIn.far4) | (with_reducible apply Below.far4) | (with_reducible apply Blk.far2) | (with_reducible apply RowIn.far2) | (with_reducible apply Below.far2) | (with_reducible apply Blk.far') | (with_reducible refine RowIn.far' ?_ ?_ _) | (with_reducible refine Below.far' ?_ ?_ _) | (with_reducible refine Blk.after ?_ bq) | (with_reducible refine RowIn.belowS ?_ bq) | (with_reducible refine Below.after ?_ bq ?_) | rfl | omega | go_size)); done))
                | (generalize hg0 : wq.heap.size + 1 = gy; generalize hg1 : wq.heap.size = gz; refine key Ax mx cx xx gy gz wz ?_; subst hg1; subst hg0; subst hwz; refine ⟨?_, ?_, ?_, ?_, ?_, ?_, ?_, ?_, ?_, ?_, ?_, ?_, ?_, ?_, ?_, ?_, ?_⟩ <;> ((repeat' (first | (refine ⟨lox, wq.heap.size, by omega, by go_size, ?_⟩) | (with_reducible assumption) | (with_reducible exact Below.refl _ _) | (with_reducible refine Blk.drewN ?_ _) | (with_reducible refine RowIn.drewN ?_ _) | (with_reducible refine below_drewN ?_ _) | (with_reducible refine Blk.drew ?_) | (with_reducible refine RowIn.drew ?_) | (with_reducible refine Below.drew ?_) | (with_reducible refine Blk.new' ?_ ?_ <;> first | (with_reducible rfl) | (simp; done)) | (with_reducible refine Blk.alloc ?_ _) | (with_reducible refine RowIn.alloc ?_ _) | (with_reducible refine Below.alloc ?_ ?_ _) | (with_reducible apply Blk.set') | (with_reducible apply Blk.far4) | (with_reducible apply RowIn.far4) | (with_reducible apply Below.far4) | (with_reducible apply Blk.far2) | (with_reducible apply RowIn.far2) | (with_reducible apply Below.far2) | (with_reducible apply Blk.far') | (with_reducible refine RowIn.far' ?_ ?_ _) | (with_reducible refine Below.far' ?_ ?_ _) | (with_reducible refine Blk.after ?_ bq) | (with_reducible refine RowIn.belowS ?_ bq) | (with_reducible refine Below.after ?_ bq ?_) | rfl | omega | go_size)); done))
                | (generalize hg0 : wq.heap.size = gz; generalize hg1 : w7.heap.size = gy; refine key Ax mx cx xx gy gz wz ?_; subst hg1; subst hg0; subst hwz; refine ⟨?_, ?_, ?_, ?_, ?_, ?_, ?_, ?_, ?_, ?_, ?_, ?_, ?_, ?_, ?_, ?_, ?_⟩ <;> ((repeat' (first | (refine ⟨lox, wq.heap.size, by omega, by go_size, ?_⟩) | (with_reducible assumption) | (with_reducible exact Below.refl _ _) | (with_reducible refine Blk.drewN ?_ _) | (with_reducible refine RowIn.drewN ?_ _) | (with_reducible refine below_drewN ?_ _) | (with_reducible refine Blk.drew ?_) | (with_reducible refine RowIn.drew ?_) | (with_reducible refine Below.drew ?_) | (with_reducible refine Blk.new' ?_ ?_ <;> first | (with_reducible rfl) | (simp; done)) | (with_reducible refine Blk.alloc ?_ _) | (with_reducible refine RowIn.alloc ?_ _) | (with_reducible refine Below.alloc ?_ ?_ _) | (with_reducible apply Blk.set') | (with_reducible apply Blk.far4) | (with_reducible apply RowIn.far4) | (with_reducible apply Below.far4) | (with_reducible apply Blk.far2) | (with_reducible apply RowIn.far2) | (with_reducible apply Below.far2) | (with_reducible apply Blk.far') | (with_reducible refine RowIn.far' ?_ ?_ _) | (with_reducible refine Below.far' ?_ ?_ _) | (with_reducible refine Blk.after ?_ bq) | (with_reducible refine RowIn.belowS ?_ bq) | (with_reducible refine Below.after ?_ bq ?_) | rfl | omega | go_size)); done))
                | (generalize hg0 : wq.heap.size = gy; generalize hg1 : w7.heap.size = gz; refine key Ax mx cx xx gy gz wz ?_; subst hg1; subst hg0; subst hwz; refine ⟨?_, ?_, ?_, ?_, ?_, ?_, ?_, ?_, ?_, ?_, ?_, ?_, ?_, ?_, ?_, ?_, ?_⟩ <;> ((repeat' (first | (refine ⟨lox, wq.heap.size, by omega, by go_size, ?_⟩) | (with_reducible assumption) | (with_reducible exact Below.refl _ _) | (with_reducible refine Blk.drewN ?_ _) | (with_reducible refine RowIn.drewN ?_ _) | (with_reducible refine below_drewN ?_ _) | (with_reducible refine Blk.drew ?_) | (with_reducible refine RowIn.drew ?_) | (with_reducible refine Below.drew ?_) | (with_reducible refine Blk.new' ?_ ?_ <;> first | (with_reducible rfl) | (simp; done)) | (with_reducible refine Blk.alloc ?_ _) | (with_reducible refine RowIn.alloc ?_ _) | (with_reducible refine Below.alloc ?_ ?_ _) | (with_reducible apply Blk.set') | (with_reducible apply Blk.far4) | (with_reducible apply RowIn.far4) | (with_reducible apply Below.far4) | (with_reducible apply Blk.far2) | (with_reducible apply RowIn.far2) | (with_reducible apply Below.far2) | (with_reducible apply Blk.far') | (with_reducible refine RowIn.far' ?_ ?_ _) | (with_reducible refine Below.far' ?_ ?_ _) | (with_reducible refine Blk.after ?_ bq) | (with_reducible refine RowIn.belowS ?_ bq) | (with_reducible refine Below.after ?_ bq ?_) | rfl | omega | go_size)); done))
                | (generalize hg0 : w7.heap.size + 1 = gz; generalize hg1 : w7.heap.size = gy; refine key Ax mx cx xx gy gz wz ?_; subst hg1; subst hg0; subst hwz; refine ⟨?_, ?_, ?_, ?_, ?_, ?_, ?_, ?_, ?_, ?_, ?_, ?_, ?_, ?_, ?_, ?_, ?_⟩ <;> ((repeat' (first | (refine ⟨lox, wq.heap.size, by omega, by go_size, ?_⟩) | (with_reducible assumption) | (with_reducible exact Below.refl _ _) | (with_reducible refine Blk.drewN ?_ _) | (with_reducible refine RowIn.drewN ?_ _) | (with_reducible refine below_drewN ?_ _) | (with_reducible refine Blk.drew ?_) | (with_reducible refine RowIn.drew ?_) | (with_reducible refine Below.drew ?_) | (with_reducible refine Blk.new' ?_ ?_ <;> first | (with_reducible rfl) | (simp; done)) | (with_reducible refine Blk.alloc ?_ _) | (with_reducible refine RowIn.alloc ?_ _) | (with_reducible refine Below.alloc ?_ ?_ _) | (with_reducible apply Blk.set') | (with_reducible apply Blk.far4) | (with_reducible apply RowIn.far4) | (with_reducible apply Below.far4) | (with_reducible apply Blk.far2) | (with_reducible apply RowIn.far2) | (with_reducible apply Below.far2) | (with_reducible apply Blk.far') | (with_reducible refine RowIn.far' ?_ ?_ _) | (with_reducible refine Below.far' ?_ ?_ _) | (with_reducible refine Blk.after ?_ bq) | (with_reducible refine RowIn.belowS ?_ bq) | (with_reducible refine Below.after ?_ bq ?_) | rfl | omega | go_size)); done))
                | (generalize hg0 : w7.heap.size + 1 = gy; generalize hg1 : w7.heap.size = gz; refine key Ax mx cx xx gy gz wz ?_; subst hg1; subst hg0; subst hwz; refine ⟨?_, ?_, ?_, ?_, ?_, ?_, ?_, ?_, ?_, ?_, ?_, ?_, ?_, ?_, ?_, ?_, ?_⟩ <;> ((repeat' (first | (refine ⟨lox, wq.heap.size, by omega, by go_size, ?_⟩) | (with_reducible assumption) | (with_reducible exact Below.refl _ _) | (with_reducible refine Blk.drewN ?_ _) | (with_reducible refine RowIn.drewN ?_ _) | (with_reducible refine below_drewN ?_ _) | (with_reducible refine Blk.drew ?_) | (with_reducible refine RowIn.drew ?_) | (with_reducible refine Below.drew ?_) | (with_reducible refine Blk.new' ?_ ?_ <;> first | (with_reducible rfl) | (simp; done)) | (with_reducible refine Blk.alloc ?_ _) | (with_reducible refine RowIn.alloc ?_ _) | (with_reducible refine Below.alloc ?_ ?_ _) | (with_reducible apply Blk.set') | (with_reducible apply Blk.far4) | (with_reducible apply RowIn.far4) | (with_reducible apply Below.far4) | (with_reducible apply Blk.far2) | (with_reducible apply RowIn.far2) | (with_reducible apply Below.far2) | (with_reducible apply Blk.far') | (with_reducible refine RowIn.far' ?_ ?_ _) | (with_reducible refine Below.far' ?_ ?_ _) | (with_reducible refine Blk.after ?_ bq) | (with_reducible refine RowIn.belowS ?_ bq) | (with_reducible refine Below.after ?_ bq ?_) | rfl | omega | go_size)); done))
            case k =>
              intro Ax mx cx xx gy gz w8 hF
              obtain ⟨zy0, zz0, hcx, HXx, hgy, hgz, hgyz, hrx, zf_8, zd_8, zb_8, zn_8, zx_8, rt_8, ry_8, bb_8, s8⟩ := hF
              clear zf_7 zd_7 zb_7 zn_7 rt_7 ry_7 bb_7 s7 kf_7 ff_7 lf_7 kd_7 fd_7 ld_7 kb_7 fb_7 lb_7 kn_7 fn_7 ln_7 cL_7 zx_7 kx_7 fx_7 lx_7
              have kf_8 := zf_8.cell; have ff_8 := zf_8.frozen; have lf_8 := zf_8.lt
              have kd_8 := zd_8.cell; have fd_8 := zd_8.frozen; have ld_8 := zd_8.lt
              have kb_8 := zb_8.cell; have fb_8 := zb_8.frozen; have lb_8 := zb_8.lt
              have kn_8 := zn_8.cell; have fn_8 := zn_8.frozen; have ln_8 := zn_8.lt
              have kx_8 := zx_8.cell; have fx_8 := zx_8.frozen; have lx_8 := zx_8.lt
              have cL_8 : w8.cell? ⟨bl, ol + j, none⟩ = some (.int .u32 (v : Int)) := (bb_8.cell (p := ⟨bl, ol + j, none⟩) hbL).trans CL.out
              have S8 : wr.heap.size ≤ w8.heap.size := by omega
              obtain ⟨lox, hix, hlox, hhix, rx0⟩ := hrx
              have hq1 : gb < lox := by omega
              have hq2 : gn < lox := by omega
              have hq3 : gy ≠ gb := by omega
              have hq4 : gy ≠ gn := by omega
              have hq5 : gz ≠ gb := by omega
              have hq6 : gz ≠ gn := by omega
              have zy_8 := zy0; have ky_8 := zy_8.cell; have fy_8 := zy_8.frozen; have ly_8 := zy_8.lt; have zz_8 := zz0; have kz_8 := zz_8.cell; have fz_8 := zz_8.frozen; have lz_8 := zz_8.lt; have rx_8 := rx0
              clear zy0 zz0 rx0
              have Lx : xx.length ≤ y.length + L ∧ y.length + L ≤ xx.length := by rw [HXx.out, List.length_append, HCL.out]; omega
              obtain ⟨Lx1, Lx2⟩ := Lx
              have t5 : (((xx.length : Nat) : Int) != ((y.length : Nat) : Int) + (L : Int)) = false := by rw [bne_eq_false_iff_eq]; omega
              have hw5 : IntKind.i64.wrap (((y.length : Nat) : Int) + (L : Int)) = ((y.length : Nat) : Int) + (L : Int) := IntWalk.i64_in _ (by omega)
              have t6 : decide ((L : Int) < 1) = false := decide_eq_false (by omega)
              have t7 : decide ((81 : Int) < (L : Int)) = false := decide_eq_false (by omega)
              have HDK2 : Hid (DOk (u0 : Int) (u1 : Int) (v0 : Int) (v1 : Int)) := Lib.hid (by have h := HUO.out; unfold Dual.Ok at h; unfold DOk; simp only at h; omega)
              go_wp2_with fail
              refine (rdcheck_any (u0 : Int) (u1 : Int) (v0 : Int) (v1 : Int) 0 _ (by omega) (by omega) (by rw [if_pos HDK2.out])).mono ?_
              rintro e w9 ⟨rfl, b9⟩
              have s9 := b9.size
              try simp only [World.size_alloc, World.size_setCell, World.size_drew, size_drewN] at s9
              obtain ⟨zf_9, zd_9, zb_9, zn_9, zx_9, zy_9, zz_9, rt_9, ry_9, rx_9, bb_9⟩ : Blk w9 (w.heap.size) 24 [.slice Af nf cf, .int .i64 ((xf.length : Nat) : Int)] ∧ Blk w9 (w.heap.size + 1) 27 [.int .i64 (d0 : Int), .int .i64 (d1 : Int), .int .u64 (e0 : Int), .int .u64 (e1 : Int)] ∧ Blk w9 (gb) 24 [.slice B m c, .int .i64 ((y.length : Nat) : Int)] ∧ Blk w9 (gn) 27 [.int .i64 (p0 : Int), .int .i64 (p1 : Int), .int .u64 (q0 : Int), .int .u64 (q1 : Int)] ∧ Blk w9 (gx) 27 [.int .i64 (u0 : Int), .int .i64 (u1 : Int), .int .u64 (v0 : Int), .int .u64 (v1 : Int)] ∧ Blk w9 (gy) 24 [.slice Ax mx cx, .int .i64 ((xx.length : Nat) : Int)] ∧ Blk w9 (gz) 27 [.int .i64 (u0 : Int), .int .i64 (u1 : Int), .int .u64 (v0 : Int), .int .u64 (v1 : Int)] ∧ RowIn .u8 w9 (0) (w.heap.size) (some ⟨0, 0, none⟩) 64 dbTab ∧ RowIn .u8 w9 (lo) (hi) B m (pack y) ∧ RowIn .u8 w9 (lox) (hix) Ax mx (pack xx) ∧ Below w.heap.size w w9 := by
                refine ⟨?_, ?_, ?_, ?_, ?_, ?_, ?_, ?_, ?_, ?_, ?_⟩
                all_goals repeat' (first | (with_reducible assumption) | (with_reducible exact Below.refl _ _) | (with_reducible refine Blk.drewN ?_ _) | (with_reducible refine RowIn.drewN ?_ _) | (with_reducible refine below_drewN ?_ _) | (with_reducible refine Blk.drew ?_) | (with_reducible refine RowIn.drew ?_) | (with_reducible refine Below.drew ?_) | (with_reducible refine Blk.new' ?_ ?_ <;> first | (with_reducible rfl) | (simp; done)) | (with_reducible refine Blk.alloc ?_ _) | (with_reducible refine RowIn.alloc ?_ _) | (with_reducible refine Below.alloc ?_ ?_ _) | (with_reducible apply Blk.set') | (with_reducible apply Blk.far') | (with_reducible refine RowIn.far' ?_ ?_ _) | (with_reducible refine Below.far' ?_ ?_ _) | (with_reducible refine Blk.after ?_ b9) | (with_reducible refine RowIn.belowS ?_ b9) | (with_reducible refine Below.after ?_ b9 ?_) | rfl | omega | go_size)
              clear zf_8 zd_8 zb_8 zn_8 zx_8 rt_8 ry_8 bb_8 s8 kf_8 ff_8 lf_8 kd_8 fd_8 ld_8 kb_8 fb_8 lb_8 kn_8 fn_8 ln_8 kx_8 fx_8 lx_8 cL_8 zy_8 zz_8 ky_8 kz_8 fy_8 fz_8 ly_8 lz_8 rx_8 b9
              have kf_9 := zf_9.cell; have ff_9 := zf_9.frozen; have lf_9 := zf_9.lt
              have kd_9 := zd_9.cell; have fd_9 := zd_9.frozen; have ld_9 := zd_9.lt
              have kb_9 := zb_9.cell; have fb_9 := zb_9.frozen; have lb_9 := zb_9.lt
              have kn_9 := zn_9.cell; have fn_9 := zn_9.frozen; have ln_9 := zn_9.lt
              have kx_9 := zx_9.cell; have fx_9 := zx_9.frozen; have lx_9 := zx_9.lt
              have ky_9 := zy_9.cell; have fy_9 := zy_9.frozen; have ly_9 := zy_9.lt
              have kz_9 := zz_9.cell; have fz_9 := zz_9.frozen; have lz_9 := zz_9.lt
              have cL_9 : w9.cell? ⟨bl, ol + j, none⟩ = some (.int .u32 (v : Int)) := (bb_9.cell (p := ⟨bl, ol + j, none⟩) hbL).trans CL.out
              go_wp2_with fail
              have HRD : Hid (drR xx (y.length : Nat) ⟨p0, p1, q0, q1⟩ = ((v : Int), ((xx.length : Nat) : Int), ⟨u0, u1, v0, v1⟩, 0)) := Lib.hid (by
                unfold drR
                rw [if_neg (by omega), Int.toNat_natCast, HXx.out, List.drop_left]
                have h := readD_code (d := ⟨p0, p1, q0, q1⟩) hv32 []
                rw [List.append_nil, HL.out] at h
                rw [h]
                show (_, _, learn _ _, _) = _
                rw [HU.out, List.length_append, HCL.out]; simp)
              go_wp2_with fail
              refine (dread_c Ax mx cx xx (y.length : Nat) _ (by exact RowIn.row (lo := lox) (hi := hix) (by repeat' (first | (with_reducible assumption) | (with_reducible exact Below.refl _ _) | (with_reducible refine Blk.drewN ?_ _) | (with_reducible refine RowIn.drewN ?_ _) | (with_reducible refine below_drewN ?_ _) | (with_reducible refine Blk.drew ?_) | (with_reducible refine RowIn.drew ?_) | (with_reducible refine Below.drew ?_) | (with_reducible refine Blk.new' ?_ ?_ <;> first | (with_reducible rfl) | (simp; done)) | (with_reducible refine Blk.alloc ?_ _) | (with_reducible refine RowIn.alloc ?_ _) | (with_reducible refine Below.alloc ?_ ?_ _) | (with_reducible apply Blk.set') | (with_reducible apply Blk.far') | (with_reducible refine RowIn.far' ?_ ?_ _) | (with_reducible refine Below.far' ?_ ?_ _) | rfl | omega | go_size))) hcx (by omega) (by omega) HPO.out (by exact RowIn.row (lo := 0) (hi := w.heap.size) (by repeat' (first | (with_reducible assumption) | (with_reducible exact Below.refl _ _) | (with_reducible refine Blk.drewN ?_ _) | (with_reducible refine RowIn.drewN ?_ _) | (with_reducible refine below_drewN ?_ _) | (with_reducible refine Blk.drew ?_) | (with_reducible refine RowIn.drew ?_) | (with_reducible refine Below.drew ?_) | (with_reducible refine Blk.new' ?_ ?_ <;> first | (with_reducible rfl) | (simp; done)) | (with_reducible refine Blk.alloc ?_ _) | (with_reducible refine RowIn.alloc ?_ _) | (with_reducible refine Below.alloc ?_ ?_ _) | (with_reducible apply Blk.set') | (with_reducible apply Blk.far') | (with_reducible refine RowIn.far' ?_ ?_ _) | (with_reducible refine Below.far' ?_ ?_ _) | rfl | omega | go_size))) HRD.out).mono ?_
              rintro e w10 ⟨rfl, b10⟩
              have s10 := b10.size
              try simp only [World.size_alloc, World.size_setCell, World.size_drew, size_drewN] at s10
              obtain ⟨zf_10, zd_10, zb_10, zn_10, zx_10, zy_10, zz_10, rt_10, ry_10, rx_10, bb_10⟩ : Blk w10 (w.heap.size) 24 [.slice Af nf cf, .int .i64 ((xf.length : Nat) : Int)] ∧ Blk w10 (w.heap.size + 1) 27 [.int .i64 (d0 : Int), .int .i64 (d1 : Int), .int .u64 (e0 : Int), .int .u64 (e1 : Int)] ∧ Blk w10 (gb) 24 [.slice B m c, .int .i64 ((y.length : Nat) : Int)] ∧ Blk w10 (gn) 27 [.int .i64 (p0 : Int), .int .i64 (p1 : Int), .int .u64 (q0 : Int), .int .u64 (q1 : Int)] ∧ Blk w10 (gx) 27 [.int .i64 (u0 : Int), .int .i64 (u1 : Int), .int .u64 (v0 : Int), .int .u64 (v1 : Int)] ∧ Blk w10 (gy) 24 [.slice Ax mx cx, .int .i64 ((xx.length : Nat) : Int)] ∧ Blk w10 (gz) 27 [.int .i64 (u0 : Int), .int .i64 (u1 : Int), .int .u64 (v0 : Int), .int .u64 (v1 : Int)] ∧ RowIn .u8 w10 (0) (w.heap.size) (some ⟨0, 0, none⟩) 64 dbTab ∧ RowIn .u8 w10 (lo) (hi) B m (pack y) ∧ RowIn .u8 w10 (lox) (hix) Ax mx (pack xx) ∧ Below w.heap.size w w10 := by
                refine ⟨?_, ?_, ?_, ?_, ?_, ?_, ?_, ?_, ?_, ?_, ?_⟩
                all_goals repeat' (first | (with_reducible assumption) | (with_reducible exact Below.refl _ _) | (with_reducible refine Blk.drewN ?_ _) | (with_reducible refine RowIn.drewN ?_ _) | (with_reducible refine below_drewN ?_ _) | (with_reducible refine Blk.drew ?_) | (with_reducible refine RowIn.drew ?_) | (with_reducible refine Below.drew ?_) | (with_reducible refine Blk.new' ?_ ?_ <;> first | (with_reducible rfl) | (simp; done)) | (with_reducible refine Blk.alloc ?_ _) | (with_reducible refine RowIn.alloc ?_ _) | (with_reducible refine Below.alloc ?_ ?_ _) | (with_reducible apply Blk.set') | (with_reducible apply Blk.far') | (with_reducible refine RowIn.far' ?_ ?_ _) | (with_reducible refine Below.far' ?_ ?_ _) | (with_reducible refine Blk.after ?_ b10) | (with_reducible refine RowIn.belowS ?_ b10) | (with_reducible refine Below.after ?_ b10 ?_) | rfl | omega | go_size)
              clear zf_9 zd_9 zb_9 zn_9 zx_9 zy_9 zz_9 rt_9 ry_9 rx_9 bb_9 kf_9 ff_9 lf_9 kd_9 fd_9 ld_9 kb_9 fb_9 lb_9 kn_9 fn_9 ln_9 kx_9 fx_9 lx_9 ky_9 fy_9 ly_9 kz_9 fz_9 lz_9 cL_9 b10
              have kf_10 := zf_10.cell; have ff_10 := zf_10.frozen; have lf_10 := zf_10.lt
              have kd_10 := zd_10.cell; have fd_10 := zd_10.frozen; have ld_10 := zd_10.lt
              have kb_10 := zb_10.cell; have fb_10 := zb_10.frozen; have lb_10 := zb_10.lt
              have kn_10 := zn_10.cell; have fn_10 := zn_10.frozen; have ln_10 := zn_10.lt
              have kx_10 := zx_10.cell; have fx_10 := zx_10.frozen; have lx_10 := zx_10.lt
              have ky_10 := zy_10.cell; have fy_10 := zy_10.frozen; have ly_10 := zy_10.lt
              have kz_10 := zz_10.cell; have fz_10 := zz_10.frozen; have lz_10 := zz_10.lt
              have cL_10 : w10.cell? ⟨bl, ol + j, none⟩ = some (.int .u32 (v : Int)) := (bb_10.cell (p := ⟨bl, ol + j, none⟩) hbL).trans CL.out
              have hblk : bl < w10.heap.size := by have := bb_10.size; omega
              have t8 : ((v : Int) != (v : Int)) = false := by simp
              have t9 : (((xx.length : Nat) : Int) != ((xx.length : Nat) : Int)) = false := by simp
              have HY2 : Hid (xx = xf ++ codeP ⟨d0, d1, e0, e1⟩ xsl (j + 1)) := Lib.hid (by rw [HXx.out, HY.out, codeP_next, ← HP.out, HV.out, List.append_assoc])
              have HP2 : Hid ((⟨u0, u1, v0, v1⟩ : Dual) = stP ⟨d0, d1, e0, e1⟩ xsl (j + 1)) := Lib.hid (by rw [stP_next, ← HP.out, HV.out, HU.out])
              clear HXx HY HP HRD HDW HU
              go_wp2
              first | (go_region_held3 (fun w' => (∀ a, w'.cell? ⟨gy, a, none⟩ = [.slice Ax mx cx, .int .i64 ((xx.length : Nat) : Int)][a]?) ∧ (∀ a, w'.cell? ⟨gz, a, none⟩ = [.int .i64 (u0 : Int), .int .i64 (u1 : Int), .int .u64 (v0 : Int), .int .u64 (v1 : Int)][a]?)) ((refine ⟨Blk.cell (t := 24) ?_, Blk.cell (t := 27) ?_⟩; all_goals repeat' (first | (with_reducible assumption) | (with_reducible exact Below.refl _ _) | (with_reducible refine Blk.drewN ?_ _) | (with_reducible refine RowIn.drewN ?_ _) | (with_reducible refine below_drewN ?_ _) | (with_reducible refine Blk.drew ?_) | (with_reducible refine RowIn.drew ?_) | (with_reducible refine Below.drew ?_) | (with_reducible refine Blk.new' ?_ ?_ <;> first | (with_reducible rfl) | (simp; done)) | (with_reducible refine Blk.alloc ?_ _) | (with_reducible refine RowIn.alloc ?_ _) | (with_reducible refine Below.alloc ?_ ?_ _) | (with_reducible apply Blk.set') | (with_reducible apply Blk.far4) | (with_reducible apply RowIn.far4) | (with_reducible apply Below.far4) | (with_reducible apply Blk.far2) | (with_reducible apply RowIn.far2) | (with_reducible apply Below.far2) | (with_reducible apply Blk.far') | (with_reducible refine RowIn.far' ?_ ?_ _) | (with_reducible refine Below.far' ?_ ?_ _) | (with_reducible refine Blk.after ?_ bq) | (with_reducible refine RowIn.belowS ?_ bq) | (with_reducible refine Below.after ?_ bq ?_) | rfl | omega | go_size))) (fail)) | go_region
              all_goals try go_wp2
              go_roundg (nl - (j + 1))
              case measure => omega
              case rel =>
                refine ⟨j + 1, Ax, mx, cx, lox, hix, xx, u0, u1, v0, v1, by omega, by go_num, HY2, by omega, hcx, HP2, ?_, ?_, ?_, ?_, ?_, Or.inl (by omega), Or.inl (by omega), by go_size, ?_, by go_size⟩
                all_goals have na0 : gb ≠ gn := hgbn
                all_goals have na1 : gn ≠ gb := hgbn.symm
                all_goals have na2 : w.heap.size ≠ gb ∧ w.heap.size ≠ gn ∧ w.heap.size + 1 ≠ gb ∧ w.heap.size + 1 ≠ gn ∧ w.heap.size ≤ gb ∧ w.heap.size ≤ gn := by omega
                all_goals obtain ⟨na3, na4, na5, na6, na7, na8⟩ := na2
                · repeat' (first | (with_reducible assumption) | (with_reducible exact Below.refl _ _) | (with_reducible refine Blk.drewN ?_ _) | (with_reducible refine RowIn.drewN ?_ _) | (with_reducible refine below_drewN ?_ _) | (with_reducible refine Blk.drew ?_) | (with_reducible refine RowIn.drew ?_) | (with_reducible refine Below.drew ?_) | (with_reducible refine Blk.new' ?_ ?_ <;> first | (with_reducible rfl) | (simp; done)) | (with_reducible refine Blk.alloc ?_ _) | (with_reducible refine RowIn.alloc ?_ _) | (with_reducible refine Below.alloc ?_ ?_ _) | (with_reducible apply Blk.set') | (with_reducible apply Blk.far4) | (with_reducible apply RowIn.far4) | (with_reducible apply Below.far4) | (with_reducible apply Blk.far2) | (with_reducible apply RowIn.far2) | (with_reducible apply Below.far2) | (with_reducible apply Blk.far') | (with_reducible refine RowIn.far' ?_ ?_ _) | (with_reducible refine Below.far' ?_ ?_ _) | (with_reducible refine Blk.after ?_ bq) | (with_reducible refine RowIn.belowS ?_ bq) | (with_reducible refine Below.after ?_ bq ?_) | rfl | omega | go_size)
                · repeat' (first | (with_reducible assumption) | (with_reducible exact Below.refl _ _) | (with_reducible refine Blk.drewN ?_ _) | (with_reducible refine RowIn.drewN ?_ _) | (with_reducible refine below_drewN ?_ _) | (with_reducible refine Blk.drew ?_) | (with_reducible refine RowIn.drew ?_) | (with_reducible refine Below.drew ?_) | (with_reducible refine Blk.new' ?_ ?_ <;> first | (with_reducible rfl) | (simp; done)) | (with_reducible refine Blk.alloc ?_ _) | (with_reducible refine RowIn.alloc ?_ _) | (with_reducible refine Below.alloc ?_ ?_ _) | (with_reducible apply Blk.set') | (with_reducible apply Blk.far4) | (with_reducible apply RowIn.far4) | (with_reducible apply Below.far4) | (with_reducible apply Blk.far2) | (with_reducible apply RowIn.far2) | (with_reducible apply Below.far2) | (with_reducible apply Blk.far') | (with_reducible refine RowIn.far' ?_ ?_ _) | (with_reducible refine Below.far' ?_ ?_ _) | (with_reducible refine Blk.after ?_ bq) | (with_reducible refine RowIn.belowS ?_ bq) | (with_reducible refine Below.after ?_ bq ?_) | rfl | omega | go_size)
                · first | (with_reducible exact Blk.drew (Blk.alloc (Blk.far4 (Blk.set2 zb_10) na0) _)) | (trace_state; fail)
                · first | (with_reducible exact Blk.drew (Blk.alloc (Blk.set4 (Blk.far2 zn_10 na1)) _)) | (trace_state; fail)
                all_goals repeat' (first | (with_reducible assumption) | (with_reducible exact Below.refl _ _) | (with_reducible refine Blk.drewN ?_ _) | (with_reducible refine RowIn.drewN ?_ _) | (with_reducible refine below_drewN ?_ _) | (with_reducible refine Blk.drew ?_) | (with_reducible refine RowIn.drew ?_) | (with_reducible refine Below.drew ?_) | (with_reducible refine Blk.new' ?_ ?_ <;> first | (with_reducible rfl) | (simp; done)) | (with_reducible refine Blk.alloc ?_ _) | (with_reducible refine RowIn.alloc ?_ _) | (with_reducible refine Below.alloc ?_ ?_ _) | (with_reducible apply Blk.set') | (with_reducible apply Blk.far4) | (with_reducible apply RowIn.far4) | (with_reducible apply Below.far4) | (with_reducible apply Blk.far2) | (with_reducible apply RowIn.far2) | (with_reducible apply Below.far2) | (with_reducible apply Blk.far') | (with_reducible refine RowIn.far' ?_ ?_ _) | (with_reducible refine Below.far' ?_ ?_ _) | (with_reducible refine Blk.after ?_ bq) | (with_reducible refine RowIn.belowS ?_ bq) | (with_reducible refine Below.after ?_ bq ?_) | rfl | omega | go_size)
      · have hjn : j = nl := by omega
        have HYY : Hid (y = xf ++ codeP ⟨d0, d1, e0, e1⟩ xsl nl) := by rw [HY.out, hjn]; exact Lib.hid rfl
        have HPP : Hid ((⟨p0, p1, q0, q1⟩ : Dual) = stP ⟨d0, d1, e0, e1⟩ xsl nl) := by rw [← hjn]; exact HP
        clear hjn HY HP
        obtain ⟨w20, hw20⟩ : ∃ w20, w20 = wr := ⟨_, rfl⟩
        subst hw20
        go_wp2_with fail
        have l0f := lf_5
        have l0b := lb_5
        have l0n := ln_5
        apply merge2 (fun (ga : Nat) (wz : World) => Blk wz ga 27 [.int .i64 (d0 : Int), .int .i64 (d1 : Int), .int .u64 (e0 : Int), .int .u64 (e1 : Int)] ∧ w20.heap.size ≤ ga ∧ Blk wz (w.heap.size) 24 [.slice Af nf cf, .int .i64 ((xf.length : Nat) : Int)] ∧ Blk wz (w.heap.size + 1) 27 [.int .i64 (d0 : Int), .int .i64 (d1 : Int), .int .u64 (e0 : Int), .int .u64 (e1 : Int)] ∧ Blk wz (gb) 24 [.slice B m c, .int .i64 ((y.length : Nat) : Int)] ∧ Blk wz (gn) 27 [.int .i64 (p0 : Int), .int .i64 (p1 : Int), .int .u64 (q0 : Int), .int .u64 (q1 : Int)] ∧ RowIn .u8 wz (0) (w.heap.size) (some ⟨0, 0, none⟩) 64 dbTab ∧ RowIn .u8 wz (lo) (hi) B m (pack y) ∧ Below w.heap.size w wz ∧ w20.heap.size ≤ wz.heap.size)
        case main =>
          intro key
          go_region
          all_goals
            refine gen_world (fun wz hwz => ?_)
            first
            | (generalize hg0 : w20.heap.size = ga; refine key ga wz ?_; subst hg0; subst hwz; refine ⟨?_, ?_, ?_, ?_, ?_, ?_, ?_, ?_, ?_, ?_⟩ <;> ((repeat' (first | (with_reducible assumption) | (with_reducible exact Below.refl _ _) | (with_reducible refine Blk.drewN ?_ _) | (with_reducible refine RowIn.drewN ?_ _) | (with_reducible refine below_drewN ?_ _) | (with_reducible refine Blk.drew ?_) | (with_reducible refine RowIn.drew ?_) | (with_reducible refine Below.drew ?_) | (with_reducible refine Blk.new' ?_ ?_ <;> first | (with_reducible rfl) | (simp; done)) | (with_reducible refine Blk.alloc ?_ _) | (with_reducible refine RowIn.alloc ?_ _) | (with_reducible refine Below.alloc ?_ ?_ _) | (with_reducible apply Blk.set') | (with_reducible apply Blk.far') | (with_reducible refine RowIn.far' ?_ ?_ _) | (with_reducible refine Below.far' ?_ ?_ _) | rfl | omega | go_size)); done))
        case k =>
          intro ga w6 hF
          obtain ⟨za0, hga, zf_6, zd_6, zb_6, zn_6, rt_6, ry_6, bb_6, s6⟩ := hF
          clear zf_5 zd_5 zb_5 zn_5 rt_5 ry_5 bb_5 kf_5 ff_5 lf_5 kd_5 fd_5 ld_5 kb_5 fb_5 lb_5 kn_5 fn_5 ln_5
          have kf_6 := zf_6.cell; have ff_6 := zf_6.frozen; have lf_6 := zf_6.lt
          have kd_6 := zd_6.cell; have fd_6 := zd_6.frozen; have ld_6 := zd_6.lt
          have kb_6 := zb_6.cell; have fb_6 := zb_6.frozen; have lb_6 := zb_6.lt
          have kn_6 := zn_6.cell; have fn_6 := zn_6.frozen; have ln_6 := zn_6.lt
          go_wp2_with fail
          go_loopg [21, 23] nl (fun k v21 v23 wr => ∃ (i a a0 a1 c0 c1 : Nat), i + k = nl ∧ v23 = .int .i64 (i : Nat) ∧ v21 = .int .i64 (a : Nat) ∧ Hid (a = xf.length + (codeP ⟨d0, d1, e0, e1⟩ xsl i).length) ∧ a ≤ y.length ∧ Hid ((⟨a0, a1, c0, c1⟩ : Dual) = stP ⟨d0, d1, e0, e1⟩ xsl i) ∧ Blk wr ga 27 [.int .i64 (a0 : Int), .int .i64 (a1 : Int), .int .u64 (c0 : Int), .int .u64 (c1 : Int)] ∧ Below w20.heap.size w6 wr ∧ w6.heap.size ≤ wr.heap.size)
          case atStart => exact ⟨0, xf.length, d0, d1, e0, e1, by omega, rfl, rfl, Lib.hid (by simp [codeP_zero]), by rw [HYY.out, List.length_append]; omega, Lib.hid rfl, za0, Below.refl _ _, by go_size⟩
          case round =>
            obtain ⟨i, a, a0, a1, c0, c1, hi2, rfl, rfl, HA, hay, HP, za, b30, sw2⟩ := hrel
            have zf_30 : Blk wr (w.heap.size) 24 [.slice Af nf cf, .int .i64 ((xf.length : Nat) : Int)] := zf_6.below b30 (by omega)
            have zb_30 : Blk wr (gb) 24 [.slice B m c, .int .i64 ((y.length : Nat) : Int)] := zb_6.below b30 (by omega)
            have zn_30 : Blk wr (gn) 27 [.int .i64 (p0 : Int), .int .i64 (p1 : Int), .int .u64 (q0 : Int), .int .u64 (q1 : Int)] := zn_6.below b30 (by omega)
            have za_30 := za
            have rt_30 := rt_6.below b30 (by omega)
            have ry_30 := ry_6.below b30 (by omega)
            have bb_30 : Below w.heap.size w wr := bb_6.trans (b30.mono (by omega))
            clear za
            have kf_30 := zf_30.cell; have ff_30 := zf_30.frozen; have lf_30 := zf_30.lt
            have kb_30 := zb_30.cell; have fb_30 := zb_30.frozen; have lb_30 := zb_30.lt
            have kn_30 := zn_30.cell; have fn_30 := zn_30.frozen; have ln_30 := zn_30.lt
            have ka_30 := za_30.cell; have fa_30 := za_30.frozen; have la_30 := za_30.lt
            by_cases hlt2 : i < nl
            · obtain ⟨bl, ol, rfl, hbl, hcell⟩ := hal.at (by omega)
              obtain ⟨v, hv⟩ : ∃ v, nth xsl i = v := ⟨_, rfl⟩
              have hvb := hxl.nth (by decide) (by decide) i
              rw [hv] at hvb
              have c0 : w.cell? ⟨bl, ol + i, none⟩ = some (.int .u32 v) := by rw [hcell i hlt2, hv]
              obtain ⟨v, rfl⟩ := Int.eq_ofNat_of_zero_le hvb.1
              have hv32 : v < 4294967296 := by omega
              have CL := Lib.hid c0
              have HV : Hid ((nth xsl i).toNat = v) := Lib.hid (by rw [hv]; rfl)
              clear c0 hcell hv
              have hpo : Dual.Ok ⟨a0, a1, c0, c1⟩ := by rw [HP.out]; exact stP_ok HD.out hxl i
              have HPO := Lib.hid hpo
              clear hpo
              obtain ⟨u0, u1, v0, v1, hu⟩ := Dual.four (learn ⟨a0, a1, c0, c1⟩ v)
              have HU := Lib.hid hu
              clear hu
              obtain ⟨L, hL⟩ : ∃ L, lenD ⟨a0, a1, c0, c1⟩ v = L := ⟨_, rfl⟩
              have HL := Lib.hid hL
              clear hL
              have hbL := hbl
              have cL_30 : wr.cell? ⟨bl, ol + i, none⟩ = some (.int .u32 (v : Int)) := (bb_30.cell (p := ⟨bl, ol + i, none⟩) hbL).trans CL.out
              have hsp : ∃ r, y = (xf ++ codeP ⟨d0, d1, e0, e1⟩ xsl i) ++ (codeD ⟨a0, a1, c0, c1⟩ v ++ r) := by
                obtain ⟨r, hr⟩ := codeP_split ⟨d0, d1, e0, e1⟩ xsl i nl hlt2
                refine ⟨r, ?_⟩
                rw [← HP.out, HV.out] at hr
                rw [HYY.out, hr, List.append_assoc]
              have HSP := Lib.hid hsp
              clear hsp
              have hal2 : a = (xf ++ codeP ⟨d0, d1, e0, e1⟩ xsl i).length := by rw [HA.out, List.length_append]
              have HAL := Lib.hid hal2
              clear hal2
              have hlen : a + L ≤ y.length := by
                obtain ⟨r, hr⟩ := HSP.out
                rw [hr, HAL.out]; simp only [List.length_append, codeD_len]; rw [← HL.out]; omega
              obtain ⟨z, hz⟩ : ∃ z, z = a + L := ⟨_, rfl⟩
              have HRD : Hid (drR y (a : Nat) ⟨a0, a1, c0, c1⟩ = ((v : Int), (z : Int), ⟨u0, u1, v0, v1⟩, 0)) := by
                obtain ⟨r, hr⟩ := HSP.out
                have h := readD_code (d := ⟨a0, a1, c0, c1⟩) hv32 r
                refine Lib.hid ?_
                unfold drR
                rw [if_neg (by omega), Int.toNat_natCast, HAL.out, hr, List.drop_left, h]
                show (_, _, learn _ _, _) = _
                rw [HU.out, hz, HAL.out, HL.out]; simp
              have hz1 : z ≤ a + L ∧ a + L ≤ z := by omega
              obtain ⟨hz1, hz2⟩ := hz1
              have HZ := Lib.hid hz
              clear hz HSP
              go_wp2_with fail
              refine (dread_c B m c y (a : Nat) _ (by exact RowIn.row (lo := lo) (hi := hi) (by repeat' (first | (with_reducible assumption) | (with_reducible exact Below.refl _ _) | (with_reducible refine Blk.drewN ?_ _) | (with_reducible refine RowIn.drewN ?_ _) | (with_reducible refine below_drewN ?_ _) | (with_reducible refine Blk.drew ?_) | (with_reducible refine RowIn.drew ?_) | (with_reducible refine Below.drew ?_) | (with_reducible refine Blk.new' ?_ ?_ <;> first | (with_reducible rfl) | (simp; done)) | (with_reducible refine Blk.alloc ?_ _) | (with_reducible refine RowIn.alloc ?_ _) | (with_reducible refine Below.alloc ?_ ?_ _) | (with_reducible apply Blk.set') | (with_reducible apply Blk.far') | (with_reducible refine RowIn.far' ?_ ?_ _) | (with_reducible refine Below.far' ?_ ?_ _) | rfl | omega | go_size))) hcy (by omega) (by omega) HPO.out (by exact RowIn.row (lo := 0) (hi := w.heap.size) (by repeat' (first | (with_reducible assumption) | (with_reducible exact Below.refl _ _) | (with_reducible refine Blk.drewN ?_ _) | (with_reducible refine RowIn.drewN ?_ _) | (with_reducible refine below_drewN ?_ _) | (with_reducible refine Blk.drew ?_) | (with_reducible refine RowIn.drew ?_) | (with_reducible refine Below.drew ?_) | (with_reducible refine Blk.new' ?_ ?_ <;> first | (with_reducible rfl) | (simp; done)) | (with_reducible refine Blk.alloc ?_ _) | (with_reducible refine RowIn.alloc ?_ _) | (with_reducible refine Below.alloc ?_ ?_ _) | (with_reducible apply Blk.set') | (with_reducible apply Blk.far') | (with_reducible refine RowIn.far' ?_ ?_ _) | (with_reducible refine Below.far' ?_ ?_ _) | rfl | omega | go_size))) HRD.out).mono ?_
              rintro e w31 ⟨rfl, b31⟩
              have B31 := Below.after b30 b31 (by omega)
              have s31 := b31.size
              try simp only [World.size_alloc, World.size_setCell, World.size_drew, size_drewN] at s31
              obtain ⟨zf_31, zb_31, zn_31, za_31, rt_31, ry_31, bb_31⟩ : Blk w31 (w.heap.size) 24 [.slice Af nf cf, .int .i64 ((xf.length : Nat) : Int)] ∧ Blk w31 (gb) 24 [.slice B m c, .int .i64 ((y.length : Nat) : Int)] ∧ Blk w31 (gn) 27 [.int .i64 (p0 : Int), .int .i64 (p1 : Int), .int .u64 (q0 : Int), .int .u64 (q1 : Int)] ∧ Blk w31 (ga) 27 [.int .i64 (a0 : Int), .int .i64 (a1 : Int), .int .u64 (c0 : Int), .int .u64 (c1 : Int)] ∧ RowIn .u8 w31 (0) (w.heap.size) (some ⟨0, 0, none⟩) 64 dbTab ∧ RowIn .u8 w31 (lo) (hi) B m (pack y) ∧ Below w.heap.size w w31 := by
                refine ⟨?_, ?_, ?_, ?_, ?_, ?_, ?_⟩
                all_goals repeat' (first | (with_reducible assumption) | (with_reducible exact Below.refl _ _) | (with_reducible refine Blk.drewN ?_ _) | (with_reducible refine RowIn.drewN ?_ _) | (with_reducible refine below_drewN ?_ _) | (with_reducible refine Blk.drew ?_) | (with_reducible refine RowIn.drew ?_) | (with_reducible refine Below.drew ?_) | (with_reducible refine Blk.new' ?_ ?_ <;> first | (with_reducible rfl) | (simp; done)) | (with_reducible refine Blk.alloc ?_ _) | (with_reducible refine RowIn.alloc ?_ _) | (with_reducible refine Below.alloc ?_ ?_ _) | (with_reducible apply Blk.set') | (with_reducible apply Blk.far') | (with_reducible refine RowIn.far' ?_ ?_ _) | (with_reducible refine Below.far' ?_ ?_ _) | (with_reducible refine Blk.after ?_ b31) | (with_reducible refine RowIn.belowS ?_ b31) | (with_reducible refine Below.after ?_ b31 ?_) | rfl | omega | go_size)
              clear cL_30 b31
              have kf_31 := zf_31.cell; have ff_31 := zf_31.frozen; have lf_31 := zf_31.lt
              have kb_31 := zb_31.cell; have fb_31 := zb_31.frozen; have lb_31 := zb_31.lt
              have kn_31 := zn_31.cell; have fn_31 := zn_31.frozen; have ln_31 := zn_31.lt
              have ka_31 := za_31.cell; have fa_31 := za_31.frozen; have la_31 := za_31.lt
              have cL_31 : w31.cell? ⟨bl, ol + i, none⟩ = some (.int .u32 (v : Int)) := (bb_31.cell (p := ⟨bl, ol + i, none⟩) hbL).trans CL.out
              have t8 : ((v : Int) != (v : Int)) = false := by simp
              have hbl31 : bl < w31.heap.size := by have := bb_31.size; omega
              have HA2 : Hid (z = xf.length + (codeP ⟨d0, d1, e0, e1⟩ xsl (i + 1)).length) := Lib.hid (by rw [HZ.out, HA.out, codeP_len_next, ← HP.out, HV.out, HL.out]; omega)
              have HP2 : Hid ((⟨u0, u1, v0, v1⟩ : Dual) = stP ⟨d0, d1, e0, e1⟩ xsl (i + 1)) := Lib.hid (by rw [stP_next, ← HP.out, HV.out, HU.out])
              clear HA HZ HP HRD HU HAL
              go_wp2
              go_region
              try go_wp2
              go_roundg (nl - (i + 1))
              case measure => omega
              case rel =>
                refine ⟨i + 1, z, u0, u1, v0, v1, by omega, by go_num, by rfl, HA2, by omega, HP2, ?_, ?_, by go_size⟩
                · first | (with_reducible exact Blk.drew (Blk.alloc (Blk.set4 za_31) _)) | (with_reducible exact Blk.alloc (Blk.drew (Blk.set4 za_31)) _)
                · have na0 : w20.heap.size ≤ ga := by omega
                  repeat' (first | (with_reducible assumption) | (with_reducible exact Below.refl _ _) | (with_reducible refine Blk.drewN ?_ _) | (with_reducible refine RowIn.drewN ?_ _) | (with_reducible refine below_drewN ?_ _) | (with_reducible refine Blk.drew ?_) | (with_reducible refine RowIn.drew ?_) | (with_reducible refine Below.drew ?_) | (with_reducible refine Blk.new' ?_ ?_ <;> first | (with_reducible rfl) | (simp; done)) | (with_reducible refine Blk.alloc ?_ _) | (with_reducible refine RowIn.alloc ?_ _) | (with_reducible refine Below.alloc ?_ ?_ _) | (with_reducible apply Blk.set') | (with_reducible apply Blk.far4) | (with_reducible apply RowIn.far4) | (with_reducible apply Below.far4) | (with_reducible apply Blk.far2) | (with_reducible apply RowIn.far2) | (with_reducible apply Below.far2) | (with_reducible apply Blk.far') | (with_reducible refine RowIn.far' ?_ ?_ _) | (with_reducible refine Below.far' ?_ ?_ _) | (with_reducible refine Blk.after ?_ bq) | (with_reducible refine RowIn.belowS ?_ bq) | (with_reducible refine Below.after ?_ bq ?_) | rfl | omega | go_size)
            · have hin : i = nl := by omega
              have hal2 : a = y.length := by rw [HA.out, HYY.out, hin, List.length_append]
              have t6 : ((a : Int) == ((y.length : Nat) : Int)) = true := beq_iff_eq.2 (by omega)
              have HPE : Hid ((⟨a0, a1, c0, c1⟩ : Dual) = ⟨p0, p1, q0, q1⟩) := Lib.hid (by rw [HP.out, hin]; exact HPP.out.symm)
              clear hin hal2
              have he := HPE.out
              injection he with he0 he1 he2 he3
              subst he0 he1 he2 he3
              go_wp2_with fail
              refine (alive08 _).mono ?_
              rintro e w31 ⟨rfl, b31⟩
              have s31 := b31.size
              try simp only [World.size_alloc, World.size_setCell, World.size_drew, size_drewN] at s31
              have bb_31 : Below w.heap.size w w31 := by
                repeat' (first | (with_reducible assumption) | (with_reducible exact Below.refl _ _) | (with_reducible refine Blk.drewN ?_ _) | (with_reducible refine RowIn.drewN ?_ _) | (with_reducible refine below_drewN ?_ _) | (with_reducible refine Blk.drew ?_) | (with_reducible refine RowIn.drew ?_) | (with_reducible refine Below.drew ?_) | (with_reducible refine Blk.new' ?_ ?_ <;> first | (with_reducible rfl) | (simp; done)) | (with_reducible refine Blk.alloc ?_ _) | (with_reducible refine RowIn.alloc ?_ _) | (with_reducible refine Below.alloc ?_ ?_ _) | (with_reducible apply Blk.set') | (with_reducible apply Blk.far') | (with_reducible refine RowIn.far' ?_ ?_ _) | (with_reducible refine Below.far' ?_ ?_ _) | (with_reducible refine Blk.after ?_ b31) | (with_reducible refine RowIn.belowS ?_ b31) | (with_reducible refine Below.after ?_ b31 ?_) | rfl | omega | go_size)
              clear b31
              go_wp2
              go_ret
              refine ⟨rfl, ?_⟩
              repeat' (first | (with_reducible assumption) | (with_reducible exact Below.refl _ _) | (with_reducible refine Blk.drewN ?_ _) | (with_reducible refine RowIn.drewN ?_ _) | (with_reducible refine below_drewN ?_ _) | (with_reducible refine Blk.drew ?_) | (with_reducible refine RowIn.drew ?_) | (with_reducible refine Below.drew ?_) | (with_reducible refine Blk.new' ?_ ?_ <;> first | (with_reducible rfl) | (simp; done)) | (with_reducible refine Blk.alloc ?_ _) | (with_reducible refine RowIn.alloc ?_ _) | (with_reducible refine Below.alloc ?_ ?_ _) | (with_reducible apply Blk.set') | (with_reducible apply Blk.far') | (with_reducible refine RowIn.far' ?_ ?_ _) | (with_reducible refine Below.far' ?_ ?_ _) | rfl | omega | go_size)


end Go.Proofs.YtlblkjefngofaaaDoor
