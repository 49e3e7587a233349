/-
  Contract of the reference of chapter 8: Write.
-/
import Derived.Test.YtlblkjefngofaaaRefAA
import Derived.Test.YtlblkjefngofaaaRefD
import Derived.Test.YtlblkjefngofaaaDualC
namespace Go.Proofs.Ytlblkjefngofaaa
open Go.RowKit Cad Cad.Bit Cad.Code
set_option linter.unusedVariables false
set_option linter.unusedSimpArgs false


set_option maxHeartbeats 400000 in
theorem rdwrite_bad (A : Option Addr) (m c : Nat) (N : Int) (bytes : List Int) (p0 p1 q0 q1 v : Int) (w : World) (ha : Row .u8 w A m bytes) (hb : Within 0 255 bytes) (hc : m ≤ c ∧ c ≤ 9223372036854775807) (hv : ¬ Valid bytes N) :
    Calls Try.prog 18 #[.agg #[.slice A m c, .int .i64 N], .agg #[.int .i64 p0, .int .i64 p1, .int .u64 q0, .int .u64 q1], .int .u32 v] w (RetW w [] dualZero 8) := by
  have hri := ha.rowIn
  go_enter Try.func18, Try.ntmps18
  go_wp2_with fail
  refine (rcheck_bad A m c N bytes _ (by exact RowIn.row (lo := 0) (hi := w.heap.size) (by repeat' (first | (with_reducible assumption) | (with_reducible exact Below.refl _ _) | (with_reducible refine Blk.drewN ?_ _) | (with_reducible refine RowIn.drewN ?_ _) | (with_reducible refine below_drewN ?_ _) | (with_reducible refine Blk.drew ?_) | (with_reducible refine RowIn.drew ?_) | (with_reducible refine Below.drew ?_) | (with_reducible refine Blk.new' ?_ ?_ <;> first | (with_reducible rfl) | (simp; done)) | (with_reducible refine Blk.alloc ?_ _) | (with_reducible refine RowIn.alloc ?_ _) | (with_reducible refine Below.alloc ?_ ?_ _) | (with_reducible apply Blk.set') | (with_reducible apply Blk.far') | (with_reducible refine RowIn.far' ?_ ?_ _) | (with_reducible refine Below.far' ?_ ?_ _) | rfl | omega | go_size))) hb (by omega) hv).mono ?_
  rintro e w1 ⟨rfl, b1⟩
  have s1 := b1.size
  try simp only [World.size_alloc, World.size_setCell, World.size_drew, size_drewN] at s1
  obtain ⟨zb_1, zd_1, zr_1, zx_1, rb_1, bb_1⟩ : Blk w1 (w.heap.size) 29 [.slice A m c, .int .i64 N] ∧ Blk w1 (w.heap.size + 1) 37 [.int .i64 p0, .int .i64 p1, .int .u64 q0, .int .u64 q1] ∧ Blk w1 (w.heap.size + 1 + 1) 29 [.slice none 0 0, .int .i64 0] ∧ Blk w1 (w.heap.size + 1 + 1 + 1) 37 [.int .i64 0, .int .i64 0, .int .u64 0, .int .u64 0] ∧ RowIn .u8 w1 (0) (w.heap.size) A m bytes ∧ Below w.heap.size w w1 := by
    refine ⟨?_, ?_, ?_, ?_, ?_, ?_⟩
    all_goals repeat' (first | (with_reducible assumption) | (with_reducible exact Below.refl _ _) | (with_reducible refine Blk.after ?_ b1) | (with_reducible refine RowIn.belowS ?_ b1) | (with_reducible refine Below.after ?_ b1 ?_) | (with_reducible refine Blk.drewN ?_ _) | (with_reducible refine RowIn.drewN ?_ _) | (with_reducible refine below_drewN ?_ _) | (with_reducible refine Blk.drew ?_) | (with_reducible refine RowIn.drew ?_) | (with_reducible refine Below.drew ?_) | (with_reducible refine Blk.new' ?_ ?_ <;> first | (with_reducible rfl) | (simp; done)) | (with_reducible refine Blk.alloc ?_ _) | (with_reducible refine RowIn.alloc ?_ _) | (with_reducible refine Below.alloc ?_ ?_ _) | (with_reducible apply Blk.set') | (with_reducible apply Blk.far') | (with_reducible refine RowIn.far' ?_ ?_ _) | (with_reducible refine Below.far' ?_ ?_ _) | rfl | omega | go_size)
  clear b1
  have kb_1 := zb_1.cell; have fb_1 := zb_1.frozen; have lb_1 := zb_1.lt
  have kd_1 := zd_1.cell; have fd_1 := zd_1.frozen; have ld_1 := zd_1.lt
  have kr_1 := zr_1.cell; have fr_1 := zr_1.frozen; have lr_1 := zr_1.lt
  have kx_1 := zx_1.cell; have fx_1 := zx_1.frozen; have lx_1 := zx_1.lt
  go_wp2
  refine bodyPost_ret (v := .tuple #[.agg #[.slice none 0 0, .int .i64 0], .agg #[.int .i64 0, .int .i64 0, .int .u64 0, .int .u64 0], .int .i64 8]) (by simp [results, Try.results18, go_sem, kr_1, lr_1, kx_1, lx_1]) rfl ?_
  refine ⟨none, 0, 0, [], 0, 0, 0, 0, rfl, by omega, by exact RowIn.nil, Lib.hid rfl, Lib.hid rfl, ?_⟩
  repeat' (first | (with_reducible assumption) | (with_reducible exact Below.refl _ _) | (with_reducible refine Blk.drewN ?_ _) | (with_reducible refine RowIn.drewN ?_ _) | (with_reducible refine below_drewN ?_ _) | (with_reducible refine Blk.drew ?_) | (with_reducible refine RowIn.drew ?_) | (with_reducible refine Below.drew ?_) | (with_reducible refine Blk.new' ?_ ?_ <;> first | (with_reducible rfl) | (simp; done)) | (with_reducible refine Blk.alloc ?_ _) | (with_reducible refine RowIn.alloc ?_ _) | (with_reducible refine Below.alloc ?_ ?_ _) | (with_reducible apply Blk.set') | (with_reducible apply Blk.far') | (with_reducible refine RowIn.far' ?_ ?_ _) | (with_reducible refine Below.far' ?_ ?_ _) | rfl | omega | go_size)


set_option maxHeartbeats 400000 in
theorem rdwrite_none (A : Option Addr) (m c : Nat) (bs : List Bool) (p0 p1 q0 q1 v : Int) (w : World) (ha : Row .u8 w A m (pack bs)) (hc : m ≤ c ∧ c ≤ 9223372036854775807) (hl : bs.length ≤ 330000) (h2 : 0 ≤ q0) (h3 : 0 ≤ q1) (hd : ¬ DOk p0 p1 q0 q1) :
    Calls Try.prog 18 #[.agg #[.slice A m c, .int .i64 ((bs.length : Nat) : Int)], .agg #[.int .i64 p0, .int .i64 p1, .int .u64 q0, .int .u64 q1], .int .u32 v] w (RetW w [] dualZero 8) := by
  have hri := ha.rowIn
  go_enter Try.func18, Try.ntmps18
  go_wp2_with fail
  refine (rcheck_ok A m c bs _ (by exact RowIn.row (lo := 0) (hi := w.heap.size) (by repeat' (first | (with_reducible assumption) | (with_reducible exact Below.refl _ _) | (with_reducible refine Blk.drewN ?_ _) | (with_reducible refine RowIn.drewN ?_ _) | (with_reducible refine below_drewN ?_ _) | (with_reducible refine Blk.drew ?_) | (with_reducible refine RowIn.drew ?_) | (with_reducible refine Below.drew ?_) | (with_reducible refine Blk.new' ?_ ?_ <;> first | (with_reducible rfl) | (simp; done)) | (with_reducible refine Blk.alloc ?_ _) | (with_reducible refine RowIn.alloc ?_ _) | (with_reducible refine Below.alloc ?_ ?_ _) | (with_reducible apply Blk.set') | (with_reducible apply Blk.far') | (with_reducible refine RowIn.far' ?_ ?_ _) | (with_reducible refine Below.far' ?_ ?_ _) | rfl | omega | go_size))) (by omega) hl).mono ?_
  rintro e w1 ⟨rfl, b1⟩
  have s1 := b1.size
  try simp only [World.size_alloc, World.size_setCell, World.size_drew, size_drewN] at s1
  obtain ⟨zb_1, zd_1, zr_1, zx_1, rb_1, bb_1⟩ : Blk w1 (w.heap.size) 29 [.slice A m c, .int .i64 ((bs.length : Nat) : Int)] ∧ Blk w1 (w.heap.size + 1) 37 [.int .i64 p0, .int .i64 p1, .int .u64 q0, .int .u64 q1] ∧ Blk w1 (w.heap.size + 1 + 1) 29 [.slice none 0 0, .int .i64 0] ∧ Blk w1 (w.heap.size + 1 + 1 + 1) 37 [.int .i64 0, .int .i64 0, .int .u64 0, .int .u64 0] ∧ RowIn .u8 w1 (0) (w.heap.size) A m (pack bs) ∧ Below w.heap.size w w1 := by
    refine ⟨?_, ?_, ?_, ?_, ?_, ?_⟩
    all_goals repeat' (first | (with_reducible assumption) | (with_reducible exact Below.refl _ _) | (with_reducible refine Blk.after ?_ b1) | (with_reducible refine RowIn.belowS ?_ b1) | (with_reducible refine Below.after ?_ b1 ?_) | (with_reducible refine Blk.drewN ?_ _) | (with_reducible refine RowIn.drewN ?_ _) | (with_reducible refine below_drewN ?_ _) | (with_reducible refine Blk.drew ?_) | (with_reducible refine RowIn.drew ?_) | (with_reducible refine Below.drew ?_) | (with_reducible refine Blk.new' ?_ ?_ <;> first | (with_reducible rfl) | (simp; done)) | (with_reducible refine Blk.alloc ?_ _) | (with_reducible refine RowIn.alloc ?_ _) | (with_reducible refine Below.alloc ?_ ?_ _) | (with_reducible apply Blk.set') | (with_reducible apply Blk.far') | (with_reducible refine RowIn.far' ?_ ?_ _) | (with_reducible refine Below.far' ?_ ?_ _) | rfl | omega | go_size)
  clear b1
  have kb_1 := zb_1.cell; have fb_1 := zb_1.frozen; have lb_1 := zb_1.lt
  have kd_1 := zd_1.cell; have fd_1 := zd_1.frozen; have ld_1 := zd_1.lt
  have kr_1 := zr_1.cell; have fr_1 := zr_1.frozen; have lr_1 := zr_1.lt
  have kx_1 := zx_1.cell; have fx_1 := zx_1.frozen; have lx_1 := zx_1.lt
  go_wp2_with fail
  refine (rdcheck_any p0 p1 q0 q1 8 _ h2 h3 (by rw [if_neg hd])).mono ?_
  rintro e w2 ⟨rfl, b2⟩
  have s2 := b2.size
  try simp only [World.size_alloc, World.size_setCell, World.size_drew, size_drewN] at s2
  obtain ⟨zb_2, zd_2, zr_2, zx_2, rb_2, bb_2⟩ : Blk w2 (w.heap.size) 29 [.slice A m c, .int .i64 ((bs.length : Nat) : Int)] ∧ Blk w2 (w.heap.size + 1) 37 [.int .i64 p0, .int .i64 p1, .int .u64 q0, .int .u64 q1] ∧ Blk w2 (w.heap.size + 1 + 1) 29 [.slice none 0 0, .int .i64 0] ∧ Blk w2 (w.heap.size + 1 + 1 + 1) 37 [.int .i64 0, .int .i64 0, .int .u64 0, .int .u64 0] ∧ RowIn .u8 w2 (0) (w.heap.size) A m (pack bs) ∧ Below w.heap.size w w2 := by
    refine ⟨?_, ?_, ?_, ?_, ?_, ?_⟩
    all_goals repeat' (first | (with_reducible assumption) | (with_reducible exact Below.refl _ _) | (with_reducible refine Blk.after ?_ b2) | (with_reducible refine RowIn.belowS ?_ b2) | (with_reducible refine Below.after ?_ b2 ?_) | (with_reducible refine Blk.drewN ?_ _) | (with_reducible refine RowIn.drewN ?_ _) | (with_reducible refine below_drewN ?_ _) | (with_reducible refine Blk.drew ?_) | (with_reducible refine RowIn.drew ?_) | (with_reducible refine Below.drew ?_) | (with_reducible refine Blk.new' ?_ ?_ <;> first | (with_reducible rfl) | (simp; done)) | (with_reducible refine Blk.alloc ?_ _) | (with_reducible refine RowIn.alloc ?_ _) | (with_reducible refine Below.alloc ?_ ?_ _) | (with_reducible apply Blk.set') | (with_reducible apply Blk.far') | (with_reducible refine RowIn.far' ?_ ?_ _) | (with_reducible refine Below.far' ?_ ?_ _) | rfl | omega | go_size)
  clear zb_1 zd_1 zr_1 zx_1 rb_1 bb_1 kb_1 fb_1 lb_1 kd_1 fd_1 ld_1 kr_1 fr_1 lr_1 kx_1 fx_1 lx_1 b2
  have kb_2 := zb_2.cell; have fb_2 := zb_2.frozen; have lb_2 := zb_2.lt
  have kd_2 := zd_2.cell; have fd_2 := zd_2.frozen; have ld_2 := zd_2.lt
  have kr_2 := zr_2.cell; have fr_2 := zr_2.frozen; have lr_2 := zr_2.lt
  have kx_2 := zx_2.cell; have fx_2 := zx_2.frozen; have lx_2 := zx_2.lt
  go_wp2
  refine bodyPost_ret (v := .tuple #[.agg #[.slice none 0 0, .int .i64 0], .agg #[.int .i64 0, .int .i64 0, .int .u64 0, .int .u64 0], .int .i64 8]) (by simp [results, Try.results18, go_sem, kr_2, lr_2, kx_2, lx_2]) rfl ?_
  refine ⟨none, 0, 0, [], 0, 0, 0, 0, rfl, by omega, by exact RowIn.nil, Lib.hid rfl, Lib.hid rfl, ?_⟩
  repeat' (first | (with_reducible assumption) | (with_reducible exact Below.refl _ _) | (with_reducible refine Blk.drewN ?_ _) | (with_reducible refine RowIn.drewN ?_ _) | (with_reducible refine below_drewN ?_ _) | (with_reducible refine Blk.drew ?_) | (with_reducible refine RowIn.drew ?_) | (with_reducible refine Below.drew ?_) | (with_reducible refine Blk.new' ?_ ?_ <;> first | (with_reducible rfl) | (simp; done)) | (with_reducible refine Blk.alloc ?_ _) | (with_reducible refine RowIn.alloc ?_ _) | (with_reducible refine Below.alloc ?_ ?_ _) | (with_reducible apply Blk.set') | (with_reducible apply Blk.far') | (with_reducible refine RowIn.far' ?_ ?_ _) | (with_reducible refine Below.far' ?_ ?_ _) | rfl | omega | go_size)


set_option maxHeartbeats 400000 in
theorem dWrite_bad (A : Option Addr) (m c : Nat) (N : Int) (bytes : List Int) (p0 p1 q0 q1 v : Int) (w : World) (ha : Row .u8 w A m bytes) (hb : Within 0 255 bytes) (hc : m ≤ c ∧ c ≤ 9223372036854775807) (hv : ¬ Valid bytes N) :
    Calls Try.prog 17 #[.agg #[.slice A m c, .int .i64 N], .agg #[.int .i64 p0, .int .i64 p1, .int .u64 q0, .int .u64 q1], .int .u32 v] w (RetW w [] dualZero 8) := by
  have hri := ha.rowIn
  go_enter Try.func17, Try.ntmps17
  go_wp2_with fail
  refine (bcheck_bad A m c N bytes _ (by exact RowIn.row (lo := 0) (hi := w.heap.size) (by repeat' (first | (with_reducible assumption) | (with_reducible exact Below.refl _ _) | (with_reducible refine Blk.drewN ?_ _) | (with_reducible refine RowIn.drewN ?_ _) | (with_reducible refine below_drewN ?_ _) | (with_reducible refine Blk.drew ?_) | (with_reducible refine RowIn.drew ?_) | (with_reducible refine Below.drew ?_) | (with_reducible refine Blk.new' ?_ ?_ <;> first | (with_reducible rfl) | (simp; done)) | (with_reducible refine Blk.alloc ?_ _) | (with_reducible refine RowIn.alloc ?_ _) | (with_reducible refine Below.alloc ?_ ?_ _) | (with_reducible apply Blk.set') | (with_reducible apply Blk.far') | (with_reducible refine RowIn.far' ?_ ?_ _) | (with_reducible refine Below.far' ?_ ?_ _) | rfl | omega | go_size))) hb (by omega) hv).mono ?_
  rintro e w1 ⟨rfl, b1⟩
  have s1 := b1.size
  try simp only [World.size_alloc, World.size_setCell, World.size_drew, size_drewN] at s1
  obtain ⟨zb_1, zd_1, zr_1, zx_1, rb_1, bb_1⟩ : Blk w1 (w.heap.size) 29 [.slice A m c, .int .i64 N] ∧ Blk w1 (w.heap.size + 1) 37 [.int .i64 p0, .int .i64 p1, .int .u64 q0, .int .u64 q1] ∧ Blk w1 (w.heap.size + 1 + 1) 29 [.slice none 0 0, .int .i64 0] ∧ Blk w1 (w.heap.size + 1 + 1 + 1) 37 [.int .i64 0, .int .i64 0, .int .u64 0, .int .u64 0] ∧ RowIn .u8 w1 (0) (w.heap.size) A m bytes ∧ Below w.heap.size w w1 := by
    refine ⟨?_, ?_, ?_, ?_, ?_, ?_⟩
    all_goals repeat' (first | (with_reducible assumption) | (with_reducible exact Below.refl _ _) | (with_reducible refine Blk.after ?_ b1) | (with_reducible refine RowIn.belowS ?_ b1) | (with_reducible refine Below.after ?_ b1 ?_) | (with_reducible refine Blk.drewN ?_ _) | (with_reducible refine RowIn.drewN ?_ _) | (with_reducible refine below_drewN ?_ _) | (with_reducible refine Blk.drew ?_) | (with_reducible refine RowIn.drew ?_) | (with_reducible refine Below.drew ?_) | (with_reducible refine Blk.new' ?_ ?_ <;> first | (with_reducible rfl) | (simp; done)) | (with_reducible refine Blk.alloc ?_ _) | (with_reducible refine RowIn.alloc ?_ _) | (with_reducible refine Below.alloc ?_ ?_ _) | (with_reducible apply Blk.set') | (with_reducible apply Blk.far') | (with_reducible refine RowIn.far' ?_ ?_ _) | (with_reducible refine Below.far' ?_ ?_ _) | rfl | omega | go_size)
  clear b1
  have kb_1 := zb_1.cell; have fb_1 := zb_1.frozen; have lb_1 := zb_1.lt
  have kd_1 := zd_1.cell; have fd_1 := zd_1.frozen; have ld_1 := zd_1.lt
  have kr_1 := zr_1.cell; have fr_1 := zr_1.frozen; have lr_1 := zr_1.lt
  have kx_1 := zx_1.cell; have fx_1 := zx_1.frozen; have lx_1 := zx_1.lt
  go_wp2
  refine bodyPost_ret (v := .tuple #[.agg #[.slice none 0 0, .int .i64 0], .agg #[.int .i64 0, .int .i64 0, .int .u64 0, .int .u64 0], .int .i64 8]) (by simp [results, Try.results17, go_sem, kr_1, lr_1, kx_1, lx_1]) rfl ?_
  refine ⟨none, 0, 0, [], 0, 0, 0, 0, rfl, by omega, by exact RowIn.nil, Lib.hid rfl, Lib.hid rfl, ?_⟩
  repeat' (first | (with_reducible assumption) | (with_reducible exact Below.refl _ _) | (with_reducible refine Blk.drewN ?_ _) | (with_reducible refine RowIn.drewN ?_ _) | (with_reducible refine below_drewN ?_ _) | (with_reducible refine Blk.drew ?_) | (with_reducible refine RowIn.drew ?_) | (with_reducible refine Below.drew ?_) | (with_reducible refine Blk.new' ?_ ?_ <;> first | (with_reducible rfl) | (simp; done)) | (with_reducible refine Blk.alloc ?_ _) | (with_reducible refine RowIn.alloc ?_ _) | (with_reducible refine Below.alloc ?_ ?_ _) | (with_reducible apply Blk.set') | (with_reducible apply Blk.far') | (with_reducible refine RowIn.far' ?_ ?_ _) | (with_reducible refine Below.far' ?_ ?_ _) | rfl | omega | go_size)


set_option maxHeartbeats 400000 in
theorem dWrite_none (A : Option Addr) (m c : Nat) (bs : List Bool) (p0 p1 q0 q1 v : Int) (w : World) (ha : Row .u8 w A m (pack bs)) (hc : m ≤ c ∧ c ≤ 9223372036854775807) (hl : bs.length ≤ 330000) (h2 : 0 ≤ q0) (h3 : 0 ≤ q1) (hd : ¬ DOk p0 p1 q0 q1) :
    Calls Try.prog 17 #[.agg #[.slice A m c, .int .i64 ((bs.length : Nat) : Int)], .agg #[.int .i64 p0, .int .i64 p1, .int .u64 q0, .int .u64 q1], .int .u32 v] w (RetW w [] dualZero 8) := by
  have hri := ha.rowIn
  go_enter Try.func17, Try.ntmps17
  go_wp2_with fail
  refine (bcheck_ok A m c bs _ (by exact RowIn.row (lo := 0) (hi := w.heap.size) (by repeat' (first | (with_reducible assumption) | (with_reducible exact Below.refl _ _) | (with_reducible refine Blk.drewN ?_ _) | (with_reducible refine RowIn.drewN ?_ _) | (with_reducible refine below_drewN ?_ _) | (with_reducible refine Blk.drew ?_) | (with_reducible refine RowIn.drew ?_) | (with_reducible refine Below.drew ?_) | (with_reducible refine Blk.new' ?_ ?_ <;> first | (with_reducible rfl) | (simp; done)) | (with_reducible refine Blk.alloc ?_ _) | (with_reducible refine RowIn.alloc ?_ _) | (with_reducible refine Below.alloc ?_ ?_ _) | (with_reducible apply Blk.set') | (with_reducible apply Blk.far') | (with_reducible refine RowIn.far' ?_ ?_ _) | (with_reducible refine Below.far' ?_ ?_ _) | rfl | omega | go_size))) (by omega) hl).mono ?_
  rintro e w1 ⟨rfl, b1⟩
  have s1 := b1.size
  try simp only [World.size_alloc, World.size_setCell, World.size_drew, size_drewN] at s1
  obtain ⟨zb_1, zd_1, zr_1, zx_1, rb_1, bb_1⟩ : Blk w1 (w.heap.size) 29 [.slice A m c, .int .i64 ((bs.length : Nat) : Int)] ∧ Blk w1 (w.heap.size + 1) 37 [.int .i64 p0, .int .i64 p1, .int .u64 q0, .int .u64 q1] ∧ Blk w1 (w.heap.size + 1 + 1) 29 [.slice none 0 0, .int .i64 0] ∧ Blk w1 (w.heap.size + 1 + 1 + 1) 37 [.int .i64 0, .int .i64 0, .int .u64 0, .int .u64 0] ∧ RowIn .u8 w1 (0) (w.heap.size) A m (pack bs) ∧ Below w.heap.size w w1 := by
    refine ⟨?_, ?_, ?_, ?_, ?_, ?_⟩
    all_goals repeat' (first | (with_reducible assumption) | (with_reducible exact Below.refl _ _) | (with_reducible refine Blk.after ?_ b1) | (with_reducible refine RowIn.belowS ?_ b1) | (with_reducible refine Below.after ?_ b1 ?_) | (with_reducible refine Blk.drewN ?_ _) | (with_reducible refine RowIn.drewN ?_ _) | (with_reducible refine below_drewN ?_ _) | (with_reducible refine Blk.drew ?_) | (with_reducible refine RowIn.drew ?_) | (with_reducible refine Below.drew ?_) | (with_reducible refine Blk.new' ?_ ?_ <;> first | (with_reducible rfl) | (simp; done)) | (with_reducible refine Blk.alloc ?_ _) | (with_reducible refine RowIn.alloc ?_ _) | (with_reducible refine Below.alloc ?_ ?_ _) | (with_reducible apply Blk.set') | (with_reducible apply Blk.far') | (with_reducible refine RowIn.far' ?_ ?_ _) | (with_reducible refine Below.far' ?_ ?_ _) | rfl | omega | go_size)
  clear b1
  have kb_1 := zb_1.cell; have fb_1 := zb_1.frozen; have lb_1 := zb_1.lt
  have kd_1 := zd_1.cell; have fd_1 := zd_1.frozen; have ld_1 := zd_1.lt
  have kr_1 := zr_1.cell; have fr_1 := zr_1.frozen; have lr_1 := zr_1.lt
  have kx_1 := zx_1.cell; have fx_1 := zx_1.frozen; have lx_1 := zx_1.lt
  go_wp2_with fail
  refine (dcheck_bad p0 p1 q0 q1 _ h2 h3 hd).mono ?_
  rintro e w2 ⟨rfl, b2⟩
  have s2 := b2.size
  try simp only [World.size_alloc, World.size_setCell, World.size_drew, size_drewN] at s2
  obtain ⟨zb_2, zd_2, zr_2, zx_2, rb_2, bb_2⟩ : Blk w2 (w.heap.size) 29 [.slice A m c, .int .i64 ((bs.length : Nat) : Int)] ∧ Blk w2 (w.heap.size + 1) 37 [.int .i64 p0, .int .i64 p1, .int .u64 q0, .int .u64 q1] ∧ Blk w2 (w.heap.size + 1 + 1) 29 [.slice none 0 0, .int .i64 0] ∧ Blk w2 (w.heap.size + 1 + 1 + 1) 37 [.int .i64 0, .int .i64 0, .int .u64 0, .int .u64 0] ∧ RowIn .u8 w2 (0) (w.heap.size) A m (pack bs) ∧ Below w.heap.size w w2 := by
    refine ⟨?_, ?_, ?_, ?_, ?_, ?_⟩
    all_goals repeat' (first | (with_reducible assumption) | (with_reducible exact Below.refl _ _) | (with_reducible refine Blk.after ?_ b2) | (with_reducible refine RowIn.belowS ?_ b2) | (with_reducible refine Below.after ?_ b2 ?_) | (with_reducible refine Blk.drewN ?_ _) | (with_reducible refine RowIn.drewN ?_ _) | (with_reducible refine below_drewN ?_ _) | (with_reducible refine Blk.drew ?_) | (with_reducible refine RowIn.drew ?_) | (with_reducible refine Below.drew ?_) | (with_reducible refine Blk.new' ?_ ?_ <;> first | (with_reducible rfl) | (simp; done)) | (with_reducible refine Blk.alloc ?_ _) | (with_reducible refine RowIn.alloc ?_ _) | (with_reducible refine Below.alloc ?_ ?_ _) | (with_reducible apply Blk.set') | (with_reducible apply Blk.far') | (with_reducible refine RowIn.far' ?_ ?_ _) | (with_reducible refine Below.far' ?_ ?_ _) | rfl | omega | go_size)
  clear zb_1 zd_1 zr_1 zx_1 rb_1 bb_1 kb_1 fb_1 lb_1 kd_1 fd_1 ld_1 kr_1 fr_1 lr_1 kx_1 fx_1 lx_1 b2
  have kb_2 := zb_2.cell; have fb_2 := zb_2.frozen; have lb_2 := zb_2.lt
  have kd_2 := zd_2.cell; have fd_2 := zd_2.frozen; have ld_2 := zd_2.lt
  have kr_2 := zr_2.cell; have fr_2 := zr_2.frozen; have lr_2 := zr_2.lt
  have kx_2 := zx_2.cell; have fx_2 := zx_2.frozen; have lx_2 := zx_2.lt
  go_wp2
  refine bodyPost_ret (v := .tuple #[.agg #[.slice none 0 0, .int .i64 0], .agg #[.int .i64 0, .int .i64 0, .int .u64 0, .int .u64 0], .int .i64 8]) (by simp [results, Try.results17, go_sem, kr_2, lr_2, kx_2, lx_2]) rfl ?_
  refine ⟨none, 0, 0, [], 0, 0, 0, 0, rfl, by omega, by exact RowIn.nil, Lib.hid rfl, Lib.hid rfl, ?_⟩
  repeat' (first | (with_reducible assumption) | (with_reducible exact Below.refl _ _) | (with_reducible refine Blk.drewN ?_ _) | (with_reducible refine RowIn.drewN ?_ _) | (with_reducible refine below_drewN ?_ _) | (with_reducible refine Blk.drew ?_) | (with_reducible refine RowIn.drew ?_) | (with_reducible refine Below.drew ?_) | (with_reducible refine Blk.new' ?_ ?_ <;> first | (with_reducible rfl) | (simp; done)) | (with_reducible refine Blk.alloc ?_ _) | (with_reducible refine RowIn.alloc ?_ _) | (with_reducible refine Below.alloc ?_ ?_ _) | (with_reducible apply Blk.set') | (with_reducible apply Blk.far') | (with_reducible refine RowIn.far' ?_ ?_ _) | (with_reducible refine Below.far' ?_ ?_ _) | rfl | omega | go_size)


set_option maxRecDepth 100000 in
set_option maxHeartbeats 2000000 in
theorem rdwrite_ret (A : Option Addr) (m c : Nat) (bs : List Bool) (p0 p1 q0 q1 v : Nat) (w : World) (ha : Row .u8 w A m (pack bs)) (hc : m ≤ c ∧ c ≤ 9223372036854775807) (hl : bs.length ≤ 330000) (hd : Dual.Ok ⟨p0, p1, q0, q1⟩) (hv : v < 4294967296) :
    Calls Try.prog 18 #[.agg #[.slice A m c, .int .i64 ((bs.length : Nat) : Int)], .agg #[.int .i64 (p0 : Int), .int .i64 (p1 : Int), .int .u64 (q0 : Int), .int .u64 (q1 : Int)], .int .u32 (v : Int)] w (RetW w (dwR bs ⟨p0, p1, q0, q1⟩ v).1 (dwR bs ⟨p0, p1, q0, q1⟩ v).2.1 (dwR bs ⟨p0, p1, q0, q1⟩ v).2.2) := by
  have hri := ha.rowIn
  have hm : m ≤ 41250 := by have := ha.len; rw [pack_len] at this; unfold bytesFor at this; omega
  obtain ⟨hd0, hd1, hd2, hd3⟩ : p0 ≤ 24 ∧ p1 ≤ 24 ∧ q0 ≤ 68719476735 ∧ q1 ≤ 68719476735 := id hd
  have hdk : DOk (p0 : Int) (p1 : Int) (q0 : Int) (q1 : Int) := by unfold DOk; omega
  have HDK := Lib.hid hdk
  clear hdk
  obtain ⟨L, HL⟩ : ∃ L, Hid (L = lenD ⟨p0, p1, q0, q1⟩ v) := ⟨_, Lib.hid rfl⟩
  have hL : 1 ≤ L ∧ L ≤ 81 := by rw [HL.out]; exact lenD_le hd v
  by_cases h1 : 330000 < bs.length + L
  · have HR : Hid (dwR bs ⟨p0, p1, q0, q1⟩ v = ([], dualZero, 18)) := by unfold dwR; rw [if_pos (by rw [← HL.out]; omega)]; exact Lib.hid rfl
    go_enter Try.func18, Try.ntmps18
    go_wp2_with fail
    refine (rcheck_ok A m c bs _ (by exact RowIn.row (lo := 0) (hi := w.heap.size) (by repeat' (first | (with_reducible assumption) | (with_reducible exact Below.refl _ _) | (with_reducible refine Blk.drewN ?_ _) | (with_reducible refine RowIn.drewN ?_ _) | (with_reducible refine below_drewN ?_ _) | (with_reducible refine Blk.drew ?_) | (with_reducible refine RowIn.drew ?_) | (with_reducible refine Below.drew ?_) | (with_reducible refine Blk.new' ?_ ?_ <;> first | (with_reducible rfl) | (simp; done)) | (with_reducible refine Blk.alloc ?_ _) | (with_reducible refine RowIn.alloc ?_ _) | (with_reducible refine Below.alloc ?_ ?_ _) | (with_reducible apply Blk.set') | (with_reducible apply Blk.far') | (with_reducible refine RowIn.far' ?_ ?_ _) | (with_reducible refine Below.far' ?_ ?_ _) | rfl | omega | go_size))) (by omega) hl).mono ?_
    rintro e w1 ⟨rfl, b1⟩
    have s1 := b1.size
    try simp only [World.size_alloc, World.size_setCell, World.size_drew, size_drewN] at s1
    obtain ⟨zb_1, zd_1, zr_1, zx_1, rb_1, bb_1⟩ : Blk w1 (w.heap.size) 29 [.slice A m c, .int .i64 ((bs.length : Nat) : Int)] ∧ Blk w1 (w.heap.size + 1) 37 [.int .i64 (p0 : Int), .int .i64 (p1 : Int), .int .u64 (q0 : Int), .int .u64 (q1 : Int)] ∧ Blk w1 (w.heap.size + 1 + 1) 29 [.slice none 0 0, .int .i64 0] ∧ Blk w1 (w.heap.size + 1 + 1 + 1) 37 [.int .i64 0, .int .i64 0, .int .u64 0, .int .u64 0] ∧ RowIn .u8 w1 (0) (w.heap.size) A m (pack bs) ∧ Below w.heap.size w w1 := by
      refine ⟨?_, ?_, ?_, ?_, ?_, ?_⟩
      all_goals repeat' (first | (with_reducible assumption) | (with_reducible exact Below.refl _ _) | (with_reducible refine Blk.after ?_ b1) | (with_reducible refine RowIn.belowS ?_ b1) | (with_reducible refine Below.after ?_ b1 ?_) | (with_reducible refine Blk.drewN ?_ _) | (with_reducible refine RowIn.drewN ?_ _) | (with_reducible refine below_drewN ?_ _) | (with_reducible refine Blk.drew ?_) | (with_reducible refine RowIn.drew ?_) | (with_reducible refine Below.drew ?_) | (with_reducible refine Blk.new' ?_ ?_ <;> first | (with_reducible rfl) | (simp; done)) | (with_reducible refine Blk.alloc ?_ _) | (with_reducible refine RowIn.alloc ?_ _) | (with_reducible refine Below.alloc ?_ ?_ _) | (with_reducible apply Blk.set') | (with_reducible apply Blk.far') | (with_reducible refine RowIn.far' ?_ ?_ _) | (with_reducible refine Below.far' ?_ ?_ _) | rfl | omega | go_size)
    clear b1
    have kb_1 := zb_1.cell; have fb_1 := zb_1.frozen; have lb_1 := zb_1.lt
    have kd_1 := zd_1.cell; have fd_1 := zd_1.frozen; have ld_1 := zd_1.lt
    have kr_1 := zr_1.cell; have fr_1 := zr_1.frozen; have lr_1 := zr_1.lt
    have kx_1 := zx_1.cell; have fx_1 := zx_1.frozen; have lx_1 := zx_1.lt
    go_wp2_with fail
    refine (rdcheck_any (p0 : Int) (p1 : Int) (q0 : Int) (q1 : Int) 0 _ (by omega) (by omega) (by rw [if_pos HDK.out])).mono ?_
    rintro e w2 ⟨rfl, b2⟩
    have s2 := b2.size
    try simp only [World.size_alloc, World.size_setCell, World.size_drew, size_drewN] at s2
    obtain ⟨zb_2, zd_2, zr_2, zx_2, rb_2, bb_2⟩ : Blk w2 (w.heap.size) 29 [.slice A m c, .int .i64 ((bs.length : Nat) : Int)] ∧ Blk w2 (w.heap.size + 1) 37 [.int .i64 (p0 : Int), .int .i64 (p1 : Int), .int .u64 (q0 : Int), .int .u64 (q1 : Int)] ∧ Blk w2 (w.heap.size + 1 + 1) 29 [.slice none 0 0, .int .i64 0] ∧ Blk w2 (w.heap.size + 1 + 1 + 1) 37 [.int .i64 0, .int .i64 0, .int .u64 0, .int .u64 0] ∧ RowIn .u8 w2 (0) (w.heap.size) A m (pack bs) ∧ Below w.heap.size w w2 := by
      refine ⟨?_, ?_, ?_, ?_, ?_, ?_⟩
      all_goals repeat' (first | (with_reducible assumption) | (with_reducible exact Below.refl _ _) | (with_reducible refine Blk.after ?_ b2) | (with_reducible refine RowIn.belowS ?_ b2) | (with_reducible refine Below.after ?_ b2 ?_) | (with_reducible refine Blk.drewN ?_ _) | (with_reducible refine RowIn.drewN ?_ _) | (with_reducible refine below_drewN ?_ _) | (with_reducible refine Blk.drew ?_) | (with_reducible refine RowIn.drew ?_) | (with_reducible refine Below.drew ?_) | (with_reducible refine Blk.new' ?_ ?_ <;> first | (with_reducible rfl) | (simp; done)) | (with_reducible refine Blk.alloc ?_ _) | (with_reducible refine RowIn.alloc ?_ _) | (with_reducible refine Below.alloc ?_ ?_ _) | (with_reducible apply Blk.set') | (with_reducible apply Blk.far') | (with_reducible refine RowIn.far' ?_ ?_ _) | (with_reducible refine Below.far' ?_ ?_ _) | rfl | omega | go_size)
    clear zb_1 zd_1 zr_1 zx_1 rb_1 bb_1 kb_1 fb_1 lb_1 kd_1 fd_1 ld_1 kr_1 fr_1 lr_1 kx_1 fx_1 lx_1 b2
    have kb_2 := zb_2.cell; have fb_2 := zb_2.frozen; have lb_2 := zb_2.lt
    have kd_2 := zd_2.cell; have fd_2 := zd_2.frozen; have ld_2 := zd_2.lt
    have kr_2 := zr_2.cell; have fr_2 := zr_2.frozen; have lr_2 := zr_2.lt
    have kx_2 := zx_2.cell; have fx_2 := zx_2.frozen; have lx_2 := zx_2.lt
    have kb_2d := (Blk.drew zb_2).cell; have kd_2d := (Blk.drew zd_2).cell
    have hw1 : IntKind.i64.wrap (((bs.length : Nat) : Int) + (L : Int)) = ((bs.length : Nat) : Int) + (L : Int) := IntWalk.i64_in _ (by omega)
    have t1 : decide (330000 < ((bs.length : Nat) : Int) + (L : Int)) = true := decide_eq_true (by omega)
    go_wp2_with fail
    go_region_held3 (fun w' => (∀ a, w'.cell? ⟨w.heap.size, a, none⟩ = [.slice A m c, .int .i64 ((bs.length : Nat) : Int)][a]?) ∧ (∀ a, w'.cell? ⟨w.heap.size + 1, a, none⟩ = [.int .i64 (p0 : Int), .int .i64 (p1 : Int), .int .u64 (q0 : Int), .int .u64 (q1 : Int)][a]?)) (first | with_reducible exact ⟨kb_2d, kd_2d⟩ | with_reducible exact ⟨kb_3, kd_3⟩) (
       (go_simp; go_at_call 33; refine (rdlong_ok p0 p1 q0 q1 v L _ hd hv HL.out).mono ?_; rintro e w3 ⟨rfl, b3⟩
        have zb_3 := (Blk.drew zb_2).after b3; have zd_3 := (Blk.drew zd_2).after b3; have zr_3 := (Blk.drew zr_2).after b3; have zx_3 := (Blk.drew zx_2).after b3; have rb_3 := (RowIn.drew rb_2).belowS b3; have bb_3 := Below.after (Below.drew bb_2) b3 bb_2.size
        have kb_3 := zb_3.cell; have kd_3 := zd_3.cell; have kr_3 := zr_3.cell; have lr_3 := zr_3.lt; have fr_3 := zr_3.frozen; have fx_3 := zx_3.frozen; have kx_3 := zx_3.cell; have lx_3 := zx_3.lt))
    all_goals
      go_wp2
      refine bodyPost_ret (v := .tuple #[.agg #[.slice none 0 0, .int .i64 0], .agg #[.int .i64 0, .int .i64 0, .int .u64 0, .int .u64 0], .int .i64 18]) (by simp [results, Try.results18, go_sem, kr_3, lr_3, kx_3, lx_3]) rfl ?_
      rw [HR.out]
      refine ⟨none, 0, 0, [], 0, 0, 0, 0, rfl, by omega, by exact RowIn.nil, Lib.hid rfl, Lib.hid rfl, ?_⟩
      repeat' (first | (with_reducible assumption) | (with_reducible exact Below.refl _ _) | (with_reducible refine Blk.drewN ?_ _) | (with_reducible refine RowIn.drewN ?_ _) | (with_reducible refine below_drewN ?_ _) | (with_reducible refine Blk.drew ?_) | (with_reducible refine RowIn.drew ?_) | (with_reducible refine Below.drew ?_) | (with_reducible refine Blk.new' ?_ ?_ <;> first | (with_reducible rfl) | (simp; done)) | (with_reducible refine Blk.alloc ?_ _) | (with_reducible refine RowIn.alloc ?_ _) | (with_reducible refine Below.alloc ?_ ?_ _) | (with_reducible apply Blk.set') | (with_reducible apply Blk.far') | (with_reducible refine RowIn.far' ?_ ?_ _) | (with_reducible refine Below.far' ?_ ?_ _) | rfl | omega | go_size)
  have HR : Hid (dwR bs ⟨p0, p1, q0, q1⟩ v = (bs ++ codeD ⟨p0, p1, q0, q1⟩ v, learn ⟨p0, p1, q0, q1⟩ v, 0)) := by unfold dwR; rw [if_neg (by rw [← HL.out]; omega)]; exact Lib.hid rfl
  go_enter Try.func18, Try.ntmps18
  go_wp2_with fail
  refine (rcheck_ok A m c bs _ (by exact RowIn.row (lo := 0) (hi := w.heap.size) (by repeat' (first | (with_reducible assumption) | (with_reducible exact Below.refl _ _) | (with_reducible refine Blk.drewN ?_ _) | (with_reducible refine RowIn.drewN ?_ _) | (with_reducible refine below_drewN ?_ _) | (with_reducible refine Blk.drew ?_) | (with_reducible refine RowIn.drew ?_) | (with_reducible refine Below.drew ?_) | (with_reducible refine Blk.new' ?_ ?_ <;> first | (with_reducible rfl) | (simp; done)) | (with_reducible refine Blk.alloc ?_ _) | (with_reducible refine RowIn.alloc ?_ _) | (with_reducible refine Below.alloc ?_ ?_ _) | (with_reducible apply Blk.set') | (with_reducible apply Blk.far') | (with_reducible refine RowIn.far' ?_ ?_ _) | (with_reducible refine Below.far' ?_ ?_ _) | rfl | omega | go_size))) (by omega) hl).mono ?_
  rintro e w1 ⟨rfl, b1⟩
  have s1 := b1.size
  try simp only [World.size_alloc, World.size_setCell, World.size_drew, size_drewN] at s1
  obtain ⟨zb_1, zd_1, zr_1, zx_1, rb_1, bb_1⟩ : Blk w1 (w.heap.size) 29 [.slice A m c, .int .i64 ((bs.length : Nat) : Int)] ∧ Blk w1 (w.heap.size + 1) 37 [.int .i64 (p0 : Int), .int .i64 (p1 : Int), .int .u64 (q0 : Int), .int .u64 (q1 : Int)] ∧ Blk w1 (w.heap.size + 1 + 1) 29 [.slice none 0 0, .int .i64 0] ∧ Blk w1 (w.heap.size + 1 + 1 + 1) 37 [.int .i64 0, .int .i64 0, .int .u64 0, .int .u64 0] ∧ RowIn .u8 w1 (0) (w.heap.size) A m (pack bs) ∧ Below w.heap.size w w1 := by
    refine ⟨?_, ?_, ?_, ?_, ?_, ?_⟩
    all_goals repeat' (first | (with_reducible assumption) | (with_reducible exact Below.refl _ _) | (with_reducible refine Blk.after ?_ b1) | (with_reducible refine RowIn.belowS ?_ b1) | (with_reducible refine Below.after ?_ b1 ?_) | (with_reducible refine Blk.drewN ?_ _) | (with_reducible refine RowIn.drewN ?_ _) | (with_reducible refine below_drewN ?_ _) | (with_reducible refine Blk.drew ?_) | (with_reducible refine RowIn.drew ?_) | (with_reducible refine Below.drew ?_) | (with_reducible refine Blk.new' ?_ ?_ <;> first | (with_reducible rfl) | (simp; done)) | (with_reducible refine Blk.alloc ?_ _) | (with_reducible refine RowIn.alloc ?_ _) | (with_reducible refine Below.alloc ?_ ?_ _) | (with_reducible apply Blk.set') | (with_reducible apply Blk.far') | (with_reducible refine RowIn.far' ?_ ?_ _) | (with_reducible refine Below.far' ?_ ?_ _) | rfl | omega | go_size)
  clear b1
  have kb_1 := zb_1.cell; have fb_1 := zb_1.frozen; have lb_1 := zb_1.lt
  have kd_1 := zd_1.cell; have fd_1 := zd_1.frozen; have ld_1 := zd_1.lt
  have kr_1 := zr_1.cell; have fr_1 := zr_1.frozen; have lr_1 := zr_1.lt
  have kx_1 := zx_1.cell; have fx_1 := zx_1.frozen; have lx_1 := zx_1.lt
  go_wp2_with fail
  refine (rdcheck_any (p0 : Int) (p1 : Int) (q0 : Int) (q1 : Int) 0 _ (by omega) (by omega) (by rw [if_pos HDK.out])).mono ?_
  rintro e w2 ⟨rfl, b2⟩
  have s2 := b2.size
  try simp only [World.size_alloc, World.size_setCell, World.size_drew, size_drewN] at s2
  obtain ⟨zb_2, zd_2, zr_2, zx_2, rb_2, bb_2⟩ : Blk w2 (w.heap.size) 29 [.slice A m c, .int .i64 ((bs.length : Nat) : Int)] ∧ Blk w2 (w.heap.size + 1) 37 [.int .i64 (p0 : Int), .int .i64 (p1 : Int), .int .u64 (q0 : Int), .int .u64 (q1 : Int)] ∧ Blk w2 (w.heap.size + 1 + 1) 29 [.slice none 0 0, .int .i64 0] ∧ Blk w2 (w.heap.size + 1 + 1 + 1) 37 [.int .i64 0, .int .i64 0, .int .u64 0, .int .u64 0] ∧ RowIn .u8 w2 (0) (w.heap.size) A m (pack bs) ∧ Below w.heap.size w w2 := by
    refine ⟨?_, ?_, ?_, ?_, ?_, ?_⟩
    all_goals repeat' (first | (with_reducible assumption) | (with_reducible exact Below.refl _ _) | (with_reducible refine Blk.after ?_ b2) | (with_reducible refine RowIn.belowS ?_ b2) | (with_reducible refine Below.after ?_ b2 ?_) | (with_reducible refine Blk.drewN ?_ _) | (with_reducible refine RowIn.drewN ?_ _) | (with_reducible refine below_drewN ?_ _) | (with_reducible refine Blk.drew ?_) | (with_reducible refine RowIn.drew ?_) | (with_reducible refine Below.drew ?_) | (with_reducible refine Blk.new' ?_ ?_ <;> first | (with_reducible rfl) | (simp; done)) | (with_reducible refine Blk.alloc ?_ _) | (with_reducible refine RowIn.alloc ?_ _) | (with_reducible refine Below.alloc ?_ ?_ _) | (with_reducible apply Blk.set') | (with_reducible apply Blk.far') | (with_reducible refine RowIn.far' ?_ ?_ _) | (with_reducible refine Below.far' ?_ ?_ _) | rfl | omega | go_size)
  clear zb_1 zd_1 zr_1 zx_1 rb_1 bb_1 kb_1 fb_1 lb_1 kd_1 fd_1 ld_1 kr_1 fr_1 lr_1 kx_1 fx_1 lx_1 b2
  have kb_2 := zb_2.cell; have fb_2 := zb_2.frozen; have lb_2 := zb_2.lt
  have kd_2 := zd_2.cell; have fd_2 := zd_2.frozen; have ld_2 := zd_2.lt
  have kr_2 := zr_2.cell; have fr_2 := zr_2.frozen; have lr_2 := zr_2.lt
  have kx_2 := zx_2.cell; have fx_2 := zx_2.frozen; have lx_2 := zx_2.lt
  have kb_2d := (Blk.drew zb_2).cell; have kd_2d := (Blk.drew zd_2).cell
  have hw1 : IntKind.i64.wrap (((bs.length : Nat) : Int) + (L : Int)) = ((bs.length : Nat) : Int) + (L : Int) := IntWalk.i64_in _ (by omega)
  have t1 : decide (330000 < ((bs.length : Nat) : Int) + (L : Int)) = false := decide_eq_false (by omega)
  go_wp2_with fail
  go_region_held3 (fun w' => (∀ a, w'.cell? ⟨w.heap.size, a, none⟩ = [.slice A m c, .int .i64 ((bs.length : Nat) : Int)][a]?) ∧ (∀ a, w'.cell? ⟨w.heap.size + 1, a, none⟩ = [.int .i64 (p0 : Int), .int .i64 (p1 : Int), .int .u64 (q0 : Int), .int .u64 (q1 : Int)][a]?)) (first | with_reducible exact ⟨kb_2d, kd_2d⟩ | with_reducible exact ⟨kb_3, kd_3⟩) (
     (go_simp; go_at_call 33; refine (rdlong_ok p0 p1 q0 q1 v L _ hd hv HL.out).mono ?_; rintro e w3 ⟨rfl, b3⟩
      have zb_3 := (Blk.drew zb_2).after b3; have zd_3 := (Blk.drew zd_2).after b3; have zr_3 := (Blk.drew zr_2).after b3; have zx_3 := (Blk.drew zx_2).after b3; have rb_3 := (RowIn.drew rb_2).belowS b3; have bb_3 := Below.after (Below.drew bb_2) b3 bb_2.size
      have kb_3 := zb_3.cell; have kd_3 := zd_3.cell; have kr_3 := zr_3.cell; have lr_3 := zr_3.lt; have fr_3 := zr_3.frozen; have fx_3 := zx_3.frozen; have kx_3 := zx_3.cell; have lx_3 := zx_3.lt))
  all_goals
    go_wp2_with fail
    have kb_3d := (Blk.drew zb_3).cell; have kd_3d := (Blk.drew zd_3).cell; have hs03 := bb_3.size; have hlL : bs.length + lenD ⟨p0, p1, q0, q1⟩ v ≤ 330000 := by rw [← HL.out]; omega
    go_region_held3 (fun w' => (∀ a, w'.cell? ⟨w.heap.size, a, none⟩ = [.slice A m c, .int .i64 ((bs.length : Nat) : Int)][a]?) ∧ (∀ a, w'.cell? ⟨w.heap.size + 1, a, none⟩ = [.int .i64 (p0 : Int), .int .i64 (p1 : Int), .int .u64 (q0 : Int), .int .u64 (q1 : Int)][a]?)) (first | with_reducible exact ⟨kb_3d, kd_3d⟩ | with_reducible exact ⟨kb_4, kd_4⟩ | with_reducible exact ⟨kb_5, kd_5⟩ | with_reducible exact ⟨kb_6, kd_6⟩ | (refine ⟨Blk.cell (t := 29) ?_, Blk.cell (t := 37) ?_⟩; all_goals repeat' (first | (with_reducible assumption) | (with_reducible exact Below.refl _ _) | (with_reducible refine Blk.drewN ?_ _) | (with_reducible refine RowIn.drewN ?_ _) | (with_reducible refine below_drewN ?_ _) | (with_reducible refine Blk.drew ?_) | (with_reducible refine RowIn.drew ?_) | (with_reducible refine Below.drew ?_) | (with_reducible refine Blk.new' ?_ ?_ <;> first | (with_reducible rfl) | (simp; done)) | (with_reducible refine Blk.alloc ?_ _) | (with_reducible refine RowIn.alloc ?_ _) | (with_reducible refine Below.alloc ?_ ?_ _) | (with_reducible apply Blk.set') | (with_reducible apply Blk.far') | (with_reducible refine RowIn.far' ?_ ?_ _) | (with_reducible refine Below.far' ?_ ?_ _) | rfl | omega | go_size))) (first
      | (go_simp; go_at_call 12; refine (rtwin_any A m c _ (pack bs) _ (RowIn.drew rb_3).row (by omega)).mono ?_; rintro e w4 ⟨A4, d4, rfl, own4, b4⟩
         have zb_4 := (Blk.drew zb_3).after b4; have zd_4 := (Blk.drew zd_3).after b4; have zr_4 := (Blk.drew zr_3).after b4; have zx_4 := (Blk.drew zx_3).after b4; have bb_4 := Below.after (Below.drew bb_3) b4 bb_3.size; have s4 : w3.heap.size ≤ w4.heap.size := by have := b4.size; simp only [World.size_drew] at this; exact this
         have own4' : Own w4 w3.heap.size 5 .u8 A4 m d4 (pack bs) := by simp only [World.size_drew] at own4; exact own4
         have kb_4 := zb_4.cell; have kd_4 := zd_4.cell)
      | (go_simp; go_at_call 35; refine (rdadd_any w3.heap.size A4 m d4 bs p0 p1 q0 q1 v _ hv hd hlL s4 own4').mono ?_; rintro e w5 ⟨B5, m5, d5, x5, rfl, own5, HX5, fr5, hB5⟩
         have zb_5 := zb_4.frm fr5 (own4.ne_blk zb_4 (by decide)); have zd_5 := zd_4.frm fr5 (own4.ne_blk zd_4 (by decide)); have zr_5 := zr_4.frm fr5 (own4.ne_blk zr_4 (by decide)); have zx_5 := zx_4.frm fr5 (own4.ne_blk zx_4 (by decide))
         have hown4 := own4'.block
         have s5 := fr5.size
         have bb_5 : Below w.heap.size w w5 := bb_4.trans (fr5.below bb_4.size (fun k hk h => by have := hown4 k h; omega))
         have kr_5 := zr_5.cell; have lr_5 := zr_5.lt; have fr_5 := zr_5.frozen; have kx_5 := zx_5.cell; have lx_5 := zx_5.lt; have fx_5 := zx_5.frozen
         have kb_5 := zb_5.cell; have kd_5 := zd_5.cell)
      | (go_simp; go_at_call 31; refine (rdlearnt_ok p0 p1 q0 q1 v _ hd hv).mono ?_; rintro e w6 ⟨u0, u1, v0, v1, rfl, HA, b6⟩
         have zb_6 := zb_5.after b6; have zd_6 := zd_5.after b6; have zr_6 := zr_5.after b6; have zx_6 := zx_5.after b6; have bb_6 := Below.after bb_5 b6 bb_5.size; have own6 := own5.below b6 (Nat.le_refl _); have s6 := b6.size
         have kr_6 := zr_6.cell; have lr_6 := zr_6.lt; have fr_6 := zr_6.frozen; have kx_6 := zx_6.cell; have lx_6 := zx_6.lt; have fx_6 := zx_6.frozen
         have kb_6 := zb_6.cell; have kd_6 := zd_6.cell))
    all_goals
      clear kb_2 kd_2 kb_2d kd_2d kb_3 kd_3 kr_3 kx_3 kr_2 kx_2 kb_3d kd_3d
      go_wp2
      refine bodyPost_ret (v := .tuple #[.agg #[.slice B5 m5 d5, .int .i64 ((x5.length : Nat) : Int)], .agg #[.int .i64 (u0 : Int), .int .i64 (u1 : Int), .int .u64 (v0 : Int), .int .u64 (v1 : Int)], .int .i64 0]) (by simp [results, Try.results18, go_sem, kr_6, lr_6, kx_6, lx_6]) rfl ?_
      rw [HR.out]
      refine ⟨B5, m5, d5, x5, u0, u1, v0, v1, rfl, own6.rowC.2, ?_, HX5, HA, ?_⟩
      · refine RowIn.mono (lo := w3.heap.size) (hi := w6.heap.size) ?_ (by omega) (by go_size)
        have ri6 := own6.rowIn
        repeat' (first | (with_reducible assumption) | (with_reducible exact Below.refl _ _) | (with_reducible refine Blk.drewN ?_ _) | (with_reducible refine RowIn.drewN ?_ _) | (with_reducible refine below_drewN ?_ _) | (with_reducible refine Blk.drew ?_) | (with_reducible refine RowIn.drew ?_) | (with_reducible refine Below.drew ?_) | (with_reducible refine Blk.new' ?_ ?_ <;> first | (with_reducible rfl) | (simp; done)) | (with_reducible refine Blk.alloc ?_ _) | (with_reducible refine RowIn.alloc ?_ _) | (with_reducible refine Below.alloc ?_ ?_ _) | (with_reducible apply Blk.set') | (with_reducible apply Blk.far') | (with_reducible refine RowIn.far' ?_ ?_ _) | (with_reducible refine Below.far' ?_ ?_ _) | rfl | omega | go_size)
      · repeat' (first | (with_reducible assumption) | (with_reducible exact Below.refl _ _) | (with_reducible refine Blk.drewN ?_ _) | (with_reducible refine RowIn.drewN ?_ _) | (with_reducible refine below_drewN ?_ _) | (with_reducible refine Blk.drew ?_) | (with_reducible refine RowIn.drew ?_) | (with_reducible refine Below.drew ?_) | (with_reducible refine Blk.new' ?_ ?_ <;> first | (with_reducible rfl) | (simp; done)) | (with_reducible refine Blk.alloc ?_ _) | (with_reducible refine RowIn.alloc ?_ _) | (with_reducible refine Below.alloc ?_ ?_ _) | (with_reducible apply Blk.set') | (with_reducible apply Blk.far') | (with_reducible refine RowIn.far' ?_ ?_ _) | (with_reducible refine Below.far' ?_ ?_ _) | rfl | omega | go_size)


end Go.Proofs.Ytlblkjefngofaaa
