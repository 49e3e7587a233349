/-
  Contracts of writing a code of two levels.
-/
import Derived.Test.YtpohaikbbfochaaDualB
namespace Go.Proofs.Ytpohaikbbfochaa
open Go.RowKit Cad Cad.Bit Cad.Code
set_option linter.unusedVariables false
set_option linter.unusedSimpArgs false


/-- Bits, a state and an error are returned. -/
def RetW (w : World) (l : List Bool) (d : Dual) (er : Int) (e : Ending) (w' : World) : Prop :=
  ∃ (A : Option Addr) (n c : Nat) (xs : List Bool) (u0 u1 v0 v1 : Nat), e = .returned (.tuple #[.agg #[.slice A n c, .int .i64 (xs.length : Nat)], .agg #[.int .i64 (u0 : Int), .int .i64 (u1 : Int), .int .u64 (v0 : Int), .int .u64 (v1 : Int)], .int .i64 er]) ∧ (n ≤ c ∧ c ≤ 9223372036854775807) ∧ RowIn .u8 w' w.heap.size w'.heap.size A n (pack xs) ∧ Hid (xs = l) ∧ Hid ((⟨u0, u1, v0, v1⟩ : Dual) = d) ∧ Below w.heap.size w w'
/-- The state that is none. -/
def dualZero : Dual := ⟨0, 0, 0, 0⟩
/-- What Write returns. -/
def dwR (bs : List Bool) (d : Dual) (v : Nat) : List Bool × Dual × Int := if 330000 < bs.length + lenD d v then ([], dualZero, 18) else (bs ++ codeD d v, learn d v, 0)

theorem RowIn.frm {k : IntKind} {S : Nat → Prop} {w w' : World} {lo hi : Nat} {A : Option Addr} {n : Nat} {xs : List Int} (h : RowIn k w lo hi A n xs) (hf : Frm S w w') (hs : ∀ j, lo ≤ j → j < hi → ¬ S j) : RowIn k w' lo hi A n xs :=
  h.keep fun p h1 h2 h3 => hf.cell h3 (hs _ h1 h2)

set_option maxRecDepth 100000 in
set_option maxHeartbeats 1000000 in
theorem dWrite_ret (A : Option Addr) (m c : Nat) (bs : List Bool) (p0 p1 q0 q1 v : Nat) (w : World) (ha : Row .u8 w A m (pack bs)) (hc : m ≤ c ∧ c ≤ 9223372036854775807) (hl : bs.length ≤ 330000) (hd : Dual.Ok ⟨p0, p1, q0, q1⟩) (hv : v < 4294967296) :
    Calls Try.prog 43 #[.agg #[.slice A m c, .int .i64 ((bs.length : Nat) : Int)], .agg #[.int .i64 (p0 : Int), .int .i64 (p1 : Int), .int .u64 (q0 : Int), .int .u64 (q1 : Int)], .int .u32 (v : Int)] w (RetW w (dwR bs ⟨p0, p1, q0, q1⟩ v).1 (dwR bs ⟨p0, p1, q0, q1⟩ v).2.1 (dwR bs ⟨p0, p1, q0, q1⟩ v).2.2) := by
  have hri := ha.rowIn
  obtain ⟨hd0, hd1, hd2, hd3⟩ : p0 ≤ 24 ∧ p1 ≤ 24 ∧ q0 ≤ 68719476735 ∧ q1 ≤ 68719476735 := id hd
  by_cases h : v < 2 ^ p0
  · have hlen : 1 ≤ lenD ⟨p0, p1, q0, q1⟩ v := by unfold lenD; split <;> omega
    by_cases h0 : 330000 < bs.length + 1
    · have HR : Hid (dwR bs ⟨p0, p1, q0, q1⟩ v = ([], dualZero, 18)) := by unfold dwR; rw [if_pos (by omega)]; exact Lib.hid rfl
      have HP : Hid (putR bs (0 : Int).toNat (1 : Int) = ([], 18)) := by unfold putR; rw [if_neg (by omega), if_neg (by decide), if_pos (by show 330000 < bs.length + 1; omega)]; exact Lib.hid rfl
      go_enter Try.func43, Try.ntmps43
      go_wp2_with fail
      refine (bcheck_ok A m c bs _ (by exact RowIn.row (lo := 0) (hi := w.heap.size) (by repeat' (first | (with_reducible assumption) | (with_reducible exact Below.refl _ _) | (with_reducible refine Blk.drewN ?_ _) | (with_reducible refine RowIn.drewN ?_ _) | (with_reducible refine below_drewN ?_ _) | (with_reducible refine Blk.drew ?_) | (with_reducible refine RowIn.drew ?_) | (with_reducible refine Below.drew ?_) | (with_reducible refine Blk.new' ?_ ?_ <;> first | (with_reducible rfl) | (simp; done)) | (with_reducible refine Blk.alloc ?_ _) | (with_reducible refine RowIn.alloc ?_ _) | (with_reducible refine Below.alloc ?_ ?_ _) | (with_reducible apply Blk.set') | (with_reducible apply Blk.far') | (with_reducible refine RowIn.far' ?_ ?_ _) | (with_reducible refine Below.far' ?_ ?_ _) | rfl | omega | go_size))) (by omega) hl).mono ?_
      rintro e w1 ⟨rfl, b1⟩
      have s1 := b1.size
      try simp only [World.size_alloc, World.size_setCell, World.size_drew, size_drewN] at s1
      obtain ⟨zb_1, zd_1, zr_1, zx_1, rb_1, bb_1⟩ : Blk w1 (w.heap.size) 54 [.slice A m c, .int .i64 ((bs.length : Nat) : Int)] ∧ Blk w1 (w.heap.size + 1) 46 [.int .i64 (p0 : Int), .int .i64 (p1 : Int), .int .u64 (q0 : Int), .int .u64 (q1 : Int)] ∧ Blk w1 (w.heap.size + 1 + 1) 54 [.slice none 0 0, .int .i64 0] ∧ Blk w1 (w.heap.size + 1 + 1 + 1) 46 [.int .i64 0, .int .i64 0, .int .u64 0, .int .u64 0] ∧ RowIn .u8 w1 (0) (w.heap.size) A m (pack bs) ∧ Below w.heap.size w w1 := by
        refine ⟨?_, ?_, ?_, ?_, ?_, ?_⟩
        all_goals repeat' (first | (with_reducible assumption) | (with_reducible exact Below.refl _ _) | (with_reducible refine Blk.after ?_ b1) | (with_reducible refine RowIn.belowS ?_ b1) | (with_reducible refine Below.after ?_ b1 ?_) | (with_reducible refine Blk.drewN ?_ _) | (with_reducible refine RowIn.drewN ?_ _) | (with_reducible refine below_drewN ?_ _) | (with_reducible refine Blk.drew ?_) | (with_reducible refine RowIn.drew ?_) | (with_reducible refine Below.drew ?_) | (with_reducible refine Blk.new' ?_ ?_ <;> first | (with_reducible rfl) | (simp; done)) | (with_reducible refine Blk.alloc ?_ _) | (with_reducible refine RowIn.alloc ?_ _) | (with_reducible refine Below.alloc ?_ ?_ _) | (with_reducible apply Blk.set') | (with_reducible apply Blk.far') | (with_reducible refine RowIn.far' ?_ ?_ _) | (with_reducible refine Below.far' ?_ ?_ _) | rfl | omega | go_size)
      clear b1
      have kb_1 := zb_1.cell; have fb_1 := zb_1.frozen; have lb_1 := zb_1.lt
      have kd_1 := zd_1.cell; have fd_1 := zd_1.frozen; have ld_1 := zd_1.lt
      have kr_1 := zr_1.cell; have fr_1 := zr_1.frozen; have lr_1 := zr_1.lt
      have kx_1 := zx_1.cell; have fx_1 := zx_1.frozen; have lx_1 := zx_1.lt
      go_wp2_with fail
      refine (dcheck_ok p0 p1 q0 q1 _ hd).mono ?_
      rintro e w2 ⟨rfl, b2⟩
      have s2 := b2.size
      try simp only [World.size_alloc, World.size_setCell, World.size_drew, size_drewN] at s2
      obtain ⟨zb_2, zd_2, zr_2, zx_2, rb_2, bb_2⟩ : Blk w2 (w.heap.size) 54 [.slice A m c, .int .i64 ((bs.length : Nat) : Int)] ∧ Blk w2 (w.heap.size + 1) 46 [.int .i64 (p0 : Int), .int .i64 (p1 : Int), .int .u64 (q0 : Int), .int .u64 (q1 : Int)] ∧ Blk w2 (w.heap.size + 1 + 1) 54 [.slice none 0 0, .int .i64 0] ∧ Blk w2 (w.heap.size + 1 + 1 + 1) 46 [.int .i64 0, .int .i64 0, .int .u64 0, .int .u64 0] ∧ RowIn .u8 w2 (0) (w.heap.size) A m (pack bs) ∧ Below w.heap.size w w2 := by
        refine ⟨?_, ?_, ?_, ?_, ?_, ?_⟩
        all_goals repeat' (first | (with_reducible assumption) | (with_reducible exact Below.refl _ _) | (with_reducible refine Blk.after ?_ b2) | (with_reducible refine RowIn.belowS ?_ b2) | (with_reducible refine Below.after ?_ b2 ?_) | (with_reducible refine Blk.drewN ?_ _) | (with_reducible refine RowIn.drewN ?_ _) | (with_reducible refine below_drewN ?_ _) | (with_reducible refine Blk.drew ?_) | (with_reducible refine RowIn.drew ?_) | (with_reducible refine Below.drew ?_) | (with_reducible refine Blk.new' ?_ ?_ <;> first | (with_reducible rfl) | (simp; done)) | (with_reducible refine Blk.alloc ?_ _) | (with_reducible refine RowIn.alloc ?_ _) | (with_reducible refine Below.alloc ?_ ?_ _) | (with_reducible apply Blk.set') | (with_reducible apply Blk.far') | (with_reducible refine RowIn.far' ?_ ?_ _) | (with_reducible refine Below.far' ?_ ?_ _) | rfl | omega | go_size)
      clear zb_1 zd_1 zr_1 zx_1 rb_1 bb_1 kb_1 fb_1 lb_1 kd_1 fd_1 ld_1 kr_1 fr_1 lr_1 kx_1 fx_1 lx_1 b2
      have kb_2 := zb_2.cell; have fb_2 := zb_2.frozen; have lb_2 := zb_2.lt
      have kd_2 := zd_2.cell; have fd_2 := zd_2.frozen; have ld_2 := zd_2.lt
      have kr_2 := zr_2.cell; have fr_2 := zr_2.frozen; have lr_2 := zr_2.lt
      have kx_2 := zx_2.cell; have fx_2 := zx_2.frozen; have lx_2 := zx_2.lt
      go_wp2_with fail
      refine (dlevel_low p0 p1 q0 q1 v _ hd0 hv h).mono ?_
      rintro e w3 ⟨rfl, b3⟩
      have s3 := b3.size
      try simp only [World.size_alloc, World.size_setCell, World.size_drew, size_drewN] at s3
      obtain ⟨zb_3, zd_3, zr_3, zx_3, rb_3, bb_3⟩ : Blk w3 (w.heap.size) 54 [.slice A m c, .int .i64 ((bs.length : Nat) : Int)] ∧ Blk w3 (w.heap.size + 1) 46 [.int .i64 (p0 : Int), .int .i64 (p1 : Int), .int .u64 (q0 : Int), .int .u64 (q1 : Int)] ∧ Blk w3 (w.heap.size + 1 + 1) 54 [.slice none 0 0, .int .i64 0] ∧ Blk w3 (w.heap.size + 1 + 1 + 1) 46 [.int .i64 0, .int .i64 0, .int .u64 0, .int .u64 0] ∧ RowIn .u8 w3 (0) (w.heap.size) A m (pack bs) ∧ Below w.heap.size w w3 := by
        refine ⟨?_, ?_, ?_, ?_, ?_, ?_⟩
        all_goals repeat' (first | (with_reducible assumption) | (with_reducible exact Below.refl _ _) | (with_reducible refine Blk.after ?_ b3) | (with_reducible refine RowIn.belowS ?_ b3) | (with_reducible refine Below.after ?_ b3 ?_) | (with_reducible refine Blk.drewN ?_ _) | (with_reducible refine RowIn.drewN ?_ _) | (with_reducible refine below_drewN ?_ _) | (with_reducible refine Blk.drew ?_) | (with_reducible refine RowIn.drew ?_) | (with_reducible refine Below.drew ?_) | (with_reducible refine Blk.new' ?_ ?_ <;> first | (with_reducible rfl) | (simp; done)) | (with_reducible refine Blk.alloc ?_ _) | (with_reducible refine RowIn.alloc ?_ _) | (with_reducible refine Below.alloc ?_ ?_ _) | (with_reducible apply Blk.set') | (with_reducible apply Blk.far') | (with_reducible refine RowIn.far' ?_ ?_ _) | (with_reducible refine Below.far' ?_ ?_ _) | rfl | omega | go_size)
      clear zb_2 zd_2 zr_2 zx_2 rb_2 bb_2 kb_2 fb_2 lb_2 kd_2 fd_2 ld_2 kr_2 fr_2 lr_2 kx_2 fx_2 lx_2 b3
      have kb_3 := zb_3.cell; have fb_3 := zb_3.frozen; have lb_3 := zb_3.lt
      have kd_3 := zd_3.cell; have fd_3 := zd_3.frozen; have ld_3 := zd_3.lt
      have kr_3 := zr_3.cell; have fr_3 := zr_3.frozen; have lr_3 := zr_3.lt
      have kx_3 := zx_3.cell; have fx_3 := zx_3.frozen; have lx_3 := zx_3.lt
      have hw := bput_ret A m c bs (0 : Int) (1 : Int) w3 rb_3.row hc hl (by omega) (by omega)
      rw [HP.out] at hw
      replace hw := Lib.hid hw
      go_wp2_with fail
      refine (hw.out).mono ?_
      rintro e w4 ⟨Az, mz, cz, xz, rfl, hcz, rz, HXz, b4⟩
      replace rz := rz.mono (lo' := w3.heap.size + 0) (by go_size) (Nat.le_refl _)
      have s4 := b4.size
      try simp only [World.size_alloc, World.size_setCell, World.size_drew, size_drewN] at s4
      obtain ⟨zb_4, zd_4, zr_4, zx_4, rb_4, rz_4, bb_4⟩ : Blk w4 (w.heap.size) 54 [.slice A m c, .int .i64 ((bs.length : Nat) : Int)] ∧ Blk w4 (w.heap.size + 1) 46 [.int .i64 (p0 : Int), .int .i64 (p1 : Int), .int .u64 (q0 : Int), .int .u64 (q1 : Int)] ∧ Blk w4 (w.heap.size + 1 + 1) 54 [.slice none 0 0, .int .i64 0] ∧ Blk w4 (w.heap.size + 1 + 1 + 1) 46 [.int .i64 0, .int .i64 0, .int .u64 0, .int .u64 0] ∧ RowIn .u8 w4 (0) (w.heap.size) A m (pack bs) ∧ RowIn .u8 w4 (w3.heap.size + 0) (w4.heap.size) Az mz (pack xz) ∧ Below w.heap.size w w4 := by
        refine ⟨?_, ?_, ?_, ?_, ?_, ?_, ?_⟩
        all_goals repeat' (first | (with_reducible assumption) | (with_reducible exact Below.refl _ _) | (with_reducible refine Blk.after ?_ b4) | (with_reducible refine RowIn.belowS ?_ b4) | (with_reducible refine Below.after ?_ b4 ?_) | (with_reducible refine Blk.drewN ?_ _) | (with_reducible refine RowIn.drewN ?_ _) | (with_reducible refine below_drewN ?_ _) | (with_reducible refine Blk.drew ?_) | (with_reducible refine RowIn.drew ?_) | (with_reducible refine Below.drew ?_) | (with_reducible refine Blk.new' ?_ ?_ <;> first | (with_reducible rfl) | (simp; done)) | (with_reducible refine Blk.alloc ?_ _) | (with_reducible refine RowIn.alloc ?_ _) | (with_reducible refine Below.alloc ?_ ?_ _) | (with_reducible apply Blk.set') | (with_reducible apply Blk.far') | (with_reducible refine RowIn.far' ?_ ?_ _) | (with_reducible refine Below.far' ?_ ?_ _) | rfl | omega | go_size)
      clear zb_3 zd_3 zr_3 zx_3 rb_3 bb_3 kb_3 fb_3 lb_3 kd_3 fd_3 ld_3 kr_3 fr_3 lr_3 kx_3 fx_3 lx_3 b4
      have kb_4 := zb_4.cell; have fb_4 := zb_4.frozen; have lb_4 := zb_4.lt
      have kd_4 := zd_4.cell; have fd_4 := zd_4.frozen; have ld_4 := zd_4.lt
      have kr_4 := zr_4.cell; have fr_4 := zr_4.frozen; have lr_4 := zr_4.lt
      have kx_4 := zx_4.cell; have fx_4 := zx_4.frozen; have lx_4 := zx_4.lt
      clear rz
      clear hw
      go_wp2
      refine bodyPost_ret (v := .tuple #[.agg #[.slice none 0 0, .int .i64 0], .agg #[.int .i64 0, .int .i64 0, .int .u64 0, .int .u64 0], .int .i64 18]) (by simp [results, Try.results43, go_sem, kr_4, lr_4, kx_4, lx_4]) rfl ?_
      rw [HR.out]
      refine ⟨none, 0, 0, [], 0, 0, 0, 0, rfl, ⟨Nat.le_refl _, Nat.zero_le _⟩, RowIn.nil, Lib.hid rfl, Lib.hid rfl, ?_⟩
      repeat' (first | (with_reducible assumption) | (with_reducible exact Below.refl _ _) | (with_reducible refine Blk.drewN ?_ _) | (with_reducible refine RowIn.drewN ?_ _) | (with_reducible refine below_drewN ?_ _) | (with_reducible refine Blk.drew ?_) | (with_reducible refine RowIn.drew ?_) | (with_reducible refine Below.drew ?_) | (with_reducible refine Blk.new' ?_ ?_ <;> first | (with_reducible rfl) | (simp; done)) | (with_reducible refine Blk.alloc ?_ _) | (with_reducible refine RowIn.alloc ?_ _) | (with_reducible refine Below.alloc ?_ ?_ _) | (with_reducible apply Blk.set') | (with_reducible apply Blk.far') | (with_reducible refine RowIn.far' ?_ ?_ _) | (with_reducible refine Below.far' ?_ ?_ _) | rfl | omega | go_size)
    have HP : Hid (putR bs (0 : Int).toNat (1 : Int) = (bs ++ [false], 0)) := by unfold putR; rw [if_neg (by omega), if_neg (by decide), if_neg (by show ¬ 330000 < bs.length + 1; omega)]; exact Lib.hid rfl
    have HLD : Hid (lenD ⟨p0, p1, q0, q1⟩ v = 1 + p0) := Lib.hid (by unfold lenD; rw [if_pos h])
    have HCD : Hid (codeD ⟨p0, p1, q0, q1⟩ v = false :: lowBits v p0) := Lib.hid (by unfold codeD; rw [if_pos h])
    by_cases h5 : 330000 < bs.length + 1 + p0
    · have HR : Hid (dwR bs ⟨p0, p1, q0, q1⟩ v = ([], dualZero, 18)) := by unfold dwR; rw [if_pos (by have := HLD.out; omega)]; exact Lib.hid rfl
      have H2 := Lib.hid h5
      go_enter Try.func43, Try.ntmps43
      go_wp2_with fail
      refine (bcheck_ok A m c bs _ (by exact RowIn.row (lo := 0) (hi := w.heap.size) (by repeat' (first | (with_reducible assumption) | (with_reducible exact Below.refl _ _) | (with_reducible refine Blk.drewN ?_ _) | (with_reducible refine RowIn.drewN ?_ _) | (with_reducible refine below_drewN ?_ _) | (with_reducible refine Blk.drew ?_) | (with_reducible refine RowIn.drew ?_) | (with_reducible refine Below.drew ?_) | (with_reducible refine Blk.new' ?_ ?_ <;> first | (with_reducible rfl) | (simp; done)) | (with_reducible refine Blk.alloc ?_ _) | (with_reducible refine RowIn.alloc ?_ _) | (with_reducible refine Below.alloc ?_ ?_ _) | (with_reducible apply Blk.set') | (with_reducible apply Blk.far') | (with_reducible refine RowIn.far' ?_ ?_ _) | (with_reducible refine Below.far' ?_ ?_ _) | rfl | omega | go_size))) (by omega) hl).mono ?_
      rintro e w1 ⟨rfl, b1⟩
      have s1 := b1.size
      try simp only [World.size_alloc, World.size_setCell, World.size_drew, size_drewN] at s1
      obtain ⟨zb_1, zd_1, zr_1, zx_1, rb_1, bb_1⟩ : Blk w1 (w.heap.size) 54 [.slice A m c, .int .i64 ((bs.length : Nat) : Int)] ∧ Blk w1 (w.heap.size + 1) 46 [.int .i64 (p0 : Int), .int .i64 (p1 : Int), .int .u64 (q0 : Int), .int .u64 (q1 : Int)] ∧ Blk w1 (w.heap.size + 1 + 1) 54 [.slice none 0 0, .int .i64 0] ∧ Blk w1 (w.heap.size + 1 + 1 + 1) 46 [.int .i64 0, .int .i64 0, .int .u64 0, .int .u64 0] ∧ RowIn .u8 w1 (0) (w.heap.size) A m (pack bs) ∧ Below w.heap.size w w1 := by
        refine ⟨?_, ?_, ?_, ?_, ?_, ?_⟩
        all_goals repeat' (first | (with_reducible assumption) | (with_reducible exact Below.refl _ _) | (with_reducible refine Blk.after ?_ b1) | (with_reducible refine RowIn.belowS ?_ b1) | (with_reducible refine Below.after ?_ b1 ?_) | (with_reducible refine Blk.drewN ?_ _) | (with_reducible refine RowIn.drewN ?_ _) | (with_reducible refine below_drewN ?_ _) | (with_reducible refine Blk.drew ?_) | (with_reducible refine RowIn.drew ?_) | (with_reducible refine Below.drew ?_) | (with_reducible refine Blk.new' ?_ ?_ <;> first | (with_reducible rfl) | (simp; done)) | (with_reducible refine Blk.alloc ?_ _) | (with_reducible refine RowIn.alloc ?_ _) | (with_reducible refine Below.alloc ?_ ?_ _) | (with_reducible apply Blk.set') | (with_reducible apply Blk.far') | (with_reducible refine RowIn.far' ?_ ?_ _) | (with_reducible refine Below.far' ?_ ?_ _) | rfl | omega | go_size)
      clear b1
      have kb_1 := zb_1.cell; have fb_1 := zb_1.frozen; have lb_1 := zb_1.lt
      have kd_1 := zd_1.cell; have fd_1 := zd_1.frozen; have ld_1 := zd_1.lt
      have kr_1 := zr_1.cell; have fr_1 := zr_1.frozen; have lr_1 := zr_1.lt
      have kx_1 := zx_1.cell; have fx_1 := zx_1.frozen; have lx_1 := zx_1.lt
      go_wp2_with fail
      refine (dcheck_ok p0 p1 q0 q1 _ hd).mono ?_
      rintro e w2 ⟨rfl, b2⟩
      have s2 := b2.size
      try simp only [World.size_alloc, World.size_setCell, World.size_drew, size_drewN] at s2
      obtain ⟨zb_2, zd_2, zr_2, zx_2, rb_2, bb_2⟩ : Blk w2 (w.heap.size) 54 [.slice A m c, .int .i64 ((bs.length : Nat) : Int)] ∧ Blk w2 (w.heap.size + 1) 46 [.int .i64 (p0 : Int), .int .i64 (p1 : Int), .int .u64 (q0 : Int), .int .u64 (q1 : Int)] ∧ Blk w2 (w.heap.size + 1 + 1) 54 [.slice none 0 0, .int .i64 0] ∧ Blk w2 (w.heap.size + 1 + 1 + 1) 46 [.int .i64 0, .int .i64 0, .int .u64 0, .int .u64 0] ∧ RowIn .u8 w2 (0) (w.heap.size) A m (pack bs) ∧ Below w.heap.size w w2 := by
        refine ⟨?_, ?_, ?_, ?_, ?_, ?_⟩
        all_goals repeat' (first | (with_reducible assumption) | (with_reducible exact Below.refl _ _) | (with_reducible refine Blk.after ?_ b2) | (with_reducible refine RowIn.belowS ?_ b2) | (with_reducible refine Below.after ?_ b2 ?_) | (with_reducible refine Blk.drewN ?_ _) | (with_reducible refine RowIn.drewN ?_ _) | (with_reducible refine below_drewN ?_ _) | (with_reducible refine Blk.drew ?_) | (with_reducible refine RowIn.drew ?_) | (with_reducible refine Below.drew ?_) | (with_reducible refine Blk.new' ?_ ?_ <;> first | (with_reducible rfl) | (simp; done)) | (with_reducible refine Blk.alloc ?_ _) | (with_reducible refine RowIn.alloc ?_ _) | (with_reducible refine Below.alloc ?_ ?_ _) | (with_reducible apply Blk.set') | (with_reducible apply Blk.far') | (with_reducible refine RowIn.far' ?_ ?_ _) | (with_reducible refine Below.far' ?_ ?_ _) | rfl | omega | go_size)
      clear zb_1 zd_1 zr_1 zx_1 rb_1 bb_1 kb_1 fb_1 lb_1 kd_1 fd_1 ld_1 kr_1 fr_1 lr_1 kx_1 fx_1 lx_1 b2
      have kb_2 := zb_2.cell; have fb_2 := zb_2.frozen; have lb_2 := zb_2.lt
      have kd_2 := zd_2.cell; have fd_2 := zd_2.frozen; have ld_2 := zd_2.lt
      have kr_2 := zr_2.cell; have fr_2 := zr_2.frozen; have lr_2 := zr_2.lt
      have kx_2 := zx_2.cell; have fx_2 := zx_2.frozen; have lx_2 := zx_2.lt
      go_wp2_with fail
      refine (dlevel_low p0 p1 q0 q1 v _ hd0 hv h).mono ?_
      rintro e w3 ⟨rfl, b3⟩
      have s3 := b3.size
      try simp only [World.size_alloc, World.size_setCell, World.size_drew, size_drewN] at s3
      obtain ⟨zb_3, zd_3, zr_3, zx_3, rb_3, bb_3⟩ : Blk w3 (w.heap.size) 54 [.slice A m c, .int .i64 ((bs.length : Nat) : Int)] ∧ Blk w3 (w.heap.size + 1) 46 [.int .i64 (p0 : Int), .int .i64 (p1 : Int), .int .u64 (q0 : Int), .int .u64 (q1 : Int)] ∧ Blk w3 (w.heap.size + 1 + 1) 54 [.slice none 0 0, .int .i64 0] ∧ Blk w3 (w.heap.size + 1 + 1 + 1) 46 [.int .i64 0, .int .i64 0, .int .u64 0, .int .u64 0] ∧ RowIn .u8 w3 (0) (w.heap.size) A m (pack bs) ∧ Below w.heap.size w w3 := by
        refine ⟨?_, ?_, ?_, ?_, ?_, ?_⟩
        all_goals repeat' (first | (with_reducible assumption) | (with_reducible exact Below.refl _ _) | (with_reducible refine Blk.after ?_ b3) | (with_reducible refine RowIn.belowS ?_ b3) | (with_reducible refine Below.after ?_ b3 ?_) | (with_reducible refine Blk.drewN ?_ _) | (with_reducible refine RowIn.drewN ?_ _) | (with_reducible refine below_drewN ?_ _) | (with_reducible refine Blk.drew ?_) | (with_reducible refine RowIn.drew ?_) | (with_reducible refine Below.drew ?_) | (with_reducible refine Blk.new' ?_ ?_ <;> first | (with_reducible rfl) | (simp; done)) | (with_reducible refine Blk.alloc ?_ _) | (with_reducible refine RowIn.alloc ?_ _) | (with_reducible refine Below.alloc ?_ ?_ _) | (with_reducible apply Blk.set') | (with_reducible apply Blk.far') | (with_reducible refine RowIn.far' ?_ ?_ _) | (with_reducible refine Below.far' ?_ ?_ _) | rfl | omega | go_size)
      clear zb_2 zd_2 zr_2 zx_2 rb_2 bb_2 kb_2 fb_2 lb_2 kd_2 fd_2 ld_2 kr_2 fr_2 lr_2 kx_2 fx_2 lx_2 b3
      have kb_3 := zb_3.cell; have fb_3 := zb_3.frozen; have lb_3 := zb_3.lt
      have kd_3 := zd_3.cell; have fd_3 := zd_3.frozen; have ld_3 := zd_3.lt
      have kr_3 := zr_3.cell; have fr_3 := zr_3.frozen; have lr_3 := zr_3.lt
      have kx_3 := zx_3.cell; have fx_3 := zx_3.frozen; have lx_3 := zx_3.lt
      have hw := bput_ret A m c bs (0 : Int) (1 : Int) w3 rb_3.row hc hl (by omega) (by omega)
      rw [HP.out] at hw
      replace hw := Lib.hid hw
      go_wp2_with fail
      refine (hw.out).mono ?_
      rintro e w4 ⟨Az, mz, cz, xz, rfl, hcz, rz, HXz, b4⟩
      have Lz : xz.length ≤ bs.length + 1 ∧ bs.length + 1 ≤ xz.length := by rw [HXz.out]; rw [List.length_append]; simp
      obtain ⟨Lz1, Lz2⟩ := Lz
      replace rz := rz.mono (lo' := w3.heap.size + 0) (by go_size) (Nat.le_refl _)
      have s4 := b4.size
      try simp only [World.size_alloc, World.size_setCell, World.size_drew, size_drewN] at s4
      obtain ⟨zb_4, zd_4, zr_4, zx_4, rb_4, rz_4, bb_4⟩ : Blk w4 (w.heap.size) 54 [.slice A m c, .int .i64 ((bs.length : Nat) : Int)] ∧ Blk w4 (w.heap.size + 1) 46 [.int .i64 (p0 : Int), .int .i64 (p1 : Int), .int .u64 (q0 : Int), .int .u64 (q1 : Int)] ∧ Blk w4 (w.heap.size + 1 + 1) 54 [.slice none 0 0, .int .i64 0] ∧ Blk w4 (w.heap.size + 1 + 1 + 1) 46 [.int .i64 0, .int .i64 0, .int .u64 0, .int .u64 0] ∧ RowIn .u8 w4 (0) (w.heap.size) A m (pack bs) ∧ RowIn .u8 w4 (w3.heap.size + 0) (w4.heap.size) Az mz (pack xz) ∧ Below w.heap.size w w4 := by
        refine ⟨?_, ?_, ?_, ?_, ?_, ?_, ?_⟩
        all_goals repeat' (first | (with_reducible assumption) | (with_reducible exact Below.refl _ _) | (with_reducible refine Blk.after ?_ b4) | (with_reducible refine RowIn.belowS ?_ b4) | (with_reducible refine Below.after ?_ b4 ?_) | (with_reducible refine Blk.drewN ?_ _) | (with_reducible refine RowIn.drewN ?_ _) | (with_reducible refine below_drewN ?_ _) | (with_reducible refine Blk.drew ?_) | (with_reducible refine RowIn.drew ?_) | (with_reducible refine Below.drew ?_) | (with_reducible refine Blk.new' ?_ ?_ <;> first | (with_reducible rfl) | (simp; done)) | (with_reducible refine Blk.alloc ?_ _) | (with_reducible refine RowIn.alloc ?_ _) | (with_reducible refine Below.alloc ?_ ?_ _) | (with_reducible apply Blk.set') | (with_reducible apply Blk.far') | (with_reducible refine RowIn.far' ?_ ?_ _) | (with_reducible refine Below.far' ?_ ?_ _) | rfl | omega | go_size)
      clear zb_3 zd_3 zr_3 zx_3 rb_3 bb_3 kb_3 fb_3 lb_3 kd_3 fd_3 ld_3 kr_3 fr_3 lr_3 kx_3 fx_3 lx_3 b4
      have kb_4 := zb_4.cell; have fb_4 := zb_4.frozen; have lb_4 := zb_4.lt
      have kd_4 := zd_4.cell; have fd_4 := zd_4.frozen; have ld_4 := zd_4.lt
      have kr_4 := zr_4.cell; have fr_4 := zr_4.frozen; have lr_4 := zr_4.lt
      have kx_4 := zx_4.cell; have fx_4 := zx_4.frozen; have lx_4 := zx_4.lt
      clear rz
      clear hw
      have HP2 : Hid (putR xz ((v : Nat) : Int).toNat ((p0 : Nat) : Int) = ([], 18)) := by
        unfold putR; rw [if_neg (by omega), if_neg (by rw [Int.toNat_natCast, Int.toNat_natCast]; exact Nat.not_le.2 h), if_pos (by rw [Int.toNat_natCast]; omega)]; exact Lib.hid rfl
      have hw := fun W (hr : Row .u8 W Az mz (pack xz)) => bput_ret Az mz cz xz ((v : Nat) : Int) ((p0 : Nat) : Int) W hr hcz (by omega) (by omega) (by omega)
      rw [HP2.out] at hw
      replace hw := Lib.hid hw
      go_wp2_with fail
      refine (hw.out _ (by exact RowIn.row (lo := w3.heap.size + 0) (hi := w4.heap.size) (by repeat' (first | (with_reducible assumption) | (with_reducible exact Below.refl _ _) | (with_reducible refine Blk.drewN ?_ _) | (with_reducible refine RowIn.drewN ?_ _) | (with_reducible refine below_drewN ?_ _) | (with_reducible refine Blk.drew ?_) | (with_reducible refine RowIn.drew ?_) | (with_reducible refine Below.drew ?_) | (with_reducible refine Blk.new' ?_ ?_ <;> first | (with_reducible rfl) | (simp; done)) | (with_reducible refine Blk.alloc ?_ _) | (with_reducible refine RowIn.alloc ?_ _) | (with_reducible refine Below.alloc ?_ ?_ _) | (with_reducible apply Blk.set') | (with_reducible apply Blk.far') | (with_reducible refine RowIn.far' ?_ ?_ _) | (with_reducible refine Below.far' ?_ ?_ _) | rfl | omega | go_size)))).mono ?_
      rintro e w5 ⟨Aq, mq, cq, xq, rfl, hcq, rq, HXq, b5⟩
      replace rq := rq.mono (lo' := w4.heap.size + 0) (by go_size) (Nat.le_refl _)
      have s5 := b5.size
      try simp only [World.size_alloc, World.size_setCell, World.size_drew, size_drewN] at s5
      obtain ⟨zb_5, zd_5, zr_5, zx_5, rz_5, rq_5, bb_5⟩ : Blk w5 (w.heap.size) 54 [.slice Az mz cz, .int .i64 ((xz.length : Nat) : Int)] ∧ Blk w5 (w.heap.size + 1) 46 [.int .i64 (p0 : Int), .int .i64 (p1 : Int), .int .u64 (q0 : Int), .int .u64 (q1 : Int)] ∧ Blk w5 (w.heap.size + 1 + 1) 54 [.slice none 0 0, .int .i64 0] ∧ Blk w5 (w.heap.size + 1 + 1 + 1) 46 [.int .i64 0, .int .i64 0, .int .u64 0, .int .u64 0] ∧ RowIn .u8 w5 (w3.heap.size + 0) (w4.heap.size) Az mz (pack xz) ∧ RowIn .u8 w5 (w4.heap.size + 0) (w5.heap.size) Aq mq (pack xq) ∧ Below w.heap.size w w5 := by
        refine ⟨?_, ?_, ?_, ?_, ?_, ?_, ?_⟩
        all_goals repeat' (first | (with_reducible assumption) | (with_reducible exact Below.refl _ _) | (with_reducible refine Blk.after ?_ b5) | (with_reducible refine RowIn.belowS ?_ b5) | (with_reducible refine Below.after ?_ b5 ?_) | (with_reducible refine Blk.drewN ?_ _) | (with_reducible refine RowIn.drewN ?_ _) | (with_reducible refine below_drewN ?_ _) | (with_reducible refine Blk.drew ?_) | (with_reducible refine RowIn.drew ?_) | (with_reducible refine Below.drew ?_) | (with_reducible refine Blk.new' ?_ ?_ <;> first | (with_reducible rfl) | (simp; done)) | (with_reducible refine Blk.alloc ?_ _) | (with_reducible refine RowIn.alloc ?_ _) | (with_reducible refine Below.alloc ?_ ?_ _) | (with_reducible apply Blk.set') | (with_reducible apply Blk.far') | (with_reducible refine RowIn.far' ?_ ?_ _) | (with_reducible refine Below.far' ?_ ?_ _) | rfl | omega | go_size)
      clear zb_4 zd_4 zr_4 zx_4 rb_4 rz_4 bb_4 kb_4 fb_4 lb_4 kd_4 fd_4 ld_4 kr_4 fr_4 lr_4 kx_4 fx_4 lx_4 b5
      have kb_5 := zb_5.cell; have fb_5 := zb_5.frozen; have lb_5 := zb_5.lt
      have kd_5 := zd_5.cell; have fd_5 := zd_5.frozen; have ld_5 := zd_5.lt
      have kr_5 := zr_5.cell; have fr_5 := zr_5.frozen; have lr_5 := zr_5.lt
      have kx_5 := zx_5.cell; have fx_5 := zx_5.frozen; have lx_5 := zx_5.lt
      clear rq
      clear hw
      go_wp2
      refine bodyPost_ret (v := .tuple #[.agg #[.slice none 0 0, .int .i64 0], .agg #[.int .i64 0, .int .i64 0, .int .u64 0, .int .u64 0], .int .i64 18]) (by simp [results, Try.results43, go_sem, kr_5, lr_5, kx_5, lx_5]) rfl ?_
      rw [HR.out]
      refine ⟨none, 0, 0, [], 0, 0, 0, 0, rfl, ⟨Nat.le_refl _, Nat.zero_le _⟩, RowIn.nil, Lib.hid rfl, Lib.hid rfl, ?_⟩
      repeat' (first | (with_reducible assumption) | (with_reducible exact Below.refl _ _) | (with_reducible refine Blk.drewN ?_ _) | (with_reducible refine RowIn.drewN ?_ _) | (with_reducible refine below_drewN ?_ _) | (with_reducible refine Blk.drew ?_) | (with_reducible refine RowIn.drew ?_) | (with_reducible refine Below.drew ?_) | (with_reducible refine Blk.new' ?_ ?_ <;> first | (with_reducible rfl) | (simp; done)) | (with_reducible refine Blk.alloc ?_ _) | (with_reducible refine RowIn.alloc ?_ _) | (with_reducible refine Below.alloc ?_ ?_ _) | (with_reducible apply Blk.set') | (with_reducible apply Blk.far') | (with_reducible refine RowIn.far' ?_ ?_ _) | (with_reducible refine Below.far' ?_ ?_ _) | rfl | omega | go_size)
    · have HR : Hid (dwR bs ⟨p0, p1, q0, q1⟩ v = (bs ++ codeD ⟨p0, p1, q0, q1⟩ v, learn ⟨p0, p1, q0, q1⟩ v, 0)) := by unfold dwR; rw [if_neg (by have := HLD.out; omega)]; exact Lib.hid rfl
      have H2 := Lib.hid h5
      go_enter Try.func43, Try.ntmps43
      go_wp2_with fail
      refine (bcheck_ok A m c bs _ (by exact RowIn.row (lo := 0) (hi := w.heap.size) (by repeat' (first | (with_reducible assumption) | (with_reducible exact Below.refl _ _) | (with_reducible refine Blk.drewN ?_ _) | (with_reducible refine RowIn.drewN ?_ _) | (with_reducible refine below_drewN ?_ _) | (with_reducible refine Blk.drew ?_) | (with_reducible refine RowIn.drew ?_) | (with_reducible refine Below.drew ?_) | (with_reducible refine Blk.new' ?_ ?_ <;> first | (with_reducible rfl) | (simp; done)) | (with_reducible refine Blk.alloc ?_ _) | (with_reducible refine RowIn.alloc ?_ _) | (with_reducible refine Below.alloc ?_ ?_ _) | (with_reducible apply Blk.set') | (with_reducible apply Blk.far') | (with_reducible refine RowIn.far' ?_ ?_ _) | (with_reducible refine Below.far' ?_ ?_ _) | rfl | omega | go_size))) (by omega) hl).mono ?_
      rintro e w1 ⟨rfl, b1⟩
      have s1 := b1.size
      try simp only [World.size_alloc, World.size_setCell, World.size_drew, size_drewN] at s1
      obtain ⟨zb_1, zd_1, zr_1, zx_1, rb_1, bb_1⟩ : Blk w1 (w.heap.size) 54 [.slice A m c, .int .i64 ((bs.length : Nat) : Int)] ∧ Blk w1 (w.heap.size + 1) 46 [.int .i64 (p0 : Int), .int .i64 (p1 : Int), .int .u64 (q0 : Int), .int .u64 (q1 : Int)] ∧ Blk w1 (w.heap.size + 1 + 1) 54 [.slice none 0 0, .int .i64 0] ∧ Blk w1 (w.heap.size + 1 + 1 + 1) 46 [.int .i64 0, .int .i64 0, .int .u64 0, .int .u64 0] ∧ RowIn .u8 w1 (0) (w.heap.size) A m (pack bs) ∧ Below w.heap.size w w1 := by
        refine ⟨?_, ?_, ?_, ?_, ?_, ?_⟩
        all_goals repeat' (first | (with_reducible assumption) | (with_reducible exact Below.refl _ _) | (with_reducible refine Blk.after ?_ b1) | (with_reducible refine RowIn.belowS ?_ b1) | (with_reducible refine Below.after ?_ b1 ?_) | (with_reducible refine Blk.drewN ?_ _) | (with_reducible refine RowIn.drewN ?_ _) | (with_reducible refine below_drewN ?_ _) | (with_reducible refine Blk.drew ?_) | (with_reducible refine RowIn.drew ?_) | (with_reducible refine Below.drew ?_) | (with_reducible refine Blk.new' ?_ ?_ <;> first | (with_reducible rfl) | (simp; done)) | (with_reducible refine Blk.alloc ?_ _) | (with_reducible refine RowIn.alloc ?_ _) | (with_reducible refine Below.alloc ?_ ?_ _) | (with_reducible apply Blk.set') | (with_reducible apply Blk.far') | (with_reducible refine RowIn.far' ?_ ?_ _) | (with_reducible refine Below.far' ?_ ?_ _) | rfl | omega | go_size)
      clear b1
      have kb_1 := zb_1.cell; have fb_1 := zb_1.frozen; have lb_1 := zb_1.lt
      have kd_1 := zd_1.cell; have fd_1 := zd_1.frozen; have ld_1 := zd_1.lt
      have kr_1 := zr_1.cell; have fr_1 := zr_1.frozen; have lr_1 := zr_1.lt
      have kx_1 := zx_1.cell; have fx_1 := zx_1.frozen; have lx_1 := zx_1.lt
      go_wp2_with fail
      refine (dcheck_ok p0 p1 q0 q1 _ hd).mono ?_
      rintro e w2 ⟨rfl, b2⟩
      have s2 := b2.size
      try simp only [World.size_alloc, World.size_setCell, World.size_drew, size_drewN] at s2
      obtain ⟨zb_2, zd_2, zr_2, zx_2, rb_2, bb_2⟩ : Blk w2 (w.heap.size) 54 [.slice A m c, .int .i64 ((bs.length : Nat) : Int)] ∧ Blk w2 (w.heap.size + 1) 46 [.int .i64 (p0 : Int), .int .i64 (p1 : Int), .int .u64 (q0 : Int), .int .u64 (q1 : Int)] ∧ Blk w2 (w.heap.size + 1 + 1) 54 [.slice none 0 0, .int .i64 0] ∧ Blk w2 (w.heap.size + 1 + 1 + 1) 46 [.int .i64 0, .int .i64 0, .int .u64 0, .int .u64 0] ∧ RowIn .u8 w2 (0) (w.heap.size) A m (pack bs) ∧ Below w.heap.size w w2 := by
        refine ⟨?_, ?_, ?_, ?_, ?_, ?_⟩
        all_goals repeat' (first | (with_reducible assumption) | (with_reducible exact Below.refl _ _) | (with_reducible refine Blk.after ?_ b2) | (with_reducible refine RowIn.belowS ?_ b2) | (with_reducible refine Below.after ?_ b2 ?_) | (with_reducible refine Blk.drewN ?_ _) | (with_reducible refine RowIn.drewN ?_ _) | (with_reducible refine below_drewN ?_ _) | (with_reducible refine Blk.drew ?_) | (with_reducible refine RowIn.drew ?_) | (with_reducible refine Below.drew ?_) | (with_reducible refine Blk.new' ?_ ?_ <;> first | (with_reducible rfl) | (simp; done)) | (with_reducible refine Blk.alloc ?_ _) | (with_reducible refine RowIn.alloc ?_ _) | (with_reducible refine Below.alloc ?_ ?_ _) | (with_reducible apply Blk.set') | (with_reducible apply Blk.far') | (with_reducible refine RowIn.far' ?_ ?_ _) | (with_reducible refine Below.far' ?_ ?_ _) | rfl | omega | go_size)
      clear zb_1 zd_1 zr_1 zx_1 rb_1 bb_1 kb_1 fb_1 lb_1 kd_1 fd_1 ld_1 kr_1 fr_1 lr_1 kx_1 fx_1 lx_1 b2
      have kb_2 := zb_2.cell; have fb_2 := zb_2.frozen; have lb_2 := zb_2.lt
      have kd_2 := zd_2.cell; have fd_2 := zd_2.frozen; have ld_2 := zd_2.lt
      have kr_2 := zr_2.cell; have fr_2 := zr_2.frozen; have lr_2 := zr_2.lt
      have kx_2 := zx_2.cell; have fx_2 := zx_2.frozen; have lx_2 := zx_2.lt
      go_wp2_with fail
      refine (dlevel_low p0 p1 q0 q1 v _ hd0 hv h).mono ?_
      rintro e w3 ⟨rfl, b3⟩
      have s3 := b3.size
      try simp only [World.size_alloc, World.size_setCell, World.size_drew, size_drewN] at s3
      obtain ⟨zb_3, zd_3, zr_3, zx_3, rb_3, bb_3⟩ : Blk w3 (w.heap.size) 54 [.slice A m c, .int .i64 ((bs.length : Nat) : Int)] ∧ Blk w3 (w.heap.size + 1) 46 [.int .i64 (p0 : Int), .int .i64 (p1 : Int), .int .u64 (q0 : Int), .int .u64 (q1 : Int)] ∧ Blk w3 (w.heap.size + 1 + 1) 54 [.slice none 0 0, .int .i64 0] ∧ Blk w3 (w.heap.size + 1 + 1 + 1) 46 [.int .i64 0, .int .i64 0, .int .u64 0, .int .u64 0] ∧ RowIn .u8 w3 (0) (w.heap.size) A m (pack bs) ∧ Below w.heap.size w w3 := by
        refine ⟨?_, ?_, ?_, ?_, ?_, ?_⟩
        all_goals repeat' (first | (with_reducible assumption) | (with_reducible exact Below.refl _ _) | (with_reducible refine Blk.after ?_ b3) | (with_reducible refine RowIn.belowS ?_ b3) | (with_reducible refine Below.after ?_ b3 ?_) | (with_reducible refine Blk.drewN ?_ _) | (with_reducible refine RowIn.drewN ?_ _) | (with_reducible refine below_drewN ?_ _) | (with_reducible refine Blk.drew ?_) | (with_reducible refine RowIn.drew ?_) | (with_reducible refine Below.drew ?_) | (with_reducible refine Blk.new' ?_ ?_ <;> first | (with_reducible rfl) | (simp; done)) | (with_reducible refine Blk.alloc ?_ _) | (with_reducible refine RowIn.alloc ?_ _) | (with_reducible refine Below.alloc ?_ ?_ _) | (with_reducible apply Blk.set') | (with_reducible apply Blk.far') | (with_reducible refine RowIn.far' ?_ ?_ _) | (with_reducible refine Below.far' ?_ ?_ _) | rfl | omega | go_size)
      clear zb_2 zd_2 zr_2 zx_2 rb_2 bb_2 kb_2 fb_2 lb_2 kd_2 fd_2 ld_2 kr_2 fr_2 lr_2 kx_2 fx_2 lx_2 b3
      have kb_3 := zb_3.cell; have fb_3 := zb_3.frozen; have lb_3 := zb_3.lt
      have kd_3 := zd_3.cell; have fd_3 := zd_3.frozen; have ld_3 := zd_3.lt
      have kr_3 := zr_3.cell; have fr_3 := zr_3.frozen; have lr_3 := zr_3.lt
      have kx_3 := zx_3.cell; have fx_3 := zx_3.frozen; have lx_3 := zx_3.lt
      have hw := bput_ret A m c bs (0 : Int) (1 : Int) w3 rb_3.row hc hl (by omega) (by omega)
      rw [HP.out] at hw
      replace hw := Lib.hid hw
      go_wp2_with fail
      refine (hw.out).mono ?_
      rintro e w4 ⟨Az, mz, cz, xz, rfl, hcz, rz, HXz, b4⟩
      have Lz : xz.length ≤ bs.length + 1 ∧ bs.length + 1 ≤ xz.length := by rw [HXz.out]; rw [List.length_append]; simp
      obtain ⟨Lz1, Lz2⟩ := Lz
      replace rz := rz.mono (lo' := w3.heap.size + 0) (by go_size) (Nat.le_refl _)
      have s4 := b4.size
      try simp only [World.size_alloc, World.size_setCell, World.size_drew, size_drewN] at s4
      obtain ⟨zb_4, zd_4, zr_4, zx_4, rb_4, rz_4, bb_4⟩ : Blk w4 (w.heap.size) 54 [.slice A m c, .int .i64 ((bs.length : Nat) : Int)] ∧ Blk w4 (w.heap.size + 1) 46 [.int .i64 (p0 : Int), .int .i64 (p1 : Int), .int .u64 (q0 : Int), .int .u64 (q1 : Int)] ∧ Blk w4 (w.heap.size + 1 + 1) 54 [.slice none 0 0, .int .i64 0] ∧ Blk w4 (w.heap.size + 1 + 1 + 1) 46 [.int .i64 0, .int .i64 0, .int .u64 0, .int .u64 0] ∧ RowIn .u8 w4 (0) (w.heap.size) A m (pack bs) ∧ RowIn .u8 w4 (w3.heap.size + 0) (w4.heap.size) Az mz (pack xz) ∧ Below w.heap.size w w4 := by
        refine ⟨?_, ?_, ?_, ?_, ?_, ?_, ?_⟩
        all_goals repeat' (first | (with_reducible assumption) | (with_reducible exact Below.refl _ _) | (with_reducible refine Blk.after ?_ b4) | (with_reducible refine RowIn.belowS ?_ b4) | (with_reducible refine Below.after ?_ b4 ?_) | (with_reducible refine Blk.drewN ?_ _) | (with_reducible refine RowIn.drewN ?_ _) | (with_reducible refine below_drewN ?_ _) | (with_reducible refine Blk.drew ?_) | (with_reducible refine RowIn.drew ?_) | (with_reducible refine Below.drew ?_) | (with_reducible refine Blk.new' ?_ ?_ <;> first | (with_reducible rfl) | (simp; done)) | (with_reducible refine Blk.alloc ?_ _) | (with_reducible refine RowIn.alloc ?_ _) | (with_reducible refine Below.alloc ?_ ?_ _) | (with_reducible apply Blk.set') | (with_reducible apply Blk.far') | (with_reducible refine RowIn.far' ?_ ?_ _) | (with_reducible refine Below.far' ?_ ?_ _) | rfl | omega | go_size)
      clear zb_3 zd_3 zr_3 zx_3 rb_3 bb_3 kb_3 fb_3 lb_3 kd_3 fd_3 ld_3 kr_3 fr_3 lr_3 kx_3 fx_3 lx_3 b4
      have kb_4 := zb_4.cell; have fb_4 := zb_4.frozen; have lb_4 := zb_4.lt
      have kd_4 := zd_4.cell; have fd_4 := zd_4.frozen; have ld_4 := zd_4.lt
      have kr_4 := zr_4.cell; have fr_4 := zr_4.frozen; have lr_4 := zr_4.lt
      have kx_4 := zx_4.cell; have fx_4 := zx_4.frozen; have lx_4 := zx_4.lt
      clear rz
      clear hw
      have HP2 : Hid (putR xz ((v : Nat) : Int).toNat ((p0 : Nat) : Int) = (xz ++ lowBits v p0, 0)) := by
        unfold putR; rw [if_neg (by omega), if_neg (by rw [Int.toNat_natCast, Int.toNat_natCast]; exact Nat.not_le.2 h), if_neg (by rw [Int.toNat_natCast]; omega)]; exact Lib.hid rfl
      have hw := fun W (hr : Row .u8 W Az mz (pack xz)) => bput_ret Az mz cz xz ((v : Nat) : Int) ((p0 : Nat) : Int) W hr hcz (by omega) (by omega) (by omega)
      rw [HP2.out] at hw
      replace hw := Lib.hid hw
      go_wp2_with fail
      refine (hw.out _ (by exact RowIn.row (lo := w3.heap.size + 0) (hi := w4.heap.size) (by repeat' (first | (with_reducible assumption) | (with_reducible exact Below.refl _ _) | (with_reducible refine Blk.drewN ?_ _) | (with_reducible refine RowIn.drewN ?_ _) | (with_reducible refine below_drewN ?_ _) | (with_reducible refine Blk.drew ?_) | (with_reducible refine RowIn.drew ?_) | (with_reducible refine Below.drew ?_) | (with_reducible refine Blk.new' ?_ ?_ <;> first | (with_reducible rfl) | (simp; done)) | (with_reducible refine Blk.alloc ?_ _) | (with_reducible refine RowIn.alloc ?_ _) | (with_reducible refine Below.alloc ?_ ?_ _) | (with_reducible apply Blk.set') | (with_reducible apply Blk.far') | (with_reducible refine RowIn.far' ?_ ?_ _) | (with_reducible refine Below.far' ?_ ?_ _) | rfl | omega | go_size)))).mono ?_
      rintro e w5 ⟨Aq, mq, cq, xq, rfl, hcq, rq, HXq, b5⟩
      replace rq := rq.mono (lo' := w4.heap.size + 0) (by go_size) (Nat.le_refl _)
      have s5 := b5.size
      try simp only [World.size_alloc, World.size_setCell, World.size_drew, size_drewN] at s5
      obtain ⟨zb_5, zd_5, zr_5, zx_5, rz_5, rq_5, bb_5⟩ : Blk w5 (w.heap.size) 54 [.slice Az mz cz, .int .i64 ((xz.length : Nat) : Int)] ∧ Blk w5 (w.heap.size + 1) 46 [.int .i64 (p0 : Int), .int .i64 (p1 : Int), .int .u64 (q0 : Int), .int .u64 (q1 : Int)] ∧ Blk w5 (w.heap.size + 1 + 1) 54 [.slice none 0 0, .int .i64 0] ∧ Blk w5 (w.heap.size + 1 + 1 + 1) 46 [.int .i64 0, .int .i64 0, .int .u64 0, .int .u64 0] ∧ RowIn .u8 w5 (w3.heap.size + 0) (w4.heap.size) Az mz (pack xz) ∧ RowIn .u8 w5 (w4.heap.size + 0) (w5.heap.size) Aq mq (pack xq) ∧ Below w.heap.size w w5 := by
        refine ⟨?_, ?_, ?_, ?_, ?_, ?_, ?_⟩
        all_goals repeat' (first | (with_reducible assumption) | (with_reducible exact Below.refl _ _) | (with_reducible refine Blk.after ?_ b5) | (with_reducible refine RowIn.belowS ?_ b5) | (with_reducible refine Below.after ?_ b5 ?_) | (with_reducible refine Blk.drewN ?_ _) | (with_reducible refine RowIn.drewN ?_ _) | (with_reducible refine below_drewN ?_ _) | (with_reducible refine Blk.drew ?_) | (with_reducible refine RowIn.drew ?_) | (with_reducible refine Below.drew ?_) | (with_reducible refine Blk.new' ?_ ?_ <;> first | (with_reducible rfl) | (simp; done)) | (with_reducible refine Blk.alloc ?_ _) | (with_reducible refine RowIn.alloc ?_ _) | (with_reducible refine Below.alloc ?_ ?_ _) | (with_reducible apply Blk.set') | (with_reducible apply Blk.far') | (with_reducible refine RowIn.far' ?_ ?_ _) | (with_reducible refine Below.far' ?_ ?_ _) | rfl | omega | go_size)
      clear zb_4 zd_4 zr_4 zx_4 rb_4 rz_4 bb_4 kb_4 fb_4 lb_4 kd_4 fd_4 ld_4 kr_4 fr_4 lr_4 kx_4 fx_4 lx_4 b5
      have kb_5 := zb_5.cell; have fb_5 := zb_5.frozen; have lb_5 := zb_5.lt
      have kd_5 := zd_5.cell; have fd_5 := zd_5.frozen; have ld_5 := zd_5.lt
      have kr_5 := zr_5.cell; have fr_5 := zr_5.frozen; have lr_5 := zr_5.lt
      have kx_5 := zx_5.cell; have fx_5 := zx_5.frozen; have lx_5 := zx_5.lt
      clear rq
      clear hw
      go_wp2_with fail
      obtain ⟨w6, hw6⟩ : ∃ w6, w6 = (w5.setCell ⟨w.heap.size, 0, none⟩ (.slice Aq mq cq)).setCell ⟨w.heap.size, 1, none⟩ (.int .i64 ((xq.length : Nat) : Int)) := ⟨_, rfl⟩
      have s6 : w5.heap.size ≤ w6.heap.size := by rw [hw6]; simp only [World.size_setCell]; exact Nat.le_refl _
      obtain ⟨zb6, zd6, zr6, zx6, rq6, bb6⟩ : Blk w6 w.heap.size 54 [.slice Aq mq cq, .int .i64 ((xq.length : Nat) : Int)] ∧ Blk w6 (w.heap.size + 1) 46 [.int .i64 (p0 : Int), .int .i64 (p1 : Int), .int .u64 (q0 : Int), .int .u64 (q1 : Int)] ∧ Blk w6 (w.heap.size + 1 + 1) 54 [.slice none 0 0, .int .i64 0] ∧ Blk w6 (w.heap.size + 1 + 1 + 1) 46 [.int .i64 0, .int .i64 0, .int .u64 0, .int .u64 0] ∧ RowIn .u8 w6 (w4.heap.size + 0) w5.heap.size Aq mq (pack xq) ∧ Below w.heap.size w w6 := by
        rw [hw6]
        refine ⟨?_, ?_, ?_, ?_, ?_, ?_⟩
        all_goals repeat' (first | (with_reducible assumption) | (with_reducible exact Below.refl _ _) | (with_reducible refine Blk.drewN ?_ _) | (with_reducible refine RowIn.drewN ?_ _) | (with_reducible refine below_drewN ?_ _) | (with_reducible refine Blk.drew ?_) | (with_reducible refine RowIn.drew ?_) | (with_reducible refine Below.drew ?_) | (with_reducible refine Blk.new' ?_ ?_ <;> first | (with_reducible rfl) | (simp; done)) | (with_reducible refine Blk.alloc ?_ _) | (with_reducible refine RowIn.alloc ?_ _) | (with_reducible refine Below.alloc ?_ ?_ _) | (with_reducible apply Blk.set') | (with_reducible apply Blk.far') | (with_reducible refine RowIn.far' ?_ ?_ _) | (with_reducible refine Below.far' ?_ ?_ _) | rfl | omega | go_size)
      rw [← hw6]
      clear hw6
      refine (dlearn_any (w.heap.size + 1) p0 p1 q0 q1 v _ hd hv zd6).mono ?_
      rintro e w9 ⟨u0, u1, v0, v1, rfl, HA, zd9, fr9⟩
      have zb9 := zb6.frm fr9 (by omega)
      have zr9 := zr6.frm fr9 (by omega)
      have zx9 := zx6.frm fr9 (by omega)
      have rq9 := RowIn.frm rq6 fr9 (fun j h1 h2 => by omega)
      have bb9 : Below w.heap.size w w9 := bb6.trans (fr9.below bb6.size (fun k hk h => by omega))
      have s9 := fr9.size
      clear zb_5 zd_5 zr_5 zx_5 rz_5 rq_5 bb_5 kb_5 fb_5 lb_5 kd_5 fd_5 ld_5 kr_5 fr_5 lr_5 kx_5 fx_5 lx_5 zb6 zd6 zr6 zx6 rq6 bb6
      have kb9 := zb9.cell; have lb9 := zb9.lt; have kd9 := zd9.cell; have ld9 := zd9.lt; have kr9 := zr9.cell; have fr9b := zr9.frozen; have lr9 := zr9.lt; have kx9 := zx9.cell; have fx9 := zx9.frozen; have lx9 := zx9.lt
      go_wp2_with fail
      go_region
      all_goals
        go_wp2
        refine bodyPost_ret (v := .tuple #[.agg #[.slice Aq mq cq, .int .i64 ((xq.length : Nat) : Int)], .agg #[.int .i64 (u0 : Int), .int .i64 (u1 : Int), .int .u64 (v0 : Int), .int .u64 (v1 : Int)], .int .i64 0]) (by simp [results, Try.results43, go_sem, kr9, lr9, kx9, lx9]) rfl ?_
        rw [HR.out]
        refine ⟨Aq, mq, cq, xq, u0, u1, v0, v1, rfl, hcq, ?_, ?_, HA, ?_⟩
        · refine RowIn.mono (lo := w4.heap.size + 0) (hi := w5.heap.size) ?_ (by omega) (by go_size)
          repeat' (first | (with_reducible assumption) | (with_reducible exact Below.refl _ _) | (with_reducible refine Blk.drewN ?_ _) | (with_reducible refine RowIn.drewN ?_ _) | (with_reducible refine below_drewN ?_ _) | (with_reducible refine Blk.drew ?_) | (with_reducible refine RowIn.drew ?_) | (with_reducible refine Below.drew ?_) | (with_reducible refine Blk.new' ?_ ?_ <;> first | (with_reducible rfl) | (simp; done)) | (with_reducible refine Blk.alloc ?_ _) | (with_reducible refine RowIn.alloc ?_ _) | (with_reducible refine Below.alloc ?_ ?_ _) | (with_reducible apply Blk.set') | (with_reducible apply Blk.far') | (with_reducible refine RowIn.far' ?_ ?_ _) | (with_reducible refine Below.far' ?_ ?_ _) | rfl | omega | go_size)
        · rw [HXq.out, HXz.out, HCD.out, List.append_assoc]; exact Lib.hid rfl
        · repeat' (first | (with_reducible assumption) | (with_reducible exact Below.refl _ _) | (with_reducible refine Blk.drewN ?_ _) | (with_reducible refine RowIn.drewN ?_ _) | (with_reducible refine below_drewN ?_ _) | (with_reducible refine Blk.drew ?_) | (with_reducible refine RowIn.drew ?_) | (with_reducible refine Below.drew ?_) | (with_reducible refine Blk.new' ?_ ?_ <;> first | (with_reducible rfl) | (simp; done)) | (with_reducible refine Blk.alloc ?_ _) | (with_reducible refine RowIn.alloc ?_ _) | (with_reducible refine Below.alloc ?_ ?_ _) | (with_reducible apply Blk.set') | (with_reducible apply Blk.far') | (with_reducible refine RowIn.far' ?_ ?_ _) | (with_reducible refine Below.far' ?_ ?_ _) | rfl | omega | go_size)
  · have hlen : 1 ≤ lenD ⟨p0, p1, q0, q1⟩ v := by unfold lenD; split <;> omega
    by_cases h0 : 330000 < bs.length + 1
    · have HR : Hid (dwR bs ⟨p0, p1, q0, q1⟩ v = ([], dualZero, 18)) := by unfold dwR; rw [if_pos (by omega)]; exact Lib.hid rfl
      have HP : Hid (putR bs (1 : Int).toNat (1 : Int) = ([], 18)) := by unfold putR; rw [if_neg (by omega), if_neg (by decide), if_pos (by show 330000 < bs.length + 1; omega)]; exact Lib.hid rfl
      go_enter Try.func43, Try.ntmps43
      go_wp2_with fail
      refine (bcheck_ok A m c bs _ (by exact RowIn.row (lo := 0) (hi := w.heap.size) (by repeat' (first | (with_reducible assumption) | (with_reducible exact Below.refl _ _) | (with_reducible refine Blk.drewN ?_ _) | (with_reducible refine RowIn.drewN ?_ _) | (with_reducible refine below_drewN ?_ _) | (with_reducible refine Blk.drew ?_) | (with_reducible refine RowIn.drew ?_) | (with_reducible refine Below.drew ?_) | (with_reducible refine Blk.new' ?_ ?_ <;> first | (with_reducible rfl) | (simp; done)) | (with_reducible refine Blk.alloc ?_ _) | (with_reducible refine RowIn.alloc ?_ _) | (with_reducible refine Below.alloc ?_ ?_ _) | (with_reducible apply Blk.set') | (with_reducible apply Blk.far') | (with_reducible refine RowIn.far' ?_ ?_ _) | (with_reducible refine Below.far' ?_ ?_ _) | rfl | omega | go_size))) (by omega) hl).mono ?_
      rintro e w1 ⟨rfl, b1⟩
      have s1 := b1.size
      try simp only [World.size_alloc, World.size_setCell, World.size_drew, size_drewN] at s1
      obtain ⟨zb_1, zd_1, zr_1, zx_1, rb_1, bb_1⟩ : Blk w1 (w.heap.size) 54 [.slice A m c, .int .i64 ((bs.length : Nat) : Int)] ∧ Blk w1 (w.heap.size + 1) 46 [.int .i64 (p0 : Int), .int .i64 (p1 : Int), .int .u64 (q0 : Int), .int .u64 (q1 : Int)] ∧ Blk w1 (w.heap.size + 1 + 1) 54 [.slice none 0 0, .int .i64 0] ∧ Blk w1 (w.heap.size + 1 + 1 + 1) 46 [.int .i64 0, .int .i64 0, .int .u64 0, .int .u64 0] ∧ RowIn .u8 w1 (0) (w.heap.size) A m (pack bs) ∧ Below w.heap.size w w1 := by
        refine ⟨?_, ?_, ?_, ?_, ?_, ?_⟩
        all_goals repeat' (first | (with_reducible assumption) | (with_reducible exact Below.refl _ _) | (with_reducible refine Blk.after ?_ b1) | (with_reducible refine RowIn.belowS ?_ b1) | (with_reducible refine Below.after ?_ b1 ?_) | (with_reducible refine Blk.drewN ?_ _) | (with_reducible refine RowIn.drewN ?_ _) | (with_reducible refine below_drewN ?_ _) | (with_reducible refine Blk.drew ?_) | (with_reducible refine RowIn.drew ?_) | (with_reducible refine Below.drew ?_) | (with_reducible refine Blk.new' ?_ ?_ <;> first | (with_reducible rfl) | (simp; done)) | (with_reducible refine Blk.alloc ?_ _) | (with_reducible refine RowIn.alloc ?_ _) | (with_reducible refine Below.alloc ?_ ?_ _) | (with_reducible apply Blk.set') | (with_reducible apply Blk.far') | (with_reducible refine RowIn.far' ?_ ?_ _) | (with_reducible refine Below.far' ?_ ?_ _) | rfl | omega | go_size)
      clear b1
      have kb_1 := zb_1.cell; have fb_1 := zb_1.frozen; have lb_1 := zb_1.lt
      have kd_1 := zd_1.cell; have fd_1 := zd_1.frozen; have ld_1 := zd_1.lt
      have kr_1 := zr_1.cell; have fr_1 := zr_1.frozen; have lr_1 := zr_1.lt
      have kx_1 := zx_1.cell; have fx_1 := zx_1.frozen; have lx_1 := zx_1.lt
      go_wp2_with fail
      refine (dcheck_ok p0 p1 q0 q1 _ hd).mono ?_
      rintro e w2 ⟨rfl, b2⟩
      have s2 := b2.size
      try simp only [World.size_alloc, World.size_setCell, World.size_drew, size_drewN] at s2
      obtain ⟨zb_2, zd_2, zr_2, zx_2, rb_2, bb_2⟩ : Blk w2 (w.heap.size) 54 [.slice A m c, .int .i64 ((bs.length : Nat) : Int)] ∧ Blk w2 (w.heap.size + 1) 46 [.int .i64 (p0 : Int), .int .i64 (p1 : Int), .int .u64 (q0 : Int), .int .u64 (q1 : Int)] ∧ Blk w2 (w.heap.size + 1 + 1) 54 [.slice none 0 0, .int .i64 0] ∧ Blk w2 (w.heap.size + 1 + 1 + 1) 46 [.int .i64 0, .int .i64 0, .int .u64 0, .int .u64 0] ∧ RowIn .u8 w2 (0) (w.heap.size) A m (pack bs) ∧ Below w.heap.size w w2 := by
        refine ⟨?_, ?_, ?_, ?_, ?_, ?_⟩
        all_goals repeat' (first | (with_reducible assumption) | (with_reducible exact Below.refl _ _) | (with_reducible refine Blk.after ?_ b2) | (with_reducible refine RowIn.belowS ?_ b2) | (with_reducible refine Below.after ?_ b2 ?_) | (with_reducible refine Blk.drewN ?_ _) | (with_reducible refine RowIn.drewN ?_ _) | (with_reducible refine below_drewN ?_ _) | (with_reducible refine Blk.drew ?_) | (with_reducible refine RowIn.drew ?_) | (with_reducible refine Below.drew ?_) | (with_reducible refine Blk.new' ?_ ?_ <;> first | (with_reducible rfl) | (simp; done)) | (with_reducible refine Blk.alloc ?_ _) | (with_reducible refine RowIn.alloc ?_ _) | (with_reducible refine Below.alloc ?_ ?_ _) | (with_reducible apply Blk.set') | (with_reducible apply Blk.far') | (with_reducible refine RowIn.far' ?_ ?_ _) | (with_reducible refine Below.far' ?_ ?_ _) | rfl | omega | go_size)
      clear zb_1 zd_1 zr_1 zx_1 rb_1 bb_1 kb_1 fb_1 lb_1 kd_1 fd_1 ld_1 kr_1 fr_1 lr_1 kx_1 fx_1 lx_1 b2
      have kb_2 := zb_2.cell; have fb_2 := zb_2.frozen; have lb_2 := zb_2.lt
      have kd_2 := zd_2.cell; have fd_2 := zd_2.frozen; have ld_2 := zd_2.lt
      have kr_2 := zr_2.cell; have fr_2 := zr_2.frozen; have lr_2 := zr_2.lt
      have kx_2 := zx_2.cell; have fx_2 := zx_2.frozen; have lx_2 := zx_2.lt
      go_wp2_with fail
      refine (dlevel_high p0 p1 q0 q1 v _ hd0 hv h).mono ?_
      rintro e w3 ⟨y, rfl, HY, b3⟩
      have s3 := b3.size
      try simp only [World.size_alloc, World.size_setCell, World.size_drew, size_drewN] at s3
      obtain ⟨zb_3, zd_3, zr_3, zx_3, rb_3, bb_3⟩ : Blk w3 (w.heap.size) 54 [.slice A m c, .int .i64 ((bs.length : Nat) : Int)] ∧ Blk w3 (w.heap.size + 1) 46 [.int .i64 (p0 : Int), .int .i64 (p1 : Int), .int .u64 (q0 : Int), .int .u64 (q1 : Int)] ∧ Blk w3 (w.heap.size + 1 + 1) 54 [.slice none 0 0, .int .i64 0] ∧ Blk w3 (w.heap.size + 1 + 1 + 1) 46 [.int .i64 0, .int .i64 0, .int .u64 0, .int .u64 0] ∧ RowIn .u8 w3 (0) (w.heap.size) A m (pack bs) ∧ Below w.heap.size w w3 := by
        refine ⟨?_, ?_, ?_, ?_, ?_, ?_⟩
        all_goals repeat' (first | (with_reducible assumption) | (with_reducible exact Below.refl _ _) | (with_reducible refine Blk.after ?_ b3) | (with_reducible refine RowIn.belowS ?_ b3) | (with_reducible refine Below.after ?_ b3 ?_) | (with_reducible refine Blk.drewN ?_ _) | (with_reducible refine RowIn.drewN ?_ _) | (with_reducible refine below_drewN ?_ _) | (with_reducible refine Blk.drew ?_) | (with_reducible refine RowIn.drew ?_) | (with_reducible refine Below.drew ?_) | (with_reducible refine Blk.new' ?_ ?_ <;> first | (with_reducible rfl) | (simp; done)) | (with_reducible refine Blk.alloc ?_ _) | (with_reducible refine RowIn.alloc ?_ _) | (with_reducible refine Below.alloc ?_ ?_ _) | (with_reducible apply Blk.set') | (with_reducible apply Blk.far') | (with_reducible refine RowIn.far' ?_ ?_ _) | (with_reducible refine Below.far' ?_ ?_ _) | rfl | omega | go_size)
      clear zb_2 zd_2 zr_2 zx_2 rb_2 bb_2 kb_2 fb_2 lb_2 kd_2 fd_2 ld_2 kr_2 fr_2 lr_2 kx_2 fx_2 lx_2 b3
      have kb_3 := zb_3.cell; have fb_3 := zb_3.frozen; have lb_3 := zb_3.lt
      have kd_3 := zd_3.cell; have fd_3 := zd_3.frozen; have ld_3 := zd_3.lt
      have kr_3 := zr_3.cell; have fr_3 := zr_3.frozen; have lr_3 := zr_3.lt
      have kx_3 := zx_3.cell; have fx_3 := zx_3.frozen; have lx_3 := zx_3.lt
      have hy : y < 4294967296 := by rw [HY.out]; exact Nat.lt_of_le_of_lt (Nat.sub_le _ _) hv
      have hw := bput_ret A m c bs (1 : Int) (1 : Int) w3 rb_3.row hc hl (by omega) (by omega)
      rw [HP.out] at hw
      replace hw := Lib.hid hw
      go_wp2_with fail
      refine (hw.out).mono ?_
      rintro e w4 ⟨Az, mz, cz, xz, rfl, hcz, rz, HXz, b4⟩
      replace rz := rz.mono (lo' := w3.heap.size + 0) (by go_size) (Nat.le_refl _)
      have s4 := b4.size
      try simp only [World.size_alloc, World.size_setCell, World.size_drew, size_drewN] at s4
      obtain ⟨zb_4, zd_4, zr_4, zx_4, rb_4, rz_4, bb_4⟩ : Blk w4 (w.heap.size) 54 [.slice A m c, .int .i64 ((bs.length : Nat) : Int)] ∧ Blk w4 (w.heap.size + 1) 46 [.int .i64 (p0 : Int), .int .i64 (p1 : Int), .int .u64 (q0 : Int), .int .u64 (q1 : Int)] ∧ Blk w4 (w.heap.size + 1 + 1) 54 [.slice none 0 0, .int .i64 0] ∧ Blk w4 (w.heap.size + 1 + 1 + 1) 46 [.int .i64 0, .int .i64 0, .int .u64 0, .int .u64 0] ∧ RowIn .u8 w4 (0) (w.heap.size) A m (pack bs) ∧ RowIn .u8 w4 (w3.heap.size + 0) (w4.heap.size) Az mz (pack xz) ∧ Below w.heap.size w w4 := by
        refine ⟨?_, ?_, ?_, ?_, ?_, ?_, ?_⟩
        all_goals repeat' (first | (with_reducible assumption) | (with_reducible exact Below.refl _ _) | (with_reducible refine Blk.after ?_ b4) | (with_reducible refine RowIn.belowS ?_ b4) | (with_reducible refine Below.after ?_ b4 ?_) | (with_reducible refine Blk.drewN ?_ _) | (with_reducible refine RowIn.drewN ?_ _) | (with_reducible refine below_drewN ?_ _) | (with_reducible refine Blk.drew ?_) | (with_reducible refine RowIn.drew ?_) | (with_reducible refine Below.drew ?_) | (with_reducible refine Blk.new' ?_ ?_ <;> first | (with_reducible rfl) | (simp; done)) | (with_reducible refine Blk.alloc ?_ _) | (with_reducible refine RowIn.alloc ?_ _) | (with_reducible refine Below.alloc ?_ ?_ _) | (with_reducible apply Blk.set') | (with_reducible apply Blk.far') | (with_reducible refine RowIn.far' ?_ ?_ _) | (with_reducible refine Below.far' ?_ ?_ _) | rfl | omega | go_size)
      clear zb_3 zd_3 zr_3 zx_3 rb_3 bb_3 kb_3 fb_3 lb_3 kd_3 fd_3 ld_3 kr_3 fr_3 lr_3 kx_3 fx_3 lx_3 b4
      have kb_4 := zb_4.cell; have fb_4 := zb_4.frozen; have lb_4 := zb_4.lt
      have kd_4 := zd_4.cell; have fd_4 := zd_4.frozen; have ld_4 := zd_4.lt
      have kr_4 := zr_4.cell; have fr_4 := zr_4.frozen; have lr_4 := zr_4.lt
      have kx_4 := zx_4.cell; have fx_4 := zx_4.frozen; have lx_4 := zx_4.lt
      clear rz
      clear hw
      go_wp2
      refine bodyPost_ret (v := .tuple #[.agg #[.slice none 0 0, .int .i64 0], .agg #[.int .i64 0, .int .i64 0, .int .u64 0, .int .u64 0], .int .i64 18]) (by simp [results, Try.results43, go_sem, kr_4, lr_4, kx_4, lx_4]) rfl ?_
      rw [HR.out]
      refine ⟨none, 0, 0, [], 0, 0, 0, 0, rfl, ⟨Nat.le_refl _, Nat.zero_le _⟩, RowIn.nil, Lib.hid rfl, Lib.hid rfl, ?_⟩
      repeat' (first | (with_reducible assumption) | (with_reducible exact Below.refl _ _) | (with_reducible refine Blk.drewN ?_ _) | (with_reducible refine RowIn.drewN ?_ _) | (with_reducible refine below_drewN ?_ _) | (with_reducible refine Blk.drew ?_) | (with_reducible refine RowIn.drew ?_) | (with_reducible refine Below.drew ?_) | (with_reducible refine Blk.new' ?_ ?_ <;> first | (with_reducible rfl) | (simp; done)) | (with_reducible refine Blk.alloc ?_ _) | (with_reducible refine RowIn.alloc ?_ _) | (with_reducible refine Below.alloc ?_ ?_ _) | (with_reducible apply Blk.set') | (with_reducible apply Blk.far') | (with_reducible refine RowIn.far' ?_ ?_ _) | (with_reducible refine Below.far' ?_ ?_ _) | rfl | omega | go_size)
    have HP : Hid (putR bs (1 : Int).toNat (1 : Int) = (bs ++ [true], 0)) := by unfold putR; rw [if_neg (by omega), if_neg (by decide), if_neg (by show ¬ 330000 < bs.length + 1; omega)]; exact Lib.hid rfl
    have HLD : Hid (lenD ⟨p0, p1, q0, q1⟩ v = 1 + riceLen (v - 2 ^ p0) p1) := Lib.hid (by unfold lenD; rw [if_neg h])
    have HCD : Hid (codeD ⟨p0, p1, q0, q1⟩ v = true :: rice (v - 2 ^ p0) p1) := Lib.hid (by unfold codeD; rw [if_neg h])
    by_cases h5 : 330000 < bs.length + 1 + riceLen (v - 2 ^ p0) p1
    · have HR : Hid (dwR bs ⟨p0, p1, q0, q1⟩ v = ([], dualZero, 18)) := by unfold dwR; rw [if_pos (by have := HLD.out; omega)]; exact Lib.hid rfl
      go_enter Try.func43, Try.ntmps43
      go_wp2_with fail
      refine (bcheck_ok A m c bs _ (by exact RowIn.row (lo := 0) (hi := w.heap.size) (by repeat' (first | (with_reducible assumption) | (with_reducible exact Below.refl _ _) | (with_reducible refine Blk.drewN ?_ _) | (with_reducible refine RowIn.drewN ?_ _) | (with_reducible refine below_drewN ?_ _) | (with_reducible refine Blk.drew ?_) | (with_reducible refine RowIn.drew ?_) | (with_reducible refine Below.drew ?_) | (with_reducible refine Blk.new' ?_ ?_ <;> first | (with_reducible rfl) | (simp; done)) | (with_reducible refine Blk.alloc ?_ _) | (with_reducible refine RowIn.alloc ?_ _) | (with_reducible refine Below.alloc ?_ ?_ _) | (with_reducible apply Blk.set') | (with_reducible apply Blk.far') | (with_reducible refine RowIn.far' ?_ ?_ _) | (with_reducible refine Below.far' ?_ ?_ _) | rfl | omega | go_size))) (by omega) hl).mono ?_
      rintro e w1 ⟨rfl, b1⟩
      have s1 := b1.size
      try simp only [World.size_alloc, World.size_setCell, World.size_drew, size_drewN] at s1
      obtain ⟨zb_1, zd_1, zr_1, zx_1, rb_1, bb_1⟩ : Blk w1 (w.heap.size) 54 [.slice A m c, .int .i64 ((bs.length : Nat) : Int)] ∧ Blk w1 (w.heap.size + 1) 46 [.int .i64 (p0 : Int), .int .i64 (p1 : Int), .int .u64 (q0 : Int), .int .u64 (q1 : Int)] ∧ Blk w1 (w.heap.size + 1 + 1) 54 [.slice none 0 0, .int .i64 0] ∧ Blk w1 (w.heap.size + 1 + 1 + 1) 46 [.int .i64 0, .int .i64 0, .int .u64 0, .int .u64 0] ∧ RowIn .u8 w1 (0) (w.heap.size) A m (pack bs) ∧ Below w.heap.size w w1 := by
        refine ⟨?_, ?_, ?_, ?_, ?_, ?_⟩
        all_goals repeat' (first | (with_reducible assumption) | (with_reducible exact Below.refl _ _) | (with_reducible refine Blk.after ?_ b1) | (with_reducible refine RowIn.belowS ?_ b1) | (with_reducible refine Below.after ?_ b1 ?_) | (with_reducible refine Blk.drewN ?_ _) | (with_reducible refine RowIn.drewN ?_ _) | (with_reducible refine below_drewN ?_ _) | (with_reducible refine Blk.drew ?_) | (with_reducible refine RowIn.drew ?_) | (with_reducible refine Below.drew ?_) | (with_reducible refine Blk.new' ?_ ?_ <;> first | (with_reducible rfl) | (simp; done)) | (with_reducible refine Blk.alloc ?_ _) | (with_reducible refine RowIn.alloc ?_ _) | (with_reducible refine Below.alloc ?_ ?_ _) | (with_reducible apply Blk.set') | (with_reducible apply Blk.far') | (with_reducible refine RowIn.far' ?_ ?_ _) | (with_reducible refine Below.far' ?_ ?_ _) | rfl | omega | go_size)
      clear b1
      have kb_1 := zb_1.cell; have fb_1 := zb_1.frozen; have lb_1 := zb_1.lt
      have kd_1 := zd_1.cell; have fd_1 := zd_1.frozen; have ld_1 := zd_1.lt
      have kr_1 := zr_1.cell; have fr_1 := zr_1.frozen; have lr_1 := zr_1.lt
      have kx_1 := zx_1.cell; have fx_1 := zx_1.frozen; have lx_1 := zx_1.lt
      go_wp2_with fail
      refine (dcheck_ok p0 p1 q0 q1 _ hd).mono ?_
      rintro e w2 ⟨rfl, b2⟩
      have s2 := b2.size
      try simp only [World.size_alloc, World.size_setCell, World.size_drew, size_drewN] at s2
      obtain ⟨zb_2, zd_2, zr_2, zx_2, rb_2, bb_2⟩ : Blk w2 (w.heap.size) 54 [.slice A m c, .int .i64 ((bs.length : Nat) : Int)] ∧ Blk w2 (w.heap.size + 1) 46 [.int .i64 (p0 : Int), .int .i64 (p1 : Int), .int .u64 (q0 : Int), .int .u64 (q1 : Int)] ∧ Blk w2 (w.heap.size + 1 + 1) 54 [.slice none 0 0, .int .i64 0] ∧ Blk w2 (w.heap.size + 1 + 1 + 1) 46 [.int .i64 0, .int .i64 0, .int .u64 0, .int .u64 0] ∧ RowIn .u8 w2 (0) (w.heap.size) A m (pack bs) ∧ Below w.heap.size w w2 := by
        refine ⟨?_, ?_, ?_, ?_, ?_, ?_⟩
        all_goals repeat' (first | (with_reducible assumption) | (with_reducible exact Below.refl _ _) | (with_reducible refine Blk.after ?_ b2) | (with_reducible refine RowIn.belowS ?_ b2) | (with_reducible refine Below.after ?_ b2 ?_) | (with_reducible refine Blk.drewN ?_ _) | (with_reducible refine RowIn.drewN ?_ _) | (with_reducible refine below_drewN ?_ _) | (with_reducible refine Blk.drew ?_) | (with_reducible refine RowIn.drew ?_) | (with_reducible refine Below.drew ?_) | (with_reducible refine Blk.new' ?_ ?_ <;> first | (with_reducible rfl) | (simp; done)) | (with_reducible refine Blk.alloc ?_ _) | (with_reducible refine RowIn.alloc ?_ _) | (with_reducible refine Below.alloc ?_ ?_ _) | (with_reducible apply Blk.set') | (with_reducible apply Blk.far') | (with_reducible refine RowIn.far' ?_ ?_ _) | (with_reducible refine Below.far' ?_ ?_ _) | rfl | omega | go_size)
      clear zb_1 zd_1 zr_1 zx_1 rb_1 bb_1 kb_1 fb_1 lb_1 kd_1 fd_1 ld_1 kr_1 fr_1 lr_1 kx_1 fx_1 lx_1 b2
      have kb_2 := zb_2.cell; have fb_2 := zb_2.frozen; have lb_2 := zb_2.lt
      have kd_2 := zd_2.cell; have fd_2 := zd_2.frozen; have ld_2 := zd_2.lt
      have kr_2 := zr_2.cell; have fr_2 := zr_2.frozen; have lr_2 := zr_2.lt
      have kx_2 := zx_2.cell; have fx_2 := zx_2.frozen; have lx_2 := zx_2.lt
      go_wp2_with fail
      refine (dlevel_high p0 p1 q0 q1 v _ hd0 hv h).mono ?_
      rintro e w3 ⟨y, rfl, HY, b3⟩
      have s3 := b3.size
      try simp only [World.size_alloc, World.size_setCell, World.size_drew, size_drewN] at s3
      obtain ⟨zb_3, zd_3, zr_3, zx_3, rb_3, bb_3⟩ : Blk w3 (w.heap.size) 54 [.slice A m c, .int .i64 ((bs.length : Nat) : Int)] ∧ Blk w3 (w.heap.size + 1) 46 [.int .i64 (p0 : Int), .int .i64 (p1 : Int), .int .u64 (q0 : Int), .int .u64 (q1 : Int)] ∧ Blk w3 (w.heap.size + 1 + 1) 54 [.slice none 0 0, .int .i64 0] ∧ Blk w3 (w.heap.size + 1 + 1 + 1) 46 [.int .i64 0, .int .i64 0, .int .u64 0, .int .u64 0] ∧ RowIn .u8 w3 (0) (w.heap.size) A m (pack bs) ∧ Below w.heap.size w w3 := by
        refine ⟨?_, ?_, ?_, ?_, ?_, ?_⟩
        all_goals repeat' (first | (with_reducible assumption) | (with_reducible exact Below.refl _ _) | (with_reducible refine Blk.after ?_ b3) | (with_reducible refine RowIn.belowS ?_ b3) | (with_reducible refine Below.after ?_ b3 ?_) | (with_reducible refine Blk.drewN ?_ _) | (with_reducible refine RowIn.drewN ?_ _) | (with_reducible refine below_drewN ?_ _) | (with_reducible refine Blk.drew ?_) | (with_reducible refine RowIn.drew ?_) | (with_reducible refine Below.drew ?_) | (with_reducible refine Blk.new' ?_ ?_ <;> first | (with_reducible rfl) | (simp; done)) | (with_reducible refine Blk.alloc ?_ _) | (with_reducible refine RowIn.alloc ?_ _) | (with_reducible refine Below.alloc ?_ ?_ _) | (with_reducible apply Blk.set') | (with_reducible apply Blk.far') | (with_reducible refine RowIn.far' ?_ ?_ _) | (with_reducible refine Below.far' ?_ ?_ _) | rfl | omega | go_size)
      clear zb_2 zd_2 zr_2 zx_2 rb_2 bb_2 kb_2 fb_2 lb_2 kd_2 fd_2 ld_2 kr_2 fr_2 lr_2 kx_2 fx_2 lx_2 b3
      have kb_3 := zb_3.cell; have fb_3 := zb_3.frozen; have lb_3 := zb_3.lt
      have kd_3 := zd_3.cell; have fd_3 := zd_3.frozen; have ld_3 := zd_3.lt
      have kr_3 := zr_3.cell; have fr_3 := zr_3.frozen; have lr_3 := zr_3.lt
      have kx_3 := zx_3.cell; have fx_3 := zx_3.frozen; have lx_3 := zx_3.lt
      have hy : y < 4294967296 := by rw [HY.out]; exact Nat.lt_of_le_of_lt (Nat.sub_le _ _) hv
      have hw := bput_ret A m c bs (1 : Int) (1 : Int) w3 rb_3.row hc hl (by omega) (by omega)
      rw [HP.out] at hw
      replace hw := Lib.hid hw
      go_wp2_with fail
      refine (hw.out).mono ?_
      rintro e w4 ⟨Az, mz, cz, xz, rfl, hcz, rz, HXz, b4⟩
      have Lz : xz.length ≤ bs.length + 1 ∧ bs.length + 1 ≤ xz.length := by rw [HXz.out]; rw [List.length_append]; simp
      obtain ⟨Lz1, Lz2⟩ := Lz
      replace rz := rz.mono (lo' := w3.heap.size + 0) (by go_size) (Nat.le_refl _)
      have s4 := b4.size
      try simp only [World.size_alloc, World.size_setCell, World.size_drew, size_drewN] at s4
      obtain ⟨zb_4, zd_4, zr_4, zx_4, rb_4, rz_4, bb_4⟩ : Blk w4 (w.heap.size) 54 [.slice A m c, .int .i64 ((bs.length : Nat) : Int)] ∧ Blk w4 (w.heap.size + 1) 46 [.int .i64 (p0 : Int), .int .i64 (p1 : Int), .int .u64 (q0 : Int), .int .u64 (q1 : Int)] ∧ Blk w4 (w.heap.size + 1 + 1) 54 [.slice none 0 0, .int .i64 0] ∧ Blk w4 (w.heap.size + 1 + 1 + 1) 46 [.int .i64 0, .int .i64 0, .int .u64 0, .int .u64 0] ∧ RowIn .u8 w4 (0) (w.heap.size) A m (pack bs) ∧ RowIn .u8 w4 (w3.heap.size + 0) (w4.heap.size) Az mz (pack xz) ∧ Below w.heap.size w w4 := by
        refine ⟨?_, ?_, ?_, ?_, ?_, ?_, ?_⟩
        all_goals repeat' (first | (with_reducible assumption) | (with_reducible exact Below.refl _ _) | (with_reducible refine Blk.after ?_ b4) | (with_reducible refine RowIn.belowS ?_ b4) | (with_reducible refine Below.after ?_ b4 ?_) | (with_reducible refine Blk.drewN ?_ _) | (with_reducible refine RowIn.drewN ?_ _) | (with_reducible refine below_drewN ?_ _) | (with_reducible refine Blk.drew ?_) | (with_reducible refine RowIn.drew ?_) | (with_reducible refine Below.drew ?_) | (with_reducible refine Blk.new' ?_ ?_ <;> first | (with_reducible rfl) | (simp; done)) | (with_reducible refine Blk.alloc ?_ _) | (with_reducible refine RowIn.alloc ?_ _) | (with_reducible refine Below.alloc ?_ ?_ _) | (with_reducible apply Blk.set') | (with_reducible apply Blk.far') | (with_reducible refine RowIn.far' ?_ ?_ _) | (with_reducible refine Below.far' ?_ ?_ _) | rfl | omega | go_size)
      clear zb_3 zd_3 zr_3 zx_3 rb_3 bb_3 kb_3 fb_3 lb_3 kd_3 fd_3 ld_3 kr_3 fr_3 lr_3 kx_3 fx_3 lx_3 b4
      have kb_4 := zb_4.cell; have fb_4 := zb_4.frozen; have lb_4 := zb_4.lt
      have kd_4 := zd_4.cell; have fd_4 := zd_4.frozen; have ld_4 := zd_4.lt
      have kr_4 := zr_4.cell; have fr_4 := zr_4.frozen; have lr_4 := zr_4.lt
      have kx_4 := zx_4.cell; have fx_4 := zx_4.frozen; have lx_4 := zx_4.lt
      clear rz
      clear hw
      rw [← HY.out] at h5
      have HP2 : Hid (rwR xz y ((p1 : Nat) : Int) = ([], 18)) := by
        unfold rwR; rw [if_neg (by omega), if_pos (by rw [Int.toNat_natCast]; omega)]; exact Lib.hid rfl
      have hw := fun W (hr : Row .u8 W Az mz (pack xz)) => rwrite_ret Az mz cz xz y ((p1 : Nat) : Int) W hr hcz (by omega) hy (by omega)
      rw [HP2.out] at hw
      replace hw := Lib.hid hw
      go_wp2_with fail
      refine (hw.out _ (by exact RowIn.row (lo := w3.heap.size + 0) (hi := w4.heap.size) (by repeat' (first | (with_reducible assumption) | (with_reducible exact Below.refl _ _) | (with_reducible refine Blk.drewN ?_ _) | (with_reducible refine RowIn.drewN ?_ _) | (with_reducible refine below_drewN ?_ _) | (with_reducible refine Blk.drew ?_) | (with_reducible refine RowIn.drew ?_) | (with_reducible refine Below.drew ?_) | (with_reducible refine Blk.new' ?_ ?_ <;> first | (with_reducible rfl) | (simp; done)) | (with_reducible refine Blk.alloc ?_ _) | (with_reducible refine RowIn.alloc ?_ _) | (with_reducible refine Below.alloc ?_ ?_ _) | (with_reducible apply Blk.set') | (with_reducible apply Blk.far') | (with_reducible refine RowIn.far' ?_ ?_ _) | (with_reducible refine Below.far' ?_ ?_ _) | rfl | omega | go_size)))).mono ?_
      rintro e w5 ⟨Aq, mq, cq, xq, rfl, hcq, rq, HXq, b5⟩
      replace rq := rq.mono (lo' := w4.heap.size + 0) (by go_size) (Nat.le_refl _)
      have s5 := b5.size
      try simp only [World.size_alloc, World.size_setCell, World.size_drew, size_drewN] at s5
      obtain ⟨zb_5, zd_5, zr_5, zx_5, rz_5, rq_5, bb_5⟩ : Blk w5 (w.heap.size) 54 [.slice Az mz cz, .int .i64 ((xz.length : Nat) : Int)] ∧ Blk w5 (w.heap.size + 1) 46 [.int .i64 (p0 : Int), .int .i64 (p1 : Int), .int .u64 (q0 : Int), .int .u64 (q1 : Int)] ∧ Blk w5 (w.heap.size + 1 + 1) 54 [.slice none 0 0, .int .i64 0] ∧ Blk w5 (w.heap.size + 1 + 1 + 1) 46 [.int .i64 0, .int .i64 0, .int .u64 0, .int .u64 0] ∧ RowIn .u8 w5 (w3.heap.size + 0) (w4.heap.size) Az mz (pack xz) ∧ RowIn .u8 w5 (w4.heap.size + 0) (w5.heap.size) Aq mq (pack xq) ∧ Below w.heap.size w w5 := by
        refine ⟨?_, ?_, ?_, ?_, ?_, ?_, ?_⟩
        all_goals repeat' (first | (with_reducible assumption) | (with_reducible exact Below.refl _ _) | (with_reducible refine Blk.after ?_ b5) | (with_reducible refine RowIn.belowS ?_ b5) | (with_reducible refine Below.after ?_ b5 ?_) | (with_reducible refine Blk.drewN ?_ _) | (with_reducible refine RowIn.drewN ?_ _) | (with_reducible refine below_drewN ?_ _) | (with_reducible refine Blk.drew ?_) | (with_reducible refine RowIn.drew ?_) | (with_reducible refine Below.drew ?_) | (with_reducible refine Blk.new' ?_ ?_ <;> first | (with_reducible rfl) | (simp; done)) | (with_reducible refine Blk.alloc ?_ _) | (with_reducible refine RowIn.alloc ?_ _) | (with_reducible refine Below.alloc ?_ ?_ _) | (with_reducible apply Blk.set') | (with_reducible apply Blk.far') | (with_reducible refine RowIn.far' ?_ ?_ _) | (with_reducible refine Below.far' ?_ ?_ _) | rfl | omega | go_size)
      clear zb_4 zd_4 zr_4 zx_4 rb_4 rz_4 bb_4 kb_4 fb_4 lb_4 kd_4 fd_4 ld_4 kr_4 fr_4 lr_4 kx_4 fx_4 lx_4 b5
      have kb_5 := zb_5.cell; have fb_5 := zb_5.frozen; have lb_5 := zb_5.lt
      have kd_5 := zd_5.cell; have fd_5 := zd_5.frozen; have ld_5 := zd_5.lt
      have kr_5 := zr_5.cell; have fr_5 := zr_5.frozen; have lr_5 := zr_5.lt
      have kx_5 := zx_5.cell; have fx_5 := zx_5.frozen; have lx_5 := zx_5.lt
      clear rq
      clear hw
      go_wp2
      refine bodyPost_ret (v := .tuple #[.agg #[.slice none 0 0, .int .i64 0], .agg #[.int .i64 0, .int .i64 0, .int .u64 0, .int .u64 0], .int .i64 18]) (by simp [results, Try.results43, go_sem, kr_5, lr_5, kx_5, lx_5]) rfl ?_
      rw [HR.out]
      refine ⟨none, 0, 0, [], 0, 0, 0, 0, rfl, ⟨Nat.le_refl _, Nat.zero_le _⟩, RowIn.nil, Lib.hid rfl, Lib.hid rfl, ?_⟩
      repeat' (first | (with_reducible assumption) | (with_reducible exact Below.refl _ _) | (with_reducible refine Blk.drewN ?_ _) | (with_reducible refine RowIn.drewN ?_ _) | (with_reducible refine below_drewN ?_ _) | (with_reducible refine Blk.drew ?_) | (with_reducible refine RowIn.drew ?_) | (with_reducible refine Below.drew ?_) | (with_reducible refine Blk.new' ?_ ?_ <;> first | (with_reducible rfl) | (simp; done)) | (with_reducible refine Blk.alloc ?_ _) | (with_reducible refine RowIn.alloc ?_ _) | (with_reducible refine Below.alloc ?_ ?_ _) | (with_reducible apply Blk.set') | (with_reducible apply Blk.far') | (with_reducible refine RowIn.far' ?_ ?_ _) | (with_reducible refine Below.far' ?_ ?_ _) | rfl | omega | go_size)
    · have HR : Hid (dwR bs ⟨p0, p1, q0, q1⟩ v = (bs ++ codeD ⟨p0, p1, q0, q1⟩ v, learn ⟨p0, p1, q0, q1⟩ v, 0)) := by unfold dwR; rw [if_neg (by have := HLD.out; omega)]; exact Lib.hid rfl
      go_enter Try.func43, Try.ntmps43
      go_wp2_with fail
      refine (bcheck_ok A m c bs _ (by exact RowIn.row (lo := 0) (hi := w.heap.size) (by repeat' (first | (with_reducible assumption) | (with_reducible exact Below.refl _ _) | (with_reducible refine Blk.drewN ?_ _) | (with_reducible refine RowIn.drewN ?_ _) | (with_reducible refine below_drewN ?_ _) | (with_reducible refine Blk.drew ?_) | (with_reducible refine RowIn.drew ?_) | (with_reducible refine Below.drew ?_) | (with_reducible refine Blk.new' ?_ ?_ <;> first | (with_reducible rfl) | (simp; done)) | (with_reducible refine Blk.alloc ?_ _) | (with_reducible refine RowIn.alloc ?_ _) | (with_reducible refine Below.alloc ?_ ?_ _) | (with_reducible apply Blk.set') | (with_reducible apply Blk.far') | (with_reducible refine RowIn.far' ?_ ?_ _) | (with_reducible refine Below.far' ?_ ?_ _) | rfl | omega | go_size))) (by omega) hl).mono ?_
      rintro e w1 ⟨rfl, b1⟩
      have s1 := b1.size
      try simp only [World.size_alloc, World.size_setCell, World.size_drew, size_drewN] at s1
      obtain ⟨zb_1, zd_1, zr_1, zx_1, rb_1, bb_1⟩ : Blk w1 (w.heap.size) 54 [.slice A m c, .int .i64 ((bs.length : Nat) : Int)] ∧ Blk w1 (w.heap.size + 1) 46 [.int .i64 (p0 : Int), .int .i64 (p1 : Int), .int .u64 (q0 : Int), .int .u64 (q1 : Int)] ∧ Blk w1 (w.heap.size + 1 + 1) 54 [.slice none 0 0, .int .i64 0] ∧ Blk w1 (w.heap.size + 1 + 1 + 1) 46 [.int .i64 0, .int .i64 0, .int .u64 0, .int .u64 0] ∧ RowIn .u8 w1 (0) (w.heap.size) A m (pack bs) ∧ Below w.heap.size w w1 := by
        refine ⟨?_, ?_, ?_, ?_, ?_, ?_⟩
        all_goals repeat' (first | (with_reducible assumption) | (with_reducible exact Below.refl _ _) | (with_reducible refine Blk.after ?_ b1) | (with_reducible refine RowIn.belowS ?_ b1) | (with_reducible refine Below.after ?_ b1 ?_) | (with_reducible refine Blk.drewN ?_ _) | (with_reducible refine RowIn.drewN ?_ _) | (with_reducible refine below_drewN ?_ _) | (with_reducible refine Blk.drew ?_) | (with_reducible refine RowIn.drew ?_) | (with_reducible refine Below.drew ?_) | (with_reducible refine Blk.new' ?_ ?_ <;> first | (with_reducible rfl) | (simp; done)) | (with_reducible refine Blk.alloc ?_ _) | (with_reducible refine RowIn.alloc ?_ _) | (with_reducible refine Below.alloc ?_ ?_ _) | (with_reducible apply Blk.set') | (with_reducible apply Blk.far') | (with_reducible refine RowIn.far' ?_ ?_ _) | (with_reducible refine Below.far' ?_ ?_ _) | rfl | omega | go_size)
      clear b1
      have kb_1 := zb_1.cell; have fb_1 := zb_1.frozen; have lb_1 := zb_1.lt
      have kd_1 := zd_1.cell; have fd_1 := zd_1.frozen; have ld_1 := zd_1.lt
      have kr_1 := zr_1.cell; have fr_1 := zr_1.frozen; have lr_1 := zr_1.lt
      have kx_1 := zx_1.cell; have fx_1 := zx_1.frozen; have lx_1 := zx_1.lt
      go_wp2_with fail
      refine (dcheck_ok p0 p1 q0 q1 _ hd).mono ?_
      rintro e w2 ⟨rfl, b2⟩
      have s2 := b2.size
      try simp only [World.size_alloc, World.size_setCell, World.size_drew, size_drewN] at s2
      obtain ⟨zb_2, zd_2, zr_2, zx_2, rb_2, bb_2⟩ : Blk w2 (w.heap.size) 54 [.slice A m c, .int .i64 ((bs.length : Nat) : Int)] ∧ Blk w2 (w.heap.size + 1) 46 [.int .i64 (p0 : Int), .int .i64 (p1 : Int), .int .u64 (q0 : Int), .int .u64 (q1 : Int)] ∧ Blk w2 (w.heap.size + 1 + 1) 54 [.slice none 0 0, .int .i64 0] ∧ Blk w2 (w.heap.size + 1 + 1 + 1) 46 [.int .i64 0, .int .i64 0, .int .u64 0, .int .u64 0] ∧ RowIn .u8 w2 (0) (w.heap.size) A m (pack bs) ∧ Below w.heap.size w w2 := by
        refine ⟨?_, ?_, ?_, ?_, ?_, ?_⟩
        all_goals repeat' (first | (with_reducible assumption) | (with_reducible exact Below.refl _ _) | (with_reducible refine Blk.after ?_ b2) | (with_reducible refine RowIn.belowS ?_ b2) | (with_reducible refine Below.after ?_ b2 ?_) | (with_reducible refine Blk.drewN ?_ _) | (with_reducible refine RowIn.drewN ?_ _) | (with_reducible refine below_drewN ?_ _) | (with_reducible refine Blk.drew ?_) | (with_reducible refine RowIn.drew ?_) | (with_reducible refine Below.drew ?_) | (with_reducible refine Blk.new' ?_ ?_ <;> first | (with_reducible rfl) | (simp; done)) | (with_reducible refine Blk.alloc ?_ _) | (with_reducible refine RowIn.alloc ?_ _) | (with_reducible refine Below.alloc ?_ ?_ _) | (with_reducible apply Blk.set') | (with_reducible apply Blk.far') | (with_reducible refine RowIn.far' ?_ ?_ _) | (with_reducible refine Below.far' ?_ ?_ _) | rfl | omega | go_size)
      clear zb_1 zd_1 zr_1 zx_1 rb_1 bb_1 kb_1 fb_1 lb_1 kd_1 fd_1 ld_1 kr_1 fr_1 lr_1 kx_1 fx_1 lx_1 b2
      have kb_2 := zb_2.cell; have fb_2 := zb_2.frozen; have lb_2 := zb_2.lt
      have kd_2 := zd_2.cell; have fd_2 := zd_2.frozen; have ld_2 := zd_2.lt
      have kr_2 := zr_2.cell; have fr_2 := zr_2.frozen; have lr_2 := zr_2.lt
      have kx_2 := zx_2.cell; have fx_2 := zx_2.frozen; have lx_2 := zx_2.lt
      go_wp2_with fail
      refine (dlevel_high p0 p1 q0 q1 v _ hd0 hv h).mono ?_
      rintro e w3 ⟨y, rfl, HY, b3⟩
      have s3 := b3.size
      try simp only [World.size_alloc, World.size_setCell, World.size_drew, size_drewN] at s3
      obtain ⟨zb_3, zd_3, zr_3, zx_3, rb_3, bb_3⟩ : Blk w3 (w.heap.size) 54 [.slice A m c, .int .i64 ((bs.length : Nat) : Int)] ∧ Blk w3 (w.heap.size + 1) 46 [.int .i64 (p0 : Int), .int .i64 (p1 : Int), .int .u64 (q0 : Int), .int .u64 (q1 : Int)] ∧ Blk w3 (w.heap.size + 1 + 1) 54 [.slice none 0 0, .int .i64 0] ∧ Blk w3 (w.heap.size + 1 + 1 + 1) 46 [.int .i64 0, .int .i64 0, .int .u64 0, .int .u64 0] ∧ RowIn .u8 w3 (0) (w.heap.size) A m (pack bs) ∧ Below w.heap.size w w3 := by
        refine ⟨?_, ?_, ?_, ?_, ?_, ?_⟩
        all_goals repeat' (first | (with_reducible assumption) | (with_reducible exact Below.refl _ _) | (with_reducible refine Blk.after ?_ b3) | (with_reducible refine RowIn.belowS ?_ b3) | (with_reducible refine Below.after ?_ b3 ?_) | (with_reducible refine Blk.drewN ?_ _) | (with_reducible refine RowIn.drewN ?_ _) | (with_reducible refine below_drewN ?_ _) | (with_reducible refine Blk.drew ?_) | (with_reducible refine RowIn.drew ?_) | (with_reducible refine Below.drew ?_) | (with_reducible refine Blk.new' ?_ ?_ <;> first | (with_reducible rfl) | (simp; done)) | (with_reducible refine Blk.alloc ?_ _) | (with_reducible refine RowIn.alloc ?_ _) | (with_reducible refine Below.alloc ?_ ?_ _) | (with_reducible apply Blk.set') | (with_reducible apply Blk.far') | (with_reducible refine RowIn.far' ?_ ?_ _) | (with_reducible refine Below.far' ?_ ?_ _) | rfl | omega | go_size)
      clear zb_2 zd_2 zr_2 zx_2 rb_2 bb_2 kb_2 fb_2 lb_2 kd_2 fd_2 ld_2 kr_2 fr_2 lr_2 kx_2 fx_2 lx_2 b3
      have kb_3 := zb_3.cell; have fb_3 := zb_3.frozen; have lb_3 := zb_3.lt
      have kd_3 := zd_3.cell; have fd_3 := zd_3.frozen; have ld_3 := zd_3.lt
      have kr_3 := zr_3.cell; have fr_3 := zr_3.frozen; have lr_3 := zr_3.lt
      have kx_3 := zx_3.cell; have fx_3 := zx_3.frozen; have lx_3 := zx_3.lt
      have hy : y < 4294967296 := by rw [HY.out]; exact Nat.lt_of_le_of_lt (Nat.sub_le _ _) hv
      have hw := bput_ret A m c bs (1 : Int) (1 : Int) w3 rb_3.row hc hl (by omega) (by omega)
      rw [HP.out] at hw
      replace hw := Lib.hid hw
      go_wp2_with fail
      refine (hw.out).mono ?_
      rintro e w4 ⟨Az, mz, cz, xz, rfl, hcz, rz, HXz, b4⟩
      have Lz : xz.length ≤ bs.length + 1 ∧ bs.length + 1 ≤ xz.length := by rw [HXz.out]; rw [List.length_append]; simp
      obtain ⟨Lz1, Lz2⟩ := Lz
      replace rz := rz.mono (lo' := w3.heap.size + 0) (by go_size) (Nat.le_refl _)
      have s4 := b4.size
      try simp only [World.size_alloc, World.size_setCell, World.size_drew, size_drewN] at s4
      obtain ⟨zb_4, zd_4, zr_4, zx_4, rb_4, rz_4, bb_4⟩ : Blk w4 (w.heap.size) 54 [.slice A m c, .int .i64 ((bs.length : Nat) : Int)] ∧ Blk w4 (w.heap.size + 1) 46 [.int .i64 (p0 : Int), .int .i64 (p1 : Int), .int .u64 (q0 : Int), .int .u64 (q1 : Int)] ∧ Blk w4 (w.heap.size + 1 + 1) 54 [.slice none 0 0, .int .i64 0] ∧ Blk w4 (w.heap.size + 1 + 1 + 1) 46 [.int .i64 0, .int .i64 0, .int .u64 0, .int .u64 0] ∧ RowIn .u8 w4 (0) (w.heap.size) A m (pack bs) ∧ RowIn .u8 w4 (w3.heap.size + 0) (w4.heap.size) Az mz (pack xz) ∧ Below w.heap.size w w4 := by
        refine ⟨?_, ?_, ?_, ?_, ?_, ?_, ?_⟩
        all_goals repeat' (first | (with_reducible assumption) | (with_reducible exact Below.refl _ _) | (with_reducible refine Blk.after ?_ b4) | (with_reducible refine RowIn.belowS ?_ b4) | (with_reducible refine Below.after ?_ b4 ?_) | (with_reducible refine Blk.drewN ?_ _) | (with_reducible refine RowIn.drewN ?_ _) | (with_reducible refine below_drewN ?_ _) | (with_reducible refine Blk.drew ?_) | (with_reducible refine RowIn.drew ?_) | (with_reducible refine Below.drew ?_) | (with_reducible refine Blk.new' ?_ ?_ <;> first | (with_reducible rfl) | (simp; done)) | (with_reducible refine Blk.alloc ?_ _) | (with_reducible refine RowIn.alloc ?_ _) | (with_reducible refine Below.alloc ?_ ?_ _) | (with_reducible apply Blk.set') | (with_reducible apply Blk.far') | (with_reducible refine RowIn.far' ?_ ?_ _) | (with_reducible refine Below.far' ?_ ?_ _) | rfl | omega | go_size)
      clear zb_3 zd_3 zr_3 zx_3 rb_3 bb_3 kb_3 fb_3 lb_3 kd_3 fd_3 ld_3 kr_3 fr_3 lr_3 kx_3 fx_3 lx_3 b4
      have kb_4 := zb_4.cell; have fb_4 := zb_4.frozen; have lb_4 := zb_4.lt
      have kd_4 := zd_4.cell; have fd_4 := zd_4.frozen; have ld_4 := zd_4.lt
      have kr_4 := zr_4.cell; have fr_4 := zr_4.frozen; have lr_4 := zr_4.lt
      have kx_4 := zx_4.cell; have fx_4 := zx_4.frozen; have lx_4 := zx_4.lt
      clear rz
      clear hw
      rw [← HY.out] at h5
      have HP2 : Hid (rwR xz y ((p1 : Nat) : Int) = (xz ++ rice y p1, 0)) := by
        unfold rwR; rw [if_neg (by omega), if_neg (by rw [Int.toNat_natCast]; omega)]; exact Lib.hid rfl
      have hw := fun W (hr : Row .u8 W Az mz (pack xz)) => rwrite_ret Az mz cz xz y ((p1 : Nat) : Int) W hr hcz (by omega) hy (by omega)
      rw [HP2.out] at hw
      replace hw := Lib.hid hw
      go_wp2_with fail
      refine (hw.out _ (by exact RowIn.row (lo := w3.heap.size + 0) (hi := w4.heap.size) (by repeat' (first | (with_reducible assumption) | (with_reducible exact Below.refl _ _) | (with_reducible refine Blk.drewN ?_ _) | (with_reducible refine RowIn.drewN ?_ _) | (with_reducible refine below_drewN ?_ _) | (with_reducible refine Blk.drew ?_) | (with_reducible refine RowIn.drew ?_) | (with_reducible refine Below.drew ?_) | (with_reducible refine Blk.new' ?_ ?_ <;> first | (with_reducible rfl) | (simp; done)) | (with_reducible refine Blk.alloc ?_ _) | (with_reducible refine RowIn.alloc ?_ _) | (with_reducible refine Below.alloc ?_ ?_ _) | (with_reducible apply Blk.set') | (with_reducible apply Blk.far') | (with_reducible refine RowIn.far' ?_ ?_ _) | (with_reducible refine Below.far' ?_ ?_ _) | rfl | omega | go_size)))).mono ?_
      rintro e w5 ⟨Aq, mq, cq, xq, rfl, hcq, rq, HXq, b5⟩
      replace rq := rq.mono (lo' := w4.heap.size + 0) (by go_size) (Nat.le_refl _)
      have s5 := b5.size
      try simp only [World.size_alloc, World.size_setCell, World.size_drew, size_drewN] at s5
      obtain ⟨zb_5, zd_5, zr_5, zx_5, rz_5, rq_5, bb_5⟩ : Blk w5 (w.heap.size) 54 [.slice Az mz cz, .int .i64 ((xz.length : Nat) : Int)] ∧ Blk w5 (w.heap.size + 1) 46 [.int .i64 (p0 : Int), .int .i64 (p1 : Int), .int .u64 (q0 : Int), .int .u64 (q1 : Int)] ∧ Blk w5 (w.heap.size + 1 + 1) 54 [.slice none 0 0, .int .i64 0] ∧ Blk w5 (w.heap.size + 1 + 1 + 1) 46 [.int .i64 0, .int .i64 0, .int .u64 0, .int .u64 0] ∧ RowIn .u8 w5 (w3.heap.size + 0) (w4.heap.size) Az mz (pack xz) ∧ RowIn .u8 w5 (w4.heap.size + 0) (w5.heap.size) Aq mq (pack xq) ∧ Below w.heap.size w w5 := by
        refine ⟨?_, ?_, ?_, ?_, ?_, ?_, ?_⟩
        all_goals repeat' (first | (with_reducible assumption) | (with_reducible exact Below.refl _ _) | (with_reducible refine Blk.after ?_ b5) | (with_reducible refine RowIn.belowS ?_ b5) | (with_reducible refine Below.after ?_ b5 ?_) | (with_reducible refine Blk.drewN ?_ _) | (with_reducible refine RowIn.drewN ?_ _) | (with_reducible refine below_drewN ?_ _) | (with_reducible refine Blk.drew ?_) | (with_reducible refine RowIn.drew ?_) | (with_reducible refine Below.drew ?_) | (with_reducible refine Blk.new' ?_ ?_ <;> first | (with_reducible rfl) | (simp; done)) | (with_reducible refine Blk.alloc ?_ _) | (with_reducible refine RowIn.alloc ?_ _) | (with_reducible refine Below.alloc ?_ ?_ _) | (with_reducible apply Blk.set') | (with_reducible apply Blk.far') | (with_reducible refine RowIn.far' ?_ ?_ _) | (with_reducible refine Below.far' ?_ ?_ _) | rfl | omega | go_size)
      clear zb_4 zd_4 zr_4 zx_4 rb_4 rz_4 bb_4 kb_4 fb_4 lb_4 kd_4 fd_4 ld_4 kr_4 fr_4 lr_4 kx_4 fx_4 lx_4 b5
      have kb_5 := zb_5.cell; have fb_5 := zb_5.frozen; have lb_5 := zb_5.lt
      have kd_5 := zd_5.cell; have fd_5 := zd_5.frozen; have ld_5 := zd_5.lt
      have kr_5 := zr_5.cell; have fr_5 := zr_5.frozen; have lr_5 := zr_5.lt
      have kx_5 := zx_5.cell; have fx_5 := zx_5.frozen; have lx_5 := zx_5.lt
      clear rq
      clear hw
      go_wp2_with fail
      obtain ⟨w6, hw6⟩ : ∃ w6, w6 = (w5.setCell ⟨w.heap.size, 0, none⟩ (.slice Aq mq cq)).setCell ⟨w.heap.size, 1, none⟩ (.int .i64 ((xq.length : Nat) : Int)) := ⟨_, rfl⟩
      have s6 : w5.heap.size ≤ w6.heap.size := by rw [hw6]; simp only [World.size_setCell]; exact Nat.le_refl _
      obtain ⟨zb6, zd6, zr6, zx6, rq6, bb6⟩ : Blk w6 w.heap.size 54 [.slice Aq mq cq, .int .i64 ((xq.length : Nat) : Int)] ∧ Blk w6 (w.heap.size + 1) 46 [.int .i64 (p0 : Int), .int .i64 (p1 : Int), .int .u64 (q0 : Int), .int .u64 (q1 : Int)] ∧ Blk w6 (w.heap.size + 1 + 1) 54 [.slice none 0 0, .int .i64 0] ∧ Blk w6 (w.heap.size + 1 + 1 + 1) 46 [.int .i64 0, .int .i64 0, .int .u64 0, .int .u64 0] ∧ RowIn .u8 w6 (w4.heap.size + 0) w5.heap.size Aq mq (pack xq) ∧ Below w.heap.size w w6 := by
        rw [hw6]
        refine ⟨?_, ?_, ?_, ?_, ?_, ?_⟩
        all_goals repeat' (first | (with_reducible assumption) | (with_reducible exact Below.refl _ _) | (with_reducible refine Blk.drewN ?_ _) | (with_reducible refine RowIn.drewN ?_ _) | (with_reducible refine below_drewN ?_ _) | (with_reducible refine Blk.drew ?_) | (with_reducible refine RowIn.drew ?_) | (with_reducible refine Below.drew ?_) | (with_reducible refine Blk.new' ?_ ?_ <;> first | (with_reducible rfl) | (simp; done)) | (with_reducible refine Blk.alloc ?_ _) | (with_reducible refine RowIn.alloc ?_ _) | (with_reducible refine Below.alloc ?_ ?_ _) | (with_reducible apply Blk.set') | (with_reducible apply Blk.far') | (with_reducible refine RowIn.far' ?_ ?_ _) | (with_reducible refine Below.far' ?_ ?_ _) | rfl | omega | go_size)
      rw [← hw6]
      clear hw6
      refine (dlearn_any (w.heap.size + 1) p0 p1 q0 q1 v _ hd hv zd6).mono ?_
      rintro e w9 ⟨u0, u1, v0, v1, rfl, HA, zd9, fr9⟩
      have zb9 := zb6.frm fr9 (by omega)
      have zr9 := zr6.frm fr9 (by omega)
      have zx9 := zx6.frm fr9 (by omega)
      have rq9 := RowIn.frm rq6 fr9 (fun j h1 h2 => by omega)
      have bb9 : Below w.heap.size w w9 := bb6.trans (fr9.below bb6.size (fun k hk h => by omega))
      have s9 := fr9.size
      clear zb_5 zd_5 zr_5 zx_5 rz_5 rq_5 bb_5 kb_5 fb_5 lb_5 kd_5 fd_5 ld_5 kr_5 fr_5 lr_5 kx_5 fx_5 lx_5 zb6 zd6 zr6 zx6 rq6 bb6
      have kb9 := zb9.cell; have lb9 := zb9.lt; have kd9 := zd9.cell; have ld9 := zd9.lt; have kr9 := zr9.cell; have fr9b := zr9.frozen; have lr9 := zr9.lt; have kx9 := zx9.cell; have fx9 := zx9.frozen; have lx9 := zx9.lt
      go_wp2_with fail
      go_region
      all_goals
        go_wp2
        refine bodyPost_ret (v := .tuple #[.agg #[.slice Aq mq cq, .int .i64 ((xq.length : Nat) : Int)], .agg #[.int .i64 (u0 : Int), .int .i64 (u1 : Int), .int .u64 (v0 : Int), .int .u64 (v1 : Int)], .int .i64 0]) (by simp [results, Try.results43, go_sem, kr9, lr9, kx9, lx9]) rfl ?_
        rw [HR.out]
        refine ⟨Aq, mq, cq, xq, u0, u1, v0, v1, rfl, hcq, ?_, ?_, HA, ?_⟩
        · refine RowIn.mono (lo := w4.heap.size + 0) (hi := w5.heap.size) ?_ (by omega) (by go_size)
          repeat' (first | (with_reducible assumption) | (with_reducible exact Below.refl _ _) | (with_reducible refine Blk.drewN ?_ _) | (with_reducible refine RowIn.drewN ?_ _) | (with_reducible refine below_drewN ?_ _) | (with_reducible refine Blk.drew ?_) | (with_reducible refine RowIn.drew ?_) | (with_reducible refine Below.drew ?_) | (with_reducible refine Blk.new' ?_ ?_ <;> first | (with_reducible rfl) | (simp; done)) | (with_reducible refine Blk.alloc ?_ _) | (with_reducible refine RowIn.alloc ?_ _) | (with_reducible refine Below.alloc ?_ ?_ _) | (with_reducible apply Blk.set') | (with_reducible apply Blk.far') | (with_reducible refine RowIn.far' ?_ ?_ _) | (with_reducible refine Below.far' ?_ ?_ _) | rfl | omega | go_size)
        · rw [HXq.out, HXz.out, HCD.out, List.append_assoc]; rw [HY.out]; exact Lib.hid rfl
        · repeat' (first | (with_reducible assumption) | (with_reducible exact Below.refl _ _) | (with_reducible refine Blk.drewN ?_ _) | (with_reducible refine RowIn.drewN ?_ _) | (with_reducible refine below_drewN ?_ _) | (with_reducible refine Blk.drew ?_) | (with_reducible refine RowIn.drew ?_) | (with_reducible refine Below.drew ?_) | (with_reducible refine Blk.new' ?_ ?_ <;> first | (with_reducible rfl) | (simp; done)) | (with_reducible refine Blk.alloc ?_ _) | (with_reducible refine RowIn.alloc ?_ _) | (with_reducible refine Below.alloc ?_ ?_ _) | (with_reducible apply Blk.set') | (with_reducible apply Blk.far') | (with_reducible refine RowIn.far' ?_ ?_ _) | (with_reducible refine Below.far' ?_ ?_ _) | rfl | omega | go_size)


end Go.Proofs.Ytpohaikbbfochaa
