/-
  Contract of the reference of chapter 9: Decode.
-/
import Derived.Test.YtppilidcjlnmoaaDoorCodM
import Derived.Test.YtppilidcjlnmoaaDoorRefZ
import Derived.Test.YtppilidcjlnmoaaDoorRefT
namespace Go.Proofs.YtppilidcjlnmoaaDoor
open Go.RowKit Cad Cad.Bit Cad.Code
set_option linter.unusedVariables false
set_option linter.unusedSimpArgs false


theorem rcdec_bad (A : Option Addr) (m c : Nat) (N : Int) (bytes : List Int) (n : Int) (w : World) (ha : Row .u8 w A m bytes) (hb : Within 0 255 bytes) (hc : m ≤ c ∧ c ≤ 9223372036854775807) (hv : ¬ Valid bytes N) :
    Calls Tryd.prog 20 #[.agg #[.slice A m c, .int .i64 N], .int .i64 n] w (RetL w [] 0 8) := by
  have hri := ha.rowIn
  go_enter Tryd.func20, Tryd.ntmps20
  go_wp2_with fail
  refine (rcheck_bad A m c N bytes _ (by exact RowIn.row (lo := 0) (hi := w.heap.size) (by repeat' (first | (with_reducible assumption) | (with_reducible exact Below.refl _ _) | (with_reducible refine Blk.drewN ?_ _) | (with_reducible refine RowIn.drewN ?_ _) | (with_reducible refine below_drewN ?_ _) | (with_reducible refine Blk.drew ?_) | (with_reducible refine RowIn.drew ?_) | (with_reducible refine Below.drew ?_) | (with_reducible refine Blk.new' ?_ ?_ <;> first | (with_reducible rfl) | (simp; done)) | (with_reducible refine Blk.alloc ?_ _) | (with_reducible refine RowIn.alloc ?_ _) | (with_reducible refine Below.alloc ?_ ?_ _) | (with_reducible apply Blk.set') | (with_reducible apply Blk.far') | (with_reducible refine RowIn.far' ?_ ?_ _) | (with_reducible refine Below.far' ?_ ?_ _) | rfl | omega | go_size))) hb (by omega) hv).mono ?_
  rintro e w1 ⟨rfl, b1⟩
  have s1 := b1.size
  try simp only [World.size_alloc, World.size_setCell, World.size_drew, size_drewN] at s1
  obtain ⟨zb_1, rb_1, bb_1⟩ : Blk w1 (w.heap.size) 24 [.slice A m c, .int .i64 N] ∧ RowIn .u8 w1 (0) (w.heap.size) A m bytes ∧ Below w.heap.size w w1 := by
    refine ⟨?_, ?_, ?_⟩
    all_goals repeat' (first | (with_reducible assumption) | (with_reducible exact Below.refl _ _) | (with_reducible refine Blk.drewN ?_ _) | (with_reducible refine RowIn.drewN ?_ _) | (with_reducible refine below_drewN ?_ _) | (with_reducible refine Blk.drew ?_) | (with_reducible refine RowIn.drew ?_) | (with_reducible refine Below.drew ?_) | (with_reducible refine Blk.new' ?_ ?_ <;> first | (with_reducible rfl) | (simp; done)) | (with_reducible refine Blk.alloc ?_ _) | (with_reducible refine RowIn.alloc ?_ _) | (with_reducible refine Below.alloc ?_ ?_ _) | (with_reducible apply Blk.set') | (with_reducible apply Blk.far') | (with_reducible refine RowIn.far' ?_ ?_ _) | (with_reducible refine Below.far' ?_ ?_ _) | (with_reducible refine Blk.after ?_ b1) | (with_reducible refine RowIn.belowS ?_ b1) | (with_reducible refine Below.after ?_ b1 ?_) | rfl | omega | go_size)
  clear b1
  have kb_1 := zb_1.cell; have fb_1 := zb_1.frozen; have lb_1 := zb_1.lt
  go_wp2
  refine bodyPost_ret (v := .tuple #[.slice none 0 0, .int .i64 0, .int .i64 8]) (by simp [results, Tryd.results20, go_sem]) rfl ?_
  exact ⟨none, 0, 0, [], rfl, ⟨Nat.le_refl _, Nat.zero_le _⟩, RowIn.nil, Lib.hid rfl, bb_1⟩


set_option maxRecDepth 100000 in
set_option maxHeartbeats 2000000 in
theorem rcdec_ret (A : Option Addr) (m c : Nat) (bs : List Bool) (n : Int) (w : World) (ha : Row .u8 w A m (pack bs)) (hc : m ≤ c ∧ c ≤ 9223372036854775807) (hl : bs.length ≤ 330000) (hn : -9223372036854775808 ≤ n ∧ n ≤ 9223372036854775807) :
    Calls Tryd.prog 20 #[.agg #[.slice A m c, .int .i64 ((bs.length : Nat) : Int)], .int .i64 n] w (RetL w (decR bs n).1 (decR bs n).2.1 (decR bs n).2.2) := by
  have hri := ha.rowIn
  by_cases h1 : n < 0
  · have e : decR bs n = ([], 0, 2) := by unfold decR; rw [if_pos h1]
    rw [e]
    clear e
    go_enter Tryd.func20, Tryd.ntmps20
    go_wp2_with fail
    refine (rcheck_ok A m c bs _ (by exact RowIn.row (lo := 0) (hi := w.heap.size) (by repeat' (first | (with_reducible assumption) | (with_reducible exact Below.refl _ _) | (with_reducible refine Blk.drewN ?_ _) | (with_reducible refine RowIn.drewN ?_ _) | (with_reducible refine below_drewN ?_ _) | (with_reducible refine Blk.drew ?_) | (with_reducible refine RowIn.drew ?_) | (with_reducible refine Below.drew ?_) | (with_reducible refine Blk.new' ?_ ?_ <;> first | (with_reducible rfl) | (simp; done)) | (with_reducible refine Blk.alloc ?_ _) | (with_reducible refine RowIn.alloc ?_ _) | (with_reducible refine Below.alloc ?_ ?_ _) | (with_reducible apply Blk.set') | (with_reducible apply Blk.far') | (with_reducible refine RowIn.far' ?_ ?_ _) | (with_reducible refine Below.far' ?_ ?_ _) | rfl | omega | go_size))) (by omega) hl).mono ?_
    rintro e w1 ⟨rfl, b1⟩
    have s1 := b1.size
    try simp only [World.size_alloc, World.size_setCell, World.size_drew, size_drewN] at s1
    obtain ⟨zb_1, rb_1, bb_1⟩ : Blk w1 (w.heap.size) 24 [.slice A m c, .int .i64 ((bs.length : Nat) : Int)] ∧ RowIn .u8 w1 (0) (w.heap.size) A m (pack bs) ∧ Below w.heap.size w w1 := by
      refine ⟨?_, ?_, ?_⟩
      all_goals repeat' (first | (with_reducible assumption) | (with_reducible exact Below.refl _ _) | (with_reducible refine Blk.drewN ?_ _) | (with_reducible refine RowIn.drewN ?_ _) | (with_reducible refine below_drewN ?_ _) | (with_reducible refine Blk.drew ?_) | (with_reducible refine RowIn.drew ?_) | (with_reducible refine Below.drew ?_) | (with_reducible refine Blk.new' ?_ ?_ <;> first | (with_reducible rfl) | (simp; done)) | (with_reducible refine Blk.alloc ?_ _) | (with_reducible refine RowIn.alloc ?_ _) | (with_reducible refine Below.alloc ?_ ?_ _) | (with_reducible apply Blk.set') | (with_reducible apply Blk.far') | (with_reducible refine RowIn.far' ?_ ?_ _) | (with_reducible refine Below.far' ?_ ?_ _) | (with_reducible refine Blk.after ?_ b1) | (with_reducible refine RowIn.belowS ?_ b1) | (with_reducible refine Below.after ?_ b1 ?_) | rfl | omega | go_size)
    clear b1
    have kb_1 := zb_1.cell; have fb_1 := zb_1.frozen; have lb_1 := zb_1.lt
    go_wp2
    refine bodyPost_ret (v := .tuple #[.slice none 0 0, .int .i64 0, .int .i64 2]) (by simp [results, Tryd.results20, go_sem]) rfl ?_
    exact ⟨none, 0, 0, [], rfl, ⟨Nat.le_refl _, Nat.zero_le _⟩, RowIn.nil, Lib.hid rfl, bb_1⟩
  by_cases h2 : 4000 < n
  · have e : decR bs n = ([], 0, 4) := by unfold decR; rw [if_neg h1, if_pos h2]
    rw [e]
    clear e
    go_enter Tryd.func20, Tryd.ntmps20
    go_wp2_with fail
    refine (rcheck_ok A m c bs _ (by exact RowIn.row (lo := 0) (hi := w.heap.size) (by repeat' (first | (with_reducible assumption) | (with_reducible exact Below.refl _ _) | (with_reducible refine Blk.drewN ?_ _) | (with_reducible refine RowIn.drewN ?_ _) | (with_reducible refine below_drewN ?_ _) | (with_reducible refine Blk.drew ?_) | (with_reducible refine RowIn.drew ?_) | (with_reducible refine Below.drew ?_) | (with_reducible refine Blk.new' ?_ ?_ <;> first | (with_reducible rfl) | (simp; done)) | (with_reducible refine Blk.alloc ?_ _) | (with_reducible refine RowIn.alloc ?_ _) | (with_reducible refine Below.alloc ?_ ?_ _) | (with_reducible apply Blk.set') | (with_reducible apply Blk.far') | (with_reducible refine RowIn.far' ?_ ?_ _) | (with_reducible refine Below.far' ?_ ?_ _) | rfl | omega | go_size))) (by omega) hl).mono ?_
    rintro e w1 ⟨rfl, b1⟩
    have s1 := b1.size
    try simp only [World.size_alloc, World.size_setCell, World.size_drew, size_drewN] at s1
    obtain ⟨zb_1, rb_1, bb_1⟩ : Blk w1 (w.heap.size) 24 [.slice A m c, .int .i64 ((bs.length : Nat) : Int)] ∧ RowIn .u8 w1 (0) (w.heap.size) A m (pack bs) ∧ Below w.heap.size w w1 := by
      refine ⟨?_, ?_, ?_⟩
      all_goals repeat' (first | (with_reducible assumption) | (with_reducible exact Below.refl _ _) | (with_reducible refine Blk.drewN ?_ _) | (with_reducible refine RowIn.drewN ?_ _) | (with_reducible refine below_drewN ?_ _) | (with_reducible refine Blk.drew ?_) | (with_reducible refine RowIn.drew ?_) | (with_reducible refine Below.drew ?_) | (with_reducible refine Blk.new' ?_ ?_ <;> first | (with_reducible rfl) | (simp; done)) | (with_reducible refine Blk.alloc ?_ _) | (with_reducible refine RowIn.alloc ?_ _) | (with_reducible refine Below.alloc ?_ ?_ _) | (with_reducible apply Blk.set') | (with_reducible apply Blk.far') | (with_reducible refine RowIn.far' ?_ ?_ _) | (with_reducible refine Below.far' ?_ ?_ _) | (with_reducible refine Blk.after ?_ b1) | (with_reducible refine RowIn.belowS ?_ b1) | (with_reducible refine Below.after ?_ b1 ?_) | rfl | omega | go_size)
    clear b1
    have kb_1 := zb_1.cell; have fb_1 := zb_1.frozen; have lb_1 := zb_1.lt
    go_wp2
    refine bodyPost_ret (v := .tuple #[.slice none 0 0, .int .i64 0, .int .i64 4]) (by simp [results, Tryd.results20, go_sem]) rfl ?_
    exact ⟨none, 0, 0, [], rfl, ⟨Nat.le_refl _, Nat.zero_le _⟩, RowIn.nil, Lib.hid rfl, bb_1⟩
  obtain ⟨n, rfl⟩ := Int.eq_ofNat_of_zero_le (by omega : 0 ≤ n)
  have hn4 : n ≤ 4000 := by omega
  have HR : Hid (decR bs (n : Int) = match readL n bs Cad.Code.start with | .ok vs m _ => (vs, ((m : Nat) : Int), 0) | .err e => ([], 0, ((e : Nat) : Int))) := by unfold decR; rw [if_neg h1, if_neg h2, Int.toNat_natCast]; exact Lib.hid rfl
  obtain ⟨G, HG⟩ : ∃ G, Hid (G = readL n bs Cad.Code.start) := ⟨_, Lib.hid rfl⟩
  go_enter Tryd.func20, Tryd.ntmps20
  go_wp2_with fail
  refine (rcheck_ok A m c bs _ (by exact RowIn.row (lo := 0) (hi := w.heap.size) (by repeat' (first | (with_reducible assumption) | (with_reducible exact Below.refl _ _) | (with_reducible refine Blk.drewN ?_ _) | (with_reducible refine RowIn.drewN ?_ _) | (with_reducible refine below_drewN ?_ _) | (with_reducible refine Blk.drew ?_) | (with_reducible refine RowIn.drew ?_) | (with_reducible refine Below.drew ?_) | (with_reducible refine Blk.new' ?_ ?_ <;> first | (with_reducible rfl) | (simp; done)) | (with_reducible refine Blk.alloc ?_ _) | (with_reducible refine RowIn.alloc ?_ _) | (with_reducible refine Below.alloc ?_ ?_ _) | (with_reducible apply Blk.set') | (with_reducible apply Blk.far') | (with_reducible refine RowIn.far' ?_ ?_ _) | (with_reducible refine Below.far' ?_ ?_ _) | rfl | omega | go_size))) (by omega) hl).mono ?_
  rintro e w1 ⟨rfl, b1⟩
  have s1 := b1.size
  try simp only [World.size_alloc, World.size_setCell, World.size_drew, size_drewN] at s1
  obtain ⟨zb_1, rb_1, bb_1⟩ : Blk w1 (w.heap.size) 24 [.slice A m c, .int .i64 ((bs.length : Nat) : Int)] ∧ RowIn .u8 w1 (0) (w.heap.size) A m (pack bs) ∧ Below w.heap.size w w1 := by
    refine ⟨?_, ?_, ?_⟩
    all_goals repeat' (first | (with_reducible assumption) | (with_reducible exact Below.refl _ _) | (with_reducible refine Blk.drewN ?_ _) | (with_reducible refine RowIn.drewN ?_ _) | (with_reducible refine below_drewN ?_ _) | (with_reducible refine Blk.drew ?_) | (with_reducible refine RowIn.drew ?_) | (with_reducible refine Below.drew ?_) | (with_reducible refine Blk.new' ?_ ?_ <;> first | (with_reducible rfl) | (simp; done)) | (with_reducible refine Blk.alloc ?_ _) | (with_reducible refine RowIn.alloc ?_ _) | (with_reducible refine Below.alloc ?_ ?_ _) | (with_reducible apply Blk.set') | (with_reducible apply Blk.far') | (with_reducible refine RowIn.far' ?_ ?_ _) | (with_reducible refine Below.far' ?_ ?_ _) | (with_reducible refine Blk.after ?_ b1) | (with_reducible refine RowIn.belowS ?_ b1) | (with_reducible refine Below.after ?_ b1 ?_) | rfl | omega | go_size)
  clear b1
  have kb_1 := zb_1.cell; have fb_1 := zb_1.frozen; have lb_1 := zb_1.lt
  go_wp2_with fail
  refine (rdstart_ok _).mono ?_
  rintro e w2 ⟨rfl, b2⟩
  have s2 := b2.size
  try simp only [World.size_alloc, World.size_setCell, World.size_drew, size_drewN] at s2
  obtain ⟨zb_2, rb_2, bb_2⟩ : Blk w2 (w.heap.size) 24 [.slice A m c, .int .i64 ((bs.length : Nat) : Int)] ∧ RowIn .u8 w2 (0) (w.heap.size) A m (pack bs) ∧ Below w.heap.size w w2 := by
    refine ⟨?_, ?_, ?_⟩
    all_goals repeat' (first | (with_reducible assumption) | (with_reducible exact Below.refl _ _) | (with_reducible refine Blk.drewN ?_ _) | (with_reducible refine RowIn.drewN ?_ _) | (with_reducible refine below_drewN ?_ _) | (with_reducible refine Blk.drew ?_) | (with_reducible refine RowIn.drew ?_) | (with_reducible refine Below.drew ?_) | (with_reducible refine Blk.new' ?_ ?_ <;> first | (with_reducible rfl) | (simp; done)) | (with_reducible refine Blk.alloc ?_ _) | (with_reducible refine RowIn.alloc ?_ _) | (with_reducible refine Below.alloc ?_ ?_ _) | (with_reducible apply Blk.set') | (with_reducible apply Blk.far') | (with_reducible refine RowIn.far' ?_ ?_ _) | (with_reducible refine Below.far' ?_ ?_ _) | (with_reducible refine Blk.after ?_ b2) | (with_reducible refine RowIn.belowS ?_ b2) | (with_reducible refine Below.after ?_ b2 ?_) | rfl | omega | go_size)
  clear zb_1 rb_1 bb_1 kb_1 fb_1 lb_1 b2
  have kb_2 := zb_2.cell; have fb_2 := zb_2.frozen; have lb_2 := zb_2.lt
  go_wp2_with fail
  go_loopg [7, 8, 10] n (fun k vl va vi wr => ∃ (j a p0 p1 q0 q1 d : Nat) (B : Option Addr) (us : List Nat) (ys : List Int), j + k = n ∧ vi = .int .i64 (j : Nat) ∧ va = .int .i64 (a : Nat) ∧ vl = .slice B j d ∧ a ≤ bs.length ∧ us.length = j ∧ Hid (ys = ints us) ∧ Hid (Dual.Ok ⟨p0, p1, q0, q1⟩) ∧ Hid (G = (readL k (bs.drop a) ⟨p0, p1, q0, q1⟩).app us a) ∧ Own wr w.heap.size 55 .u32 B j d ys ∧ Blk wr (w.heap.size) 24 [.slice A m c, .int .i64 ((bs.length : Nat) : Int)] ∧ Blk wr (w2.heap.size) 38 [.int .i64 (p0 : Int), .int .i64 (p1 : Int), .int .u64 (q0 : Int), .int .u64 (q1 : Int)] ∧ Below w.heap.size w wr)
  case atStart => exact ⟨0, 0, 10, 10, 16384, 16384, 0, none, [], [], by omega, rfl, rfl, rfl, by omega, rfl, Lib.hid rfl, Lib.hid start_ok, by rw [HG.out, GotL.app_nil, List.drop_zero]; exact Lib.hid rfl, Own.nil _ _ _ _, by repeat' (first | (with_reducible assumption) | (with_reducible exact Below.refl _ _) | (with_reducible refine Blk.drewN ?_ _) | (with_reducible refine RowIn.drewN ?_ _) | (with_reducible refine below_drewN ?_ _) | (with_reducible refine Blk.drew ?_) | (with_reducible refine RowIn.drew ?_) | (with_reducible refine Below.drew ?_) | (with_reducible refine Blk.new' ?_ ?_ <;> first | (with_reducible rfl) | (simp; done)) | (with_reducible refine Blk.alloc ?_ _) | (with_reducible refine RowIn.alloc ?_ _) | (with_reducible refine Below.alloc ?_ ?_ _) | (with_reducible apply Blk.set') | (with_reducible apply Blk.far') | (with_reducible refine RowIn.far' ?_ ?_ _) | (with_reducible refine Below.far' ?_ ?_ _) | rfl | omega | go_size), by repeat' (first | (with_reducible assumption) | (with_reducible exact Below.refl _ _) | (with_reducible refine Blk.drewN ?_ _) | (with_reducible refine RowIn.drewN ?_ _) | (with_reducible refine below_drewN ?_ _) | (with_reducible refine Blk.drew ?_) | (with_reducible refine RowIn.drew ?_) | (with_reducible refine Below.drew ?_) | (with_reducible refine Blk.new' ?_ ?_ <;> first | (with_reducible rfl) | (simp; done)) | (with_reducible refine Blk.alloc ?_ _) | (with_reducible refine RowIn.alloc ?_ _) | (with_reducible refine Below.alloc ?_ ?_ _) | (with_reducible apply Blk.set') | (with_reducible apply Blk.far') | (with_reducible refine RowIn.far' ?_ ?_ _) | (with_reducible refine Below.far' ?_ ?_ _) | rfl | omega | go_size), by repeat' (first | (with_reducible assumption) | (with_reducible exact Below.refl _ _) | (with_reducible refine Blk.drewN ?_ _) | (with_reducible refine RowIn.drewN ?_ _) | (with_reducible refine below_drewN ?_ _) | (with_reducible refine Blk.drew ?_) | (with_reducible refine RowIn.drew ?_) | (with_reducible refine Below.drew ?_) | (with_reducible refine Blk.new' ?_ ?_ <;> first | (with_reducible rfl) | (simp; done)) | (with_reducible refine Blk.alloc ?_ _) | (with_reducible refine RowIn.alloc ?_ _) | (with_reducible refine Below.alloc ?_ ?_ _) | (with_reducible apply Blk.set') | (with_reducible apply Blk.far') | (with_reducible refine RowIn.far' ?_ ?_ _) | (with_reducible refine Below.far' ?_ ?_ _) | rfl | omega | go_size)⟩
  case round =>
    obtain ⟨j, a, p0, p1, q0, q1, d, B, us, ys, hj, rfl, rfl, rfl, haL, hus, HY, HPO, HGG, own5, zb_5, zd_5, bb_5⟩ := hrel
    clear zb_2 kb_2 fb_2 lb_2 rb_2 bb_2
    have kb_5 := zb_5.cell; have fb_5 := zb_5.frozen; have lb_5 := zb_5.lt
    have kd_5 := zd_5.cell; have fd_5 := zd_5.frozen; have ld_5 := zd_5.lt
    have s5 := bb_5.size
    have rb_5 := hri.below bb_5 (Nat.le_refl _)
    skip
    by_cases hlt : j < n
    · obtain ⟨r, hkr⟩ : ∃ r, gk = r + 1 := ⟨gk - 1, by omega⟩
      skip
      have hlt1 : (j : Int) < (n : Int) := by omega
      cases hrd : readD (bs.drop a) ⟨p0, p1, q0, q1⟩ with
      | err er =>
        have hg0 := HGG.out
        rw [hkr] at hg0
        have hg := readL_stop hg0 hrd
        have HRR : Hid (decR bs (n : Int) = ([], 0, (er : Int))) := Lib.hid (by rw [HR.out, ← HG.out, hg])
        have HRD : Hid (gdR bs a ⟨p0, p1, q0, q1⟩ = (0, 0, (er : Int))) := Lib.hid (by unfold gdR; rw [hrd])
        have he2 : ((er : Int) != 0) = true := by rcases readD_err HPO.out hrd with rfl | ⟨rfl, _⟩ <;> rfl
        clear hg hg0 hrd
        go_wp2_with fail
        have hg := fun W (hr : Row .u8 W A m (pack bs)) => rdgot_ret A m c bs a p0 p1 q0 q1 W hr hc hl (by omega) HPO.out.1 HPO.out.2.1
        rw [HRD.out] at hg
        replace hg := Lib.hid hg
        refine (hg.out _ (by exact RowIn.row (lo := 0) (hi := w.heap.size) (by repeat' (first | (with_reducible assumption) | (with_reducible exact Below.refl _ _) | (with_reducible refine Blk.drewN ?_ _) | (with_reducible refine RowIn.drewN ?_ _) | (with_reducible refine below_drewN ?_ _) | (with_reducible refine Blk.drew ?_) | (with_reducible refine RowIn.drew ?_) | (with_reducible refine Below.drew ?_) | (with_reducible refine Blk.new' ?_ ?_ <;> first | (with_reducible rfl) | (simp; done)) | (with_reducible refine Blk.alloc ?_ _) | (with_reducible refine RowIn.alloc ?_ _) | (with_reducible refine Below.alloc ?_ ?_ _) | (with_reducible apply Blk.set') | (with_reducible apply Blk.far') | (with_reducible refine RowIn.far' ?_ ?_ _) | (with_reducible refine Below.far' ?_ ?_ _) | rfl | omega | go_size)))).mono ?_
        rintro e w6 ⟨rfl, b6⟩
        have s6 := b6.size
        try simp only [World.size_alloc, World.size_setCell, World.size_drew, size_drewN] at s6
        obtain ⟨zb_6, zd_6, rb_6, bb_6⟩ : Blk w6 (w.heap.size) 24 [.slice A m c, .int .i64 ((bs.length : Nat) : Int)] ∧ Blk w6 (w2.heap.size) 38 [.int .i64 (p0 : Int), .int .i64 (p1 : Int), .int .u64 (q0 : Int), .int .u64 (q1 : Int)] ∧ RowIn .u8 w6 (0) (w.heap.size) A m (pack bs) ∧ Below w.heap.size w w6 := by
          refine ⟨?_, ?_, ?_, ?_⟩
          all_goals repeat' (first | (with_reducible assumption) | (with_reducible exact Below.refl _ _) | (with_reducible refine Blk.drewN ?_ _) | (with_reducible refine RowIn.drewN ?_ _) | (with_reducible refine below_drewN ?_ _) | (with_reducible refine Blk.drew ?_) | (with_reducible refine RowIn.drew ?_) | (with_reducible refine Below.drew ?_) | (with_reducible refine Blk.new' ?_ ?_ <;> first | (with_reducible rfl) | (simp; done)) | (with_reducible refine Blk.alloc ?_ _) | (with_reducible refine RowIn.alloc ?_ _) | (with_reducible refine Below.alloc ?_ ?_ _) | (with_reducible apply Blk.set') | (with_reducible apply Blk.far') | (with_reducible refine RowIn.far' ?_ ?_ _) | (with_reducible refine Below.far' ?_ ?_ _) | (with_reducible refine Blk.after ?_ b6) | (with_reducible refine RowIn.belowS ?_ b6) | (with_reducible refine Below.after ?_ b6 ?_) | rfl | omega | go_size)
        clear zb_5 zd_5 kb_5 kd_5 fb_5 fd_5 lb_5 ld_5 bb_5 rb_5 b6
        have kb_6 := zb_6.cell; have fb_6 := zb_6.frozen; have lb_6 := zb_6.lt
        have kd_6 := zd_6.cell; have fd_6 := zd_6.frozen; have ld_6 := zd_6.lt
        go_wp2
        refine bodyPost_ret (v := .tuple #[.slice none 0 0, .int .i64 0, .int .i64 (er : Int)]) (by simp [results, Tryd.results20, go_sem]) rfl ?_
        rw [HRR.out]
        exact ⟨none, 0, 0, [], rfl, ⟨Nat.le_refl _, Nat.zero_le _⟩, RowIn.nil, Lib.hid rfl, bb_6⟩
      | ok v k =>
        have hv32 := readD_lt HPO.out hrd
        have hkl := (readD_len HPO.out hrd).2.2
        rw [List.length_drop] at hkl
        have hg0 := HGG.out
        rw [hkr] at hg0
        have hg := readL_step hg0 hrd
        obtain ⟨z, hz⟩ : ∃ z, z = a + k := ⟨_, rfl⟩
        rw [← hz] at hg
        have HG2 := Lib.hid hg
        have HRD : Hid (gdR bs a ⟨p0, p1, q0, q1⟩ = ((v : Int), (z : Int), 0)) := Lib.hid (by unfold gdR; rw [hrd]; dsimp only; rw [hz])
        have hzl : z ≤ bs.length := by omega
        have HZ := Lib.hid hz
        have hg2 := fun W (hr : Row .u8 W A m (pack bs)) => rdgot_ret A m c bs a p0 p1 q0 q1 W hr hc hl (by omega) HPO.out.1 HPO.out.2.1
        rw [HRD.out] at hg2
        replace hg2 := Lib.hid hg2
        clear hg hg0 hrd HGG hz
        go_wp2_with fail
        refine (hg2.out _ (by exact RowIn.row (lo := 0) (hi := w.heap.size) (by repeat' (first | (with_reducible assumption) | (with_reducible exact Below.refl _ _) | (with_reducible refine Blk.drewN ?_ _) | (with_reducible refine RowIn.drewN ?_ _) | (with_reducible refine below_drewN ?_ _) | (with_reducible refine Blk.drew ?_) | (with_reducible refine RowIn.drew ?_) | (with_reducible refine Below.drew ?_) | (with_reducible refine Blk.new' ?_ ?_ <;> first | (with_reducible rfl) | (simp; done)) | (with_reducible refine Blk.alloc ?_ _) | (with_reducible refine RowIn.alloc ?_ _) | (with_reducible refine Below.alloc ?_ ?_ _) | (with_reducible apply Blk.set') | (with_reducible apply Blk.far') | (with_reducible refine RowIn.far' ?_ ?_ _) | (with_reducible refine Below.far' ?_ ?_ _) | rfl | omega | go_size)))).mono ?_
        rintro e w6 ⟨rfl, b6⟩
        have own6 := own5.below b6 (Nat.le_refl _)
        have s6 := b6.size
        try simp only [World.size_alloc, World.size_setCell, World.size_drew, size_drewN] at s6
        obtain ⟨zb_6, zd_6, rb_6, bb_6⟩ : Blk w6 (w.heap.size) 24 [.slice A m c, .int .i64 ((bs.length : Nat) : Int)] ∧ Blk w6 (w2.heap.size) 38 [.int .i64 (p0 : Int), .int .i64 (p1 : Int), .int .u64 (q0 : Int), .int .u64 (q1 : Int)] ∧ RowIn .u8 w6 (0) (w.heap.size) A m (pack bs) ∧ Below w.heap.size w w6 := by
          refine ⟨?_, ?_, ?_, ?_⟩
          all_goals repeat' (first | (with_reducible assumption) | (with_reducible exact Below.refl _ _) | (with_reducible refine Blk.drewN ?_ _) | (with_reducible refine RowIn.drewN ?_ _) | (with_reducible refine below_drewN ?_ _) | (with_reducible refine Blk.drew ?_) | (with_reducible refine RowIn.drew ?_) | (with_reducible refine Below.drew ?_) | (with_reducible refine Blk.new' ?_ ?_ <;> first | (with_reducible rfl) | (simp; done)) | (with_reducible refine Blk.alloc ?_ _) | (with_reducible refine RowIn.alloc ?_ _) | (with_reducible refine Below.alloc ?_ ?_ _) | (with_reducible apply Blk.set') | (with_reducible apply Blk.far') | (with_reducible refine RowIn.far' ?_ ?_ _) | (with_reducible refine Below.far' ?_ ?_ _) | (with_reducible refine Blk.after ?_ b6) | (with_reducible refine RowIn.belowS ?_ b6) | (with_reducible refine Below.after ?_ b6 ?_) | rfl | omega | go_size)
        clear zb_5 zd_5 kb_5 kd_5 fb_5 fd_5 lb_5 ld_5 bb_5 rb_5 b6
        have kb_6 := zb_6.cell; have fb_6 := zb_6.frozen; have lb_6 := zb_6.lt
        have kd_6 := zd_6.cell; have fd_6 := zd_6.frozen; have ld_6 := zd_6.lt
        have s6w : w.heap.size ≤ w6.heap.size := bb_6.size
        go_wp2_with (at_builtin; refine wpList_app _ u32E rfl _ _ rfl w.heap.size _ _ _ _ rfl (by exact own6.alloc _) _ _ _ [(v : Int)] rfl (by exact row_one' (by simp)) (by omega) (by simp; omega) ?_)
        intro B' d' w8 own8 hg8 hat8
        have zb_8 : Blk w8 w.heap.size 24 [.slice A m c, .int .i64 ((bs.length : Nat) : Int)] := by
          refine Blk.grown ?_ hg8 (fun e => (own6.ne_blk zb_6 (by decide)) e.symm)
          repeat' (first | (with_reducible assumption) | (with_reducible exact Below.refl _ _) | (with_reducible refine Blk.drewN ?_ _) | (with_reducible refine RowIn.drewN ?_ _) | (with_reducible refine below_drewN ?_ _) | (with_reducible refine Blk.drew ?_) | (with_reducible refine RowIn.drew ?_) | (with_reducible refine Below.drew ?_) | (with_reducible refine Blk.new' ?_ ?_ <;> first | (with_reducible rfl) | (simp; done)) | (with_reducible refine Blk.alloc ?_ _) | (with_reducible refine RowIn.alloc ?_ _) | (with_reducible refine Below.alloc ?_ ?_ _) | (with_reducible apply Blk.set') | (with_reducible apply Blk.far') | (with_reducible refine RowIn.far' ?_ ?_ _) | (with_reducible refine Below.far' ?_ ?_ _) | rfl | omega | go_size)
        have zd_8 : Blk w8 w2.heap.size 38 [.int .i64 (p0 : Int), .int .i64 (p1 : Int), .int .u64 (q0 : Int), .int .u64 (q1 : Int)] := by
          refine Blk.grown ?_ hg8 (fun e => (own6.ne_blk zd_6 (by decide)) e.symm)
          repeat' (first | (with_reducible assumption) | (with_reducible exact Below.refl _ _) | (with_reducible refine Blk.drewN ?_ _) | (with_reducible refine RowIn.drewN ?_ _) | (with_reducible refine below_drewN ?_ _) | (with_reducible refine Blk.drew ?_) | (with_reducible refine RowIn.drew ?_) | (with_reducible refine Below.drew ?_) | (with_reducible refine Blk.new' ?_ ?_ <;> first | (with_reducible rfl) | (simp; done)) | (with_reducible refine Blk.alloc ?_ _) | (with_reducible refine RowIn.alloc ?_ _) | (with_reducible refine Below.alloc ?_ ?_ _) | (with_reducible apply Blk.set') | (with_reducible apply Blk.far') | (with_reducible refine RowIn.far' ?_ ?_ _) | (with_reducible refine Below.far' ?_ ?_ _) | rfl | omega | go_size)
        have bb_8 : Below w.heap.size w w8 := by
          have z0 : Below w.heap.size w (w6.alloc (.cells #[.int .u32 (v : Int)] 55)) := by repeat' (first | (with_reducible assumption) | (with_reducible exact Below.refl _ _) | (with_reducible refine Blk.drewN ?_ _) | (with_reducible refine RowIn.drewN ?_ _) | (with_reducible refine below_drewN ?_ _) | (with_reducible refine Blk.drew ?_) | (with_reducible refine RowIn.drew ?_) | (with_reducible refine Below.drew ?_) | (with_reducible refine Blk.new' ?_ ?_ <;> first | (with_reducible rfl) | (simp; done)) | (with_reducible refine Blk.alloc ?_ _) | (with_reducible refine RowIn.alloc ?_ _) | (with_reducible refine Below.alloc ?_ ?_ _) | (with_reducible apply Blk.set') | (with_reducible apply Blk.far') | (with_reducible refine RowIn.far' ?_ ?_ _) | (with_reducible refine Below.far' ?_ ?_ _) | rfl | omega | go_size)
          exact Below.grown z0 hg8 (by simp; omega) (fun g e => (own6.block g e).1)
        have hj1 : us.length + 1 = j + 1 := by omega
        have HY2 : Hid (ys ++ [(v : Int)] = ints (us ++ [v])) := Lib.hid (by rw [ints_next, HY.out])
        have kd_8 := zd_8.cell; have fd_8 := zd_8.frozen; have ld_8 := zd_8.lt
        have s8 := bb_8.size
        clear zb_6 kb_6 fb_6 lb_6 zd_6 kd_6 fd_6 ld_6 rb_6 bb_6 hat8 own6 hg8
        go_wp2_with fail
        refine (rdlearnt_ok p0 p1 q0 q1 v _ HPO.out hv32).mono ?_
        rintro e w9 ⟨u0, u1, v0, v1, rfl, HU, b9⟩
        have own9 := own8.below b9 (Nat.le_refl _)
        have zb_9 := zb_8.after b9; have zd_9 := zd_8.after b9; have bb_9 := Below.after bb_8 b9 s8
        have s9 := b9.size
        have kd_9 := zd_9.cell; have fd_9 := zd_9.frozen; have ld_9 := zd_9.lt
        have HPO2 : Hid (Dual.Ok ⟨u0, u1, v0, v1⟩) := Lib.hid (by rw [HU.out]; exact learn_ok HPO.out hv32)
        rw [← HU.out] at HG2
        clear zb_8 zd_8 bb_8 kd_8 fd_8 ld_8 own8
        go_wp2
        go_roundg r
        case measure => omega
        case rel =>
          have hne : blockOf B' ≠ some w2.heap.size := own9.ne_blk zd_9 (by decide)
          refine ⟨j + 1, z, u0, u1, v0, v1, d', B', us ++ [v], ys ++ [(v : Int)], by omega, by go_num, rfl, rfl, hzl, by simp; omega, HY2, HPO2, HG2, ?_, ?_, ?_, ?_⟩
          · exact (((own9.far' hne _).far' hne _).far' hne _).far' hne _
          · first | (with_reducible exact Blk.far4 zb_9 (by omega)) | (with_reducible exact Blk.drew (Blk.far4 zb_9 (by omega)))
          · first | (with_reducible exact Blk.set4 zd_9) | (with_reducible exact Blk.drew (Blk.set4 zd_9))
          · first | (with_reducible exact Below.far4 bb_9 (by omega)) | (with_reducible exact Below.drew (Below.far4 bb_9 (by omega)))
    · obtain rfl : gk = 0 := by omega
      obtain rfl : j = n := by omega
      have hg := readL_end HGG.out
      have HRR : Hid (decR bs (j : Int) = (us, (a : Int), 0)) := Lib.hid (by rw [HR.out, ← HG.out, hg])
      have hri5 := own5.rowIn
      have hcap := own5.rowC.2
      clear hg
      go_wp2
      refine bodyPost_ret (v := .tuple #[.slice B j d, .int .i64 (a : Int), .int .i64 0]) (by simp [results, Tryd.results20, go_sem]) rfl ?_
      rw [HRR.out]
      exact ⟨B, j, d, ys, rfl, hcap, hri5, HY, bb_5⟩


end Go.Proofs.YtppilidcjlnmoaaDoor
