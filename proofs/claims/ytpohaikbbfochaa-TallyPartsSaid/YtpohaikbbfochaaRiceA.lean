/-
  Contracts of Length and Write of Rice codes.
-/
import Derived.Test.YtpohaikbbfochaaUnaA
namespace Go.Proofs.Ytpohaikbbfochaa
open Go.RowKit Cad Cad.Bit Cad.Code
set_option linter.unusedVariables false
set_option linter.unusedSimpArgs false

theorem resc_yes (v k q : Nat) (w : World) (hk : k ≤ 24) (hv : v < 4294967296) (hq : q = v / 2 ^ k) (h : 48 ≤ q) :
    Calls Try.prog 51 #[.int .u32 (v : Int), .int .i64 (k : Int)] w fun e w' => e = .returned (.bool true) ∧ w = w' := by
  have e1 : (v : Int) / 2 ^ k = (q : Int) := by rw [pow_cast, ← Int.natCast_ediv, hq]
  clear hq
  go_enter Try.func51, Try.ntmps51
  go_wp2
  go_ret
  exact ⟨ret_bool (decide_eq_true (by omega)), rfl⟩
theorem resc_no (v k q : Nat) (w : World) (hk : k ≤ 24) (hv : v < 4294967296) (hq : q = v / 2 ^ k) (h : q < 48) :
    Calls Try.prog 51 #[.int .u32 (v : Int), .int .i64 (k : Int)] w fun e w' => e = .returned (.bool false) ∧ w = w' := by
  have e1 : (v : Int) / 2 ^ k = (q : Int) := by rw [pow_cast, ← Int.natCast_ediv, hq]
  clear hq
  go_enter Try.func51, Try.ntmps51
  go_wp2
  go_ret
  exact ⟨ret_bool (decide_eq_false (by omega)), rfl⟩

theorem rlen_bad (v k : Int) (w : World) (h : k < 0 ∨ 24 < k) :
    Calls Try.prog 41 #[.int .u32 v, .int .i64 k] w fun e w' => e = .returned (.tuple #[.int .i64 0, .int .i64 2]) ∧ w = w' := by
  rcases h with h | h
  all_goals
    go_enter Try.func41, Try.ntmps41
    go_wp2
    go_ret2
    exact ⟨rfl, rfl⟩
theorem rlen_ok (v k : Nat) (w : World) (hk : k ≤ 24) (hv : v < 4294967296) :
    Calls Try.prog 41 #[.int .u32 (v : Int), .int .i64 (k : Int)] w fun e w' => ∃ y : Nat, e = .returned (.tuple #[.int .i64 (y : Int), .int .i64 0]) ∧ Hid (y = riceLen v k) ∧ w = w' := by
  obtain ⟨q, hq⟩ : ∃ q, q = v / 2 ^ k := ⟨_, rfl⟩
  have e1 : (v : Int) / 2 ^ k = (q : Int) := by rw [pow_cast, ← Int.natCast_ediv, hq]
  have HQ := Lib.hid hq
  by_cases h : q < 48
  · have HL : Hid (riceLen v k = q + 1 + k) := by unfold riceLen; rw [← hq, if_pos h]; exact Lib.hid rfl
    clear hq
    go_enter Try.func41, Try.ntmps41
    go_wp2_with fail
    refine (resc_no v k q _ hk hv HQ.out h).mono ?_
    rintro e _ ⟨rfl, rfl⟩
    go_wp2
    go_ret2
    exact ⟨q + 1 + k, by go_num, Lib.hid HL.out.symm, rfl⟩
  · have HL : Hid (riceLen v k = 80) := by unfold riceLen; rw [← hq, if_neg h]; exact Lib.hid rfl
    clear hq
    go_enter Try.func41, Try.ntmps41
    go_wp2_with fail
    refine (resc_yes v k q _ hk hv HQ.out (by omega)).mono ?_
    rintro e _ ⟨rfl, rfl⟩
    go_wp2
    go_ret2
    exact ⟨80, rfl, Lib.hid HL.out.symm, rfl⟩

/-- What Write returns. -/
def rwR (bs : List Bool) (v : Nat) (k : Int) : List Bool × Int := if k < 0 ∨ 24 < k then ([], 2) else if 330000 < bs.length + riceLen v k.toNat then ([], 18) else (bs ++ rice v k.toNat, 0)
theorem u32_mask {v k : Nat} (hv : v < 4294967296) (hk : k ≤ 24) : bits .and .u32 (v : Int) (((2 : Int) ^ k - 1) % 4294967296) = ((v % 2 ^ k : Nat) : Int) := by
  have hp := Nat.two_pow_pos k
  have hlt : 2 ^ k ≤ 16777216 := Nat.le_trans (Nat.pow_le_pow_right (by omega) hk) (by decide)
  have e1 : ((2 : Int) ^ k - 1) % 4294967296 = ((2 ^ k - 1 : Nat) : Int) := by rw [pow_cast]; omega
  rw [e1, u32_and_nat _ _ hv (by omega), Nat.and_two_pow_sub_one_eq_mod]


set_option maxHeartbeats 1000000 in
theorem rwrite_ret (A : Option Addr) (m c : Nat) (bs : List Bool) (v : Nat) (k : Int) (w : World) (ha : Row .u8 w A m (pack bs)) (hc : m ≤ c ∧ c ≤ 9223372036854775807) (hl : bs.length ≤ 330000) (hv : v < 4294967296) (hk0 : -9223372036854775808 ≤ k ∧ k ≤ 9223372036854775807) :
    Calls Try.prog 54 #[.agg #[.slice A m c, .int .i64 ((bs.length : Nat) : Int)], .int .u32 (v : Int), .int .i64 k] w (RetB w (rwR bs v k).1 (rwR bs v k).2) := by
  have hri := ha.rowIn
  by_cases h1 : k < 0
  · have HR : Hid (rwR bs v k = ([], 2)) := by unfold rwR; rw [if_pos (Or.inl h1)]; rfl
    go_enter Try.func54, Try.ntmps54
    go_wp2_with fail
    refine (bcheck_ok A m c bs _ (by exact ((ha.alloc _).alloc _)) (by omega) hl).mono ?_
    rintro e w1 ⟨rfl, b1⟩
    have s1 := b1.size
    try simp only [World.size_alloc, World.size_setCell, World.size_drew, size_drewN] at s1
    obtain ⟨zb_1, zr_1, rb_1, bb_1⟩ : Blk w1 (w.heap.size) 54 [.slice A m c, .int .i64 ((bs.length : Nat) : Int)] ∧ Blk w1 (w.heap.size + 1) 54 [.slice none 0 0, .int .i64 0] ∧ RowIn .u8 w1 (0) (w.heap.size) A m (pack bs) ∧ Below w.heap.size w w1 := by
      refine ⟨?_, ?_, ?_, ?_⟩
      all_goals repeat' (first | (with_reducible assumption) | (with_reducible exact Below.refl _ _) | (with_reducible refine Blk.after ?_ b1) | (with_reducible refine RowIn.belowS ?_ b1) | (with_reducible refine Below.after ?_ b1 ?_) | (with_reducible refine Blk.drewN ?_ _) | (with_reducible refine RowIn.drewN ?_ _) | (with_reducible refine below_drewN ?_ _) | (with_reducible refine Blk.drew ?_) | (with_reducible refine RowIn.drew ?_) | (with_reducible refine Below.drew ?_) | (with_reducible refine Blk.new' ?_ ?_ <;> first | (with_reducible rfl) | (simp; done)) | (with_reducible refine Blk.alloc ?_ _) | (with_reducible refine RowIn.alloc ?_ _) | (with_reducible refine Below.alloc ?_ ?_ _) | (with_reducible apply Blk.set') | (with_reducible apply Blk.far') | (with_reducible refine RowIn.far' ?_ ?_ _) | (with_reducible refine Below.far' ?_ ?_ _) | rfl | omega | go_size)
    clear b1
    have kb_1 := zb_1.cell; have fb_1 := zb_1.frozen; have lb_1 := zb_1.lt
    have kr_1 := zr_1.cell; have fr_1 := zr_1.frozen; have lr_1 := zr_1.lt
    go_wp2
    refine bodyPost_ret (v := .tuple #[.agg #[.slice none 0 0, .int .i64 0], .int .i64 2]) (by simp [results, Try.results54, go_sem, kr_1]) rfl ?_
    rw [HR.out]
    refine RetB.of rfl (BitsIn.zero _ _ _) ?_
    repeat' (first | (with_reducible assumption) | (with_reducible exact Below.refl _ _) | (with_reducible refine Blk.drewN ?_ _) | (with_reducible refine RowIn.drewN ?_ _) | (with_reducible refine below_drewN ?_ _) | (with_reducible refine Blk.drew ?_) | (with_reducible refine RowIn.drew ?_) | (with_reducible refine Below.drew ?_) | (with_reducible refine Blk.new' ?_ ?_ <;> first | (with_reducible rfl) | (simp; done)) | (with_reducible refine Blk.alloc ?_ _) | (with_reducible refine RowIn.alloc ?_ _) | (with_reducible refine Below.alloc ?_ ?_ _) | (with_reducible apply Blk.set') | (with_reducible apply Blk.far') | (with_reducible refine RowIn.far' ?_ ?_ _) | (with_reducible refine Below.far' ?_ ?_ _) | rfl | omega | go_size)
  by_cases h2 : 24 < k
  · have HR : Hid (rwR bs v k = ([], 2)) := by unfold rwR; rw [if_pos (Or.inr h2)]; rfl
    go_enter Try.func54, Try.ntmps54
    go_wp2_with fail
    refine (bcheck_ok A m c bs _ (by exact ((ha.alloc _).alloc _)) (by omega) hl).mono ?_
    rintro e w1 ⟨rfl, b1⟩
    have s1 := b1.size
    try simp only [World.size_alloc, World.size_setCell, World.size_drew, size_drewN] at s1
    obtain ⟨zb_1, zr_1, rb_1, bb_1⟩ : Blk w1 (w.heap.size) 54 [.slice A m c, .int .i64 ((bs.length : Nat) : Int)] ∧ Blk w1 (w.heap.size + 1) 54 [.slice none 0 0, .int .i64 0] ∧ RowIn .u8 w1 (0) (w.heap.size) A m (pack bs) ∧ Below w.heap.size w w1 := by
      refine ⟨?_, ?_, ?_, ?_⟩
      all_goals repeat' (first | (with_reducible assumption) | (with_reducible exact Below.refl _ _) | (with_reducible refine Blk.after ?_ b1) | (with_reducible refine RowIn.belowS ?_ b1) | (with_reducible refine Below.after ?_ b1 ?_) | (with_reducible refine Blk.drewN ?_ _) | (with_reducible refine RowIn.drewN ?_ _) | (with_reducible refine below_drewN ?_ _) | (with_reducible refine Blk.drew ?_) | (with_reducible refine RowIn.drew ?_) | (with_reducible refine Below.drew ?_) | (with_reducible refine Blk.new' ?_ ?_ <;> first | (with_reducible rfl) | (simp; done)) | (with_reducible refine Blk.alloc ?_ _) | (with_reducible refine RowIn.alloc ?_ _) | (with_reducible refine Below.alloc ?_ ?_ _) | (with_reducible apply Blk.set') | (with_reducible apply Blk.far') | (with_reducible refine RowIn.far' ?_ ?_ _) | (with_reducible refine Below.far' ?_ ?_ _) | rfl | omega | go_size)
    clear b1
    have kb_1 := zb_1.cell; have fb_1 := zb_1.frozen; have lb_1 := zb_1.lt
    have kr_1 := zr_1.cell; have fr_1 := zr_1.frozen; have lr_1 := zr_1.lt
    go_wp2
    refine bodyPost_ret (v := .tuple #[.agg #[.slice none 0 0, .int .i64 0], .int .i64 2]) (by simp [results, Try.results54, go_sem, kr_1]) rfl ?_
    rw [HR.out]
    refine RetB.of rfl (BitsIn.zero _ _ _) ?_
    repeat' (first | (with_reducible assumption) | (with_reducible exact Below.refl _ _) | (with_reducible refine Blk.drewN ?_ _) | (with_reducible refine RowIn.drewN ?_ _) | (with_reducible refine below_drewN ?_ _) | (with_reducible refine Blk.drew ?_) | (with_reducible refine RowIn.drew ?_) | (with_reducible refine Below.drew ?_) | (with_reducible refine Blk.new' ?_ ?_ <;> first | (with_reducible rfl) | (simp; done)) | (with_reducible refine Blk.alloc ?_ _) | (with_reducible refine RowIn.alloc ?_ _) | (with_reducible refine Below.alloc ?_ ?_ _) | (with_reducible apply Blk.set') | (with_reducible apply Blk.far') | (with_reducible refine RowIn.far' ?_ ?_ _) | (with_reducible refine Below.far' ?_ ?_ _) | rfl | omega | go_size)
  obtain ⟨k, rfl⟩ := Int.eq_ofNat_of_zero_le (by omega : 0 ≤ k)
  have hk : k ≤ 24 := by omega
  have HR0 : Hid (rwR bs v (k : Nat) = if 330000 < bs.length + riceLen v k then ([], 18) else (bs ++ rice v k, 0)) := by unfold rwR; rw [if_neg (by omega)]; rfl
  obtain ⟨q, hq⟩ : ∃ q, q = v / 2 ^ k := ⟨_, rfl⟩
  obtain ⟨r, hr⟩ : ∃ r, r = v % 2 ^ k := ⟨_, rfl⟩
  have e1 : (v : Int) / 2 ^ k = (q : Int) := by rw [pow_cast, ← Int.natCast_ediv, hq]
  have e2 := u32_mask hv hk
  rw [← hr] at e2
  have hqb : q < 4294967296 := by rw [hq]; exact Nat.lt_of_le_of_lt (Nat.div_le_self _ _) hv
  have hrk : r < 2 ^ k := by rw [hr]; exact Nat.mod_lt _ (Nat.two_pow_pos k)
  have hrb : r < 4294967296 := by rw [hr]; exact Nat.lt_of_le_of_lt (Nat.mod_le _ _) hv
  have HQ := Lib.hid hq; have HRM := Lib.hid hr; have HRK := Lib.hid hrk
  clear hq hr hrk h1 h2
  have e3 : IntKind.i64.wrap (q : Int) = (q : Int) := IntWalk.i64_in _ (by omega)
  have e4 : IntKind.u64.wrap (r : Int) = (r : Int) := IntWalk.u64_in _ (by omega)
  have e5 : IntKind.u64.wrap (v : Int) = (v : Int) := IntWalk.u64_in _ (by omega)
  by_cases h48 : q < 48
  · go_enter Try.func54, Try.ntmps54
    go_wp2_with fail
    refine (bcheck_ok A m c bs _ (by exact ((ha.alloc _).alloc _)) (by omega) hl).mono ?_
    rintro e w1 ⟨rfl, b1⟩
    have s1 := b1.size
    try simp only [World.size_alloc, World.size_setCell, World.size_drew, size_drewN] at s1
    obtain ⟨zb_1, zr_1, rb_1, bb_1⟩ : Blk w1 (w.heap.size) 54 [.slice A m c, .int .i64 ((bs.length : Nat) : Int)] ∧ Blk w1 (w.heap.size + 1) 54 [.slice none 0 0, .int .i64 0] ∧ RowIn .u8 w1 (0) (w.heap.size) A m (pack bs) ∧ Below w.heap.size w w1 := by
      refine ⟨?_, ?_, ?_, ?_⟩
      all_goals repeat' (first | (with_reducible assumption) | (with_reducible exact Below.refl _ _) | (with_reducible refine Blk.after ?_ b1) | (with_reducible refine RowIn.belowS ?_ b1) | (with_reducible refine Below.after ?_ b1 ?_) | (with_reducible refine Blk.drewN ?_ _) | (with_reducible refine RowIn.drewN ?_ _) | (with_reducible refine below_drewN ?_ _) | (with_reducible refine Blk.drew ?_) | (with_reducible refine RowIn.drew ?_) | (with_reducible refine Below.drew ?_) | (with_reducible refine Blk.new' ?_ ?_ <;> first | (with_reducible rfl) | (simp; done)) | (with_reducible refine Blk.alloc ?_ _) | (with_reducible refine RowIn.alloc ?_ _) | (with_reducible refine Below.alloc ?_ ?_ _) | (with_reducible apply Blk.set') | (with_reducible apply Blk.far') | (with_reducible refine RowIn.far' ?_ ?_ _) | (with_reducible refine Below.far' ?_ ?_ _) | rfl | omega | go_size)
    clear b1
    have kb_1 := zb_1.cell; have fb_1 := zb_1.frozen; have lb_1 := zb_1.lt
    have kr_1 := zr_1.cell; have fr_1 := zr_1.frozen; have lr_1 := zr_1.lt
    go_wp2_with fail
    go_quiet (fail)
    clear e3
    generalize hwd : w1.drewN nq = w2
    have b2 : Below w1.heap.size w1 w2 := by rw [← hwd]; exact below_drewN (Below.refl _ _) _
    clear hwd
    have s2 := b2.size
    try simp only [World.size_alloc, World.size_setCell, World.size_drew, size_drewN] at s2
    obtain ⟨zb_2, zr_2, rb_2, bb_2⟩ : Blk w2 (w.heap.size) 54 [.slice A m c, .int .i64 ((bs.length : Nat) : Int)] ∧ Blk w2 (w.heap.size + 1) 54 [.slice none 0 0, .int .i64 0] ∧ RowIn .u8 w2 (0) (w.heap.size) A m (pack bs) ∧ Below w.heap.size w w2 := by
      refine ⟨?_, ?_, ?_, ?_⟩
      all_goals repeat' (first | (with_reducible assumption) | (with_reducible exact Below.refl _ _) | (with_reducible refine Blk.after ?_ b2) | (with_reducible refine RowIn.belowS ?_ b2) | (with_reducible refine Below.after ?_ b2 ?_) | (with_reducible refine Blk.drewN ?_ _) | (with_reducible refine RowIn.drewN ?_ _) | (with_reducible refine below_drewN ?_ _) | (with_reducible refine Blk.drew ?_) | (with_reducible refine RowIn.drew ?_) | (with_reducible refine Below.drew ?_) | (with_reducible refine Blk.new' ?_ ?_ <;> first | (with_reducible rfl) | (simp; done)) | (with_reducible refine Blk.alloc ?_ _) | (with_reducible refine RowIn.alloc ?_ _) | (with_reducible refine Below.alloc ?_ ?_ _) | (with_reducible apply Blk.set') | (with_reducible apply Blk.far') | (with_reducible refine RowIn.far' ?_ ?_ _) | (with_reducible refine Below.far' ?_ ?_ _) | rfl | omega | go_size)
    clear zb_1 zr_1 rb_1 bb_1 kb_1 fb_1 lb_1 kr_1 fr_1 lr_1 b2
    have kb_2 := zb_2.cell; have fb_2 := zb_2.frozen; have lb_2 := zb_2.lt
    have kr_2 := zr_2.cell; have fr_2 := zr_2.frozen; have lr_2 := zr_2.lt
    go_wp2_with fail
    refine (resc_no v k q _ hk hv HQ.out (by omega)).mono ?_
    rintro e _ ⟨rfl, rfl⟩
    go_wp2_with fail
    have hw := uwrite_ret A m c bs ((q : Nat) : Int) w2 rb_2.row hc hl (by omega)
    have HLEN : Hid (riceLen v k = runLen (((q : Nat) : Int)).toNat + k) := by
      have hq := HQ.out
      unfold riceLen; rw [← hq, if_pos (by omega), Int.toNat_natCast, runLen_lt (by omega)]; exact Lib.hid rfl
    have hrl : runLen (((q : Nat) : Int)).toNat ≤ 48 := by unfold runLen; omega
    by_cases h3 : 330000 < bs.length + runLen (((q : Nat) : Int)).toNat
    · have hu : uwR bs ((q : Nat) : Int) = ([], 18) := by unfold uwR; rw [if_neg (by omega), if_pos h3]
      rw [hu] at hw
      have HW := Lib.hid hw
      have HR : Hid (rwR bs v (k : Nat) = ([], 18)) := by rw [HR0.out, if_pos (by have := HLEN.out; omega)]; rfl
      clear hw hu
      refine (HW.out).mono ?_
      rintro e w3 ⟨Ax, mx, cx, xx, rfl, hcx, rx, HXx, b3⟩
      replace rx := rx.mono (lo' := w2.heap.size + 0) (by go_size) (Nat.le_refl _)
      have s3 := b3.size
      try simp only [World.size_alloc, World.size_setCell, World.size_drew, size_drewN] at s3
      obtain ⟨zb_3, zr_3, rb_3, rx_3, bb_3⟩ : Blk w3 (w.heap.size) 54 [.slice A m c, .int .i64 ((bs.length : Nat) : Int)] ∧ Blk w3 (w.heap.size + 1) 54 [.slice none 0 0, .int .i64 0] ∧ RowIn .u8 w3 (0) (w.heap.size) A m (pack bs) ∧ RowIn .u8 w3 (w2.heap.size + 0) (w3.heap.size) Ax mx (pack xx) ∧ Below w.heap.size w w3 := by
        refine ⟨?_, ?_, ?_, ?_, ?_⟩
        all_goals repeat' (first | (with_reducible assumption) | (with_reducible exact Below.refl _ _) | (with_reducible refine Blk.after ?_ b3) | (with_reducible refine RowIn.belowS ?_ b3) | (with_reducible refine Below.after ?_ b3 ?_) | (with_reducible refine Blk.drewN ?_ _) | (with_reducible refine RowIn.drewN ?_ _) | (with_reducible refine below_drewN ?_ _) | (with_reducible refine Blk.drew ?_) | (with_reducible refine RowIn.drew ?_) | (with_reducible refine Below.drew ?_) | (with_reducible refine Blk.new' ?_ ?_ <;> first | (with_reducible rfl) | (simp; done)) | (with_reducible refine Blk.alloc ?_ _) | (with_reducible refine RowIn.alloc ?_ _) | (with_reducible refine Below.alloc ?_ ?_ _) | (with_reducible apply Blk.set') | (with_reducible apply Blk.far') | (with_reducible refine RowIn.far' ?_ ?_ _) | (with_reducible refine Below.far' ?_ ?_ _) | rfl | omega | go_size)
      clear zb_2 zr_2 rb_2 bb_2 kb_2 fb_2 lb_2 kr_2 fr_2 lr_2 b3
      have kb_3 := zb_3.cell; have fb_3 := zb_3.frozen; have lb_3 := zb_3.lt
      have kr_3 := zr_3.cell; have fr_3 := zr_3.frozen; have lr_3 := zr_3.lt
      clear rx
      go_wp2
      refine bodyPost_ret (v := .tuple #[.agg #[.slice none 0 0, .int .i64 0], .int .i64 18]) (by simp [results, Try.results54, go_sem, kr_3]) rfl ?_
      rw [HR.out]
      refine RetB.of rfl (BitsIn.zero _ _ _) ?_
      repeat' (first | (with_reducible assumption) | (with_reducible exact Below.refl _ _) | (with_reducible refine Blk.drewN ?_ _) | (with_reducible refine RowIn.drewN ?_ _) | (with_reducible refine below_drewN ?_ _) | (with_reducible refine Blk.drew ?_) | (with_reducible refine RowIn.drew ?_) | (with_reducible refine Below.drew ?_) | (with_reducible refine Blk.new' ?_ ?_ <;> first | (with_reducible rfl) | (simp; done)) | (with_reducible refine Blk.alloc ?_ _) | (with_reducible refine RowIn.alloc ?_ _) | (with_reducible refine Below.alloc ?_ ?_ _) | (with_reducible apply Blk.set') | (with_reducible apply Blk.far') | (with_reducible refine RowIn.far' ?_ ?_ _) | (with_reducible refine Below.far' ?_ ?_ _) | rfl | omega | go_size)
    have hu : uwR bs ((q : Nat) : Int) = (bs ++ run (((q : Nat) : Int)).toNat, 0) := by unfold uwR; rw [if_neg (by omega), if_neg h3]
    rw [hu] at hw
    have HW := Lib.hid hw
    clear hw hu
    refine (HW.out).mono ?_
    rintro e w3 ⟨Ax, mx, cx, xx, rfl, hcx, rx, HXx, b3⟩
    have Lx : xx.length ≤ bs.length + runLen (((q : Nat) : Int)).toNat ∧ bs.length + runLen (((q : Nat) : Int)).toNat ≤ xx.length := by rw [HXx.out]; rw [List.length_append, run_len (by omega)]; omega
    obtain ⟨Lx1, Lx2⟩ := Lx
    replace rx := rx.mono (lo' := w2.heap.size + 0) (by go_size) (Nat.le_refl _)
    have s3 := b3.size
    try simp only [World.size_alloc, World.size_setCell, World.size_drew, size_drewN] at s3
    obtain ⟨zb_3, zr_3, rb_3, rx_3, bb_3⟩ : Blk w3 (w.heap.size) 54 [.slice A m c, .int .i64 ((bs.length : Nat) : Int)] ∧ Blk w3 (w.heap.size + 1) 54 [.slice none 0 0, .int .i64 0] ∧ RowIn .u8 w3 (0) (w.heap.size) A m (pack bs) ∧ RowIn .u8 w3 (w2.heap.size + 0) (w3.heap.size) Ax mx (pack xx) ∧ Below w.heap.size w w3 := by
      refine ⟨?_, ?_, ?_, ?_, ?_⟩
      all_goals repeat' (first | (with_reducible assumption) | (with_reducible exact Below.refl _ _) | (with_reducible refine Blk.after ?_ b3) | (with_reducible refine RowIn.belowS ?_ b3) | (with_reducible refine Below.after ?_ b3 ?_) | (with_reducible refine Blk.drewN ?_ _) | (with_reducible refine RowIn.drewN ?_ _) | (with_reducible refine below_drewN ?_ _) | (with_reducible refine Blk.drew ?_) | (with_reducible refine RowIn.drew ?_) | (with_reducible refine Below.drew ?_) | (with_reducible refine Blk.new' ?_ ?_ <;> first | (with_reducible rfl) | (simp; done)) | (with_reducible refine Blk.alloc ?_ _) | (with_reducible refine RowIn.alloc ?_ _) | (with_reducible refine Below.alloc ?_ ?_ _) | (with_reducible apply Blk.set') | (with_reducible apply Blk.far') | (with_reducible refine RowIn.far' ?_ ?_ _) | (with_reducible refine Below.far' ?_ ?_ _) | rfl | omega | go_size)
    clear zb_2 zr_2 rb_2 bb_2 kb_2 fb_2 lb_2 kr_2 fr_2 lr_2 b3
    have kb_3 := zb_3.cell; have fb_3 := zb_3.frozen; have lb_3 := zb_3.lt
    have kr_3 := zr_3.cell; have fr_3 := zr_3.frozen; have lr_3 := zr_3.lt
    clear rx
    have HP : Hid (putR xx (((r : Nat) : Int)).toNat ((k : Nat) : Int) = rwR bs v (k : Nat)) := by
      have hq := HQ.out
      have hlen := HLEN.out
      rw [HR0.out, Int.toNat_natCast]
      unfold putR
      rw [if_neg (by omega), if_neg (by rw [Int.toNat_natCast]; exact Nat.not_le.2 HRK.out)]
      by_cases h5 : 330000 < bs.length + riceLen v k
      · rw [if_pos h5, if_pos (by rw [Int.toNat_natCast]; omega)]; exact Lib.hid rfl
      · rw [if_neg h5, if_neg (by rw [Int.toNat_natCast]; omega), HXx.out]
        refine Lib.hid ?_
        unfold rice
        rw [← hq, if_pos (by omega), HRM.out, Int.toNat_natCast, Int.toNat_natCast, List.append_assoc]
    go_wp2_with fail
    refine (bput_ret Ax mx cx xx ((r : Nat) : Int) ((k : Nat) : Int) _ (by exact (rx_3.far' (Or.inl (by omega)) _).far' (Or.inl (by omega)) _ |>.row) hcx (by omega) (by omega) (by omega)).mono ?_
    rintro e w4 ⟨Ay, my, cy, xy, rfl, hcy, ry, HXy, b4⟩
    replace ry := ry.mono (lo' := w3.heap.size) (by go_size) (Nat.le_refl _)
    have s4 := b4.size
    try simp only [World.size_alloc, World.size_setCell, World.size_drew, size_drewN] at s4
    obtain ⟨zb_4, zr_4, ry_4, bb_4⟩ : Blk w4 (w.heap.size) 54 [.slice Ax mx cx, .int .i64 ((xx.length : Nat) : Int)] ∧ Blk w4 (w.heap.size + 1) 54 [.slice none 0 0, .int .i64 0] ∧ RowIn .u8 w4 (w3.heap.size) (w4.heap.size) Ay my (pack xy) ∧ Below w.heap.size w w4 := by
      refine ⟨?_, ?_, ?_, ?_⟩
      all_goals repeat' (first | (with_reducible assumption) | (with_reducible exact Below.refl _ _) | (with_reducible refine Blk.after ?_ b4) | (with_reducible refine RowIn.belowS ?_ b4) | (with_reducible refine Below.after ?_ b4 ?_) | (with_reducible refine Blk.drewN ?_ _) | (with_reducible refine RowIn.drewN ?_ _) | (with_reducible refine below_drewN ?_ _) | (with_reducible refine Blk.drew ?_) | (with_reducible refine RowIn.drew ?_) | (with_reducible refine Below.drew ?_) | (with_reducible refine Blk.new' ?_ ?_ <;> first | (with_reducible rfl) | (simp; done)) | (with_reducible refine Blk.alloc ?_ _) | (with_reducible refine RowIn.alloc ?_ _) | (with_reducible refine Below.alloc ?_ ?_ _) | (with_reducible apply Blk.set') | (with_reducible apply Blk.far') | (with_reducible refine RowIn.far' ?_ ?_ _) | (with_reducible refine Below.far' ?_ ?_ _) | rfl | omega | go_size)
    clear zb_3 zr_3 rb_3 rx_3 bb_3 kb_3 fb_3 lb_3 kr_3 fr_3 lr_3 b4
    have kb_4 := zb_4.cell; have fb_4 := zb_4.frozen; have lb_4 := zb_4.lt
    have kr_4 := zr_4.cell; have fr_4 := zr_4.frozen; have lr_4 := zr_4.lt
    rw [HP.out] at HXy
    skip
    have HPP := HP
    go_wp2
    refine bodyPost_ret (v := .tuple #[.agg #[.slice Ay my cy, .int .i64 ((xy.length : Nat) : Int)], .int .i64 (putR xx (((r : Nat) : Int)).toNat ((k : Nat) : Int)).2]) (by simp [results, Try.results54, go_sem, kr_4]) rfl ?_
    rw [HP.out]
    refine RetB.of (x := .agg #[.slice Ay my cy, .int .i64 ((xy.length : Nat) : Int)]) rfl ⟨Ay, my, cy, by rw [HXy.out], hcy, ?_⟩ ?_
    · rw [← HXy.out]
      refine RowIn.mono (lo := w3.heap.size) (hi := w4.heap.size) ?_ (by omega) (by go_size)
      repeat' (first | (with_reducible assumption) | (with_reducible exact Below.refl _ _) | (with_reducible refine Blk.drewN ?_ _) | (with_reducible refine RowIn.drewN ?_ _) | (with_reducible refine below_drewN ?_ _) | (with_reducible refine Blk.drew ?_) | (with_reducible refine RowIn.drew ?_) | (with_reducible refine Below.drew ?_) | (with_reducible refine Blk.new' ?_ ?_ <;> first | (with_reducible rfl) | (simp; done)) | (with_reducible refine Blk.alloc ?_ _) | (with_reducible refine RowIn.alloc ?_ _) | (with_reducible refine Below.alloc ?_ ?_ _) | (with_reducible apply Blk.set') | (with_reducible apply Blk.far') | (with_reducible refine RowIn.far' ?_ ?_ _) | (with_reducible refine Below.far' ?_ ?_ _) | rfl | omega | go_size)
    · repeat' (first | (with_reducible assumption) | (with_reducible exact Below.refl _ _) | (with_reducible refine Blk.drewN ?_ _) | (with_reducible refine RowIn.drewN ?_ _) | (with_reducible refine below_drewN ?_ _) | (with_reducible refine Blk.drew ?_) | (with_reducible refine RowIn.drew ?_) | (with_reducible refine Below.drew ?_) | (with_reducible refine Blk.new' ?_ ?_ <;> first | (with_reducible rfl) | (simp; done)) | (with_reducible refine Blk.alloc ?_ _) | (with_reducible refine RowIn.alloc ?_ _) | (with_reducible refine Below.alloc ?_ ?_ _) | (with_reducible apply Blk.set') | (with_reducible apply Blk.far') | (with_reducible refine RowIn.far' ?_ ?_ _) | (with_reducible refine Below.far' ?_ ?_ _) | rfl | omega | go_size)
  · go_enter Try.func54, Try.ntmps54
    go_wp2_with fail
    refine (bcheck_ok A m c bs _ (by exact ((ha.alloc _).alloc _)) (by omega) hl).mono ?_
    rintro e w1 ⟨rfl, b1⟩
    have s1 := b1.size
    try simp only [World.size_alloc, World.size_setCell, World.size_drew, size_drewN] at s1
    obtain ⟨zb_1, zr_1, rb_1, bb_1⟩ : Blk w1 (w.heap.size) 54 [.slice A m c, .int .i64 ((bs.length : Nat) : Int)] ∧ Blk w1 (w.heap.size + 1) 54 [.slice none 0 0, .int .i64 0] ∧ RowIn .u8 w1 (0) (w.heap.size) A m (pack bs) ∧ Below w.heap.size w w1 := by
      refine ⟨?_, ?_, ?_, ?_⟩
      all_goals repeat' (first | (with_reducible assumption) | (with_reducible exact Below.refl _ _) | (with_reducible refine Blk.after ?_ b1) | (with_reducible refine RowIn.belowS ?_ b1) | (with_reducible refine Below.after ?_ b1 ?_) | (with_reducible refine Blk.drewN ?_ _) | (with_reducible refine RowIn.drewN ?_ _) | (with_reducible refine below_drewN ?_ _) | (with_reducible refine Blk.drew ?_) | (with_reducible refine RowIn.drew ?_) | (with_reducible refine Below.drew ?_) | (with_reducible refine Blk.new' ?_ ?_ <;> first | (with_reducible rfl) | (simp; done)) | (with_reducible refine Blk.alloc ?_ _) | (with_reducible refine RowIn.alloc ?_ _) | (with_reducible refine Below.alloc ?_ ?_ _) | (with_reducible apply Blk.set') | (with_reducible apply Blk.far') | (with_reducible refine RowIn.far' ?_ ?_ _) | (with_reducible refine Below.far' ?_ ?_ _) | rfl | omega | go_size)
    clear b1
    have kb_1 := zb_1.cell; have fb_1 := zb_1.frozen; have lb_1 := zb_1.lt
    have kr_1 := zr_1.cell; have fr_1 := zr_1.frozen; have lr_1 := zr_1.lt
    go_wp2_with fail
    go_quiet (fail)
    clear e3
    generalize hwd : w1.drewN nq = w2
    have b2 : Below w1.heap.size w1 w2 := by rw [← hwd]; exact below_drewN (Below.refl _ _) _
    clear hwd
    have s2 := b2.size
    try simp only [World.size_alloc, World.size_setCell, World.size_drew, size_drewN] at s2
    obtain ⟨zb_2, zr_2, rb_2, bb_2⟩ : Blk w2 (w.heap.size) 54 [.slice A m c, .int .i64 ((bs.length : Nat) : Int)] ∧ Blk w2 (w.heap.size + 1) 54 [.slice none 0 0, .int .i64 0] ∧ RowIn .u8 w2 (0) (w.heap.size) A m (pack bs) ∧ Below w.heap.size w w2 := by
      refine ⟨?_, ?_, ?_, ?_⟩
      all_goals repeat' (first | (with_reducible assumption) | (with_reducible exact Below.refl _ _) | (with_reducible refine Blk.after ?_ b2) | (with_reducible refine RowIn.belowS ?_ b2) | (with_reducible refine Below.after ?_ b2 ?_) | (with_reducible refine Blk.drewN ?_ _) | (with_reducible refine RowIn.drewN ?_ _) | (with_reducible refine below_drewN ?_ _) | (with_reducible refine Blk.drew ?_) | (with_reducible refine RowIn.drew ?_) | (with_reducible refine Below.drew ?_) | (with_reducible refine Blk.new' ?_ ?_ <;> first | (with_reducible rfl) | (simp; done)) | (with_reducible refine Blk.alloc ?_ _) | (with_reducible refine RowIn.alloc ?_ _) | (with_reducible refine Below.alloc ?_ ?_ _) | (with_reducible apply Blk.set') | (with_reducible apply Blk.far') | (with_reducible refine RowIn.far' ?_ ?_ _) | (with_reducible refine Below.far' ?_ ?_ _) | rfl | omega | go_size)
    clear zb_1 zr_1 rb_1 bb_1 kb_1 fb_1 lb_1 kr_1 fr_1 lr_1 b2
    have kb_2 := zb_2.cell; have fb_2 := zb_2.frozen; have lb_2 := zb_2.lt
    have kr_2 := zr_2.cell; have fr_2 := zr_2.frozen; have lr_2 := zr_2.lt
    go_wp2_with fail
    refine (resc_yes v k q _ hk hv HQ.out (by omega)).mono ?_
    rintro e _ ⟨rfl, rfl⟩
    go_wp2_with fail
    have hw := uwrite_ret A m c bs (48 : Int) w2 rb_2.row hc hl (by omega)
    have HLEN : Hid (riceLen v k = runLen ((48 : Int)).toNat + 32) := by
      have hq := HQ.out
      unfold riceLen; rw [← hq, if_neg (by omega)]; exact Lib.hid rfl
    have hrl : runLen ((48 : Int)).toNat ≤ 48 := by unfold runLen; omega
    by_cases h3 : 330000 < bs.length + runLen ((48 : Int)).toNat
    · have hu : uwR bs (48 : Int) = ([], 18) := by unfold uwR; rw [if_neg (by omega), if_pos h3]
      rw [hu] at hw
      have HW := Lib.hid hw
      have HR : Hid (rwR bs v (k : Nat) = ([], 18)) := by rw [HR0.out, if_pos (by have := HLEN.out; omega)]; rfl
      clear hw hu
      refine (HW.out).mono ?_
      rintro e w3 ⟨Ax, mx, cx, xx, rfl, hcx, rx, HXx, b3⟩
      replace rx := rx.mono (lo' := w2.heap.size + 0) (by go_size) (Nat.le_refl _)
      have s3 := b3.size
      try simp only [World.size_alloc, World.size_setCell, World.size_drew, size_drewN] at s3
      obtain ⟨zb_3, zr_3, rb_3, rx_3, bb_3⟩ : Blk w3 (w.heap.size) 54 [.slice A m c, .int .i64 ((bs.length : Nat) : Int)] ∧ Blk w3 (w.heap.size + 1) 54 [.slice none 0 0, .int .i64 0] ∧ RowIn .u8 w3 (0) (w.heap.size) A m (pack bs) ∧ RowIn .u8 w3 (w2.heap.size + 0) (w3.heap.size) Ax mx (pack xx) ∧ Below w.heap.size w w3 := by
        refine ⟨?_, ?_, ?_, ?_, ?_⟩
        all_goals repeat' (first | (with_reducible assumption) | (with_reducible exact Below.refl _ _) | (with_reducible refine Blk.after ?_ b3) | (with_reducible refine RowIn.belowS ?_ b3) | (with_reducible refine Below.after ?_ b3 ?_) | (with_reducible refine Blk.drewN ?_ _) | (with_reducible refine RowIn.drewN ?_ _) | (with_reducible refine below_drewN ?_ _) | (with_reducible refine Blk.drew ?_) | (with_reducible refine RowIn.drew ?_) | (with_reducible refine Below.drew ?_) | (with_reducible refine Blk.new' ?_ ?_ <;> first | (with_reducible rfl) | (simp; done)) | (with_reducible refine Blk.alloc ?_ _) | (with_reducible refine RowIn.alloc ?_ _) | (with_reducible refine Below.alloc ?_ ?_ _) | (with_reducible apply Blk.set') | (with_reducible apply Blk.far') | (with_reducible refine RowIn.far' ?_ ?_ _) | (with_reducible refine Below.far' ?_ ?_ _) | rfl | omega | go_size)
      clear zb_2 zr_2 rb_2 bb_2 kb_2 fb_2 lb_2 kr_2 fr_2 lr_2 b3
      have kb_3 := zb_3.cell; have fb_3 := zb_3.frozen; have lb_3 := zb_3.lt
      have kr_3 := zr_3.cell; have fr_3 := zr_3.frozen; have lr_3 := zr_3.lt
      clear rx
      go_wp2
      refine bodyPost_ret (v := .tuple #[.agg #[.slice none 0 0, .int .i64 0], .int .i64 18]) (by simp [results, Try.results54, go_sem, kr_3]) rfl ?_
      rw [HR.out]
      refine RetB.of rfl (BitsIn.zero _ _ _) ?_
      repeat' (first | (with_reducible assumption) | (with_reducible exact Below.refl _ _) | (with_reducible refine Blk.drewN ?_ _) | (with_reducible refine RowIn.drewN ?_ _) | (with_reducible refine below_drewN ?_ _) | (with_reducible refine Blk.drew ?_) | (with_reducible refine RowIn.drew ?_) | (with_reducible refine Below.drew ?_) | (with_reducible refine Blk.new' ?_ ?_ <;> first | (with_reducible rfl) | (simp; done)) | (with_reducible refine Blk.alloc ?_ _) | (with_reducible refine RowIn.alloc ?_ _) | (with_reducible refine Below.alloc ?_ ?_ _) | (with_reducible apply Blk.set') | (with_reducible apply Blk.far') | (with_reducible refine RowIn.far' ?_ ?_ _) | (with_reducible refine Below.far' ?_ ?_ _) | rfl | omega | go_size)
    have hu : uwR bs (48 : Int) = (bs ++ run ((48 : Int)).toNat, 0) := by unfold uwR; rw [if_neg (by omega), if_neg h3]
    rw [hu] at hw
    have HW := Lib.hid hw
    clear hw hu
    refine (HW.out).mono ?_
    rintro e w3 ⟨Ax, mx, cx, xx, rfl, hcx, rx, HXx, b3⟩
    have Lx : xx.length ≤ bs.length + runLen ((48 : Int)).toNat ∧ bs.length + runLen ((48 : Int)).toNat ≤ xx.length := by rw [HXx.out]; rw [List.length_append, run_len (by omega)]; omega
    obtain ⟨Lx1, Lx2⟩ := Lx
    replace rx := rx.mono (lo' := w2.heap.size + 0) (by go_size) (Nat.le_refl _)
    have s3 := b3.size
    try simp only [World.size_alloc, World.size_setCell, World.size_drew, size_drewN] at s3
    obtain ⟨zb_3, zr_3, rb_3, rx_3, bb_3⟩ : Blk w3 (w.heap.size) 54 [.slice A m c, .int .i64 ((bs.length : Nat) : Int)] ∧ Blk w3 (w.heap.size + 1) 54 [.slice none 0 0, .int .i64 0] ∧ RowIn .u8 w3 (0) (w.heap.size) A m (pack bs) ∧ RowIn .u8 w3 (w2.heap.size + 0) (w3.heap.size) Ax mx (pack xx) ∧ Below w.heap.size w w3 := by
      refine ⟨?_, ?_, ?_, ?_, ?_⟩
      all_goals repeat' (first | (with_reducible assumption) | (with_reducible exact Below.refl _ _) | (with_reducible refine Blk.after ?_ b3) | (with_reducible refine RowIn.belowS ?_ b3) | (with_reducible refine Below.after ?_ b3 ?_) | (with_reducible refine Blk.drewN ?_ _) | (with_reducible refine RowIn.drewN ?_ _) | (with_reducible refine below_drewN ?_ _) | (with_reducible refine Blk.drew ?_) | (with_reducible refine RowIn.drew ?_) | (with_reducible refine Below.drew ?_) | (with_reducible refine Blk.new' ?_ ?_ <;> first | (with_reducible rfl) | (simp; done)) | (with_reducible refine Blk.alloc ?_ _) | (with_reducible refine RowIn.alloc ?_ _) | (with_reducible refine Below.alloc ?_ ?_ _) | (with_reducible apply Blk.set') | (with_reducible apply Blk.far') | (with_reducible refine RowIn.far' ?_ ?_ _) | (with_reducible refine Below.far' ?_ ?_ _) | rfl | omega | go_size)
    clear zb_2 zr_2 rb_2 bb_2 kb_2 fb_2 lb_2 kr_2 fr_2 lr_2 b3
    have kb_3 := zb_3.cell; have fb_3 := zb_3.frozen; have lb_3 := zb_3.lt
    have kr_3 := zr_3.cell; have fr_3 := zr_3.frozen; have lr_3 := zr_3.lt
    clear rx
    have HP : Hid (putR xx (((v : Nat) : Int)).toNat (32 : Int) = rwR bs v (k : Nat)) := by
      have hq := HQ.out
      have hlen := HLEN.out
      rw [HR0.out, Int.toNat_natCast]
      unfold putR
      rw [if_neg (by omega), if_neg (by have : v < 2 ^ 32 := hv; exact Nat.not_le.2 this)]
      by_cases h5 : 330000 < bs.length + riceLen v k
      · rw [if_pos h5, if_pos (by omega)]; exact Lib.hid rfl
      · rw [if_neg h5, if_neg (by omega), HXx.out]
        refine Lib.hid ?_
        unfold rice
        rw [← hq, if_neg (by omega), List.append_assoc]; rfl
    go_wp2_with fail
    refine (bput_ret Ax mx cx xx ((v : Nat) : Int) (32 : Int) _ (by exact (rx_3.far' (Or.inl (by omega)) _).far' (Or.inl (by omega)) _ |>.row) hcx (by omega) (by omega) (by omega)).mono ?_
    rintro e w4 ⟨Ay, my, cy, xy, rfl, hcy, ry, HXy, b4⟩
    replace ry := ry.mono (lo' := w3.heap.size) (by go_size) (Nat.le_refl _)
    have s4 := b4.size
    try simp only [World.size_alloc, World.size_setCell, World.size_drew, size_drewN] at s4
    obtain ⟨zb_4, zr_4, ry_4, bb_4⟩ : Blk w4 (w.heap.size) 54 [.slice Ax mx cx, .int .i64 ((xx.length : Nat) : Int)] ∧ Blk w4 (w.heap.size + 1) 54 [.slice none 0 0, .int .i64 0] ∧ RowIn .u8 w4 (w3.heap.size) (w4.heap.size) Ay my (pack xy) ∧ Below w.heap.size w w4 := by
      refine ⟨?_, ?_, ?_, ?_⟩
      all_goals repeat' (first | (with_reducible assumption) | (with_reducible exact Below.refl _ _) | (with_reducible refine Blk.after ?_ b4) | (with_reducible refine RowIn.belowS ?_ b4) | (with_reducible refine Below.after ?_ b4 ?_) | (with_reducible refine Blk.drewN ?_ _) | (with_reducible refine RowIn.drewN ?_ _) | (with_reducible refine below_drewN ?_ _) | (with_reducible refine Blk.drew ?_) | (with_reducible refine RowIn.drew ?_) | (with_reducible refine Below.drew ?_) | (with_reducible refine Blk.new' ?_ ?_ <;> first | (with_reducible rfl) | (simp; done)) | (with_reducible refine Blk.alloc ?_ _) | (with_reducible refine RowIn.alloc ?_ _) | (with_reducible refine Below.alloc ?_ ?_ _) | (with_reducible apply Blk.set') | (with_reducible apply Blk.far') | (with_reducible refine RowIn.far' ?_ ?_ _) | (with_reducible refine Below.far' ?_ ?_ _) | rfl | omega | go_size)
    clear zb_3 zr_3 rb_3 rx_3 bb_3 kb_3 fb_3 lb_3 kr_3 fr_3 lr_3 b4
    have kb_4 := zb_4.cell; have fb_4 := zb_4.frozen; have lb_4 := zb_4.lt
    have kr_4 := zr_4.cell; have fr_4 := zr_4.frozen; have lr_4 := zr_4.lt
    rw [HP.out] at HXy
    skip
    have HPP := HP
    go_wp2
    refine bodyPost_ret (v := .tuple #[.agg #[.slice Ay my cy, .int .i64 ((xy.length : Nat) : Int)], .int .i64 (putR xx (((v : Nat) : Int)).toNat (32 : Int)).2]) (by simp [results, Try.results54, go_sem, kr_4]) rfl ?_
    rw [HP.out]
    refine RetB.of (x := .agg #[.slice Ay my cy, .int .i64 ((xy.length : Nat) : Int)]) rfl ⟨Ay, my, cy, by rw [HXy.out], hcy, ?_⟩ ?_
    · rw [← HXy.out]
      refine RowIn.mono (lo := w3.heap.size) (hi := w4.heap.size) ?_ (by omega) (by go_size)
      repeat' (first | (with_reducible assumption) | (with_reducible exact Below.refl _ _) | (with_reducible refine Blk.drewN ?_ _) | (with_reducible refine RowIn.drewN ?_ _) | (with_reducible refine below_drewN ?_ _) | (with_reducible refine Blk.drew ?_) | (with_reducible refine RowIn.drew ?_) | (with_reducible refine Below.drew ?_) | (with_reducible refine Blk.new' ?_ ?_ <;> first | (with_reducible rfl) | (simp; done)) | (with_reducible refine Blk.alloc ?_ _) | (with_reducible refine RowIn.alloc ?_ _) | (with_reducible refine Below.alloc ?_ ?_ _) | (with_reducible apply Blk.set') | (with_reducible apply Blk.far') | (with_reducible refine RowIn.far' ?_ ?_ _) | (with_reducible refine Below.far' ?_ ?_ _) | rfl | omega | go_size)
    · repeat' (first | (with_reducible assumption) | (with_reducible exact Below.refl _ _) | (with_reducible refine Blk.drewN ?_ _) | (with_reducible refine RowIn.drewN ?_ _) | (with_reducible refine below_drewN ?_ _) | (with_reducible refine Blk.drew ?_) | (with_reducible refine RowIn.drew ?_) | (with_reducible refine Below.drew ?_) | (with_reducible refine Blk.new' ?_ ?_ <;> first | (with_reducible rfl) | (simp; done)) | (with_reducible refine Blk.alloc ?_ _) | (with_reducible refine RowIn.alloc ?_ _) | (with_reducible refine Below.alloc ?_ ?_ _) | (with_reducible apply Blk.set') | (with_reducible apply Blk.far') | (with_reducible refine RowIn.far' ?_ ?_ _) | (with_reducible refine Below.far' ?_ ?_ _) | rfl | omega | go_size)


end Go.Proofs.Ytpohaikbbfochaa
