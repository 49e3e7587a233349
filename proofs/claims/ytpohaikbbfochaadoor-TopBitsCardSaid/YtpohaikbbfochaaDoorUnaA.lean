/-
  Contracts of Length and Write of runs.
-/
import Derived.Test.YtpohaikbbfochaaDoorBitG
import Derived.Test.YtpohaikbbfochaaDoorCode
namespace Go.Proofs.YtpohaikbbfochaaDoor
open Go.RowKit Cad Cad.Bit Cad.Code
set_option linter.unusedVariables false
set_option linter.unusedSimpArgs false

/-- What Length returns. -/
def ulenR (n : Int) : Int × Int := if n < 0 ∨ 48 < n then (0, 2) else ((runLen n.toNat : Nat), 0)
theorem ulen_bad (n : Int) (w : World) (h : n < 0 ∨ 48 < n) :
    Calls Tryd.prog 41 #[.int .i64 n] w fun e w' => e = .returned (.tuple #[.int .i64 0, .int .i64 2]) ∧ w = w' := by
  rcases h with h | h
  all_goals
    go_enter Tryd.func41, Tryd.ntmps41
    go_wp2
    go_ret2
    exact ⟨rfl, rfl⟩
theorem ulen_ok (n : Int) (w : World) (h0 : 0 ≤ n) (h1 : n ≤ 48) :
    Calls Tryd.prog 41 #[.int .i64 n] w fun e w' => ∃ y : Nat, e = .returned (.tuple #[.int .i64 (y : Int), .int .i64 0]) ∧ Hid (y = runLen n.toNat) ∧ w = w' := by
  obtain ⟨k, rfl⟩ := Int.eq_ofNat_of_zero_le h0
  by_cases h : k < 48
  · have h' : (k : Int) + 1 ≤ 48 := by omega
    go_enter Tryd.func41, Tryd.ntmps41
    go_wp2
    go_ret2
    refine ⟨k + 1, by rfl, Lib.hid ?_, rfl⟩
    rw [Int.toNat_natCast]; unfold runLen; omega
  · obtain rfl : k = 48 := by omega
    go_enter Tryd.func41, Tryd.ntmps41
    go_wp2
    go_ret2
    exact ⟨48, rfl, Lib.hid rfl, rfl⟩

/-- What Write returns. -/
def uwR (bs : List Bool) (n : Int) : List Bool × Int := if n < 0 ∨ 48 < n then ([], 2) else if 330000 < bs.length + runLen n.toNat then ([], 18) else (bs ++ run n.toNat, 0)
theorem ones_word {k : Nat} (h : k ≤ 48) : IntKind.u64.wrap (IntKind.u64.wrap ((2 : Int) ^ k) - 1) = ((2 ^ k - 1 : Nat) : Int) := by
  have hp := Nat.two_pow_pos k
  have hlt : 2 ^ k < 18446744073709551616 := Nat.lt_of_le_of_lt (Nat.pow_le_pow_right (by omega) h) (by decide)
  rw [pow_cast, u64_nat hlt, IntWalk.u64_in _ (by omega)]; omega
theorem run_fits {k : Nat} (h : k ≤ 48) : 2 ^ k - 1 < 2 ^ runLen k := by
  have hp := Nat.two_pow_pos k
  have h1 : 2 ^ k ≤ 2 ^ runLen k := Nat.pow_le_pow_right (by omega) (by unfold runLen; omega)
  omega


set_option maxHeartbeats 1000000 in
theorem uwrite_ret (A : Option Addr) (m c : Nat) (bs : List Bool) (n : Int) (w : World) (ha : Row .u8 w A m (pack bs)) (hc : m ≤ c ∧ c ≤ 9223372036854775807) (hl : bs.length ≤ 330000) (hn : -9223372036854775808 ≤ n ∧ n ≤ 9223372036854775807) :
    Calls Tryd.prog 11 #[.agg #[.slice A m c, .int .i64 ((bs.length : Nat) : Int)], .int .i64 n] w (RetB w (uwR bs n).1 (uwR bs n).2) := by
  have hri := ha.rowIn
  by_cases h1 : n < 0 ∨ 48 < n
  · have HR : Hid (uwR bs n = ([], 2)) := by unfold uwR; rw [if_pos h1]; rfl
    have H1 := Lib.hid h1
    clear h1
    go_enter Tryd.func11, Tryd.ntmps11
    go_wp2_with fail
    refine (bcheck_ok A m c bs _ (by exact ((ha.alloc _).alloc _)) (by omega) hl).mono ?_
    rintro e w1 ⟨rfl, b1⟩
    have s1 := b1.size
    try simp only [World.size_alloc, World.size_setCell, World.size_drew, size_drewN] at s1
    obtain ⟨zb_1, zr_1, rb_1, bb_1⟩ : Blk w1 (w.heap.size) 26 [.slice A m c, .int .i64 ((bs.length : Nat) : Int)] ∧ Blk w1 (w.heap.size + 1) 26 [.slice none 0 0, .int .i64 0] ∧ RowIn .u8 w1 (0) (w.heap.size) A m (pack bs) ∧ Below w.heap.size w w1 := by
      refine ⟨?_, ?_, ?_, ?_⟩
      all_goals repeat' (first | (with_reducible assumption) | (with_reducible exact Below.refl _ _) | (with_reducible refine Blk.after ?_ b1) | (with_reducible refine RowIn.belowS ?_ b1) | (with_reducible refine Below.after ?_ b1 ?_) | (with_reducible refine Blk.drewN ?_ _) | (with_reducible refine RowIn.drewN ?_ _) | (with_reducible refine below_drewN ?_ _) | (with_reducible refine Blk.drew ?_) | (with_reducible refine RowIn.drew ?_) | (with_reducible refine Below.drew ?_) | (with_reducible refine Blk.new' ?_ ?_ <;> first | (with_reducible rfl) | (simp; done)) | (with_reducible refine Blk.alloc ?_ _) | (with_reducible refine RowIn.alloc ?_ _) | (with_reducible refine Below.alloc ?_ ?_ _) | (with_reducible apply Blk.set') | (with_reducible refine Blk.far' ?_ ?_ _) | (with_reducible refine RowIn.far' ?_ ?_ _) | (with_reducible refine Below.far' ?_ ?_ _) | rfl | omega | go_size)
    clear b1
    have kb_1 := zb_1.cell; have fb_1 := zb_1.frozen; have lb_1 := zb_1.lt
    have kr_1 := zr_1.cell; have fr_1 := zr_1.frozen; have lr_1 := zr_1.lt
    go_wp2_with fail
    refine (ulen_bad n _ H1.out).mono ?_
    rintro e _ ⟨rfl, rfl⟩
    go_wp2
    refine bodyPost_ret (v := .tuple #[.agg #[.slice none 0 0, .int .i64 0], .int .i64 2]) (by simp [results, Tryd.results11, go_sem, kr_1]) rfl ?_
    rw [HR.out]
    refine RetB.of rfl (BitsIn.zero _ _ _) ?_
    repeat' (first | (with_reducible assumption) | (with_reducible exact Below.refl _ _) | (with_reducible refine Blk.drewN ?_ _) | (with_reducible refine RowIn.drewN ?_ _) | (with_reducible refine below_drewN ?_ _) | (with_reducible refine Blk.drew ?_) | (with_reducible refine RowIn.drew ?_) | (with_reducible refine Below.drew ?_) | (with_reducible refine Blk.new' ?_ ?_ <;> first | (with_reducible rfl) | (simp; done)) | (with_reducible refine Blk.alloc ?_ _) | (with_reducible refine RowIn.alloc ?_ _) | (with_reducible refine Below.alloc ?_ ?_ _) | (with_reducible apply Blk.set') | (with_reducible refine Blk.far' ?_ ?_ _) | (with_reducible refine RowIn.far' ?_ ?_ _) | (with_reducible refine Below.far' ?_ ?_ _) | rfl | omega | go_size)
  obtain ⟨k, rfl⟩ := Int.eq_ofNat_of_zero_le (by omega : 0 ≤ n)
  have hk : k ≤ 48 := by omega
  have HR : Hid (uwR bs (k : Nat) = if 330000 < bs.length + runLen k then ([], 18) else (bs ++ run k, 0)) := by unfold uwR; rw [if_neg h1]; rfl
  clear h1
  obtain ⟨z, hz⟩ : ∃ z, 2 ^ k - 1 = z := ⟨_, rfl⟩
  have hw := ones_word hk
  rw [hz] at hw
  have hz64 : z < 18446744073709551616 := by rw [← hz]; exact Nat.lt_of_lt_of_le (run_fits hk) (pow_le_u64 (by unfold runLen; omega))
  have HZ := Lib.hid hz
  clear hz
  go_enter Tryd.func11, Tryd.ntmps11
  go_wp2_with fail
  refine (bcheck_ok A m c bs _ (by exact ((ha.alloc _).alloc _)) (by omega) hl).mono ?_
  rintro e w1 ⟨rfl, b1⟩
  have s1 := b1.size
  try simp only [World.size_alloc, World.size_setCell, World.size_drew, size_drewN] at s1
  obtain ⟨zb_1, zr_1, rb_1, bb_1⟩ : Blk w1 (w.heap.size) 26 [.slice A m c, .int .i64 ((bs.length : Nat) : Int)] ∧ Blk w1 (w.heap.size + 1) 26 [.slice none 0 0, .int .i64 0] ∧ RowIn .u8 w1 (0) (w.heap.size) A m (pack bs) ∧ Below w.heap.size w w1 := by
    refine ⟨?_, ?_, ?_, ?_⟩
    all_goals repeat' (first | (with_reducible assumption) | (with_reducible exact Below.refl _ _) | (with_reducible refine Blk.after ?_ b1) | (with_reducible refine RowIn.belowS ?_ b1) | (with_reducible refine Below.after ?_ b1 ?_) | (with_reducible refine Blk.drewN ?_ _) | (with_reducible refine RowIn.drewN ?_ _) | (with_reducible refine below_drewN ?_ _) | (with_reducible refine Blk.drew ?_) | (with_reducible refine RowIn.drew ?_) | (with_reducible refine Below.drew ?_) | (with_reducible refine Blk.new' ?_ ?_ <;> first | (with_reducible rfl) | (simp; done)) | (with_reducible refine Blk.alloc ?_ _) | (with_reducible refine RowIn.alloc ?_ _) | (with_reducible refine Below.alloc ?_ ?_ _) | (with_reducible apply Blk.set') | (with_reducible refine Blk.far' ?_ ?_ _) | (with_reducible refine RowIn.far' ?_ ?_ _) | (with_reducible refine Below.far' ?_ ?_ _) | rfl | omega | go_size)
  clear b1
  have kb_1 := zb_1.cell; have fb_1 := zb_1.frozen; have lb_1 := zb_1.lt
  have kr_1 := zr_1.cell; have fr_1 := zr_1.frozen; have lr_1 := zr_1.lt
  go_wp2_with fail
  refine (ulen_ok (k : Nat) _ (by omega) (by omega)).mono ?_
  rintro e _ ⟨y, rfl, HY, rfl⟩
  have hy : y ≤ 48 := by rw [HY.out]; unfold runLen; omega
  go_wp2_with fail
  go_region_law (go_simp; go_at_call 7
                 refine (bput_ret A m c bs z y _ (by exact rb_1.row) hc hl (by omega) (by omega)).mono ?_
                 rintro e w2 ⟨Ax, mx, cx, xx, rfl, hcx, rx, HXx, b2⟩
                 replace rx := rx.mono (lo' := w1.heap.size + 0) (by go_size) (Nat.le_refl _)
                 have s2 := b2.size
                 try simp only [World.size_alloc, World.size_setCell, World.size_drew, size_drewN] at s2
                 obtain ⟨zb_2, zr_2, rb_2, rx_2, bb_2⟩ : Blk w2 (w.heap.size) 26 [.slice A m c, .int .i64 ((bs.length : Nat) : Int)] ∧ Blk w2 (w.heap.size + 1) 26 [.slice none 0 0, .int .i64 0] ∧ RowIn .u8 w2 (0) (w.heap.size) A m (pack bs) ∧ RowIn .u8 w2 (w1.heap.size + 0) (w2.heap.size) Ax mx (pack xx) ∧ Below w.heap.size w w2 := by
                   refine ⟨?_, ?_, ?_, ?_, ?_⟩
                   all_goals repeat' (first | (with_reducible assumption) | (with_reducible exact Below.refl _ _) | (with_reducible refine Blk.after ?_ b2) | (with_reducible refine RowIn.belowS ?_ b2) | (with_reducible refine Below.after ?_ b2 ?_) | (with_reducible refine Blk.drewN ?_ _) | (with_reducible refine RowIn.drewN ?_ _) | (with_reducible refine below_drewN ?_ _) | (with_reducible refine Blk.drew ?_) | (with_reducible refine RowIn.drew ?_) | (with_reducible refine Below.drew ?_) | (with_reducible refine Blk.new' ?_ ?_ <;> first | (with_reducible rfl) | (simp; done)) | (with_reducible refine Blk.alloc ?_ _) | (with_reducible refine RowIn.alloc ?_ _) | (with_reducible refine Below.alloc ?_ ?_ _) | (with_reducible apply Blk.set') | (with_reducible refine Blk.far' ?_ ?_ _) | (with_reducible refine RowIn.far' ?_ ?_ _) | (with_reducible refine Below.far' ?_ ?_ _) | rfl | omega | go_size)
                 clear zb_1 zr_1 rb_1 bb_1 kb_1 fb_1 lb_1 kr_1 fr_1 lr_1 b2
                 have kb_2 := zb_2.cell; have fb_2 := zb_2.frozen; have lb_2 := zb_2.lt
                 have kr_2 := zr_2.cell; have fr_2 := zr_2.frozen; have lr_2 := zr_2.lt
                 clear rx)
  all_goals
    have HP : Hid (putR bs (z : Int).toNat (y : Int) = uwR bs (k : Nat)) := by
      rw [HR.out, Int.toNat_natCast]
      unfold putR
      rw [if_neg (by omega), Int.toNat_natCast, HY.out, Int.toNat_natCast, ← HZ.out, if_neg (by have := run_fits hk; omega), lowBits_run hk]
      exact Lib.hid rfl
    go_wp2
    refine bodyPost_ret (v := .tuple #[.agg #[.slice Ax mx cx, .int .i64 ((xx.length : Nat) : Int)], .int .i64 (putR bs (z : Int).toNat (y : Int)).2]) (by simp [results, Tryd.results11, go_sem, kr_2]) rfl ?_
    rw [HP.out] at HXx
    rw [HP.out]
    refine RetB.of (x := .agg #[.slice Ax mx cx, .int .i64 ((xx.length : Nat) : Int)]) rfl ⟨Ax, mx, cx, by rw [HXx.out], hcx, ?_⟩ ?_
    · rw [← HXx.out]
      refine RowIn.mono (lo := w1.heap.size + 0) (hi := w2.heap.size) ?_ (by omega) (by go_size)
      repeat' (first | (with_reducible assumption) | (with_reducible exact Below.refl _ _) | (with_reducible refine Blk.drewN ?_ _) | (with_reducible refine RowIn.drewN ?_ _) | (with_reducible refine below_drewN ?_ _) | (with_reducible refine Blk.drew ?_) | (with_reducible refine RowIn.drew ?_) | (with_reducible refine Below.drew ?_) | (with_reducible refine Blk.new' ?_ ?_ <;> first | (with_reducible rfl) | (simp; done)) | (with_reducible refine Blk.alloc ?_ _) | (with_reducible refine RowIn.alloc ?_ _) | (with_reducible refine Below.alloc ?_ ?_ _) | (with_reducible apply Blk.set') | (with_reducible refine Blk.far' ?_ ?_ _) | (with_reducible refine RowIn.far' ?_ ?_ _) | (with_reducible refine Below.far' ?_ ?_ _) | rfl | omega | go_size)
    · repeat' (first | (with_reducible assumption) | (with_reducible exact Below.refl _ _) | (with_reducible refine Blk.drewN ?_ _) | (with_reducible refine RowIn.drewN ?_ _) | (with_reducible refine below_drewN ?_ _) | (with_reducible refine Blk.drew ?_) | (with_reducible refine RowIn.drew ?_) | (with_reducible refine Below.drew ?_) | (with_reducible refine Blk.new' ?_ ?_ <;> first | (with_reducible rfl) | (simp; done)) | (with_reducible refine Blk.alloc ?_ _) | (with_reducible refine RowIn.alloc ?_ _) | (with_reducible refine Below.alloc ?_ ?_ _) | (with_reducible apply Blk.set') | (with_reducible refine Blk.far' ?_ ?_ _) | (with_reducible refine RowIn.far' ?_ ?_ _) | (with_reducible refine Below.far' ?_ ?_ _) | rfl | omega | go_size)


theorem uwrite_ok (A : Option Addr) (m c : Nat) (bs : List Bool) (n : Int) (w : World) (ha : Row .u8 w A m (pack bs)) (hc : m ≤ c ∧ c ≤ 9223372036854775807) (hn : 0 ≤ n ∧ n ≤ 48) (hr : bs.length + runLen n.toNat ≤ 330000) :
    Calls Tryd.prog 11 #[.agg #[.slice A m c, .int .i64 (bs.length : Nat)], .int .i64 n] w (RetB w (bs ++ run n.toNat) 0) := by
  have h := uwrite_ret A m c bs n w ha hc (by omega) (by omega)
  have e : uwR bs n = (bs ++ run n.toNat, 0) := by unfold uwR; rw [if_neg (by omega), if_neg (by omega)]
  rw [e] at h; exact h


set_option maxHeartbeats 400000 in
theorem uwrite_bad (A : Option Addr) (m c : Nat) (N : Int) (bytes : List Int) (n : Int) (w : World) (ha : Row .u8 w A m bytes) (hb : Within 0 255 bytes) (hc : m ≤ c ∧ c ≤ 9223372036854775807) (hv : ¬ Valid bytes N) :
    Calls Tryd.prog 11 #[.agg #[.slice A m c, .int .i64 N], .int .i64 n] w (RetB w [] 8) := by
  go_enter Tryd.func11, Tryd.ntmps11
  go_wp2_with fail
  refine (bcheck_bad A m c N bytes _ (by exact ((ha.alloc _).alloc _)) hb (by omega) hv).mono ?_
  rintro e w1 ⟨rfl, b1⟩
  have s1 := b1.size
  try simp only [World.size_alloc, World.size_setCell, World.size_drew, size_drewN] at s1
  obtain ⟨zb_1, zr_1, bb_1⟩ : Blk w1 (w.heap.size) 26 [.slice A m c, .int .i64 N] ∧ Blk w1 (w.heap.size + 1) 26 [.slice none 0 0, .int .i64 0] ∧ Below w.heap.size w w1 := by
    refine ⟨?_, ?_, ?_⟩
    all_goals repeat' (first | (with_reducible assumption) | (with_reducible exact Below.refl _ _) | (with_reducible refine Blk.after ?_ b1) | (with_reducible refine RowIn.belowS ?_ b1) | (with_reducible refine Below.after ?_ b1 ?_) | (with_reducible refine Blk.drewN ?_ _) | (with_reducible refine RowIn.drewN ?_ _) | (with_reducible refine below_drewN ?_ _) | (with_reducible refine Blk.drew ?_) | (with_reducible refine RowIn.drew ?_) | (with_reducible refine Below.drew ?_) | (with_reducible refine Blk.new' ?_ ?_ <;> first | (with_reducible rfl) | (simp; done)) | (with_reducible refine Blk.alloc ?_ _) | (with_reducible refine RowIn.alloc ?_ _) | (with_reducible refine Below.alloc ?_ ?_ _) | (with_reducible apply Blk.set') | (with_reducible refine Blk.far' ?_ ?_ _) | (with_reducible refine RowIn.far' ?_ ?_ _) | (with_reducible refine Below.far' ?_ ?_ _) | rfl | omega | go_size)
  clear b1
  have kb_1 := zb_1.cell; have fb_1 := zb_1.frozen; have lb_1 := zb_1.lt
  have kr_1 := zr_1.cell; have fr_1 := zr_1.frozen; have lr_1 := zr_1.lt
  go_wp2
  refine bodyPost_ret (v := .tuple #[.agg #[.slice none 0 0, .int .i64 0], .int .i64 8]) (by simp [results, Tryd.results11, go_sem, kr_1]) rfl ?_
  refine RetB.of rfl (BitsIn.zero _ _ _) ?_
  repeat' (first | (with_reducible assumption) | (with_reducible exact Below.refl _ _) | (with_reducible refine Blk.drewN ?_ _) | (with_reducible refine RowIn.drewN ?_ _) | (with_reducible refine below_drewN ?_ _) | (with_reducible refine Blk.drew ?_) | (with_reducible refine RowIn.drew ?_) | (with_reducible refine Below.drew ?_) | (with_reducible refine Blk.new' ?_ ?_ <;> first | (with_reducible rfl) | (simp; done)) | (with_reducible refine Blk.alloc ?_ _) | (with_reducible refine RowIn.alloc ?_ _) | (with_reducible refine Below.alloc ?_ ?_ _) | (with_reducible apply Blk.set') | (with_reducible refine Blk.far' ?_ ?_ _) | (with_reducible refine RowIn.far' ?_ ?_ _) | (with_reducible refine Below.far' ?_ ?_ _) | rfl | omega | go_size)


end Go.Proofs.YtpohaikbbfochaaDoor
