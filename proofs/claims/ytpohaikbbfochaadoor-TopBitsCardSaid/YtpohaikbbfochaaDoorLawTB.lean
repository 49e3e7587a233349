/-
  The walk of TopBits.
-/
import Derived.Test.YtpohaikbbfochaaDoorTopA
import Derived.Test.YtpohaikbbfochaaDoorTopQ
import Derived.Test.YtpohaikbbfochaaDoorUnaB
import Derived.Test.YtpohaikbbfochaaDoorRefA
import Derived.Test.YtpohaikbbfochaaDoorMerge
namespace Go.Proofs.YtpohaikbbfochaaDoor
open Go.RowKit Cad Cad.Bit Cad.Code Cad.Le Cad.Top
set_option linter.unusedVariables false
set_option linter.unusedSimpArgs false


theorem uwrite_c (A : Option Addr) (m c : Nat) (bs l : List Bool) (n : Nat) (w : World) (ha : Row .u8 w A m (pack bs)) (hc : m ≤ c ∧ c ≤ 9223372036854775807) (hn : n ≤ 48) (hr : bs.length ≤ 300000) (he : bs ++ run n = l) :
    Calls Tryd.prog 11 #[.agg #[.slice A m c, .int .i64 (bs.length : Nat)], .int .i64 (n : Int)] w (RetB w l 0) := by
  have h := uwrite_ok A m c bs n w ha hc (by omega) (by have := runLen_le48 (n : Int).toNat; omega)
  rw [Int.toNat_natCast, he] at h
  exact h
theorem uread_c (A : Option Addr) (m c : Nat) (bs : List Bool) (p n k : Nat) (w : World) (ha : Row .u8 w A m (pack bs)) (hc : m ≤ c ∧ c ≤ 9223372036854775807) (hl : bs.length ≤ 330000) (hp : p ≤ 9223372036854775807) (hr : readU (bs.drop p) = .ok n k) (ht : Tab w) (q : Nat) (hq : p + k = q) :
    Calls Tryd.prog 17 #[.agg #[.slice A m c, .int .i64 ((bs.length : Nat) : Int)], .int .i64 (p : Int)] w fun e w' => e = .returned (.tuple #[.int .i64 (n : Int), .int .i64 (q : Int), .int .i64 0]) ∧ Below w.heap.size w w' := by
  refine (uread_ok A m c bs p n k w ha hc hl (by omega) (by rw [Int.toNat_natCast]; exact hr) ht).mono ?_
  rintro e w' ⟨z, rfl, HZ, hb⟩
  have hz : z = q := by rw [HZ.out, Int.toNat_natCast, hq]
  exact ⟨by rw [hz], hb⟩
theorem bput_c (A : Option Addr) (m c : Nat) (bs l : List Bool) (v n : Nat) (w : World) (ha : Row .u8 w A m (pack bs)) (hc : m ≤ c ∧ c ≤ 9223372036854775807) (hv : v < 18446744073709551616) (hn : n ≤ 64) (hf : v < 2 ^ n) (hr : bs.length + n ≤ 330000) (he : bs ++ lowBits v n = l) :
    Calls Tryd.prog 7 #[.agg #[.slice A m c, .int .i64 (bs.length : Nat)], .int .u64 (v : Int), .int .i64 (n : Int)] w (RetB w l 0) := by
  have h := bput_ok A m c bs v n w ha hc (by omega) (by omega) (by simpa using hf) (by omega)
  simp only [Int.toNat_natCast] at h
  rw [he] at h
  exact h
theorem next_c (s z : Nat) (A : Option Addr) (n c : Nat) (l : List Int) (w : World) (ha : Row .u8 w A n l) (hl : Within 0 255 l) (hn : n ≤ 100000) (hs : s < 4294967296) (he : Crc.bytes s l = z) :
    Calls Tryd.prog 9 #[.int .u32 (s : Int), .slice A n c] w fun e w' => e = .returned (.tuple #[.int .u32 (z : Int), .int .i64 0]) ∧ Below w.heap.size w w' := by rw [← he]; exact next_ok s A n c l w ha hl hn hs
theorem nextQ_c (s z : Nat) (A : Option Addr) (n c : Nat) (l : List Int) (w : World) (ha : Row .u8 w A n l) (hl : Within 0 255 l) (hn : n ≤ 100000) (hs : s < 18446744073709551616) (he : Crc64.bytes s l = z) :
    Calls Tryd.prog 10 #[.int .u64 (s : Int), .slice A n c] w fun e w' => e = .returned (.tuple #[.int .u64 (z : Int), .int .i64 0]) ∧ Below w.heap.size w w' := by rw [← he]; exact nextQ_ok s A n c l w ha hl hn hs
theorem sum_c (z : Nat) (A : Option Addr) (n c : Nat) (l : List Int) (w : World) (ha : Row .u8 w A n l) (hl : Within 0 255 l) (hn : n ≤ 100000) (he : Crc.sum l = z) :
    Calls Tryd.prog 13 #[.slice A n c] w fun e w' => e = .returned (.tuple #[.int .u32 (z : Int), .int .i64 0]) ∧ Below w.heap.size w w' := by rw [← he]; exact sum_ok A n c l w ha hl hn
theorem sumQ_c (z : Nat) (A : Option Addr) (n c : Nat) (l : List Int) (w : World) (ha : Row .u8 w A n l) (hl : Within 0 255 l) (hn : n ≤ 100000) (he : Crc64.bytes 0 l = z) :
    Calls Tryd.prog 14 #[.slice A n c] w fun e w' => e = .returned (.tuple #[.int .u64 (z : Int), .int .i64 0]) ∧ Below w.heap.size w w' := by rw [← he]; exact sumQ_ok A n c l w ha hl hn
theorem bget_c (A : Option Addr) (m c : Nat) (bs : List Bool) (p n y : Nat) (w : World) (ha : Row .u8 w A m (pack bs)) (hc : m ≤ c ∧ c ≤ 9223372036854775807) (hl : bs.length ≤ 330000) (hn : n ≤ 64) (hr : p + n ≤ bs.length) (he : bval ((bs.drop p).take n) = y) :
    Calls Tryd.prog 15 #[.agg #[.slice A m c, .int .i64 (bs.length : Nat)], .int .i64 (p : Int), .int .i64 (n : Int)] w fun e w' => e = .returned (.tuple #[.int .u64 (y : Int), .int .i64 0]) ∧ Below w.heap.size w w' := by
  refine (bget_ok A m c bs p n w ha hc hl (by omega) (by omega) (by omega)).mono ?_
  rintro e w' ⟨z, rfl, HZ, hb⟩
  have hz : z = y := by rw [HZ.out]; simpa using he
  exact ⟨by rw [hz], hb⟩
theorem bget_i (P : Int) (A : Option Addr) (m c : Nat) (bs : List Bool) (p n y : Nat) (w : World) (hP : P = (p : Int)) (ha : Row .u8 w A m (pack bs)) (hc : m ≤ c ∧ c ≤ 9223372036854775807) (hl : bs.length ≤ 330000) (hn : n ≤ 64) (hr : p + n ≤ bs.length) (he : bval ((bs.drop p).take n) = y) :
    Calls Tryd.prog 15 #[.agg #[.slice A m c, .int .i64 (bs.length : Nat)], .int .i64 P, .int .i64 (n : Int)] w fun e w' => e = .returned (.tuple #[.int .u64 (y : Int), .int .i64 0]) ∧ Below w.heap.size w w' := by rw [hP]; exact bget_c A m c bs p n y w ha hc hl hn hr he
theorem leat_i (P : Int) (n : Nat) (A : Option Addr) (m c i k : Nat) (l : List Int) (w : World) (hP : P = (i : Int)) (ha : Row .u8 w A m l) (hc : m ≤ c ∧ c ≤ 9223372036854775807) (h1 : 1 ≤ k) (h8 : k ≤ 8) (hik : i + k ≤ m) (hn : n < 2 ^ (8 * k)) (hl : (l.drop i).take k = leB n k) :
    Calls Tryd.prog 16 #[.slice A m c, .int .i64 P, .int .i64 (k : Int)] w fun e w' => e = .returned (.tuple #[.int .u64 (n : Int), .int .i64 0]) ∧ w = w' := by rw [hP]; exact leat_ok n A m c i k l w ha hc h1 h8 hik hn hl
theorem ex06_read : readU ((run 5).drop 0) = .ok 5 6 := by decide +kernel
theorem fold_c (x : Int) (n : Nat) (w : World) (hx : -2147483648 ≤ x ∧ x ≤ 2147483647) (hn : n = foldZ x) :
    Calls Tryd.prog 6 #[.int .i32 x] w fun e w' => e = .returned (.int .u32 (n : Int)) ∧ w = w' := by rw [hn]; exact fold_ok x w hx
set_option maxRecDepth 100000 in
set_option maxHeartbeats 1000000 in
theorem alive06 (w : World) (ht : Tab w) :
    Calls Tryd.prog 5 #[] w fun e w' => e = .returned (.bool true) ∧ Below w.heap.size w w' := by
  have hti : RowIn .u8 w 0 w.heap.size (some ⟨0, 0, none⟩) 64 dbTab := ht.rowIn
  go_enter Tryd.func5, Tryd.ntmps5
  go_wp2_with fail
  refine (fold_c (-3) 5 _ (by omega) (by decide)).mono ?_
  rintro e _ ⟨rfl, rfl⟩
  go_wp2_with fail
  refine (uwrite_c none 0 0 [] (run 5) 5 _ Row.nil ⟨Nat.le_refl _, Nat.zero_le _⟩ (by omega) (by simp) rfl).mono ?_
  rintro e w1 ⟨Ab, mb, cb, xb, rfl, hcb, rb, HXb, b1⟩
  have Lb : xb.length ≤ 6 ∧ 6 ≤ xb.length := by rw [HXb.out]; decide
  obtain ⟨Lb1, Lb2⟩ := Lb
  replace rb := rb.mono (lo' := w.heap.size + 0) (by go_size) (Nat.le_refl _)
  have s1 := b1.size
  try simp only [World.size_alloc, World.size_setCell, World.size_drew, size_drewN] at s1
  obtain ⟨rt_1, rb_1, bb_1⟩ : RowIn .u8 w1 (0) (w.heap.size) (some ⟨0, 0, none⟩) 64 dbTab ∧ RowIn .u8 w1 (w.heap.size + 0) (w1.heap.size) Ab mb (pack xb) ∧ Below w.heap.size w w1 := by
    refine ⟨?_, ?_, ?_⟩
    all_goals repeat' (first | (with_reducible first | assumption | exact Below.refl _ _ | refine Blk.drewN ?_ _ | refine RowIn.drewN ?_ _ | refine below_drewN ?_ _ | refine Blk.drew ?_ | refine RowIn.drew ?_ | refine Below.drew ?_) | (with_reducible refine Blk.new' ?_ ?_ <;> first | (with_reducible rfl) | (simp; done)) | (with_reducible first | refine Blk.alloc ?_ _ | refine RowIn.alloc ?_ _ | refine Below.alloc ?_ ?_ _ | apply Blk.set' | apply Blk.far' | refine RowIn.far' ?_ ?_ _ | refine Below.far' ?_ ?_ _ | refine Blk.after ?_ b1 | refine RowIn.belowS ?_ b1 | refine Below.after ?_ b1 ?_) | (exact (Eq.refl _ : (_ : List Value) = _)) | omega | go_size)
  clear b1
  clear rb
  go_wp2_with fail
  refine (uread_c Ab mb cb xb 0 5 6 _ (by exact RowIn.row (lo := w.heap.size + 0) (hi := w1.heap.size) (by repeat' (first | (with_reducible first | assumption | exact Below.refl _ _ | refine Blk.drewN ?_ _ | refine RowIn.drewN ?_ _ | refine below_drewN ?_ _ | refine Blk.drew ?_ | refine RowIn.drew ?_ | refine Below.drew ?_) | (with_reducible refine Blk.new' ?_ ?_ <;> first | (with_reducible rfl) | (simp; done)) | (with_reducible first | refine Blk.alloc ?_ _ | refine RowIn.alloc ?_ _ | refine Below.alloc ?_ ?_ _ | apply Blk.set' | apply Blk.far' | refine RowIn.far' ?_ ?_ _ | refine Below.far' ?_ ?_ _) | (exact (Eq.refl _ : (_ : List Value) = _)) | omega | go_size))) hcb (by omega) (by omega) (by rw [HXb.out]; exact ex06_read) (by exact RowIn.row (lo := 0) (hi := w.heap.size) (by repeat' (first | (with_reducible first | assumption | exact Below.refl _ _ | refine Blk.drewN ?_ _ | refine RowIn.drewN ?_ _ | refine below_drewN ?_ _ | refine Blk.drew ?_ | refine RowIn.drew ?_ | refine Below.drew ?_) | (with_reducible refine Blk.new' ?_ ?_ <;> first | (with_reducible rfl) | (simp; done)) | (with_reducible first | refine Blk.alloc ?_ _ | refine RowIn.alloc ?_ _ | refine Below.alloc ?_ ?_ _ | apply Blk.set' | apply Blk.far' | refine RowIn.far' ?_ ?_ _ | refine Below.far' ?_ ?_ _) | (exact (Eq.refl _ : (_ : List Value) = _)) | omega | go_size))) 6 rfl).mono ?_
  rintro e w2 ⟨rfl, b2⟩
  have s2 := b2.size
  try simp only [World.size_alloc, World.size_setCell, World.size_drew, size_drewN] at s2
  obtain ⟨zb_2, rt_2, rb_2, bb_2⟩ : Blk w2 (w1.heap.size) 26 [.slice Ab mb cb, .int .i64 ((xb.length : Nat) : Int)] ∧ RowIn .u8 w2 (0) (w.heap.size) (some ⟨0, 0, none⟩) 64 dbTab ∧ RowIn .u8 w2 (w.heap.size + 0) (w1.heap.size) Ab mb (pack xb) ∧ Below w.heap.size w w2 := by
    refine ⟨?_, ?_, ?_, ?_⟩
    all_goals repeat' (first | (with_reducible first | assumption | exact Below.refl _ _ | refine Blk.drewN ?_ _ | refine RowIn.drewN ?_ _ | refine below_drewN ?_ _ | refine Blk.drew ?_ | refine RowIn.drew ?_ | refine Below.drew ?_) | (with_reducible refine Blk.new' ?_ ?_ <;> first | (with_reducible rfl) | (simp; done)) | (with_reducible first | refine Blk.alloc ?_ _ | refine RowIn.alloc ?_ _ | refine Below.alloc ?_ ?_ _ | apply Blk.set' | apply Blk.far' | refine RowIn.far' ?_ ?_ _ | refine Below.far' ?_ ?_ _ | refine Blk.after ?_ b2 | refine RowIn.belowS ?_ b2 | refine Below.after ?_ b2 ?_) | (exact (Eq.refl _ : (_ : List Value) = _)) | omega | go_size)
  clear rt_1 rb_1 bb_1 b2
  have kb_2 := zb_2.cell; have fb_2 := zb_2.frozen; have lb_2 := zb_2.lt
  go_wp2_with fail
  refine (back_ok (-3) 5 _ (by omega) (by decide)).mono ?_
  rintro e _ ⟨rfl, rfl⟩
  go_wp2
  go_ret
  refine ⟨rfl, ?_⟩
  repeat' (first | (with_reducible first | assumption | exact Below.refl _ _ | refine Blk.drewN ?_ _ | refine RowIn.drewN ?_ _ | refine below_drewN ?_ _ | refine Blk.drew ?_ | refine RowIn.drew ?_ | refine Below.drew ?_) | (with_reducible refine Blk.new' ?_ ?_ <;> first | (with_reducible rfl) | (simp; done)) | (with_reducible first | refine Blk.alloc ?_ _ | refine RowIn.alloc ?_ _ | refine Below.alloc ?_ ?_ _ | apply Blk.set' | apply Blk.far' | refine RowIn.far' ?_ ?_ _ | refine Below.far' ?_ ?_ _) | (exact (Eq.refl _ : (_ : List Value) = _)) | omega | go_size)


set_option maxRecDepth 100000 in
set_option maxHeartbeats 8000000 in
theorem lawTopBits (w : World) (ht : Tab w) (Al : Option Addr) (nl cl : Nat) (xsl : List Int) (hAl : RowC .i32 w Al nl cl xsl) (hxl : Within (-2147483648) 2147483647 xsl) :
    Calls Tryd.prog 3 #[.slice Al nl cl] w fun e w' => e = .returned (.bool true) ∧ Below w.heap.size w w' := by
  have hal := hAl.row
  have hcl := hAl.2
  have hril := hal.rowIn
  have HLl := Lib.hid hal.len
  have hti : RowIn .u8 w 0 w.heap.size (some ⟨0, 0, none⟩) 64 dbTab := ht.rowIn
  go_enter Tryd.func3, Tryd.ntmps3
  go_wp2_with fail
  refine (alive06 _ (by exact RowIn.row (lo := 0) (hi := w.heap.size) (by repeat' (first | (with_reducible first | assumption | exact Below.refl _ _ | refine Blk.drewN ?_ _ | refine RowIn.drewN ?_ _ | refine below_drewN ?_ _ | refine Blk.drew ?_ | refine RowIn.drew ?_ | refine Below.drew ?_) | (with_reducible refine Blk.new' ?_ ?_ <;> first | (with_reducible rfl) | (simp; done)) | (with_reducible first | refine Blk.alloc ?_ _ | refine RowIn.alloc ?_ _ | refine Below.alloc ?_ ?_ _ | apply Blk.set' | apply Blk.far' | refine RowIn.far' ?_ ?_ _ | refine Below.far' ?_ ?_ _) | (exact (Eq.refl _ : (_ : List Value) = _)) | omega | go_size)))).mono ?_
  rintro e w1 ⟨rfl, b1⟩
  have s1 := b1.size
  try simp only [World.size_alloc, World.size_setCell, World.size_drew, size_drewN] at s1
  obtain ⟨rl_1, rt_1, bb_1⟩ : RowIn .i32 w1 (0) (w.heap.size) Al nl xsl ∧ RowIn .u8 w1 (0) (w.heap.size) (some ⟨0, 0, none⟩) 64 dbTab ∧ Below w.heap.size w w1 := by
    refine ⟨?_, ?_, ?_⟩
    all_goals repeat' (first | (with_reducible first | assumption | exact Below.refl _ _ | refine Blk.drewN ?_ _ | refine RowIn.drewN ?_ _ | refine below_drewN ?_ _ | refine Blk.drew ?_ | refine RowIn.drew ?_ | refine Below.drew ?_) | (with_reducible refine Blk.new' ?_ ?_ <;> first | (with_reducible rfl) | (simp; done)) | (with_reducible first | refine Blk.alloc ?_ _ | refine RowIn.alloc ?_ _ | refine Below.alloc ?_ ?_ _ | apply Blk.set' | apply Blk.far' | refine RowIn.far' ?_ ?_ _ | refine Below.far' ?_ ?_ _ | refine Blk.after ?_ b1 | refine RowIn.belowS ?_ b1 | refine Below.after ?_ b1 ?_) | (exact (Eq.refl _ : (_ : List Value) = _)) | omega | go_size)
  clear b1
  by_cases h0 : 40 < nl
  · have t0 : decide ((40 : Int) < (nl : Int)) = true := decide_eq_true (by omega)
    go_wp2
    go_ret
    refine ⟨rfl, ?_⟩
    repeat' (first | (with_reducible first | assumption | exact Below.refl _ _ | refine Blk.drewN ?_ _ | refine RowIn.drewN ?_ _ | refine below_drewN ?_ _ | refine Blk.drew ?_ | refine RowIn.drew ?_ | refine Below.drew ?_) | (with_reducible refine Blk.new' ?_ ?_ <;> first | (with_reducible rfl) | (simp; done)) | (with_reducible first | refine Blk.alloc ?_ _ | refine RowIn.alloc ?_ _ | refine Below.alloc ?_ ?_ _ | apply Blk.set' | apply Blk.far' | refine RowIn.far' ?_ ?_ _ | refine Below.far' ?_ ?_ _) | (exact (Eq.refl _ : (_ : List Value) = _)) | omega | go_size)
  have t0 : decide ((40 : Int) < (nl : Int)) = false := decide_eq_false (by omega)
  go_wp2_with fail
  go_loopg [6, 7, 8] nl (fun r u v i wr => ∃ (j S Q mw cw mr cr low hiw lor hir : Nat) (Aw Ar : Option Addr) (yw yr : List Bool), j + r = nl ∧ u = .int .u32 (S : Int) ∧ v = .int .u64 (Q : Int) ∧ i = .int .i64 (j : Int) ∧ Hid (S = Crc.bytes 4294967295 (wideB xsl j)) ∧ Hid (Q = Crc64.bytes 0 (wideB xsl j)) ∧ Hid (yw = unpack (wideB xsl j)) ∧ Hid (yr = runsB xsl j) ∧ (mw ≤ cw ∧ cw ≤ 9223372036854775807) ∧ (mr ≤ cr ∧ cr ≤ 9223372036854775807)
    ∧ Blk wr (w1.heap.size) 26 [.slice Aw mw cw, .int .i64 ((yw.length : Nat) : Int)] ∧ Blk wr (w1.heap.size + 1) 26 [.slice Ar mr cr, .int .i64 ((yr.length : Nat) : Int)] ∧ RowIn .u8 wr low hiw Aw mw (pack yw) ∧ RowIn .u8 wr lor hir Ar mr (pack yr) ∧ w1.heap.size + 1 < low ∧ w1.heap.size + 1 < lor ∧ hiw ≤ wr.heap.size ∧ hir ≤ wr.heap.size ∧ Below w.heap.size w wr)
  case atStart =>
    refine ⟨0, 4294967295, 0, 0, 0, 0, 0, w1.heap.size + 1 + 1, 0, w1.heap.size + 1 + 1, 0, none, none, [], [], by omega, rfl, rfl, rfl, Lib.hid rfl, Lib.hid rfl, Lib.hid rfl, Lib.hid rfl, by omega, by omega, ?_, ?_, RowIn.nil, RowIn.nil, by omega, by omega, by omega, by omega, ?_⟩
    all_goals repeat' (first | (with_reducible first | assumption | exact Below.refl _ _ | refine Blk.drewN ?_ _ | refine RowIn.drewN ?_ _ | refine below_drewN ?_ _ | refine Blk.drew ?_ | refine RowIn.drew ?_ | refine Below.drew ?_) | (with_reducible refine Blk.new' ?_ ?_ <;> first | (with_reducible rfl) | (simp; done)) | (with_reducible first | refine Blk.alloc ?_ _ | refine RowIn.alloc ?_ _ | refine Below.alloc ?_ ?_ _ | apply Blk.set' | apply Blk.far' | refine RowIn.far' ?_ ?_ _ | refine Below.far' ?_ ?_ _) | (exact (Eq.refl _ : (_ : List Value) = _)) | omega | go_size)
  case round =>
    obtain ⟨j, S, Q, mw, cw, mr, cr, low, hiw, lor, hir, Aw, Ar, yw, yr, hj, rfl, rfl, rfl, HS, HQ, HW, HR, hcw, hcr, zw_5, zr_5, rw_5, rr_5, hlow, hlor, hhiw, hhir, bb_5⟩ := hrel
    have s5 := bb_5.size
    have hgw5 := zr_5.lt
    have rl_5 := hril.below bb_5 (Nat.le_refl _)
    have rt_5 := hti.below bb_5 (Nat.le_refl _)
    have kw_5 := zw_5.cell; have fw_5 := zw_5.frozen; have lw_5 := zw_5.lt
    have kr_5 := zr_5.cell; have fr_5 := zr_5.frozen; have lr_5 := zr_5.lt
    have lenw : yw.length ≤ 32 * j ∧ 32 * j ≤ yw.length := by rw [HW.out, unpack_len, wideB_len]; omega
    have lenr : yr.length ≤ 48 * j := by rw [HR.out]; exact runsB_len _ _
    obtain ⟨lenw1, lenw2⟩ := lenw
    have hS : S < 4294967296 := by rw [HS.out]; exact Crc.bytes_lt (by decide) (wideB_u8 _ _)
    have hQ : Q < 18446744073709551616 := by rw [HQ.out]; exact Crc64.bytes_lt (by decide) (wideB_u8 _ _)
    by_cases hlt : j < nl
    · obtain ⟨bl, ol, rfl, hbl, hcell⟩ := hal.at (by omega)
      obtain ⟨x, hv⟩ : ∃ v, nth xsl j = v := ⟨_, rfl⟩
      have hxb := hxl.nth (by decide) (by decide) j
      rw [hv] at hxb
      have c0 : w.cell? ⟨bl, ol + j, none⟩ = some (.int .i32 x) := by rw [hcell j hlt, hv]
      have CL := Lib.hid c0
      have HV := Lib.hid hv
      have hbL := hbl
      clear c0 hcell hv
      obtain ⟨n, HN⟩ : ∃ n, Hid (n = foldZ x) := ⟨_, Lib.hid rfl⟩
      have hn32 : n < 4294967296 := by rw [HN.out]; exact foldZ_lt hxb
      have hlt1 : (j : Int) < (nl : Int) := by omega
      have cL_5 : wr.cell? ⟨bl, ol + j, none⟩ = some (.int .i32 x) := (bb_5.cell (p := ⟨bl, ol + j, none⟩) hbL).trans CL.out
      by_cases h48 : 48 < n
      · have h48i : (48 : Int) < (n : Int) := by omega
        have HQ48 : Hid (48 = cut48 x) := Lib.hid (by unfold cut48; rw [← HN.out]; omega)
        go_wp2_with fail
        refine (fold_c x n _ hxb HN.out).mono ?_
        rintro e _ ⟨rfl, rfl⟩
        go_wp2_with fail
        refine (bput_c Aw mw cw yw (yw ++ lowBits n 32) n 32 _ (by exact RowIn.row (lo := low) (hi := hiw) (by repeat' (first | (with_reducible first | assumption | exact Below.refl _ _ | refine Blk.drewN ?_ _ | refine RowIn.drewN ?_ _ | refine below_drewN ?_ _ | refine Blk.drew ?_ | refine RowIn.drew ?_ | refine Below.drew ?_) | (with_reducible refine Blk.new' ?_ ?_ <;> first | (with_reducible rfl) | (simp; done)) | (with_reducible first | refine Blk.alloc ?_ _ | refine RowIn.alloc ?_ _ | refine Below.alloc ?_ ?_ _ | apply Blk.set' | apply Blk.far' | refine RowIn.far' ?_ ?_ _ | refine Below.far' ?_ ?_ _) | (exact (Eq.refl _ : (_ : List Value) = _)) | omega | go_size))) hcw (by omega) (by omega) hn32 (by omega) rfl).mono ?_
        rintro e w6 ⟨Ax, mx, cx, xx, rfl, hcx, rx, HXx, b6⟩
        have Lx : xx.length ≤ 32 * (j + 1) ∧ 32 * (j + 1) ≤ xx.length := by rw [HXx.out]; rw [List.length_append, lowBits_len]; omega
        obtain ⟨Lx1, Lx2⟩ := Lx
        replace rx := rx.mono (lo' := wr.heap.size + 0) (by go_size) (Nat.le_refl _)
        have s6 := b6.size
        try simp only [World.size_alloc, World.size_setCell, World.size_drew, size_drewN] at s6
        obtain ⟨zw_6, zr_6, rw_6, rr_6, rl_6, rt_6, rx_6, bb_6⟩ : Blk w6 (w1.heap.size) 26 [.slice Aw mw cw, .int .i64 ((yw.length : Nat) : Int)] ∧ Blk w6 (w1.heap.size + 1) 26 [.slice Ar mr cr, .int .i64 ((yr.length : Nat) : Int)] ∧ RowIn .u8 w6 (low) (hiw) Aw mw (pack yw) ∧ RowIn .u8 w6 (lor) (hir) Ar mr (pack yr) ∧ RowIn .i32 w6 (0) (w.heap.size) (some ⟨bl, ol, none⟩) nl xsl ∧ RowIn .u8 w6 (0) (w.heap.size) (some ⟨0, 0, none⟩) 64 dbTab ∧ RowIn .u8 w6 (wr.heap.size + 0) (w6.heap.size) Ax mx (pack xx) ∧ Below w.heap.size w w6 := by
          refine ⟨?_, ?_, ?_, ?_, ?_, ?_, ?_, ?_⟩
          all_goals repeat' (first | (with_reducible first | assumption | exact Below.refl _ _ | refine Blk.drewN ?_ _ | refine RowIn.drewN ?_ _ | refine below_drewN ?_ _ | refine Blk.drew ?_ | refine RowIn.drew ?_ | refine Below.drew ?_) | (with_reducible refine Blk.new' ?_ ?_ <;> first | (with_reducible rfl) | (simp; done)) | (with_reducible first | refine Blk.alloc ?_ _ | refine RowIn.alloc ?_ _ | refine Below.alloc ?_ ?_ _ | apply Blk.set' | apply Blk.far' | refine RowIn.far' ?_ ?_ _ | refine Below.far' ?_ ?_ _ | refine Blk.after ?_ b6 | refine RowIn.belowS ?_ b6 | refine Below.after ?_ b6 ?_) | (exact (Eq.refl _ : (_ : List Value) = _)) | omega | go_size)
        clear zw_5 zr_5 rw_5 rr_5 rl_5 rt_5 bb_5 kw_5 kr_5 fw_5 fr_5 lw_5 lr_5 cL_5 b6
        have kw_6 := zw_6.cell; have fw_6 := zw_6.frozen; have lw_6 := zw_6.lt
        have kr_6 := zr_6.cell; have fr_6 := zr_6.frozen; have lr_6 := zr_6.lt
        clear rx
        go_wp2_with fail
        refine (lebytes_ok n 4 _ (by omega) (by omega) (by omega) (by omega)).mono ?_
        rintro e w7 ⟨rfl, ownp, b7⟩
        have rp := ownp.rowIn
        try simp only [World.size_alloc] at rp
        try simp only [World.size_alloc] at ownp
        have s7 := b7.size
        try simp only [World.size_alloc, World.size_setCell, World.size_drew, size_drewN] at s7
        obtain ⟨zw_7, zr_7, zx_7, rw_7, rr_7, rl_7, rt_7, rx_7, rp_7, bb_7⟩ : Blk w7 (w1.heap.size) 26 [.slice Aw mw cw, .int .i64 ((yw.length : Nat) : Int)] ∧ Blk w7 (w1.heap.size + 1) 26 [.slice Ar mr cr, .int .i64 ((yr.length : Nat) : Int)] ∧ Blk w7 (w6.heap.size) 26 [.slice Ax mx cx, .int .i64 ((xx.length : Nat) : Int)] ∧ RowIn .u8 w7 (low) (hiw) Aw mw (pack yw) ∧ RowIn .u8 w7 (lor) (hir) Ar mr (pack yr) ∧ RowIn .i32 w7 (0) (w.heap.size) (some ⟨bl, ol, none⟩) nl xsl ∧ RowIn .u8 w7 (0) (w.heap.size) (some ⟨0, 0, none⟩) 64 dbTab ∧ RowIn .u8 w7 (wr.heap.size + 0) (w6.heap.size) Ax mx (pack xx) ∧ RowIn .u8 w7 (w6.heap.size + 1) (w7.heap.size) (some ⟨w6.heap.size + 1, 0, none⟩) 4 (leB n 4) ∧ Below w.heap.size w w7 := by
          refine ⟨?_, ?_, ?_, ?_, ?_, ?_, ?_, ?_, ?_, ?_⟩
          all_goals repeat' (first | (with_reducible first | assumption | exact Below.refl _ _ | refine Blk.drewN ?_ _ | refine RowIn.drewN ?_ _ | refine below_drewN ?_ _ | refine Blk.drew ?_ | refine RowIn.drew ?_ | refine Below.drew ?_) | (with_reducible refine Blk.new' ?_ ?_ <;> first | (with_reducible rfl) | (simp; done)) | (with_reducible first | refine Blk.alloc ?_ _ | refine RowIn.alloc ?_ _ | refine Below.alloc ?_ ?_ _ | apply Blk.set' | apply Blk.far' | refine RowIn.far' ?_ ?_ _ | refine Below.far' ?_ ?_ _ | refine Blk.after ?_ b7 | refine RowIn.belowS ?_ b7 | refine Below.after ?_ b7 ?_) | (exact (Eq.refl _ : (_ : List Value) = _)) | omega | go_size)
        clear zw_6 zr_6 rw_6 rr_6 rl_6 rt_6 rx_6 bb_6 kw_6 fw_6 lw_6 kr_6 fr_6 lr_6 b7
        have kw_7 := zw_7.cell; have fw_7 := zw_7.frozen; have lw_7 := zw_7.lt
        have kr_7 := zr_7.cell; have fr_7 := zr_7.frozen; have lr_7 := zr_7.lt
        have kx_7 := zx_7.cell; have fx_7 := zx_7.frozen; have lx_7 := zx_7.lt
        clear rp ownp
        go_wp2_with fail
        obtain ⟨S2, HS2⟩ : ∃ x, Hid (Crc.bytes S (leB n 4) = x) := ⟨_, Lib.hid rfl⟩
        obtain ⟨Q2, HQ2⟩ : ∃ x, Hid (Crc64.bytes Q (leB n 4) = x) := ⟨_, Lib.hid rfl⟩
        refine (next_c S S2 _ 4 4 (leB n 4) _ (by exact RowIn.row (lo := w6.heap.size + 1) (hi := w7.heap.size) (by repeat' (first | (with_reducible first | assumption | exact Below.refl _ _ | refine Blk.drewN ?_ _ | refine RowIn.drewN ?_ _ | refine below_drewN ?_ _ | refine Blk.drew ?_ | refine RowIn.drew ?_ | refine Below.drew ?_) | (with_reducible refine Blk.new' ?_ ?_ <;> first | (with_reducible rfl) | (simp; done)) | (with_reducible first | refine Blk.alloc ?_ _ | refine RowIn.alloc ?_ _ | refine Below.alloc ?_ ?_ _ | apply Blk.set' | apply Blk.far' | refine RowIn.far' ?_ ?_ _ | refine Below.far' ?_ ?_ _) | (exact (Eq.refl _ : (_ : List Value) = _)) | omega | go_size))) (leB_within _ _) (by omega) hS HS2.out).mono ?_
        rintro e w8 ⟨rfl, b8⟩
        have s8 := b8.size
        try simp only [World.size_alloc, World.size_setCell, World.size_drew, size_drewN] at s8
        obtain ⟨zw_8, zr_8, zx_8, rw_8, rr_8, rl_8, rt_8, rx_8, rp_8, bb_8⟩ : Blk w8 (w1.heap.size) 26 [.slice Aw mw cw, .int .i64 ((yw.length : Nat) : Int)] ∧ Blk w8 (w1.heap.size + 1) 26 [.slice Ar mr cr, .int .i64 ((yr.length : Nat) : Int)] ∧ Blk w8 (w6.heap.size) 26 [.slice Ax mx cx, .int .i64 ((xx.length : Nat) : Int)] ∧ RowIn .u8 w8 (low) (hiw) Aw mw (pack yw) ∧ RowIn .u8 w8 (lor) (hir) Ar mr (pack yr) ∧ RowIn .i32 w8 (0) (w.heap.size) (some ⟨bl, ol, none⟩) nl xsl ∧ RowIn .u8 w8 (0) (w.heap.size) (some ⟨0, 0, none⟩) 64 dbTab ∧ RowIn .u8 w8 (wr.heap.size + 0) (w6.heap.size) Ax mx (pack xx) ∧ RowIn .u8 w8 (w6.heap.size + 1) (w7.heap.size) (some ⟨w6.heap.size + 1, 0, none⟩) 4 (leB n 4) ∧ Below w.heap.size w w8 := by
          refine ⟨?_, ?_, ?_, ?_, ?_, ?_, ?_, ?_, ?_, ?_⟩
          all_goals repeat' (first | (with_reducible first | assumption | exact Below.refl _ _ | refine Blk.drewN ?_ _ | refine RowIn.drewN ?_ _ | refine below_drewN ?_ _ | refine Blk.drew ?_ | refine RowIn.drew ?_ | refine Below.drew ?_) | (with_reducible refine Blk.new' ?_ ?_ <;> first | (with_reducible rfl) | (simp; done)) | (with_reducible first | refine Blk.alloc ?_ _ | refine RowIn.alloc ?_ _ | refine Below.alloc ?_ ?_ _ | apply Blk.set' | apply Blk.far' | refine RowIn.far' ?_ ?_ _ | refine Below.far' ?_ ?_ _ | refine Blk.after ?_ b8 | refine RowIn.belowS ?_ b8 | refine Below.after ?_ b8 ?_) | (exact (Eq.refl _ : (_ : List Value) = _)) | omega | go_size)
        clear zw_7 zr_7 zx_7 rw_7 rr_7 rl_7 rt_7 rx_7 rp_7 bb_7 kw_7 fw_7 lw_7 kr_7 fr_7 lr_7 kx_7 fx_7 lx_7 b8
        have kw_8 := zw_8.cell; have fw_8 := zw_8.frozen; have lw_8 := zw_8.lt
        have kr_8 := zr_8.cell; have fr_8 := zr_8.frozen; have lr_8 := zr_8.lt
        have kx_8 := zx_8.cell; have fx_8 := zx_8.frozen; have lx_8 := zx_8.lt
        go_wp2_with fail
        refine (nextQ_c Q Q2 _ 4 4 (leB n 4) _ (by exact RowIn.row (lo := w6.heap.size + 1) (hi := w7.heap.size) (by repeat' (first | (with_reducible first | assumption | exact Below.refl _ _ | refine Blk.drewN ?_ _ | refine RowIn.drewN ?_ _ | refine below_drewN ?_ _ | refine Blk.drew ?_ | refine RowIn.drew ?_ | refine Below.drew ?_) | (with_reducible refine Blk.new' ?_ ?_ <;> first | (with_reducible rfl) | (simp; done)) | (with_reducible first | refine Blk.alloc ?_ _ | refine RowIn.alloc ?_ _ | refine Below.alloc ?_ ?_ _ | apply Blk.set' | apply Blk.far' | refine RowIn.far' ?_ ?_ _ | refine Below.far' ?_ ?_ _) | (exact (Eq.refl _ : (_ : List Value) = _)) | omega | go_size))) (leB_within _ _) (by omega) hQ HQ2.out).mono ?_
        rintro e w9 ⟨rfl, b9⟩
        have s9 := b9.size
        try simp only [World.size_alloc, World.size_setCell, World.size_drew, size_drewN] at s9
        obtain ⟨zw_9, zr_9, zx_9, rw_9, rr_9, rl_9, rt_9, rx_9, rp_9, bb_9⟩ : Blk w9 (w1.heap.size) 26 [.slice Aw mw cw, .int .i64 ((yw.length : Nat) : Int)] ∧ Blk w9 (w1.heap.size + 1) 26 [.slice Ar mr cr, .int .i64 ((yr.length : Nat) : Int)] ∧ Blk w9 (w6.heap.size) 26 [.slice Ax mx cx, .int .i64 ((xx.length : Nat) : Int)] ∧ RowIn .u8 w9 (low) (hiw) Aw mw (pack yw) ∧ RowIn .u8 w9 (lor) (hir) Ar mr (pack yr) ∧ RowIn .i32 w9 (0) (w.heap.size) (some ⟨bl, ol, none⟩) nl xsl ∧ RowIn .u8 w9 (0) (w.heap.size) (some ⟨0, 0, none⟩) 64 dbTab ∧ RowIn .u8 w9 (wr.heap.size + 0) (w6.heap.size) Ax mx (pack xx) ∧ RowIn .u8 w9 (w6.heap.size + 1) (w7.heap.size) (some ⟨w6.heap.size + 1, 0, none⟩) 4 (leB n 4) ∧ Below w.heap.size w w9 := by
          refine ⟨?_, ?_, ?_, ?_, ?_, ?_, ?_, ?_, ?_, ?_⟩
          all_goals repeat' (first | (with_reducible first | assumption | exact Below.refl _ _ | refine Blk.drewN ?_ _ | refine RowIn.drewN ?_ _ | refine below_drewN ?_ _ | refine Blk.drew ?_ | refine RowIn.drew ?_ | refine Below.drew ?_) | (with_reducible refine Blk.new' ?_ ?_ <;> first | (with_reducible rfl) | (simp; done)) | (with_reducible first | refine Blk.alloc ?_ _ | refine RowIn.alloc ?_ _ | refine Below.alloc ?_ ?_ _ | apply Blk.set' | apply Blk.far' | refine RowIn.far' ?_ ?_ _ | refine Below.far' ?_ ?_ _ | refine Blk.after ?_ b9 | refine RowIn.belowS ?_ b9 | refine Below.after ?_ b9 ?_) | (exact (Eq.refl _ : (_ : List Value) = _)) | omega | go_size)
        clear zw_8 zr_8 zx_8 rw_8 rr_8 rl_8 rt_8 rx_8 rp_8 bb_8 kw_8 fw_8 lw_8 kr_8 fr_8 lr_8 kx_8 fx_8 lx_8 b9
        have kw_9 := zw_9.cell; have fw_9 := zw_9.frozen; have lw_9 := zw_9.lt
        have kr_9 := zr_9.cell; have fr_9 := zr_9.frozen; have lr_9 := zr_9.lt
        have kx_9 := zx_9.cell; have fx_9 := zx_9.frozen; have lx_9 := zx_9.lt
        go_wp2_with fail
        refine (uwrite_c Ar mr cr yr (yr ++ run 48) 48 _ (by exact RowIn.row (lo := lor) (hi := hir) (by repeat' (first | (with_reducible first | assumption | exact Below.refl _ _ | refine Blk.drewN ?_ _ | refine RowIn.drewN ?_ _ | refine below_drewN ?_ _ | refine Blk.drew ?_ | refine RowIn.drew ?_ | refine Below.drew ?_) | (with_reducible refine Blk.new' ?_ ?_ <;> first | (with_reducible rfl) | (simp; done)) | (with_reducible first | refine Blk.alloc ?_ _ | refine RowIn.alloc ?_ _ | refine Below.alloc ?_ ?_ _ | apply Blk.set' | apply Blk.far' | refine RowIn.far' ?_ ?_ _ | refine Below.far' ?_ ?_ _) | (exact (Eq.refl _ : (_ : List Value) = _)) | omega | go_size))) hcr (by omega) (by omega) rfl).mono ?_
        rintro e w10 ⟨Ay, my, cy, xy, rfl, hcy, ry, HXy, b10⟩
        replace ry := ry.mono (lo' := w9.heap.size + 0) (by go_size) (Nat.le_refl _)
        have s10 := b10.size
        try simp only [World.size_alloc, World.size_setCell, World.size_drew, size_drewN] at s10
        obtain ⟨zw_10, zr_10, zx_10, rw_10, rr_10, rl_10, rt_10, rx_10, ry_10, bb_10⟩ : Blk w10 (w1.heap.size) 26 [.slice Aw mw cw, .int .i64 ((yw.length : Nat) : Int)] ∧ Blk w10 (w1.heap.size + 1) 26 [.slice Ar mr cr, .int .i64 ((yr.length : Nat) : Int)] ∧ Blk w10 (w6.heap.size) 26 [.slice Ax mx cx, .int .i64 ((xx.length : Nat) : Int)] ∧ RowIn .u8 w10 (low) (hiw) Aw mw (pack yw) ∧ RowIn .u8 w10 (lor) (hir) Ar mr (pack yr) ∧ RowIn .i32 w10 (0) (w.heap.size) (some ⟨bl, ol, none⟩) nl xsl ∧ RowIn .u8 w10 (0) (w.heap.size) (some ⟨0, 0, none⟩) 64 dbTab ∧ RowIn .u8 w10 (wr.heap.size + 0) (w6.heap.size) Ax mx (pack xx) ∧ RowIn .u8 w10 (w9.heap.size + 0) (w10.heap.size) Ay my (pack xy) ∧ Below w.heap.size w w10 := by
          refine ⟨?_, ?_, ?_, ?_, ?_, ?_, ?_, ?_, ?_, ?_⟩
          all_goals repeat' (first | (with_reducible first | assumption | exact Below.refl _ _ | refine Blk.drewN ?_ _ | refine RowIn.drewN ?_ _ | refine below_drewN ?_ _ | refine Blk.drew ?_ | refine RowIn.drew ?_ | refine Below.drew ?_) | (with_reducible refine Blk.new' ?_ ?_ <;> first | (with_reducible rfl) | (simp; done)) | (with_reducible first | refine Blk.alloc ?_ _ | refine RowIn.alloc ?_ _ | refine Below.alloc ?_ ?_ _ | apply Blk.set' | apply Blk.far' | refine RowIn.far' ?_ ?_ _ | refine Below.far' ?_ ?_ _ | refine Blk.after ?_ b10 | refine RowIn.belowS ?_ b10 | refine Below.after ?_ b10 ?_) | (exact (Eq.refl _ : (_ : List Value) = _)) | omega | go_size)
        clear zw_9 zr_9 zx_9 rw_9 rr_9 rl_9 rt_9 rx_9 rp_9 bb_9 kw_9 fw_9 lw_9 kr_9 fr_9 lr_9 kx_9 fx_9 lx_9 b10
        have kw_10 := zw_10.cell; have fw_10 := zw_10.frozen; have lw_10 := zw_10.lt
        have kr_10 := zr_10.cell; have fr_10 := zr_10.frozen; have lr_10 := zr_10.lt
        have kx_10 := zx_10.cell; have fx_10 := zx_10.frozen; have lx_10 := zx_10.lt
        clear ry
        go_wp2_with fail
        have HX2 : Hid (xx = unpack (wideB xsl (j + 1))) := Lib.hid (by rw [HXx.out, wide_bits, HW.out, HV.out, HN.out])
        have HY2 : Hid (xy = runsB xsl (j + 1)) := Lib.hid (by rw [HXy.out, runsB_next, HR.out, HV.out, HQ48.out])
        have HS3 : Hid (S2 = Crc.bytes 4294967295 (wideB xsl (j + 1))) := Lib.hid (by rw [← HS2.out, wideB_next, Crc.bytes_append, ← HS.out, HV.out, HN.out])
        have HQ3 : Hid (Q2 = Crc64.bytes 0 (wideB xsl (j + 1))) := Lib.hid (by rw [← HQ2.out, wideB_next, Crc64.bytes_append, ← HQ.out, HV.out, HN.out])
        obtain ⟨w11, hw11⟩ : ∃ w11, w11 = (w10.alloc (.cells #[.slice Ay my cy, .int .i64 ((xy.length : Nat) : Int)] 26)) := ⟨_, rfl⟩
        obtain ⟨zw_11, zr_11, zx_11, zy_11, rw_11, rr_11, rl_11, rt_11, rx_11, ry_11, bb_11, s11⟩ : Blk w11 (w1.heap.size) 26 [.slice Aw mw cw, .int .i64 ((yw.length : Nat) : Int)] ∧ Blk w11 (w1.heap.size + 1) 26 [.slice Ar mr cr, .int .i64 ((yr.length : Nat) : Int)] ∧ Blk w11 (w6.heap.size) 26 [.slice Ax mx cx, .int .i64 ((xx.length : Nat) : Int)] ∧ Blk w11 (w10.heap.size) 26 [.slice Ay my cy, .int .i64 ((xy.length : Nat) : Int)] ∧ RowIn .u8 w11 (low) (hiw) Aw mw (pack yw) ∧ RowIn .u8 w11 (lor) (hir) Ar mr (pack yr) ∧ RowIn .i32 w11 (0) (w.heap.size) (some ⟨bl, ol, none⟩) nl xsl ∧ RowIn .u8 w11 (0) (w.heap.size) (some ⟨0, 0, none⟩) 64 dbTab ∧ RowIn .u8 w11 (wr.heap.size + 0) (w6.heap.size) Ax mx (pack xx) ∧ RowIn .u8 w11 (w9.heap.size + 0) (w10.heap.size) Ay my (pack xy) ∧ Below w.heap.size w w11 ∧ w10.heap.size ≤ w11.heap.size := by
          rw [hw11]
          refine ⟨?_, ?_, ?_, ?_, ?_, ?_, ?_, ?_, ?_, ?_, ?_, by go_size⟩
          all_goals repeat' (first | (with_reducible first | assumption | exact Below.refl _ _ | refine Blk.drewN ?_ _ | refine RowIn.drewN ?_ _ | refine below_drewN ?_ _ | refine Blk.drew ?_ | refine RowIn.drew ?_ | refine Below.drew ?_) | (with_reducible refine Blk.new' ?_ ?_ <;> first | (with_reducible rfl) | (simp; done)) | (with_reducible first | refine Blk.alloc ?_ _ | refine RowIn.alloc ?_ _ | refine Below.alloc ?_ ?_ _ | apply Blk.set' | apply Blk.far' | refine RowIn.far' ?_ ?_ _ | refine Below.far' ?_ ?_ _) | (exact (Eq.refl _ : (_ : List Value) = _)) | omega | go_size)
        rw [← hw11]
        clear hw11
        clear zw_10 zr_10 zx_10 rw_10 rr_10 rl_10 rt_10 rx_10 ry_10 bb_10 kw_10 fw_10 lw_10 kr_10 fr_10 lr_10 kx_10 fx_10 lx_10
        have kw_11 := zw_11.cell; have fw_11 := zw_11.frozen; have lw_11 := zw_11.lt
        have kr_11 := zr_11.cell; have fr_11 := zr_11.frozen; have lr_11 := zr_11.lt
        have kx_11 := zx_11.cell; have fx_11 := zx_11.frozen; have lx_11 := zx_11.lt
        have ky_11 := zy_11.cell; have fy_11 := zy_11.frozen; have ly_11 := zy_11.lt
        have hgx : w1.heap.size + 1 < w6.heap.size := by omega
        have hgy : w1.heap.size + 1 < w10.heap.size := by omega
        go_region_held3 (fun w' => (∀ a, w'.cell? ⟨w6.heap.size, a, none⟩ = [.slice Ax mx cx, .int .i64 ((xx.length : Nat) : Int)][a]?) ∧ (∀ a, w'.cell? ⟨w10.heap.size, a, none⟩ = [.slice Ay my cy, .int .i64 ((xy.length : Nat) : Int)][a]?)) (first | with_reducible exact ⟨kx_11, ky_11⟩ | (refine ⟨Blk.cell (t := 26) ?_, Blk.cell (t := 26) ?_⟩; all_goals repeat' (first | (with_reducible first | assumption | exact Below.refl _ _ | refine Blk.drewN ?_ _ | refine RowIn.drewN ?_ _ | refine below_drewN ?_ _ | refine Blk.drew ?_ | refine RowIn.drew ?_ | refine Below.drew ?_) | (with_reducible refine Blk.new' ?_ ?_ <;> first | (with_reducible rfl) | (simp; done)) | (with_reducible first | refine Blk.alloc ?_ _ | refine RowIn.alloc ?_ _ | refine Below.alloc ?_ ?_ _ | apply Blk.set' | apply Blk.far' | refine RowIn.far' ?_ ?_ _ | refine Below.far' ?_ ?_ _) | (exact (Eq.refl _ : (_ : List Value) = _)) | omega | go_size))) (fail)
        all_goals try go_wp2
        all_goals
          go_roundg (nl - (j + 1))
          case measure => omega
          case rel =>
            refine ⟨j + 1, S2, Q2, mx, cx, my, cy, wr.heap.size + 0, w6.heap.size, w9.heap.size + 0, w10.heap.size, Ax, Ay, xx, xy, by omega, rfl, rfl, by go_num, HS3, HQ3, HX2, HY2, hcx, hcy, ?_, ?_, ?_, ?_, by omega, by omega, by go_size, by go_size, ?_⟩
            · first | (with_reducible exact Blk.drew (Blk.far2 (Blk.set2 zw_11) (by omega))) | (with_reducible exact Blk.far2 (Blk.set2 zw_11) (by omega)) | exact Blk.far2 (Blk.set2 zw_11) (by omega)
            · first | (with_reducible exact Blk.drew (Blk.set2 (Blk.far2 zr_11 (by omega)))) | (with_reducible exact Blk.set2 (Blk.far2 zr_11 (by omega))) | exact Blk.set2 (Blk.far2 zr_11 (by omega))
            all_goals repeat' (first | (with_reducible first | assumption | exact Below.refl _ _ | refine Blk.drewN ?_ _ | refine RowIn.drewN ?_ _ | refine below_drewN ?_ _ | refine Blk.drew ?_ | refine RowIn.drew ?_ | refine Below.drew ?_) | (with_reducible refine Blk.new' ?_ ?_ <;> first | (with_reducible rfl) | (simp; done)) | (with_reducible first | refine Blk.alloc ?_ _ | refine RowIn.alloc ?_ _ | refine Below.alloc ?_ ?_ _ | apply Blk.set' | apply Blk.far' | refine RowIn.far' ?_ ?_ _ | refine Below.far' ?_ ?_ _) | (exact (Eq.refl _ : (_ : List Value) = _)) | omega | go_size)
      · have h48i : ¬ (48 : Int) < (n : Int) := by omega
        have HQ48 : Hid (n = cut48 x) := Lib.hid (by unfold cut48; rw [← HN.out]; omega)
        go_wp2_with fail
        refine (fold_c x n _ hxb HN.out).mono ?_
        rintro e _ ⟨rfl, rfl⟩
        go_wp2_with fail
        refine (bput_c Aw mw cw yw (yw ++ lowBits n 32) n 32 _ (by exact RowIn.row (lo := low) (hi := hiw) (by repeat' (first | (with_reducible first | assumption | exact Below.refl _ _ | refine Blk.drewN ?_ _ | refine RowIn.drewN ?_ _ | refine below_drewN ?_ _ | refine Blk.drew ?_ | refine RowIn.drew ?_ | refine Below.drew ?_) | (with_reducible refine Blk.new' ?_ ?_ <;> first | (with_reducible rfl) | (simp; done)) | (with_reducible first | refine Blk.alloc ?_ _ | refine RowIn.alloc ?_ _ | refine Below.alloc ?_ ?_ _ | apply Blk.set' | apply Blk.far' | refine RowIn.far' ?_ ?_ _ | refine Below.far' ?_ ?_ _) | (exact (Eq.refl _ : (_ : List Value) = _)) | omega | go_size))) hcw (by omega) (by omega) hn32 (by omega) rfl).mono ?_
        rintro e w6 ⟨Ax, mx, cx, xx, rfl, hcx, rx, HXx, b6⟩
        have Lx : xx.length ≤ 32 * (j + 1) ∧ 32 * (j + 1) ≤ xx.length := by rw [HXx.out]; rw [List.length_append, lowBits_len]; omega
        obtain ⟨Lx1, Lx2⟩ := Lx
        replace rx := rx.mono (lo' := wr.heap.size + 0) (by go_size) (Nat.le_refl _)
        have s6 := b6.size
        try simp only [World.size_alloc, World.size_setCell, World.size_drew, size_drewN] at s6
        obtain ⟨zw_6, zr_6, rw_6, rr_6, rl_6, rt_6, rx_6, bb_6⟩ : Blk w6 (w1.heap.size) 26 [.slice Aw mw cw, .int .i64 ((yw.length : Nat) : Int)] ∧ Blk w6 (w1.heap.size + 1) 26 [.slice Ar mr cr, .int .i64 ((yr.length : Nat) : Int)] ∧ RowIn .u8 w6 (low) (hiw) Aw mw (pack yw) ∧ RowIn .u8 w6 (lor) (hir) Ar mr (pack yr) ∧ RowIn .i32 w6 (0) (w.heap.size) (some ⟨bl, ol, none⟩) nl xsl ∧ RowIn .u8 w6 (0) (w.heap.size) (some ⟨0, 0, none⟩) 64 dbTab ∧ RowIn .u8 w6 (wr.heap.size + 0) (w6.heap.size) Ax mx (pack xx) ∧ Below w.heap.size w w6 := by
          refine ⟨?_, ?_, ?_, ?_, ?_, ?_, ?_, ?_⟩
          all_goals repeat' (first | (with_reducible first | assumption | exact Below.refl _ _ | refine Blk.drewN ?_ _ | refine RowIn.drewN ?_ _ | refine below_drewN ?_ _ | refine Blk.drew ?_ | refine RowIn.drew ?_ | refine Below.drew ?_) | (with_reducible refine Blk.new' ?_ ?_ <;> first | (with_reducible rfl) | (simp; done)) | (with_reducible first | refine Blk.alloc ?_ _ | refine RowIn.alloc ?_ _ | refine Below.alloc ?_ ?_ _ | apply Blk.set' | apply Blk.far' | refine RowIn.far' ?_ ?_ _ | refine Below.far' ?_ ?_ _ | refine Blk.after ?_ b6 | refine RowIn.belowS ?_ b6 | refine Below.after ?_ b6 ?_) | (exact (Eq.refl _ : (_ : List Value) = _)) | omega | go_size)
        clear zw_5 zr_5 rw_5 rr_5 rl_5 rt_5 bb_5 kw_5 kr_5 fw_5 fr_5 lw_5 lr_5 cL_5 b6
        have kw_6 := zw_6.cell; have fw_6 := zw_6.frozen; have lw_6 := zw_6.lt
        have kr_6 := zr_6.cell; have fr_6 := zr_6.frozen; have lr_6 := zr_6.lt
        clear rx
        go_wp2_with fail
        refine (lebytes_ok n 4 _ (by omega) (by omega) (by omega) (by omega)).mono ?_
        rintro e w7 ⟨rfl, ownp, b7⟩
        have rp := ownp.rowIn
        try simp only [World.size_alloc] at rp
        try simp only [World.size_alloc] at ownp
        have s7 := b7.size
        try simp only [World.size_alloc, World.size_setCell, World.size_drew, size_drewN] at s7
        obtain ⟨zw_7, zr_7, zx_7, rw_7, rr_7, rl_7, rt_7, rx_7, rp_7, bb_7⟩ : Blk w7 (w1.heap.size) 26 [.slice Aw mw cw, .int .i64 ((yw.length : Nat) : Int)] ∧ Blk w7 (w1.heap.size + 1) 26 [.slice Ar mr cr, .int .i64 ((yr.length : Nat) : Int)] ∧ Blk w7 (w6.heap.size) 26 [.slice Ax mx cx, .int .i64 ((xx.length : Nat) : Int)] ∧ RowIn .u8 w7 (low) (hiw) Aw mw (pack yw) ∧ RowIn .u8 w7 (lor) (hir) Ar mr (pack yr) ∧ RowIn .i32 w7 (0) (w.heap.size) (some ⟨bl, ol, none⟩) nl xsl ∧ RowIn .u8 w7 (0) (w.heap.size) (some ⟨0, 0, none⟩) 64 dbTab ∧ RowIn .u8 w7 (wr.heap.size + 0) (w6.heap.size) Ax mx (pack xx) ∧ RowIn .u8 w7 (w6.heap.size + 1) (w7.heap.size) (some ⟨w6.heap.size + 1, 0, none⟩) 4 (leB n 4) ∧ Below w.heap.size w w7 := by
          refine ⟨?_, ?_, ?_, ?_, ?_, ?_, ?_, ?_, ?_, ?_⟩
          all_goals repeat' (first | (with_reducible first | assumption | exact Below.refl _ _ | refine Blk.drewN ?_ _ | refine RowIn.drewN ?_ _ | refine below_drewN ?_ _ | refine Blk.drew ?_ | refine RowIn.drew ?_ | refine Below.drew ?_) | (with_reducible refine Blk.new' ?_ ?_ <;> first | (with_reducible rfl) | (simp; done)) | (with_reducible first | refine Blk.alloc ?_ _ | refine RowIn.alloc ?_ _ | refine Below.alloc ?_ ?_ _ | apply Blk.set' | apply Blk.far' | refine RowIn.far' ?_ ?_ _ | refine Below.far' ?_ ?_ _ | refine Blk.after ?_ b7 | refine RowIn.belowS ?_ b7 | refine Below.after ?_ b7 ?_) | (exact (Eq.refl _ : (_ : List Value) = _)) | omega | go_size)
        clear zw_6 zr_6 rw_6 rr_6 rl_6 rt_6 rx_6 bb_6 kw_6 fw_6 lw_6 kr_6 fr_6 lr_6 b7
        have kw_7 := zw_7.cell; have fw_7 := zw_7.frozen; have lw_7 := zw_7.lt
        have kr_7 := zr_7.cell; have fr_7 := zr_7.frozen; have lr_7 := zr_7.lt
        have kx_7 := zx_7.cell; have fx_7 := zx_7.frozen; have lx_7 := zx_7.lt
        clear rp ownp
        go_wp2_with fail
        obtain ⟨S2, HS2⟩ : ∃ x, Hid (Crc.bytes S (leB n 4) = x) := ⟨_, Lib.hid rfl⟩
        obtain ⟨Q2, HQ2⟩ : ∃ x, Hid (Crc64.bytes Q (leB n 4) = x) := ⟨_, Lib.hid rfl⟩
        refine (next_c S S2 _ 4 4 (leB n 4) _ (by exact RowIn.row (lo := w6.heap.size + 1) (hi := w7.heap.size) (by repeat' (first | (with_reducible first | assumption | exact Below.refl _ _ | refine Blk.drewN ?_ _ | refine RowIn.drewN ?_ _ | refine below_drewN ?_ _ | refine Blk.drew ?_ | refine RowIn.drew ?_ | refine Below.drew ?_) | (with_reducible refine Blk.new' ?_ ?_ <;> first | (with_reducible rfl) | (simp; done)) | (with_reducible first | refine Blk.alloc ?_ _ | refine RowIn.alloc ?_ _ | refine Below.alloc ?_ ?_ _ | apply Blk.set' | apply Blk.far' | refine RowIn.far' ?_ ?_ _ | refine Below.far' ?_ ?_ _) | (exact (Eq.refl _ : (_ : List Value) = _)) | omega | go_size))) (leB_within _ _) (by omega) hS HS2.out).mono ?_
        rintro e w8 ⟨rfl, b8⟩
        have s8 := b8.size
        try simp only [World.size_alloc, World.size_setCell, World.size_drew, size_drewN] at s8
        obtain ⟨zw_8, zr_8, zx_8, rw_8, rr_8, rl_8, rt_8, rx_8, rp_8, bb_8⟩ : Blk w8 (w1.heap.size) 26 [.slice Aw mw cw, .int .i64 ((yw.length : Nat) : Int)] ∧ Blk w8 (w1.heap.size + 1) 26 [.slice Ar mr cr, .int .i64 ((yr.length : Nat) : Int)] ∧ Blk w8 (w6.heap.size) 26 [.slice Ax mx cx, .int .i64 ((xx.length : Nat) : Int)] ∧ RowIn .u8 w8 (low) (hiw) Aw mw (pack yw) ∧ RowIn .u8 w8 (lor) (hir) Ar mr (pack yr) ∧ RowIn .i32 w8 (0) (w.heap.size) (some ⟨bl, ol, none⟩) nl xsl ∧ RowIn .u8 w8 (0) (w.heap.size) (some ⟨0, 0, none⟩) 64 dbTab ∧ RowIn .u8 w8 (wr.heap.size + 0) (w6.heap.size) Ax mx (pack xx) ∧ RowIn .u8 w8 (w6.heap.size + 1) (w7.heap.size) (some ⟨w6.heap.size + 1, 0, none⟩) 4 (leB n 4) ∧ Below w.heap.size w w8 := by
          refine ⟨?_, ?_, ?_, ?_, ?_, ?_, ?_, ?_, ?_, ?_⟩
          all_goals repeat' (first | (with_reducible first | assumption | exact Below.refl _ _ | refine Blk.drewN ?_ _ | refine RowIn.drewN ?_ _ | refine below_drewN ?_ _ | refine Blk.drew ?_ | refine RowIn.drew ?_ | refine Below.drew ?_) | (with_reducible refine Blk.new' ?_ ?_ <;> first | (with_reducible rfl) | (simp; done)) | (with_reducible first | refine Blk.alloc ?_ _ | refine RowIn.alloc ?_ _ | refine Below.alloc ?_ ?_ _ | apply Blk.set' | apply Blk.far' | refine RowIn.far' ?_ ?_ _ | refine Below.far' ?_ ?_ _ | refine Blk.after ?_ b8 | refine RowIn.belowS ?_ b8 | refine Below.after ?_ b8 ?_) | (exact (Eq.refl _ : (_ : List Value) = _)) | omega | go_size)
        clear zw_7 zr_7 zx_7 rw_7 rr_7 rl_7 rt_7 rx_7 rp_7 bb_7 kw_7 fw_7 lw_7 kr_7 fr_7 lr_7 kx_7 fx_7 lx_7 b8
        have kw_8 := zw_8.cell; have fw_8 := zw_8.frozen; have lw_8 := zw_8.lt
        have kr_8 := zr_8.cell; have fr_8 := zr_8.frozen; have lr_8 := zr_8.lt
        have kx_8 := zx_8.cell; have fx_8 := zx_8.frozen; have lx_8 := zx_8.lt
        go_wp2_with fail
        refine (nextQ_c Q Q2 _ 4 4 (leB n 4) _ (by exact RowIn.row (lo := w6.heap.size + 1) (hi := w7.heap.size) (by repeat' (first | (with_reducible first | assumption | exact Below.refl _ _ | refine Blk.drewN ?_ _ | refine RowIn.drewN ?_ _ | refine below_drewN ?_ _ | refine Blk.drew ?_ | refine RowIn.drew ?_ | refine Below.drew ?_) | (with_reducible refine Blk.new' ?_ ?_ <;> first | (with_reducible rfl) | (simp; done)) | (with_reducible first | refine Blk.alloc ?_ _ | refine RowIn.alloc ?_ _ | refine Below.alloc ?_ ?_ _ | apply Blk.set' | apply Blk.far' | refine RowIn.far' ?_ ?_ _ | refine Below.far' ?_ ?_ _) | (exact (Eq.refl _ : (_ : List Value) = _)) | omega | go_size))) (leB_within _ _) (by omega) hQ HQ2.out).mono ?_
        rintro e w9 ⟨rfl, b9⟩
        have s9 := b9.size
        try simp only [World.size_alloc, World.size_setCell, World.size_drew, size_drewN] at s9
        obtain ⟨zw_9, zr_9, zx_9, rw_9, rr_9, rl_9, rt_9, rx_9, rp_9, bb_9⟩ : Blk w9 (w1.heap.size) 26 [.slice Aw mw cw, .int .i64 ((yw.length : Nat) : Int)] ∧ Blk w9 (w1.heap.size + 1) 26 [.slice Ar mr cr, .int .i64 ((yr.length : Nat) : Int)] ∧ Blk w9 (w6.heap.size) 26 [.slice Ax mx cx, .int .i64 ((xx.length : Nat) : Int)] ∧ RowIn .u8 w9 (low) (hiw) Aw mw (pack yw) ∧ RowIn .u8 w9 (lor) (hir) Ar mr (pack yr) ∧ RowIn .i32 w9 (0) (w.heap.size) (some ⟨bl, ol, none⟩) nl xsl ∧ RowIn .u8 w9 (0) (w.heap.size) (some ⟨0, 0, none⟩) 64 dbTab ∧ RowIn .u8 w9 (wr.heap.size + 0) (w6.heap.size) Ax mx (pack xx) ∧ RowIn .u8 w9 (w6.heap.size + 1) (w7.heap.size) (some ⟨w6.heap.size + 1, 0, none⟩) 4 (leB n 4) ∧ Below w.heap.size w w9 := by
          refine ⟨?_, ?_, ?_, ?_, ?_, ?_, ?_, ?_, ?_, ?_⟩
          all_goals repeat' (first | (with_reducible first | assumption | exact Below.refl _ _ | refine Blk.drewN ?_ _ | refine RowIn.drewN ?_ _ | refine below_drewN ?_ _ | refine Blk.drew ?_ | refine RowIn.drew ?_ | refine Below.drew ?_) | (with_reducible refine Blk.new' ?_ ?_ <;> first | (with_reducible rfl) | (simp; done)) | (with_reducible first | refine Blk.alloc ?_ _ | refine RowIn.alloc ?_ _ | refine Below.alloc ?_ ?_ _ | apply Blk.set' | apply Blk.far' | refine RowIn.far' ?_ ?_ _ | refine Below.far' ?_ ?_ _ | refine Blk.after ?_ b9 | refine RowIn.belowS ?_ b9 | refine Below.after ?_ b9 ?_) | (exact (Eq.refl _ : (_ : List Value) = _)) | omega | go_size)
        clear zw_8 zr_8 zx_8 rw_8 rr_8 rl_8 rt_8 rx_8 rp_8 bb_8 kw_8 fw_8 lw_8 kr_8 fr_8 lr_8 kx_8 fx_8 lx_8 b9
        have kw_9 := zw_9.cell; have fw_9 := zw_9.frozen; have lw_9 := zw_9.lt
        have kr_9 := zr_9.cell; have fr_9 := zr_9.frozen; have lr_9 := zr_9.lt
        have kx_9 := zx_9.cell; have fx_9 := zx_9.frozen; have lx_9 := zx_9.lt
        go_wp2_with fail
        refine (uwrite_c Ar mr cr yr (yr ++ run n) n _ (by exact RowIn.row (lo := lor) (hi := hir) (by repeat' (first | (with_reducible first | assumption | exact Below.refl _ _ | refine Blk.drewN ?_ _ | refine RowIn.drewN ?_ _ | refine below_drewN ?_ _ | refine Blk.drew ?_ | refine RowIn.drew ?_ | refine Below.drew ?_) | (with_reducible refine Blk.new' ?_ ?_ <;> first | (with_reducible rfl) | (simp; done)) | (with_reducible first | refine Blk.alloc ?_ _ | refine RowIn.alloc ?_ _ | refine Below.alloc ?_ ?_ _ | apply Blk.set' | apply Blk.far' | refine RowIn.far' ?_ ?_ _ | refine Below.far' ?_ ?_ _) | (exact (Eq.refl _ : (_ : List Value) = _)) | omega | go_size))) hcr (by omega) (by omega) rfl).mono ?_
        rintro e w10 ⟨Ay, my, cy, xy, rfl, hcy, ry, HXy, b10⟩
        replace ry := ry.mono (lo' := w9.heap.size + 0) (by go_size) (Nat.le_refl _)
        have s10 := b10.size
        try simp only [World.size_alloc, World.size_setCell, World.size_drew, size_drewN] at s10
        obtain ⟨zw_10, zr_10, zx_10, rw_10, rr_10, rl_10, rt_10, rx_10, ry_10, bb_10⟩ : Blk w10 (w1.heap.size) 26 [.slice Aw mw cw, .int .i64 ((yw.length : Nat) : Int)] ∧ Blk w10 (w1.heap.size + 1) 26 [.slice Ar mr cr, .int .i64 ((yr.length : Nat) : Int)] ∧ Blk w10 (w6.heap.size) 26 [.slice Ax mx cx, .int .i64 ((xx.length : Nat) : Int)] ∧ RowIn .u8 w10 (low) (hiw) Aw mw (pack yw) ∧ RowIn .u8 w10 (lor) (hir) Ar mr (pack yr) ∧ RowIn .i32 w10 (0) (w.heap.size) (some ⟨bl, ol, none⟩) nl xsl ∧ RowIn .u8 w10 (0) (w.heap.size) (some ⟨0, 0, none⟩) 64 dbTab ∧ RowIn .u8 w10 (wr.heap.size + 0) (w6.heap.size) Ax mx (pack xx) ∧ RowIn .u8 w10 (w9.heap.size + 0) (w10.heap.size) Ay my (pack xy) ∧ Below w.heap.size w w10 := by
          refine ⟨?_, ?_, ?_, ?_, ?_, ?_, ?_, ?_, ?_, ?_⟩
          all_goals repeat' (first | (with_reducible first | assumption | exact Below.refl _ _ | refine Blk.drewN ?_ _ | refine RowIn.drewN ?_ _ | refine below_drewN ?_ _ | refine Blk.drew ?_ | refine RowIn.drew ?_ | refine Below.drew ?_) | (with_reducible refine Blk.new' ?_ ?_ <;> first | (with_reducible rfl) | (simp; done)) | (with_reducible first | refine Blk.alloc ?_ _ | refine RowIn.alloc ?_ _ | refine Below.alloc ?_ ?_ _ | apply Blk.set' | apply Blk.far' | refine RowIn.far' ?_ ?_ _ | refine Below.far' ?_ ?_ _ | refine Blk.after ?_ b10 | refine RowIn.belowS ?_ b10 | refine Below.after ?_ b10 ?_) | (exact (Eq.refl _ : (_ : List Value) = _)) | omega | go_size)
        clear zw_9 zr_9 zx_9 rw_9 rr_9 rl_9 rt_9 rx_9 rp_9 bb_9 kw_9 fw_9 lw_9 kr_9 fr_9 lr_9 kx_9 fx_9 lx_9 b10
        have kw_10 := zw_10.cell; have fw_10 := zw_10.frozen; have lw_10 := zw_10.lt
        have kr_10 := zr_10.cell; have fr_10 := zr_10.frozen; have lr_10 := zr_10.lt
        have kx_10 := zx_10.cell; have fx_10 := zx_10.frozen; have lx_10 := zx_10.lt
        clear ry
        go_wp2_with fail
        have HX2 : Hid (xx = unpack (wideB xsl (j + 1))) := Lib.hid (by rw [HXx.out, wide_bits, HW.out, HV.out, HN.out])
        have HY2 : Hid (xy = runsB xsl (j + 1)) := Lib.hid (by rw [HXy.out, runsB_next, HR.out, HV.out, HQ48.out])
        have HS3 : Hid (S2 = Crc.bytes 4294967295 (wideB xsl (j + 1))) := Lib.hid (by rw [← HS2.out, wideB_next, Crc.bytes_append, ← HS.out, HV.out, HN.out])
        have HQ3 : Hid (Q2 = Crc64.bytes 0 (wideB xsl (j + 1))) := Lib.hid (by rw [← HQ2.out, wideB_next, Crc64.bytes_append, ← HQ.out, HV.out, HN.out])
        obtain ⟨w11, hw11⟩ : ∃ w11, w11 = (w10.alloc (.cells #[.slice Ay my cy, .int .i64 ((xy.length : Nat) : Int)] 26)) := ⟨_, rfl⟩
        obtain ⟨zw_11, zr_11, zx_11, zy_11, rw_11, rr_11, rl_11, rt_11, rx_11, ry_11, bb_11, s11⟩ : Blk w11 (w1.heap.size) 26 [.slice Aw mw cw, .int .i64 ((yw.length : Nat) : Int)] ∧ Blk w11 (w1.heap.size + 1) 26 [.slice Ar mr cr, .int .i64 ((yr.length : Nat) : Int)] ∧ Blk w11 (w6.heap.size) 26 [.slice Ax mx cx, .int .i64 ((xx.length : Nat) : Int)] ∧ Blk w11 (w10.heap.size) 26 [.slice Ay my cy, .int .i64 ((xy.length : Nat) : Int)] ∧ RowIn .u8 w11 (low) (hiw) Aw mw (pack yw) ∧ RowIn .u8 w11 (lor) (hir) Ar mr (pack yr) ∧ RowIn .i32 w11 (0) (w.heap.size) (some ⟨bl, ol, none⟩) nl xsl ∧ RowIn .u8 w11 (0) (w.heap.size) (some ⟨0, 0, none⟩) 64 dbTab ∧ RowIn .u8 w11 (wr.heap.size + 0) (w6.heap.size) Ax mx (pack xx) ∧ RowIn .u8 w11 (w9.heap.size + 0) (w10.heap.size) Ay my (pack xy) ∧ Below w.heap.size w w11 ∧ w10.heap.size ≤ w11.heap.size := by
          rw [hw11]
          refine ⟨?_, ?_, ?_, ?_, ?_, ?_, ?_, ?_, ?_, ?_, ?_, by go_size⟩
          all_goals repeat' (first | (with_reducible first | assumption | exact Below.refl _ _ | refine Blk.drewN ?_ _ | refine RowIn.drewN ?_ _ | refine below_drewN ?_ _ | refine Blk.drew ?_ | refine RowIn.drew ?_ | refine Below.drew ?_) | (with_reducible refine Blk.new' ?_ ?_ <;> first | (with_reducible rfl) | (simp; done)) | (with_reducible first | refine Blk.alloc ?_ _ | refine RowIn.alloc ?_ _ | refine Below.alloc ?_ ?_ _ | apply Blk.set' | apply Blk.far' | refine RowIn.far' ?_ ?_ _ | refine Below.far' ?_ ?_ _) | (exact (Eq.refl _ : (_ : List Value) = _)) | omega | go_size)
        rw [← hw11]
        clear hw11
        clear zw_10 zr_10 zx_10 rw_10 rr_10 rl_10 rt_10 rx_10 ry_10 bb_10 kw_10 fw_10 lw_10 kr_10 fr_10 lr_10 kx_10 fx_10 lx_10
        have kw_11 := zw_11.cell; have fw_11 := zw_11.frozen; have lw_11 := zw_11.lt
        have kr_11 := zr_11.cell; have fr_11 := zr_11.frozen; have lr_11 := zr_11.lt
        have kx_11 := zx_11.cell; have fx_11 := zx_11.frozen; have lx_11 := zx_11.lt
        have ky_11 := zy_11.cell; have fy_11 := zy_11.frozen; have ly_11 := zy_11.lt
        have hgx : w1.heap.size + 1 < w6.heap.size := by omega
        have hgy : w1.heap.size + 1 < w10.heap.size := by omega
        go_region_held3 (fun w' => (∀ a, w'.cell? ⟨w6.heap.size, a, none⟩ = [.slice Ax mx cx, .int .i64 ((xx.length : Nat) : Int)][a]?) ∧ (∀ a, w'.cell? ⟨w10.heap.size, a, none⟩ = [.slice Ay my cy, .int .i64 ((xy.length : Nat) : Int)][a]?)) (first | with_reducible exact ⟨kx_11, ky_11⟩ | (refine ⟨Blk.cell (t := 26) ?_, Blk.cell (t := 26) ?_⟩; all_goals repeat' (first | (with_reducible first | assumption | exact Below.refl _ _ | refine Blk.drewN ?_ _ | refine RowIn.drewN ?_ _ | refine below_drewN ?_ _ | refine Blk.drew ?_ | refine RowIn.drew ?_ | refine Below.drew ?_) | (with_reducible refine Blk.new' ?_ ?_ <;> first | (with_reducible rfl) | (simp; done)) | (with_reducible first | refine Blk.alloc ?_ _ | refine RowIn.alloc ?_ _ | refine Below.alloc ?_ ?_ _ | apply Blk.set' | apply Blk.far' | refine RowIn.far' ?_ ?_ _ | refine Below.far' ?_ ?_ _) | (exact (Eq.refl _ : (_ : List Value) = _)) | omega | go_size))) (fail)
        all_goals try go_wp2
        all_goals
          go_roundg (nl - (j + 1))
          case measure => omega
          case rel =>
            refine ⟨j + 1, S2, Q2, mx, cx, my, cy, wr.heap.size + 0, w6.heap.size, w9.heap.size + 0, w10.heap.size, Ax, Ay, xx, xy, by omega, rfl, rfl, by go_num, HS3, HQ3, HX2, HY2, hcx, hcy, ?_, ?_, ?_, ?_, by omega, by omega, by go_size, by go_size, ?_⟩
            · first | (with_reducible exact Blk.drew (Blk.far2 (Blk.set2 zw_11) (by omega))) | (with_reducible exact Blk.far2 (Blk.set2 zw_11) (by omega)) | exact Blk.far2 (Blk.set2 zw_11) (by omega)
            · first | (with_reducible exact Blk.drew (Blk.set2 (Blk.far2 zr_11 (by omega)))) | (with_reducible exact Blk.set2 (Blk.far2 zr_11 (by omega))) | exact Blk.set2 (Blk.far2 zr_11 (by omega))
            all_goals repeat' (first | (with_reducible first | assumption | exact Below.refl _ _ | refine Blk.drewN ?_ _ | refine RowIn.drewN ?_ _ | refine below_drewN ?_ _ | refine Blk.drew ?_ | refine RowIn.drew ?_ | refine Below.drew ?_) | (with_reducible refine Blk.new' ?_ ?_ <;> first | (with_reducible rfl) | (simp; done)) | (with_reducible first | refine Blk.alloc ?_ _ | refine RowIn.alloc ?_ _ | refine Below.alloc ?_ ?_ _ | apply Blk.set' | apply Blk.far' | refine RowIn.far' ?_ ?_ _ | refine Below.far' ?_ ?_ _) | (exact (Eq.refl _ : (_ : List Value) = _)) | omega | go_size)
    · obtain rfl : j = nl := by omega
      have HPW : Hid (pack yw = wideB xsl j) := Lib.hid (by rw [HW.out, pack_unpack (wideB_u8 _ _)])
      have HZ : Hid (Crc.sum (pack yw) = 4294967295 - S) := Lib.hid (by rw [HPW.out]; unfold Crc.sum; rw [← HS.out])
      have HZQ : Hid (Crc64.bytes 0 (pack yw) = Q) := Lib.hid (by rw [HPW.out, ← HQ.out])
      obtain ⟨Z, hZ⟩ : ∃ Z, Z = 4294967295 - S := ⟨_, rfl⟩
      rw [← hZ] at HZ
      have hZi : (Z : Int) = 4294967295 - (S : Int) := by omega
      have e1 : (((yw.length : Nat) : Int) != 32 * (j : Int)) = false := by rw [bne_eq_false_iff_eq]; omega
      have e2 : ((Z : Int) != 4294967295 - (S : Int)) = false := by rw [bne_eq_false_iff_eq]; omega
      have e3 : ((Q : Int) != (Q : Int)) = false := by simp
      have rw_5len : Hid (4 * j ≤ mw) := Lib.hid (by have h := rw_5.len; rw [pack_len] at h; unfold bytesFor at h; omega)
      have hmw : mw ≤ 5000 := by have h := rw_5.len; rw [pack_len] at h; unfold bytesFor at h; omega
      clear hZ
      go_wp2_with fail
      refine (rcheck_ok Aw mw cw yw _ (by exact RowIn.row (lo := low) (hi := hiw) (by repeat' (first | (with_reducible first | assumption | exact Below.refl _ _ | refine Blk.drewN ?_ _ | refine RowIn.drewN ?_ _ | refine below_drewN ?_ _ | refine Blk.drew ?_ | refine RowIn.drew ?_ | refine Below.drew ?_) | (with_reducible refine Blk.new' ?_ ?_ <;> first | (with_reducible rfl) | (simp; done)) | (with_reducible first | refine Blk.alloc ?_ _ | refine RowIn.alloc ?_ _ | refine Below.alloc ?_ ?_ _ | apply Blk.set' | apply Blk.far' | refine RowIn.far' ?_ ?_ _ | refine Below.far' ?_ ?_ _) | (exact (Eq.refl _ : (_ : List Value) = _)) | omega | go_size))) (by omega) (by omega)).mono ?_
      rintro e w6 ⟨rfl, b6⟩
      have s6 := b6.size
      try simp only [World.size_alloc, World.size_setCell, World.size_drew, size_drewN] at s6
      obtain ⟨zw_6, zr_6, rw_6, rr_6, rl_6, rt_6, bb_6⟩ : Blk w6 (w1.heap.size) 26 [.slice Aw mw cw, .int .i64 ((yw.length : Nat) : Int)] ∧ Blk w6 (w1.heap.size + 1) 26 [.slice Ar mr cr, .int .i64 ((yr.length : Nat) : Int)] ∧ RowIn .u8 w6 (low) (hiw) Aw mw (pack yw) ∧ RowIn .u8 w6 (lor) (hir) Ar mr (pack yr) ∧ RowIn .i32 w6 (0) (w.heap.size) Al j xsl ∧ RowIn .u8 w6 (0) (w.heap.size) (some ⟨0, 0, none⟩) 64 dbTab ∧ Below w.heap.size w w6 := by
        refine ⟨?_, ?_, ?_, ?_, ?_, ?_, ?_⟩
        all_goals repeat' (first | (with_reducible first | assumption | exact Below.refl _ _ | refine Blk.drewN ?_ _ | refine RowIn.drewN ?_ _ | refine below_drewN ?_ _ | refine Blk.drew ?_ | refine RowIn.drew ?_ | refine Below.drew ?_) | (with_reducible refine Blk.new' ?_ ?_ <;> first | (with_reducible rfl) | (simp; done)) | (with_reducible first | refine Blk.alloc ?_ _ | refine RowIn.alloc ?_ _ | refine Below.alloc ?_ ?_ _ | apply Blk.set' | apply Blk.far' | refine RowIn.far' ?_ ?_ _ | refine Below.far' ?_ ?_ _ | refine Blk.after ?_ b6 | refine RowIn.belowS ?_ b6 | refine Below.after ?_ b6 ?_) | (exact (Eq.refl _ : (_ : List Value) = _)) | omega | go_size)
      clear zw_5 zr_5 rw_5 rr_5 rl_5 rt_5 bb_5 kw_5 kr_5 fw_5 fr_5 lw_5 lr_5 b6
      have kw_6 := zw_6.cell; have fw_6 := zw_6.frozen; have lw_6 := zw_6.lt
      have kr_6 := zr_6.cell; have fr_6 := zr_6.frozen; have lr_6 := zr_6.lt
      go_wp2_with fail
      refine (rcheck_ok Ar mr cr yr _ (by exact RowIn.row (lo := lor) (hi := hir) (by repeat' (first | (with_reducible first | assumption | exact Below.refl _ _ | refine Blk.drewN ?_ _ | refine RowIn.drewN ?_ _ | refine below_drewN ?_ _ | refine Blk.drew ?_ | refine RowIn.drew ?_ | refine Below.drew ?_) | (with_reducible refine Blk.new' ?_ ?_ <;> first | (with_reducible rfl) | (simp; done)) | (with_reducible first | refine Blk.alloc ?_ _ | refine RowIn.alloc ?_ _ | refine Below.alloc ?_ ?_ _ | apply Blk.set' | apply Blk.far' | refine RowIn.far' ?_ ?_ _ | refine Below.far' ?_ ?_ _) | (exact (Eq.refl _ : (_ : List Value) = _)) | omega | go_size))) (by omega) (by omega)).mono ?_
      rintro e w7 ⟨rfl, b7⟩
      have s7 := b7.size
      try simp only [World.size_alloc, World.size_setCell, World.size_drew, size_drewN] at s7
      obtain ⟨zw_7, zr_7, rw_7, rr_7, rl_7, rt_7, bb_7⟩ : Blk w7 (w1.heap.size) 26 [.slice Aw mw cw, .int .i64 ((yw.length : Nat) : Int)] ∧ Blk w7 (w1.heap.size + 1) 26 [.slice Ar mr cr, .int .i64 ((yr.length : Nat) : Int)] ∧ RowIn .u8 w7 (low) (hiw) Aw mw (pack yw) ∧ RowIn .u8 w7 (lor) (hir) Ar mr (pack yr) ∧ RowIn .i32 w7 (0) (w.heap.size) Al j xsl ∧ RowIn .u8 w7 (0) (w.heap.size) (some ⟨0, 0, none⟩) 64 dbTab ∧ Below w.heap.size w w7 := by
        refine ⟨?_, ?_, ?_, ?_, ?_, ?_, ?_⟩
        all_goals repeat' (first | (with_reducible first | assumption | exact Below.refl _ _ | refine Blk.drewN ?_ _ | refine RowIn.drewN ?_ _ | refine below_drewN ?_ _ | refine Blk.drew ?_ | refine RowIn.drew ?_ | refine Below.drew ?_) | (with_reducible refine Blk.new' ?_ ?_ <;> first | (with_reducible rfl) | (simp; done)) | (with_reducible first | refine Blk.alloc ?_ _ | refine RowIn.alloc ?_ _ | refine Below.alloc ?_ ?_ _ | apply Blk.set' | apply Blk.far' | refine RowIn.far' ?_ ?_ _ | refine Below.far' ?_ ?_ _ | refine Blk.after ?_ b7 | refine RowIn.belowS ?_ b7 | refine Below.after ?_ b7 ?_) | (exact (Eq.refl _ : (_ : List Value) = _)) | omega | go_size)
      clear zw_6 zr_6 rw_6 rr_6 rl_6 rt_6 bb_6 kw_6 fw_6 lw_6 kr_6 fr_6 lr_6 b7
      have kw_7 := zw_7.cell; have fw_7 := zw_7.frozen; have lw_7 := zw_7.lt
      have kr_7 := zr_7.cell; have fr_7 := zr_7.frozen; have lr_7 := zr_7.lt
      go_wp2_with fail
      refine (sum_c Z Aw mw cw (pack yw) _ (by exact RowIn.row (lo := low) (hi := hiw) (by repeat' (first | (with_reducible first | assumption | exact Below.refl _ _ | refine Blk.drewN ?_ _ | refine RowIn.drewN ?_ _ | refine below_drewN ?_ _ | refine Blk.drew ?_ | refine RowIn.drew ?_ | refine Below.drew ?_) | (with_reducible refine Blk.new' ?_ ?_ <;> first | (with_reducible rfl) | (simp; done)) | (with_reducible first | refine Blk.alloc ?_ _ | refine RowIn.alloc ?_ _ | refine Below.alloc ?_ ?_ _ | apply Blk.set' | apply Blk.far' | refine RowIn.far' ?_ ?_ _ | refine Below.far' ?_ ?_ _) | (exact (Eq.refl _ : (_ : List Value) = _)) | omega | go_size))) (pack_u8 _) (by omega) HZ.out).mono ?_
      rintro e w8 ⟨rfl, b8⟩
      have s8 := b8.size
      try simp only [World.size_alloc, World.size_setCell, World.size_drew, size_drewN] at s8
      obtain ⟨zw_8, zr_8, rw_8, rr_8, rl_8, rt_8, bb_8⟩ : Blk w8 (w1.heap.size) 26 [.slice Aw mw cw, .int .i64 ((yw.length : Nat) : Int)] ∧ Blk w8 (w1.heap.size + 1) 26 [.slice Ar mr cr, .int .i64 ((yr.length : Nat) : Int)] ∧ RowIn .u8 w8 (low) (hiw) Aw mw (pack yw) ∧ RowIn .u8 w8 (lor) (hir) Ar mr (pack yr) ∧ RowIn .i32 w8 (0) (w.heap.size) Al j xsl ∧ RowIn .u8 w8 (0) (w.heap.size) (some ⟨0, 0, none⟩) 64 dbTab ∧ Below w.heap.size w w8 := by
        refine ⟨?_, ?_, ?_, ?_, ?_, ?_, ?_⟩
        all_goals repeat' (first | (with_reducible first | assumption | exact Below.refl _ _ | refine Blk.drewN ?_ _ | refine RowIn.drewN ?_ _ | refine below_drewN ?_ _ | refine Blk.drew ?_ | refine RowIn.drew ?_ | refine Below.drew ?_) | (with_reducible refine Blk.new' ?_ ?_ <;> first | (with_reducible rfl) | (simp; done)) | (with_reducible first | refine Blk.alloc ?_ _ | refine RowIn.alloc ?_ _ | refine Below.alloc ?_ ?_ _ | apply Blk.set' | apply Blk.far' | refine RowIn.far' ?_ ?_ _ | refine Below.far' ?_ ?_ _ | refine Blk.after ?_ b8 | refine RowIn.belowS ?_ b8 | refine Below.after ?_ b8 ?_) | (exact (Eq.refl _ : (_ : List Value) = _)) | omega | go_size)
      clear zw_7 zr_7 rw_7 rr_7 rl_7 rt_7 bb_7 kw_7 fw_7 lw_7 kr_7 fr_7 lr_7 b8
      have kw_8 := zw_8.cell; have fw_8 := zw_8.frozen; have lw_8 := zw_8.lt
      have kr_8 := zr_8.cell; have fr_8 := zr_8.frozen; have lr_8 := zr_8.lt
      go_wp2_with fail
      refine (sumQ_c Q Aw mw cw (pack yw) _ (by exact RowIn.row (lo := low) (hi := hiw) (by repeat' (first | (with_reducible first | assumption | exact Below.refl _ _ | refine Blk.drewN ?_ _ | refine RowIn.drewN ?_ _ | refine below_drewN ?_ _ | refine Blk.drew ?_ | refine RowIn.drew ?_ | refine Below.drew ?_) | (with_reducible refine Blk.new' ?_ ?_ <;> first | (with_reducible rfl) | (simp; done)) | (with_reducible first | refine Blk.alloc ?_ _ | refine RowIn.alloc ?_ _ | refine Below.alloc ?_ ?_ _ | apply Blk.set' | apply Blk.far' | refine RowIn.far' ?_ ?_ _ | refine Below.far' ?_ ?_ _) | (exact (Eq.refl _ : (_ : List Value) = _)) | omega | go_size))) (pack_u8 _) (by omega) HZQ.out).mono ?_
      rintro e w9 ⟨rfl, b9⟩
      have s9 := b9.size
      try simp only [World.size_alloc, World.size_setCell, World.size_drew, size_drewN] at s9
      obtain ⟨zw_9, zr_9, rw_9, rr_9, rl_9, rt_9, bb_9⟩ : Blk w9 (w1.heap.size) 26 [.slice Aw mw cw, .int .i64 ((yw.length : Nat) : Int)] ∧ Blk w9 (w1.heap.size + 1) 26 [.slice Ar mr cr, .int .i64 ((yr.length : Nat) : Int)] ∧ RowIn .u8 w9 (low) (hiw) Aw mw (pack yw) ∧ RowIn .u8 w9 (lor) (hir) Ar mr (pack yr) ∧ RowIn .i32 w9 (0) (w.heap.size) Al j xsl ∧ RowIn .u8 w9 (0) (w.heap.size) (some ⟨0, 0, none⟩) 64 dbTab ∧ Below w.heap.size w w9 := by
        refine ⟨?_, ?_, ?_, ?_, ?_, ?_, ?_⟩
        all_goals repeat' (first | (with_reducible first | assumption | exact Below.refl _ _ | refine Blk.drewN ?_ _ | refine RowIn.drewN ?_ _ | refine below_drewN ?_ _ | refine Blk.drew ?_ | refine RowIn.drew ?_ | refine Below.drew ?_) | (with_reducible refine Blk.new' ?_ ?_ <;> first | (with_reducible rfl) | (simp; done)) | (with_reducible first | refine Blk.alloc ?_ _ | refine RowIn.alloc ?_ _ | refine Below.alloc ?_ ?_ _ | apply Blk.set' | apply Blk.far' | refine RowIn.far' ?_ ?_ _ | refine Below.far' ?_ ?_ _ | refine Blk.after ?_ b9 | refine RowIn.belowS ?_ b9 | refine Below.after ?_ b9 ?_) | (exact (Eq.refl _ : (_ : List Value) = _)) | omega | go_size)
      clear zw_8 zr_8 rw_8 rr_8 rl_8 rt_8 bb_8 kw_8 fw_8 lw_8 kr_8 fr_8 lr_8 b9
      have kw_9 := zw_9.cell; have fw_9 := zw_9.frozen; have lw_9 := zw_9.lt
      have kr_9 := zr_9.cell; have fr_9 := zr_9.frozen; have lr_9 := zr_9.lt
      clear hZi
      go_wp2_with fail
      go_loopg [24, 25] j (fun r u v wr => ∃ i a : Nat, i + r = j ∧ u = .int .i64 (a : Nat) ∧ v = .int .i64 (i : Nat) ∧ Hid (a = (runsB xsl i).length) ∧ a ≤ 48 * i ∧ Blk wr (w1.heap.size) 26 [.slice Aw mw cw, .int .i64 ((yw.length : Nat) : Int)] ∧ Blk wr (w1.heap.size + 1) 26 [.slice Ar mr cr, .int .i64 ((yr.length : Nat) : Int)] ∧ RowIn .u8 wr low hiw Aw mw (pack yw) ∧ RowIn .u8 wr lor hir Ar mr (pack yr) ∧ Below w.heap.size w wr)
      case atStart => exact ⟨0, 0, by omega, rfl, rfl, Lib.hid rfl, by omega, zw_9, zr_9, rw_9, rr_9, bb_9⟩
      case round =>
        clear zw_9 zr_9 rw_9 rr_9 rl_9 rt_9 bb_9 kw_9 fw_9 lw_9 kr_9 fr_9 lr_9
        obtain ⟨i, a, hi, rfl, rfl, HA, ha, zw_30, zr_30, rw_30, rr_30, bb_30⟩ := hrel
        have s30 := bb_30.size
        have rl_30 := hril.below bb_30 (Nat.le_refl _)
        have rt_30 := hti.below bb_30 (Nat.le_refl _)
        have kw_30 := zw_30.cell; have fw_30 := zw_30.frozen; have lw_30 := zw_30.lt
        have kr_30 := zr_30.cell; have fr_30 := zr_30.frozen; have lr_30 := zr_30.lt
        by_cases hlt : i < j
        · obtain ⟨bl, ol, rfl, hbl, hcell⟩ := hal.at (by omega)
          obtain ⟨x, hv⟩ : ∃ v, nth xsl i = v := ⟨_, rfl⟩
          have hxb := hxl.nth (by decide) (by decide) i
          rw [hv] at hxb
          have c0 : w.cell? ⟨bl, ol + i, none⟩ = some (.int .i32 x) := by rw [hcell i hlt, hv]
          have CL := Lib.hid c0
          have HV := Lib.hid hv
          have hbL := hbl
          clear c0 hcell hv
          obtain ⟨n, HN⟩ : ∃ n, Hid (n = foldZ x) := ⟨_, Lib.hid rfl⟩
          have hn32 : n < 4294967296 := by rw [HN.out]; exact foldZ_lt hxb
          have hlt1 : (i : Int) < (j : Int) := by omega
          have cL_30 : wr.cell? ⟨bl, ol + i, none⟩ = some (.int .i32 x) := (bb_30.cell (p := ⟨bl, ol + i, none⟩) hbL).trans CL.out
          have HG : Hid (bval ((yw.drop (32 * i)).take 32) = n) := Lib.hid (by rw [HW.out, HN.out, ← HV.out]; exact wide_get xsl hlt (by rw [HV.out, ← HN.out]; exact hn32))
          have HT : Hid (((pack yw).drop (4 * i)).take 4 = leB n 4) := Lib.hid (by rw [HPW.out, wideB_at xsl hlt, HV.out, HN.out])
          have HU : Hid (readU (yr.drop a) = .ok (cut48 x) (runLen (cut48 x))) := Lib.hid (by rw [HR.out, HA.out, ← HV.out]; exact runsB_read xsl hlt)
          have HA2 : Hid (a + runLen (cut48 x) = (runsB xsl (i + 1)).length) := Lib.hid (by rw [runsB_step, HA.out, HV.out])
          have hxi : (x != x) = false := by simp
          have hni : ((n : Int) != (n : Int)) = false := by simp
          by_cases h48 : 48 < n
          · have h48i : (48 : Int) < (n : Int) := by omega
            have HQ48 : Hid (cut48 x = 48) := Lib.hid (by unfold cut48; rw [← HN.out]; omega)
            rw [HQ48.out] at HU HA2
            obtain ⟨z, hz⟩ : ∃ z, a + runLen 48 = z := ⟨_, rfl⟩
            rw [hz] at HA2
            have HZA := Lib.hid hz
            have hz48 : z ≤ 48 * (i + 1) := by rw [← hz]; have := runLen_le48 48; omega
            clear hz
            go_wp2_with fail
            refine (bget_i (32 * (i : Int)) Aw mw cw yw (32 * i) 32 n _ (by omega) (by exact RowIn.row (lo := low) (hi := hiw) (by repeat' (first | (with_reducible first | assumption | exact Below.refl _ _ | refine Blk.drewN ?_ _ | refine RowIn.drewN ?_ _ | refine below_drewN ?_ _ | refine Blk.drew ?_ | refine RowIn.drew ?_ | refine Below.drew ?_) | (with_reducible refine Blk.new' ?_ ?_ <;> first | (with_reducible rfl) | (simp; done)) | (with_reducible first | refine Blk.alloc ?_ _ | refine RowIn.alloc ?_ _ | refine Below.alloc ?_ ?_ _ | apply Blk.set' | apply Blk.far' | refine RowIn.far' ?_ ?_ _ | refine Below.far' ?_ ?_ _) | (exact (Eq.refl _ : (_ : List Value) = _)) | omega | go_size))) hcw (by omega) (by omega) (by omega) HG.out).mono ?_
            rintro e w31 ⟨rfl, b31⟩
            have s31 := b31.size
            try simp only [World.size_alloc, World.size_setCell, World.size_drew, size_drewN] at s31
            obtain ⟨zw_31, zr_31, rw_31, rr_31, rl_31, rt_31, bb_31⟩ : Blk w31 (w1.heap.size) 26 [.slice Aw mw cw, .int .i64 ((yw.length : Nat) : Int)] ∧ Blk w31 (w1.heap.size + 1) 26 [.slice Ar mr cr, .int .i64 ((yr.length : Nat) : Int)] ∧ RowIn .u8 w31 (low) (hiw) Aw mw (pack yw) ∧ RowIn .u8 w31 (lor) (hir) Ar mr (pack yr) ∧ RowIn .i32 w31 (0) (w.heap.size) (some ⟨bl, ol, none⟩) j xsl ∧ RowIn .u8 w31 (0) (w.heap.size) (some ⟨0, 0, none⟩) 64 dbTab ∧ Below w.heap.size w w31 := by
              refine ⟨?_, ?_, ?_, ?_, ?_, ?_, ?_⟩
              all_goals repeat' (first | (with_reducible first | assumption | exact Below.refl _ _ | refine Blk.drewN ?_ _ | refine RowIn.drewN ?_ _ | refine below_drewN ?_ _ | refine Blk.drew ?_ | refine RowIn.drew ?_ | refine Below.drew ?_) | (with_reducible refine Blk.new' ?_ ?_ <;> first | (with_reducible rfl) | (simp; done)) | (with_reducible first | refine Blk.alloc ?_ _ | refine RowIn.alloc ?_ _ | refine Below.alloc ?_ ?_ _ | apply Blk.set' | apply Blk.far' | refine RowIn.far' ?_ ?_ _ | refine Below.far' ?_ ?_ _ | refine Blk.after ?_ b31 | refine RowIn.belowS ?_ b31 | refine Below.after ?_ b31 ?_) | (exact (Eq.refl _ : (_ : List Value) = _)) | omega | go_size)
            clear zw_30 zr_30 rw_30 rr_30 rl_30 rt_30 bb_30 kw_30 kr_30 fw_30 fr_30 lw_30 lr_30 cL_30 b31
            have kw_31 := zw_31.cell; have fw_31 := zw_31.frozen; have lw_31 := zw_31.lt
            have kr_31 := zr_31.cell; have fr_31 := zr_31.frozen; have lr_31 := zr_31.lt
            have cL_31 : w31.cell? ⟨bl, ol + i, none⟩ = some (.int .i32 x) := (bb_31.cell (p := ⟨bl, ol + i, none⟩) hbL).trans CL.out
            go_wp2_with fail
            refine (leat_i (4 * (i : Int)) n Aw mw cw (4 * i) 4 (pack yw) _ (by omega) (by exact RowIn.row (lo := low) (hi := hiw) (by repeat' (first | (with_reducible first | assumption | exact Below.refl _ _ | refine Blk.drewN ?_ _ | refine RowIn.drewN ?_ _ | refine below_drewN ?_ _ | refine Blk.drew ?_ | refine RowIn.drew ?_ | refine Below.drew ?_) | (with_reducible refine Blk.new' ?_ ?_ <;> first | (with_reducible rfl) | (simp; done)) | (with_reducible first | refine Blk.alloc ?_ _ | refine RowIn.alloc ?_ _ | refine Below.alloc ?_ ?_ _ | apply Blk.set' | apply Blk.far' | refine RowIn.far' ?_ ?_ _ | refine Below.far' ?_ ?_ _) | (exact (Eq.refl _ : (_ : List Value) = _)) | omega | go_size))) hcw (by omega) (by omega) (by have h := rw_5len.out; omega) (by omega) HT.out).mono ?_
            rintro e _ ⟨rfl, rfl⟩
            go_wp2_with fail
            refine (uread_c Ar mr cr yr a 48 (runLen 48) _ (by exact RowIn.row (lo := lor) (hi := hir) (by repeat' (first | (with_reducible first | assumption | exact Below.refl _ _ | refine Blk.drewN ?_ _ | refine RowIn.drewN ?_ _ | refine below_drewN ?_ _ | refine Blk.drew ?_ | refine RowIn.drew ?_ | refine Below.drew ?_) | (with_reducible refine Blk.new' ?_ ?_ <;> first | (with_reducible rfl) | (simp; done)) | (with_reducible first | refine Blk.alloc ?_ _ | refine RowIn.alloc ?_ _ | refine Below.alloc ?_ ?_ _ | apply Blk.set' | apply Blk.far' | refine RowIn.far' ?_ ?_ _ | refine Below.far' ?_ ?_ _) | (exact (Eq.refl _ : (_ : List Value) = _)) | omega | go_size))) hcr (by omega) (by omega) HU.out (by exact RowIn.row (lo := 0) (hi := w.heap.size) (by repeat' (first | (with_reducible first | assumption | exact Below.refl _ _ | refine Blk.drewN ?_ _ | refine RowIn.drewN ?_ _ | refine below_drewN ?_ _ | refine Blk.drew ?_ | refine RowIn.drew ?_ | refine Below.drew ?_) | (with_reducible refine Blk.new' ?_ ?_ <;> first | (with_reducible rfl) | (simp; done)) | (with_reducible first | refine Blk.alloc ?_ _ | refine RowIn.alloc ?_ _ | refine Below.alloc ?_ ?_ _ | apply Blk.set' | apply Blk.far' | refine RowIn.far' ?_ ?_ _ | refine Below.far' ?_ ?_ _) | (exact (Eq.refl _ : (_ : List Value) = _)) | omega | go_size))) z HZA.out).mono ?_
            rintro e w32 ⟨rfl, b32⟩
            have s32 := b32.size
            try simp only [World.size_alloc, World.size_setCell, World.size_drew, size_drewN] at s32
            obtain ⟨zw_32, zr_32, rw_32, rr_32, rl_32, rt_32, bb_32⟩ : Blk w32 (w1.heap.size) 26 [.slice Aw mw cw, .int .i64 ((yw.length : Nat) : Int)] ∧ Blk w32 (w1.heap.size + 1) 26 [.slice Ar mr cr, .int .i64 ((yr.length : Nat) : Int)] ∧ RowIn .u8 w32 (low) (hiw) Aw mw (pack yw) ∧ RowIn .u8 w32 (lor) (hir) Ar mr (pack yr) ∧ RowIn .i32 w32 (0) (w.heap.size) (some ⟨bl, ol, none⟩) j xsl ∧ RowIn .u8 w32 (0) (w.heap.size) (some ⟨0, 0, none⟩) 64 dbTab ∧ Below w.heap.size w w32 := by
              refine ⟨?_, ?_, ?_, ?_, ?_, ?_, ?_⟩
              all_goals repeat' (first | (with_reducible first | assumption | exact Below.refl _ _ | refine Blk.drewN ?_ _ | refine RowIn.drewN ?_ _ | refine below_drewN ?_ _ | refine Blk.drew ?_ | refine RowIn.drew ?_ | refine Below.drew ?_) | (with_reducible refine Blk.new' ?_ ?_ <;> first | (with_reducible rfl) | (simp; done)) | (with_reducible first | refine Blk.alloc ?_ _ | refine RowIn.alloc ?_ _ | refine Below.alloc ?_ ?_ _ | apply Blk.set' | apply Blk.far' | refine RowIn.far' ?_ ?_ _ | refine Below.far' ?_ ?_ _ | refine Blk.after ?_ b32 | refine RowIn.belowS ?_ b32 | refine Below.after ?_ b32 ?_) | (exact (Eq.refl _ : (_ : List Value) = _)) | omega | go_size)
            clear zw_31 zr_31 rw_31 rr_31 rl_31 rt_31 bb_31 kw_31 fw_31 lw_31 kr_31 fr_31 lr_31 cL_31 b32
            have kw_32 := zw_32.cell; have fw_32 := zw_32.frozen; have lw_32 := zw_32.lt
            have kr_32 := zr_32.cell; have fr_32 := zr_32.frozen; have lr_32 := zr_32.lt
            have cL_32 : w32.cell? ⟨bl, ol + i, none⟩ = some (.int .i32 x) := (bb_32.cell (p := ⟨bl, ol + i, none⟩) hbL).trans CL.out
            go_wp2_with fail
            have cL_32d : w32.drew.cell? ⟨bl, ol + i, none⟩ = some (.int .i32 x) := cL_32
            have hw1 : IntKind.u32.wrap (n : Int) = (n : Int) := IntWalk.u32_in _ (by omega)
            have hw2 : IntKind.u64.wrap (n : Int) = (n : Int) := IntWalk.u64_in _ (by omega)
            have hw3 : (n : Int) % 4294967296 = (n : Int) := by omega
            go_region_held3 (fun w' => w'.cell? ⟨bl, ol + i, none⟩ = some (.int .i32 x)) (first | with_reducible exact cL_32 | with_reducible exact cL_32d) (
              (go_simp; go_at_call 18; refine (back_ok x n _ hxb HN.out).mono ?_; rintro e _ ⟨rfl, rfl⟩))
            all_goals try go_wp2
            all_goals
              go_roundg (j - (i + 1))
              case measure => omega
              case rel => exact ⟨i + 1, z, by omega, by first | rfl | go_num, by go_num, Lib.hid HA2.out.symm.symm, hz48, by repeat' (first | (with_reducible first | assumption | exact Below.refl _ _ | refine Blk.drewN ?_ _ | refine RowIn.drewN ?_ _ | refine below_drewN ?_ _ | refine Blk.drew ?_ | refine RowIn.drew ?_ | refine Below.drew ?_) | (with_reducible refine Blk.new' ?_ ?_ <;> first | (with_reducible rfl) | (simp; done)) | (with_reducible first | refine Blk.alloc ?_ _ | refine RowIn.alloc ?_ _ | refine Below.alloc ?_ ?_ _ | apply Blk.set' | apply Blk.far' | refine RowIn.far' ?_ ?_ _ | refine Below.far' ?_ ?_ _) | (exact (Eq.refl _ : (_ : List Value) = _)) | omega | go_size), by repeat' (first | (with_reducible first | assumption | exact Below.refl _ _ | refine Blk.drewN ?_ _ | refine RowIn.drewN ?_ _ | refine below_drewN ?_ _ | refine Blk.drew ?_ | refine RowIn.drew ?_ | refine Below.drew ?_) | (with_reducible refine Blk.new' ?_ ?_ <;> first | (with_reducible rfl) | (simp; done)) | (with_reducible first | refine Blk.alloc ?_ _ | refine RowIn.alloc ?_ _ | refine Below.alloc ?_ ?_ _ | apply Blk.set' | apply Blk.far' | refine RowIn.far' ?_ ?_ _ | refine Below.far' ?_ ?_ _) | (exact (Eq.refl _ : (_ : List Value) = _)) | omega | go_size), by repeat' (first | (with_reducible first | assumption | exact Below.refl _ _ | refine Blk.drewN ?_ _ | refine RowIn.drewN ?_ _ | refine below_drewN ?_ _ | refine Blk.drew ?_ | refine RowIn.drew ?_ | refine Below.drew ?_) | (with_reducible refine Blk.new' ?_ ?_ <;> first | (with_reducible rfl) | (simp; done)) | (with_reducible first | refine Blk.alloc ?_ _ | refine RowIn.alloc ?_ _ | refine Below.alloc ?_ ?_ _ | apply Blk.set' | apply Blk.far' | refine RowIn.far' ?_ ?_ _ | refine Below.far' ?_ ?_ _) | (exact (Eq.refl _ : (_ : List Value) = _)) | omega | go_size), by repeat' (first | (with_reducible first | assumption | exact Below.refl _ _ | refine Blk.drewN ?_ _ | refine RowIn.drewN ?_ _ | refine below_drewN ?_ _ | refine Blk.drew ?_ | refine RowIn.drew ?_ | refine Below.drew ?_) | (with_reducible refine Blk.new' ?_ ?_ <;> first | (with_reducible rfl) | (simp; done)) | (with_reducible first | refine Blk.alloc ?_ _ | refine RowIn.alloc ?_ _ | refine Below.alloc ?_ ?_ _ | apply Blk.set' | apply Blk.far' | refine RowIn.far' ?_ ?_ _ | refine Below.far' ?_ ?_ _) | (exact (Eq.refl _ : (_ : List Value) = _)) | omega | go_size), by repeat' (first | (with_reducible first | assumption | exact Below.refl _ _ | refine Blk.drewN ?_ _ | refine RowIn.drewN ?_ _ | refine below_drewN ?_ _ | refine Blk.drew ?_ | refine RowIn.drew ?_ | refine Below.drew ?_) | (with_reducible refine Blk.new' ?_ ?_ <;> first | (with_reducible rfl) | (simp; done)) | (with_reducible first | refine Blk.alloc ?_ _ | refine RowIn.alloc ?_ _ | refine Below.alloc ?_ ?_ _ | apply Blk.set' | apply Blk.far' | refine RowIn.far' ?_ ?_ _ | refine Below.far' ?_ ?_ _) | (exact (Eq.refl _ : (_ : List Value) = _)) | omega | go_size)⟩
          · have h48i : ¬ (48 : Int) < (n : Int) := by omega
            have HQ48 : Hid (cut48 x = n) := Lib.hid (by unfold cut48; rw [← HN.out]; omega)
            rw [HQ48.out] at HU HA2
            obtain ⟨z, hz⟩ : ∃ z, a + runLen n = z := ⟨_, rfl⟩
            rw [hz] at HA2
            have HZA := Lib.hid hz
            have hz48 : z ≤ 48 * (i + 1) := by rw [← hz]; have := runLen_le48 n; omega
            clear hz
            go_wp2_with fail
            refine (bget_i (32 * (i : Int)) Aw mw cw yw (32 * i) 32 n _ (by omega) (by exact RowIn.row (lo := low) (hi := hiw) (by repeat' (first | (with_reducible first | assumption | exact Below.refl _ _ | refine Blk.drewN ?_ _ | refine RowIn.drewN ?_ _ | refine below_drewN ?_ _ | refine Blk.drew ?_ | refine RowIn.drew ?_ | refine Below.drew ?_) | (with_reducible refine Blk.new' ?_ ?_ <;> first | (with_reducible rfl) | (simp; done)) | (with_reducible first | refine Blk.alloc ?_ _ | refine RowIn.alloc ?_ _ | refine Below.alloc ?_ ?_ _ | apply Blk.set' | apply Blk.far' | refine RowIn.far' ?_ ?_ _ | refine Below.far' ?_ ?_ _) | (exact (Eq.refl _ : (_ : List Value) = _)) | omega | go_size))) hcw (by omega) (by omega) (by omega) HG.out).mono ?_
            rintro e w31 ⟨rfl, b31⟩
            have s31 := b31.size
            try simp only [World.size_alloc, World.size_setCell, World.size_drew, size_drewN] at s31
            obtain ⟨zw_31, zr_31, rw_31, rr_31, rl_31, rt_31, bb_31⟩ : Blk w31 (w1.heap.size) 26 [.slice Aw mw cw, .int .i64 ((yw.length : Nat) : Int)] ∧ Blk w31 (w1.heap.size + 1) 26 [.slice Ar mr cr, .int .i64 ((yr.length : Nat) : Int)] ∧ RowIn .u8 w31 (low) (hiw) Aw mw (pack yw) ∧ RowIn .u8 w31 (lor) (hir) Ar mr (pack yr) ∧ RowIn .i32 w31 (0) (w.heap.size) (some ⟨bl, ol, none⟩) j xsl ∧ RowIn .u8 w31 (0) (w.heap.size) (some ⟨0, 0, none⟩) 64 dbTab ∧ Below w.heap.size w w31 := by
              refine ⟨?_, ?_, ?_, ?_, ?_, ?_, ?_⟩
              all_goals repeat' (first | (with_reducible first | assumption | exact Below.refl _ _ | refine Blk.drewN ?_ _ | refine RowIn.drewN ?_ _ | refine below_drewN ?_ _ | refine Blk.drew ?_ | refine RowIn.drew ?_ | refine Below.drew ?_) | (with_reducible refine Blk.new' ?_ ?_ <;> first | (with_reducible rfl) | (simp; done)) | (with_reducible first | refine Blk.alloc ?_ _ | refine RowIn.alloc ?_ _ | refine Below.alloc ?_ ?_ _ | apply Blk.set' | apply Blk.far' | refine RowIn.far' ?_ ?_ _ | refine Below.far' ?_ ?_ _ | refine Blk.after ?_ b31 | refine RowIn.belowS ?_ b31 | refine Below.after ?_ b31 ?_) | (exact (Eq.refl _ : (_ : List Value) = _)) | omega | go_size)
            clear zw_30 zr_30 rw_30 rr_30 rl_30 rt_30 bb_30 kw_30 kr_30 fw_30 fr_30 lw_30 lr_30 cL_30 b31
            have kw_31 := zw_31.cell; have fw_31 := zw_31.frozen; have lw_31 := zw_31.lt
            have kr_31 := zr_31.cell; have fr_31 := zr_31.frozen; have lr_31 := zr_31.lt
            have cL_31 : w31.cell? ⟨bl, ol + i, none⟩ = some (.int .i32 x) := (bb_31.cell (p := ⟨bl, ol + i, none⟩) hbL).trans CL.out
            go_wp2_with fail
            refine (leat_i (4 * (i : Int)) n Aw mw cw (4 * i) 4 (pack yw) _ (by omega) (by exact RowIn.row (lo := low) (hi := hiw) (by repeat' (first | (with_reducible first | assumption | exact Below.refl _ _ | refine Blk.drewN ?_ _ | refine RowIn.drewN ?_ _ | refine below_drewN ?_ _ | refine Blk.drew ?_ | refine RowIn.drew ?_ | refine Below.drew ?_) | (with_reducible refine Blk.new' ?_ ?_ <;> first | (with_reducible rfl) | (simp; done)) | (with_reducible first | refine Blk.alloc ?_ _ | refine RowIn.alloc ?_ _ | refine Below.alloc ?_ ?_ _ | apply Blk.set' | apply Blk.far' | refine RowIn.far' ?_ ?_ _ | refine Below.far' ?_ ?_ _) | (exact (Eq.refl _ : (_ : List Value) = _)) | omega | go_size))) hcw (by omega) (by omega) (by have h := rw_5len.out; omega) (by omega) HT.out).mono ?_
            rintro e _ ⟨rfl, rfl⟩
            go_wp2_with fail
            refine (uread_c Ar mr cr yr a n (runLen n) _ (by exact RowIn.row (lo := lor) (hi := hir) (by repeat' (first | (with_reducible first | assumption | exact Below.refl _ _ | refine Blk.drewN ?_ _ | refine RowIn.drewN ?_ _ | refine below_drewN ?_ _ | refine Blk.drew ?_ | refine RowIn.drew ?_ | refine Below.drew ?_) | (with_reducible refine Blk.new' ?_ ?_ <;> first | (with_reducible rfl) | (simp; done)) | (with_reducible first | refine Blk.alloc ?_ _ | refine RowIn.alloc ?_ _ | refine Below.alloc ?_ ?_ _ | apply Blk.set' | apply Blk.far' | refine RowIn.far' ?_ ?_ _ | refine Below.far' ?_ ?_ _) | (exact (Eq.refl _ : (_ : List Value) = _)) | omega | go_size))) hcr (by omega) (by omega) HU.out (by exact RowIn.row (lo := 0) (hi := w.heap.size) (by repeat' (first | (with_reducible first | assumption | exact Below.refl _ _ | refine Blk.drewN ?_ _ | refine RowIn.drewN ?_ _ | refine below_drewN ?_ _ | refine Blk.drew ?_ | refine RowIn.drew ?_ | refine Below.drew ?_) | (with_reducible refine Blk.new' ?_ ?_ <;> first | (with_reducible rfl) | (simp; done)) | (with_reducible first | refine Blk.alloc ?_ _ | refine RowIn.alloc ?_ _ | refine Below.alloc ?_ ?_ _ | apply Blk.set' | apply Blk.far' | refine RowIn.far' ?_ ?_ _ | refine Below.far' ?_ ?_ _) | (exact (Eq.refl _ : (_ : List Value) = _)) | omega | go_size))) z HZA.out).mono ?_
            rintro e w32 ⟨rfl, b32⟩
            have s32 := b32.size
            try simp only [World.size_alloc, World.size_setCell, World.size_drew, size_drewN] at s32
            obtain ⟨zw_32, zr_32, rw_32, rr_32, rl_32, rt_32, bb_32⟩ : Blk w32 (w1.heap.size) 26 [.slice Aw mw cw, .int .i64 ((yw.length : Nat) : Int)] ∧ Blk w32 (w1.heap.size + 1) 26 [.slice Ar mr cr, .int .i64 ((yr.length : Nat) : Int)] ∧ RowIn .u8 w32 (low) (hiw) Aw mw (pack yw) ∧ RowIn .u8 w32 (lor) (hir) Ar mr (pack yr) ∧ RowIn .i32 w32 (0) (w.heap.size) (some ⟨bl, ol, none⟩) j xsl ∧ RowIn .u8 w32 (0) (w.heap.size) (some ⟨0, 0, none⟩) 64 dbTab ∧ Below w.heap.size w w32 := by
              refine ⟨?_, ?_, ?_, ?_, ?_, ?_, ?_⟩
              all_goals repeat' (first | (with_reducible first | assumption | exact Below.refl _ _ | refine Blk.drewN ?_ _ | refine RowIn.drewN ?_ _ | refine below_drewN ?_ _ | refine Blk.drew ?_ | refine RowIn.drew ?_ | refine Below.drew ?_) | (with_reducible refine Blk.new' ?_ ?_ <;> first | (with_reducible rfl) | (simp; done)) | (with_reducible first | refine Blk.alloc ?_ _ | refine RowIn.alloc ?_ _ | refine Below.alloc ?_ ?_ _ | apply Blk.set' | apply Blk.far' | refine RowIn.far' ?_ ?_ _ | refine Below.far' ?_ ?_ _ | refine Blk.after ?_ b32 | refine RowIn.belowS ?_ b32 | refine Below.after ?_ b32 ?_) | (exact (Eq.refl _ : (_ : List Value) = _)) | omega | go_size)
            clear zw_31 zr_31 rw_31 rr_31 rl_31 rt_31 bb_31 kw_31 fw_31 lw_31 kr_31 fr_31 lr_31 cL_31 b32
            have kw_32 := zw_32.cell; have fw_32 := zw_32.frozen; have lw_32 := zw_32.lt
            have kr_32 := zr_32.cell; have fr_32 := zr_32.frozen; have lr_32 := zr_32.lt
            have cL_32 : w32.cell? ⟨bl, ol + i, none⟩ = some (.int .i32 x) := (bb_32.cell (p := ⟨bl, ol + i, none⟩) hbL).trans CL.out
            go_wp2_with fail
            have cL_32d : w32.drew.cell? ⟨bl, ol + i, none⟩ = some (.int .i32 x) := cL_32
            have hw1 : IntKind.u32.wrap (n : Int) = (n : Int) := IntWalk.u32_in _ (by omega)
            have hw2 : IntKind.u64.wrap (n : Int) = (n : Int) := IntWalk.u64_in _ (by omega)
            have hw3 : (n : Int) % 4294967296 = (n : Int) := by omega
            go_region_held3 (fun w' => w'.cell? ⟨bl, ol + i, none⟩ = some (.int .i32 x)) (first | with_reducible exact cL_32 | with_reducible exact cL_32d) (
              (go_simp; go_at_call 18; refine (back_ok x n _ hxb HN.out).mono ?_; rintro e _ ⟨rfl, rfl⟩))
            all_goals try go_wp2
            all_goals
              go_roundg (j - (i + 1))
              case measure => omega
              case rel => exact ⟨i + 1, z, by omega, by first | rfl | go_num, by go_num, Lib.hid HA2.out.symm.symm, hz48, by repeat' (first | (with_reducible first | assumption | exact Below.refl _ _ | refine Blk.drewN ?_ _ | refine RowIn.drewN ?_ _ | refine below_drewN ?_ _ | refine Blk.drew ?_ | refine RowIn.drew ?_ | refine Below.drew ?_) | (with_reducible refine Blk.new' ?_ ?_ <;> first | (with_reducible rfl) | (simp; done)) | (with_reducible first | refine Blk.alloc ?_ _ | refine RowIn.alloc ?_ _ | refine Below.alloc ?_ ?_ _ | apply Blk.set' | apply Blk.far' | refine RowIn.far' ?_ ?_ _ | refine Below.far' ?_ ?_ _) | (exact (Eq.refl _ : (_ : List Value) = _)) | omega | go_size), by repeat' (first | (with_reducible first | assumption | exact Below.refl _ _ | refine Blk.drewN ?_ _ | refine RowIn.drewN ?_ _ | refine below_drewN ?_ _ | refine Blk.drew ?_ | refine RowIn.drew ?_ | refine Below.drew ?_) | (with_reducible refine Blk.new' ?_ ?_ <;> first | (with_reducible rfl) | (simp; done)) | (with_reducible first | refine Blk.alloc ?_ _ | refine RowIn.alloc ?_ _ | refine Below.alloc ?_ ?_ _ | apply Blk.set' | apply Blk.far' | refine RowIn.far' ?_ ?_ _ | refine Below.far' ?_ ?_ _) | (exact (Eq.refl _ : (_ : List Value) = _)) | omega | go_size), by repeat' (first | (with_reducible first | assumption | exact Below.refl _ _ | refine Blk.drewN ?_ _ | refine RowIn.drewN ?_ _ | refine below_drewN ?_ _ | refine Blk.drew ?_ | refine RowIn.drew ?_ | refine Below.drew ?_) | (with_reducible refine Blk.new' ?_ ?_ <;> first | (with_reducible rfl) | (simp; done)) | (with_reducible first | refine Blk.alloc ?_ _ | refine RowIn.alloc ?_ _ | refine Below.alloc ?_ ?_ _ | apply Blk.set' | apply Blk.far' | refine RowIn.far' ?_ ?_ _ | refine Below.far' ?_ ?_ _) | (exact (Eq.refl _ : (_ : List Value) = _)) | omega | go_size), by repeat' (first | (with_reducible first | assumption | exact Below.refl _ _ | refine Blk.drewN ?_ _ | refine RowIn.drewN ?_ _ | refine below_drewN ?_ _ | refine Blk.drew ?_ | refine RowIn.drew ?_ | refine Below.drew ?_) | (with_reducible refine Blk.new' ?_ ?_ <;> first | (with_reducible rfl) | (simp; done)) | (with_reducible first | refine Blk.alloc ?_ _ | refine RowIn.alloc ?_ _ | refine Below.alloc ?_ ?_ _ | apply Blk.set' | apply Blk.far' | refine RowIn.far' ?_ ?_ _ | refine Below.far' ?_ ?_ _) | (exact (Eq.refl _ : (_ : List Value) = _)) | omega | go_size), by repeat' (first | (with_reducible first | assumption | exact Below.refl _ _ | refine Blk.drewN ?_ _ | refine RowIn.drewN ?_ _ | refine below_drewN ?_ _ | refine Blk.drew ?_ | refine RowIn.drew ?_ | refine Below.drew ?_) | (with_reducible refine Blk.new' ?_ ?_ <;> first | (with_reducible rfl) | (simp; done)) | (with_reducible first | refine Blk.alloc ?_ _ | refine RowIn.alloc ?_ _ | refine Below.alloc ?_ ?_ _ | apply Blk.set' | apply Blk.far' | refine RowIn.far' ?_ ?_ _ | refine Below.far' ?_ ?_ _) | (exact (Eq.refl _ : (_ : List Value) = _)) | omega | go_size)⟩
        · obtain rfl : i = j := by omega
          have e5 : ((a : Int) == ((yr.length : Nat) : Int)) = true := beq_iff_eq.2 (by rw [HR.out, HA.out])
          go_wp2_with fail
          go_ret
          refine ⟨rfl, ?_⟩
          repeat' (first | (with_reducible first | assumption | exact Below.refl _ _ | refine Blk.drewN ?_ _ | refine RowIn.drewN ?_ _ | refine below_drewN ?_ _ | refine Blk.drew ?_ | refine RowIn.drew ?_ | refine Below.drew ?_) | (with_reducible refine Blk.new' ?_ ?_ <;> first | (with_reducible rfl) | (simp; done)) | (with_reducible first | refine Blk.alloc ?_ _ | refine RowIn.alloc ?_ _ | refine Below.alloc ?_ ?_ _ | apply Blk.set' | apply Blk.far' | refine RowIn.far' ?_ ?_ _ | refine Below.far' ?_ ?_ _) | (exact (Eq.refl _ : (_ : List Value) = _)) | omega | go_size)


end Go.Proofs.YtpohaikbbfochaaDoor
