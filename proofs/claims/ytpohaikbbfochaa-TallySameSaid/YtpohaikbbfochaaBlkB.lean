/-
  Contracts of blocks.
-/
import Derived.Test.YtpohaikbbfochaaBlkA
import Derived.Test.YtpohaikbbfochaaBitF
namespace Go.Proofs.Ytpohaikbbfochaa
open Go.RowKit Cad Cad.Bit Cad.Crc Cad.Le
set_option linter.unusedVariables false
set_option linter.unusedSimpArgs false


/-- Bytes with their sum behind them. -/
def sealed (l : List Int) : List Int := l ++ leB (Crc.sum l) 4
theorem sealed_len (l : List Int) : (sealed l).length = l.length + 4 := by unfold sealed; rw [List.length_append, leB_len]
theorem sealed_within {l : List Int} (h : Within 0 255 l) : Within 0 255 (sealed l) := h.append (leB_within _ _)
/-- Bytes and an error are returned. -/
def RetY (w : World) (l : List Int) (er : Int) (e : Ending) (w' : World) : Prop :=
  ∃ A n c xs', e = .returned (.tuple #[.slice A n c, .int .i64 er]) ∧ (n ≤ c ∧ c ≤ 9223372036854775807) ∧ RowIn .u8 w' w.heap.size w'.heap.size A n xs' ∧ Hid (xs' = l) ∧ Below w.heap.size w w'
theorem RetY.of {w w' : World} {l : List Int} {er : Int} {e : Ending} {A : Option Addr} {n c : Nat} (he : e = .returned (.tuple #[.slice A n c, .int .i64 er])) (hc : n ≤ c ∧ c ≤ 9223372036854775807) (hr : RowIn .u8 w' w.heap.size w'.heap.size A n l) (hb : Below w.heap.size w w') : RetY w l er e w' :=
  ⟨A, n, c, l, he, hc, hr, Lib.hid rfl, hb⟩

set_option maxHeartbeats 400000 in
theorem tail_ok (A : Option Addr) (n c : Nat) (l : List Int) (w : World) (ha : Row .u8 w A n l) (hl : Within 0 255 l) (hn : n ≤ 100000) :
    Calls Try.prog 46 #[.slice A n c] w fun e w' => ∃ B, e = .returned (.tuple #[.slice B 4 4, .int .i64 0]) ∧ Own w' w.heap.size 5 .u8 B 4 4 (leB (Crc.sum l) 4) ∧ Below w.heap.size w w' := by
  obtain ⟨x, HX⟩ : ∃ x, Hid (x = Crc.sum l) := ⟨_, Lib.hid rfl⟩
  have hx : x < 4294967296 := by rw [HX.out]; exact sum_lt hl
  have hc := sum_ok A n c l w ha hl hn
  rw [← HX.out] at hc ⊢
  have HC := Lib.hid hc
  clear hc
  go_enter Try.func46, Try.ntmps46
  go_wp2_with fail
  refine HC.out.mono ?_
  rintro e w1 ⟨rfl, hw⟩
  go_wp2_with fail
  refine (lebytes_ok x 4 w1 (by omega) (by omega) (by omega) (by omega)).mono ?_
  rintro e w2 ⟨rfl, hown, hw2⟩
  go_wp2
  go_ret2
  exact ⟨_, rfl, hown.mono hw.size, hw.trans (hw2.mono hw.size)⟩

theorem bsize_ok (n : Nat) (w : World) (h : n ≤ 330000) :
    Calls Try.prog 34 #[.int .i64 (n : Int)] w fun e w' => e = .returned (.tuple #[.int .i64 (((n + 7) / 8 + 4 : Nat) : Int), .int .i64 0]) ∧ w = w' := by
  have a1 : ¬ (n : Int) < 0 := by omega
  have a2 : ¬ (330000 : Int) < (n : Int) := by omega
  go_enter Try.func34, Try.ntmps34
  go_wp2
  go_ret2
  exact ⟨by go_num, rfl⟩
theorem bsize_bad (n : Int) (w : World) (h : n < 0 ∨ 330000 < n) :
    Calls Try.prog 34 #[.int .i64 n] w fun e w' => e = .returned (.tuple #[.int .i64 0, .int .i64 2]) ∧ w = w' := by
  by_cases h1 : n < 0
  · go_enter Try.func34, Try.ntmps34
    go_wp2
    go_ret2
    exact ⟨rfl, rfl⟩
  · have h2 : 330000 < n := by omega
    go_enter Try.func34, Try.ntmps34
    go_wp2
    go_ret2
    exact ⟨rfl, rfl⟩


set_option maxHeartbeats 400000 in
theorem bpack_bad (A : Option Addr) (n c : Nat) (N : Int) (bytes : List Int) (w : World) (ha : Row .u8 w A n bytes) (hb : Within 0 255 bytes) (hn : n ≤ 9223372036854775807) (hv : ¬ Valid bytes N) :
    Calls Try.prog 28 #[.agg #[.slice A n c, .int .i64 N]] w (RetY w [] 8) := by
  have hri := ha.rowIn
  go_enter Try.func28, Try.ntmps28
  go_wp2_with fail
  refine (bcheck_bad A n c N bytes _ (by exact RowIn.row (lo := 0) (hi := w.heap.size) (by repeat' (first | (with_reducible assumption) | (with_reducible exact Below.refl _ _) | (with_reducible refine Blk.drewN ?_ _) | (with_reducible refine RowIn.drewN ?_ _) | (with_reducible refine below_drewN ?_ _) | (with_reducible refine Blk.drew ?_) | (with_reducible refine RowIn.drew ?_) | (with_reducible refine Below.drew ?_) | (with_reducible refine Blk.new' ?_ ?_ <;> first | (with_reducible rfl) | (simp; done)) | (with_reducible refine Blk.alloc ?_ _) | (with_reducible refine RowIn.alloc ?_ _) | (with_reducible refine Below.alloc ?_ ?_ _) | (with_reducible apply Blk.set') | (with_reducible apply Blk.far') | (with_reducible refine RowIn.far' ?_ ?_ _) | (with_reducible refine Below.far' ?_ ?_ _) | rfl | omega | go_size))) hb hn hv).mono ?_
  rintro e w1 ⟨rfl, b1⟩
  have s1 := b1.size
  try simp only [World.size_alloc, World.size_setCell, World.size_drew, size_drewN] at s1
  obtain ⟨zd_1, ra_1, bb_1⟩ : Blk w1 (w.heap.size) 54 [.slice A n c, .int .i64 N] ∧ RowIn .u8 w1 (0) (w.heap.size) A n bytes ∧ Below w.heap.size w w1 := by
    refine ⟨?_, ?_, ?_⟩
    all_goals repeat' (first | (with_reducible assumption) | (with_reducible exact Below.refl _ _) | (with_reducible refine Blk.after ?_ b1) | (with_reducible refine RowIn.belowS ?_ b1) | (with_reducible refine Below.after ?_ b1 ?_) | (with_reducible refine Blk.drewN ?_ _) | (with_reducible refine RowIn.drewN ?_ _) | (with_reducible refine below_drewN ?_ _) | (with_reducible refine Blk.drew ?_) | (with_reducible refine RowIn.drew ?_) | (with_reducible refine Below.drew ?_) | (with_reducible refine Blk.new' ?_ ?_ <;> first | (with_reducible rfl) | (simp; done)) | (with_reducible refine Blk.alloc ?_ _) | (with_reducible refine RowIn.alloc ?_ _) | (with_reducible refine Below.alloc ?_ ?_ _) | (with_reducible apply Blk.set') | (with_reducible apply Blk.far') | (with_reducible refine RowIn.far' ?_ ?_ _) | (with_reducible refine Below.far' ?_ ?_ _) | rfl | omega | go_size)
  clear b1
  have kd_1 := zd_1.cell; have fd_1 := zd_1.frozen; have ld_1 := zd_1.lt
  go_wp2
  go_ret2
  refine RetY.of rfl ⟨Nat.le_refl _, Nat.zero_le _⟩ RowIn.nil ?_
  repeat' (first | (with_reducible assumption) | (with_reducible exact Below.refl _ _) | (with_reducible refine Blk.drewN ?_ _) | (with_reducible refine RowIn.drewN ?_ _) | (with_reducible refine below_drewN ?_ _) | (with_reducible refine Blk.drew ?_) | (with_reducible refine RowIn.drew ?_) | (with_reducible refine Below.drew ?_) | (with_reducible refine Blk.new' ?_ ?_ <;> first | (with_reducible rfl) | (simp; done)) | (with_reducible refine Blk.alloc ?_ _) | (with_reducible refine RowIn.alloc ?_ _) | (with_reducible refine Below.alloc ?_ ?_ _) | (with_reducible apply Blk.set') | (with_reducible apply Blk.far') | (with_reducible refine RowIn.far' ?_ ?_ _) | (with_reducible refine Below.far' ?_ ?_ _) | rfl | omega | go_size)


set_option maxHeartbeats 400000 in
theorem bpack_ok (A : Option Addr) (n c : Nat) (bs : List Bool) (w : World) (ha : Row .u8 w A n (pack bs)) (hc : n ≤ c ∧ c ≤ 9223372036854775807) (hl : bs.length ≤ 330000) :
    Calls Try.prog 28 #[.agg #[.slice A n c, .int .i64 ((bs.length : Nat) : Int)]] w (RetY w (sealed (pack bs)) 0) := by
  have hri := ha.rowIn
  have hm : n ≤ 41250 := by have := ha.len; rw [pack_len] at this; unfold bytesFor at this; omega
  go_enter Try.func28, Try.ntmps28
  go_wp2_with fail
  refine (bcheck_ok A n c bs _ (by exact RowIn.row (lo := 0) (hi := w.heap.size) (by repeat' (first | (with_reducible assumption) | (with_reducible exact Below.refl _ _) | (with_reducible refine Blk.drewN ?_ _) | (with_reducible refine RowIn.drewN ?_ _) | (with_reducible refine below_drewN ?_ _) | (with_reducible refine Blk.drew ?_) | (with_reducible refine RowIn.drew ?_) | (with_reducible refine Below.drew ?_) | (with_reducible refine Blk.new' ?_ ?_ <;> first | (with_reducible rfl) | (simp; done)) | (with_reducible refine Blk.alloc ?_ _) | (with_reducible refine RowIn.alloc ?_ _) | (with_reducible refine Below.alloc ?_ ?_ _) | (with_reducible apply Blk.set') | (with_reducible apply Blk.far') | (with_reducible refine RowIn.far' ?_ ?_ _) | (with_reducible refine Below.far' ?_ ?_ _) | rfl | omega | go_size))) (by omega) hl).mono ?_
  rintro e w1 ⟨rfl, b1⟩
  have s1 := b1.size
  try simp only [World.size_alloc, World.size_setCell, World.size_drew, size_drewN] at s1
  obtain ⟨zd_1, ra_1, bb_1⟩ : Blk w1 (w.heap.size) 54 [.slice A n c, .int .i64 ((bs.length : Nat) : Int)] ∧ RowIn .u8 w1 (0) (w.heap.size) A n (pack bs) ∧ Below w.heap.size w w1 := by
    refine ⟨?_, ?_, ?_⟩
    all_goals repeat' (first | (with_reducible assumption) | (with_reducible exact Below.refl _ _) | (with_reducible refine Blk.after ?_ b1) | (with_reducible refine RowIn.belowS ?_ b1) | (with_reducible refine Below.after ?_ b1 ?_) | (with_reducible refine Blk.drewN ?_ _) | (with_reducible refine RowIn.drewN ?_ _) | (with_reducible refine below_drewN ?_ _) | (with_reducible refine Blk.drew ?_) | (with_reducible refine RowIn.drew ?_) | (with_reducible refine Below.drew ?_) | (with_reducible refine Blk.new' ?_ ?_ <;> first | (with_reducible rfl) | (simp; done)) | (with_reducible refine Blk.alloc ?_ _) | (with_reducible refine RowIn.alloc ?_ _) | (with_reducible refine Below.alloc ?_ ?_ _) | (with_reducible apply Blk.set') | (with_reducible apply Blk.far') | (with_reducible refine RowIn.far' ?_ ?_ _) | (with_reducible refine Below.far' ?_ ?_ _) | rfl | omega | go_size)
  clear b1
  have kd_1 := zd_1.cell; have fd_1 := zd_1.frozen; have ld_1 := zd_1.lt
  go_wp2_with fail
  have hpw := pack_u8 bs
  refine (tail_ok A n c (pack bs) _ (by exact RowIn.row (lo := 0) (hi := w.heap.size) (by repeat' (first | (with_reducible assumption) | (with_reducible exact Below.refl _ _) | (with_reducible refine Blk.drewN ?_ _) | (with_reducible refine RowIn.drewN ?_ _) | (with_reducible refine below_drewN ?_ _) | (with_reducible refine Blk.drew ?_) | (with_reducible refine RowIn.drew ?_) | (with_reducible refine Below.drew ?_) | (with_reducible refine Blk.new' ?_ ?_ <;> first | (with_reducible rfl) | (simp; done)) | (with_reducible refine Blk.alloc ?_ _) | (with_reducible refine RowIn.alloc ?_ _) | (with_reducible refine Below.alloc ?_ ?_ _) | (with_reducible apply Blk.set') | (with_reducible apply Blk.far') | (with_reducible refine RowIn.far' ?_ ?_ _) | (with_reducible refine Below.far' ?_ ?_ _) | rfl | omega | go_size))) hpw (by omega)).mono ?_
  rintro e w2 ⟨B, rfl, own2, b2⟩
  have rs := own2.rowIn
  have s2 := b2.size
  try simp only [World.size_alloc, World.size_setCell, World.size_drew, size_drewN] at s2
  obtain ⟨zd_2, ra_2, rs_2, bb_2⟩ : Blk w2 (w.heap.size) 54 [.slice A n c, .int .i64 ((bs.length : Nat) : Int)] ∧ RowIn .u8 w2 (0) (w.heap.size) A n (pack bs) ∧ RowIn .u8 w2 (w1.heap.size) (w2.heap.size) B 4 (leB (Crc.sum (pack bs)) 4) ∧ Below w.heap.size w w2 := by
    refine ⟨?_, ?_, ?_, ?_⟩
    all_goals repeat' (first | (with_reducible assumption) | (with_reducible exact Below.refl _ _) | (with_reducible refine Blk.after ?_ b2) | (with_reducible refine RowIn.belowS ?_ b2) | (with_reducible refine Below.after ?_ b2 ?_) | (with_reducible refine Blk.drewN ?_ _) | (with_reducible refine RowIn.drewN ?_ _) | (with_reducible refine below_drewN ?_ _) | (with_reducible refine Blk.drew ?_) | (with_reducible refine RowIn.drew ?_) | (with_reducible refine Below.drew ?_) | (with_reducible refine Blk.new' ?_ ?_ <;> first | (with_reducible rfl) | (simp; done)) | (with_reducible refine Blk.alloc ?_ _) | (with_reducible refine RowIn.alloc ?_ _) | (with_reducible refine Below.alloc ?_ ?_ _) | (with_reducible apply Blk.set') | (with_reducible apply Blk.far') | (with_reducible refine RowIn.far' ?_ ?_ _) | (with_reducible refine Below.far' ?_ ?_ _) | rfl | omega | go_size)
  clear zd_1 ra_1 bb_1 kd_1 fd_1 ld_1 b2
  have kd_2 := zd_2.cell; have fd_2 := zd_2.frozen; have ld_2 := zd_2.lt
  clear rs own2
  go_wp2_with fail
  have zq := Blk.new w2 52 [.slice A n c, .slice B 4 4]
  have kq := zq.cell
  refine (concat_ok w2.heap.size A n c (pack bs) B 4 4 (leB (Crc.sum (pack bs)) 4) _ (by exact RowIn.row (lo := 0) (hi := w.heap.size) (by repeat' (first | (with_reducible assumption) | (with_reducible exact Below.refl _ _) | (with_reducible refine Blk.drewN ?_ _) | (with_reducible refine RowIn.drewN ?_ _) | (with_reducible refine below_drewN ?_ _) | (with_reducible refine Blk.drew ?_) | (with_reducible refine RowIn.drew ?_) | (with_reducible refine Below.drew ?_) | (with_reducible refine Blk.new' ?_ ?_ <;> first | (with_reducible rfl) | (simp; done)) | (with_reducible refine Blk.alloc ?_ _) | (with_reducible refine RowIn.alloc ?_ _) | (with_reducible refine Below.alloc ?_ ?_ _) | (with_reducible apply Blk.set') | (with_reducible apply Blk.far') | (with_reducible refine RowIn.far' ?_ ?_ _) | (with_reducible refine Below.far' ?_ ?_ _) | rfl | omega | go_size))) (by exact RowIn.row (lo := w1.heap.size) (hi := w2.heap.size) (by repeat' (first | (with_reducible assumption) | (with_reducible exact Below.refl _ _) | (with_reducible refine Blk.drewN ?_ _) | (with_reducible refine RowIn.drewN ?_ _) | (with_reducible refine below_drewN ?_ _) | (with_reducible refine Blk.drew ?_) | (with_reducible refine RowIn.drew ?_) | (with_reducible refine Below.drew ?_) | (with_reducible refine Blk.new' ?_ ?_ <;> first | (with_reducible rfl) | (simp; done)) | (with_reducible refine Blk.alloc ?_ _) | (with_reducible refine RowIn.alloc ?_ _) | (with_reducible refine Below.alloc ?_ ?_ _) | (with_reducible apply Blk.set') | (with_reducible apply Blk.far') | (with_reducible refine RowIn.far' ?_ ?_ _) | (with_reducible refine Below.far' ?_ ?_ _) | rfl | omega | go_size))) (by omega) (by omega) (by exact kq 0) (by exact kq 1) (by simp)).mono ?_
  rintro e w3 ⟨C, q, rfl, own3, b3⟩
  have hcap := own3.rowC.2
  have ry := own3.rowIn
  replace ry := ry.mono (lo' := w.heap.size) (by go_size) (Nat.le_refl _)
  clear own3 zq kq
  have s3 := b3.size
  try simp only [World.size_alloc, World.size_setCell, World.size_drew, size_drewN] at s3
  obtain ⟨zd_3, ra_3, rs_3, ry_3, bb_3⟩ : Blk w3 (w.heap.size) 54 [.slice A n c, .int .i64 ((bs.length : Nat) : Int)] ∧ RowIn .u8 w3 (0) (w.heap.size) A n (pack bs) ∧ RowIn .u8 w3 (w1.heap.size) (w2.heap.size) B 4 (leB (Crc.sum (pack bs)) 4) ∧ RowIn .u8 w3 (w.heap.size) (w3.heap.size) C (n + 4) (pack bs ++ leB (Crc.sum (pack bs)) 4) ∧ Below w.heap.size w w3 := by
    refine ⟨?_, ?_, ?_, ?_, ?_⟩
    all_goals repeat' (first | (with_reducible assumption) | (with_reducible exact Below.refl _ _) | (with_reducible refine Blk.after ?_ b3) | (with_reducible refine RowIn.belowS ?_ b3) | (with_reducible refine Below.after ?_ b3 ?_) | (with_reducible refine Blk.drewN ?_ _) | (with_reducible refine RowIn.drewN ?_ _) | (with_reducible refine below_drewN ?_ _) | (with_reducible refine Blk.drew ?_) | (with_reducible refine RowIn.drew ?_) | (with_reducible refine Below.drew ?_) | (with_reducible refine Blk.new' ?_ ?_ <;> first | (with_reducible rfl) | (simp; done)) | (with_reducible refine Blk.alloc ?_ _) | (with_reducible refine RowIn.alloc ?_ _) | (with_reducible refine Below.alloc ?_ ?_ _) | (with_reducible apply Blk.set') | (with_reducible apply Blk.far') | (with_reducible refine RowIn.far' ?_ ?_ _) | (with_reducible refine Below.far' ?_ ?_ _) | rfl | omega | go_size)
  clear zd_2 ra_2 rs_2 bb_2 kd_2 fd_2 ld_2 b3
  have kd_3 := zd_3.cell; have fd_3 := zd_3.frozen; have ld_3 := zd_3.lt
  clear ry
  go_wp2
  go_ret2
  exact RetY.of rfl hcap ry_3 bb_3


theorem RowIn.split4 {k : IntKind} {w : World} {b o m : Nat} {l : List Int} (h : Row k w (some ⟨b, o, none⟩) (m + 4) l) :
    RowIn k w 0 w.heap.size (some ⟨b, o, none⟩) m (l.take m) ∧ RowIn k w 0 w.heap.size (some ⟨b, o + m, none⟩) 4 (l.drop m) := by
  obtain ⟨b', o', he, hb, hc⟩ := h.at (by omega)
  simp only [Option.some.injEq, Addr.mk.injEq] at he
  obtain ⟨rfl, rfl, _⟩ := he
  have hx := h.len
  refine ⟨⟨by rw [List.length_take]; omega, fun _ => ⟨b, o, rfl, Nat.zero_le _, hb, fun j hj => by rw [nth_take hj]; exact hc j (by omega)⟩⟩, by rw [List.length_drop]; omega, fun _ => ⟨b, o + m, rfl, Nat.zero_le _, hb, fun j hj => by rw [nth_drop, Nat.add_assoc]; exact hc (m + j) (by omega)⟩⟩

/-- What unpacking returns. -/
def unpR (l : List Int) : List Bool × Int :=
  if l.length < 4 then ([], 24) else if 41254 < l.length then ([], 4) else if leB (Crc.sum (l.take (l.length - 4))) 4 = l.drop (l.length - 4) then (unpack (l.take (l.length - 4)), 0) else ([], 22)


end Go.Proofs.Ytpohaikbbfochaa
