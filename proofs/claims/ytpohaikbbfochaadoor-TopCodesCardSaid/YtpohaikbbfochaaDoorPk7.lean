/-
  Texts joined (BlkB, CrcB, BlkC, Burst, TopC, Tal, TalA, RefU, RefN).
-/
import Derived.Test.YtpohaikbbfochaaDoorPk6
/-
  Contracts of blocks.
-/
namespace Go.Proofs.YtpohaikbbfochaaDoor
open Go.RowKit Cad Cad.Bit Cad.Crc Cad.Le
set_option linter.unusedVariables false
set_option linter.unusedSimpArgs false


/-- Bytes with their sum behind them. -/
def sealed (l : List Int) : List Int := l ++ leB (Crc.sum l) 4
theorem sealed_len (l : List Int) : (sealed l).length = l.length + 4 := by unfold sealed; rw [List.length_append, leB_len]
theorem sealed_within {l : List Int} (h : Within 0 255 l) : Within 0 255 (sealed l) := h.append (leB_within _ _)
/-- Bytes and an error are returned. -/
def RetY (w : World) (l : List Int) (er : Int) (e : Ending) (w' : World) : Prop :=
  ∃ A n c xs', e = .returned (.tuple #[.slice A n c, .int .i64 er]) ∧ (n ≤ c ∧ c ≤ 9223372036854775807) ∧ RowIn .u8 w' w.heap.size w'.heap.size A n xs' ∧ Hid (xs' = l) ∧ Below w.heap.size w w'
theorem RetY.of {w w' : World} {l : List Int} {er : Int} {e : Ending} {A : Option Addr} {n c : Nat} (he : e = .returned (.tuple #[.slice A n c, .int .i64 er])) (hc : n ≤ c ∧ c ≤ 9223372036854775807) (hr : RowIn .u8 w' w.heap.size w'.heap.size A n l) (hb : Below w.heap.size w w') : RetY w l er e w' :=
  ⟨A, n, c, l, he, hc, hr, Lib.hid rfl, hb⟩

set_option maxHeartbeats 400000 in
theorem tail_ok (A : Option Addr) (n c : Nat) (l : List Int) (w : World) (ha : Row .u8 w A n l) (hl : Within 0 255 l) (hn : n ≤ 100000) :
    Calls Tryd.prog 49 #[.slice A n c] w fun e w' => ∃ B, e = .returned (.tuple #[.slice B 4 4, .int .i64 0]) ∧ Own w' w.heap.size 5 .u8 B 4 4 (leB (Crc.sum l) 4) ∧ Below w.heap.size w w' := by
  obtain ⟨x, HX⟩ : ∃ x, Hid (x = Crc.sum l) := ⟨_, Lib.hid rfl⟩
  have hx : x < 4294967296 := by rw [HX.out]; exact sum_lt hl
  have hc := sum_ok A n c l w ha hl hn
  rw [← HX.out] at hc ⊢
  have HC := Lib.hid hc
  clear hc
  go_enter Tryd.func49, Tryd.ntmps49
  go_wp2_with fail
  refine HC.out.mono ?_
  rintro e w1 ⟨rfl, hw⟩
  go_wp2_with fail
  refine (lebytes_ok x 4 w1 (by omega) (by omega) (by omega) (by omega)).mono ?_
  rintro e w2 ⟨rfl, hown, hw2⟩
  go_wp2
  go_ret2
  exact ⟨_, rfl, hown.mono hw.size, hw.trans (hw2.mono hw.size)⟩

theorem bsize_ok (n : Nat) (w : World) (h : n ≤ 330000) :
    Calls Tryd.prog 52 #[.int .i64 (n : Int)] w fun e w' => e = .returned (.tuple #[.int .i64 (((n + 7) / 8 + 4 : Nat) : Int), .int .i64 0]) ∧ w = w' := by
  have a1 : ¬ (n : Int) < 0 := by omega
  have a2 : ¬ (330000 : Int) < (n : Int) := by omega
  go_enter Tryd.func52, Tryd.ntmps52
  go_wp2
  go_ret2
  exact ⟨by go_num, rfl⟩
theorem bsize_bad (n : Int) (w : World) (h : n < 0 ∨ 330000 < n) :
    Calls Tryd.prog 52 #[.int .i64 n] w fun e w' => e = .returned (.tuple #[.int .i64 0, .int .i64 2]) ∧ w = w' := by
  by_cases h1 : n < 0
  · go_enter Tryd.func52, Tryd.ntmps52
    go_wp2
    go_ret2
    exact ⟨rfl, rfl⟩
  · have h2 : 330000 < n := by omega
    go_enter Tryd.func52, Tryd.ntmps52
    go_wp2
    go_ret2
    exact ⟨rfl, rfl⟩


set_option maxHeartbeats 400000 in
theorem bpack_bad (A : Option Addr) (n c : Nat) (N : Int) (bytes : List Int) (w : World) (ha : Row .u8 w A n bytes) (hb : Within 0 255 bytes) (hn : n ≤ 9223372036854775807) (hv : ¬ Valid bytes N) :
    Calls Tryd.prog 21 #[.agg #[.slice A n c, .int .i64 N]] w (RetY w [] 8) := by
  have hri := ha.rowIn
  go_enter Tryd.func21, Tryd.ntmps21
  go_wp2_with fail
  refine (bcheck_bad A n c N bytes _ (by exact RowIn.row (lo := 0) (hi := w.heap.size) (by repeat' (first | (with_reducible assumption) | (with_reducible exact Below.refl _ _) | (with_reducible refine Blk.drewN ?_ _) | (with_reducible refine RowIn.drewN ?_ _) | (with_reducible refine below_drewN ?_ _) | (with_reducible refine Blk.drew ?_) | (with_reducible refine RowIn.drew ?_) | (with_reducible refine Below.drew ?_) | (with_reducible refine Blk.new' ?_ ?_ <;> first | (with_reducible rfl) | (simp; done)) | (with_reducible refine Blk.alloc ?_ _) | (with_reducible refine RowIn.alloc ?_ _) | (with_reducible refine Below.alloc ?_ ?_ _) | (with_reducible apply Blk.set') | (with_reducible apply Blk.far') | (with_reducible refine RowIn.far' ?_ ?_ _) | (with_reducible refine Below.far' ?_ ?_ _) | rfl | omega | go_size))) hb hn hv).mono ?_
  rintro e w1 ⟨rfl, b1⟩
  have s1 := b1.size
  try simp only [World.size_alloc, World.size_setCell, World.size_drew, size_drewN] at s1
  obtain ⟨zd_1, ra_1, bb_1⟩ : Blk w1 (w.heap.size) 26 [.slice A n c, .int .i64 N] ∧ RowIn .u8 w1 (0) (w.heap.size) A n bytes ∧ Below w.heap.size w w1 := by
    refine ⟨?_, ?_, ?_⟩
    all_goals repeat' (first | (with_reducible assumption) | (with_reducible exact Below.refl _ _) | (with_reducible refine Blk.after ?_ b1) | (with_reducible refine RowIn.belowS ?_ b1) | (with_reducible refine Below.after ?_ b1 ?_) | (with_reducible refine Blk.drewN ?_ _) | (with_reducible refine RowIn.drewN ?_ _) | (with_reducible refine below_drewN ?_ _) | (with_reducible refine Blk.drew ?_) | (with_reducible refine RowIn.drew ?_) | (with_reducible refine Below.drew ?_) | (with_reducible refine Blk.new' ?_ ?_ <;> first | (with_reducible rfl) | (simp; done)) | (with_reducible refine Blk.alloc ?_ _) | (with_reducible refine RowIn.alloc ?_ _) | (with_reducible refine Below.alloc ?_ ?_ _) | (with_reducible apply Blk.set') | (with_reducible apply Blk.far') | (with_reducible refine RowIn.far' ?_ ?_ _) | (with_reducible refine Below.far' ?_ ?_ _) | rfl | omega | go_size)
  clear b1
  have kd_1 := zd_1.cell; have fd_1 := zd_1.frozen; have ld_1 := zd_1.lt
  go_wp2
  go_ret2
  refine RetY.of rfl ⟨Nat.le_refl _, Nat.zero_le _⟩ RowIn.nil ?_
  repeat' (first | (with_reducible assumption) | (with_reducible exact Below.refl _ _) | (with_reducible refine Blk.drewN ?_ _) | (with_reducible refine RowIn.drewN ?_ _) | (with_reducible refine below_drewN ?_ _) | (with_reducible refine Blk.drew ?_) | (with_reducible refine RowIn.drew ?_) | (with_reducible refine Below.drew ?_) | (with_reducible refine Blk.new' ?_ ?_ <;> first | (with_reducible rfl) | (simp; done)) | (with_reducible refine Blk.alloc ?_ _) | (with_reducible refine RowIn.alloc ?_ _) | (with_reducible refine Below.alloc ?_ ?_ _) | (with_reducible apply Blk.set') | (with_reducible apply Blk.far') | (with_reducible refine RowIn.far' ?_ ?_ _) | (with_reducible refine Below.far' ?_ ?_ _) | rfl | omega | go_size)


set_option maxHeartbeats 400000 in
theorem bpack_ok (A : Option Addr) (n c : Nat) (bs : List Bool) (w : World) (ha : Row .u8 w A n (pack bs)) (hc : n ≤ c ∧ c ≤ 9223372036854775807) (hl : bs.length ≤ 330000) :
    Calls Tryd.prog 21 #[.agg #[.slice A n c, .int .i64 ((bs.length : Nat) : Int)]] w (RetY w (sealed (pack bs)) 0) := by
  have hri := ha.rowIn
  have hm : n ≤ 41250 := by have := ha.len; rw [pack_len] at this; unfold bytesFor at this; omega
  go_enter Tryd.func21, Tryd.ntmps21
  go_wp2_with fail
  refine (bcheck_ok A n c bs _ (by exact RowIn.row (lo := 0) (hi := w.heap.size) (by repeat' (first | (with_reducible assumption) | (with_reducible exact Below.refl _ _) | (with_reducible refine Blk.drewN ?_ _) | (with_reducible refine RowIn.drewN ?_ _) | (with_reducible refine below_drewN ?_ _) | (with_reducible refine Blk.drew ?_) | (with_reducible refine RowIn.drew ?_) | (with_reducible refine Below.drew ?_) | (with_reducible refine Blk.new' ?_ ?_ <;> first | (with_reducible rfl) | (simp; done)) | (with_reducible refine Blk.alloc ?_ _) | (with_reducible refine RowIn.alloc ?_ _) | (with_reducible refine Below.alloc ?_ ?_ _) | (with_reducible apply Blk.set') | (with_reducible apply Blk.far') | (with_reducible refine RowIn.far' ?_ ?_ _) | (with_reducible refine Below.far' ?_ ?_ _) | rfl | omega | go_size))) (by omega) hl).mono ?_
  rintro e w1 ⟨rfl, b1⟩
  have s1 := b1.size
  try simp only [World.size_alloc, World.size_setCell, World.size_drew, size_drewN] at s1
  obtain ⟨zd_1, ra_1, bb_1⟩ : Blk w1 (w.heap.size) 26 [.slice A n c, .int .i64 ((bs.length : Nat) : Int)] ∧ RowIn .u8 w1 (0) (w.heap.size) A n (pack bs) ∧ Below w.heap.size w w1 := by
    refine ⟨?_, ?_, ?_⟩
    all_goals repeat' (first | (with_reducible assumption) | (with_reducible exact Below.refl _ _) | (with_reducible refine Blk.after ?_ b1) | (with_reducible refine RowIn.belowS ?_ b1) | (with_reducible refine Below.after ?_ b1 ?_) | (with_reducible refine Blk.drewN ?_ _) | (with_reducible refine RowIn.drewN ?_ _) | (with_reducible refine below_drewN ?_ _) | (with_reducible refine Blk.drew ?_) | (with_reducible refine RowIn.drew ?_) | (with_reducible refine Below.drew ?_) | (with_reducible refine Blk.new' ?_ ?_ <;> first | (with_reducible rfl) | (simp; done)) | (with_reducible refine Blk.alloc ?_ _) | (with_reducible refine RowIn.alloc ?_ _) | (with_reducible refine Below.alloc ?_ ?_ _) | (with_reducible apply Blk.set') | (with_reducible apply Blk.far') | (with_reducible refine RowIn.far' ?_ ?_ _) | (with_reducible refine Below.far' ?_ ?_ _) | rfl | omega | go_size)
  clear b1
  have kd_1 := zd_1.cell; have fd_1 := zd_1.frozen; have ld_1 := zd_1.lt
  go_wp2_with fail
  have hpw := pack_u8 bs
  refine (tail_ok A n c (pack bs) _ (by exact RowIn.row (lo := 0) (hi := w.heap.size) (by repeat' (first | (with_reducible assumption) | (with_reducible exact Below.refl _ _) | (with_reducible refine Blk.drewN ?_ _) | (with_reducible refine RowIn.drewN ?_ _) | (with_reducible refine below_drewN ?_ _) | (with_reducible refine Blk.drew ?_) | (with_reducible refine RowIn.drew ?_) | (with_reducible refine Below.drew ?_) | (with_reducible refine Blk.new' ?_ ?_ <;> first | (with_reducible rfl) | (simp; done)) | (with_reducible refine Blk.alloc ?_ _) | (with_reducible refine RowIn.alloc ?_ _) | (with_reducible refine Below.alloc ?_ ?_ _) | (with_reducible apply Blk.set') | (with_reducible apply Blk.far') | (with_reducible refine RowIn.far' ?_ ?_ _) | (with_reducible refine Below.far' ?_ ?_ _) | rfl | omega | go_size))) hpw (by omega)).mono ?_
  rintro e w2 ⟨B, rfl, own2, b2⟩
  have rs := own2.rowIn
  have s2 := b2.size
  try simp only [World.size_alloc, World.size_setCell, World.size_drew, size_drewN] at s2
  obtain ⟨zd_2, ra_2, rs_2, bb_2⟩ : Blk w2 (w.heap.size) 26 [.slice A n c, .int .i64 ((bs.length : Nat) : Int)] ∧ RowIn .u8 w2 (0) (w.heap.size) A n (pack bs) ∧ RowIn .u8 w2 (w1.heap.size) (w2.heap.size) B 4 (leB (Crc.sum (pack bs)) 4) ∧ Below w.heap.size w w2 := by
    refine ⟨?_, ?_, ?_, ?_⟩
    all_goals repeat' (first | (with_reducible assumption) | (with_reducible exact Below.refl _ _) | (with_reducible refine Blk.after ?_ b2) | (with_reducible refine RowIn.belowS ?_ b2) | (with_reducible refine Below.after ?_ b2 ?_) | (with_reducible refine Blk.drewN ?_ _) | (with_reducible refine RowIn.drewN ?_ _) | (with_reducible refine below_drewN ?_ _) | (with_reducible refine Blk.drew ?_) | (with_reducible refine RowIn.drew ?_) | (with_reducible refine Below.drew ?_) | (with_reducible refine Blk.new' ?_ ?_ <;> first | (with_reducible rfl) | (simp; done)) | (with_reducible refine Blk.alloc ?_ _) | (with_reducible refine RowIn.alloc ?_ _) | (with_reducible refine Below.alloc ?_ ?_ _) | (with_reducible apply Blk.set') | (with_reducible apply Blk.far') | (with_reducible refine RowIn.far' ?_ ?_ _) | (with_reducible refine Below.far' ?_ ?_ _) | rfl | omega | go_size)
  clear zd_1 ra_1 bb_1 kd_1 fd_1 ld_1 b2
  have kd_2 := zd_2.cell; have fd_2 := zd_2.frozen; have ld_2 := zd_2.lt
  clear rs own2
  go_wp2_with fail
  have zq := Blk.new w2 24 [.slice A n c, .slice B 4 4]
  have kq := zq.cell
  refine (concat_ok w2.heap.size A n c (pack bs) B 4 4 (leB (Crc.sum (pack bs)) 4) _ (by exact RowIn.row (lo := 0) (hi := w.heap.size) (by repeat' (first | (with_reducible assumption) | (with_reducible exact Below.refl _ _) | (with_reducible refine Blk.drewN ?_ _) | (with_reducible refine RowIn.drewN ?_ _) | (with_reducible refine below_drewN ?_ _) | (with_reducible refine Blk.drew ?_) | (with_reducible refine RowIn.drew ?_) | (with_reducible refine Below.drew ?_) | (with_reducible refine Blk.new' ?_ ?_ <;> first | (with_reducible rfl) | (simp; done)) | (with_reducible refine Blk.alloc ?_ _) | (with_reducible refine RowIn.alloc ?_ _) | (with_reducible refine Below.alloc ?_ ?_ _) | (with_reducible apply Blk.set') | (with_reducible apply Blk.far') | (with_reducible refine RowIn.far' ?_ ?_ _) | (with_reducible refine Below.far' ?_ ?_ _) | rfl | omega | go_size))) (by exact RowIn.row (lo := w1.heap.size) (hi := w2.heap.size) (by repeat' (first | (with_reducible assumption) | (with_reducible exact Below.refl _ _) | (with_reducible refine Blk.drewN ?_ _) | (with_reducible refine RowIn.drewN ?_ _) | (with_reducible refine below_drewN ?_ _) | (with_reducible refine Blk.drew ?_) | (with_reducible refine RowIn.drew ?_) | (with_reducible refine Below.drew ?_) | (with_reducible refine Blk.new' ?_ ?_ <;> first | (with_reducible rfl) | (simp; done)) | (with_reducible refine Blk.alloc ?_ _) | (with_reducible refine RowIn.alloc ?_ _) | (with_reducible refine Below.alloc ?_ ?_ _) | (with_reducible apply Blk.set') | (with_reducible apply Blk.far') | (with_reducible refine RowIn.far' ?_ ?_ _) | (with_reducible refine Below.far' ?_ ?_ _) | rfl | omega | go_size))) (by omega) (by omega) (by exact kq 0) (by exact kq 1) (by simp)).mono ?_
  rintro e w3 ⟨C, q, rfl, own3, b3⟩
  have hcap := own3.rowC.2
  have ry := own3.rowIn
  replace ry := ry.mono (lo' := w.heap.size) (by go_size) (Nat.le_refl _)
  clear own3 zq kq
  have s3 := b3.size
  try simp only [World.size_alloc, World.size_setCell, World.size_drew, size_drewN] at s3
  obtain ⟨zd_3, ra_3, rs_3, ry_3, bb_3⟩ : Blk w3 (w.heap.size) 26 [.slice A n c, .int .i64 ((bs.length : Nat) : Int)] ∧ RowIn .u8 w3 (0) (w.heap.size) A n (pack bs) ∧ RowIn .u8 w3 (w1.heap.size) (w2.heap.size) B 4 (leB (Crc.sum (pack bs)) 4) ∧ RowIn .u8 w3 (w.heap.size) (w3.heap.size) C (n + 4) (pack bs ++ leB (Crc.sum (pack bs)) 4) ∧ Below w.heap.size w w3 := by
    refine ⟨?_, ?_, ?_, ?_, ?_⟩
    all_goals repeat' (first | (with_reducible assumption) | (with_reducible exact Below.refl _ _) | (with_reducible refine Blk.after ?_ b3) | (with_reducible refine RowIn.belowS ?_ b3) | (with_reducible refine Below.after ?_ b3 ?_) | (with_reducible refine Blk.drewN ?_ _) | (with_reducible refine RowIn.drewN ?_ _) | (with_reducible refine below_drewN ?_ _) | (with_reducible refine Blk.drew ?_) | (with_reducible refine RowIn.drew ?_) | (with_reducible refine Below.drew ?_) | (with_reducible refine Blk.new' ?_ ?_ <;> first | (with_reducible rfl) | (simp; done)) | (with_reducible refine Blk.alloc ?_ _) | (with_reducible refine RowIn.alloc ?_ _) | (with_reducible refine Below.alloc ?_ ?_ _) | (with_reducible apply Blk.set') | (with_reducible apply Blk.far') | (with_reducible refine RowIn.far' ?_ ?_ _) | (with_reducible refine Below.far' ?_ ?_ _) | rfl | omega | go_size)
  clear zd_2 ra_2 rs_2 bb_2 kd_2 fd_2 ld_2 b3
  have kd_3 := zd_3.cell; have fd_3 := zd_3.frozen; have ld_3 := zd_3.lt
  clear ry
  go_wp2
  go_ret2
  exact RetY.of rfl hcap ry_3 bb_3


theorem RowIn.split4 {k : IntKind} {w : World} {b o m : Nat} {l : List Int} (h : Row k w (some ⟨b, o, none⟩) (m + 4) l) :
    RowIn k w 0 w.heap.size (some ⟨b, o, none⟩) m (l.take m) ∧ RowIn k w 0 w.heap.size (some ⟨b, o + m, none⟩) 4 (l.drop m) := by
  obtain ⟨b', o', he, hb, hc⟩ := h.at (by omega)
  simp only [Option.some.injEq, Addr.mk.injEq] at he
  obtain ⟨rfl, rfl, _⟩ := he
  have hx := h.len
  refine ⟨⟨by rw [List.length_take]; omega, fun _ => ⟨b, o, rfl, Nat.zero_le _, hb, fun j hj => by rw [nth_take hj]; exact hc j (by omega)⟩⟩, by rw [List.length_drop]; omega, fun _ => ⟨b, o + m, rfl, Nat.zero_le _, hb, fun j hj => by rw [nth_drop, Nat.add_assoc]; exact hc (m + j) (by omega)⟩⟩

/-- What unpacking returns. -/
def unpR (l : List Int) : List Bool × Int :=
  if l.length < 4 then ([], 24) else if 41254 < l.length then ([], 4) else if leB (Crc.sum (l.take (l.length - 4))) 4 = l.drop (l.length - 4) then (unpack (l.take (l.length - 4)), 0) else ([], 22)


set_option maxHeartbeats 1000000 in
theorem unp_ret (A : Option Addr) (n c : Nat) (l : List Int) (w : World) (ha : Row .u8 w A n l) (hl : Within 0 255 l) (hc : n ≤ c ∧ c ≤ 9223372036854775807) :
    Calls Tryd.prog 24 #[.slice A n c] w (RetB w (unpR l).1 (unpR l).2) := by
  have hri := ha.rowIn
  have hx := ha.len
  by_cases h1 : n < 4
  · have HR : Hid (unpR l = ([], 24)) := by unfold unpR; rw [if_pos (by omega)]; exact Lib.hid rfl
    clear hx
    have hlt : (n : Int) - 4 < 0 := by omega
    go_enter Tryd.func24, Tryd.ntmps24
    go_wp2_with fail
    go_wp2
    refine bodyPost_ret (v := .tuple #[.agg #[.slice none 0 0, .int .i64 0], .int .i64 24]) (by simp [results, Tryd.results24, go_sem]) rfl ?_
    rw [HR.out]
    refine RetB.of rfl (BitsIn.zero _ _ _) ?_
    repeat' (first | (with_reducible assumption) | (with_reducible exact Below.refl _ _) | (with_reducible refine Blk.drewN ?_ _) | (with_reducible refine RowIn.drewN ?_ _) | (with_reducible refine below_drewN ?_ _) | (with_reducible refine Blk.drew ?_) | (with_reducible refine RowIn.drew ?_) | (with_reducible refine Below.drew ?_) | (with_reducible refine Blk.new' ?_ ?_ <;> first | (with_reducible rfl) | (simp; done)) | (with_reducible refine Blk.alloc ?_ _) | (with_reducible refine RowIn.alloc ?_ _) | (with_reducible refine Below.alloc ?_ ?_ _) | (with_reducible apply Blk.set') | (with_reducible apply Blk.far') | (with_reducible refine RowIn.far' ?_ ?_ _) | (with_reducible refine Below.far' ?_ ?_ _) | rfl | omega | go_size)
  by_cases h2 : 41254 < n
  · have HR : Hid (unpR l = ([], 4)) := by unfold unpR; rw [if_neg (by omega), if_pos (by omega)]; exact Lib.hid rfl
    clear hx
    have hlt : ¬ (n : Int) - 4 < 0 := by omega
    have hgt : (41250 : Int) < (n : Int) - 4 := by omega
    go_enter Tryd.func24, Tryd.ntmps24
    go_wp2_with fail
    go_wp2
    refine bodyPost_ret (v := .tuple #[.agg #[.slice none 0 0, .int .i64 0], .int .i64 4]) (by simp [results, Tryd.results24, go_sem]) rfl ?_
    rw [HR.out]
    refine RetB.of rfl (BitsIn.zero _ _ _) ?_
    repeat' (first | (with_reducible assumption) | (with_reducible exact Below.refl _ _) | (with_reducible refine Blk.drewN ?_ _) | (with_reducible refine RowIn.drewN ?_ _) | (with_reducible refine below_drewN ?_ _) | (with_reducible refine Blk.drew ?_) | (with_reducible refine RowIn.drew ?_) | (with_reducible refine Below.drew ?_) | (with_reducible refine Blk.new' ?_ ?_ <;> first | (with_reducible rfl) | (simp; done)) | (with_reducible refine Blk.alloc ?_ _) | (with_reducible refine RowIn.alloc ?_ _) | (with_reducible refine Below.alloc ?_ ?_ _) | (with_reducible apply Blk.set') | (with_reducible apply Blk.far') | (with_reducible refine RowIn.far' ?_ ?_ _) | (with_reducible refine Below.far' ?_ ?_ _) | rfl | omega | go_size)
  obtain ⟨m, rfl⟩ : ∃ m, n = m + 4 := ⟨n - 4, by omega⟩
  have hm : m ≤ 41250 := by omega
  have hm4 : ¬ c = m := by omega
  obtain ⟨b, o, rfl, _, _⟩ := ha.at (by omega)
  have hlt : ¬ (((m + 4 : Nat) : Int)) - 4 < 0 := by omega
  have hgt : ¬ (41250 : Int) < (((m + 4 : Nat) : Int)) - 4 := by omega
  obtain ⟨rp, rt⟩ := RowIn.split4 ha
  have hlp := hl.take m
  clear hri h1 h2
  have HR : Hid (unpR l = if leB (Crc.sum (l.take m)) 4 = l.drop m then (unpack (l.take m), 0) else ([], 22)) := by unfold unpR; rw [if_neg (by omega), if_neg (by omega), hx, Nat.add_sub_cancel]; exact Lib.hid rfl
  clear hx
  obtain ⟨lp, HLP⟩ : ∃ lp, Hid (lp = l.take m) := ⟨_, Lib.hid rfl⟩
  obtain ⟨lt, HLT⟩ : ∃ lt, Hid (lt = l.drop m) := ⟨_, Lib.hid rfl⟩
  rw [← HLP.out] at rp hlp HR
  rw [← HLT.out] at rt HR
  clear HLP HLT
  go_enter Tryd.func24, Tryd.ntmps24
  go_wp2_with fail
  refine (tail_ok (some ⟨b, o, none⟩) m c lp _ (by exact RowIn.row (lo := 0) (hi := w.heap.size) (by repeat' (first | (with_reducible assumption) | (with_reducible exact Below.refl _ _) | (with_reducible refine Blk.drewN ?_ _) | (with_reducible refine RowIn.drewN ?_ _) | (with_reducible refine below_drewN ?_ _) | (with_reducible refine Blk.drew ?_) | (with_reducible refine RowIn.drew ?_) | (with_reducible refine Below.drew ?_) | (with_reducible refine Blk.new' ?_ ?_ <;> first | (with_reducible rfl) | (simp; done)) | (with_reducible refine Blk.alloc ?_ _) | (with_reducible refine RowIn.alloc ?_ _) | (with_reducible refine Below.alloc ?_ ?_ _) | (with_reducible apply Blk.set') | (with_reducible apply Blk.far') | (with_reducible refine RowIn.far' ?_ ?_ _) | (with_reducible refine Below.far' ?_ ?_ _) | rfl | omega | go_size))) hlp (by omega)).mono ?_
  rintro e w1 ⟨B, rfl, own1, b1⟩
  have rs := own1.rowIn
  replace rs := rs.mono (lo' := w.heap.size) (by go_size) (Nat.le_refl _)
  have s1 := b1.size
  try simp only [World.size_alloc, World.size_setCell, World.size_drew, size_drewN] at s1
  obtain ⟨zr_1, rp_1, rt_1, rs_1, bb_1⟩ : Blk w1 (w.heap.size) 26 [.slice none 0 0, .int .i64 0] ∧ RowIn .u8 w1 (0) (w.heap.size) (some ⟨b, o, none⟩) m lp ∧ RowIn .u8 w1 (0) (w.heap.size) (some ⟨b, o + m, none⟩) 4 lt ∧ RowIn .u8 w1 (w.heap.size) (w1.heap.size) B 4 (leB (Crc.sum lp) 4) ∧ Below w.heap.size w w1 := by
    refine ⟨?_, ?_, ?_, ?_, ?_⟩
    all_goals repeat' (first | (with_reducible assumption) | (with_reducible exact Below.refl _ _) | (with_reducible refine Blk.after ?_ b1) | (with_reducible refine RowIn.belowS ?_ b1) | (with_reducible refine Below.after ?_ b1 ?_) | (with_reducible refine Blk.drewN ?_ _) | (with_reducible refine RowIn.drewN ?_ _) | (with_reducible refine below_drewN ?_ _) | (with_reducible refine Blk.drew ?_) | (with_reducible refine RowIn.drew ?_) | (with_reducible refine Below.drew ?_) | (with_reducible refine Blk.new' ?_ ?_ <;> first | (with_reducible rfl) | (simp; done)) | (with_reducible refine Blk.alloc ?_ _) | (with_reducible refine RowIn.alloc ?_ _) | (with_reducible refine Below.alloc ?_ ?_ _) | (with_reducible apply Blk.set') | (with_reducible apply Blk.far') | (with_reducible refine RowIn.far' ?_ ?_ _) | (with_reducible refine Below.far' ?_ ?_ _) | rfl | omega | go_size)
  clear b1
  have kr_1 := zr_1.cell; have fr_1 := zr_1.frozen; have lr_1 := zr_1.lt
  clear rs own1
  go_wp2_with fail
  obtain ⟨q, HQ⟩ : ∃ q, Hid (q = decide (leB (Crc.sum lp) 4 = lt)) := ⟨_, Lib.hid rfl⟩
  have HE := equal_any B 4 4 _ (some ⟨b, o + m, none⟩) 4 (c - m) _ w1 rs_1.row rt_1.row (by omega) (by omega)
  rw [← HQ.out] at HE
  replace HE := Lib.hid HE
  refine HE.out.mono ?_
  rintro e w2 ⟨rfl, b2⟩
  clear HE
  have s2 := b2.size
  try simp only [World.size_alloc, World.size_setCell, World.size_drew, size_drewN] at s2
  obtain ⟨zr_2, rp_2, bb_2⟩ : Blk w2 (w.heap.size) 26 [.slice none 0 0, .int .i64 0] ∧ RowIn .u8 w2 (0) (w.heap.size) (some ⟨b, o, none⟩) m lp ∧ Below w.heap.size w w2 := by
    refine ⟨?_, ?_, ?_⟩
    all_goals repeat' (first | (with_reducible assumption) | (with_reducible exact Below.refl _ _) | (with_reducible refine Blk.after ?_ b2) | (with_reducible refine RowIn.belowS ?_ b2) | (with_reducible refine Below.after ?_ b2 ?_) | (with_reducible refine Blk.drewN ?_ _) | (with_reducible refine RowIn.drewN ?_ _) | (with_reducible refine below_drewN ?_ _) | (with_reducible refine Blk.drew ?_) | (with_reducible refine RowIn.drew ?_) | (with_reducible refine Below.drew ?_) | (with_reducible refine Blk.new' ?_ ?_ <;> first | (with_reducible rfl) | (simp; done)) | (with_reducible refine Blk.alloc ?_ _) | (with_reducible refine RowIn.alloc ?_ _) | (with_reducible refine Below.alloc ?_ ?_ _) | (with_reducible apply Blk.set') | (with_reducible apply Blk.far') | (with_reducible refine RowIn.far' ?_ ?_ _) | (with_reducible refine Below.far' ?_ ?_ _) | rfl | omega | go_size)
  clear zr_1 rp_1 rt_1 rs_1 bb_1 kr_1 fr_1 lr_1 b2
  have kr_2 := zr_2.cell; have fr_2 := zr_2.frozen; have lr_2 := zr_2.lt
  cases q
  · have HN : Hid (unpR l = ([], 22)) := by rw [HR.out, if_neg (of_decide_eq_false HQ.out.symm)]; exact Lib.hid rfl
    clear HR
    have HR := HN
    go_wp2
    refine bodyPost_ret (v := .tuple #[.agg #[.slice none 0 0, .int .i64 0], .int .i64 22]) (by simp [results, Tryd.results24, go_sem, kr_2]) rfl ?_
    rw [HR.out]
    refine RetB.of rfl (BitsIn.zero _ _ _) ?_
    repeat' (first | (with_reducible assumption) | (with_reducible exact Below.refl _ _) | (with_reducible refine Blk.drewN ?_ _) | (with_reducible refine RowIn.drewN ?_ _) | (with_reducible refine below_drewN ?_ _) | (with_reducible refine Blk.drew ?_) | (with_reducible refine RowIn.drew ?_) | (with_reducible refine Below.drew ?_) | (with_reducible refine Blk.new' ?_ ?_ <;> first | (with_reducible rfl) | (simp; done)) | (with_reducible refine Blk.alloc ?_ _) | (with_reducible refine RowIn.alloc ?_ _) | (with_reducible refine Below.alloc ?_ ?_ _) | (with_reducible apply Blk.set') | (with_reducible apply Blk.far') | (with_reducible refine RowIn.far' ?_ ?_ _) | (with_reducible refine Below.far' ?_ ?_ _) | rfl | omega | go_size)
  · have HN : Hid (unpR l = (unpack lp, 0)) := by rw [HR.out, if_pos (of_decide_eq_true HQ.out.symm)]; exact Lib.hid rfl
    have HO : Hid (ofR lp = (unpack lp, 0)) := by unfold ofR; rw [if_neg (by rw [rp_2.len]; omega)]; exact Lib.hid rfl
    clear HR
    have HR := HN
    go_wp2_with fail
    have hcm : m ≤ c ∧ c ≤ 9223372036854775807 := by omega
    have HC := bof_ret (some ⟨b, o, none⟩) m c lp w2 rp_2.row hlp hcm
    rw [HO.out] at HC
    replace HC := Lib.hid HC
    refine (HC.out).mono ?_
    rintro e w3 ⟨Ay, my, cy, xy, rfl, hcy, ry, HXy, b3⟩
    replace ry := ry.mono (lo' := w2.heap.size + 0) (by go_size) (Nat.le_refl _)
    have s3 := b3.size
    try simp only [World.size_alloc, World.size_setCell, World.size_drew, size_drewN] at s3
    obtain ⟨zr_3, rp_3, ry_3, bb_3⟩ : Blk w3 (w.heap.size) 26 [.slice none 0 0, .int .i64 0] ∧ RowIn .u8 w3 (0) (w.heap.size) (some ⟨b, o, none⟩) m lp ∧ RowIn .u8 w3 (w2.heap.size + 0) (w3.heap.size) Ay my (pack xy) ∧ Below w.heap.size w w3 := by
      refine ⟨?_, ?_, ?_, ?_⟩
      all_goals repeat' (first | (with_reducible assumption) | (with_reducible exact Below.refl _ _) | (with_reducible refine Blk.after ?_ b3) | (with_reducible refine RowIn.belowS ?_ b3) | (with_reducible refine Below.after ?_ b3 ?_) | (with_reducible refine Blk.drewN ?_ _) | (with_reducible refine RowIn.drewN ?_ _) | (with_reducible refine below_drewN ?_ _) | (with_reducible refine Blk.drew ?_) | (with_reducible refine RowIn.drew ?_) | (with_reducible refine Below.drew ?_) | (with_reducible refine Blk.new' ?_ ?_ <;> first | (with_reducible rfl) | (simp; done)) | (with_reducible refine Blk.alloc ?_ _) | (with_reducible refine RowIn.alloc ?_ _) | (with_reducible refine Below.alloc ?_ ?_ _) | (with_reducible apply Blk.set') | (with_reducible apply Blk.far') | (with_reducible refine RowIn.far' ?_ ?_ _) | (with_reducible refine Below.far' ?_ ?_ _) | rfl | omega | go_size)
    clear zr_2 rp_2 bb_2 kr_2 fr_2 lr_2 b3
    have kr_3 := zr_3.cell; have fr_3 := zr_3.frozen; have lr_3 := zr_3.lt
    clear ry
    go_wp2
    refine bodyPost_ret (v := .tuple #[.agg #[.slice Ay my cy, .int .i64 ((xy.length : Nat) : Int)], .int .i64 0]) (by simp [results, Tryd.results24, go_sem, kr_3]) rfl ?_
    rw [HR.out]
    refine RetB.of rfl ⟨Ay, my, cy, by rw [← HXy.out], hcy, ?_⟩ ?_
    · rw [← HXy.out]
      refine RowIn.mono (lo := w2.heap.size + 0) (hi := w3.heap.size) ?_ (by go_size) (by go_size)
      repeat' (first | (with_reducible assumption) | (with_reducible exact Below.refl _ _) | (with_reducible refine Blk.drewN ?_ _) | (with_reducible refine RowIn.drewN ?_ _) | (with_reducible refine below_drewN ?_ _) | (with_reducible refine Blk.drew ?_) | (with_reducible refine RowIn.drew ?_) | (with_reducible refine Below.drew ?_) | (with_reducible refine Blk.new' ?_ ?_ <;> first | (with_reducible rfl) | (simp; done)) | (with_reducible refine Blk.alloc ?_ _) | (with_reducible refine RowIn.alloc ?_ _) | (with_reducible refine Below.alloc ?_ ?_ _) | (with_reducible apply Blk.set') | (with_reducible apply Blk.far') | (with_reducible refine RowIn.far' ?_ ?_ _) | (with_reducible refine Below.far' ?_ ?_ _) | rfl | omega | go_size)
    · repeat' (first | (with_reducible assumption) | (with_reducible exact Below.refl _ _) | (with_reducible refine Blk.drewN ?_ _) | (with_reducible refine RowIn.drewN ?_ _) | (with_reducible refine below_drewN ?_ _) | (with_reducible refine Blk.drew ?_) | (with_reducible refine RowIn.drew ?_) | (with_reducible refine Below.drew ?_) | (with_reducible refine Blk.new' ?_ ?_ <;> first | (with_reducible rfl) | (simp; done)) | (with_reducible refine Blk.alloc ?_ _) | (with_reducible refine RowIn.alloc ?_ _) | (with_reducible refine Below.alloc ?_ ?_ _) | (with_reducible apply Blk.set') | (with_reducible apply Blk.far') | (with_reducible refine RowIn.far' ?_ ?_ _) | (with_reducible refine Below.far' ?_ ?_ _) | rfl | omega | go_size)


end Go.Proofs.YtpohaikbbfochaaDoor

/-
  The sum of 32 bits, plainly: a number's bytes, the residue, changes.
-/
namespace Cad.Crc
open Go Cad Cad.Le
set_option linter.unusedVariables false

theorem leB_succ (x w : Nat) : leB x (w + 1) = ((x % 256 : Nat) : Int) :: leB (x / 256) w := by
  unfold leB
  rw [List.range_succ_eq_map, List.map_cons, List.map_map]
  congr 1
  · simp
  · apply List.map_congr_left
    intro i _
    show ((x / 2 ^ (8 * (i + 1)) % 256 : Nat) : Int) = ((x / 256 / 2 ^ (8 * i) % 256 : Nat) : Int)
    rw [Nat.div_div_eq_div_mul, show 8 * (i + 1) = 8 + 8 * i by omega, Nat.pow_add]
theorem steps_add (a b c : Nat) : steps (a + b) c = steps b (steps a c) := by
  induction a generalizing c with
  | zero => rw [Nat.zero_add]; rfl
  | succ a ih => rw [show a + 1 + b = (a + b) + 1 by omega]; exact ih (step c)
theorem byte_high (s x : Nat) : byte s (x % 256) ^^^ x / 256 = steps 8 (s ^^^ x) := by
  unfold byte
  conv => rhs; rw [split8 x, Nat.xor_comm (2 ^ 8 * (x / 256)), ← Nat.xor_assoc, steps_xor, steps_shift]
/-- A number's bytes. -/
theorem bytes_leB (w : Nat) : ∀ (s x : Nat), x < 2 ^ (8 * w) → bytes s (leB x w) = steps (8 * w) (s ^^^ x) := by
  induction w with
  | zero => intro s x h; simp at h; subst h; simp [leB, bytes, steps]
  | succ w ih =>
    intro s x h
    rw [leB_succ]
    show bytes (byte s ((x % 256 : Nat) : Int).toNat) (leB (x / 256) w) = _
    rw [Int.toNat_natCast, ih _ _ (by rw [show 8 * (w + 1) = 8 + 8 * w by omega, Nat.pow_add] at h; rw [Nat.div_lt_iff_lt_mul (by decide)]; rwa [Nat.mul_comm]), byte_high, show 8 * (w + 1) = 8 + 8 * w by omega, steps_add]
theorem not_xor {r : Nat} (h : r < 4294967296) : r ^^^ (4294967295 - r) = 4294967295 := by
  rw [← Go.Proofs.YtpohaikbbfochaaDoor.not_nat r h, Nat.xor_comm 4294967295 r, ← Nat.xor_assoc, Nat.xor_self, Nat.zero_xor]
/-- A block's own sum. -/
theorem sum_sealed {l : List Int} (hl : Within 0 255 l) : sum (l ++ leB (sum l) 4) = 558161692 := by
  have h := bytes_lt (s := 4294967295) (by decide) hl
  have e : sum l = 4294967295 - bytes 4294967295 l := rfl
  have hx : sum l < 2 ^ (8 * 4) := sum_lt hl
  show 4294967295 - bytes 4294967295 (l ++ leB (sum l) 4) = _
  rw [bytes_append, bytes_leB 4 _ _ hx, e, not_xor h]
  decide +kernel
theorem leB4 (x : Nat) (hx : x < 4294967296) : ∃ a b c d : Nat, leB x 4 = [(a : Int), (b : Int), (c : Int), (d : Int)] ∧ a < 256 ∧ b < 256 ∧ c < 256 ∧ d < 256 ∧ x = a + 256 * b + 65536 * c + 16777216 * d := by
  refine ⟨x % 256, x / 256 % 256, x / 256 / 256 % 256, x / 256 / 256 / 256 % 256, ?_, by omega, by omega, by omega, by omega, by omega⟩
  rw [leB_succ, leB_succ, leB_succ, leB_succ]; rfl

end Cad.Crc

/-
  Blocks, plainly: what unpacking returns; the sum of zeros.
-/
namespace Go.Proofs.YtpohaikbbfochaaDoor
open Go.RowKit Cad Cad.Bit Cad.Crc Cad.Le
set_option linter.unusedVariables false

theorem unp_short {l : List Int} (h : l.length < 4) : unpR l = ([], 24) := by unfold unpR; rw [if_pos h]
theorem unp_many {l : List Int} (h : 41254 < l.length) : unpR l = ([], 4) := by unfold unpR; rw [if_neg (by omega), if_pos h]
theorem unp_good {l : List Int} {m : Nat} (hl : l.length = m + 4) (hm : m ≤ 41250) (h : leB (Crc.sum (l.take m)) 4 = l.drop m) : unpR l = (unpack (l.take m), 0) := by
  unfold unpR; rw [if_neg (by omega), if_neg (by omega), hl, Nat.add_sub_cancel, if_pos h]
theorem unp_sum {l : List Int} {m : Nat} (hl : l.length = m + 4) (hm : m ≤ 41250) (h : ¬ leB (Crc.sum (l.take m)) 4 = l.drop m) : unpR l = ([], 22) := by
  unfold unpR; rw [if_neg (by omega), if_neg (by omega), hl, Nat.add_sub_cancel, if_neg h]
theorem unp_sealed' {l : List Int} (h : l.length ≤ 41250) : unpR (sealed l) = (unpack l, 0) := by
  have e1 : (sealed l).take l.length = l := by unfold sealed; exact List.take_left' rfl
  have e2 : (sealed l).drop l.length = leB (Crc.sum l) 4 := by unfold sealed; exact List.drop_left' rfl
  rw [unp_good (m := l.length) (sealed_len l) h (by rw [e1, e2]), e1]
theorem unp_sealed {bs : List Bool} (h : bs.length ≤ 330000) : unpR (sealed (pack bs)) = (unpack (pack bs), 0) :=
  unp_sealed' (by rw [pack_len]; unfold bytesFor; omega)
theorem unp_c (A : Option Addr) (n c : Nat) (l : List Int) (w : World) (r : List Bool) (er : Int) (ha : Row .u8 w A n l) (hl : Within 0 255 l) (hc : n ≤ c ∧ c ≤ 9223372036854775807) (he : unpR l = (r, er)) :
    Calls Tryd.prog 24 #[.slice A n c] w (RetB w r er) := by
  have h := unp_ret A n c l w ha hl hc
  rw [he] at h; exact h
theorem of_c (A : Option Addr) (n c : Nat) (l : List Int) (w : World) (ha : Row .u8 w A n l) (hl : Within 0 255 l) (hc : n ≤ c ∧ c ≤ 9223372036854775807) (hn : n ≤ 41250) :
    Calls Tryd.prog 56 #[.slice A n c] w (RetB w (unpack l) 0) := by
  have h := bof_ret A n c l w ha hl hc
  have e : ofR l = (unpack l, 0) := by unfold ofR; rw [if_neg (by rw [ha.len]; omega)]
  rw [e] at h; exact h
theorem bsize_c (n m : Nat) (w : World) (h : n ≤ 330000) (hm : (n + 7) / 8 + 4 = m) :
    Calls Tryd.prog 52 #[.int .i64 (n : Int)] w fun e w' => e = .returned (.tuple #[.int .i64 (m : Int), .int .i64 0]) ∧ w = w' := by
  subst hm; exact bsize_ok n w h
theorem bpack_three (A : Option Addr) (c : Nat) (w : World) (ha : Row .u8 w A 1 [0]) (hc : 1 ≤ c ∧ c ≤ 9223372036854775807) : Calls Tryd.prog 21 #[.agg #[.slice A 1 c, .int .i64 3]] w (RetY w [0, 141, 239, 2, 210] 0) := by
  have h := bpack_ok A 1 c (List.replicate 3 false) w (by exact ha) hc (by decide)
  have e : sealed (pack (List.replicate 3 false)) = [0, 141, 239, 2, 210] := by decide +kernel
  rw [e] at h; exact h
theorem not_valid1 : ¬ Valid [] 1 := by decide
theorem zeros_within (n : Nat) : Within 0 255 (zeros n) := by
  intro x hx
  unfold zeros at hx
  rw [List.mem_replicate] at hx
  omega
theorem row_made {k : IntKind} {w : World} {n : Nat} {e : TypeId} {g : Nat} (hg : g = w.heap.size) : Row k (w.alloc (.cells (zeroRow k n) e)) (some ⟨g, 0, none⟩) n (zeros n) := by
  subst hg
  have h := row_new k w (zeros n) e
  rw [zeros_len] at h
  exact h
theorem row_new' {k : IntKind} {w : World} {xs : List Int} {t : TypeId} {g : Nat} (hg : g = w.heap.size) : Row k (w.alloc (.cells (xs.map (Value.int k)).toArray t)) (some ⟨g, 0, none⟩) xs.length xs := by
  subst hg; exact row_new k w xs t

end Go.Proofs.YtpohaikbbfochaaDoor

/-
  A changed block is refused, plainly: bits changed within 32 that stand side by side.
-/
namespace Go.Proofs.YtpohaikbbfochaaDoor
open Go.RowKit Cad Cad.Bit Cad.Crc Cad.Le
set_option linter.unusedVariables false

theorem step_inj0 {x : Nat} (hx : x < 4294967296) (h : Crc.step x = 0) : x = 0 := by
  unfold Crc.step at h
  rcases Nat.mod_two_eq_zero_or_one x with e | e
  · rw [e, Nat.mul_zero, Nat.xor_zero] at h; omega
  · exfalso
    rw [e, Nat.mul_one] at h
    have h2 : x / 2 = 3988292384 := by
      have := congrArg (· ^^^ 3988292384) h
      simp only [Nat.zero_xor] at this
      rwa [Nat.xor_assoc, Nat.xor_self, Nat.xor_zero] at this
    omega
theorem steps_inj0 (n : Nat) {x : Nat} (hx : x < 4294967296) (h : steps n x = 0) : x = 0 := by
  induction n generalizing x with
  | zero => exact h
  | succ n ih => exact step_inj0 hx (ih (step_lt hx) h)
theorem steps_zero (n : Nat) : steps n 0 = 0 := by
  induction n with
  | zero => rfl
  | succ n ih => show steps n (Crc.step 0) = 0; rw [step_zero]; exact ih

theorem bytes_xor : ∀ (r : List Int) (x y : Nat), Crc.bytes (x ^^^ y) r = Crc.bytes x r ^^^ steps (8 * r.length) y := by
  intro r
  induction r with
  | nil => intro x y; rfl
  | cons b r ih =>
    intro x y
    show Crc.bytes (Crc.byte (x ^^^ y) b.toNat) r = Crc.bytes (Crc.byte x b.toNat) r ^^^ _
    have e : Crc.byte (x ^^^ y) b.toNat = Crc.byte x b.toNat ^^^ steps 8 y := by
      unfold Crc.byte
      rw [Nat.xor_assoc, Nat.xor_comm y, ← Nat.xor_assoc, steps_xor]
    rw [e, ih, List.length_cons, show 8 * (r.length + 1) = 8 + 8 * r.length by omega, steps_add]
/-- A bit of one byte is turned. -/
theorem byte_flip (s b j : Nat) (hj : j < 8) : Crc.byte s (b ^^^ 2 ^ j) = Crc.byte s b ^^^ steps (8 - j) 1 := by
  unfold Crc.byte
  rw [← Nat.xor_assoc, steps_xor]
  congr 1
  have h := steps_shift j 1
  rw [Nat.mul_one] at h
  rw [show (8 : Nat) = j + (8 - j) by omega, steps_add, h, show j + (8 - j) - j = 8 - j by omega]

/-- The q-th bit of some bytes is turned. -/
def flip (l : List Int) (q : Nat) : List Int := l.set (q / 8) (((nth l (q / 8)).toNat ^^^ 2 ^ (q % 8) : Nat) : Int)
theorem flip_len (l : List Int) (q : Nat) : (flip l q).length = l.length := by unfold flip; rw [List.length_set]
theorem flip_byte {b : Nat} (q : Nat) (hb : b < 256) : b ^^^ 2 ^ (q % 8) < 256 :=
  xor_lt (n := 8) hb (Nat.pow_lt_pow_right (by omega) (by omega))
theorem flip_within {l : List Int} {q : Nat} (hl : Within 0 255 l) (hq : q < 8 * l.length) : Within 0 255 (flip l q) := by
  intro x hx
  unfold flip at hx
  rcases List.mem_or_eq_of_mem_set hx with h | rfl
  · exact hl x h
  · have h := hl.nth (by decide) (by decide) (q / 8)
    have := flip_byte (b := (nth l (q / 8)).toNat) q (by omega)
    omega
theorem flip_bytes {l : List Int} {q : Nat} (s : Nat) (hq : q < 8 * l.length) : Crc.bytes s (flip l q) = Crc.bytes s l ^^^ steps (8 * l.length - q) 1 := by
  have hk : q / 8 < l.length := by omega
  have e1 : flip l q = l.take (q / 8) ++ (((nth l (q / 8)).toNat ^^^ 2 ^ (q % 8) : Nat) : Int) :: l.drop (q / 8 + 1) := by
    unfold flip
    rw [List.set_eq_take_append_cons_drop, if_pos hk]
  have e2 : l = l.take (q / 8) ++ nth l (q / 8) :: l.drop (q / 8 + 1) := by
    conv => lhs; rw [← List.take_append_drop (q / 8) l, List.drop_eq_getElem_cons hk, ← nth_eq hk]
  have e3 : ∀ x r, Crc.bytes s (l.take (q / 8) ++ x :: r) = Crc.bytes (Crc.byte (Crc.bytes s (l.take (q / 8))) x.toNat) r := fun x r => by rw [bytes_append]; rfl
  have e4 := congrArg (Crc.bytes s) e2
  rw [e3] at e4
  rw [e1, e3, Int.toNat_natCast, byte_flip _ _ _ (Nat.mod_lt _ (by decide)), bytes_xor, ← e4, ← steps_add, List.length_drop]
  congr 2
  omega

/-- The mask's first bits. -/
theorem mask_next {c i : Nat} : c % 2 ^ (i + 1) = if c / 2 ^ i % 2 = 1 then c % 2 ^ i ^^^ 2 ^ i else c % 2 ^ i := by
  have hp := Nat.two_pow_pos i
  have h0 : c % 2 ^ (i + 1) = c % 2 ^ i + 2 ^ i * (c / 2 ^ i % 2) := by
    rw [Nat.pow_succ, Nat.mod_mul]
  split
  · rename_i h
    rw [h0, h, Nat.mul_one]
    have hlt : c % 2 ^ i < 2 ^ i := Nat.mod_lt _ hp
    have e := Nat.two_pow_add_eq_or_of_lt hlt 1
    apply Nat.eq_of_testBit_eq
    intro j
    have e2 := Nat.testBit_two_pow_mul (a := 1) (i := i) (j := j)
    rw [Nat.mul_one] at e e2
    rw [Nat.add_comm, e, Nat.testBit_or, Nat.testBit_xor]
    by_cases hj : j < i
    · rw [Nat.testBit_two_pow]
      have : ¬ i = j := by omega
      simp [this]
    · have : (c % 2 ^ i).testBit j = false := Nat.testBit_lt_two_pow (Nat.lt_of_lt_of_le hlt (Nat.pow_le_pow_right (by omega) (by omega)))
      rw [this]; simp
  · rename_i h
    have : c / 2 ^ i % 2 = 0 := by omega
    rw [h0, this, Nat.mul_zero, Nat.add_zero]

/-- What stands behind i bits: some bytes of the same length; their register. -/
structure Burst (l l' : List Int) (at_ c i : Nat) : Prop where
  len : l'.length = l.length
  within : Within 0 255 l'
  reg : Crc.bytes 4294967295 l' = Crc.bytes 4294967295 l ^^^ steps (8 * l.length - at_) (c % 2 ^ i)
  same : c % 2 ^ i = 0 → l' = l
theorem Burst.zero {l : List Int} (hl : Within 0 255 l) (at_ c : Nat) : Burst l l at_ c 0 :=
  ⟨rfl, hl, by rw [Nat.pow_zero, Nat.mod_one, steps_zero, Nat.xor_zero], fun _ => rfl⟩
theorem Burst.yes {l l' : List Int} {at_ c i : Nat} (h : Burst l l' at_ c i) (hq : at_ + i < 8 * l.length) (hc : c / 2 ^ i % 2 = 1) : Burst l (flip l' (at_ + i)) at_ c (i + 1) ∧ c % 2 ^ (i + 1) ≠ 0 := by
  have hn : c % 2 ^ (i + 1) ≠ 0 := by
    intro h0
    have h1 : c % 2 ^ (i + 1) = c % 2 ^ i + 2 ^ i * (c / 2 ^ i % 2) := by rw [Nat.pow_succ, Nat.mod_mul]
    have := Nat.two_pow_pos i
    rw [hc] at h1; omega
  refine ⟨⟨by rw [flip_len, h.len], flip_within h.within (by rw [h.len]; exact hq), ?_, fun h0 => absurd h0 hn⟩, hn⟩
  rw [flip_bytes _ (by rw [h.len]; exact hq), h.reg, h.len, Nat.xor_assoc]
  congr 1
  rw [mask_next, if_pos hc, steps_xor]
  congr 1
  have hs := steps_shift i 1
  rw [Nat.mul_one] at hs
  rw [show 8 * l.length - at_ = i + (8 * l.length - (at_ + i)) by omega, steps_add, hs]
theorem Burst.no {l l' : List Int} {at_ c i : Nat} (h : Burst l l' at_ c i) (hc : ¬ c / 2 ^ i % 2 = 1) : Burst l l' at_ c (i + 1) ∧ c % 2 ^ (i + 1) = c % 2 ^ i := by
  have e : c % 2 ^ (i + 1) = c % 2 ^ i := by rw [mask_next, if_neg hc]
  exact ⟨⟨h.len, h.within, by rw [e]; exact h.reg, by rw [e]; exact h.same⟩, e⟩
theorem accepted_reg {l : List Int} {m : Nat} (hw : Within 0 255 l) (hl : l.length = m + 4) (h : leB (Crc.sum (l.take m)) 4 = l.drop m) : Crc.bytes 4294967295 l = 4294967295 - 558161692 := by
  have e : l.take m ++ leB (Crc.sum (l.take m)) 4 = l := by rw [h, List.take_append_drop]
  have h1 := sum_sealed (hw.take m)
  rw [e] at h1
  have h2 := bytes_lt (s := 4294967295) (by decide) hw
  unfold Crc.sum at h1
  omega
theorem burst_end {b l' : List Int} {at_ c i : Nat} (hb : Within 0 255 b) (hlen : b.length ≤ 41250) (h : Burst (sealed b) l' at_ c i) (hi : i ≤ 32) :
    (c % 2 ^ i = 0 → unpR l' = (unpack b, 0)) ∧ (c % 2 ^ i ≠ 0 → unpR l' = ([], 22)) := by
  refine ⟨fun h0 => by rw [h.same h0, unp_sealed' hlen], fun h0 => ?_⟩
  have hl' : l'.length = b.length + 4 := by rw [h.len, sealed_len]
  refine unp_sum (m := b.length) hl' hlen fun hacc => h0 ?_
  have r1 := accepted_reg h.within hl' hacc
  have e1 : (sealed b).take b.length = b := by unfold sealed; exact List.take_left' rfl
  have e2 : (sealed b).drop b.length = leB (Crc.sum b) 4 := by unfold sealed; exact List.drop_left' rfl
  have r2 := accepted_reg (m := b.length) (sealed_within hb) (sealed_len b) (by rw [e1, e2])
  have r := h.reg
  rw [r1, r2] at r
  have hx : c % 2 ^ i < 2 ^ 32 := Nat.lt_of_lt_of_le (Nat.mod_lt _ (Nat.two_pow_pos i)) (Nat.pow_le_pow_right (n := 2) (by omega) hi)
  refine steps_inj0 (8 * (sealed b).length - at_) hx ?_
  have := congrArg ((4294967295 - 558161692) ^^^ ·) r
  simp only [← Nat.xor_assoc, Nat.xor_self, Nat.zero_xor] at this
  exact this.symm

end Go.Proofs.YtpohaikbbfochaaDoor

/-
  Plain laws for TopCodes: what is unpacked, decoded and fed; a byte with a bit flipped.
-/
namespace Go.Proofs.YtpohaikbbfochaaDoor
open Go.RowKit Cad Cad.Bit Cad.Code Cad.Le
set_option linter.unusedVariables false

theorem decR_code {xs : List Int} {n : Nat} (hx : Within 0 4294967295 xs) (hn : n ≤ 4000) : decR (unpack (pack (codeP Cad.Code.start xs n))) (n : Int) = (pre xs n, ((lenP Cad.Code.start xs n : Nat) : Int), 0) := by
  obtain ⟨t, ht, _, _⟩ := unpack_pack (codeP Cad.Code.start xs n)
  have h := readL_code (d := Cad.Code.start) (pre xs n) (pre_small hx n) t
  rw [pre_len] at h
  have h2 : readL n (codeP Cad.Code.start xs n ++ t) Cad.Code.start = .ok (pre xs n) (codeP Cad.Code.start xs n).length (afterL Cad.Code.start (pre xs n)) := h
  unfold decR
  rw [if_neg (by omega), if_neg (by omega), Int.toNat_natCast, ht, h2]
  rfl
theorem unp_flip64 {b : List Int} (hb : Within 0 255 b) (hl : b.length ≤ 41250) {i : Nat} (hi : i < (sealed b).length) : unpR ((sealed b).set i (((nth (sealed b) i).toNat ^^^ 64 : Nat) : Int)) = ([], 22) := by
  have hw := sealed_within hb
  have h0 := Burst.zero hw (8 * i + 6) 1
  obtain ⟨h1, h2⟩ := h0.yes (by omega) (by decide)
  have h3 := (burst_end hb hl h1 (by omega)).2 h2
  unfold flip at h3
  rw [Nat.add_zero, show (8 * i + 6) / 8 = i by omega, show (8 * i + 6) % 8 = 6 by omega] at h3
  exact h3
theorem set_within {l : List Int} {i v : Nat} (hl : Within 0 255 l) (hv : v < 256) : Within 0 255 (l.set i ((v : Nat) : Int)) := by
  intro x hx
  rcases List.mem_or_eq_of_mem_set hx with h | h
  · exact hl x h
  · subst h; omega
theorem xor64_lt {x : Nat} (h : x < 256) : x ^^^ 64 < 256 := Nat.xor_lt_two_pow (n := 8) h (by decide)
theorem feed_byte {n : Nat} {d dF d' : Dual} {xs : List Int} {vsF us : List Nat} {nF n' i : Nat} {rF r : List Bool} (hd : d.Ok) (hfull : feed n d (unpack xs) = .ok vsF nF dF rF) (hi : i < xs.length) (h : feed n d (unpack (xs.take i)) = .ok us n' d' r) :
    ∃ vs2 n2 d2 r2, feed n' d' (r ++ unpack [nth xs i]) = .ok vs2 n2 d2 r2 ∧ feed n d (unpack (xs.take (i + 1))) = .ok (us ++ vs2) n2 d2 r2 := by
  have hp := feed_piece (k := 1) hd (l := []) (xs := xs) (i := i) (by rw [List.nil_append]; exact h)
  have hone : (xs.drop i).take 1 = [nth xs i] := by
    rw [List.drop_eq_getElem_cons hi, List.take_succ_cons, List.take_zero]
    unfold nth
    rw [List.getD_eq_getElem?_getD, List.getElem?_eq_getElem hi]; rfl
  rw [hone, List.nil_append] at hp
  cases hf : feed n' d' (r ++ unpack [nth xs i]) with
  | err e =>
    exfalso
    rw [hf] at hp
    have he := feed_early (l := []) (xs := xs) (i := i + 1) hd (by rw [List.nil_append]; exact hp)
    rw [List.nil_append, hfull] at he
    cases he
  | ok vs2 n2 d2 r2 =>
    rw [hf] at hp
    exact ⟨vs2, n2, d2, r2, rfl, hp⟩
theorem feed_pack {xs : List Int} {n : Nat} (hx : Within 0 4294967295 xs) : ∃ t, feed n Cad.Code.start (unpack (pack (codeP Cad.Code.start xs n))) = .ok (pre xs n) 0 (stP Cad.Code.start xs n) t := by
  obtain ⟨t, ht, _, h8⟩ := unpack_pack (codeP Cad.Code.start xs n)
  refine ⟨t, ?_⟩
  have h := feed_code Cad.Code.start (pre xs n) (pre_small hx n) t
  rw [pre_len, if_neg (by omega)] at h
  rw [ht]
  exact h
theorem nth_sealed {b : List Int} {i : Nat} (h : i < b.length) : nth (sealed b) i = nth b i := by
  unfold nth sealed
  rw [List.getD_eq_getElem?_getD, List.getD_eq_getElem?_getD, List.getElem?_append_left h]

end Go.Proofs.YtpohaikbbfochaaDoor

/-
  How many numbers fit some bytes, plainly.
-/
namespace Cad.Code
open Go Cad Cad.Bit
set_option linter.unusedVariables false

/-- How many bytes the block of some bits has. -/
def sizeB (n : Nat) : Nat := (n + 7) / 8 + 4
theorem sizeB_mono {a b : Nat} (h : a ≤ b) : sizeB a ≤ sizeB b := by unfold sizeB; omega
/-- From i numbers on, k more at most: how many fit. -/
def fitsAt (d : Dual) (xs : List Int) (bytes : Nat) : Nat → Nat → Nat
  | i, 0 => i
  | i, k + 1 => if bytes < sizeB (lenP d xs (i + 1)) then i else fitsAt d xs bytes (i + 1) k
theorem fitsAt_zero (d : Dual) (xs : List Int) (bytes i : Nat) : fitsAt d xs bytes i 0 = i := by rw [fitsAt]
theorem fitsAt_stop {d : Dual} {xs : List Int} {bytes i k : Nat} (h : bytes < sizeB (lenP d xs (i + 1))) : fitsAt d xs bytes i (k + 1) = i := by rw [fitsAt, if_pos h]
theorem fitsAt_go {d : Dual} {xs : List Int} {bytes i k : Nat} (h : ¬ bytes < sizeB (lenP d xs (i + 1))) : fitsAt d xs bytes i (k + 1) = fitsAt d xs bytes (i + 1) k := by rw [fitsAt, if_neg h]
theorem fitsAt_le (d : Dual) (xs : List Int) (bytes k : Nat) : ∀ i, i ≤ fitsAt d xs bytes i k ∧ fitsAt d xs bytes i k ≤ i + k := by
  induction k with
  | zero => intro i; rw [fitsAt]; omega
  | succ k ih =>
    intro i
    rw [fitsAt]
    split
    · omega
    · have := ih (i + 1); omega
/-- As many as fit. -/
theorem fitsAt_fit (d : Dual) (xs : List Int) (bytes k : Nat) : ∀ i, sizeB (lenP d xs i) ≤ bytes → sizeB (lenP d xs (fitsAt d xs bytes i k)) ≤ bytes := by
  induction k with
  | zero => intro i h; rw [fitsAt]; exact h
  | succ k ih =>
    intro i h
    rw [fitsAt]
    split
    · exact h
    · exact ih (i + 1) (by omega)
/-- One more does not fit. -/
theorem fitsAt_over (d : Dual) (xs : List Int) (bytes k : Nat) : ∀ i, fitsAt d xs bytes i k < i + k → bytes < sizeB (lenP d xs (fitsAt d xs bytes i k + 1)) := by
  induction k with
  | zero => intro i h; rw [fitsAt] at h; omega
  | succ k ih =>
    intro i h
    rw [fitsAt] at h ⊢
    split
    · assumption
    · rename_i h2; rw [if_neg h2] at h; exact ih (i + 1) (by omega)
/-- More bytes hold no fewer. -/
theorem fitsAt_mono (d : Dual) (xs : List Int) {b c : Nat} (hbc : b ≤ c) (k : Nat) : ∀ i, fitsAt d xs b i k ≤ fitsAt d xs c i k := by
  induction k with
  | zero => intro i; rw [fitsAt, fitsAt]; exact Nat.le_refl _
  | succ k ih =>
    intro i
    rw [fitsAt, fitsAt]
    split
    · split
      · exact Nat.le_refl _
      · have := (fitsAt_le d xs c k (i + 1)).1; omega
    · rw [if_neg (by omega)]; exact ih (i + 1)
theorem lenP_row (d : Dual) (xs : List Int) {n j : Nat} (h : j ≤ n) : lenP d (xs.take n) j = lenP d xs j := by
  unfold lenP codeP
  rw [show pre (xs.take n) j = pre xs j by
    unfold pre
    apply List.map_congr_left
    intro i hi
    rw [nth_take (by have := List.mem_range.1 hi; omega)]]
theorem stP_row' (d : Dual) (xs : List Int) {n j : Nat} (h : j ≤ n) : stP d (xs.take n) j = stP d xs j := by
  unfold stP
  rw [show pre (xs.take n) j = pre xs j by
    unfold pre
    apply List.map_congr_left
    intro i hi
    rw [nth_take (by have := List.mem_range.1 hi; omega)]]
theorem lens_row (d : Dual) (xs : List Int) {n j : Nat} (h : j ≤ n) : lens d (xs.take n) j = lens d xs j := by
  unfold lens
  apply List.map_congr_left
  intro i hi
  have hi := List.mem_range.1 hi
  unfold lenAt
  rw [stP_row' d xs (by omega), nth_take (by omega)]
theorem nth_lens (d : Dual) (xs : List Int) {n j : Nat} (h : j < n) : nth (lens d xs n) j = ((lenAt d xs j : Nat) : Int) := by unfold lens; exact nth_map_range h
theorem lenP_step (d : Dual) (xs : List Int) (j : Nat) : lenP d xs (j + 1) = lenP d xs j + lenAt d xs j := lenP_next d xs j
theorem lens_within {d : Dual} (hd : d.Ok) {xs : List Int} (hx : Within 0 4294967295 xs) (n : Nat) : Within 1 81 (lens d xs n) := by
  intro x hx'
  unfold lens at hx'
  obtain ⟨i, _, rfl⟩ := List.mem_map.1 hx'
  have := lenAt_le hd hx i
  omega

end Cad.Code

/-
  Contracts of tally: the closures and walk.
-/
namespace Go.Proofs.YtpohaikbbfochaaDoor
open Go.RowKit Cad Cad.Bit Cad.Code
set_option linter.unusedVariables false
set_option linter.unusedSimpArgs false

theorem i64E : Elem Tryd.prog 54 3 .i64 8 := ⟨Tryd.underlying54, Tryd.underlying3, by kernel_rfl, by decide⟩

set_option maxHeartbeats 400000 in
theorem each1_ok (base go j d x : Nat) (B : Option Addr) (ys : List Int) (w : World) (hlb : Blk w go 54 [.slice B j d]) (hown : Own w base 3 .i64 B j d ys) (hbase : base ≤ w.heap.size) (hj : j ≤ 8000) :
    Calls Tryd.prog 54 #[.int .i64 (x : Int), .pointer (some ⟨go, 0, none⟩)] w fun e w' => ∃ B' d', e = .returned (.bool true) ∧ Blk w' go 54 [.slice B' (j + 1) d'] ∧ Own w' base 3 .i64 B' (j + 1) d' (ys ++ [(x : Int)]) ∧ Frm (fun k => k = go ∨ blockOf B = some k) w w' := by
  have kl := hlb.cell; have fl := hlb.frozen; have ll := hlb.lt
  go_enter Tryd.func54, Tryd.ntmps54
  go_wp2_with (at_builtin; refine wpList_app _ i64E rfl _ _ rfl base _ _ _ _ rfl (by exact hown.alloc _) _ _ _ [(x : Int)] rfl (by exact row_one' rfl) (by omega) (by simp; omega) ?_)
  intro B2 d2 w8 own8 hg8 hat8
  have hne : blockOf B ≠ some go := hown.ne_blk hlb (by decide)
  have zl_8 : Blk w8 go 54 [.slice B j d] := by
    refine Blk.grown ?_ hg8 (fun e => hne e.symm)
    repeat' (first | (with_reducible first | assumption | exact Below.refl _ _ | refine Blk.drewN ?_ _ | refine RowIn.drewN ?_ _ | refine below_drewN ?_ _ | refine Blk.drew ?_ | refine RowIn.drew ?_ | refine Below.drew ?_) | (with_reducible refine Blk.new' ?_ ?_ <;> first | (with_reducible rfl) | (simp; done)) | (with_reducible first | refine Blk.alloc ?_ _ | refine RowIn.alloc ?_ _ | refine Below.alloc ?_ ?_ _ | apply Blk.set' | apply Blk.far' | refine RowIn.far' ?_ ?_ _ | refine Below.far' ?_ ?_ _) | (exact (Eq.refl _ : (_ : List Value) = _)) | omega | go_size)
  have fr8 := ((Frm.refl (fun k => k = go ∨ blockOf B = some k) w).alloc (.cells #[.int .i64 (x : Int)] 3)).grown hg8 (fun k e hk => Or.inr e)
  have hne8 : blockOf B2 ≠ some go := own8.ne_blk zl_8 (by decide)
  have kl_8 := zl_8.cell; have fl_8 := zl_8.frozen; have ll_8 := zl_8.lt
  clear hg8 hat8
  go_wp2
  go_ret
  refine ⟨B2, d2, rfl, ?_, ?_, ?_⟩
  · exact Blk.set' zl_8 rfl
  · exact own8.far' hne8 _
  · exact fr8.setCell (p := ⟨go, _, none⟩) (fun _ => Or.inl rfl) _

set_option maxHeartbeats 400000 in
theorem length1_ok (go s x : Nat) (w : World) (hs : Blk w go 3 [.int .i64 (s : Int)]) (hsl : s ≤ 1000000) (hx : x ≤ 1000) :
    Calls Tryd.prog 73 #[.int .i64 (x : Int), .pointer (some ⟨go, 0, none⟩)] w fun e w' => e = .returned (.bool true) ∧ Blk w' go 3 [.int .i64 ((s + x : Nat) : Int)] ∧ Frm (fun k => k = go) w w' := by
  have kl := hs.cell; have fl := hs.frozen; have ll := hs.lt
  go_enter Tryd.func73, Tryd.ntmps73
  go_wp2
  go_ret
  refine ⟨rfl, ?_, ?_⟩
  · exact Blk.set' hs (by simp)
  · exact (Frm.refl (fun k => k = go) w).setCell (p := ⟨go, _, none⟩) (fun _ => rfl) _


set_option maxRecDepth 100000 in
set_option maxHeartbeats 2000000 in
theorem walk_each (k0 : Value) (A : Option Addr) (n c : Nat) (xs : List Int) (w : World) (R : Nat → World → Prop) (Z : World → Prop) (hx : Within 0 4294967295 xs) (hn : n ≤ 4000) (hR : R 0 w)
    (hB : ∀ j w w', R j w → Below w.heap.size w w' → R j w') (hD : ∀ j w' g l i v, R j w' → w.heap.size ≤ g → Blk w' g 62 l → R j (w'.setCell ⟨g, i, none⟩ v)) (hL : ∀ j w, R j w → Row .u32 w A n xs) (hz : ∀ w, R n w → Z w)
    (hC : ∀ j w, j < n → R j w → Calls Tryd.prog 54 #[.int .i64 (lenAt Cad.Code.start xs j : Nat), k0] w fun e w' => (∀ g l, Blk w g 62 l → Blk w' g 62 l) ∧ ((e = .returned (.bool true) ∧ R (j + 1) w') ∨ (e = .returned (.bool false) ∧ Z w'))) :
    Calls Tryd.prog 53 #[.func (.func 54) #[] #[k0], .slice A n c] w fun e w' => e = .returned (.int .i64 0) ∧ Z w' := by
  have ht0 : decide ((4000 : Int) < (n : Int)) = false := decide_eq_false (by omega)
  have HB := Lib.hid hB; have HD := Lib.hid hD; have HL := Lib.hid hL; have HZ := Lib.hid hz; have HC := Lib.hid hC
  clear hB hD hL hz hC
  go_enter Tryd.func53, Tryd.ntmps53
  go_wp2_with fail
  refine (dstart_ok _).mono ?_
  rintro e w1 ⟨rfl, b1⟩
  have s1 := b1.size
  have R1 := HB.out _ _ _ hR b1
  clear hR b1
  go_wp2_with fail
  go_loopg [16] n (fun k v wr => ∃ (j p0 p1 q0 q1 : Nat), j + k = n ∧ v = .int .i64 (j : Nat) ∧ Hid ((⟨p0, p1, q0, q1⟩ : Dual) = stP Cad.Code.start xs j) ∧ Blk wr (w1.heap.size) 62 [.int .i64 (p0 : Int), .int .i64 (p1 : Int), .int .u64 (q0 : Int), .int .u64 (q1 : Int)] ∧ Hid (R j wr))
  case atStart =>
    exact ⟨0, 10, 10, 16384, 16384, by omega, rfl, Lib.hid rfl, by repeat' (first | (with_reducible first | assumption | exact Below.refl _ _ | refine Blk.drewN ?_ _ | refine RowIn.drewN ?_ _ | refine below_drewN ?_ _ | refine Blk.drew ?_ | refine RowIn.drew ?_ | refine Below.drew ?_) | (with_reducible refine Blk.new' ?_ ?_ <;> first | (with_reducible rfl) | (simp; done)) | (with_reducible first | refine Blk.alloc ?_ _ | refine RowIn.alloc ?_ _ | refine Below.alloc ?_ ?_ _ | apply Blk.set' | apply Blk.far' | refine RowIn.far' ?_ ?_ _ | refine Below.far' ?_ ?_ _) | (exact (Eq.refl _ : (_ : List Value) = _)) | omega | go_size), Lib.hid (HB.out _ _ _ R1 (by repeat' (first | exact Below.refl _ _ | exact (Below.refl _ _).alloc (Nat.le_refl _) _ | refine Below.drew ?_)))⟩
  case round =>
    obtain ⟨j, p0, p1, q0, q1, hj, rfl, HP, zd_5, HR⟩ := hrel
    have ha := HL.out _ _ HR.out
    have kd_5 := zd_5.cell; have fd_5 := zd_5.frozen; have ld_5 := zd_5.lt
    by_cases hlt : j < n
    · obtain ⟨bl, ol, rfl, hbl, hcell⟩ := ha.at (by omega)
      obtain ⟨v, hv⟩ : ∃ v, nth xs j = v := ⟨_, rfl⟩
      have hvb := hx.nth (by decide) (by decide) j
      rw [hv] at hvb
      have c0 : wr.cell? ⟨bl, ol + j, none⟩ = some (.int .u32 v) := by rw [hcell j hlt, hv]
      obtain ⟨v, rfl⟩ := Int.eq_ofNat_of_zero_le hvb.1
      have hv32 : v < 4294967296 := by omega
      have CL := Lib.hid c0
      have HV : Hid ((nth xs j).toNat = v) := Lib.hid (by rw [hv]; rfl)
      have hbL := hbl
      clear c0 hcell hv
      have hpo : Dual.Ok ⟨p0, p1, q0, q1⟩ := by rw [HP.out]; exact stP_ok start_ok hx j
      have HPO := Lib.hid hpo
      clear hpo
      obtain ⟨x, HX⟩ : ∃ x, Hid (lenD ⟨p0, p1, q0, q1⟩ v = x) := ⟨_, Lib.hid rfl⟩
      have HXA : Hid (lenAt Cad.Code.start xs j = x) := Lib.hid (by rw [← HX.out, HP.out, ← HV.out]; rfl)
      have hC := HC.out j
      rw [HXA.out] at hC
      have HCJ := Lib.hid hC
      clear hC
      have hlt1 : (j : Int) < (n : Int) := by omega
      have cl0 := CL.out
      go_wp2_with fail
      refine (dlen_c _ HPO.out hv32 HX.out).mono ?_
      rintro e w6 ⟨rfl, b6⟩
      have zd_6 := zd_5.after b6
      have R6 := HB.out _ _ _ HR.out b6
      have s6 := b6.size
      have kd_6 := zd_6.cell; have fd_6 := zd_6.frozen; have ld_6 := zd_6.lt
      clear zd_5 kd_5 fd_5 ld_5 HR cl0
      go_wp2_with fail
      refine (HCJ.out w6 hlt R6).mono ?_
      rintro e w7 ⟨hk7, hres⟩
      have zd_7 := hk7 _ _ zd_6
      have kd_7 := zd_7.cell; have fd_7 := zd_7.frozen; have ld_7 := zd_7.lt
      clear zd_6 kd_6 fd_6 ld_6 hk7
      rcases hres with ⟨rfl, R7⟩ | ⟨rfl, Z7⟩
      · obtain ⟨u0, u1, v0, v1, hu⟩ := Dual.four (learn ⟨p0, p1, q0, q1⟩ v)
        have HU := Lib.hid hu
        clear hu
        go_wp2_with fail
        refine (dlearn_c _ HPO.out hv32 HU.out).mono ?_
        rintro e w8 ⟨rfl, b8⟩
        have zd_8 := zd_7.after b8
        have R8 := HB.out _ _ _ R7 b8
        have kd_8 := zd_8.cell; have fd_8 := zd_8.frozen; have ld_8 := zd_8.lt
        clear zd_7 kd_7 fd_7 ld_7 R7
        have HP2 : Hid ((⟨u0, u1, v0, v1⟩ : Dual) = stP Cad.Code.start xs (j + 1)) := Lib.hid (by rw [stP_next, ← HP.out, HV.out, HU.out])
        go_wp2
        go_roundg (n - (j + 1))
        case measure => omega
        case rel =>
          refine ⟨j + 1, u0, u1, v0, v1, by omega, by go_num, HP2, ?_, Lib.hid ?_⟩
          · first | (with_reducible exact Blk.drew (Blk.alloc (Blk.set4 zd_8) _)) | (with_reducible exact Blk.alloc (Blk.drew (Blk.set4 zd_8)) _) | (with_reducible exact Blk.set4 (Blk.alloc (Blk.drew zd_8) _)) | (with_reducible exact Blk.alloc (Blk.set4 zd_8) _) | (with_reducible exact Blk.set4 (Blk.alloc zd_8 _)) | exact Blk.set4 zd_8
          · exact HD.out _ _ _ _ 3 _ (HD.out _ _ _ _ 2 _ (HD.out _ _ _ _ 1 _ (HD.out _ _ _ _ 0 _ R8 s1 zd_8) s1 (zd_8.set 0 _)) s1 ((zd_8.set 0 _).set 1 _)) s1 (((zd_8.set 0 _).set 1 _).set 2 _)
      · go_wp2
        go_ret
        exact ⟨rfl, Z7⟩
    · obtain rfl : j = n := by omega
      go_wp2
      go_ret
      exact ⟨rfl, HZ.out _ HR.out⟩


set_option maxRecDepth 100000 in
set_option maxHeartbeats 2000000 in
theorem walk_length (k0 : Value) (A : Option Addr) (n c : Nat) (xs : List Int) (w : World) (R : Nat → World → Prop) (Z : World → Prop) (hx : Within 0 4294967295 xs) (hn : n ≤ 4000) (hR : R 0 w)
    (hB : ∀ j w w', R j w → Below w.heap.size w w' → R j w') (hD : ∀ j w' g l i v, R j w' → w.heap.size ≤ g → Blk w' g 62 l → R j (w'.setCell ⟨g, i, none⟩ v)) (hL : ∀ j w, R j w → Row .u32 w A n xs) (hz : ∀ w, R n w → Z w)
    (hC : ∀ j w, j < n → R j w → Calls Tryd.prog 73 #[.int .i64 (lenAt Cad.Code.start xs j : Nat), k0] w fun e w' => (∀ g l, Blk w g 62 l → Blk w' g 62 l) ∧ ((e = .returned (.bool true) ∧ R (j + 1) w') ∨ (e = .returned (.bool false) ∧ Z w'))) :
    Calls Tryd.prog 53 #[.func (.func 73) #[] #[k0], .slice A n c] w fun e w' => e = .returned (.int .i64 0) ∧ Z w' := by
  have ht0 : decide ((4000 : Int) < (n : Int)) = false := decide_eq_false (by omega)
  have HB := Lib.hid hB; have HD := Lib.hid hD; have HL := Lib.hid hL; have HZ := Lib.hid hz; have HC := Lib.hid hC
  clear hB hD hL hz hC
  go_enter Tryd.func53, Tryd.ntmps53
  go_wp2_with fail
  refine (dstart_ok _).mono ?_
  rintro e w1 ⟨rfl, b1⟩
  have s1 := b1.size
  have R1 := HB.out _ _ _ hR b1
  clear hR b1
  go_wp2_with fail
  go_loopg [16] n (fun k v wr => ∃ (j p0 p1 q0 q1 : Nat), j + k = n ∧ v = .int .i64 (j : Nat) ∧ Hid ((⟨p0, p1, q0, q1⟩ : Dual) = stP Cad.Code.start xs j) ∧ Blk wr (w1.heap.size) 62 [.int .i64 (p0 : Int), .int .i64 (p1 : Int), .int .u64 (q0 : Int), .int .u64 (q1 : Int)] ∧ Hid (R j wr))
  case atStart =>
    exact ⟨0, 10, 10, 16384, 16384, by omega, rfl, Lib.hid rfl, by repeat' (first | (with_reducible first | assumption | exact Below.refl _ _ | refine Blk.drewN ?_ _ | refine RowIn.drewN ?_ _ | refine below_drewN ?_ _ | refine Blk.drew ?_ | refine RowIn.drew ?_ | refine Below.drew ?_) | (with_reducible refine Blk.new' ?_ ?_ <;> first | (with_reducible rfl) | (simp; done)) | (with_reducible first | refine Blk.alloc ?_ _ | refine RowIn.alloc ?_ _ | refine Below.alloc ?_ ?_ _ | apply Blk.set' | apply Blk.far' | refine RowIn.far' ?_ ?_ _ | refine Below.far' ?_ ?_ _) | (exact (Eq.refl _ : (_ : List Value) = _)) | omega | go_size), Lib.hid (HB.out _ _ _ R1 (by repeat' (first | exact Below.refl _ _ | exact (Below.refl _ _).alloc (Nat.le_refl _) _ | refine Below.drew ?_)))⟩
  case round =>
    obtain ⟨j, p0, p1, q0, q1, hj, rfl, HP, zd_5, HR⟩ := hrel
    have ha := HL.out _ _ HR.out
    have kd_5 := zd_5.cell; have fd_5 := zd_5.frozen; have ld_5 := zd_5.lt
    by_cases hlt : j < n
    · obtain ⟨bl, ol, rfl, hbl, hcell⟩ := ha.at (by omega)
      obtain ⟨v, hv⟩ : ∃ v, nth xs j = v := ⟨_, rfl⟩
      have hvb := hx.nth (by decide) (by decide) j
      rw [hv] at hvb
      have c0 : wr.cell? ⟨bl, ol + j, none⟩ = some (.int .u32 v) := by rw [hcell j hlt, hv]
      obtain ⟨v, rfl⟩ := Int.eq_ofNat_of_zero_le hvb.1
      have hv32 : v < 4294967296 := by omega
      have CL := Lib.hid c0
      have HV : Hid ((nth xs j).toNat = v) := Lib.hid (by rw [hv]; rfl)
      have hbL := hbl
      clear c0 hcell hv
      have hpo : Dual.Ok ⟨p0, p1, q0, q1⟩ := by rw [HP.out]; exact stP_ok start_ok hx j
      have HPO := Lib.hid hpo
      clear hpo
      obtain ⟨x, HX⟩ : ∃ x, Hid (lenD ⟨p0, p1, q0, q1⟩ v = x) := ⟨_, Lib.hid rfl⟩
      have HXA : Hid (lenAt Cad.Code.start xs j = x) := Lib.hid (by rw [← HX.out, HP.out, ← HV.out]; rfl)
      have hC := HC.out j
      rw [HXA.out] at hC
      have HCJ := Lib.hid hC
      clear hC
      have hlt1 : (j : Int) < (n : Int) := by omega
      have cl0 := CL.out
      go_wp2_with fail
      refine (dlen_c _ HPO.out hv32 HX.out).mono ?_
      rintro e w6 ⟨rfl, b6⟩
      have zd_6 := zd_5.after b6
      have R6 := HB.out _ _ _ HR.out b6
      have s6 := b6.size
      have kd_6 := zd_6.cell; have fd_6 := zd_6.frozen; have ld_6 := zd_6.lt
      clear zd_5 kd_5 fd_5 ld_5 HR cl0
      go_wp2_with fail
      refine (HCJ.out w6 hlt R6).mono ?_
      rintro e w7 ⟨hk7, hres⟩
      have zd_7 := hk7 _ _ zd_6
      have kd_7 := zd_7.cell; have fd_7 := zd_7.frozen; have ld_7 := zd_7.lt
      clear zd_6 kd_6 fd_6 ld_6 hk7
      rcases hres with ⟨rfl, R7⟩ | ⟨rfl, Z7⟩
      · obtain ⟨u0, u1, v0, v1, hu⟩ := Dual.four (learn ⟨p0, p1, q0, q1⟩ v)
        have HU := Lib.hid hu
        clear hu
        go_wp2_with fail
        refine (dlearn_c _ HPO.out hv32 HU.out).mono ?_
        rintro e w8 ⟨rfl, b8⟩
        have zd_8 := zd_7.after b8
        have R8 := HB.out _ _ _ R7 b8
        have kd_8 := zd_8.cell; have fd_8 := zd_8.frozen; have ld_8 := zd_8.lt
        clear zd_7 kd_7 fd_7 ld_7 R7
        have HP2 : Hid ((⟨u0, u1, v0, v1⟩ : Dual) = stP Cad.Code.start xs (j + 1)) := Lib.hid (by rw [stP_next, ← HP.out, HV.out, HU.out])
        go_wp2
        go_roundg (n - (j + 1))
        case measure => omega
        case rel =>
          refine ⟨j + 1, u0, u1, v0, v1, by omega, by go_num, HP2, ?_, Lib.hid ?_⟩
          · first | (with_reducible exact Blk.drew (Blk.alloc (Blk.set4 zd_8) _)) | (with_reducible exact Blk.alloc (Blk.drew (Blk.set4 zd_8)) _) | (with_reducible exact Blk.set4 (Blk.alloc (Blk.drew zd_8) _)) | (with_reducible exact Blk.alloc (Blk.set4 zd_8) _) | (with_reducible exact Blk.set4 (Blk.alloc zd_8 _)) | exact Blk.set4 zd_8
          · exact HD.out _ _ _ _ 3 _ (HD.out _ _ _ _ 2 _ (HD.out _ _ _ _ 1 _ (HD.out _ _ _ _ 0 _ R8 s1 zd_8) s1 (zd_8.set 0 _)) s1 ((zd_8.set 0 _).set 1 _)) s1 (((zd_8.set 0 _).set 1 _).set 2 _)
      · go_wp2
        go_ret
        exact ⟨rfl, Z7⟩
    · obtain rfl : j = n := by omega
      go_wp2
      go_ret
      exact ⟨rfl, HZ.out _ HR.out⟩


theorem walk_each_many (k0 : Value) (A : Option Addr) (n c : Nat) (w : World) (hn : 4000 < n) :
    Calls Tryd.prog 53 #[.func (.func 54) #[] #[k0], .slice A n c] w fun e w' => e = .returned (.int .i64 4) ∧ Below w.heap.size w w' := by
  have ht0 : decide ((4000 : Int) < (n : Int)) = true := decide_eq_true (by omega)
  go_enter Tryd.func53, Tryd.ntmps53
  go_wp2
  go_ret
  exact ⟨rfl, by repeat' (first | (with_reducible first | assumption | exact Below.refl _ _ | refine Blk.drewN ?_ _ | refine RowIn.drewN ?_ _ | refine below_drewN ?_ _ | refine Blk.drew ?_ | refine RowIn.drew ?_ | refine Below.drew ?_) | (with_reducible refine Blk.new' ?_ ?_ <;> first | (with_reducible rfl) | (simp; done)) | (with_reducible first | refine Blk.alloc ?_ _ | refine RowIn.alloc ?_ _ | refine Below.alloc ?_ ?_ _ | apply Blk.set' | apply Blk.far' | refine RowIn.far' ?_ ?_ _ | refine Below.far' ?_ ?_ _) | (exact (Eq.refl _ : (_ : List Value) = _)) | omega | go_size)⟩

theorem walk_length_many (k0 : Value) (A : Option Addr) (n c : Nat) (w : World) (hn : 4000 < n) :
    Calls Tryd.prog 53 #[.func (.func 73) #[] #[k0], .slice A n c] w fun e w' => e = .returned (.int .i64 4) ∧ Below w.heap.size w w' := by
  have ht0 : decide ((4000 : Int) < (n : Int)) = true := decide_eq_true (by omega)
  go_enter Tryd.func53, Tryd.ntmps53
  go_wp2
  go_ret
  exact ⟨rfl, by repeat' (first | (with_reducible first | assumption | exact Below.refl _ _ | refine Blk.drewN ?_ _ | refine RowIn.drewN ?_ _ | refine below_drewN ?_ _ | refine Blk.drew ?_ | refine RowIn.drew ?_ | refine Below.drew ?_) | (with_reducible refine Blk.new' ?_ ?_ <;> first | (with_reducible rfl) | (simp; done)) | (with_reducible first | refine Blk.alloc ?_ _ | refine RowIn.alloc ?_ _ | refine Below.alloc ?_ ?_ _ | apply Blk.set' | apply Blk.far' | refine RowIn.far' ?_ ?_ _ | refine Below.far' ?_ ?_ _) | (exact (Eq.refl _ : (_ : List Value) = _)) | omega | go_size)⟩


theorem Blk.ne {w : World} {g g' : Nat} {t t' : TypeId} {l l' : List Value} (h : Blk w g t l) (h' : Blk w g' t' l') (ht : t ≠ t') : g ≠ g' := by
  intro e
  subst e
  unfold Blk at h h'
  rw [h] at h'
  injection h' with h'
  injection h' with _ h'
  exact ht h'
/-- Numbers and an error are returned. -/
def RetI (w : World) (l : List Int) (er : Int) (e : Ending) (w' : World) : Prop :=
  ∃ (A : Option Addr) (n c : Nat) (ys : List Int), e = .returned (.tuple #[.slice A n c, .int .i64 er]) ∧ (n ≤ c ∧ c ≤ 9223372036854775807) ∧ RowIn .i64 w' w.heap.size w'.heap.size A n ys ∧ Hid (ys = l) ∧ Below w.heap.size w w'

set_option maxRecDepth 100000 in
set_option maxHeartbeats 1000000 in
theorem teach_ok (A : Option Addr) (n c : Nat) (xs : List Int) (w : World) (ha : Row .u32 w A n xs) (hx : Within 0 4294967295 xs) (hn : n ≤ 4000) :
    Calls Tryd.prog 23 #[.slice A n c] w (RetI w (lens Cad.Code.start xs n) 0) := by
  have hmf : ∀ (fn : Fn) (first cap : Array Value) (w : World), (Instr.makeFunc fn first cap).run Tryd.prog w = .ok (.func fn first cap) w := fun _ _ _ _ => rfl
  go_enter Tryd.func23, Tryd.ntmps23
  go_wp2_with fail
  have hk := walk_each (.pointer (some ⟨w.heap.size, 0, none⟩)) A n c xs (w.alloc (.cells #[.slice none 0 0] 54))
    (fun j w' => ∃ B d, Blk w' w.heap.size 54 [.slice B j d] ∧ Own w' w.heap.size 3 .i64 B j d (lens Cad.Code.start xs j) ∧ Below w.heap.size w w')
    (fun w' => ∃ B d, Blk w' w.heap.size 54 [.slice B n d] ∧ Own w' w.heap.size 3 .i64 B n d (lens Cad.Code.start xs n) ∧ Below w.heap.size w w') hx hn
    ⟨none, 0, Blk.new w _ _, Own.nil _ _ _ _, (Below.refl _ _).alloc (Nat.le_refl _) _⟩
    (fun j w1 w2 ⟨B, d, h1, h2, h3⟩ hb => ⟨B, d, h1.after hb, h2.below hb (Nat.le_refl _), Below.after h3 hb h3.size⟩)
    (fun j w1 g l i v ⟨B, d, h1, h2, h3⟩ hg hk => ⟨B, d, h1.far' (Blk.ne h1 hk (by decide)) v, h2.far' (h2.ne_blk hk (by decide)) v, Below.far' h3 (by rw [World.size_alloc] at hg; omega) v⟩)
    (fun j w1 ⟨B, d, h1, h2, h3⟩ => ha.below h3)
    (fun w1 h => h)
    (fun j w1 hj ⟨B, d, h1, h2, h3⟩ => by
      refine (each1_ok w.heap.size w.heap.size j d _ B _ w1 h1 h2 h3.size (by omega)).mono ?_
      rintro e w2 ⟨B2, d2, rfl, k1, k2, fr⟩
      refine ⟨fun g l hgl => hgl.frm fr (fun h => h.elim (fun h => Blk.ne h1 hgl (by decide) h.symm) (fun h => h2.ne_blk hgl (by decide) h)), .inl ⟨rfl, B2, d2, k1, by rw [lens_next]; exact k2, ?_⟩⟩
      exact h3.trans (fr.below h3.size (fun k hk h => h.elim (fun h => by omega) (fun h => absurd (h2.block k h).1 (by omega)))))
  refine hk.mono ?_
  rintro e w2 ⟨rfl, B, d, z1, own, bb⟩
  clear hk
  have k1 := z1.cell; have f1 := z1.frozen; have l1 := z1.lt
  have hcap := own.rowC.2
  go_wp2
  refine bodyPost_ret (v := .tuple #[.slice B n d, .int .i64 0]) (by simp [results, Tryd.results23, go_sem, k1, l1, f1]) rfl ?_
  exact ⟨B, n, d, _, rfl, hcap, own.rowIn, Lib.hid rfl, bb⟩

set_option maxHeartbeats 400000 in
theorem teach_many (A : Option Addr) (n c : Nat) (w : World) (hn : 4000 < n) :
    Calls Tryd.prog 23 #[.slice A n c] w (RetI w [] 4) := by
  have hmf : ∀ (fn : Fn) (first cap : Array Value) (w : World), (Instr.makeFunc fn first cap).run Tryd.prog w = .ok (.func fn first cap) w := fun _ _ _ _ => rfl
  go_enter Tryd.func23, Tryd.ntmps23
  go_wp2_with fail
  refine (walk_each_many _ A n c _ hn).mono ?_
  rintro e w2 ⟨rfl, b2⟩
  have z1 := (Blk.new w 54 [.slice none 0 0]).after b2
  have k1 := z1.cell; have f1 := z1.frozen; have l1 := z1.lt
  go_wp2
  refine bodyPost_ret (v := .tuple #[.slice none 0 0, .int .i64 4]) (by simp [results, Tryd.results23, go_sem, k1, l1, f1]) rfl ?_
  exact ⟨none, 0, 0, [], rfl, ⟨Nat.le_refl _, Nat.zero_le _⟩, RowIn.nil, Lib.hid rfl, Below.after ((Below.refl _ _).alloc (Nat.le_refl _) _) b2 (by rw [World.size_alloc]; omega)⟩

set_option maxRecDepth 100000 in
set_option maxHeartbeats 1000000 in
theorem tlen_ok (A : Option Addr) (n c : Nat) (xs : List Int) (w : World) (ha : Row .u32 w A n xs) (hx : Within 0 4294967295 xs) (hn : n ≤ 4000) :
    Calls Tryd.prog 51 #[.slice A n c] w fun e w' => e = .returned (.tuple #[.int .i64 ((lenP Cad.Code.start xs n : Nat) : Int), .int .i64 0]) ∧ Below w.heap.size w w' := by
  have hmf : ∀ (fn : Fn) (first cap : Array Value) (w : World), (Instr.makeFunc fn first cap).run Tryd.prog w = .ok (.func fn first cap) w := fun _ _ _ _ => rfl
  obtain ⟨L, HL⟩ : ∃ L, Hid (L = lenP Cad.Code.start xs n) := ⟨_, Lib.hid rfl⟩
  rw [← HL.out]
  go_enter Tryd.func51, Tryd.ntmps51
  go_wp2_with fail
  have hk := walk_length (.pointer (some ⟨w.heap.size, 0, none⟩)) A n c xs (w.alloc (.cells #[.int .i64 0] 3))
    (fun j w' => Blk w' w.heap.size 3 [.int .i64 ((lenP Cad.Code.start xs j : Nat) : Int)] ∧ Below w.heap.size w w')
    (fun w' => Blk w' w.heap.size 3 [.int .i64 ((lenP Cad.Code.start xs n : Nat) : Int)] ∧ Below w.heap.size w w') hx hn
    ⟨Blk.new w _ _, (Below.refl _ _).alloc (Nat.le_refl _) _⟩
    (fun j w1 w2 ⟨h1, h3⟩ hb => ⟨h1.after hb, Below.after h3 hb h3.size⟩)
    (fun j w1 g l i v ⟨h1, h3⟩ hg hk => ⟨h1.far' (Blk.ne h1 hk (by decide)) v, Below.far' h3 (by rw [World.size_alloc] at hg; omega) v⟩)
    (fun j w1 ⟨h1, h3⟩ => ha.below h3)
    (fun w1 h => h)
    (fun j w1 hj ⟨h1, h3⟩ => by
      refine (length1_ok w.heap.size _ _ w1 h1 (by have := (lenP_le start_ok hx j).2; omega) (by have := (lenAt_le start_ok hx j).2; omega)).mono ?_
      rintro e w2 ⟨rfl, k1, fr⟩
      refine ⟨fun g l hgl => hgl.frm fr (fun h => Blk.ne h1 hgl (by decide) h.symm), .inl ⟨rfl, by rw [lenP_step]; exact k1, ?_⟩⟩
      exact h3.trans (fr.below h3.size (fun k hk h => by omega)))
  refine hk.mono ?_
  rintro e w2 ⟨rfl, z1, bb⟩
  clear hk
  rw [← HL.out] at z1
  have k1 := z1.cell; have f1 := z1.frozen; have l1 := z1.lt
  go_wp2
  refine bodyPost_ret (v := .tuple #[.int .i64 (L : Int), .int .i64 0]) (by simp [results, Tryd.results51, go_sem, k1, l1, f1]) rfl ?_
  exact ⟨rfl, bb⟩
set_option maxHeartbeats 400000 in
theorem tlen_many (A : Option Addr) (n c : Nat) (w : World) (hn : 4000 < n) :
    Calls Tryd.prog 51 #[.slice A n c] w fun e w' => e = .returned (.tuple #[.int .i64 0, .int .i64 4]) ∧ Below w.heap.size w w' := by
  have hmf : ∀ (fn : Fn) (first cap : Array Value) (w : World), (Instr.makeFunc fn first cap).run Tryd.prog w = .ok (.func fn first cap) w := fun _ _ _ _ => rfl
  go_enter Tryd.func51, Tryd.ntmps51
  go_wp2_with fail
  refine (walk_length_many _ A n c _ hn).mono ?_
  rintro e w2 ⟨rfl, b2⟩
  have z1 := (Blk.new w 3 [.int .i64 0]).after b2
  have k1 := z1.cell; have f1 := z1.frozen; have l1 := z1.lt
  go_wp2
  refine bodyPost_ret (v := .tuple #[.int .i64 0, .int .i64 4]) (by simp [results, Tryd.results51, go_sem, k1, l1, f1]) rfl ?_
  exact ⟨rfl, Below.after ((Below.refl _ _).alloc (Nat.le_refl _) _) b2 (by rw [World.size_alloc]; omega)⟩


set_option maxHeartbeats 400000 in
theorem tbsize_ok (n q : Nat) (w : World) (h : n ≤ 330000) (hq : sizeB n = q) :
    Calls Tryd.prog 52 #[.int .i64 (n : Int)] w fun e w' => e = .returned (.tuple #[.int .i64 (q : Int), .int .i64 0]) ∧ w' = w := by
  unfold sizeB at hq
  have t1 : decide ((n : Int) < 0) = false := decide_eq_false (by omega)
  have t2 : decide ((330000 : Int) < (n : Int)) = false := decide_eq_false (by omega)
  have h1 : ((n : Int) + 7) / 8 + 4 = (q : Int) := by omega
  have hq2 : q ≤ 50000 := by omega
  go_enter Tryd.func52, Tryd.ntmps52
  go_wp2
  go_ret2
  exact ⟨by rw [← h1]; rfl, rfl⟩

set_option maxHeartbeats 400000 in
theorem tbytes_ok (A : Option Addr) (n c : Nat) (xs : List Int) (w : World) (ha : Row .u32 w A n xs) (hx : Within 0 4294967295 xs) (hn : n ≤ 4000) :
    Calls Tryd.prog 22 #[.slice A n c] w fun e w' => e = .returned (.tuple #[.int .i64 ((sizeB (lenP Cad.Code.start xs n) : Nat) : Int), .int .i64 0]) ∧ Below w.heap.size w w' := by
  have hl := lenP_le start_ok hx n
  go_enter Tryd.func22, Tryd.ntmps22
  go_wp2_with fail
  refine (tlen_ok A n c xs _ ha hx hn).mono ?_
  rintro e w1 ⟨rfl, b1⟩
  go_wp2_with fail
  refine (tbsize_ok (lenP Cad.Code.start xs n) _ _ (by omega) rfl).mono ?_
  rintro e _ ⟨rfl, rfl⟩
  go_wp2
  go_ret2
  exact ⟨rfl, b1⟩
theorem tbytes_many (A : Option Addr) (n c : Nat) (w : World) (hn : 4000 < n) :
    Calls Tryd.prog 22 #[.slice A n c] w fun e w' => e = .returned (.tuple #[.int .i64 0, .int .i64 4]) ∧ Below w.heap.size w w' := by
  go_enter Tryd.func22, Tryd.ntmps22
  go_wp2_with fail
  refine (tlen_many A n c _ hn).mono ?_
  rintro e w1 ⟨rfl, b1⟩
  go_wp2
  go_ret2
  exact ⟨rfl, b1⟩
end Go.Proofs.YtpohaikbbfochaaDoor

/-
  Contracts of the reference of chapter 6 (runs).
-/
namespace Go.Proofs.YtpohaikbbfochaaDoor
open Go.RowKit Cad Cad.Bit Cad.Code
set_option linter.unusedVariables false
set_option linter.unusedSimpArgs false

end Go.Proofs.YtpohaikbbfochaaDoor

/-
  Contracts of the reference's Number and Value.
-/
namespace Go.Proofs.YtpohaikbbfochaaDoor
open Go.RowKit Cad Cad.Bit
set_option linter.unusedVariables false
set_option linter.unusedSimpArgs false

theorem lowBits_next (v j : Nat) : lowBits v (j + 1) = lowBits v j ++ [decide (v / 2 ^ j % 2 = 1)] := by rw [lowBits_add]; rfl
theorem bit_int {x : Nat} : ((x % 2 : Nat) : Int) = if decide (x % 2 = 1) then 1 else 0 := by
  rcases Nat.mod_two_eq_zero_or_one x with h | h <;> rw [h] <;> rfl

theorem bval_step {bs : List Bool} {p k n : Nat} (hk : k < n) (hp : p + n ≤ bs.length) : bval ((bs.drop (p + k)).take (n - k)) = (if bitAt bs (p + k) then 1 else 0) + 2 * bval ((bs.drop (p + (k + 1))).take (n - (k + 1))) := by
  have h : p + k < bs.length := by omega
  rw [List.drop_eq_getElem_cons h, show n - k = (n - (k + 1)) + 1 by omega, List.take_succ_cons, bval, bitAt_eq h]; rfl
end Go.Proofs.YtpohaikbbfochaaDoor
