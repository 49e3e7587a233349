/-
  Contracts of blocks.
-/
import Derived.Test.YtncmnfnminjchaaBlkA
import Derived.Test.YtncmnfnminjchaaBitF
namespace Go.Proofs.Ytncmnfnminjchaa
open Go.RowKit Cad Cad.Bit Cad.Crc Cad.Le
set_option linter.unusedVariables false
set_option linter.unusedSimpArgs false


/-- Bytes with their sum behind them. -/
def sealed (l : List Int) : List Int := l ++ leB (Crc.sum l) 4
theorem sealed_len (l : List Int) : (sealed l).length = l.length + 4 := by unfold sealed; rw [List.length_append, leB_len]
theorem sealed_within {l : List Int} (h : Within 0 255 l) : Within 0 255 (sealed l) := h.append (leB_within _ _)
/-- Bytes and an error are returned. -/
def RetY (w : World) (l : List Int) (er : Int) (e : Ending) (w' : World) : Prop :=
  ∃ A n c xs', e = .returned (.tuple #[.slice A n c, .int .i64 er]) ∧ (n ≤ c ∧ c ≤ 9223372036854775807) ∧ RowIn .u8 w' w.heap.size w'.heap.size A n xs' ∧ Hid (xs' = l) ∧ Below w.heap.size w w'
theorem RetY.of {w w' : World} {l : List Int} {er : Int} {e : Ending} {A : Option Addr} {n c : Nat} (he : e = .returned (.tuple #[.slice A n c, .int .i64 er])) (hc : n ≤ c ∧ c ≤ 9223372036854775807) (hr : RowIn .u8 w' w.heap.size w'.heap.size A n l) (hb : Below w.heap.size w w') : RetY w l er e w' :=
  ⟨A, n, c, l, he, hc, hr, Lib.hid rfl, hb⟩

set_option maxHeartbeats 400000 in
theorem tail_ok (A : Option Addr) (n c : Nat) (l : List Int) (w : World) (ha : Row .u8 w A n l) (hl : Within 0 255 l) (hn : n ≤ 100000) :
    Calls Try.prog 25 #[.slice A n c] w fun e w' => ∃ B, e = .returned (.tuple #[.slice B 4 4, .int .i64 0]) ∧ Own w' w.heap.size 5 .u8 B 4 4 (leB (Crc.sum l) 4) ∧ Below w.heap.size w w' := by
  obtain ⟨x, HX⟩ : ∃ x, Hid (x = Crc.sum l) := ⟨_, Lib.hid rfl⟩
  have hx : x < 4294967296 := by rw [HX.out]; exact sum_lt hl
  have hc := sum_ok A n c l w ha hl hn
  rw [← HX.out] at hc ⊢
  have HC := Lib.hid hc
  clear hc
  go_enter Try.func25, Try.ntmps25
  go_wp2_with fail
  refine HC.out.mono ?_
  rintro e w1 ⟨rfl, hw⟩
  go_wp2_with fail
  refine (lebytes_ok x 4 w1 (by omega) (by omega) (by omega) (by omega)).mono ?_
  rintro e w2 ⟨rfl, hown, hw2⟩
  go_wp2
  go_ret2
  exact ⟨_, rfl, hown.mono hw.size, hw.trans (hw2.mono hw.size)⟩

theorem bsize_ok (n : Nat) (w : World) (h : n ≤ 330000) :
    Calls Try.prog 20 #[.int .i64 (n : Int)] w fun e w' => e = .returned (.tuple #[.int .i64 (((n + 7) / 8 + 4 : Nat) : Int), .int .i64 0]) ∧ w = w' := by
  have a1 : ¬ (n : Int) < 0 := by omega
  have a2 : ¬ (330000 : Int) < (n : Int) := by omega
  go_enter Try.func20, Try.ntmps20
  go_wp2
  go_ret2
  exact ⟨by go_num, rfl⟩
theorem bsize_bad (n : Int) (w : World) (h : n < 0 ∨ 330000 < n) :
    Calls Try.prog 20 #[.int .i64 n] w fun e w' => e = .returned (.tuple #[.int .i64 0, .int .i64 2]) ∧ w = w' := by
  by_cases h1 : n < 0
  · go_enter Try.func20, Try.ntmps20
    go_wp2
    go_ret2
    exact ⟨rfl, rfl⟩
  · have h2 : 330000 < n := by omega
    go_enter Try.func20, Try.ntmps20
    go_wp2
    go_ret2
    exact ⟨rfl, rfl⟩


set_option maxHeartbeats 400000 in
theorem bpack_bad (A : Option Addr) (n c : Nat) (N : Int) (bytes : List Int) (w : World) (ha : Row .u8 w A n bytes) (hb : Within 0 255 bytes) (hn : n ≤ 9223372036854775807) (hv : ¬ Valid bytes N) :
    Calls Try.prog 16 #[.agg #[.slice A n c, .int .i64 N]] w (RetY w [] 8) := by
  have hri := ha.rowIn
  go_enter Try.func16, Try.ntmps16
  go_wp2_with fail
  refine (bcheck_bad A n c N bytes _ (by exact RowIn.row (lo := 0) (hi := w.heap.size) (by repeat' (first | (with_reducible assumption) | (with_reducible exact Below.refl _ _) | (with_reducible refine Blk.drewN ?_ _) | (with_reducible refine RowIn.drewN ?_ _) | (with_reducible refine below_drewN ?_ _) | (with_reducible refine Blk.drew ?_) | (with_reducible refine RowIn.drew ?_) | (with_reducible refine Below.drew ?_) | (with_reducible refine Blk.new' ?_ ?_ <;> first | (with_reducible rfl) | (simp; done)) | (with_reducible refine Blk.alloc ?_ _) | (with_reducible refine RowIn.alloc ?_ _) | (with_reducible refine Below.alloc ?_ ?_ _) | (with_reducible apply Blk.set') | (with_reducible apply Blk.far') | (with_reducible refine RowIn.far' ?_ ?_ _) | (with_reducible refine Below.far' ?_ ?_ _) | rfl | omega | go_size))) hb hn hv).mono ?_
  rintro e w1 ⟨rfl, b1⟩
  have s1 := b1.size
  try simp only [World.size_alloc, World.size_setCell, World.size_drew, size_drewN] at s1
  obtain ⟨zd_1, ra_1, bb_1⟩ : Blk w1 (w.heap.size) 25 [.slice A n c, .int .i64 N] ∧ RowIn .u8 w1 (0) (w.heap.size) A n bytes ∧ Below w.heap.size w w1 := by
    refine ⟨?_, ?_, ?_⟩
    all_goals repeat' (first | (with_reducible assumption) | (with_reducible exact Below.refl _ _) | (with_reducible refine Blk.after ?_ b1) | (with_reducible refine RowIn.belowS ?_ b1) | (with_reducible refine Below.after ?_ b1 ?_) | (with_reducible refine Blk.drewN ?_ _) | (with_reducible refine RowIn.drewN ?_ _) | (with_reducible refine below_drewN ?_ _) | (with_reducible refine Blk.drew ?_) | (with_reducible refine RowIn.drew ?_) | (with_reducible refine Below.drew ?_) | (with_reducible refine Blk.new' ?_ ?_ <;> first | (with_reducible rfl) | (simp; done)) | (with_reducible refine Blk.alloc ?_ _) | (with_reducible refine RowIn.alloc ?_ _) | (with_reducible refine Below.alloc ?_ ?_ _) | (with_reducible apply Blk.set') | (with_reducible apply Blk.far') | (with_reducible refine RowIn.far' ?_ ?_ _) | (with_reducible refine Below.far' ?_ ?_ _) | rfl | omega | go_size)
  clear b1
  have kd_1 := zd_1.cell; have fd_1 := zd_1.frozen; have ld_1 := zd_1.lt
  go_wp2
  go_ret2
  refine RetY.of rfl ⟨Nat.le_refl _, Nat.zero_le _⟩ RowIn.nil ?_
  repeat' (first | (with_reducible assumption) | (with_reducible exact Below.refl _ _) | (with_reducible refine Blk.drewN ?_ _) | (with_reducible refine RowIn.drewN ?_ _) | (with_reducible refine below_drewN ?_ _) | (with_reducible refine Blk.drew ?_) | (with_reducible refine RowIn.drew ?_) | (with_reducible refine Below.drew ?_) | (with_reducible refine Blk.new' ?_ ?_ <;> first | (with_reducible rfl) | (simp; done)) | (with_reducible refine Blk.alloc ?_ _) | (with_reducible refine RowIn.alloc ?_ _) | (with_reducible refine Below.alloc ?_ ?_ _) | (with_reducible apply Blk.set') | (with_reducible apply Blk.far') | (with_reducible refine RowIn.far' ?_ ?_ _) | (with_reducible refine Below.far' ?_ ?_ _) | rfl | omega | go_size)


set_option maxHeartbeats 400000 in
theorem bpack_ok (A : Option Addr) (n c : Nat) (bs : List Bool) (w : World) (ha : Row .u8 w A n (pack bs)) (hc : n ≤ c ∧ c ≤ 9223372036854775807) (hl : bs.length ≤ 330000) :
    Calls Try.prog 16 #[.agg #[.slice A n c, .int .i64 ((bs.length : Nat) : Int)]] w (RetY w (sealed (pack bs)) 0) := by
  have hri := ha.rowIn
  have hm : n ≤ 41250 := by have := ha.len; rw [pack_len] at this; unfold bytesFor at this; omega
  go_enter Try.func16, Try.ntmps16
  go_wp2_with fail
  refine (bcheck_ok A n c bs _ (by exact RowIn.row (lo := 0) (hi := w.heap.size) (by repeat' (first | (with_reducible assumption) | (with_reducible exact Below.refl _ _) | (with_reducible refine Blk.drewN ?_ _) | (with_reducible refine RowIn.drewN ?_ _) | (with_reducible refine below_drewN ?_ _) | (with_reducible refine Blk.drew ?_) | (with_reducible refine RowIn.drew ?_) | (with_reducible refine Below.drew ?_) | (with_reducible refine Blk.new' ?_ ?_ <;> first | (with_reducible rfl) | (simp; done)) | (with_reducible refine Blk.alloc ?_ _) | (with_reducible refine RowIn.alloc ?_ _) | (with_reducible refine Below.alloc ?_ ?_ _) | (with_reducible apply Blk.set') | (with_reducible apply Blk.far') | (with_reducible refine RowIn.far' ?_ ?_ _) | (with_reducible refine Below.far' ?_ ?_ _) | rfl | omega | go_size))) (by omega) hl).mono ?_
  rintro e w1 ⟨rfl, b1⟩
  have s1 := b1.size
  try simp only [World.size_alloc, World.size_setCell, World.size_drew, size_drewN] at s1
  obtain ⟨zd_1, ra_1, bb_1⟩ : Blk w1 (w.heap.size) 25 [.slice A n c, .int .i64 ((bs.length : Nat) : Int)] ∧ RowIn .u8 w1 (0) (w.heap.size) A n (pack bs) ∧ Below w.heap.size w w1 := by
    refine ⟨?_, ?_, ?_⟩
    all_goals repeat' (first | (with_reducible assumption) | (with_reducible exact Below.refl _ _) | (with_reducible refine Blk.after ?_ b1) | (with_reducible refine RowIn.belowS ?_ b1) | (with_reducible refine Below.after ?_ b1 ?_) | (with_reducible refine Blk.drewN ?_ _) | (with_reducible refine RowIn.drewN ?_ _) | (with_reducible refine below_drewN ?_ _) | (with_reducible refine Blk.drew ?_) | (with_reducible refine RowIn.drew ?_) | (with_reducible refine Below.drew ?_) | (with_reducible refine Blk.new' ?_ ?_ <;> first | (with_reducible rfl) | (simp; done)) | (with_reducible refine Blk.alloc ?_ _) | (with_reducible refine RowIn.alloc ?_ _) | (with_reducible refine Below.alloc ?_ ?_ _) | (with_reducible apply Blk.set') | (with_reducible apply Blk.far') | (with_reducible refine RowIn.far' ?_ ?_ _) | (with_reducible refine Below.far' ?_ ?_ _) | rfl | omega | go_size)
  clear b1
  have kd_1 := zd_1.cell; have fd_1 := zd_1.frozen; have ld_1 := zd_1.lt
  go_wp2_with fail
  have hpw := pack_u8 bs
  refine (tail_ok A n c (pack bs) _ (by exact RowIn.row (lo := 0) (hi := w.heap.size) (by repeat' (first | (with_reducible assumption) | (with_reducible exact Below.refl _ _) | (with_reducible refine Blk.drewN ?_ _) | (with_reducible refine RowIn.drewN ?_ _) | (with_reducible refine below_drewN ?_ _) | (with_reducible refine Blk.drew ?_) | (with_reducible refine RowIn.drew ?_) | (with_reducible refine Below.drew ?_) | (with_reducible refine Blk.new' ?_ ?_ <;> first | (with_reducible rfl) | (simp; done)) | (with_reducible refine Blk.alloc ?_ _) | (with_reducible refine RowIn.alloc ?_ _) | (with_reducible refine Below.alloc ?_ ?_ _) | (with_reducible apply Blk.set') | (with_reducible apply Blk.far') | (with_reducible refine RowIn.far' ?_ ?_ _) | (with_reducible refine Below.far' ?_ ?_ _) | rfl | omega | go_size))) hpw (by omega)).mono ?_
  rintro e w2 ⟨B, rfl, own2, b2⟩
  have rs := own2.rowIn
  have s2 := b2.size
  try simp only [World.size_alloc, World.size_setCell, World.size_drew, size_drewN] at s2
  obtain ⟨zd_2, ra_2, rs_2, bb_2⟩ : Blk w2 (w.heap.size) 25 [.slice A n c, .int .i64 ((bs.length : Nat) : Int)] ∧ RowIn .u8 w2 (0) (w.heap.size) A n (pack bs) ∧ RowIn .u8 w2 (w1.heap.size) (w2.heap.size) B 4 (leB (Crc.sum (pack bs)) 4) ∧ Below w.heap.size w w2 := by
    refine ⟨?_, ?_, ?_, ?_⟩
    all_goals repeat' (first | (with_reducible assumption) | (with_reducible exact Below.refl _ _) | (with_reducible refine Blk.after ?_ b2) | (with_reducible refine RowIn.belowS ?_ b2) | (with_reducible refine Below.after ?_ b2 ?_) | (with_reducible refine Blk.drewN ?_ _) | (with_reducible refine RowIn.drewN ?_ _) | (with_reducible refine below_drewN ?_ _) | (with_reducible refine Blk.drew ?_) | (with_reducible refine RowIn.drew ?_) | (with_reducible refine Below.drew ?_) | (with_reducible refine Blk.new' ?_ ?_ <;> first | (with_reducible rfl) | (simp; done)) | (with_reducible refine Blk.alloc ?_ _) | (with_reducible refine RowIn.alloc ?_ _) | (with_reducible refine Below.alloc ?_ ?_ _) | (with_reducible apply Blk.set') | (with_reducible apply Blk.far') | (with_reducible refine RowIn.far' ?_ ?_ _) | (with_reducible refine Below.far' ?_ ?_ _) | rfl | omega | go_size)
  clear zd_1 ra_1 bb_1 kd_1 fd_1 ld_1 b2
  have kd_2 := zd_2.cell; have fd_2 := zd_2.frozen; have ld_2 := zd_2.lt
  clear rs own2
  go_wp2_with fail
  have zq := Blk.new w2 22 [.slice A n c, .slice B 4 4]
  have kq := zq.cell
  refine (concat_ok w2.heap.size A n c (pack bs) B 4 4 (leB (Crc.sum (pack bs)) 4) _ (by exact RowIn.row (lo := 0) (hi := w.heap.size) (by repeat' (first | (with_reducible assumption) | (with_reducible exact Below.refl _ _) | (with_reducible refine Blk.drewN ?_ _) | (with_reducible refine RowIn.drewN ?_ _) | (with_reducible refine below_drewN ?_ _) | (with_reducible refine Blk.drew ?_) | (with_reducible refine RowIn.drew ?_) | (with_reducible refine Below.drew ?_) | (with_reducible refine Blk.new' ?_ ?_ <;> first | (with_reducible rfl) | (simp; done)) | (with_reducible refine Blk.alloc ?_ _) | (with_reducible refine RowIn.alloc ?_ _) | (with_reducible refine Below.alloc ?_ ?_ _) | (with_reducible apply Blk.set') | (with_reducible apply Blk.far') | (with_reducible refine RowIn.far' ?_ ?_ _) | (with_reducible refine Below.far' ?_ ?_ _) | rfl | omega | go_size))) (by exact RowIn.row (lo := w1.heap.size) (hi := w2.heap.size) (by repeat' (first | (with_reducible assumption) | (with_reducible exact Below.refl _ _) | (with_reducible refine Blk.drewN ?_ _) | (with_reducible refine RowIn.drewN ?_ _) | (with_reducible refine below_drewN ?_ _) | (with_reducible refine Blk.drew ?_) | (with_reducible refine RowIn.drew ?_) | (with_reducible refine Below.drew ?_) | (with_reducible refine Blk.new' ?_ ?_ <;> first | (with_reducible rfl) | (simp; done)) | (with_reducible refine Blk.alloc ?_ _) | (with_reducible refine RowIn.alloc ?_ _) | (with_reducible refine Below.alloc ?_ ?_ _) | (with_reducible apply Blk.set') | (with_reducible apply Blk.far') | (with_reducible refine RowIn.far' ?_ ?_ _) | (with_reducible refine Below.far' ?_ ?_ _) | rfl | omega | go_size))) (by omega) (by omega) (by exact kq 0) (by exact kq 1) (by simp)).mono ?_
  rintro e w3 ⟨C, q, rfl, own3, b3⟩
  have hcap := own3.rowC.2
  have ry := own3.rowIn
  replace ry := ry.mono (lo' := w.heap.size) (by go_size) (Nat.le_refl _)
  clear own3 zq kq
  have s3 := b3.size
  try simp only [World.size_alloc, World.size_setCell, World.size_drew, size_drewN] at s3
  obtain ⟨zd_3, ra_3, rs_3, ry_3, bb_3⟩ : Blk w3 (w.heap.size) 25 [.slice A n c, .int .i64 ((bs.length : Nat) : Int)] ∧ RowIn .u8 w3 (0) (w.heap.size) A n (pack bs) ∧ RowIn .u8 w3 (w1.heap.size) (w2.heap.size) B 4 (leB (Crc.sum (pack bs)) 4) ∧ RowIn .u8 w3 (w.heap.size) (w3.heap.size) C (n + 4) (pack bs ++ leB (Crc.sum (pack bs)) 4) ∧ Below w.heap.size w w3 := by
    refine ⟨?_, ?_, ?_, ?_, ?_⟩
    all_goals repeat' (first | (with_reducible assumption) | (with_reducible exact Below.refl _ _) | (with_reducible refine Blk.after ?_ b3) | (with_reducible refine RowIn.belowS ?_ b3) | (with_reducible refine Below.after ?_ b3 ?_) | (with_reducible refine Blk.drewN ?_ _) | (with_reducible refine RowIn.drewN ?_ _) | (with_reducible refine below_drewN ?_ _) | (with_reducible refine Blk.drew ?_) | (with_reducible refine RowIn.drew ?_) | (with_reducible refine Below.drew ?_) | (with_reducible refine Blk.new' ?_ ?_ <;> first | (with_reducible rfl) | (simp; done)) | (with_reducible refine Blk.alloc ?_ _) | (with_reducible refine RowIn.alloc ?_ _) | (with_reducible refine Below.alloc ?_ ?_ _) | (with_reducible apply Blk.set') | (with_reducible apply Blk.far') | (with_reducible refine RowIn.far' ?_ ?_ _) | (with_reducible refine Below.far' ?_ ?_ _) | rfl | omega | go_size)
  clear zd_2 ra_2 rs_2 bb_2 kd_2 fd_2 ld_2 b3
  have kd_3 := zd_3.cell; have fd_3 := zd_3.frozen; have ld_3 := zd_3.lt
  clear ry
  go_wp2
  go_ret2
  exact RetY.of rfl hcap ry_3 bb_3


theorem RowIn.split4 {k : IntKind} {w : World} {b o m : Nat} {l : List Int} (h : Row k w (some ⟨b, o, none⟩) (m + 4) l) :
    RowIn k w 0 w.heap.size (some ⟨b, o, none⟩) m (l.take m) ∧ RowIn k w 0 w.heap.size (some ⟨b, o + m, none⟩) 4 (l.drop m) := by
  obtain ⟨b', o', he, hb, hc⟩ := h.at (by omega)
  simp only [Option.some.injEq, Addr.mk.injEq] at he
  obtain ⟨rfl, rfl, _⟩ := he
  have hx := h.len
  refine ⟨⟨by rw [List.length_take]; omega, fun _ => ⟨b, o, rfl, Nat.zero_le _, hb, fun j hj => by rw [nth_take hj]; exact hc j (by omega)⟩⟩, by rw [List.length_drop]; omega, fun _ => ⟨b, o + m, rfl, Nat.zero_le _, hb, fun j hj => by rw [nth_drop, Nat.add_assoc]; exact hc (m + j) (by omega)⟩⟩

/-- What unpacking returns. -/
def unpR (l : List Int) : List Bool × Int :=
  if l.length < 4 then ([], 24) else if 41254 < l.length then ([], 4) else if leB (Crc.sum (l.take (l.length - 4))) 4 = l.drop (l.length - 4) then (unpack (l.take (l.length - 4)), 0) else ([], 22)


set_option maxHeartbeats 1000000 in
theorem unp_ret (A : Option Addr) (n c : Nat) (l : List Int) (w : World) (ha : Row .u8 w A n l) (hl : Within 0 255 l) (hc : n ≤ c ∧ c ≤ 9223372036854775807) :
    Calls Try.prog 11 #[.slice A n c] w (RetB w (unpR l).1 (unpR l).2) := by
  have hri := ha.rowIn
  have hx := ha.len
  by_cases h1 : n < 4
  · have HR : Hid (unpR l = ([], 24)) := by unfold unpR; rw [if_pos (by omega)]; exact Lib.hid rfl
    clear hx
    have hlt : (n : Int) - 4 < 0 := by omega
    go_enter Try.func11, Try.ntmps11
    go_wp2_with fail
    go_wp2
    refine bodyPost_ret (v := .tuple #[.agg #[.slice none 0 0, .int .i64 0], .int .i64 24]) (by simp [results, Try.results11, go_sem]) rfl ?_
    rw [HR.out]
    refine RetB.of rfl (BitsIn.zero _ _ _) ?_
    repeat' (first | (with_reducible assumption) | (with_reducible exact Below.refl _ _) | (with_reducible refine Blk.drewN ?_ _) | (with_reducible refine RowIn.drewN ?_ _) | (with_reducible refine below_drewN ?_ _) | (with_reducible refine Blk.drew ?_) | (with_reducible refine RowIn.drew ?_) | (with_reducible refine Below.drew ?_) | (with_reducible refine Blk.new' ?_ ?_ <;> first | (with_reducible rfl) | (simp; done)) | (with_reducible refine Blk.alloc ?_ _) | (with_reducible refine RowIn.alloc ?_ _) | (with_reducible refine Below.alloc ?_ ?_ _) | (with_reducible apply Blk.set') | (with_reducible apply Blk.far') | (with_reducible refine RowIn.far' ?_ ?_ _) | (with_reducible refine Below.far' ?_ ?_ _) | rfl | omega | go_size)
  by_cases h2 : 41254 < n
  · have HR : Hid (unpR l = ([], 4)) := by unfold unpR; rw [if_neg (by omega), if_pos (by omega)]; exact Lib.hid rfl
    clear hx
    have hlt : ¬ (n : Int) - 4 < 0 := by omega
    have hgt : (41250 : Int) < (n : Int) - 4 := by omega
    go_enter Try.func11, Try.ntmps11
    go_wp2_with fail
    go_wp2
    refine bodyPost_ret (v := .tuple #[.agg #[.slice none 0 0, .int .i64 0], .int .i64 4]) (by simp [results, Try.results11, go_sem]) rfl ?_
    rw [HR.out]
    refine RetB.of rfl (BitsIn.zero _ _ _) ?_
    repeat' (first | (with_reducible assumption) | (with_reducible exact Below.refl _ _) | (with_reducible refine Blk.drewN ?_ _) | (with_reducible refine RowIn.drewN ?_ _) | (with_reducible refine below_drewN ?_ _) | (with_reducible refine Blk.drew ?_) | (with_reducible refine RowIn.drew ?_) | (with_reducible refine Below.drew ?_) | (with_reducible refine Blk.new' ?_ ?_ <;> first | (with_reducible rfl) | (simp; done)) | (with_reducible refine Blk.alloc ?_ _) | (with_reducible refine RowIn.alloc ?_ _) | (with_reducible refine Below.alloc ?_ ?_ _) | (with_reducible apply Blk.set') | (with_reducible apply Blk.far') | (with_reducible refine RowIn.far' ?_ ?_ _) | (with_reducible refine Below.far' ?_ ?_ _) | rfl | omega | go_size)
  obtain ⟨m, rfl⟩ : ∃ m, n = m + 4 := ⟨n - 4, by omega⟩
  have hm : m ≤ 41250 := by omega
  have hm4 : ¬ c = m := by omega
  obtain ⟨b, o, rfl, _, _⟩ := ha.at (by omega)
  have hlt : ¬ (((m + 4 : Nat) : Int)) - 4 < 0 := by omega
  have hgt : ¬ (41250 : Int) < (((m + 4 : Nat) : Int)) - 4 := by omega
  obtain ⟨rp, rt⟩ := RowIn.split4 ha
  have hlp := hl.take m
  clear hri h1 h2
  have HR : Hid (unpR l = if leB (Crc.sum (l.take m)) 4 = l.drop m then (unpack (l.take m), 0) else ([], 22)) := by unfold unpR; rw [if_neg (by omega), if_neg (by omega), hx, Nat.add_sub_cancel]; exact Lib.hid rfl
  clear hx
  obtain ⟨lp, HLP⟩ : ∃ lp, Hid (lp = l.take m) := ⟨_, Lib.hid rfl⟩
  obtain ⟨lt, HLT⟩ : ∃ lt, Hid (lt = l.drop m) := ⟨_, Lib.hid rfl⟩
  rw [← HLP.out] at rp hlp HR
  rw [← HLT.out] at rt HR
  clear HLP HLT
  go_enter Try.func11, Try.ntmps11
  go_wp2_with fail
  refine (tail_ok (some ⟨b, o, none⟩) m c lp _ (by exact RowIn.row (lo := 0) (hi := w.heap.size) (by repeat' (first | (with_reducible assumption) | (with_reducible exact Below.refl _ _) | (with_reducible refine Blk.drewN ?_ _) | (with_reducible refine RowIn.drewN ?_ _) | (with_reducible refine below_drewN ?_ _) | (with_reducible refine Blk.drew ?_) | (with_reducible refine RowIn.drew ?_) | (with_reducible refine Below.drew ?_) | (with_reducible refine Blk.new' ?_ ?_ <;> first | (with_reducible rfl) | (simp; done)) | (with_reducible refine Blk.alloc ?_ _) | (with_reducible refine RowIn.alloc ?_ _) | (with_reducible refine Below.alloc ?_ ?_ _) | (with_reducible apply Blk.set') | (with_reducible apply Blk.far') | (with_reducible refine RowIn.far' ?_ ?_ _) | (with_reducible refine Below.far' ?_ ?_ _) | rfl | omega | go_size))) hlp (by omega)).mono ?_
  rintro e w1 ⟨B, rfl, own1, b1⟩
  have rs := own1.rowIn
  replace rs := rs.mono (lo' := w.heap.size) (by go_size) (Nat.le_refl _)
  have s1 := b1.size
  try simp only [World.size_alloc, World.size_setCell, World.size_drew, size_drewN] at s1
  obtain ⟨zr_1, rp_1, rt_1, rs_1, bb_1⟩ : Blk w1 (w.heap.size) 25 [.slice none 0 0, .int .i64 0] ∧ RowIn .u8 w1 (0) (w.heap.size) (some ⟨b, o, none⟩) m lp ∧ RowIn .u8 w1 (0) (w.heap.size) (some ⟨b, o + m, none⟩) 4 lt ∧ RowIn .u8 w1 (w.heap.size) (w1.heap.size) B 4 (leB (Crc.sum lp) 4) ∧ Below w.heap.size w w1 := by
    refine ⟨?_, ?_, ?_, ?_, ?_⟩
    all_goals repeat' (first | (with_reducible assumption) | (with_reducible exact Below.refl _ _) | (with_reducible refine Blk.after ?_ b1) | (with_reducible refine RowIn.belowS ?_ b1) | (with_reducible refine Below.after ?_ b1 ?_) | (with_reducible refine Blk.drewN ?_ _) | (with_reducible refine RowIn.drewN ?_ _) | (with_reducible refine below_drewN ?_ _) | (with_reducible refine Blk.drew ?_) | (with_reducible refine RowIn.drew ?_) | (with_reducible refine Below.drew ?_) | (with_reducible refine Blk.new' ?_ ?_ <;> first | (with_reducible rfl) | (simp; done)) | (with_reducible refine Blk.alloc ?_ _) | (with_reducible refine RowIn.alloc ?_ _) | (with_reducible refine Below.alloc ?_ ?_ _) | (with_reducible apply Blk.set') | (with_reducible apply Blk.far') | (with_reducible refine RowIn.far' ?_ ?_ _) | (with_reducible refine Below.far' ?_ ?_ _) | rfl | omega | go_size)
  clear b1
  have kr_1 := zr_1.cell; have fr_1 := zr_1.frozen; have lr_1 := zr_1.lt
  clear rs own1
  go_wp2_with fail
  obtain ⟨q, HQ⟩ : ∃ q, Hid (q = decide (leB (Crc.sum lp) 4 = lt)) := ⟨_, Lib.hid rfl⟩
  have HE := equal_any B 4 4 _ (some ⟨b, o + m, none⟩) 4 (c - m) _ w1 rs_1.row rt_1.row (by omega) (by omega)
  rw [← HQ.out] at HE
  replace HE := Lib.hid HE
  refine HE.out.mono ?_
  rintro e w2 ⟨rfl, b2⟩
  clear HE
  have s2 := b2.size
  try simp only [World.size_alloc, World.size_setCell, World.size_drew, size_drewN] at s2
  obtain ⟨zr_2, rp_2, bb_2⟩ : Blk w2 (w.heap.size) 25 [.slice none 0 0, .int .i64 0] ∧ RowIn .u8 w2 (0) (w.heap.size) (some ⟨b, o, none⟩) m lp ∧ Below w.heap.size w w2 := by
    refine ⟨?_, ?_, ?_⟩
    all_goals repeat' (first | (with_reducible assumption) | (with_reducible exact Below.refl _ _) | (with_reducible refine Blk.after ?_ b2) | (with_reducible refine RowIn.belowS ?_ b2) | (with_reducible refine Below.after ?_ b2 ?_) | (with_reducible refine Blk.drewN ?_ _) | (with_reducible refine RowIn.drewN ?_ _) | (with_reducible refine below_drewN ?_ _) | (with_reducible refine Blk.drew ?_) | (with_reducible refine RowIn.drew ?_) | (with_reducible refine Below.drew ?_) | (with_reducible refine Blk.new' ?_ ?_ <;> first | (with_reducible rfl) | (simp; done)) | (with_reducible refine Blk.alloc ?_ _) | (with_reducible refine RowIn.alloc ?_ _) | (with_reducible refine Below.alloc ?_ ?_ _) | (with_reducible apply Blk.set') | (with_reducible apply Blk.far') | (with_reducible refine RowIn.far' ?_ ?_ _) | (with_reducible refine Below.far' ?_ ?_ _) | rfl | omega | go_size)
  clear zr_1 rp_1 rt_1 rs_1 bb_1 kr_1 fr_1 lr_1 b2
  have kr_2 := zr_2.cell; have fr_2 := zr_2.frozen; have lr_2 := zr_2.lt
  cases q
  · have HN : Hid (unpR l = ([], 22)) := by rw [HR.out, if_neg (of_decide_eq_false HQ.out.symm)]; exact Lib.hid rfl
    clear HR
    have HR := HN
    go_wp2
    refine bodyPost_ret (v := .tuple #[.agg #[.slice none 0 0, .int .i64 0], .int .i64 22]) (by simp [results, Try.results11, go_sem, kr_2]) rfl ?_
    rw [HR.out]
    refine RetB.of rfl (BitsIn.zero _ _ _) ?_
    repeat' (first | (with_reducible assumption) | (with_reducible exact Below.refl _ _) | (with_reducible refine Blk.drewN ?_ _) | (with_reducible refine RowIn.drewN ?_ _) | (with_reducible refine below_drewN ?_ _) | (with_reducible refine Blk.drew ?_) | (with_reducible refine RowIn.drew ?_) | (with_reducible refine Below.drew ?_) | (with_reducible refine Blk.new' ?_ ?_ <;> first | (with_reducible rfl) | (simp; done)) | (with_reducible refine Blk.alloc ?_ _) | (with_reducible refine RowIn.alloc ?_ _) | (with_reducible refine Below.alloc ?_ ?_ _) | (with_reducible apply Blk.set') | (with_reducible apply Blk.far') | (with_reducible refine RowIn.far' ?_ ?_ _) | (with_reducible refine Below.far' ?_ ?_ _) | rfl | omega | go_size)
  · have HN : Hid (unpR l = (unpack lp, 0)) := by rw [HR.out, if_pos (of_decide_eq_true HQ.out.symm)]; exact Lib.hid rfl
    have HO : Hid (ofR lp = (unpack lp, 0)) := by unfold ofR; rw [if_neg (by rw [rp_2.len]; omega)]; exact Lib.hid rfl
    clear HR
    have HR := HN
    go_wp2_with fail
    have hcm : m ≤ c ∧ c ≤ 9223372036854775807 := by omega
    have HC := bof_ret (some ⟨b, o, none⟩) m c lp w2 rp_2.row hlp hcm
    rw [HO.out] at HC
    replace HC := Lib.hid HC
    refine (HC.out).mono ?_
    rintro e w3 ⟨Ay, my, cy, xy, rfl, hcy, ry, HXy, b3⟩
    replace ry := ry.mono (lo' := w2.heap.size + 0) (by go_size) (Nat.le_refl _)
    have s3 := b3.size
    try simp only [World.size_alloc, World.size_setCell, World.size_drew, size_drewN] at s3
    obtain ⟨zr_3, rp_3, ry_3, bb_3⟩ : Blk w3 (w.heap.size) 25 [.slice none 0 0, .int .i64 0] ∧ RowIn .u8 w3 (0) (w.heap.size) (some ⟨b, o, none⟩) m lp ∧ RowIn .u8 w3 (w2.heap.size + 0) (w3.heap.size) Ay my (pack xy) ∧ Below w.heap.size w w3 := by
      refine ⟨?_, ?_, ?_, ?_⟩
      all_goals repeat' (first | (with_reducible assumption) | (with_reducible exact Below.refl _ _) | (with_reducible refine Blk.after ?_ b3) | (with_reducible refine RowIn.belowS ?_ b3) | (with_reducible refine Below.after ?_ b3 ?_) | (with_reducible refine Blk.drewN ?_ _) | (with_reducible refine RowIn.drewN ?_ _) | (with_reducible refine below_drewN ?_ _) | (with_reducible refine Blk.drew ?_) | (with_reducible refine RowIn.drew ?_) | (with_reducible refine Below.drew ?_) | (with_reducible refine Blk.new' ?_ ?_ <;> first | (with_reducible rfl) | (simp; done)) | (with_reducible refine Blk.alloc ?_ _) | (with_reducible refine RowIn.alloc ?_ _) | (with_reducible refine Below.alloc ?_ ?_ _) | (with_reducible apply Blk.set') | (with_reducible apply Blk.far') | (with_reducible refine RowIn.far' ?_ ?_ _) | (with_reducible refine Below.far' ?_ ?_ _) | rfl | omega | go_size)
    clear zr_2 rp_2 bb_2 kr_2 fr_2 lr_2 b3
    have kr_3 := zr_3.cell; have fr_3 := zr_3.frozen; have lr_3 := zr_3.lt
    clear ry
    go_wp2
    refine bodyPost_ret (v := .tuple #[.agg #[.slice Ay my cy, .int .i64 ((xy.length : Nat) : Int)], .int .i64 0]) (by simp [results, Try.results11, go_sem, kr_3]) rfl ?_
    rw [HR.out]
    refine RetB.of rfl ⟨Ay, my, cy, by rw [← HXy.out], hcy, ?_⟩ ?_
    · rw [← HXy.out]
      refine RowIn.mono (lo := w2.heap.size + 0) (hi := w3.heap.size) ?_ (by go_size) (by go_size)
      repeat' (first | (with_reducible assumption) | (with_reducible exact Below.refl _ _) | (with_reducible refine Blk.drewN ?_ _) | (with_reducible refine RowIn.drewN ?_ _) | (with_reducible refine below_drewN ?_ _) | (with_reducible refine Blk.drew ?_) | (with_reducible refine RowIn.drew ?_) | (with_reducible refine Below.drew ?_) | (with_reducible refine Blk.new' ?_ ?_ <;> first | (with_reducible rfl) | (simp; done)) | (with_reducible refine Blk.alloc ?_ _) | (with_reducible refine RowIn.alloc ?_ _) | (with_reducible refine Below.alloc ?_ ?_ _) | (with_reducible apply Blk.set') | (with_reducible apply Blk.far') | (with_reducible refine RowIn.far' ?_ ?_ _) | (with_reducible refine Below.far' ?_ ?_ _) | rfl | omega | go_size)
    · repeat' (first | (with_reducible assumption) | (with_reducible exact Below.refl _ _) | (with_reducible refine Blk.drewN ?_ _) | (with_reducible refine RowIn.drewN ?_ _) | (with_reducible refine below_drewN ?_ _) | (with_reducible refine Blk.drew ?_) | (with_reducible refine RowIn.drew ?_) | (with_reducible refine Below.drew ?_) | (with_reducible refine Blk.new' ?_ ?_ <;> first | (with_reducible rfl) | (simp; done)) | (with_reducible refine Blk.alloc ?_ _) | (with_reducible refine RowIn.alloc ?_ _) | (with_reducible refine Below.alloc ?_ ?_ _) | (with_reducible apply Blk.set') | (with_reducible apply Blk.far') | (with_reducible refine RowIn.far' ?_ ?_ _) | (with_reducible refine Below.far' ?_ ?_ _) | rfl | omega | go_size)


end Go.Proofs.Ytncmnfnminjchaa
