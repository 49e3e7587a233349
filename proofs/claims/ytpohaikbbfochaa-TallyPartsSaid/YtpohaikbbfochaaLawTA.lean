/-
  The examples of chapter 12; the walks of TallyCounts and TallyFits.
-/
import Derived.Test.YtpohaikbbfochaaTalA
import Derived.Test.YtpohaikbbfochaaRefTA
namespace Go.Proofs.Ytpohaikbbfochaa
open Go.RowKit Cad Cad.Bit Cad.Code
set_option linter.unusedVariables false
set_option linter.unusedSimpArgs false


theorem teach_c (A : Option Addr) (n c : Nat) (xs l : List Int) (w : World) (ha : Row .u32 w A n xs) (hx : Within 0 4294967295 xs) (hn : n ≤ 4000) (he : lens Cad.Code.start xs n = l) :
    Calls Try.prog 10 #[.slice A n c] w (RetI w l 0) := by rw [← he]; exact teach_ok A n c xs w ha hx hn
theorem tlen_c (A : Option Addr) (n c : Nat) (xs : List Int) (L : Nat) (w : World) (ha : Row .u32 w A n xs) (hx : Within 0 4294967295 xs) (hn : n ≤ 4000) (he : lenP Cad.Code.start xs n = L) :
    Calls Try.prog 12 #[.slice A n c] w fun e w' => e = .returned (.tuple #[.int .i64 (L : Int), .int .i64 0]) ∧ Below w.heap.size w w' := by rw [← he]; exact tlen_ok A n c xs w ha hx hn
theorem tbytes_c (A : Option Addr) (n c : Nat) (xs : List Int) (L : Nat) (w : World) (ha : Row .u32 w A n xs) (hx : Within 0 4294967295 xs) (hn : n ≤ 4000) (he : sizeB (lenP Cad.Code.start xs n) = L) :
    Calls Try.prog 14 #[.slice A n c] w fun e w' => e = .returned (.tuple #[.int .i64 (L : Int), .int .i64 0]) ∧ Below w.heap.size w w' := by rw [← he]; exact tbytes_ok A n c xs w ha hx hn
theorem tfits_c (A : Option Addr) (n c : Nat) (xs : List Int) (b L : Nat) (w : World) (ha : Row .u32 w A n xs) (hx : Within 0 4294967295 xs) (hn : n ≤ 4000) (hb : 4 ≤ b) (he : fitsAt Cad.Code.start xs b 0 n = L) :
    Calls Try.prog 20 #[.slice A n c, .int .i64 (b : Int)] w fun e w' => e = .returned (.tuple #[.int .i64 (L : Int), .int .i64 0]) ∧ Below w.heap.size w w' := by rw [← he]; exact tfits_ok A n c xs b w ha hx hn hb
theorem within_ex12 : Within 0 4294967295 [5, 2000] := by intro x hx; simp at hx; omega
theorem ex12_lens : lens Cad.Code.start [5, 2000] 2 = [11, 13] := by decide +kernel
theorem ex12_len : lenP Cad.Code.start [5, 2000] 2 = 24 := by decide +kernel
theorem ex12_fits : fitsAt Cad.Code.start [5, 2000] 6 0 2 = 1 := by decide +kernel
set_option maxRecDepth 100000 in
set_option maxHeartbeats 1000000 in
theorem alive12 (w : World) :
    Calls Try.prog 22 #[] w fun e w' => e = .returned (.bool true) ∧ Below w.heap.size w w' := by
  go_enter Try.func22, Try.ntmps22
  go_wp2_with fail
  have rl : RowIn .u32 (w.alloc (.cells #[.int .u32 5, .int .u32 2000] 43)) 0 (w.heap.size + 1) (some ⟨w.heap.size, 0, none⟩) 2 [5, 2000] := by have h := (row_new .u32 w [5, 2000] 43).rowIn; simpa using h
  obtain ⟨w1, hw1⟩ : ∃ w1, w1 = (w.alloc (.cells #[.int .u32 5, .int .u32 2000] 43)) := ⟨_, rfl⟩
  obtain ⟨rl_1, bb_1, s1⟩ : RowIn .u32 w1 (0) ((w.heap.size + 1)) (some ⟨w.heap.size, 0, none⟩) 2 [5, 2000] ∧ Below w.heap.size w w1 ∧ w.heap.size ≤ w1.heap.size := by
    rw [hw1]
    refine ⟨?_, ?_, by go_size⟩
    all_goals repeat' (first | (with_reducible first | assumption | exact Below.refl _ _ | refine Blk.drewN ?_ _ | refine RowIn.drewN ?_ _ | refine below_drewN ?_ _ | refine Blk.drew ?_ | refine RowIn.drew ?_ | refine Below.drew ?_) | (with_reducible refine Blk.new' ?_ ?_ <;> first | (with_reducible rfl) | (simp; done)) | (with_reducible first | refine Blk.alloc ?_ _ | refine RowIn.alloc ?_ _ | refine Below.alloc ?_ ?_ _ | apply Blk.set' | apply Blk.far' | refine RowIn.far' ?_ ?_ _ | refine Below.far' ?_ ?_ _) | (exact (Eq.refl _ : (_ : List Value) = _)) | omega | go_size)
  rw [← hw1]
  clear hw1
  clear rl
  refine (teach_c _ 2 2 [5, 2000] [11, 13] _ (by exact RowIn.row (lo := 0) (hi := (w.heap.size + 1)) (by repeat' (first | (with_reducible first | assumption | exact Below.refl _ _ | refine Blk.drewN ?_ _ | refine RowIn.drewN ?_ _ | refine below_drewN ?_ _ | refine Blk.drew ?_ | refine RowIn.drew ?_ | refine Below.drew ?_) | (with_reducible refine Blk.new' ?_ ?_ <;> first | (with_reducible rfl) | (simp; done)) | (with_reducible first | refine Blk.alloc ?_ _ | refine RowIn.alloc ?_ _ | refine Below.alloc ?_ ?_ _ | apply Blk.set' | apply Blk.far' | refine RowIn.far' ?_ ?_ _ | refine Below.far' ?_ ?_ _) | (exact (Eq.refl _ : (_ : List Value) = _)) | omega | go_size))) within_ex12 (by omega) ex12_lens).mono ?_
  rintro e w2 ⟨Aa, ma, ca, ya, rfl, hca, ra, HYa, b2⟩
  have lna := ra.len
  replace ra := ra.mono (lo' := w1.heap.size + 0) (by go_size) (Nat.le_refl _)
  have s2 := b2.size
  try simp only [World.size_alloc, World.size_setCell, World.size_drew, size_drewN] at s2
  obtain ⟨rl_2, ra_2, bb_2⟩ : RowIn .u32 w2 (0) ((w.heap.size + 1)) (some ⟨w.heap.size, 0, none⟩) 2 [5, 2000] ∧ RowIn .i64 w2 (w1.heap.size + 0) (w2.heap.size) Aa ma ya ∧ Below w.heap.size w w2 := by
    refine ⟨?_, ?_, ?_⟩
    all_goals repeat' (first | (with_reducible first | assumption | exact Below.refl _ _ | refine Blk.drewN ?_ _ | refine RowIn.drewN ?_ _ | refine below_drewN ?_ _ | refine Blk.drew ?_ | refine RowIn.drew ?_ | refine Below.drew ?_) | (with_reducible refine Blk.new' ?_ ?_ <;> first | (with_reducible rfl) | (simp; done)) | (with_reducible first | refine Blk.alloc ?_ _ | refine RowIn.alloc ?_ _ | refine Below.alloc ?_ ?_ _ | apply Blk.set' | apply Blk.far' | refine RowIn.far' ?_ ?_ _ | refine Below.far' ?_ ?_ _ | refine Blk.after ?_ b2 | refine RowIn.belowS ?_ b2 | refine Below.after ?_ b2 ?_) | (exact (Eq.refl _ : (_ : List Value) = _)) | omega | go_size)
  clear rl_1 bb_1 b2
  clear ra
  go_wp2_with fail
  refine (tlen_c _ 2 2 [5, 2000] 24 _ (by exact RowIn.row (lo := 0) (hi := (w.heap.size + 1)) (by repeat' (first | (with_reducible first | assumption | exact Below.refl _ _ | refine Blk.drewN ?_ _ | refine RowIn.drewN ?_ _ | refine below_drewN ?_ _ | refine Blk.drew ?_ | refine RowIn.drew ?_ | refine Below.drew ?_) | (with_reducible refine Blk.new' ?_ ?_ <;> first | (with_reducible rfl) | (simp; done)) | (with_reducible first | refine Blk.alloc ?_ _ | refine RowIn.alloc ?_ _ | refine Below.alloc ?_ ?_ _ | apply Blk.set' | apply Blk.far' | refine RowIn.far' ?_ ?_ _ | refine Below.far' ?_ ?_ _) | (exact (Eq.refl _ : (_ : List Value) = _)) | omega | go_size))) within_ex12 (by omega) ex12_len).mono ?_
  rintro e w3 ⟨rfl, b3⟩
  have s3 := b3.size
  try simp only [World.size_alloc, World.size_setCell, World.size_drew, size_drewN] at s3
  obtain ⟨rl_3, ra_3, bb_3⟩ : RowIn .u32 w3 (0) ((w.heap.size + 1)) (some ⟨w.heap.size, 0, none⟩) 2 [5, 2000] ∧ RowIn .i64 w3 (w1.heap.size + 0) (w2.heap.size) Aa ma ya ∧ Below w.heap.size w w3 := by
    refine ⟨?_, ?_, ?_⟩
    all_goals repeat' (first | (with_reducible first | assumption | exact Below.refl _ _ | refine Blk.drewN ?_ _ | refine RowIn.drewN ?_ _ | refine below_drewN ?_ _ | refine Blk.drew ?_ | refine RowIn.drew ?_ | refine Below.drew ?_) | (with_reducible refine Blk.new' ?_ ?_ <;> first | (with_reducible rfl) | (simp; done)) | (with_reducible first | refine Blk.alloc ?_ _ | refine RowIn.alloc ?_ _ | refine Below.alloc ?_ ?_ _ | apply Blk.set' | apply Blk.far' | refine RowIn.far' ?_ ?_ _ | refine Below.far' ?_ ?_ _ | refine Blk.after ?_ b3 | refine RowIn.belowS ?_ b3 | refine Below.after ?_ b3 ?_) | (exact (Eq.refl _ : (_ : List Value) = _)) | omega | go_size)
  clear rl_2 ra_2 bb_2 b3
  go_wp2_with fail
  refine (tbytes_c _ 2 2 [5, 2000] 7 _ (by exact RowIn.row (lo := 0) (hi := (w.heap.size + 1)) (by repeat' (first | (with_reducible first | assumption | exact Below.refl _ _ | refine Blk.drewN ?_ _ | refine RowIn.drewN ?_ _ | refine below_drewN ?_ _ | refine Blk.drew ?_ | refine RowIn.drew ?_ | refine Below.drew ?_) | (with_reducible refine Blk.new' ?_ ?_ <;> first | (with_reducible rfl) | (simp; done)) | (with_reducible first | refine Blk.alloc ?_ _ | refine RowIn.alloc ?_ _ | refine Below.alloc ?_ ?_ _ | apply Blk.set' | apply Blk.far' | refine RowIn.far' ?_ ?_ _ | refine Below.far' ?_ ?_ _) | (exact (Eq.refl _ : (_ : List Value) = _)) | omega | go_size))) within_ex12 (by omega) (by rw [ex12_len]; rfl)).mono ?_
  rintro e w4 ⟨rfl, b4⟩
  have s4 := b4.size
  try simp only [World.size_alloc, World.size_setCell, World.size_drew, size_drewN] at s4
  obtain ⟨rl_4, ra_4, bb_4⟩ : RowIn .u32 w4 (0) ((w.heap.size + 1)) (some ⟨w.heap.size, 0, none⟩) 2 [5, 2000] ∧ RowIn .i64 w4 (w1.heap.size + 0) (w2.heap.size) Aa ma ya ∧ Below w.heap.size w w4 := by
    refine ⟨?_, ?_, ?_⟩
    all_goals repeat' (first | (with_reducible first | assumption | exact Below.refl _ _ | refine Blk.drewN ?_ _ | refine RowIn.drewN ?_ _ | refine below_drewN ?_ _ | refine Blk.drew ?_ | refine RowIn.drew ?_ | refine Below.drew ?_) | (with_reducible refine Blk.new' ?_ ?_ <;> first | (with_reducible rfl) | (simp; done)) | (with_reducible first | refine Blk.alloc ?_ _ | refine RowIn.alloc ?_ _ | refine Below.alloc ?_ ?_ _ | apply Blk.set' | apply Blk.far' | refine RowIn.far' ?_ ?_ _ | refine Below.far' ?_ ?_ _ | refine Blk.after ?_ b4 | refine RowIn.belowS ?_ b4 | refine Below.after ?_ b4 ?_) | (exact (Eq.refl _ : (_ : List Value) = _)) | omega | go_size)
  clear rl_3 ra_3 bb_3 b4
  go_wp2_with fail
  refine (tfits_c _ 2 2 [5, 2000] 6 1 _ (by exact RowIn.row (lo := 0) (hi := (w.heap.size + 1)) (by repeat' (first | (with_reducible first | assumption | exact Below.refl _ _ | refine Blk.drewN ?_ _ | refine RowIn.drewN ?_ _ | refine below_drewN ?_ _ | refine Blk.drew ?_ | refine RowIn.drew ?_ | refine Below.drew ?_) | (with_reducible refine Blk.new' ?_ ?_ <;> first | (with_reducible rfl) | (simp; done)) | (with_reducible first | refine Blk.alloc ?_ _ | refine RowIn.alloc ?_ _ | refine Below.alloc ?_ ?_ _ | apply Blk.set' | apply Blk.far' | refine RowIn.far' ?_ ?_ _ | refine Below.far' ?_ ?_ _) | (exact (Eq.refl _ : (_ : List Value) = _)) | omega | go_size))) within_ex12 (by omega) (by omega) ex12_fits).mono ?_
  rintro e w5 ⟨rfl, b5⟩
  have s5 := b5.size
  try simp only [World.size_alloc, World.size_setCell, World.size_drew, size_drewN] at s5
  obtain ⟨rl_5, ra_5, bb_5⟩ : RowIn .u32 w5 (0) ((w.heap.size + 1)) (some ⟨w.heap.size, 0, none⟩) 2 [5, 2000] ∧ RowIn .i64 w5 (w1.heap.size + 0) (w2.heap.size) Aa ma ya ∧ Below w.heap.size w w5 := by
    refine ⟨?_, ?_, ?_⟩
    all_goals repeat' (first | (with_reducible first | assumption | exact Below.refl _ _ | refine Blk.drewN ?_ _ | refine RowIn.drewN ?_ _ | refine below_drewN ?_ _ | refine Blk.drew ?_ | refine RowIn.drew ?_ | refine Below.drew ?_) | (with_reducible refine Blk.new' ?_ ?_ <;> first | (with_reducible rfl) | (simp; done)) | (with_reducible first | refine Blk.alloc ?_ _ | refine RowIn.alloc ?_ _ | refine Below.alloc ?_ ?_ _ | apply Blk.set' | apply Blk.far' | refine RowIn.far' ?_ ?_ _ | refine Below.far' ?_ ?_ _ | refine Blk.after ?_ b5 | refine RowIn.belowS ?_ b5 | refine Below.after ?_ b5 ?_) | (exact (Eq.refl _ : (_ : List Value) = _)) | omega | go_size)
  clear rl_4 ra_4 bb_4 b5
  go_wp2_with fail
  have r2 : Row .i64 (w5.alloc (.cells #[.int .i64 11, .int .i64 13] 3)) (some ⟨w5.heap.size, 0, none⟩) 2 [11, 13] := row_new .i64 w5 [11, 13] 3
  have hma : ma = 2 := by rw [← lna, HYa.out]; rfl
  refine (r12same_eq Aa _ ma ca 2 2 ya [11, 13] _ (by exact RowIn.row (lo := w1.heap.size + 0) (hi := w2.heap.size) (by repeat' (first | (with_reducible first | assumption | exact Below.refl _ _ | refine Blk.drewN ?_ _ | refine RowIn.drewN ?_ _ | refine below_drewN ?_ _ | refine Blk.drew ?_ | refine RowIn.drew ?_ | refine Below.drew ?_) | (with_reducible refine Blk.new' ?_ ?_ <;> first | (with_reducible rfl) | (simp; done)) | (with_reducible first | refine Blk.alloc ?_ _ | refine RowIn.alloc ?_ _ | refine Below.alloc ?_ ?_ _ | apply Blk.set' | apply Blk.far' | refine RowIn.far' ?_ ?_ _ | refine Below.far' ?_ ?_ _) | (exact (Eq.refl _ : (_ : List Value) = _)) | omega | go_size))) r2 (by omega) HYa.out).mono ?_
  rintro e w6 ⟨rfl, b6⟩
  have s6 := b6.size
  try simp only [World.size_alloc, World.size_setCell, World.size_drew, size_drewN] at s6
  obtain ⟨rl_6, ra_6, bb_6⟩ : RowIn .u32 w6 (0) ((w.heap.size + 1)) (some ⟨w.heap.size, 0, none⟩) 2 [5, 2000] ∧ RowIn .i64 w6 (w1.heap.size + 0) (w2.heap.size) Aa ma ya ∧ Below w.heap.size w w6 := by
    refine ⟨?_, ?_, ?_⟩
    all_goals repeat' (first | (with_reducible first | assumption | exact Below.refl _ _ | refine Blk.drewN ?_ _ | refine RowIn.drewN ?_ _ | refine below_drewN ?_ _ | refine Blk.drew ?_ | refine RowIn.drew ?_ | refine Below.drew ?_) | (with_reducible refine Blk.new' ?_ ?_ <;> first | (with_reducible rfl) | (simp; done)) | (with_reducible first | refine Blk.alloc ?_ _ | refine RowIn.alloc ?_ _ | refine Below.alloc ?_ ?_ _ | apply Blk.set' | apply Blk.far' | refine RowIn.far' ?_ ?_ _ | refine Below.far' ?_ ?_ _ | refine Blk.after ?_ b6 | refine RowIn.belowS ?_ b6 | refine Below.after ?_ b6 ?_) | (exact (Eq.refl _ : (_ : List Value) = _)) | omega | go_size)
  clear rl_5 ra_5 bb_5 b6
  go_wp2
  go_ret
  refine ⟨rfl, ?_⟩
  repeat' (first | (with_reducible first | assumption | exact Below.refl _ _ | refine Blk.drewN ?_ _ | refine RowIn.drewN ?_ _ | refine below_drewN ?_ _ | refine Blk.drew ?_ | refine RowIn.drew ?_ | refine Below.drew ?_) | (with_reducible refine Blk.new' ?_ ?_ <;> first | (with_reducible rfl) | (simp; done)) | (with_reducible first | refine Blk.alloc ?_ _ | refine RowIn.alloc ?_ _ | refine Below.alloc ?_ ?_ _ | apply Blk.set' | apply Blk.far' | refine RowIn.far' ?_ ?_ _ | refine Below.far' ?_ ?_ _) | (exact (Eq.refl _ : (_ : List Value) = _)) | omega | go_size)

theorem u32T : Elem Try.prog 22 43 .u32 4 := ⟨Try.underlying22, Try.underlying43, by kernel_rfl, by decide⟩

set_option maxRecDepth 100000 in
set_option maxHeartbeats 4000000 in
theorem lawTallyCounts (w : World) (Al : Option Addr) (nl cl : Nat) (xsl : List Int) (hAl : RowC .u32 w Al nl cl xsl) (hxl : Within 0 4294967295 xsl) :
    Calls Try.prog 3 #[.slice Al nl cl] w fun e w' => e = .returned (.bool true) ∧ Below w.heap.size w w' := by
  have hal := hAl.row
  have hcl := hAl.2
  have hril := hal.rowIn
  have HLl := Lib.hid hal.len
  by_cases hg : 150 < nl ∧ nl ≤ 4000 ∨ 4010 < nl
  · go_enter Try.func3, Try.ntmps3
    go_wp2_with fail
    refine (r9great_yes Al nl cl _ hg).mono ?_
    rintro e w1 ⟨rfl, b1⟩
    have s1 := b1.size
    try simp only [World.size_alloc, World.size_setCell, World.size_drew, size_drewN] at s1
    obtain ⟨rl_1, bb_1⟩ : RowIn .u32 w1 (0) (w.heap.size) Al nl xsl ∧ Below w.heap.size w w1 := by
      refine ⟨?_, ?_⟩
      all_goals repeat' (first | (with_reducible first | assumption | exact Below.refl _ _ | refine Blk.drewN ?_ _ | refine RowIn.drewN ?_ _ | refine below_drewN ?_ _ | refine Blk.drew ?_ | refine RowIn.drew ?_ | refine Below.drew ?_) | (with_reducible refine Blk.new' ?_ ?_ <;> first | (with_reducible rfl) | (simp; done)) | (with_reducible first | refine Blk.alloc ?_ _ | refine RowIn.alloc ?_ _ | refine Below.alloc ?_ ?_ _ | apply Blk.set' | apply Blk.far' | refine RowIn.far' ?_ ?_ _ | refine Below.far' ?_ ?_ _ | refine Blk.after ?_ b1 | refine RowIn.belowS ?_ b1 | refine Below.after ?_ b1 ?_) | (exact (Eq.refl _ : (_ : List Value) = _)) | omega | go_size)
    clear b1
    go_wp2
    go_ret
    refine ⟨rfl, ?_⟩
    repeat' (first | (with_reducible first | assumption | exact Below.refl _ _ | refine Blk.drewN ?_ _ | refine RowIn.drewN ?_ _ | refine below_drewN ?_ _ | refine Blk.drew ?_ | refine RowIn.drew ?_ | refine Below.drew ?_) | (with_reducible refine Blk.new' ?_ ?_ <;> first | (with_reducible rfl) | (simp; done)) | (with_reducible first | refine Blk.alloc ?_ _ | refine RowIn.alloc ?_ _ | refine Below.alloc ?_ ?_ _ | apply Blk.set' | apply Blk.far' | refine RowIn.far' ?_ ?_ _ | refine Below.far' ?_ ?_ _) | (exact (Eq.refl _ : (_ : List Value) = _)) | omega | go_size)
  by_cases h : nl ≤ 4000
  · go_enter Try.func3, Try.ntmps3
    go_wp2_with fail
    refine (r9great_no Al nl cl _ hg).mono ?_
    rintro e w1 ⟨rfl, b1⟩
    have s1 := b1.size
    try simp only [World.size_alloc, World.size_setCell, World.size_drew, size_drewN] at s1
    obtain ⟨rl_1, bb_1⟩ : RowIn .u32 w1 (0) (w.heap.size) Al nl xsl ∧ Below w.heap.size w w1 := by
      refine ⟨?_, ?_⟩
      all_goals repeat' (first | (with_reducible first | assumption | exact Below.refl _ _ | refine Blk.drewN ?_ _ | refine RowIn.drewN ?_ _ | refine below_drewN ?_ _ | refine Blk.drew ?_ | refine RowIn.drew ?_ | refine Below.drew ?_) | (with_reducible refine Blk.new' ?_ ?_ <;> first | (with_reducible rfl) | (simp; done)) | (with_reducible first | refine Blk.alloc ?_ _ | refine RowIn.alloc ?_ _ | refine Below.alloc ?_ ?_ _ | apply Blk.set' | apply Blk.far' | refine RowIn.far' ?_ ?_ _ | refine Below.far' ?_ ?_ _ | refine Blk.after ?_ b1 | refine RowIn.belowS ?_ b1 | refine Below.after ?_ b1 ?_) | (exact (Eq.refl _ : (_ : List Value) = _)) | omega | go_size)
    clear b1
    have s1w : w.heap.size ≤ w1.heap.size := bb_1.size
    go_wp2_with (at_builtin; refine wpList_app _ u32T rfl _ _ rfl w1.heap.size _ _ _ [] rfl (own_empty' rfl (Nat.le_refl _)) _ _ _ xsl rfl (by exact rl_1.row.alloc _) (by omega) (by simp) ?_)
    intro Ao co w2 own2 hg2 hat2
    try rw [Nat.zero_add, List.nil_append] at own2
    have b2 : Below w1.heap.size w1 w2 := ((Below.refl _ _).alloc (Nat.le_refl _) _).grown hg2 (by simp) (fun g e => by simp [blockOf] at e; omega)
    have ro := own2.rowIn
    have hco := own2.rowC.2
    have s2 := b2.size
    try simp only [World.size_alloc, World.size_setCell, World.size_drew, size_drewN] at s2
    obtain ⟨rl_2, ro_2, bb_2⟩ : RowIn .u32 w2 (0) (w.heap.size) Al nl xsl ∧ RowIn .u32 w2 (w1.heap.size) (w2.heap.size) Ao nl xsl ∧ Below w.heap.size w w2 := by
      refine ⟨?_, ?_, ?_⟩
      all_goals repeat' (first | (with_reducible first | assumption | exact Below.refl _ _ | refine Blk.drewN ?_ _ | refine RowIn.drewN ?_ _ | refine below_drewN ?_ _ | refine Blk.drew ?_ | refine RowIn.drew ?_ | refine Below.drew ?_) | (with_reducible refine Blk.new' ?_ ?_ <;> first | (with_reducible rfl) | (simp; done)) | (with_reducible first | refine Blk.alloc ?_ _ | refine RowIn.alloc ?_ _ | refine Below.alloc ?_ ?_ _ | apply Blk.set' | apply Blk.far' | refine RowIn.far' ?_ ?_ _ | refine Below.far' ?_ ?_ _ | refine Blk.after ?_ b2 | refine RowIn.belowS ?_ b2 | refine Below.after ?_ b2 ?_) | (exact (Eq.refl _ : (_ : List Value) = _)) | omega | go_size)
    clear rl_1 bb_1 b2
    clear ro own2 hg2 hat2
    go_wp2_with fail
    refine (teach_ok Ao nl co xsl _ (by exact RowIn.row (lo := w1.heap.size) (hi := w2.heap.size) (by repeat' (first | (with_reducible first | assumption | exact Below.refl _ _ | refine Blk.drewN ?_ _ | refine RowIn.drewN ?_ _ | refine below_drewN ?_ _ | refine Blk.drew ?_ | refine RowIn.drew ?_ | refine Below.drew ?_) | (with_reducible refine Blk.new' ?_ ?_ <;> first | (with_reducible rfl) | (simp; done)) | (with_reducible first | refine Blk.alloc ?_ _ | refine RowIn.alloc ?_ _ | refine Below.alloc ?_ ?_ _ | apply Blk.set' | apply Blk.far' | refine RowIn.far' ?_ ?_ _ | refine Below.far' ?_ ?_ _) | (exact (Eq.refl _ : (_ : List Value) = _)) | omega | go_size))) hxl h).mono ?_
    rintro e w3 ⟨Aa, ma, ca, ya, rfl, hca, ra, HYa, b3⟩
    have lna := ra.len
    replace ra := ra.mono (lo' := w2.heap.size + 0) (by go_size) (Nat.le_refl _)
    have s3 := b3.size
    try simp only [World.size_alloc, World.size_setCell, World.size_drew, size_drewN] at s3
    obtain ⟨rl_3, ro_3, ra_3, bb_3⟩ : RowIn .u32 w3 (0) (w.heap.size) Al nl xsl ∧ RowIn .u32 w3 (w1.heap.size) (w2.heap.size) Ao nl xsl ∧ RowIn .i64 w3 (w2.heap.size + 0) (w3.heap.size) Aa ma ya ∧ Below w.heap.size w w3 := by
      refine ⟨?_, ?_, ?_, ?_⟩
      all_goals repeat' (first | (with_reducible first | assumption | exact Below.refl _ _ | refine Blk.drewN ?_ _ | refine RowIn.drewN ?_ _ | refine below_drewN ?_ _ | refine Blk.drew ?_ | refine RowIn.drew ?_ | refine Below.drew ?_) | (with_reducible refine Blk.new' ?_ ?_ <;> first | (with_reducible rfl) | (simp; done)) | (with_reducible first | refine Blk.alloc ?_ _ | refine RowIn.alloc ?_ _ | refine Below.alloc ?_ ?_ _ | apply Blk.set' | apply Blk.far' | refine RowIn.far' ?_ ?_ _ | refine Below.far' ?_ ?_ _ | refine Blk.after ?_ b3 | refine RowIn.belowS ?_ b3 | refine Below.after ?_ b3 ?_) | (exact (Eq.refl _ : (_ : List Value) = _)) | omega | go_size)
    clear rl_2 ro_2 bb_2 b3
    clear ra
    go_wp2_with fail
    refine (r12each_ok Al nl cl xsl _ (by exact RowIn.row (lo := 0) (hi := w.heap.size) (by repeat' (first | (with_reducible first | assumption | exact Below.refl _ _ | refine Blk.drewN ?_ _ | refine RowIn.drewN ?_ _ | refine below_drewN ?_ _ | refine Blk.drew ?_ | refine RowIn.drew ?_ | refine Below.drew ?_) | (with_reducible refine Blk.new' ?_ ?_ <;> first | (with_reducible rfl) | (simp; done)) | (with_reducible first | refine Blk.alloc ?_ _ | refine RowIn.alloc ?_ _ | refine Below.alloc ?_ ?_ _ | apply Blk.set' | apply Blk.far' | refine RowIn.far' ?_ ?_ _ | refine Below.far' ?_ ?_ _) | (exact (Eq.refl _ : (_ : List Value) = _)) | omega | go_size))) hxl h).mono ?_
    rintro e w4 ⟨Ab, mb, cb, yb, rfl, hcb, rb, HYb, b4⟩
    have lnb := rb.len
    replace rb := rb.mono (lo' := w3.heap.size + 0) (by go_size) (Nat.le_refl _)
    have s4 := b4.size
    try simp only [World.size_alloc, World.size_setCell, World.size_drew, size_drewN] at s4
    obtain ⟨rl_4, ro_4, ra_4, rb_4, bb_4⟩ : RowIn .u32 w4 (0) (w.heap.size) Al nl xsl ∧ RowIn .u32 w4 (w1.heap.size) (w2.heap.size) Ao nl xsl ∧ RowIn .i64 w4 (w2.heap.size + 0) (w3.heap.size) Aa ma ya ∧ RowIn .i64 w4 (w3.heap.size + 0) (w4.heap.size) Ab mb yb ∧ Below w.heap.size w w4 := by
      refine ⟨?_, ?_, ?_, ?_, ?_⟩
      all_goals repeat' (first | (with_reducible first | assumption | exact Below.refl _ _ | refine Blk.drewN ?_ _ | refine RowIn.drewN ?_ _ | refine below_drewN ?_ _ | refine Blk.drew ?_ | refine RowIn.drew ?_ | refine Below.drew ?_) | (with_reducible refine Blk.new' ?_ ?_ <;> first | (with_reducible rfl) | (simp; done)) | (with_reducible first | refine Blk.alloc ?_ _ | refine RowIn.alloc ?_ _ | refine Below.alloc ?_ ?_ _ | apply Blk.set' | apply Blk.far' | refine RowIn.far' ?_ ?_ _ | refine Below.far' ?_ ?_ _ | refine Blk.after ?_ b4 | refine RowIn.belowS ?_ b4 | refine Below.after ?_ b4 ?_) | (exact (Eq.refl _ : (_ : List Value) = _)) | omega | go_size)
    clear rl_3 ro_3 ra_3 bb_3 b4
    clear rb
    go_wp2_with fail
    refine (tlen_ok Ao nl co xsl _ (by exact RowIn.row (lo := w1.heap.size) (hi := w2.heap.size) (by repeat' (first | (with_reducible first | assumption | exact Below.refl _ _ | refine Blk.drewN ?_ _ | refine RowIn.drewN ?_ _ | refine below_drewN ?_ _ | refine Blk.drew ?_ | refine RowIn.drew ?_ | refine Below.drew ?_) | (with_reducible refine Blk.new' ?_ ?_ <;> first | (with_reducible rfl) | (simp; done)) | (with_reducible first | refine Blk.alloc ?_ _ | refine RowIn.alloc ?_ _ | refine Below.alloc ?_ ?_ _ | apply Blk.set' | apply Blk.far' | refine RowIn.far' ?_ ?_ _ | refine Below.far' ?_ ?_ _) | (exact (Eq.refl _ : (_ : List Value) = _)) | omega | go_size))) hxl h).mono ?_
    rintro e w5 ⟨rfl, b5⟩
    have s5 := b5.size
    try simp only [World.size_alloc, World.size_setCell, World.size_drew, size_drewN] at s5
    obtain ⟨rl_5, ro_5, ra_5, rb_5, bb_5⟩ : RowIn .u32 w5 (0) (w.heap.size) Al nl xsl ∧ RowIn .u32 w5 (w1.heap.size) (w2.heap.size) Ao nl xsl ∧ RowIn .i64 w5 (w2.heap.size + 0) (w3.heap.size) Aa ma ya ∧ RowIn .i64 w5 (w3.heap.size + 0) (w4.heap.size) Ab mb yb ∧ Below w.heap.size w w5 := by
      refine ⟨?_, ?_, ?_, ?_, ?_⟩
      all_goals repeat' (first | (with_reducible first | assumption | exact Below.refl _ _ | refine Blk.drewN ?_ _ | refine RowIn.drewN ?_ _ | refine below_drewN ?_ _ | refine Blk.drew ?_ | refine RowIn.drew ?_ | refine Below.drew ?_) | (with_reducible refine Blk.new' ?_ ?_ <;> first | (with_reducible rfl) | (simp; done)) | (with_reducible first | refine Blk.alloc ?_ _ | refine RowIn.alloc ?_ _ | refine Below.alloc ?_ ?_ _ | apply Blk.set' | apply Blk.far' | refine RowIn.far' ?_ ?_ _ | refine Below.far' ?_ ?_ _ | refine Blk.after ?_ b5 | refine RowIn.belowS ?_ b5 | refine Below.after ?_ b5 ?_) | (exact (Eq.refl _ : (_ : List Value) = _)) | omega | go_size)
    clear rl_4 ro_4 ra_4 rb_4 bb_4 b5
    go_wp2_with fail
    refine (r12len_ok Al nl cl xsl _ (by exact RowIn.row (lo := 0) (hi := w.heap.size) (by repeat' (first | (with_reducible first | assumption | exact Below.refl _ _ | refine Blk.drewN ?_ _ | refine RowIn.drewN ?_ _ | refine below_drewN ?_ _ | refine Blk.drew ?_ | refine RowIn.drew ?_ | refine Below.drew ?_) | (with_reducible refine Blk.new' ?_ ?_ <;> first | (with_reducible rfl) | (simp; done)) | (with_reducible first | refine Blk.alloc ?_ _ | refine RowIn.alloc ?_ _ | refine Below.alloc ?_ ?_ _ | apply Blk.set' | apply Blk.far' | refine RowIn.far' ?_ ?_ _ | refine Below.far' ?_ ?_ _) | (exact (Eq.refl _ : (_ : List Value) = _)) | omega | go_size))) hxl h).mono ?_
    rintro e w6 ⟨rfl, b6⟩
    have s6 := b6.size
    try simp only [World.size_alloc, World.size_setCell, World.size_drew, size_drewN] at s6
    obtain ⟨rl_6, ro_6, ra_6, rb_6, bb_6⟩ : RowIn .u32 w6 (0) (w.heap.size) Al nl xsl ∧ RowIn .u32 w6 (w1.heap.size) (w2.heap.size) Ao nl xsl ∧ RowIn .i64 w6 (w2.heap.size + 0) (w3.heap.size) Aa ma ya ∧ RowIn .i64 w6 (w3.heap.size + 0) (w4.heap.size) Ab mb yb ∧ Below w.heap.size w w6 := by
      refine ⟨?_, ?_, ?_, ?_, ?_⟩
      all_goals repeat' (first | (with_reducible first | assumption | exact Below.refl _ _ | refine Blk.drewN ?_ _ | refine RowIn.drewN ?_ _ | refine below_drewN ?_ _ | refine Blk.drew ?_ | refine RowIn.drew ?_ | refine Below.drew ?_) | (with_reducible refine Blk.new' ?_ ?_ <;> first | (with_reducible rfl) | (simp; done)) | (with_reducible first | refine Blk.alloc ?_ _ | refine RowIn.alloc ?_ _ | refine Below.alloc ?_ ?_ _ | apply Blk.set' | apply Blk.far' | refine RowIn.far' ?_ ?_ _ | refine Below.far' ?_ ?_ _ | refine Blk.after ?_ b6 | refine RowIn.belowS ?_ b6 | refine Below.after ?_ b6 ?_) | (exact (Eq.refl _ : (_ : List Value) = _)) | omega | go_size)
    clear rl_5 ro_5 ra_5 rb_5 bb_5 b6
    go_wp2_with fail
    refine (tbytes_ok Ao nl co xsl _ (by exact RowIn.row (lo := w1.heap.size) (hi := w2.heap.size) (by repeat' (first | (with_reducible first | assumption | exact Below.refl _ _ | refine Blk.drewN ?_ _ | refine RowIn.drewN ?_ _ | refine below_drewN ?_ _ | refine Blk.drew ?_ | refine RowIn.drew ?_ | refine Below.drew ?_) | (with_reducible refine Blk.new' ?_ ?_ <;> first | (with_reducible rfl) | (simp; done)) | (with_reducible first | refine Blk.alloc ?_ _ | refine RowIn.alloc ?_ _ | refine Below.alloc ?_ ?_ _ | apply Blk.set' | apply Blk.far' | refine RowIn.far' ?_ ?_ _ | refine Below.far' ?_ ?_ _) | (exact (Eq.refl _ : (_ : List Value) = _)) | omega | go_size))) hxl h).mono ?_
    rintro e w7 ⟨rfl, b7⟩
    have s7 := b7.size
    try simp only [World.size_alloc, World.size_setCell, World.size_drew, size_drewN] at s7
    obtain ⟨rl_7, ro_7, ra_7, rb_7, bb_7⟩ : RowIn .u32 w7 (0) (w.heap.size) Al nl xsl ∧ RowIn .u32 w7 (w1.heap.size) (w2.heap.size) Ao nl xsl ∧ RowIn .i64 w7 (w2.heap.size + 0) (w3.heap.size) Aa ma ya ∧ RowIn .i64 w7 (w3.heap.size + 0) (w4.heap.size) Ab mb yb ∧ Below w.heap.size w w7 := by
      refine ⟨?_, ?_, ?_, ?_, ?_⟩
      all_goals repeat' (first | (with_reducible first | assumption | exact Below.refl _ _ | refine Blk.drewN ?_ _ | refine RowIn.drewN ?_ _ | refine below_drewN ?_ _ | refine Blk.drew ?_ | refine RowIn.drew ?_ | refine Below.drew ?_) | (with_reducible refine Blk.new' ?_ ?_ <;> first | (with_reducible rfl) | (simp; done)) | (with_reducible first | refine Blk.alloc ?_ _ | refine RowIn.alloc ?_ _ | refine Below.alloc ?_ ?_ _ | apply Blk.set' | apply Blk.far' | refine RowIn.far' ?_ ?_ _ | refine Below.far' ?_ ?_ _ | refine Blk.after ?_ b7 | refine RowIn.belowS ?_ b7 | refine Below.after ?_ b7 ?_) | (exact (Eq.refl _ : (_ : List Value) = _)) | omega | go_size)
    clear rl_6 ro_6 ra_6 rb_6 bb_6 b7
    go_wp2_with fail
    refine (r12bytes_ok Al nl cl xsl _ (by exact RowIn.row (lo := 0) (hi := w.heap.size) (by repeat' (first | (with_reducible first | assumption | exact Below.refl _ _ | refine Blk.drewN ?_ _ | refine RowIn.drewN ?_ _ | refine below_drewN ?_ _ | refine Blk.drew ?_ | refine RowIn.drew ?_ | refine Below.drew ?_) | (with_reducible refine Blk.new' ?_ ?_ <;> first | (with_reducible rfl) | (simp; done)) | (with_reducible first | refine Blk.alloc ?_ _ | refine RowIn.alloc ?_ _ | refine Below.alloc ?_ ?_ _ | apply Blk.set' | apply Blk.far' | refine RowIn.far' ?_ ?_ _ | refine Below.far' ?_ ?_ _) | (exact (Eq.refl _ : (_ : List Value) = _)) | omega | go_size))) hxl h).mono ?_
    rintro e w8 ⟨rfl, b8⟩
    have s8 := b8.size
    try simp only [World.size_alloc, World.size_setCell, World.size_drew, size_drewN] at s8
    obtain ⟨rl_8, ro_8, ra_8, rb_8, bb_8⟩ : RowIn .u32 w8 (0) (w.heap.size) Al nl xsl ∧ RowIn .u32 w8 (w1.heap.size) (w2.heap.size) Ao nl xsl ∧ RowIn .i64 w8 (w2.heap.size + 0) (w3.heap.size) Aa ma ya ∧ RowIn .i64 w8 (w3.heap.size + 0) (w4.heap.size) Ab mb yb ∧ Below w.heap.size w w8 := by
      refine ⟨?_, ?_, ?_, ?_, ?_⟩
      all_goals repeat' (first | (with_reducible first | assumption | exact Below.refl _ _ | refine Blk.drewN ?_ _ | refine RowIn.drewN ?_ _ | refine below_drewN ?_ _ | refine Blk.drew ?_ | refine RowIn.drew ?_ | refine Below.drew ?_) | (with_reducible refine Blk.new' ?_ ?_ <;> first | (with_reducible rfl) | (simp; done)) | (with_reducible first | refine Blk.alloc ?_ _ | refine RowIn.alloc ?_ _ | refine Below.alloc ?_ ?_ _ | apply Blk.set' | apply Blk.far' | refine RowIn.far' ?_ ?_ _ | refine Below.far' ?_ ?_ _ | refine Blk.after ?_ b8 | refine RowIn.belowS ?_ b8 | refine Below.after ?_ b8 ?_) | (exact (Eq.refl _ : (_ : List Value) = _)) | omega | go_size)
    clear rl_7 ro_7 ra_7 rb_7 bb_7 b8
    go_wp2_with fail
    have hma : ma ≤ 4000 := by rw [← lna, HYa.out]; first | (rw [lens_len]; omega) | decide
    refine (r12same_eq Aa Ab ma ca mb cb ya yb _ (by exact RowIn.row (lo := w2.heap.size + 0) (hi := w3.heap.size) (by repeat' (first | (with_reducible first | assumption | exact Below.refl _ _ | refine Blk.drewN ?_ _ | refine RowIn.drewN ?_ _ | refine below_drewN ?_ _ | refine Blk.drew ?_ | refine RowIn.drew ?_ | refine Below.drew ?_) | (with_reducible refine Blk.new' ?_ ?_ <;> first | (with_reducible rfl) | (simp; done)) | (with_reducible first | refine Blk.alloc ?_ _ | refine RowIn.alloc ?_ _ | refine Below.alloc ?_ ?_ _ | apply Blk.set' | apply Blk.far' | refine RowIn.far' ?_ ?_ _ | refine Below.far' ?_ ?_ _) | (exact (Eq.refl _ : (_ : List Value) = _)) | omega | go_size))) (by exact RowIn.row (lo := w3.heap.size + 0) (hi := w4.heap.size) (by repeat' (first | (with_reducible first | assumption | exact Below.refl _ _ | refine Blk.drewN ?_ _ | refine RowIn.drewN ?_ _ | refine below_drewN ?_ _ | refine Blk.drew ?_ | refine RowIn.drew ?_ | refine Below.drew ?_) | (with_reducible refine Blk.new' ?_ ?_ <;> first | (with_reducible rfl) | (simp; done)) | (with_reducible first | refine Blk.alloc ?_ _ | refine RowIn.alloc ?_ _ | refine Below.alloc ?_ ?_ _ | apply Blk.set' | apply Blk.far' | refine RowIn.far' ?_ ?_ _ | refine Below.far' ?_ ?_ _) | (exact (Eq.refl _ : (_ : List Value) = _)) | omega | go_size))) (by omega) (by rw [HYa.out, HYb.out])).mono ?_
    rintro e w9 ⟨rfl, b9⟩
    have s9 := b9.size
    try simp only [World.size_alloc, World.size_setCell, World.size_drew, size_drewN] at s9
    obtain ⟨rl_9, ro_9, ra_9, rb_9, bb_9⟩ : RowIn .u32 w9 (0) (w.heap.size) Al nl xsl ∧ RowIn .u32 w9 (w1.heap.size) (w2.heap.size) Ao nl xsl ∧ RowIn .i64 w9 (w2.heap.size + 0) (w3.heap.size) Aa ma ya ∧ RowIn .i64 w9 (w3.heap.size + 0) (w4.heap.size) Ab mb yb ∧ Below w.heap.size w w9 := by
      refine ⟨?_, ?_, ?_, ?_, ?_⟩
      all_goals repeat' (first | (with_reducible first | assumption | exact Below.refl _ _ | refine Blk.drewN ?_ _ | refine RowIn.drewN ?_ _ | refine below_drewN ?_ _ | refine Blk.drew ?_ | refine RowIn.drew ?_ | refine Below.drew ?_) | (with_reducible refine Blk.new' ?_ ?_ <;> first | (with_reducible rfl) | (simp; done)) | (with_reducible first | refine Blk.alloc ?_ _ | refine RowIn.alloc ?_ _ | refine Below.alloc ?_ ?_ _ | apply Blk.set' | apply Blk.far' | refine RowIn.far' ?_ ?_ _ | refine Below.far' ?_ ?_ _ | refine Blk.after ?_ b9 | refine RowIn.belowS ?_ b9 | refine Below.after ?_ b9 ?_) | (exact (Eq.refl _ : (_ : List Value) = _)) | omega | go_size)
    clear rl_8 ro_8 ra_8 rb_8 bb_8 b9
    go_wp2_with fail
    refine (r9same_eq Ao Al nl co nl cl xsl xsl _ (by exact RowIn.row (lo := w1.heap.size) (hi := w2.heap.size) (by repeat' (first | (with_reducible first | assumption | exact Below.refl _ _ | refine Blk.drewN ?_ _ | refine RowIn.drewN ?_ _ | refine below_drewN ?_ _ | refine Blk.drew ?_ | refine RowIn.drew ?_ | refine Below.drew ?_) | (with_reducible refine Blk.new' ?_ ?_ <;> first | (with_reducible rfl) | (simp; done)) | (with_reducible first | refine Blk.alloc ?_ _ | refine RowIn.alloc ?_ _ | refine Below.alloc ?_ ?_ _ | apply Blk.set' | apply Blk.far' | refine RowIn.far' ?_ ?_ _ | refine Below.far' ?_ ?_ _) | (exact (Eq.refl _ : (_ : List Value) = _)) | omega | go_size))) (by exact RowIn.row (lo := 0) (hi := w.heap.size) (by repeat' (first | (with_reducible first | assumption | exact Below.refl _ _ | refine Blk.drewN ?_ _ | refine RowIn.drewN ?_ _ | refine below_drewN ?_ _ | refine Blk.drew ?_ | refine RowIn.drew ?_ | refine Below.drew ?_) | (with_reducible refine Blk.new' ?_ ?_ <;> first | (with_reducible rfl) | (simp; done)) | (with_reducible first | refine Blk.alloc ?_ _ | refine RowIn.alloc ?_ _ | refine Below.alloc ?_ ?_ _ | apply Blk.set' | apply Blk.far' | refine RowIn.far' ?_ ?_ _ | refine Below.far' ?_ ?_ _) | (exact (Eq.refl _ : (_ : List Value) = _)) | omega | go_size))) (by omega) rfl).mono ?_
    rintro e w10 ⟨rfl, b10⟩
    have s10 := b10.size
    try simp only [World.size_alloc, World.size_setCell, World.size_drew, size_drewN] at s10
    obtain ⟨rl_10, ro_10, ra_10, rb_10, bb_10⟩ : RowIn .u32 w10 (0) (w.heap.size) Al nl xsl ∧ RowIn .u32 w10 (w1.heap.size) (w2.heap.size) Ao nl xsl ∧ RowIn .i64 w10 (w2.heap.size + 0) (w3.heap.size) Aa ma ya ∧ RowIn .i64 w10 (w3.heap.size + 0) (w4.heap.size) Ab mb yb ∧ Below w.heap.size w w10 := by
      refine ⟨?_, ?_, ?_, ?_, ?_⟩
      all_goals repeat' (first | (with_reducible first | assumption | exact Below.refl _ _ | refine Blk.drewN ?_ _ | refine RowIn.drewN ?_ _ | refine below_drewN ?_ _ | refine Blk.drew ?_ | refine RowIn.drew ?_ | refine Below.drew ?_) | (with_reducible refine Blk.new' ?_ ?_ <;> first | (with_reducible rfl) | (simp; done)) | (with_reducible first | refine Blk.alloc ?_ _ | refine RowIn.alloc ?_ _ | refine Below.alloc ?_ ?_ _ | apply Blk.set' | apply Blk.far' | refine RowIn.far' ?_ ?_ _ | refine Below.far' ?_ ?_ _ | refine Blk.after ?_ b10 | refine RowIn.belowS ?_ b10 | refine Below.after ?_ b10 ?_) | (exact (Eq.refl _ : (_ : List Value) = _)) | omega | go_size)
    clear rl_9 ro_9 ra_9 rb_9 bb_9 b10
    go_wp2
    go_ret
    refine ⟨rfl, ?_⟩
    repeat' (first | (with_reducible first | assumption | exact Below.refl _ _ | refine Blk.drewN ?_ _ | refine RowIn.drewN ?_ _ | refine below_drewN ?_ _ | refine Blk.drew ?_ | refine RowIn.drew ?_ | refine Below.drew ?_) | (with_reducible refine Blk.new' ?_ ?_ <;> first | (with_reducible rfl) | (simp; done)) | (with_reducible first | refine Blk.alloc ?_ _ | refine RowIn.alloc ?_ _ | refine Below.alloc ?_ ?_ _ | apply Blk.set' | apply Blk.far' | refine RowIn.far' ?_ ?_ _ | refine Below.far' ?_ ?_ _) | (exact (Eq.refl _ : (_ : List Value) = _)) | omega | go_size)
  · replace h : 4000 < nl := by omega
    go_enter Try.func3, Try.ntmps3
    go_wp2_with fail
    refine (r9great_no Al nl cl _ hg).mono ?_
    rintro e w1 ⟨rfl, b1⟩
    have s1 := b1.size
    try simp only [World.size_alloc, World.size_setCell, World.size_drew, size_drewN] at s1
    obtain ⟨rl_1, bb_1⟩ : RowIn .u32 w1 (0) (w.heap.size) Al nl xsl ∧ Below w.heap.size w w1 := by
      refine ⟨?_, ?_⟩
      all_goals repeat' (first | (with_reducible first | assumption | exact Below.refl _ _ | refine Blk.drewN ?_ _ | refine RowIn.drewN ?_ _ | refine below_drewN ?_ _ | refine Blk.drew ?_ | refine RowIn.drew ?_ | refine Below.drew ?_) | (with_reducible refine Blk.new' ?_ ?_ <;> first | (with_reducible rfl) | (simp; done)) | (with_reducible first | refine Blk.alloc ?_ _ | refine RowIn.alloc ?_ _ | refine Below.alloc ?_ ?_ _ | apply Blk.set' | apply Blk.far' | refine RowIn.far' ?_ ?_ _ | refine Below.far' ?_ ?_ _ | refine Blk.after ?_ b1 | refine RowIn.belowS ?_ b1 | refine Below.after ?_ b1 ?_) | (exact (Eq.refl _ : (_ : List Value) = _)) | omega | go_size)
    clear b1
    have s1w : w.heap.size ≤ w1.heap.size := bb_1.size
    go_wp2_with (at_builtin; refine wpList_app _ u32T rfl _ _ rfl w1.heap.size _ _ _ [] rfl (own_empty' rfl (Nat.le_refl _)) _ _ _ xsl rfl (by exact rl_1.row.alloc _) (by omega) (by simp) ?_)
    intro Ao co w2 own2 hg2 hat2
    try rw [Nat.zero_add, List.nil_append] at own2
    have b2 : Below w1.heap.size w1 w2 := ((Below.refl _ _).alloc (Nat.le_refl _) _).grown hg2 (by simp) (fun g e => by simp [blockOf] at e; omega)
    have ro := own2.rowIn
    have hco := own2.rowC.2
    have s2 := b2.size
    try simp only [World.size_alloc, World.size_setCell, World.size_drew, size_drewN] at s2
    obtain ⟨rl_2, ro_2, bb_2⟩ : RowIn .u32 w2 (0) (w.heap.size) Al nl xsl ∧ RowIn .u32 w2 (w1.heap.size) (w2.heap.size) Ao nl xsl ∧ Below w.heap.size w w2 := by
      refine ⟨?_, ?_, ?_⟩
      all_goals repeat' (first | (with_reducible first | assumption | exact Below.refl _ _ | refine Blk.drewN ?_ _ | refine RowIn.drewN ?_ _ | refine below_drewN ?_ _ | refine Blk.drew ?_ | refine RowIn.drew ?_ | refine Below.drew ?_) | (with_reducible refine Blk.new' ?_ ?_ <;> first | (with_reducible rfl) | (simp; done)) | (with_reducible first | refine Blk.alloc ?_ _ | refine RowIn.alloc ?_ _ | refine Below.alloc ?_ ?_ _ | apply Blk.set' | apply Blk.far' | refine RowIn.far' ?_ ?_ _ | refine Below.far' ?_ ?_ _ | refine Blk.after ?_ b2 | refine RowIn.belowS ?_ b2 | refine Below.after ?_ b2 ?_) | (exact (Eq.refl _ : (_ : List Value) = _)) | omega | go_size)
    clear rl_1 bb_1 b2
    clear ro own2 hg2 hat2
    go_wp2_with fail
    refine (teach_many Ao nl co _ h).mono ?_
    rintro e w3 ⟨Aa, ma, ca, ya, rfl, hca, ra, HYa, b3⟩
    have lna := ra.len
    replace ra := ra.mono (lo' := w2.heap.size + 0) (by go_size) (Nat.le_refl _)
    have s3 := b3.size
    try simp only [World.size_alloc, World.size_setCell, World.size_drew, size_drewN] at s3
    obtain ⟨rl_3, ro_3, ra_3, bb_3⟩ : RowIn .u32 w3 (0) (w.heap.size) Al nl xsl ∧ RowIn .u32 w3 (w1.heap.size) (w2.heap.size) Ao nl xsl ∧ RowIn .i64 w3 (w2.heap.size + 0) (w3.heap.size) Aa ma ya ∧ Below w.heap.size w w3 := by
      refine ⟨?_, ?_, ?_, ?_⟩
      all_goals repeat' (first | (with_reducible first | assumption | exact Below.refl _ _ | refine Blk.drewN ?_ _ | refine RowIn.drewN ?_ _ | refine below_drewN ?_ _ | refine Blk.drew ?_ | refine RowIn.drew ?_ | refine Below.drew ?_) | (with_reducible refine Blk.new' ?_ ?_ <;> first | (with_reducible rfl) | (simp; done)) | (with_reducible first | refine Blk.alloc ?_ _ | refine RowIn.alloc ?_ _ | refine Below.alloc ?_ ?_ _ | apply Blk.set' | apply Blk.far' | refine RowIn.far' ?_ ?_ _ | refine Below.far' ?_ ?_ _ | refine Blk.after ?_ b3 | refine RowIn.belowS ?_ b3 | refine Below.after ?_ b3 ?_) | (exact (Eq.refl _ : (_ : List Value) = _)) | omega | go_size)
    clear rl_2 ro_2 bb_2 b3
    clear ra
    go_wp2_with fail
    refine (r12each_many Al nl cl _ h).mono ?_
    rintro e w4 ⟨Ab, mb, cb, yb, rfl, hcb, rb, HYb, b4⟩
    have lnb := rb.len
    replace rb := rb.mono (lo' := w3.heap.size + 0) (by go_size) (Nat.le_refl _)
    have s4 := b4.size
    try simp only [World.size_alloc, World.size_setCell, World.size_drew, size_drewN] at s4
    obtain ⟨rl_4, ro_4, ra_4, rb_4, bb_4⟩ : RowIn .u32 w4 (0) (w.heap.size) Al nl xsl ∧ RowIn .u32 w4 (w1.heap.size) (w2.heap.size) Ao nl xsl ∧ RowIn .i64 w4 (w2.heap.size + 0) (w3.heap.size) Aa ma ya ∧ RowIn .i64 w4 (w3.heap.size + 0) (w4.heap.size) Ab mb yb ∧ Below w.heap.size w w4 := by
      refine ⟨?_, ?_, ?_, ?_, ?_⟩
      all_goals repeat' (first | (with_reducible first | assumption | exact Below.refl _ _ | refine Blk.drewN ?_ _ | refine RowIn.drewN ?_ _ | refine below_drewN ?_ _ | refine Blk.drew ?_ | refine RowIn.drew ?_ | refine Below.drew ?_) | (with_reducible refine Blk.new' ?_ ?_ <;> first | (with_reducible rfl) | (simp; done)) | (with_reducible first | refine Blk.alloc ?_ _ | refine RowIn.alloc ?_ _ | refine Below.alloc ?_ ?_ _ | apply Blk.set' | apply Blk.far' | refine RowIn.far' ?_ ?_ _ | refine Below.far' ?_ ?_ _ | refine Blk.after ?_ b4 | refine RowIn.belowS ?_ b4 | refine Below.after ?_ b4 ?_) | (exact (Eq.refl _ : (_ : List Value) = _)) | omega | go_size)
    clear rl_3 ro_3 ra_3 bb_3 b4
    clear rb
    go_wp2_with fail
    refine (tlen_many Ao nl co _ h).mono ?_
    rintro e w5 ⟨rfl, b5⟩
    have s5 := b5.size
    try simp only [World.size_alloc, World.size_setCell, World.size_drew, size_drewN] at s5
    obtain ⟨rl_5, ro_5, ra_5, rb_5, bb_5⟩ : RowIn .u32 w5 (0) (w.heap.size) Al nl xsl ∧ RowIn .u32 w5 (w1.heap.size) (w2.heap.size) Ao nl xsl ∧ RowIn .i64 w5 (w2.heap.size + 0) (w3.heap.size) Aa ma ya ∧ RowIn .i64 w5 (w3.heap.size + 0) (w4.heap.size) Ab mb yb ∧ Below w.heap.size w w5 := by
      refine ⟨?_, ?_, ?_, ?_, ?_⟩
      all_goals repeat' (first | (with_reducible first | assumption | exact Below.refl _ _ | refine Blk.drewN ?_ _ | refine RowIn.drewN ?_ _ | refine below_drewN ?_ _ | refine Blk.drew ?_ | refine RowIn.drew ?_ | refine Below.drew ?_) | (with_reducible refine Blk.new' ?_ ?_ <;> first | (with_reducible rfl) | (simp; done)) | (with_reducible first | refine Blk.alloc ?_ _ | refine RowIn.alloc ?_ _ | refine Below.alloc ?_ ?_ _ | apply Blk.set' | apply Blk.far' | refine RowIn.far' ?_ ?_ _ | refine Below.far' ?_ ?_ _ | refine Blk.after ?_ b5 | refine RowIn.belowS ?_ b5 | refine Below.after ?_ b5 ?_) | (exact (Eq.refl _ : (_ : List Value) = _)) | omega | go_size)
    clear rl_4 ro_4 ra_4 rb_4 bb_4 b5
    go_wp2_with fail
    refine (r12len_many Al nl cl _ h).mono ?_
    rintro e w6 ⟨rfl, b6⟩
    have s6 := b6.size
    try simp only [World.size_alloc, World.size_setCell, World.size_drew, size_drewN] at s6
    obtain ⟨rl_6, ro_6, ra_6, rb_6, bb_6⟩ : RowIn .u32 w6 (0) (w.heap.size) Al nl xsl ∧ RowIn .u32 w6 (w1.heap.size) (w2.heap.size) Ao nl xsl ∧ RowIn .i64 w6 (w2.heap.size + 0) (w3.heap.size) Aa ma ya ∧ RowIn .i64 w6 (w3.heap.size + 0) (w4.heap.size) Ab mb yb ∧ Below w.heap.size w w6 := by
      refine ⟨?_, ?_, ?_, ?_, ?_⟩
      all_goals repeat' (first | (with_reducible first | assumption | exact Below.refl _ _ | refine Blk.drewN ?_ _ | refine RowIn.drewN ?_ _ | refine below_drewN ?_ _ | refine Blk.drew ?_ | refine RowIn.drew ?_ | refine Below.drew ?_) | (with_reducible refine Blk.new' ?_ ?_ <;> first | (with_reducible rfl) | (simp; done)) | (with_reducible first | refine Blk.alloc ?_ _ | refine RowIn.alloc ?_ _ | refine Below.alloc ?_ ?_ _ | apply Blk.set' | apply Blk.far' | refine RowIn.far' ?_ ?_ _ | refine Below.far' ?_ ?_ _ | refine Blk.after ?_ b6 | refine RowIn.belowS ?_ b6 | refine Below.after ?_ b6 ?_) | (exact (Eq.refl _ : (_ : List Value) = _)) | omega | go_size)
    clear rl_5 ro_5 ra_5 rb_5 bb_5 b6
    go_wp2_with fail
    refine (tbytes_many Ao nl co _ h).mono ?_
    rintro e w7 ⟨rfl, b7⟩
    have s7 := b7.size
    try simp only [World.size_alloc, World.size_setCell, World.size_drew, size_drewN] at s7
    obtain ⟨rl_7, ro_7, ra_7, rb_7, bb_7⟩ : RowIn .u32 w7 (0) (w.heap.size) Al nl xsl ∧ RowIn .u32 w7 (w1.heap.size) (w2.heap.size) Ao nl xsl ∧ RowIn .i64 w7 (w2.heap.size + 0) (w3.heap.size) Aa ma ya ∧ RowIn .i64 w7 (w3.heap.size + 0) (w4.heap.size) Ab mb yb ∧ Below w.heap.size w w7 := by
      refine ⟨?_, ?_, ?_, ?_, ?_⟩
      all_goals repeat' (first | (with_reducible first | assumption | exact Below.refl _ _ | refine Blk.drewN ?_ _ | refine RowIn.drewN ?_ _ | refine below_drewN ?_ _ | refine Blk.drew ?_ | refine RowIn.drew ?_ | refine Below.drew ?_) | (with_reducible refine Blk.new' ?_ ?_ <;> first | (with_reducible rfl) | (simp; done)) | (with_reducible first | refine Blk.alloc ?_ _ | refine RowIn.alloc ?_ _ | refine Below.alloc ?_ ?_ _ | apply Blk.set' | apply Blk.far' | refine RowIn.far' ?_ ?_ _ | refine Below.far' ?_ ?_ _ | refine Blk.after ?_ b7 | refine RowIn.belowS ?_ b7 | refine Below.after ?_ b7 ?_) | (exact (Eq.refl _ : (_ : List Value) = _)) | omega | go_size)
    clear rl_6 ro_6 ra_6 rb_6 bb_6 b7
    go_wp2_with fail
    refine (r12bytes_many Al nl cl _ h).mono ?_
    rintro e w8 ⟨rfl, b8⟩
    have s8 := b8.size
    try simp only [World.size_alloc, World.size_setCell, World.size_drew, size_drewN] at s8
    obtain ⟨rl_8, ro_8, ra_8, rb_8, bb_8⟩ : RowIn .u32 w8 (0) (w.heap.size) Al nl xsl ∧ RowIn .u32 w8 (w1.heap.size) (w2.heap.size) Ao nl xsl ∧ RowIn .i64 w8 (w2.heap.size + 0) (w3.heap.size) Aa ma ya ∧ RowIn .i64 w8 (w3.heap.size + 0) (w4.heap.size) Ab mb yb ∧ Below w.heap.size w w8 := by
      refine ⟨?_, ?_, ?_, ?_, ?_⟩
      all_goals repeat' (first | (with_reducible first | assumption | exact Below.refl _ _ | refine Blk.drewN ?_ _ | refine RowIn.drewN ?_ _ | refine below_drewN ?_ _ | refine Blk.drew ?_ | refine RowIn.drew ?_ | refine Below.drew ?_) | (with_reducible refine Blk.new' ?_ ?_ <;> first | (with_reducible rfl) | (simp; done)) | (with_reducible first | refine Blk.alloc ?_ _ | refine RowIn.alloc ?_ _ | refine Below.alloc ?_ ?_ _ | apply Blk.set' | apply Blk.far' | refine RowIn.far' ?_ ?_ _ | refine Below.far' ?_ ?_ _ | refine Blk.after ?_ b8 | refine RowIn.belowS ?_ b8 | refine Below.after ?_ b8 ?_) | (exact (Eq.refl _ : (_ : List Value) = _)) | omega | go_size)
    clear rl_7 ro_7 ra_7 rb_7 bb_7 b8
    go_wp2_with fail
    have hma : ma ≤ 4000 := by rw [← lna, HYa.out]; first | (rw [lens_len]; omega) | decide
    refine (r12same_eq Aa Ab ma ca mb cb ya yb _ (by exact RowIn.row (lo := w2.heap.size + 0) (hi := w3.heap.size) (by repeat' (first | (with_reducible first | assumption | exact Below.refl _ _ | refine Blk.drewN ?_ _ | refine RowIn.drewN ?_ _ | refine below_drewN ?_ _ | refine Blk.drew ?_ | refine RowIn.drew ?_ | refine Below.drew ?_) | (with_reducible refine Blk.new' ?_ ?_ <;> first | (with_reducible rfl) | (simp; done)) | (with_reducible first | refine Blk.alloc ?_ _ | refine RowIn.alloc ?_ _ | refine Below.alloc ?_ ?_ _ | apply Blk.set' | apply Blk.far' | refine RowIn.far' ?_ ?_ _ | refine Below.far' ?_ ?_ _) | (exact (Eq.refl _ : (_ : List Value) = _)) | omega | go_size))) (by exact RowIn.row (lo := w3.heap.size + 0) (hi := w4.heap.size) (by repeat' (first | (with_reducible first | assumption | exact Below.refl _ _ | refine Blk.drewN ?_ _ | refine RowIn.drewN ?_ _ | refine below_drewN ?_ _ | refine Blk.drew ?_ | refine RowIn.drew ?_ | refine Below.drew ?_) | (with_reducible refine Blk.new' ?_ ?_ <;> first | (with_reducible rfl) | (simp; done)) | (with_reducible first | refine Blk.alloc ?_ _ | refine RowIn.alloc ?_ _ | refine Below.alloc ?_ ?_ _ | apply Blk.set' | apply Blk.far' | refine RowIn.far' ?_ ?_ _ | refine Below.far' ?_ ?_ _) | (exact (Eq.refl _ : (_ : List Value) = _)) | omega | go_size))) (by omega) (by rw [HYa.out, HYb.out])).mono ?_
    rintro e w9 ⟨rfl, b9⟩
    have s9 := b9.size
    try simp only [World.size_alloc, World.size_setCell, World.size_drew, size_drewN] at s9
    obtain ⟨rl_9, ro_9, ra_9, rb_9, bb_9⟩ : RowIn .u32 w9 (0) (w.heap.size) Al nl xsl ∧ RowIn .u32 w9 (w1.heap.size) (w2.heap.size) Ao nl xsl ∧ RowIn .i64 w9 (w2.heap.size + 0) (w3.heap.size) Aa ma ya ∧ RowIn .i64 w9 (w3.heap.size + 0) (w4.heap.size) Ab mb yb ∧ Below w.heap.size w w9 := by
      refine ⟨?_, ?_, ?_, ?_, ?_⟩
      all_goals repeat' (first | (with_reducible first | assumption | exact Below.refl _ _ | refine Blk.drewN ?_ _ | refine RowIn.drewN ?_ _ | refine below_drewN ?_ _ | refine Blk.drew ?_ | refine RowIn.drew ?_ | refine Below.drew ?_) | (with_reducible refine Blk.new' ?_ ?_ <;> first | (with_reducible rfl) | (simp; done)) | (with_reducible first | refine Blk.alloc ?_ _ | refine RowIn.alloc ?_ _ | refine Below.alloc ?_ ?_ _ | apply Blk.set' | apply Blk.far' | refine RowIn.far' ?_ ?_ _ | refine Below.far' ?_ ?_ _ | refine Blk.after ?_ b9 | refine RowIn.belowS ?_ b9 | refine Below.after ?_ b9 ?_) | (exact (Eq.refl _ : (_ : List Value) = _)) | omega | go_size)
    clear rl_8 ro_8 ra_8 rb_8 bb_8 b9
    go_wp2_with fail
    refine (r9same_eq Ao Al nl co nl cl xsl xsl _ (by exact RowIn.row (lo := w1.heap.size) (hi := w2.heap.size) (by repeat' (first | (with_reducible first | assumption | exact Below.refl _ _ | refine Blk.drewN ?_ _ | refine RowIn.drewN ?_ _ | refine below_drewN ?_ _ | refine Blk.drew ?_ | refine RowIn.drew ?_ | refine Below.drew ?_) | (with_reducible refine Blk.new' ?_ ?_ <;> first | (with_reducible rfl) | (simp; done)) | (with_reducible first | refine Blk.alloc ?_ _ | refine RowIn.alloc ?_ _ | refine Below.alloc ?_ ?_ _ | apply Blk.set' | apply Blk.far' | refine RowIn.far' ?_ ?_ _ | refine Below.far' ?_ ?_ _) | (exact (Eq.refl _ : (_ : List Value) = _)) | omega | go_size))) (by exact RowIn.row (lo := 0) (hi := w.heap.size) (by repeat' (first | (with_reducible first | assumption | exact Below.refl _ _ | refine Blk.drewN ?_ _ | refine RowIn.drewN ?_ _ | refine below_drewN ?_ _ | refine Blk.drew ?_ | refine RowIn.drew ?_ | refine Below.drew ?_) | (with_reducible refine Blk.new' ?_ ?_ <;> first | (with_reducible rfl) | (simp; done)) | (with_reducible first | refine Blk.alloc ?_ _ | refine RowIn.alloc ?_ _ | refine Below.alloc ?_ ?_ _ | apply Blk.set' | apply Blk.far' | refine RowIn.far' ?_ ?_ _ | refine Below.far' ?_ ?_ _) | (exact (Eq.refl _ : (_ : List Value) = _)) | omega | go_size))) (by omega) rfl).mono ?_
    rintro e w10 ⟨rfl, b10⟩
    have s10 := b10.size
    try simp only [World.size_alloc, World.size_setCell, World.size_drew, size_drewN] at s10
    obtain ⟨rl_10, ro_10, ra_10, rb_10, bb_10⟩ : RowIn .u32 w10 (0) (w.heap.size) Al nl xsl ∧ RowIn .u32 w10 (w1.heap.size) (w2.heap.size) Ao nl xsl ∧ RowIn .i64 w10 (w2.heap.size + 0) (w3.heap.size) Aa ma ya ∧ RowIn .i64 w10 (w3.heap.size + 0) (w4.heap.size) Ab mb yb ∧ Below w.heap.size w w10 := by
      refine ⟨?_, ?_, ?_, ?_, ?_⟩
      all_goals repeat' (first | (with_reducible first | assumption | exact Below.refl _ _ | refine Blk.drewN ?_ _ | refine RowIn.drewN ?_ _ | refine below_drewN ?_ _ | refine Blk.drew ?_ | refine RowIn.drew ?_ | refine Below.drew ?_) | (with_reducible refine Blk.new' ?_ ?_ <;> first | (with_reducible rfl) | (simp; done)) | (with_reducible first | refine Blk.alloc ?_ _ | refine RowIn.alloc ?_ _ | refine Below.alloc ?_ ?_ _ | apply Blk.set' | apply Blk.far' | refine RowIn.far' ?_ ?_ _ | refine Below.far' ?_ ?_ _ | refine Blk.after ?_ b10 | refine RowIn.belowS ?_ b10 | refine Below.after ?_ b10 ?_) | (exact (Eq.refl _ : (_ : List Value) = _)) | omega | go_size)
    clear rl_9 ro_9 ra_9 rb_9 bb_9 b10
    go_wp2
    go_ret
    refine ⟨rfl, ?_⟩
    repeat' (first | (with_reducible first | assumption | exact Below.refl _ _ | refine Blk.drewN ?_ _ | refine RowIn.drewN ?_ _ | refine below_drewN ?_ _ | refine Blk.drew ?_ | refine RowIn.drew ?_ | refine Below.drew ?_) | (with_reducible refine Blk.new' ?_ ?_ <;> first | (with_reducible rfl) | (simp; done)) | (with_reducible first | refine Blk.alloc ?_ _ | refine RowIn.alloc ?_ _ | refine Below.alloc ?_ ?_ _ | apply Blk.set' | apply Blk.far' | refine RowIn.far' ?_ ?_ _ | refine Below.far' ?_ ?_ _) | (exact (Eq.refl _ : (_ : List Value) = _)) | omega | go_size)


set_option maxRecDepth 100000 in
set_option maxHeartbeats 4000000 in
theorem lawTallyFits (w : World) (Al : Option Addr) (nl cl : Nat) (xsl : List Int) (hAl : RowC .u32 w Al nl cl xsl) (hxl : Within 0 4294967295 xsl) (p : Int) (hp : -9223372036854775808 ≤ p ∧ p ≤ 9223372036854775807) (n : Int) (hn : -9223372036854775808 ≤ n ∧ n ≤ 9223372036854775807) :
    Calls Try.prog 4 #[.slice Al nl cl, .int .i64 p, .int .i64 n] w fun e w' => e = .returned (.bool true) ∧ Below w.heap.size w w' := by
  have hal := hAl.row
  have hcl := hAl.2
  have hril := hal.rowIn
  have HLl := Lib.hid hal.len
  by_cases hg : 150 < nl ∧ nl ≤ 4000 ∨ 4010 < nl
  · go_enter Try.func4, Try.ntmps4
    go_wp2_with fail
    refine (r9great_yes Al nl cl _ hg).mono ?_
    rintro e w1 ⟨rfl, b1⟩
    have s1 := b1.size
    try simp only [World.size_alloc, World.size_setCell, World.size_drew, size_drewN] at s1
    obtain ⟨rl_1, bb_1⟩ : RowIn .u32 w1 (0) (w.heap.size) Al nl xsl ∧ Below w.heap.size w w1 := by
      refine ⟨?_, ?_⟩
      all_goals repeat' (first | (with_reducible first | assumption | exact Below.refl _ _ | refine Blk.drewN ?_ _ | refine RowIn.drewN ?_ _ | refine below_drewN ?_ _ | refine Blk.drew ?_ | refine RowIn.drew ?_ | refine Below.drew ?_) | (with_reducible refine Blk.new' ?_ ?_ <;> first | (with_reducible rfl) | (simp; done)) | (with_reducible first | refine Blk.alloc ?_ _ | refine RowIn.alloc ?_ _ | refine Below.alloc ?_ ?_ _ | apply Blk.set' | apply Blk.far' | refine RowIn.far' ?_ ?_ _ | refine Below.far' ?_ ?_ _ | refine Blk.after ?_ b1 | refine RowIn.belowS ?_ b1 | refine Below.after ?_ b1 ?_) | (exact (Eq.refl _ : (_ : List Value) = _)) | omega | go_size)
    clear b1
    go_wp2
    go_ret
    refine ⟨rfl, ?_⟩
    repeat' (first | (with_reducible first | assumption | exact Below.refl _ _ | refine Blk.drewN ?_ _ | refine RowIn.drewN ?_ _ | refine below_drewN ?_ _ | refine Blk.drew ?_ | refine RowIn.drew ?_ | refine Below.drew ?_) | (with_reducible refine Blk.new' ?_ ?_ <;> first | (with_reducible rfl) | (simp; done)) | (with_reducible first | refine Blk.alloc ?_ _ | refine RowIn.alloc ?_ _ | refine Below.alloc ?_ ?_ _ | apply Blk.set' | apply Blk.far' | refine RowIn.far' ?_ ?_ _ | refine Below.far' ?_ ?_ _) | (exact (Eq.refl _ : (_ : List Value) = _)) | omega | go_size)
  by_cases hm : ¬ (n < 0 ∨ 4000 < n)
  · by_cases h : nl ≤ 4000
    · by_cases h4 : p < 4
      · go_enter Try.func4, Try.ntmps4
        go_wp2_with fail
        refine (r9great_no Al nl cl _ hg).mono ?_
        rintro e w1 ⟨rfl, b1⟩
        have s1 := b1.size
        try simp only [World.size_alloc, World.size_setCell, World.size_drew, size_drewN] at s1
        obtain ⟨rl_1, bb_1⟩ : RowIn .u32 w1 (0) (w.heap.size) Al nl xsl ∧ Below w.heap.size w w1 := by
          refine ⟨?_, ?_⟩
          all_goals repeat' (first | (with_reducible first | assumption | exact Below.refl _ _ | refine Blk.drewN ?_ _ | refine RowIn.drewN ?_ _ | refine below_drewN ?_ _ | refine Blk.drew ?_ | refine RowIn.drew ?_ | refine Below.drew ?_) | (with_reducible refine Blk.new' ?_ ?_ <;> first | (with_reducible rfl) | (simp; done)) | (with_reducible first | refine Blk.alloc ?_ _ | refine RowIn.alloc ?_ _ | refine Below.alloc ?_ ?_ _ | apply Blk.set' | apply Blk.far' | refine RowIn.far' ?_ ?_ _ | refine Below.far' ?_ ?_ _ | refine Blk.after ?_ b1 | refine RowIn.belowS ?_ b1 | refine Below.after ?_ b1 ?_) | (exact (Eq.refl _ : (_ : List Value) = _)) | omega | go_size)
        clear b1
        go_wp2_with fail
        refine (tmost_ok n _ hm).mono ?_
        rintro e _ ⟨rfl, rfl⟩
        go_wp2_with fail
        refine (r12most_ok n _ hm).mono ?_
        rintro e _ ⟨rfl, rfl⟩
        go_wp2_with fail
        refine (tfits_few Al nl cl _ _ h h4).mono ?_
        rintro e w2 ⟨rfl, b2⟩
        have s2 := b2.size
        try simp only [World.size_alloc, World.size_setCell, World.size_drew, size_drewN] at s2
        obtain ⟨rl_2, bb_2⟩ : RowIn .u32 w2 (0) (w.heap.size) Al nl xsl ∧ Below w.heap.size w w2 := by
          refine ⟨?_, ?_⟩
          all_goals repeat' (first | (with_reducible first | assumption | exact Below.refl _ _ | refine Blk.drewN ?_ _ | refine RowIn.drewN ?_ _ | refine below_drewN ?_ _ | refine Blk.drew ?_ | refine RowIn.drew ?_ | refine Below.drew ?_) | (with_reducible refine Blk.new' ?_ ?_ <;> first | (with_reducible rfl) | (simp; done)) | (with_reducible first | refine Blk.alloc ?_ _ | refine RowIn.alloc ?_ _ | refine Below.alloc ?_ ?_ _ | apply Blk.set' | apply Blk.far' | refine RowIn.far' ?_ ?_ _ | refine Below.far' ?_ ?_ _ | refine Blk.after ?_ b2 | refine RowIn.belowS ?_ b2 | refine Below.after ?_ b2 ?_) | (exact (Eq.refl _ : (_ : List Value) = _)) | omega | go_size)
        clear rl_1 bb_1 b2
        go_wp2_with fail
        refine (r12fits_few Al nl cl _ _ h h4).mono ?_
        rintro e w3 ⟨rfl, b3⟩
        have s3 := b3.size
        try simp only [World.size_alloc, World.size_setCell, World.size_drew, size_drewN] at s3
        obtain ⟨rl_3, bb_3⟩ : RowIn .u32 w3 (0) (w.heap.size) Al nl xsl ∧ Below w.heap.size w w3 := by
          refine ⟨?_, ?_⟩
          all_goals repeat' (first | (with_reducible first | assumption | exact Below.refl _ _ | refine Blk.drewN ?_ _ | refine RowIn.drewN ?_ _ | refine below_drewN ?_ _ | refine Blk.drew ?_ | refine RowIn.drew ?_ | refine Below.drew ?_) | (with_reducible refine Blk.new' ?_ ?_ <;> first | (with_reducible rfl) | (simp; done)) | (with_reducible first | refine Blk.alloc ?_ _ | refine RowIn.alloc ?_ _ | refine Below.alloc ?_ ?_ _ | apply Blk.set' | apply Blk.far' | refine RowIn.far' ?_ ?_ _ | refine Below.far' ?_ ?_ _ | refine Blk.after ?_ b3 | refine RowIn.belowS ?_ b3 | refine Below.after ?_ b3 ?_) | (exact (Eq.refl _ : (_ : List Value) = _)) | omega | go_size)
        clear rl_2 bb_2 b3
        go_wp2
        go_ret
        refine ⟨rfl, ?_⟩
        repeat' (first | (with_reducible first | assumption | exact Below.refl _ _ | refine Blk.drewN ?_ _ | refine RowIn.drewN ?_ _ | refine below_drewN ?_ _ | refine Blk.drew ?_ | refine RowIn.drew ?_ | refine Below.drew ?_) | (with_reducible refine Blk.new' ?_ ?_ <;> first | (with_reducible rfl) | (simp; done)) | (with_reducible first | refine Blk.alloc ?_ _ | refine RowIn.alloc ?_ _ | refine Below.alloc ?_ ?_ _ | apply Blk.set' | apply Blk.far' | refine RowIn.far' ?_ ?_ _ | refine Below.far' ?_ ?_ _) | (exact (Eq.refl _ : (_ : List Value) = _)) | omega | go_size)
      · obtain ⟨p, rfl⟩ := Int.eq_ofNat_of_zero_le (by omega : 0 ≤ p)
        go_enter Try.func4, Try.ntmps4
        go_wp2_with fail
        refine (r9great_no Al nl cl _ hg).mono ?_
        rintro e w1 ⟨rfl, b1⟩
        have s1 := b1.size
        try simp only [World.size_alloc, World.size_setCell, World.size_drew, size_drewN] at s1
        obtain ⟨rl_1, bb_1⟩ : RowIn .u32 w1 (0) (w.heap.size) Al nl xsl ∧ Below w.heap.size w w1 := by
          refine ⟨?_, ?_⟩
          all_goals repeat' (first | (with_reducible first | assumption | exact Below.refl _ _ | refine Blk.drewN ?_ _ | refine RowIn.drewN ?_ _ | refine below_drewN ?_ _ | refine Blk.drew ?_ | refine RowIn.drew ?_ | refine Below.drew ?_) | (with_reducible refine Blk.new' ?_ ?_ <;> first | (with_reducible rfl) | (simp; done)) | (with_reducible first | refine Blk.alloc ?_ _ | refine RowIn.alloc ?_ _ | refine Below.alloc ?_ ?_ _ | apply Blk.set' | apply Blk.far' | refine RowIn.far' ?_ ?_ _ | refine Below.far' ?_ ?_ _ | refine Blk.after ?_ b1 | refine RowIn.belowS ?_ b1 | refine Below.after ?_ b1 ?_) | (exact (Eq.refl _ : (_ : List Value) = _)) | omega | go_size)
        clear b1
        go_wp2_with fail
        refine (tmost_ok n _ hm).mono ?_
        rintro e _ ⟨rfl, rfl⟩
        go_wp2_with fail
        refine (r12most_ok n _ hm).mono ?_
        rintro e _ ⟨rfl, rfl⟩
        go_wp2_with fail
        refine (tfits_ok Al nl cl xsl p _ (by exact RowIn.row (lo := 0) (hi := w.heap.size) (by repeat' (first | (with_reducible first | assumption | exact Below.refl _ _ | refine Blk.drewN ?_ _ | refine RowIn.drewN ?_ _ | refine below_drewN ?_ _ | refine Blk.drew ?_ | refine RowIn.drew ?_ | refine Below.drew ?_) | (with_reducible refine Blk.new' ?_ ?_ <;> first | (with_reducible rfl) | (simp; done)) | (with_reducible first | refine Blk.alloc ?_ _ | refine RowIn.alloc ?_ _ | refine Below.alloc ?_ ?_ _ | apply Blk.set' | apply Blk.far' | refine RowIn.far' ?_ ?_ _ | refine Below.far' ?_ ?_ _) | (exact (Eq.refl _ : (_ : List Value) = _)) | omega | go_size))) hxl h (by omega)).mono ?_
        rintro e w2 ⟨rfl, b2⟩
        have s2 := b2.size
        try simp only [World.size_alloc, World.size_setCell, World.size_drew, size_drewN] at s2
        obtain ⟨rl_2, bb_2⟩ : RowIn .u32 w2 (0) (w.heap.size) Al nl xsl ∧ Below w.heap.size w w2 := by
          refine ⟨?_, ?_⟩
          all_goals repeat' (first | (with_reducible first | assumption | exact Below.refl _ _ | refine Blk.drewN ?_ _ | refine RowIn.drewN ?_ _ | refine below_drewN ?_ _ | refine Blk.drew ?_ | refine RowIn.drew ?_ | refine Below.drew ?_) | (with_reducible refine Blk.new' ?_ ?_ <;> first | (with_reducible rfl) | (simp; done)) | (with_reducible first | refine Blk.alloc ?_ _ | refine RowIn.alloc ?_ _ | refine Below.alloc ?_ ?_ _ | apply Blk.set' | apply Blk.far' | refine RowIn.far' ?_ ?_ _ | refine Below.far' ?_ ?_ _ | refine Blk.after ?_ b2 | refine RowIn.belowS ?_ b2 | refine Below.after ?_ b2 ?_) | (exact (Eq.refl _ : (_ : List Value) = _)) | omega | go_size)
        clear rl_1 bb_1 b2
        go_wp2_with fail
        refine (r12fits_ok Al nl cl xsl p _ (by exact RowIn.row (lo := 0) (hi := w.heap.size) (by repeat' (first | (with_reducible first | assumption | exact Below.refl _ _ | refine Blk.drewN ?_ _ | refine RowIn.drewN ?_ _ | refine below_drewN ?_ _ | refine Blk.drew ?_ | refine RowIn.drew ?_ | refine Below.drew ?_) | (with_reducible refine Blk.new' ?_ ?_ <;> first | (with_reducible rfl) | (simp; done)) | (with_reducible first | refine Blk.alloc ?_ _ | refine RowIn.alloc ?_ _ | refine Below.alloc ?_ ?_ _ | apply Blk.set' | apply Blk.far' | refine RowIn.far' ?_ ?_ _ | refine Below.far' ?_ ?_ _) | (exact (Eq.refl _ : (_ : List Value) = _)) | omega | go_size))) hxl h (by omega)).mono ?_
        rintro e w3 ⟨rfl, b3⟩
        have s3 := b3.size
        try simp only [World.size_alloc, World.size_setCell, World.size_drew, size_drewN] at s3
        obtain ⟨rl_3, bb_3⟩ : RowIn .u32 w3 (0) (w.heap.size) Al nl xsl ∧ Below w.heap.size w w3 := by
          refine ⟨?_, ?_⟩
          all_goals repeat' (first | (with_reducible first | assumption | exact Below.refl _ _ | refine Blk.drewN ?_ _ | refine RowIn.drewN ?_ _ | refine below_drewN ?_ _ | refine Blk.drew ?_ | refine RowIn.drew ?_ | refine Below.drew ?_) | (with_reducible refine Blk.new' ?_ ?_ <;> first | (with_reducible rfl) | (simp; done)) | (with_reducible first | refine Blk.alloc ?_ _ | refine RowIn.alloc ?_ _ | refine Below.alloc ?_ ?_ _ | apply Blk.set' | apply Blk.far' | refine RowIn.far' ?_ ?_ _ | refine Below.far' ?_ ?_ _ | refine Blk.after ?_ b3 | refine RowIn.belowS ?_ b3 | refine Below.after ?_ b3 ?_) | (exact (Eq.refl _ : (_ : List Value) = _)) | omega | go_size)
        clear rl_2 bb_2 b3
        go_wp2
        go_ret
        refine ⟨rfl, ?_⟩
        repeat' (first | (with_reducible first | assumption | exact Below.refl _ _ | refine Blk.drewN ?_ _ | refine RowIn.drewN ?_ _ | refine below_drewN ?_ _ | refine Blk.drew ?_ | refine RowIn.drew ?_ | refine Below.drew ?_) | (with_reducible refine Blk.new' ?_ ?_ <;> first | (with_reducible rfl) | (simp; done)) | (with_reducible first | refine Blk.alloc ?_ _ | refine RowIn.alloc ?_ _ | refine Below.alloc ?_ ?_ _ | apply Blk.set' | apply Blk.far' | refine RowIn.far' ?_ ?_ _ | refine Below.far' ?_ ?_ _) | (exact (Eq.refl _ : (_ : List Value) = _)) | omega | go_size)
    · replace h : 4000 < nl := by omega
      go_enter Try.func4, Try.ntmps4
      go_wp2_with fail
      refine (r9great_no Al nl cl _ hg).mono ?_
      rintro e w1 ⟨rfl, b1⟩
      have s1 := b1.size
      try simp only [World.size_alloc, World.size_setCell, World.size_drew, size_drewN] at s1
      obtain ⟨rl_1, bb_1⟩ : RowIn .u32 w1 (0) (w.heap.size) Al nl xsl ∧ Below w.heap.size w w1 := by
        refine ⟨?_, ?_⟩
        all_goals repeat' (first | (with_reducible first | assumption | exact Below.refl _ _ | refine Blk.drewN ?_ _ | refine RowIn.drewN ?_ _ | refine below_drewN ?_ _ | refine Blk.drew ?_ | refine RowIn.drew ?_ | refine Below.drew ?_) | (with_reducible refine Blk.new' ?_ ?_ <;> first | (with_reducible rfl) | (simp; done)) | (with_reducible first | refine Blk.alloc ?_ _ | refine RowIn.alloc ?_ _ | refine Below.alloc ?_ ?_ _ | apply Blk.set' | apply Blk.far' | refine RowIn.far' ?_ ?_ _ | refine Below.far' ?_ ?_ _ | refine Blk.after ?_ b1 | refine RowIn.belowS ?_ b1 | refine Below.after ?_ b1 ?_) | (exact (Eq.refl _ : (_ : List Value) = _)) | omega | go_size)
      clear b1
      go_wp2_with fail
      refine (tmost_ok n _ hm).mono ?_
      rintro e _ ⟨rfl, rfl⟩
      go_wp2_with fail
      refine (r12most_ok n _ hm).mono ?_
      rintro e _ ⟨rfl, rfl⟩
      go_wp2_with fail
      refine (tfits_many Al nl cl _ _ h).mono ?_
      rintro e w2 ⟨rfl, b2⟩
      have s2 := b2.size
      try simp only [World.size_alloc, World.size_setCell, World.size_drew, size_drewN] at s2
      obtain ⟨rl_2, bb_2⟩ : RowIn .u32 w2 (0) (w.heap.size) Al nl xsl ∧ Below w.heap.size w w2 := by
        refine ⟨?_, ?_⟩
        all_goals repeat' (first | (with_reducible first | assumption | exact Below.refl _ _ | refine Blk.drewN ?_ _ | refine RowIn.drewN ?_ _ | refine below_drewN ?_ _ | refine Blk.drew ?_ | refine RowIn.drew ?_ | refine Below.drew ?_) | (with_reducible refine Blk.new' ?_ ?_ <;> first | (with_reducible rfl) | (simp; done)) | (with_reducible first | refine Blk.alloc ?_ _ | refine RowIn.alloc ?_ _ | refine Below.alloc ?_ ?_ _ | apply Blk.set' | apply Blk.far' | refine RowIn.far' ?_ ?_ _ | refine Below.far' ?_ ?_ _ | refine Blk.after ?_ b2 | refine RowIn.belowS ?_ b2 | refine Below.after ?_ b2 ?_) | (exact (Eq.refl _ : (_ : List Value) = _)) | omega | go_size)
      clear rl_1 bb_1 b2
      go_wp2_with fail
      refine (r12fits_many Al nl cl _ _ h).mono ?_
      rintro e w3 ⟨rfl, b3⟩
      have s3 := b3.size
      try simp only [World.size_alloc, World.size_setCell, World.size_drew, size_drewN] at s3
      obtain ⟨rl_3, bb_3⟩ : RowIn .u32 w3 (0) (w.heap.size) Al nl xsl ∧ Below w.heap.size w w3 := by
        refine ⟨?_, ?_⟩
        all_goals repeat' (first | (with_reducible first | assumption | exact Below.refl _ _ | refine Blk.drewN ?_ _ | refine RowIn.drewN ?_ _ | refine below_drewN ?_ _ | refine Blk.drew ?_ | refine RowIn.drew ?_ | refine Below.drew ?_) | (with_reducible refine Blk.new' ?_ ?_ <;> first | (with_reducible rfl) | (simp; done)) | (with_reducible first | refine Blk.alloc ?_ _ | refine RowIn.alloc ?_ _ | refine Below.alloc ?_ ?_ _ | apply Blk.set' | apply Blk.far' | refine RowIn.far' ?_ ?_ _ | refine Below.far' ?_ ?_ _ | refine Blk.after ?_ b3 | refine RowIn.belowS ?_ b3 | refine Below.after ?_ b3 ?_) | (exact (Eq.refl _ : (_ : List Value) = _)) | omega | go_size)
      clear rl_2 bb_2 b3
      go_wp2
      go_ret
      refine ⟨rfl, ?_⟩
      repeat' (first | (with_reducible first | assumption | exact Below.refl _ _ | refine Blk.drewN ?_ _ | refine RowIn.drewN ?_ _ | refine below_drewN ?_ _ | refine Blk.drew ?_ | refine RowIn.drew ?_ | refine Below.drew ?_) | (with_reducible refine Blk.new' ?_ ?_ <;> first | (with_reducible rfl) | (simp; done)) | (with_reducible first | refine Blk.alloc ?_ _ | refine RowIn.alloc ?_ _ | refine Below.alloc ?_ ?_ _ | apply Blk.set' | apply Blk.far' | refine RowIn.far' ?_ ?_ _ | refine Below.far' ?_ ?_ _) | (exact (Eq.refl _ : (_ : List Value) = _)) | omega | go_size)
  · try replace hm := Decidable.not_not.1 hm
    by_cases h : nl ≤ 4000
    · by_cases h4 : p < 4
      · go_enter Try.func4, Try.ntmps4
        go_wp2_with fail
        refine (r9great_no Al nl cl _ hg).mono ?_
        rintro e w1 ⟨rfl, b1⟩
        have s1 := b1.size
        try simp only [World.size_alloc, World.size_setCell, World.size_drew, size_drewN] at s1
        obtain ⟨rl_1, bb_1⟩ : RowIn .u32 w1 (0) (w.heap.size) Al nl xsl ∧ Below w.heap.size w w1 := by
          refine ⟨?_, ?_⟩
          all_goals repeat' (first | (with_reducible first | assumption | exact Below.refl _ _ | refine Blk.drewN ?_ _ | refine RowIn.drewN ?_ _ | refine below_drewN ?_ _ | refine Blk.drew ?_ | refine RowIn.drew ?_ | refine Below.drew ?_) | (with_reducible refine Blk.new' ?_ ?_ <;> first | (with_reducible rfl) | (simp; done)) | (with_reducible first | refine Blk.alloc ?_ _ | refine RowIn.alloc ?_ _ | refine Below.alloc ?_ ?_ _ | apply Blk.set' | apply Blk.far' | refine RowIn.far' ?_ ?_ _ | refine Below.far' ?_ ?_ _ | refine Blk.after ?_ b1 | refine RowIn.belowS ?_ b1 | refine Below.after ?_ b1 ?_) | (exact (Eq.refl _ : (_ : List Value) = _)) | omega | go_size)
        clear b1
        go_wp2_with fail
        refine (tmost_bad n _ hm).mono ?_
        rintro e _ ⟨rfl, rfl⟩
        go_wp2_with fail
        refine (r12most_bad n _ hm).mono ?_
        rintro e _ ⟨rfl, rfl⟩
        go_wp2_with fail
        refine (tfits_few Al nl cl _ _ h h4).mono ?_
        rintro e w2 ⟨rfl, b2⟩
        have s2 := b2.size
        try simp only [World.size_alloc, World.size_setCell, World.size_drew, size_drewN] at s2
        obtain ⟨rl_2, bb_2⟩ : RowIn .u32 w2 (0) (w.heap.size) Al nl xsl ∧ Below w.heap.size w w2 := by
          refine ⟨?_, ?_⟩
          all_goals repeat' (first | (with_reducible first | assumption | exact Below.refl _ _ | refine Blk.drewN ?_ _ | refine RowIn.drewN ?_ _ | refine below_drewN ?_ _ | refine Blk.drew ?_ | refine RowIn.drew ?_ | refine Below.drew ?_) | (with_reducible refine Blk.new' ?_ ?_ <;> first | (with_reducible rfl) | (simp; done)) | (with_reducible first | refine Blk.alloc ?_ _ | refine RowIn.alloc ?_ _ | refine Below.alloc ?_ ?_ _ | apply Blk.set' | apply Blk.far' | refine RowIn.far' ?_ ?_ _ | refine Below.far' ?_ ?_ _ | refine Blk.after ?_ b2 | refine RowIn.belowS ?_ b2 | refine Below.after ?_ b2 ?_) | (exact (Eq.refl _ : (_ : List Value) = _)) | omega | go_size)
        clear rl_1 bb_1 b2
        go_wp2_with fail
        refine (r12fits_few Al nl cl _ _ h h4).mono ?_
        rintro e w3 ⟨rfl, b3⟩
        have s3 := b3.size
        try simp only [World.size_alloc, World.size_setCell, World.size_drew, size_drewN] at s3
        obtain ⟨rl_3, bb_3⟩ : RowIn .u32 w3 (0) (w.heap.size) Al nl xsl ∧ Below w.heap.size w w3 := by
          refine ⟨?_, ?_⟩
          all_goals repeat' (first | (with_reducible first | assumption | exact Below.refl _ _ | refine Blk.drewN ?_ _ | refine RowIn.drewN ?_ _ | refine below_drewN ?_ _ | refine Blk.drew ?_ | refine RowIn.drew ?_ | refine Below.drew ?_) | (with_reducible refine Blk.new' ?_ ?_ <;> first | (with_reducible rfl) | (simp; done)) | (with_reducible first | refine Blk.alloc ?_ _ | refine RowIn.alloc ?_ _ | refine Below.alloc ?_ ?_ _ | apply Blk.set' | apply Blk.far' | refine RowIn.far' ?_ ?_ _ | refine Below.far' ?_ ?_ _ | refine Blk.after ?_ b3 | refine RowIn.belowS ?_ b3 | refine Below.after ?_ b3 ?_) | (exact (Eq.refl _ : (_ : List Value) = _)) | omega | go_size)
        clear rl_2 bb_2 b3
        go_wp2
        go_ret
        refine ⟨rfl, ?_⟩
        repeat' (first | (with_reducible first | assumption | exact Below.refl _ _ | refine Blk.drewN ?_ _ | refine RowIn.drewN ?_ _ | refine below_drewN ?_ _ | refine Blk.drew ?_ | refine RowIn.drew ?_ | refine Below.drew ?_) | (with_reducible refine Blk.new' ?_ ?_ <;> first | (with_reducible rfl) | (simp; done)) | (with_reducible first | refine Blk.alloc ?_ _ | refine RowIn.alloc ?_ _ | refine Below.alloc ?_ ?_ _ | apply Blk.set' | apply Blk.far' | refine RowIn.far' ?_ ?_ _ | refine Below.far' ?_ ?_ _) | (exact (Eq.refl _ : (_ : List Value) = _)) | omega | go_size)
      · obtain ⟨p, rfl⟩ := Int.eq_ofNat_of_zero_le (by omega : 0 ≤ p)
        go_enter Try.func4, Try.ntmps4
        go_wp2_with fail
        refine (r9great_no Al nl cl _ hg).mono ?_
        rintro e w1 ⟨rfl, b1⟩
        have s1 := b1.size
        try simp only [World.size_alloc, World.size_setCell, World.size_drew, size_drewN] at s1
        obtain ⟨rl_1, bb_1⟩ : RowIn .u32 w1 (0) (w.heap.size) Al nl xsl ∧ Below w.heap.size w w1 := by
          refine ⟨?_, ?_⟩
          all_goals repeat' (first | (with_reducible first | assumption | exact Below.refl _ _ | refine Blk.drewN ?_ _ | refine RowIn.drewN ?_ _ | refine below_drewN ?_ _ | refine Blk.drew ?_ | refine RowIn.drew ?_ | refine Below.drew ?_) | (with_reducible refine Blk.new' ?_ ?_ <;> first | (with_reducible rfl) | (simp; done)) | (with_reducible first | refine Blk.alloc ?_ _ | refine RowIn.alloc ?_ _ | refine Below.alloc ?_ ?_ _ | apply Blk.set' | apply Blk.far' | refine RowIn.far' ?_ ?_ _ | refine Below.far' ?_ ?_ _ | refine Blk.after ?_ b1 | refine RowIn.belowS ?_ b1 | refine Below.after ?_ b1 ?_) | (exact (Eq.refl _ : (_ : List Value) = _)) | omega | go_size)
        clear b1
        go_wp2_with fail
        refine (tmost_bad n _ hm).mono ?_
        rintro e _ ⟨rfl, rfl⟩
        go_wp2_with fail
        refine (r12most_bad n _ hm).mono ?_
        rintro e _ ⟨rfl, rfl⟩
        go_wp2_with fail
        refine (tfits_ok Al nl cl xsl p _ (by exact RowIn.row (lo := 0) (hi := w.heap.size) (by repeat' (first | (with_reducible first | assumption | exact Below.refl _ _ | refine Blk.drewN ?_ _ | refine RowIn.drewN ?_ _ | refine below_drewN ?_ _ | refine Blk.drew ?_ | refine RowIn.drew ?_ | refine Below.drew ?_) | (with_reducible refine Blk.new' ?_ ?_ <;> first | (with_reducible rfl) | (simp; done)) | (with_reducible first | refine Blk.alloc ?_ _ | refine RowIn.alloc ?_ _ | refine Below.alloc ?_ ?_ _ | apply Blk.set' | apply Blk.far' | refine RowIn.far' ?_ ?_ _ | refine Below.far' ?_ ?_ _) | (exact (Eq.refl _ : (_ : List Value) = _)) | omega | go_size))) hxl h (by omega)).mono ?_
        rintro e w2 ⟨rfl, b2⟩
        have s2 := b2.size
        try simp only [World.size_alloc, World.size_setCell, World.size_drew, size_drewN] at s2
        obtain ⟨rl_2, bb_2⟩ : RowIn .u32 w2 (0) (w.heap.size) Al nl xsl ∧ Below w.heap.size w w2 := by
          refine ⟨?_, ?_⟩
          all_goals repeat' (first | (with_reducible first | assumption | exact Below.refl _ _ | refine Blk.drewN ?_ _ | refine RowIn.drewN ?_ _ | refine below_drewN ?_ _ | refine Blk.drew ?_ | refine RowIn.drew ?_ | refine Below.drew ?_) | (with_reducible refine Blk.new' ?_ ?_ <;> first | (with_reducible rfl) | (simp; done)) | (with_reducible first | refine Blk.alloc ?_ _ | refine RowIn.alloc ?_ _ | refine Below.alloc ?_ ?_ _ | apply Blk.set' | apply Blk.far' | refine RowIn.far' ?_ ?_ _ | refine Below.far' ?_ ?_ _ | refine Blk.after ?_ b2 | refine RowIn.belowS ?_ b2 | refine Below.after ?_ b2 ?_) | (exact (Eq.refl _ : (_ : List Value) = _)) | omega | go_size)
        clear rl_1 bb_1 b2
        go_wp2_with fail
        refine (r12fits_ok Al nl cl xsl p _ (by exact RowIn.row (lo := 0) (hi := w.heap.size) (by repeat' (first | (with_reducible first | assumption | exact Below.refl _ _ | refine Blk.drewN ?_ _ | refine RowIn.drewN ?_ _ | refine below_drewN ?_ _ | refine Blk.drew ?_ | refine RowIn.drew ?_ | refine Below.drew ?_) | (with_reducible refine Blk.new' ?_ ?_ <;> first | (with_reducible rfl) | (simp; done)) | (with_reducible first | refine Blk.alloc ?_ _ | refine RowIn.alloc ?_ _ | refine Below.alloc ?_ ?_ _ | apply Blk.set' | apply Blk.far' | refine RowIn.far' ?_ ?_ _ | refine Below.far' ?_ ?_ _) | (exact (Eq.refl _ : (_ : List Value) = _)) | omega | go_size))) hxl h (by omega)).mono ?_
        rintro e w3 ⟨rfl, b3⟩
        have s3 := b3.size
        try simp only [World.size_alloc, World.size_setCell, World.size_drew, size_drewN] at s3
        obtain ⟨rl_3, bb_3⟩ : RowIn .u32 w3 (0) (w.heap.size) Al nl xsl ∧ Below w.heap.size w w3 := by
          refine ⟨?_, ?_⟩
          all_goals repeat' (first | (with_reducible first | assumption | exact Below.refl _ _ | refine Blk.drewN ?_ _ | refine RowIn.drewN ?_ _ | refine below_drewN ?_ _ | refine Blk.drew ?_ | refine RowIn.drew ?_ | refine Below.drew ?_) | (with_reducible refine Blk.new' ?_ ?_ <;> first | (with_reducible rfl) | (simp; done)) | (with_reducible first | refine Blk.alloc ?_ _ | refine RowIn.alloc ?_ _ | refine Below.alloc ?_ ?_ _ | apply Blk.set' | apply Blk.far' | refine RowIn.far' ?_ ?_ _ | refine Below.far' ?_ ?_ _ | refine Blk.after ?_ b3 | refine RowIn.belowS ?_ b3 | refine Below.after ?_ b3 ?_) | (exact (Eq.refl _ : (_ : List Value) = _)) | omega | go_size)
        clear rl_2 bb_2 b3
        go_wp2
        go_ret
        refine ⟨rfl, ?_⟩
        repeat' (first | (with_reducible first | assumption | exact Below.refl _ _ | refine Blk.drewN ?_ _ | refine RowIn.drewN ?_ _ | refine below_drewN ?_ _ | refine Blk.drew ?_ | refine RowIn.drew ?_ | refine Below.drew ?_) | (with_reducible refine Blk.new' ?_ ?_ <;> first | (with_reducible rfl) | (simp; done)) | (with_reducible first | refine Blk.alloc ?_ _ | refine RowIn.alloc ?_ _ | refine Below.alloc ?_ ?_ _ | apply Blk.set' | apply Blk.far' | refine RowIn.far' ?_ ?_ _ | refine Below.far' ?_ ?_ _) | (exact (Eq.refl _ : (_ : List Value) = _)) | omega | go_size)
    · replace h : 4000 < nl := by omega
      go_enter Try.func4, Try.ntmps4
      go_wp2_with fail
      refine (r9great_no Al nl cl _ hg).mono ?_
      rintro e w1 ⟨rfl, b1⟩
      have s1 := b1.size
      try simp only [World.size_alloc, World.size_setCell, World.size_drew, size_drewN] at s1
      obtain ⟨rl_1, bb_1⟩ : RowIn .u32 w1 (0) (w.heap.size) Al nl xsl ∧ Below w.heap.size w w1 := by
        refine ⟨?_, ?_⟩
        all_goals repeat' (first | (with_reducible first | assumption | exact Below.refl _ _ | refine Blk.drewN ?_ _ | refine RowIn.drewN ?_ _ | refine below_drewN ?_ _ | refine Blk.drew ?_ | refine RowIn.drew ?_ | refine Below.drew ?_) | (with_reducible refine Blk.new' ?_ ?_ <;> first | (with_reducible rfl) | (simp; done)) | (with_reducible first | refine Blk.alloc ?_ _ | refine RowIn.alloc ?_ _ | refine Below.alloc ?_ ?_ _ | apply Blk.set' | apply Blk.far' | refine RowIn.far' ?_ ?_ _ | refine Below.far' ?_ ?_ _ | refine Blk.after ?_ b1 | refine RowIn.belowS ?_ b1 | refine Below.after ?_ b1 ?_) | (exact (Eq.refl _ : (_ : List Value) = _)) | omega | go_size)
      clear b1
      go_wp2_with fail
      refine (tmost_bad n _ hm).mono ?_
      rintro e _ ⟨rfl, rfl⟩
      go_wp2_with fail
      refine (r12most_bad n _ hm).mono ?_
      rintro e _ ⟨rfl, rfl⟩
      go_wp2_with fail
      refine (tfits_many Al nl cl _ _ h).mono ?_
      rintro e w2 ⟨rfl, b2⟩
      have s2 := b2.size
      try simp only [World.size_alloc, World.size_setCell, World.size_drew, size_drewN] at s2
      obtain ⟨rl_2, bb_2⟩ : RowIn .u32 w2 (0) (w.heap.size) Al nl xsl ∧ Below w.heap.size w w2 := by
        refine ⟨?_, ?_⟩
        all_goals repeat' (first | (with_reducible first | assumption | exact Below.refl _ _ | refine Blk.drewN ?_ _ | refine RowIn.drewN ?_ _ | refine below_drewN ?_ _ | refine Blk.drew ?_ | refine RowIn.drew ?_ | refine Below.drew ?_) | (with_reducible refine Blk.new' ?_ ?_ <;> first | (with_reducible rfl) | (simp; done)) | (with_reducible first | refine Blk.alloc ?_ _ | refine RowIn.alloc ?_ _ | refine Below.alloc ?_ ?_ _ | apply Blk.set' | apply Blk.far' | refine RowIn.far' ?_ ?_ _ | refine Below.far' ?_ ?_ _ | refine Blk.after ?_ b2 | refine RowIn.belowS ?_ b2 | refine Below.after ?_ b2 ?_) | (exact (Eq.refl _ : (_ : List Value) = _)) | omega | go_size)
      clear rl_1 bb_1 b2
      go_wp2_with fail
      refine (r12fits_many Al nl cl _ _ h).mono ?_
      rintro e w3 ⟨rfl, b3⟩
      have s3 := b3.size
      try simp only [World.size_alloc, World.size_setCell, World.size_drew, size_drewN] at s3
      obtain ⟨rl_3, bb_3⟩ : RowIn .u32 w3 (0) (w.heap.size) Al nl xsl ∧ Below w.heap.size w w3 := by
        refine ⟨?_, ?_⟩
        all_goals repeat' (first | (with_reducible first | assumption | exact Below.refl _ _ | refine Blk.drewN ?_ _ | refine RowIn.drewN ?_ _ | refine below_drewN ?_ _ | refine Blk.drew ?_ | refine RowIn.drew ?_ | refine Below.drew ?_) | (with_reducible refine Blk.new' ?_ ?_ <;> first | (with_reducible rfl) | (simp; done)) | (with_reducible first | refine Blk.alloc ?_ _ | refine RowIn.alloc ?_ _ | refine Below.alloc ?_ ?_ _ | apply Blk.set' | apply Blk.far' | refine RowIn.far' ?_ ?_ _ | refine Below.far' ?_ ?_ _ | refine Blk.after ?_ b3 | refine RowIn.belowS ?_ b3 | refine Below.after ?_ b3 ?_) | (exact (Eq.refl _ : (_ : List Value) = _)) | omega | go_size)
      clear rl_2 bb_2 b3
      go_wp2
      go_ret
      refine ⟨rfl, ?_⟩
      repeat' (first | (with_reducible first | assumption | exact Below.refl _ _ | refine Blk.drewN ?_ _ | refine RowIn.drewN ?_ _ | refine below_drewN ?_ _ | refine Blk.drew ?_ | refine RowIn.drew ?_ | refine Below.drew ?_) | (with_reducible refine Blk.new' ?_ ?_ <;> first | (with_reducible rfl) | (simp; done)) | (with_reducible first | refine Blk.alloc ?_ _ | refine RowIn.alloc ?_ _ | refine Below.alloc ?_ ?_ _ | apply Blk.set' | apply Blk.far' | refine RowIn.far' ?_ ?_ _ | refine Below.far' ?_ ?_ _) | (exact (Eq.refl _ : (_ : List Value) = _)) | omega | go_size)


end Go.Proofs.Ytpohaikbbfochaa
