/-
  Texts joined (BitE, BitF, BitG, UnaA, RiceA, DualA).
-/
import Derived.Test.YtpohaikbbfochaaDoorPk1
/-
  Contracts of Cut, Join, Of and Align of bits.
-/
namespace Go.Proofs.YtpohaikbbfochaaDoor
open Go.RowKit Cad Cad.Bit
set_option linter.unusedVariables false
set_option linter.unusedSimpArgs false

theorem get_int (A : Option Addr) (m c : Nat) (N : Int) (bs : List Bool) (p n : Int) (w : World) (ha : Row .u8 w A m (pack bs)) (hm : m ≤ 9223372036854775807) (hp0 : 0 ≤ p) (hn0 : 0 ≤ n) (hp : p + n ≤ (bs.length : Int)) (hl : bs.length ≤ 330000) (hn : n ≤ 64) :
    Calls Tryd.prog 43 #[.agg #[.slice A m c, .int .i64 N], .int .i64 p, .int .i64 n] w fun e w' => ∃ y : Nat, e = .returned (.int .u64 (y : Int)) ∧ Hid (y = bval ((bs.drop p.toNat).take n.toNat)) ∧ y < 18446744073709551616 ∧ Below w.heap.size w w' := by
  have h := get_any A m c N bs p.toNat n.toNat w ha hm (by omega) hl (by omega)
  rw [Int.toNat_of_nonneg hp0, Int.toNat_of_nonneg hn0] at h
  refine h.mono fun e w' ⟨he, hb⟩ => ⟨_, he, Lib.hid rfl, ?_, hb⟩
  have h2 := bval_lt ((bs.drop p.toNat).take n.toNat)
  refine Nat.lt_of_lt_of_le h2 (pow_le_u64 ?_)
  have := List.length_take_le n.toNat (bs.drop p.toNat)
  omega
theorem put_int (g base : Nat) (A : Option Addr) (m c : Nat) (N : Int) (bs : List Bool) (v n : Int) (w : World) (hv : 0 ≤ v ∧ v < 18446744073709551616) (hn : 0 ≤ n ∧ n ≤ 64) (hl : bs.length + n.toNat ≤ 330000) (hbase : base ≤ w.heap.size)
    (hN : N = (bs.length : Nat)) (hc2 : Blk w g 26 [.slice A m c, .int .i64 N]) (hown : Own w base 5 .u8 A m c (pack bs)) :
    Calls Tryd.prog 36 #[.pointer (some ⟨g, 0, none⟩), .int .u64 v, .int .i64 n] w fun e w' => e = .returned (.tuple #[]) ∧
      ∃ (B : Option Addr) (m' d : Nat) (bs' : List Bool), Blk w' g 26 [.slice B m' d, .int .i64 (bs'.length : Nat)] ∧ Own w' base 5 .u8 B m' d (pack bs') ∧ Hid (bs' = bs ++ lowBits v.toNat n.toNat) ∧ Frm (fun k => k = g ∨ blockOf A = some k) w w' ∧ (∀ k, blockOf B = some k → k < w.heap.size → blockOf A = some k) := by
  subst hN
  have h := put_any g base A m c bs v.toNat n.toNat w (by omega) (by omega) hl hbase hc2 hown
  rw [Int.toNat_of_nonneg hv.1, Int.toNat_of_nonneg hn.1] at h
  refine h.mono ?_
  rintro e w' ⟨rfl, B, m', d, h1, h2, h3, h4⟩
  refine ⟨rfl, B, m', d, bs ++ lowBits v.toNat n.toNat, ?_, h2, Lib.hid rfl, h3, h4⟩
  have e1 : (bs ++ lowBits v.toNat n.toNat).length = bs.length + n.toNat := by rw [List.length_append, lowBits_len]
  rw [e1]; exact h1

/-- What Cut returns. -/
def cutR (bs : List Bool) (p q : Int) : List Bool × Int := if p < 0 ∨ q < p ∨ (bs.length : Int) < q then ([], 2) else ((bs.drop p.toNat).take (q.toNat - p.toNat), 0)
theorem lowBits_bval' {l : List Bool} {n : Nat} (h : l.length = n) : lowBits (bval l) n = l := by rw [← h]; exact lowBits_bval l
/-- One round of Cut: the next bits behind those that are there. -/
theorem cut_step {bs : List Bool} {i a L t : Nat} (ha : a = i + L) (h : a + t ≤ bs.length) : (bs.drop i).take L ++ lowBits (bval ((bs.drop a).take t)) t = (bs.drop i).take (L + t) := by
  subst ha
  rw [lowBits_bval' (by rw [List.length_take, List.length_drop]; omega), List.take_add, List.drop_drop]


set_option maxHeartbeats 1000000 in
theorem bcut_ret (A : Option Addr) (m c : Nat) (bs : List Bool) (p q : Int) (w : World) (ha : Row .u8 w A m (pack bs)) (hc : m ≤ c ∧ c ≤ 9223372036854775807) (hl : bs.length ≤ 330000) :
    Calls Tryd.prog 60 #[.agg #[.slice A m c, .int .i64 (bs.length : Nat)], .int .i64 p, .int .i64 q] w (RetB w (cutR bs p q).1 (cutR bs p q).2) := by
  have hm : m ≤ 41250 := by have := ha.len; rw [pack_len] at this; unfold bytesFor at this; omega
  have hri := ha.rowIn
  by_cases h1 : p < 0
  · have HR : Hid (cutR bs p q = ([], 2)) := by unfold cutR; rw [if_pos (Or.inl h1)]; rfl
    go_enter Tryd.func60, Tryd.ntmps60
    go_wp2_with fail
    refine (bcheck_ok A m c bs _ (by exact ((ha.alloc _).alloc _)) (by omega) hl).mono ?_
    rintro e w1 ⟨rfl, b1⟩
    have s1 := b1.size
    try simp only [World.size_alloc, World.size_setCell, World.size_drew, size_drewN] at s1
    obtain ⟨zb_1, zr_1, bb_1⟩ : Blk w1 (w.heap.size) 26 [.slice A m c, .int .i64 ((bs.length : Nat) : Int)] ∧ Blk w1 (w.heap.size + 1) 26 [.slice none 0 0, .int .i64 0] ∧ Below w.heap.size w w1 := by
      refine ⟨?_, ?_, ?_⟩
      all_goals repeat' (first | (with_reducible assumption) | (with_reducible exact Below.refl _ _) | (with_reducible refine Blk.after ?_ b1) | (with_reducible refine RowIn.belowS ?_ b1) | (with_reducible refine Below.after ?_ b1 ?_) | (with_reducible refine Blk.drewN ?_ _) | (with_reducible refine RowIn.drewN ?_ _) | (with_reducible refine below_drewN ?_ _) | (with_reducible refine Blk.drew ?_) | (with_reducible refine RowIn.drew ?_) | (with_reducible refine Below.drew ?_) | (with_reducible refine Blk.new' ?_ ?_ <;> first | (with_reducible rfl) | (simp; done)) | (with_reducible refine Blk.alloc ?_ _) | (with_reducible refine RowIn.alloc ?_ _) | (with_reducible refine Below.alloc ?_ ?_ _) | (with_reducible refine Blk.set' ?_ ?_) | (with_reducible refine Blk.far' ?_ ?_ _) | (with_reducible refine RowIn.far' ?_ ?_ _) | (with_reducible refine Below.far' ?_ ?_ _) | rfl | omega | go_size)
    clear b1
    have kb_1 := zb_1.cell; have fb_1 := zb_1.frozen
    have kr_1 := zr_1.cell; have fr_1 := zr_1.frozen
    go_wp2
    refine bodyPost_ret (v := .tuple #[.agg #[.slice none 0 0, .int .i64 0], .int .i64 2]) (by simp [results, Tryd.results60, go_sem, kr_1]) rfl ?_
    rw [HR.out]
    refine RetB.of rfl (BitsIn.zero _ _ _) ?_
    · repeat' (first | (with_reducible assumption) | (with_reducible exact Below.refl _ _) | (with_reducible refine Blk.drewN ?_ _) | (with_reducible refine RowIn.drewN ?_ _) | (with_reducible refine below_drewN ?_ _) | (with_reducible refine Blk.drew ?_) | (with_reducible refine RowIn.drew ?_) | (with_reducible refine Below.drew ?_) | (with_reducible refine Blk.new' ?_ ?_ <;> first | (with_reducible rfl) | (simp; done)) | (with_reducible refine Blk.alloc ?_ _) | (with_reducible refine RowIn.alloc ?_ _) | (with_reducible refine Below.alloc ?_ ?_ _) | (with_reducible refine Blk.set' ?_ ?_) | (with_reducible refine Blk.far' ?_ ?_ _) | (with_reducible refine RowIn.far' ?_ ?_ _) | (with_reducible refine Below.far' ?_ ?_ _) | rfl | omega | go_size)
  by_cases h2 : q < p
  · have HR : Hid (cutR bs p q = ([], 2)) := by unfold cutR; rw [if_pos (Or.inr (Or.inl h2))]; rfl
    go_enter Tryd.func60, Tryd.ntmps60
    go_wp2_with fail
    refine (bcheck_ok A m c bs _ (by exact ((ha.alloc _).alloc _)) (by omega) hl).mono ?_
    rintro e w1 ⟨rfl, b1⟩
    have s1 := b1.size
    try simp only [World.size_alloc, World.size_setCell, World.size_drew, size_drewN] at s1
    obtain ⟨zb_1, zr_1, bb_1⟩ : Blk w1 (w.heap.size) 26 [.slice A m c, .int .i64 ((bs.length : Nat) : Int)] ∧ Blk w1 (w.heap.size + 1) 26 [.slice none 0 0, .int .i64 0] ∧ Below w.heap.size w w1 := by
      refine ⟨?_, ?_, ?_⟩
      all_goals repeat' (first | (with_reducible assumption) | (with_reducible exact Below.refl _ _) | (with_reducible refine Blk.after ?_ b1) | (with_reducible refine RowIn.belowS ?_ b1) | (with_reducible refine Below.after ?_ b1 ?_) | (with_reducible refine Blk.drewN ?_ _) | (with_reducible refine RowIn.drewN ?_ _) | (with_reducible refine below_drewN ?_ _) | (with_reducible refine Blk.drew ?_) | (with_reducible refine RowIn.drew ?_) | (with_reducible refine Below.drew ?_) | (with_reducible refine Blk.new' ?_ ?_ <;> first | (with_reducible rfl) | (simp; done)) | (with_reducible refine Blk.alloc ?_ _) | (with_reducible refine RowIn.alloc ?_ _) | (with_reducible refine Below.alloc ?_ ?_ _) | (with_reducible refine Blk.set' ?_ ?_) | (with_reducible refine Blk.far' ?_ ?_ _) | (with_reducible refine RowIn.far' ?_ ?_ _) | (with_reducible refine Below.far' ?_ ?_ _) | rfl | omega | go_size)
    clear b1
    have kb_1 := zb_1.cell; have fb_1 := zb_1.frozen
    have kr_1 := zr_1.cell; have fr_1 := zr_1.frozen
    go_wp2
    refine bodyPost_ret (v := .tuple #[.agg #[.slice none 0 0, .int .i64 0], .int .i64 2]) (by simp [results, Tryd.results60, go_sem, kr_1]) rfl ?_
    rw [HR.out]
    refine RetB.of rfl (BitsIn.zero _ _ _) ?_
    · repeat' (first | (with_reducible assumption) | (with_reducible exact Below.refl _ _) | (with_reducible refine Blk.drewN ?_ _) | (with_reducible refine RowIn.drewN ?_ _) | (with_reducible refine below_drewN ?_ _) | (with_reducible refine Blk.drew ?_) | (with_reducible refine RowIn.drew ?_) | (with_reducible refine Below.drew ?_) | (with_reducible refine Blk.new' ?_ ?_ <;> first | (with_reducible rfl) | (simp; done)) | (with_reducible refine Blk.alloc ?_ _) | (with_reducible refine RowIn.alloc ?_ _) | (with_reducible refine Below.alloc ?_ ?_ _) | (with_reducible refine Blk.set' ?_ ?_) | (with_reducible refine Blk.far' ?_ ?_ _) | (with_reducible refine RowIn.far' ?_ ?_ _) | (with_reducible refine Below.far' ?_ ?_ _) | rfl | omega | go_size)
  by_cases h3 : (bs.length : Int) < q
  · have HR : Hid (cutR bs p q = ([], 2)) := by unfold cutR; rw [if_pos (Or.inr (Or.inr h3))]; rfl
    go_enter Tryd.func60, Tryd.ntmps60
    go_wp2_with fail
    refine (bcheck_ok A m c bs _ (by exact ((ha.alloc _).alloc _)) (by omega) hl).mono ?_
    rintro e w1 ⟨rfl, b1⟩
    have s1 := b1.size
    try simp only [World.size_alloc, World.size_setCell, World.size_drew, size_drewN] at s1
    obtain ⟨zb_1, zr_1, bb_1⟩ : Blk w1 (w.heap.size) 26 [.slice A m c, .int .i64 ((bs.length : Nat) : Int)] ∧ Blk w1 (w.heap.size + 1) 26 [.slice none 0 0, .int .i64 0] ∧ Below w.heap.size w w1 := by
      refine ⟨?_, ?_, ?_⟩
      all_goals repeat' (first | (with_reducible assumption) | (with_reducible exact Below.refl _ _) | (with_reducible refine Blk.after ?_ b1) | (with_reducible refine RowIn.belowS ?_ b1) | (with_reducible refine Below.after ?_ b1 ?_) | (with_reducible refine Blk.drewN ?_ _) | (with_reducible refine RowIn.drewN ?_ _) | (with_reducible refine below_drewN ?_ _) | (with_reducible refine Blk.drew ?_) | (with_reducible refine RowIn.drew ?_) | (with_reducible refine Below.drew ?_) | (with_reducible refine Blk.new' ?_ ?_ <;> first | (with_reducible rfl) | (simp; done)) | (with_reducible refine Blk.alloc ?_ _) | (with_reducible refine RowIn.alloc ?_ _) | (with_reducible refine Below.alloc ?_ ?_ _) | (with_reducible refine Blk.set' ?_ ?_) | (with_reducible refine Blk.far' ?_ ?_ _) | (with_reducible refine RowIn.far' ?_ ?_ _) | (with_reducible refine Below.far' ?_ ?_ _) | rfl | omega | go_size)
    clear b1
    have kb_1 := zb_1.cell; have fb_1 := zb_1.frozen
    have kr_1 := zr_1.cell; have fr_1 := zr_1.frozen
    go_wp2
    refine bodyPost_ret (v := .tuple #[.agg #[.slice none 0 0, .int .i64 0], .int .i64 2]) (by simp [results, Tryd.results60, go_sem, kr_1]) rfl ?_
    rw [HR.out]
    refine RetB.of rfl (BitsIn.zero _ _ _) ?_
    · repeat' (first | (with_reducible assumption) | (with_reducible exact Below.refl _ _) | (with_reducible refine Blk.drewN ?_ _) | (with_reducible refine RowIn.drewN ?_ _) | (with_reducible refine below_drewN ?_ _) | (with_reducible refine Blk.drew ?_) | (with_reducible refine RowIn.drew ?_) | (with_reducible refine Below.drew ?_) | (with_reducible refine Blk.new' ?_ ?_ <;> first | (with_reducible rfl) | (simp; done)) | (with_reducible refine Blk.alloc ?_ _) | (with_reducible refine RowIn.alloc ?_ _) | (with_reducible refine Below.alloc ?_ ?_ _) | (with_reducible refine Blk.set' ?_ ?_) | (with_reducible refine Blk.far' ?_ ?_ _) | (with_reducible refine RowIn.far' ?_ ?_ _) | (with_reducible refine Below.far' ?_ ?_ _) | rfl | omega | go_size)
  obtain ⟨i, rfl⟩ := Int.eq_ofNat_of_zero_le (by omega : 0 ≤ p)
  obtain ⟨j, rfl⟩ := Int.eq_ofNat_of_zero_le (by omega : 0 ≤ q)
  have HR : Hid (cutR bs (i : Nat) (j : Nat) = ((bs.drop i).take (j - i), 0)) := by unfold cutR; rw [if_neg (by omega)]; rfl
  have hij : i ≤ j := by omega
  have hjl : j ≤ bs.length := by omega
  clear h1 h2 h3
  have t1 : decide ((i : Int) < 0) = false := decide_eq_false (by omega)
  have t2 : decide (j < i) = false := decide_eq_false (by omega)
  have t3 : decide (bs.length < j) = false := decide_eq_false (by omega)
  go_enter Tryd.func60, Tryd.ntmps60
  go_wp2_with fail
  refine (bcheck_ok A m c bs _ (by exact ((ha.alloc _).alloc _)) (by omega) hl).mono ?_
  rintro e w1 ⟨rfl, b1⟩
  have s1 := b1.size
  try simp only [World.size_alloc, World.size_setCell, World.size_drew, size_drewN] at s1
  obtain ⟨zb_1, zr_1, bb_1⟩ : Blk w1 (w.heap.size) 26 [.slice A m c, .int .i64 ((bs.length : Nat) : Int)] ∧ Blk w1 (w.heap.size + 1) 26 [.slice none 0 0, .int .i64 0] ∧ Below w.heap.size w w1 := by
    refine ⟨?_, ?_, ?_⟩
    all_goals repeat' (first | (with_reducible assumption) | (with_reducible exact Below.refl _ _) | (with_reducible refine Blk.after ?_ b1) | (with_reducible refine RowIn.belowS ?_ b1) | (with_reducible refine Below.after ?_ b1 ?_) | (with_reducible refine Blk.drewN ?_ _) | (with_reducible refine RowIn.drewN ?_ _) | (with_reducible refine below_drewN ?_ _) | (with_reducible refine Blk.drew ?_) | (with_reducible refine RowIn.drew ?_) | (with_reducible refine Below.drew ?_) | (with_reducible refine Blk.new' ?_ ?_ <;> first | (with_reducible rfl) | (simp; done)) | (with_reducible refine Blk.alloc ?_ _) | (with_reducible refine RowIn.alloc ?_ _) | (with_reducible refine Below.alloc ?_ ?_ _) | (with_reducible refine Blk.set' ?_ ?_) | (with_reducible refine Blk.far' ?_ ?_ _) | (with_reducible refine RowIn.far' ?_ ?_ _) | (with_reducible refine Below.far' ?_ ?_ _) | rfl | omega | go_size)
  clear b1
  have kb_1 := zb_1.cell; have fb_1 := zb_1.frozen
  have kr_1 := zr_1.cell; have fr_1 := zr_1.frozen
  go_wp2_with fail
  obtain ⟨R, hR⟩ : ∃ R, (j - i + 63) / 64 = R := ⟨_, rfl⟩
  have HRR := Lib.hid hR; clear hR
  go_loopg [9] R (fun k v wr => ∃ (r a L : Nat) (B : Option Addr) (m' d : Nat), r + k = R ∧ v = .int .i64 (a : Nat) ∧ Hid (a = i + 64 * r) ∧ Hid (L = min (64 * r) (j - i)) ∧ Blk wr w1.heap.size 26 [.slice B m' d, .int .i64 (L : Nat)] ∧ Own wr (w1.heap.size + 1) 5 .u8 B m' d (pack ((bs.drop i).take L)) ∧ Below w1.heap.size w1 wr)
  case atStart =>
    refine ⟨0, i, 0, none, 0, 0, by omega, rfl, Lib.hid (by omega), Lib.hid (by omega), ?_, by rw [List.take_zero]; exact Own.nil _ _ _ _, ?_⟩
    all_goals repeat' (first | (with_reducible assumption) | (with_reducible exact Below.refl _ _) | (with_reducible refine Blk.drewN ?_ _) | (with_reducible refine RowIn.drewN ?_ _) | (with_reducible refine below_drewN ?_ _) | (with_reducible refine Blk.drew ?_) | (with_reducible refine RowIn.drew ?_) | (with_reducible refine Below.drew ?_) | (with_reducible refine Blk.new' ?_ ?_ <;> first | (with_reducible rfl) | (simp; done)) | (with_reducible refine Blk.alloc ?_ _) | (with_reducible refine RowIn.alloc ?_ _) | (with_reducible refine Below.alloc ?_ ?_ _) | (with_reducible refine Blk.set' ?_ ?_) | (with_reducible refine Blk.far' ?_ ?_ _) | (with_reducible refine RowIn.far' ?_ ?_ _) | (with_reducible refine Below.far' ?_ ?_ _) | rfl | omega | go_size)
  case round =>
    obtain ⟨r, a, L, B, m', d, hk, rfl, HA, HLL, zo, own, br⟩ := hrel
    have sr := br.size
    have hsz := zo.lt
    have hb : Blk wr w.heap.size 26 [.slice A m c, .int .i64 ((bs.length : Nat) : Int)] := zb_1.after br
    have hres : Blk wr (w.heap.size + 1) 26 [.slice none 0 0, .int .i64 0] := zr_1.after br
    have hrow : RowIn .u8 wr 0 w.heap.size A m (pack bs) := hri.below (Below.after bb_1 br bb_1.size) (Nat.le_refl _)
    have bbr : Below w.heap.size w wr := Below.after bb_1 br bb_1.size
    clear zb_1 zr_1 kb_1 fb_1 kr_1 fr_1 bb_1
    have kb := hb.cell; have fb := hb.frozen; have kr := hres.cell; have fr := hres.frozen; have ko := zo.cell; have fo := zo.frozen
    have hlt1 := hres.lt
    by_cases hlt : a < j
    · have hL : L + i = a := by have := HA.out; have := HLL.out; omega
      have HL := Lib.hid hL
      have hLle : L ≤ j - i := by omega
      have hrR : r < R := by have := HA.out; have := HRR.out; omega
      clear hL
      by_cases h64 : 64 ≤ j - a
      · have h64' : (64 : Int) ≤ (j : Int) - (a : Int) := by omega
        go_wp2_with fail
        refine (get_int A m c _ bs _ _ _ (by exact hrow.row) (by omega) (by omega) (by omega) (by omega) hl (by omega)).mono ?_
        rintro e w2 ⟨y, rfl, HY, hy, b2⟩
        have zo2 := zo.after b2
        have own2 := own.below b2 (Nat.le_refl _)
        have s2 := b2.size
        have kb2 := (hb.after b2).cell
        go_wp2_with fail
        refine (put_int _ (w1.heap.size + 1) B m' d (L : Nat) ((bs.drop i).take L) _ _ w2 (by omega) (by omega) (by rw [List.length_take, List.length_drop]; have := HL.out; omega) (by omega) (by rw [List.length_take, List.length_drop, Nat.min_eq_left (by have := HL.out; omega)]) zo2 own2).mono ?_
        rintro e w3 ⟨rfl, B3, m3, d3, bs3, zo3, own3, HB, fr3, hB3⟩
        have fin : Hid (bs3 = (bs.drop i).take (L + 64)) := by
          rw [HB.out, HY.out]
          exact cut_step (by have := HL.out; omega) (by omega)
        have fin2 : bs3.length = L + 64 := by rw [fin.out, List.length_take, List.length_drop]; have := HL.out; omega
        rw [fin2] at zo3
        have hown := own2.block
        have br3 : Below w1.heap.size w1 w3 := (Below.after br b2 br.size).trans (fr3.below (by omega) (fun k hk => by
          rintro (h | h)
          · omega
          · have := hown k h; omega))
        have HB3 := fin
        clear fin2 fin HB HY ko fo kb fb kr fr kb2 zo zo2 own own2
        go_wp2
        go_roundg (R - (r + 1))
        case measure => omega
        case rel => exact ⟨r + 1, a + 64, L + 64, B3, m3, d3, by omega, by go_num, Lib.hid (by have := HA.out; omega), Lib.hid (by have := HLL.out; have := HA.out; have := HL.out; omega), zo3, by rw [← HB3.out]; exact own3, br3⟩
      · obtain ⟨t, ht⟩ : ∃ t, j - a = t := ⟨_, rfl⟩
        have h64' : (j : Int) - (a : Int) = (t : Int) := by omega
        have h65 : ¬ (64 : Int) ≤ (t : Int) := by omega
        have ht1 : a + t ≤ j := by omega
        have ht2 : j ≤ a + t := by omega
        clear ht
        go_wp2_with fail
        refine (get_int A m c _ bs _ _ _ (by exact hrow.row) (by omega) (by omega) (by omega) (by omega) hl (by omega)).mono ?_
        rintro e w2 ⟨y, rfl, HY, hy, b2⟩
        have zo2 := zo.after b2
        have own2 := own.below b2 (Nat.le_refl _)
        have s2 := b2.size
        have kb2 := (hb.after b2).cell
        go_wp2_with fail
        refine (put_int _ (w1.heap.size + 1) B m' d (L : Nat) ((bs.drop i).take L) _ _ w2 (by omega) (by omega) (by rw [List.length_take, List.length_drop]; have := HL.out; omega) (by omega) (by rw [List.length_take, List.length_drop, Nat.min_eq_left (by have := HL.out; omega)]) zo2 own2).mono ?_
        rintro e w3 ⟨rfl, B3, m3, d3, bs3, zo3, own3, HB, fr3, hB3⟩
        have fin : Hid (bs3 = (bs.drop i).take (L + t)) := by
          rw [HB.out, HY.out]
          exact cut_step (by have := HL.out; omega) (by omega)
        have fin2 : bs3.length = L + t := by rw [fin.out, List.length_take, List.length_drop]; have := HL.out; omega
        rw [fin2] at zo3
        have hown := own2.block
        have br3 : Below w1.heap.size w1 w3 := (Below.after br b2 br.size).trans (fr3.below (by omega) (fun k hk => by
          rintro (h | h)
          · omega
          · have := hown k h; omega))
        have HB3 := fin
        clear fin2 fin HB HY ko fo kb fb kr fr kb2 zo zo2 own own2
        go_wp2
        go_roundg (R - (r + 1))
        case measure => omega
        case rel => exact ⟨r + 1, a + 64, L + t, B3, m3, d3, by omega, by go_num, Lib.hid (by have := HA.out; omega), Lib.hid (by have := HLL.out; have := HA.out; have := HL.out; omega), zo3, by rw [← HB3.out]; exact own3, br3⟩
    · have hLe : L = j - i := by have := HA.out; have := HLL.out; have := HRR.out; omega
      subst hLe
      go_wp2
      refine bodyPost_ret (v := .tuple #[.agg #[.slice B m' d, .int .i64 ((j - i : Nat) : Int)], .int .i64 0]) (by simp [results, Tryd.results60, go_sem, kr]) rfl ?_
      rw [HR.out]
      have hlen : ((bs.drop i).take (j - i)).length = j - i := by rw [List.length_take, List.length_drop]; omega
      refine RetB.of (x := .agg #[.slice B m' d, .int .i64 ((j - i : Nat) : Int)]) rfl ⟨B, m', d, by rw [hlen], own.rowC.2, ?_⟩ ?_
      · refine RowIn.mono (lo := w1.heap.size + 1) (hi := wr.heap.size) ?_ (by omega) (by go_size)
        have := own.rowIn
        repeat' (first | (with_reducible assumption) | (with_reducible exact Below.refl _ _) | (with_reducible refine Blk.drewN ?_ _) | (with_reducible refine RowIn.drewN ?_ _) | (with_reducible refine below_drewN ?_ _) | (with_reducible refine Blk.drew ?_) | (with_reducible refine RowIn.drew ?_) | (with_reducible refine Below.drew ?_) | (with_reducible refine Blk.new' ?_ ?_ <;> first | (with_reducible rfl) | (simp; done)) | (with_reducible refine Blk.alloc ?_ _) | (with_reducible refine RowIn.alloc ?_ _) | (with_reducible refine Below.alloc ?_ ?_ _) | (with_reducible refine Blk.set' ?_ ?_) | (with_reducible refine Blk.far' ?_ ?_ _) | (with_reducible refine RowIn.far' ?_ ?_ _) | (with_reducible refine Below.far' ?_ ?_ _) | rfl | omega | go_size)
      · repeat' (first | (with_reducible assumption) | (with_reducible exact Below.refl _ _) | (with_reducible refine Blk.drewN ?_ _) | (with_reducible refine RowIn.drewN ?_ _) | (with_reducible refine below_drewN ?_ _) | (with_reducible refine Blk.drew ?_) | (with_reducible refine RowIn.drew ?_) | (with_reducible refine Below.drew ?_) | (with_reducible refine Blk.new' ?_ ?_ <;> first | (with_reducible rfl) | (simp; done)) | (with_reducible refine Blk.alloc ?_ _) | (with_reducible refine RowIn.alloc ?_ _) | (with_reducible refine Below.alloc ?_ ?_ _) | (with_reducible refine Blk.set' ?_ ?_) | (with_reducible refine Blk.far' ?_ ?_ _) | (with_reducible refine RowIn.far' ?_ ?_ _) | (with_reducible refine Below.far' ?_ ?_ _) | rfl | omega | go_size)

end Go.Proofs.YtpohaikbbfochaaDoor


/-
  Contracts of Join, Of and Align of bits; what the functions do with bits that are not valid.
-/
namespace Go.Proofs.YtpohaikbbfochaaDoor
open Go.RowKit Cad Cad.Bit
set_option linter.unusedVariables false
set_option linter.unusedSimpArgs false

theorem bcheck_bad (A : Option Addr) (n c : Nat) (N : Int) (bytes : List Int) (w : World) (ha : Row .u8 w A n bytes) (hb : Within 0 255 bytes) (hn : n ≤ 9223372036854775807) (hv : ¬ Valid bytes N) :
    Calls Tryd.prog 34 #[.agg #[.slice A n c, .int .i64 N]] w fun e w' => e = .returned (.int .i64 8) ∧ Below w.heap.size w w' :=
  (bcheck_any A n c N bytes w ha hb hn).mono fun e w' h => ⟨by rw [h.1]; unfold chkB; rw [if_neg hv], h.2⟩

set_option maxHeartbeats 1000000 in
theorem join1_any (g gb base : Nat) (B : Option Addr) (m' d : Nat) (N : Int) (os : List Bool) (A : Option Addr) (m c : Nat) (bs : List Bool) (p n : Int) (w : World) (hp0 : 0 ≤ p) (hn : 0 ≤ n ∧ n ≤ 64) (hp : p + n ≤ (bs.length : Int)) (hl : bs.length ≤ 330000) (hr : os.length + n.toNat ≤ 330000) (hbase : base ≤ w.heap.size)
    (hm : m ≤ 9223372036854775807) (hrow : Row .u8 w A m (pack bs)) (hbb : Blk w gb 26 [.slice A m c, .int .i64 (bs.length : Nat)]) (hN : N = (os.length : Nat)) (hc2 : Blk w g 26 [.slice B m' d, .int .i64 N]) (hown : Own w base 5 .u8 B m' d (pack os)) :
    Calls Tryd.prog 71 #[.int .i64 p, .int .i64 n, .pointer (some ⟨g, 0, none⟩), .pointer (some ⟨gb, 0, none⟩)] w fun e w' => e = .returned (.tuple #[]) ∧
      ∃ (B' : Option Addr) (m2 d2 : Nat) (os' : List Bool), Blk w' g 26 [.slice B' m2 d2, .int .i64 (os'.length : Nat)] ∧ Own w' base 5 .u8 B' m2 d2 (pack os') ∧ Hid (os' = os ++ (bs.drop p.toNat).take n.toNat) ∧ Frm (fun k => k = g ∨ blockOf B = some k) w w' := by
  have kb := hbb.cell
  go_enter Tryd.func71, Tryd.ntmps71
  go_wp2_with fail
  refine (get_int A m c _ bs _ _ _ hrow hm hp0 hn.1 hp hl hn.2).mono ?_
  rintro e w2 ⟨y, rfl, HY, hy, b2⟩
  have zo2 := hc2.after b2
  have own2 := hown.below b2 (Nat.le_refl _)
  have s2 := b2.size
  clear kb
  go_wp2_with fail
  refine (put_int _ base B m' d N os _ _ w2 (by omega) hn hr (by omega) hN zo2 own2).mono ?_
  rintro e w3 ⟨rfl, B3, m3, d3, os3, zo3, own3, HB, fr3, hB3⟩
  have fin : Hid (os3 = os ++ (bs.drop p.toNat).take n.toNat) := by
    rw [HB.out, HY.out]
    show os ++ lowBits ((bval ((bs.drop p.toNat).take n.toNat) : Nat) : Int).toNat n.toNat = _
    rw [Int.toNat_natCast, lowBits_bval' (by rw [List.length_take, List.length_drop]; omega)]
  go_wp2
  go_end0
  refine ⟨rfl, B3, m3, d3, os3, zo3, own3, fin, ?_⟩
  exact (Frm.of_below b2 _).trans fr3 (fun i _ h => h)

/-- What Join returns. -/
def joinR (fs bs : List Bool) : List Bool × Int := if 330000 < fs.length + bs.length then ([], 18) else (fs ++ bs, 0)


set_option maxHeartbeats 1000000 in
theorem bjoin_ret (A B : Option Addr) (m c n d : Nat) (fs bs : List Bool) (w : World) (ha : Row .u8 w A m (pack fs)) (hb : Row .u8 w B n (pack bs)) (hc : m ≤ c ∧ c ≤ 9223372036854775807) (hd : n ≤ d ∧ d ≤ 9223372036854775807) (hal : fs.length ≤ 330000) (hbl : bs.length ≤ 330000) :
    Calls Tryd.prog 48 #[.agg #[.slice A m c, .int .i64 ((fs.length : Nat) : Int)], .agg #[.slice B n d, .int .i64 ((bs.length : Nat) : Int)]] w (RetB w (joinR fs bs).1 (joinR fs bs).2) := by
  have hm : m ≤ 41250 := by have := ha.len; rw [pack_len] at this; unfold bytesFor at this; omega
  have hrai := ha.rowIn
  have hrbi := hb.rowIn
  by_cases h1 : 330000 < fs.length + bs.length
  · have HR : Hid (joinR fs bs = ([], 18)) := by unfold joinR; rw [if_pos h1]; rfl

    go_enter Tryd.func48, Tryd.ntmps48
    go_wp2_with fail
    refine (bcheck_ok A m c fs _ (by exact (((ha.alloc _).alloc _).alloc _)) (by omega) hal).mono ?_
    rintro e w1 ⟨rfl, b1⟩
    have s1 := b1.size
    try simp only [World.size_alloc, World.size_setCell, World.size_drew, size_drewN] at s1
    obtain ⟨za_1, zb_1, zr_1, ra_1, rb_1, bb_1⟩ : Blk w1 (w.heap.size) 26 [.slice A m c, .int .i64 ((fs.length : Nat) : Int)] ∧ Blk w1 (w.heap.size + 1) 26 [.slice B n d, .int .i64 ((bs.length : Nat) : Int)] ∧ Blk w1 (w.heap.size + 1 + 1) 26 [.slice none 0 0, .int .i64 0] ∧ RowIn .u8 w1 (0) (w.heap.size) A m (pack fs) ∧ RowIn .u8 w1 (0) (w.heap.size) B n (pack bs) ∧ Below w.heap.size w w1 := by
      refine ⟨?_, ?_, ?_, ?_, ?_, ?_⟩
      all_goals repeat' (first | (with_reducible assumption) | (with_reducible exact Below.refl _ _) | (with_reducible refine Blk.after ?_ b1) | (with_reducible refine RowIn.belowS ?_ b1) | (with_reducible refine Below.after ?_ b1 ?_) | (with_reducible refine Blk.drewN ?_ _) | (with_reducible refine RowIn.drewN ?_ _) | (with_reducible refine below_drewN ?_ _) | (with_reducible refine Blk.drew ?_) | (with_reducible refine RowIn.drew ?_) | (with_reducible refine Below.drew ?_) | (with_reducible refine Blk.new' ?_ ?_ <;> first | (with_reducible rfl) | (simp; done)) | (with_reducible refine Blk.alloc ?_ _) | (with_reducible refine RowIn.alloc ?_ _) | (with_reducible refine Below.alloc ?_ ?_ _) | (with_reducible refine Blk.set' ?_ ?_) | (with_reducible refine Blk.far' ?_ ?_ _) | (with_reducible refine RowIn.far' ?_ ?_ _) | (with_reducible refine Below.far' ?_ ?_ _) | rfl | omega | go_size)
    clear b1
    have ka_1 := za_1.cell; have fa_1 := za_1.frozen; have la_1 := za_1.lt
    have kb_1 := zb_1.cell; have fb_1 := zb_1.frozen; have lb_1 := zb_1.lt
    have kr_1 := zr_1.cell; have fr_1 := zr_1.frozen; have lr_1 := zr_1.lt
    go_wp2_with fail
    refine (bcheck_ok B n d bs _ rb_1.row (by omega) hbl).mono ?_
    rintro e w2 ⟨rfl, b2⟩
    have s2 := b2.size
    try simp only [World.size_alloc, World.size_setCell, World.size_drew, size_drewN] at s2
    obtain ⟨za_2, zb_2, zr_2, ra_2, rb_2, bb_2⟩ : Blk w2 (w.heap.size) 26 [.slice A m c, .int .i64 ((fs.length : Nat) : Int)] ∧ Blk w2 (w.heap.size + 1) 26 [.slice B n d, .int .i64 ((bs.length : Nat) : Int)] ∧ Blk w2 (w.heap.size + 1 + 1) 26 [.slice none 0 0, .int .i64 0] ∧ RowIn .u8 w2 (0) (w.heap.size) A m (pack fs) ∧ RowIn .u8 w2 (0) (w.heap.size) B n (pack bs) ∧ Below w.heap.size w w2 := by
      refine ⟨?_, ?_, ?_, ?_, ?_, ?_⟩
      all_goals repeat' (first | (with_reducible assumption) | (with_reducible exact Below.refl _ _) | (with_reducible refine Blk.after ?_ b2) | (with_reducible refine RowIn.belowS ?_ b2) | (with_reducible refine Below.after ?_ b2 ?_) | (with_reducible refine Blk.drewN ?_ _) | (with_reducible refine RowIn.drewN ?_ _) | (with_reducible refine below_drewN ?_ _) | (with_reducible refine Blk.drew ?_) | (with_reducible refine RowIn.drew ?_) | (with_reducible refine Below.drew ?_) | (with_reducible refine Blk.new' ?_ ?_ <;> first | (with_reducible rfl) | (simp; done)) | (with_reducible refine Blk.alloc ?_ _) | (with_reducible refine RowIn.alloc ?_ _) | (with_reducible refine Below.alloc ?_ ?_ _) | (with_reducible refine Blk.set' ?_ ?_) | (with_reducible refine Blk.far' ?_ ?_ _) | (with_reducible refine RowIn.far' ?_ ?_ _) | (with_reducible refine Below.far' ?_ ?_ _) | rfl | omega | go_size)
    clear za_1 zb_1 zr_1 ra_1 rb_1 bb_1 ka_1 fa_1 la_1 kb_1 fb_1 lb_1 kr_1 fr_1 lr_1 b2
    have ka_2 := za_2.cell; have fa_2 := za_2.frozen; have la_2 := za_2.lt
    have kb_2 := zb_2.cell; have fb_2 := zb_2.frozen; have lb_2 := zb_2.lt
    have kr_2 := zr_2.cell; have fr_2 := zr_2.frozen; have lr_2 := zr_2.lt
    go_wp2
    refine bodyPost_ret (v := .tuple #[.agg #[.slice none 0 0, .int .i64 0], .int .i64 18]) (by simp [results, Tryd.results48, go_sem, kr_2]) rfl ?_
    rw [HR.out]
    refine RetB.of rfl (BitsIn.zero _ _ _) ?_
    repeat' (first | (with_reducible assumption) | (with_reducible exact Below.refl _ _) | (with_reducible refine Blk.drewN ?_ _) | (with_reducible refine RowIn.drewN ?_ _) | (with_reducible refine below_drewN ?_ _) | (with_reducible refine Blk.drew ?_) | (with_reducible refine RowIn.drew ?_) | (with_reducible refine Below.drew ?_) | (with_reducible refine Blk.new' ?_ ?_ <;> first | (with_reducible rfl) | (simp; done)) | (with_reducible refine Blk.alloc ?_ _) | (with_reducible refine RowIn.alloc ?_ _) | (with_reducible refine Below.alloc ?_ ?_ _) | (with_reducible refine Blk.set' ?_ ?_) | (with_reducible refine Blk.far' ?_ ?_ _) | (with_reducible refine RowIn.far' ?_ ?_ _) | (with_reducible refine Below.far' ?_ ?_ _) | rfl | omega | go_size)
  have HR : Hid (joinR fs bs = (fs ++ bs, 0)) := by unfold joinR; rw [if_neg h1]; rfl
  obtain ⟨Q, hQ⟩ : ∃ Q, bs.length / 64 = Q := ⟨_, rfl⟩
  obtain ⟨T, hT⟩ : ∃ T, bs.length % 64 = T := ⟨_, rfl⟩
  have hQ1 : 64 * Q + T ≤ bs.length := by omega
  have hQ2 : bs.length ≤ 64 * Q + T := by omega
  have hT1 : T ≤ 63 := by omega
  have q1 : ((bs.length : Nat) : Int) / 64 = (Q : Int) := by omega
  have q2 : ((bs.length : Nat) : Int) % 64 = (T : Int) := by omega
  have t1 : decide (330000 < (fs.length : Int) + (bs.length : Int)) = false := decide_eq_false (by omega)
  clear hQ hT
  have hmf : ∀ (fn : Fn) (first cap : Array Value) (w : World), (Instr.makeFunc fn first cap).run Tryd.prog w = .ok (.func fn first cap) w := fun _ _ _ _ => rfl
  go_enter Tryd.func48, Tryd.ntmps48
  go_wp2_with fail
  refine (bcheck_ok A m c fs _ (by exact (((ha.alloc _).alloc _).alloc _)) (by omega) hal).mono ?_
  rintro e w1 ⟨rfl, b1⟩
  have s1 := b1.size
  try simp only [World.size_alloc, World.size_setCell, World.size_drew, size_drewN] at s1
  obtain ⟨za_1, zb_1, zr_1, ra_1, rb_1, bb_1⟩ : Blk w1 (w.heap.size) 26 [.slice A m c, .int .i64 ((fs.length : Nat) : Int)] ∧ Blk w1 (w.heap.size + 1) 26 [.slice B n d, .int .i64 ((bs.length : Nat) : Int)] ∧ Blk w1 (w.heap.size + 1 + 1) 26 [.slice none 0 0, .int .i64 0] ∧ RowIn .u8 w1 (0) (w.heap.size) A m (pack fs) ∧ RowIn .u8 w1 (0) (w.heap.size) B n (pack bs) ∧ Below w.heap.size w w1 := by
    refine ⟨?_, ?_, ?_, ?_, ?_, ?_⟩
    all_goals repeat' (first | (with_reducible assumption) | (with_reducible exact Below.refl _ _) | (with_reducible refine Blk.after ?_ b1) | (with_reducible refine RowIn.belowS ?_ b1) | (with_reducible refine Below.after ?_ b1 ?_) | (with_reducible refine Blk.drewN ?_ _) | (with_reducible refine RowIn.drewN ?_ _) | (with_reducible refine below_drewN ?_ _) | (with_reducible refine Blk.drew ?_) | (with_reducible refine RowIn.drew ?_) | (with_reducible refine Below.drew ?_) | (with_reducible refine Blk.new' ?_ ?_ <;> first | (with_reducible rfl) | (simp; done)) | (with_reducible refine Blk.alloc ?_ _) | (with_reducible refine RowIn.alloc ?_ _) | (with_reducible refine Below.alloc ?_ ?_ _) | (with_reducible refine Blk.set' ?_ ?_) | (with_reducible refine Blk.far' ?_ ?_ _) | (with_reducible refine RowIn.far' ?_ ?_ _) | (with_reducible refine Below.far' ?_ ?_ _) | rfl | omega | go_size)
  clear b1
  have ka_1 := za_1.cell; have fa_1 := za_1.frozen; have la_1 := za_1.lt
  have kb_1 := zb_1.cell; have fb_1 := zb_1.frozen; have lb_1 := zb_1.lt
  have kr_1 := zr_1.cell; have fr_1 := zr_1.frozen; have lr_1 := zr_1.lt
  go_wp2_with fail
  refine (bcheck_ok B n d bs _ rb_1.row (by omega) hbl).mono ?_
  rintro e w2 ⟨rfl, b2⟩
  have s2 := b2.size
  try simp only [World.size_alloc, World.size_setCell, World.size_drew, size_drewN] at s2
  obtain ⟨za_2, zb_2, zr_2, ra_2, rb_2, bb_2⟩ : Blk w2 (w.heap.size) 26 [.slice A m c, .int .i64 ((fs.length : Nat) : Int)] ∧ Blk w2 (w.heap.size + 1) 26 [.slice B n d, .int .i64 ((bs.length : Nat) : Int)] ∧ Blk w2 (w.heap.size + 1 + 1) 26 [.slice none 0 0, .int .i64 0] ∧ RowIn .u8 w2 (0) (w.heap.size) A m (pack fs) ∧ RowIn .u8 w2 (0) (w.heap.size) B n (pack bs) ∧ Below w.heap.size w w2 := by
    refine ⟨?_, ?_, ?_, ?_, ?_, ?_⟩
    all_goals repeat' (first | (with_reducible assumption) | (with_reducible exact Below.refl _ _) | (with_reducible refine Blk.after ?_ b2) | (with_reducible refine RowIn.belowS ?_ b2) | (with_reducible refine Below.after ?_ b2 ?_) | (with_reducible refine Blk.drewN ?_ _) | (with_reducible refine RowIn.drewN ?_ _) | (with_reducible refine below_drewN ?_ _) | (with_reducible refine Blk.drew ?_) | (with_reducible refine RowIn.drew ?_) | (with_reducible refine Below.drew ?_) | (with_reducible refine Blk.new' ?_ ?_ <;> first | (with_reducible rfl) | (simp; done)) | (with_reducible refine Blk.alloc ?_ _) | (with_reducible refine RowIn.alloc ?_ _) | (with_reducible refine Below.alloc ?_ ?_ _) | (with_reducible refine Blk.set' ?_ ?_) | (with_reducible refine Blk.far' ?_ ?_ _) | (with_reducible refine RowIn.far' ?_ ?_ _) | (with_reducible refine Below.far' ?_ ?_ _) | rfl | omega | go_size)
  clear za_1 zb_1 zr_1 ra_1 rb_1 bb_1 ka_1 fa_1 la_1 kb_1 fb_1 lb_1 kr_1 fr_1 lr_1 b2
  have ka_2 := za_2.cell; have fa_2 := za_2.frozen; have la_2 := za_2.lt
  have kb_2 := zb_2.cell; have fb_2 := zb_2.frozen; have lb_2 := zb_2.lt
  have kr_2 := zr_2.cell; have fr_2 := zr_2.frozen; have lr_2 := zr_2.lt
  go_wp2_with fail
  refine (twin_any A m c _ (pack fs) _ ra_2.row (by omega)).mono ?_
  rintro e w3 ⟨A3, d3, rfl, own3, b3⟩
  have s3 := b3.size
  try simp only [World.size_alloc, World.size_setCell, World.size_drew, size_drewN] at s3
  obtain ⟨za_3, zb_3, zr_3, ra_3, rb_3, bb_3⟩ : Blk w3 (w.heap.size) 26 [.slice A m c, .int .i64 ((fs.length : Nat) : Int)] ∧ Blk w3 (w.heap.size + 1) 26 [.slice B n d, .int .i64 ((bs.length : Nat) : Int)] ∧ Blk w3 (w.heap.size + 1 + 1) 26 [.slice none 0 0, .int .i64 0] ∧ RowIn .u8 w3 (0) (w.heap.size) A m (pack fs) ∧ RowIn .u8 w3 (0) (w.heap.size) B n (pack bs) ∧ Below w.heap.size w w3 := by
    refine ⟨?_, ?_, ?_, ?_, ?_, ?_⟩
    all_goals repeat' (first | (with_reducible assumption) | (with_reducible exact Below.refl _ _) | (with_reducible refine Blk.after ?_ b3) | (with_reducible refine RowIn.belowS ?_ b3) | (with_reducible refine Below.after ?_ b3 ?_) | (with_reducible refine Blk.drewN ?_ _) | (with_reducible refine RowIn.drewN ?_ _) | (with_reducible refine below_drewN ?_ _) | (with_reducible refine Blk.drew ?_) | (with_reducible refine RowIn.drew ?_) | (with_reducible refine Below.drew ?_) | (with_reducible refine Blk.new' ?_ ?_ <;> first | (with_reducible rfl) | (simp; done)) | (with_reducible refine Blk.alloc ?_ _) | (with_reducible refine RowIn.alloc ?_ _) | (with_reducible refine Below.alloc ?_ ?_ _) | (with_reducible refine Blk.set' ?_ ?_) | (with_reducible refine Blk.far' ?_ ?_ _) | (with_reducible refine RowIn.far' ?_ ?_ _) | (with_reducible refine Below.far' ?_ ?_ _) | rfl | omega | go_size)
  have ka_3 := za_3.cell; have fa_3 := za_3.frozen; have la_3 := za_3.lt
  have kb_3 := zb_3.cell; have fb_3 := zb_3.frozen; have lb_3 := zb_3.lt
  have kr_3 := zr_3.cell; have fr_3 := zr_3.frozen; have lr_3 := zr_3.lt
  clear ka_2 fa_2 kb_2 fb_2 kr_2 fr_2
  go_wp2_with fail
  go_loopg [31] Q (fun k v wr => ∃ (r : Nat) (B' : Option Addr) (m' d' : Nat) (os : List Bool), r + k = Q ∧ v = .int .i64 (r : Nat) ∧ Hid (os = fs ++ bs.take (64 * r)) ∧ Blk wr w3.heap.size 26 [.slice B' m' d', .int .i64 (os.length : Nat)] ∧ Own wr w2.heap.size 5 .u8 B' m' d' (pack os) ∧ Below w2.heap.size w2 wr)
  case atStart =>
    refine ⟨0, A3, m, d3, fs, by omega, rfl, Lib.hid (by simp), ?_, own3.alloc _, ?_⟩
    all_goals repeat' (first | (with_reducible assumption) | (with_reducible exact Below.refl _ _) | (with_reducible refine Blk.drewN ?_ _) | (with_reducible refine RowIn.drewN ?_ _) | (with_reducible refine below_drewN ?_ _) | (with_reducible refine Blk.drew ?_) | (with_reducible refine RowIn.drew ?_) | (with_reducible refine Below.drew ?_) | (with_reducible refine Blk.new' ?_ ?_ <;> first | (with_reducible rfl) | (simp; done)) | (with_reducible refine Blk.alloc ?_ _) | (with_reducible refine RowIn.alloc ?_ _) | (with_reducible refine Below.alloc ?_ ?_ _) | (with_reducible refine Blk.set' ?_ ?_) | (with_reducible refine Blk.far' ?_ ?_ _) | (with_reducible refine RowIn.far' ?_ ?_ _) | (with_reducible refine Below.far' ?_ ?_ _) | rfl | omega | go_size)
  case round =>
    obtain ⟨r, B', m', d', os, hk, rfl, HO, zo, own, br⟩ := hrel
    have sr := br.size
    have hsz := zo.lt
    have hos : os.length ≤ fs.length + 64 * r := by rw [HO.out, List.length_append, List.length_take]; omega
    have zb : Blk wr (w.heap.size + 1) 26 [.slice B n d, .int .i64 ((bs.length : Nat) : Int)] := zb_2.after br
    have zr : Blk wr (w.heap.size + 1 + 1) 26 [.slice none 0 0, .int .i64 0] := zr_2.after br
    have rb : Row .u8 wr B n (pack bs) := (rb_2.belowS br).row
    have bb : Below w.heap.size w wr := Below.after bb_2 br bb_2.size
    have hrlt := zr.lt
    clear za_3 zb_3 zr_3 ra_3 rb_3 bb_3 ka_3 fa_3 kb_3 fb_3 kr_3 fr_3 own3 b3
    have kb := zb.cell; have fb := zb.frozen; have kr := zr.cell; have fr := zr.frozen; have ko := zo.cell
    by_cases hlt : r < Q
    · have p1 : (64 * (r : Int)).toNat = 64 * r := by omega
      have P1 := Lib.hid p1; clear p1
      go_wp2_with fail
      refine (join1_any w3.heap.size (w.heap.size + 1) w2.heap.size B' m' d' _ os B n d bs _ _ _ (by omega) (by omega) (by omega) hbl (by omega) (by omega) (by omega) rb zb rfl zo own).mono ?_
      rintro e w5 ⟨rfl, B5, m5, d5, os5, zo5, own5, HO5, fr5⟩
      have fin : Hid (os5 = fs ++ bs.take (64 * (r + 1))) := by
        rw [HO5.out, HO.out, P1.out, List.append_assoc, show 64 * (r + 1) = 64 * r + 64 by omega, List.take_add]; rfl
      have hown := own.block
      have br5 : Below w2.heap.size w2 w5 := br.trans (fr5.below (by omega) (fun k hk => by
        rintro (h | h)
        · omega
        · have := hown k h; omega))
      clear ko kb fb kr fr HO5 own zo
      go_wp2
      go_roundg (Q - (r + 1))
      case measure => omega
      case rel => exact ⟨r + 1, B5, m5, d5, os5, by omega, by go_num, fin, zo5, own5, br5⟩
    · obtain rfl : r = Q := by omega
      have p1 : ((r : Int) * 64).toNat = 64 * r := by omega
      have P1 := Lib.hid p1; clear p1
      go_wp2_with fail
      refine (join1_any w3.heap.size (w.heap.size + 1) w2.heap.size B' m' d' _ os B n d bs _ _ _ (by omega) (by omega) (by omega) hbl (by omega) (by omega) (by omega) rb zb rfl zo own).mono ?_
      rintro e w5 ⟨rfl, B5, m5, d5, os5, zo5, own5, HO5, fr5⟩
      have fin : Hid (os5 = fs ++ bs) := by
        rw [HO5.out, HO.out, P1.out, List.append_assoc, Int.toNat_natCast, ← List.take_add, List.take_of_length_le (by omega)]; rfl
      have hown := own.block
      have br5 : Below w2.heap.size w2 w5 := br.trans (fr5.below (by omega) (fun k hk => by
        rintro (h | h)
        · omega
        · have := hown k h; omega))
      have zr5 : Blk w5 (w.heap.size + 1 + 1) 26 [.slice none 0 0, .int .i64 0] := zr_2.after br5
      have bb5 : Below w.heap.size w w5 := Below.after bb_2 br5 bb_2.size
      have s5 := br5.size
      have ko5 := zo5.cell; have kr5 := zr5.cell; have fr5' := zr5.frozen
      have rw5 := own5.rowIn
      clear ko kb fb kr fr HO5 own zo fr5
      go_wp2
      refine bodyPost_ret (v := .tuple #[.agg #[.slice B5 m5 d5, .int .i64 ((os5.length : Nat) : Int)], .int .i64 0]) (by simp [results, Tryd.results48, go_sem, kr5]) rfl ?_
      rw [HR.out]
      refine RetB.of (x := .agg #[.slice B5 m5 d5, .int .i64 ((os5.length : Nat) : Int)]) rfl ⟨B5, m5, d5, by rw [fin.out], own5.rowC.2, ?_⟩ ?_
      · rw [← fin.out]
        refine RowIn.mono (lo := w2.heap.size) (hi := w5.heap.size) ?_ (by omega) (by go_size)
        repeat' (first | (with_reducible assumption) | (with_reducible exact Below.refl _ _) | (with_reducible refine Blk.drewN ?_ _) | (with_reducible refine RowIn.drewN ?_ _) | (with_reducible refine below_drewN ?_ _) | (with_reducible refine Blk.drew ?_) | (with_reducible refine RowIn.drew ?_) | (with_reducible refine Below.drew ?_) | (with_reducible refine Blk.new' ?_ ?_ <;> first | (with_reducible rfl) | (simp; done)) | (with_reducible refine Blk.alloc ?_ _) | (with_reducible refine RowIn.alloc ?_ _) | (with_reducible refine Below.alloc ?_ ?_ _) | (with_reducible refine Blk.set' ?_ ?_) | (with_reducible refine Blk.far' ?_ ?_ _) | (with_reducible refine RowIn.far' ?_ ?_ _) | (with_reducible refine Below.far' ?_ ?_ _) | rfl | omega | go_size)
      · repeat' (first | (with_reducible assumption) | (with_reducible exact Below.refl _ _) | (with_reducible refine Blk.drewN ?_ _) | (with_reducible refine RowIn.drewN ?_ _) | (with_reducible refine below_drewN ?_ _) | (with_reducible refine Blk.drew ?_) | (with_reducible refine RowIn.drew ?_) | (with_reducible refine Below.drew ?_) | (with_reducible refine Blk.new' ?_ ?_ <;> first | (with_reducible rfl) | (simp; done)) | (with_reducible refine Blk.alloc ?_ _) | (with_reducible refine RowIn.alloc ?_ _) | (with_reducible refine Below.alloc ?_ ?_ _) | (with_reducible refine Blk.set' ?_ ?_) | (with_reducible refine Blk.far' ?_ ?_ _) | (with_reducible refine RowIn.far' ?_ ?_ _) | (with_reducible refine Below.far' ?_ ?_ _) | rfl | omega | go_size)


set_option maxHeartbeats 400000 in
theorem bcut_bad (A : Option Addr) (m c : Nat) (N : Int) (bytes : List Int) (p q : Int) (w : World) (ha : Row .u8 w A m bytes) (hb : Within 0 255 bytes) (hc : m ≤ c ∧ c ≤ 9223372036854775807) (hv : ¬ Valid bytes N) :
    Calls Tryd.prog 60 #[.agg #[.slice A m c, .int .i64 N], .int .i64 p, .int .i64 q] w (RetB w [] 8) := by
  go_enter Tryd.func60, Tryd.ntmps60
  go_wp2_with fail
  refine (bcheck_bad A m c N bytes _ (by exact ((ha.alloc _).alloc _)) hb (by omega) hv).mono ?_
  rintro e w1 ⟨rfl, b1⟩
  have s1 := b1.size
  try simp only [World.size_alloc, World.size_setCell, World.size_drew, size_drewN] at s1
  obtain ⟨zb_1, zr_1, bb_1⟩ : Blk w1 (w.heap.size) 26 [.slice A m c, .int .i64 N] ∧ Blk w1 (w.heap.size + 1) 26 [.slice none 0 0, .int .i64 0] ∧ Below w.heap.size w w1 := by
    refine ⟨?_, ?_, ?_⟩
    all_goals repeat' (first | (with_reducible assumption) | (with_reducible exact Below.refl _ _) | (with_reducible refine Blk.after ?_ b1) | (with_reducible refine RowIn.belowS ?_ b1) | (with_reducible refine Below.after ?_ b1 ?_) | (with_reducible refine Blk.drewN ?_ _) | (with_reducible refine RowIn.drewN ?_ _) | (with_reducible refine below_drewN ?_ _) | (with_reducible refine Blk.drew ?_) | (with_reducible refine RowIn.drew ?_) | (with_reducible refine Below.drew ?_) | (with_reducible refine Blk.new' ?_ ?_ <;> first | (with_reducible rfl) | (simp; done)) | (with_reducible refine Blk.alloc ?_ _) | (with_reducible refine RowIn.alloc ?_ _) | (with_reducible refine Below.alloc ?_ ?_ _) | (with_reducible refine Blk.set' ?_ ?_) | (with_reducible refine Blk.far' ?_ ?_ _) | (with_reducible refine RowIn.far' ?_ ?_ _) | (with_reducible refine Below.far' ?_ ?_ _) | rfl | omega | go_size)
  clear b1
  have kb_1 := zb_1.cell; have fb_1 := zb_1.frozen; have lb_1 := zb_1.lt
  have kr_1 := zr_1.cell; have fr_1 := zr_1.frozen; have lr_1 := zr_1.lt
  go_wp2
  refine bodyPost_ret (v := .tuple #[.agg #[.slice none 0 0, .int .i64 0], .int .i64 8]) (by simp [results, Tryd.results60, go_sem, kr_1]) rfl ?_
  refine RetB.of rfl (BitsIn.zero _ _ _) ?_
  repeat' (first | (with_reducible assumption) | (with_reducible exact Below.refl _ _) | (with_reducible refine Blk.drewN ?_ _) | (with_reducible refine RowIn.drewN ?_ _) | (with_reducible refine below_drewN ?_ _) | (with_reducible refine Blk.drew ?_) | (with_reducible refine RowIn.drew ?_) | (with_reducible refine Below.drew ?_) | (with_reducible refine Blk.new' ?_ ?_ <;> first | (with_reducible rfl) | (simp; done)) | (with_reducible refine Blk.alloc ?_ _) | (with_reducible refine RowIn.alloc ?_ _) | (with_reducible refine Below.alloc ?_ ?_ _) | (with_reducible refine Blk.set' ?_ ?_) | (with_reducible refine Blk.far' ?_ ?_ _) | (with_reducible refine RowIn.far' ?_ ?_ _) | (with_reducible refine Below.far' ?_ ?_ _) | rfl | omega | go_size)


set_option maxHeartbeats 400000 in
theorem bput_bad (A : Option Addr) (m c : Nat) (N : Int) (bytes : List Int) (v n : Int) (w : World) (ha : Row .u8 w A m bytes) (hb : Within 0 255 bytes) (hc : m ≤ c ∧ c ≤ 9223372036854775807) (hv : ¬ Valid bytes N) :
    Calls Tryd.prog 7 #[.agg #[.slice A m c, .int .i64 N], .int .u64 v, .int .i64 n] w (RetB w [] 8) := by
  go_enter Tryd.func7, Tryd.ntmps7
  go_wp2_with fail
  refine (bcheck_bad A m c N bytes _ (by exact ((ha.alloc _).alloc _)) hb (by omega) hv).mono ?_
  rintro e w1 ⟨rfl, b1⟩
  have s1 := b1.size
  try simp only [World.size_alloc, World.size_setCell, World.size_drew, size_drewN] at s1
  obtain ⟨zb_1, zr_1, bb_1⟩ : Blk w1 (w.heap.size) 26 [.slice A m c, .int .i64 N] ∧ Blk w1 (w.heap.size + 1) 26 [.slice none 0 0, .int .i64 0] ∧ Below w.heap.size w w1 := by
    refine ⟨?_, ?_, ?_⟩
    all_goals repeat' (first | (with_reducible assumption) | (with_reducible exact Below.refl _ _) | (with_reducible refine Blk.after ?_ b1) | (with_reducible refine RowIn.belowS ?_ b1) | (with_reducible refine Below.after ?_ b1 ?_) | (with_reducible refine Blk.drewN ?_ _) | (with_reducible refine RowIn.drewN ?_ _) | (with_reducible refine below_drewN ?_ _) | (with_reducible refine Blk.drew ?_) | (with_reducible refine RowIn.drew ?_) | (with_reducible refine Below.drew ?_) | (with_reducible refine Blk.new' ?_ ?_ <;> first | (with_reducible rfl) | (simp; done)) | (with_reducible refine Blk.alloc ?_ _) | (with_reducible refine RowIn.alloc ?_ _) | (with_reducible refine Below.alloc ?_ ?_ _) | (with_reducible refine Blk.set' ?_ ?_) | (with_reducible refine Blk.far' ?_ ?_ _) | (with_reducible refine RowIn.far' ?_ ?_ _) | (with_reducible refine Below.far' ?_ ?_ _) | rfl | omega | go_size)
  clear b1
  have kb_1 := zb_1.cell; have fb_1 := zb_1.frozen; have lb_1 := zb_1.lt
  have kr_1 := zr_1.cell; have fr_1 := zr_1.frozen; have lr_1 := zr_1.lt
  go_wp2
  refine bodyPost_ret (v := .tuple #[.agg #[.slice none 0 0, .int .i64 0], .int .i64 8]) (by simp [results, Tryd.results7, go_sem, kr_1]) rfl ?_
  refine RetB.of rfl (BitsIn.zero _ _ _) ?_
  repeat' (first | (with_reducible assumption) | (with_reducible exact Below.refl _ _) | (with_reducible refine Blk.drewN ?_ _) | (with_reducible refine RowIn.drewN ?_ _) | (with_reducible refine below_drewN ?_ _) | (with_reducible refine Blk.drew ?_) | (with_reducible refine RowIn.drew ?_) | (with_reducible refine Below.drew ?_) | (with_reducible refine Blk.new' ?_ ?_ <;> first | (with_reducible rfl) | (simp; done)) | (with_reducible refine Blk.alloc ?_ _) | (with_reducible refine RowIn.alloc ?_ _) | (with_reducible refine Below.alloc ?_ ?_ _) | (with_reducible refine Blk.set' ?_ ?_) | (with_reducible refine Blk.far' ?_ ?_ _) | (with_reducible refine RowIn.far' ?_ ?_ _) | (with_reducible refine Below.far' ?_ ?_ _) | rfl | omega | go_size)

set_option maxHeartbeats 400000 in
theorem bget_bad (A : Option Addr) (m c : Nat) (N : Int) (bytes : List Int) (p n : Int) (w : World) (ha : Row .u8 w A m bytes) (hb : Within 0 255 bytes) (hc : m ≤ c ∧ c ≤ 9223372036854775807) (hv : ¬ Valid bytes N) :
    Calls Tryd.prog 15 #[.agg #[.slice A m c, .int .i64 N], .int .i64 p, .int .i64 n] w fun e w' => e = .returned (.tuple #[.int .u64 0, .int .i64 8]) ∧ Below w.heap.size w w' := by
  go_enter Tryd.func15, Tryd.ntmps15
  go_wp2_with fail
  refine (bcheck_bad A m c N bytes _ (by exact (ha.alloc _)) hb (by omega) hv).mono ?_
  rintro e w1 ⟨rfl, b1⟩
  have s1 := b1.size
  try simp only [World.size_alloc, World.size_setCell, World.size_drew, size_drewN] at s1
  obtain ⟨zb_1, bb_1⟩ : Blk w1 (w.heap.size) 26 [.slice A m c, .int .i64 N] ∧ Below w.heap.size w w1 := by
    refine ⟨?_, ?_⟩
    all_goals repeat' (first | (with_reducible assumption) | (with_reducible exact Below.refl _ _) | (with_reducible refine Blk.after ?_ b1) | (with_reducible refine RowIn.belowS ?_ b1) | (with_reducible refine Below.after ?_ b1 ?_) | (with_reducible refine Blk.drewN ?_ _) | (with_reducible refine RowIn.drewN ?_ _) | (with_reducible refine below_drewN ?_ _) | (with_reducible refine Blk.drew ?_) | (with_reducible refine RowIn.drew ?_) | (with_reducible refine Below.drew ?_) | (with_reducible refine Blk.new' ?_ ?_ <;> first | (with_reducible rfl) | (simp; done)) | (with_reducible refine Blk.alloc ?_ _) | (with_reducible refine RowIn.alloc ?_ _) | (with_reducible refine Below.alloc ?_ ?_ _) | (with_reducible refine Blk.set' ?_ ?_) | (with_reducible refine Blk.far' ?_ ?_ _) | (with_reducible refine RowIn.far' ?_ ?_ _) | (with_reducible refine Below.far' ?_ ?_ _) | rfl | omega | go_size)
  clear b1
  have kb_1 := zb_1.cell; have fb_1 := zb_1.frozen; have lb_1 := zb_1.lt
  go_wp2
  go_ret2
  refine ⟨rfl, ?_⟩
  repeat' (first | (with_reducible assumption) | (with_reducible exact Below.refl _ _) | (with_reducible refine Blk.drewN ?_ _) | (with_reducible refine RowIn.drewN ?_ _) | (with_reducible refine below_drewN ?_ _) | (with_reducible refine Blk.drew ?_) | (with_reducible refine RowIn.drew ?_) | (with_reducible refine Below.drew ?_) | (with_reducible refine Blk.new' ?_ ?_ <;> first | (with_reducible rfl) | (simp; done)) | (with_reducible refine Blk.alloc ?_ _) | (with_reducible refine RowIn.alloc ?_ _) | (with_reducible refine Below.alloc ?_ ?_ _) | (with_reducible refine Blk.set' ?_ ?_) | (with_reducible refine Blk.far' ?_ ?_ _) | (with_reducible refine RowIn.far' ?_ ?_ _) | (with_reducible refine Below.far' ?_ ?_ _) | rfl | omega | go_size)


set_option maxHeartbeats 400000 in
theorem bjoin_bad (A B : Option Addr) (m c n d : Nat) (N M : Int) (xs ys : List Int) (w : World) (ha : Row .u8 w A m xs) (hb : Row .u8 w B n ys) (hx : Within 0 255 xs) (hy : Within 0 255 ys) (hc : m ≤ c ∧ c ≤ 9223372036854775807) (hd : n ≤ d ∧ d ≤ 9223372036854775807) (hv : ¬ (Valid xs N ∧ Valid ys M)) :
    Calls Tryd.prog 48 #[.agg #[.slice A m c, .int .i64 N], .agg #[.slice B n d, .int .i64 M]] w (RetB w [] 8) := by
  have hrai := ha.rowIn
  have hrbi := hb.rowIn
  by_cases h1 : Valid xs N
  · have h2 : ¬ Valid ys M := fun h => hv ⟨h1, h⟩
    have chk := fun W hW => (bcheck_any A m c N xs W hW hx (by omega)).mono (R' := fun e w' => e = .returned (.int .i64 0) ∧ Below W.heap.size W w') fun e w' h => ⟨by rw [h.1]; unfold chkB; rw [if_pos h1], h.2⟩
    have CHK := Lib.hid chk; clear chk h1 hv
    go_enter Tryd.func48, Tryd.ntmps48
    go_wp2_with fail
    refine (CHK.out _ (by exact (((ha.alloc _).alloc _).alloc _))).mono ?_
    rintro e w1 ⟨rfl, b1⟩
    have s1 := b1.size
    try simp only [World.size_alloc, World.size_setCell, World.size_drew, size_drewN] at s1
    obtain ⟨za_1, zb_1, zr_1, rb_1, bb_1⟩ : Blk w1 (w.heap.size) 26 [.slice A m c, .int .i64 N] ∧ Blk w1 (w.heap.size + 1) 26 [.slice B n d, .int .i64 M] ∧ Blk w1 (w.heap.size + 1 + 1) 26 [.slice none 0 0, .int .i64 0] ∧ RowIn .u8 w1 (0) (w.heap.size) B n ys ∧ Below w.heap.size w w1 := by
      refine ⟨?_, ?_, ?_, ?_, ?_⟩
      all_goals repeat' (first | (with_reducible assumption) | (with_reducible exact Below.refl _ _) | (with_reducible refine Blk.after ?_ b1) | (with_reducible refine RowIn.belowS ?_ b1) | (with_reducible refine Below.after ?_ b1 ?_) | (with_reducible refine Blk.drewN ?_ _) | (with_reducible refine RowIn.drewN ?_ _) | (with_reducible refine below_drewN ?_ _) | (with_reducible refine Blk.drew ?_) | (with_reducible refine RowIn.drew ?_) | (with_reducible refine Below.drew ?_) | (with_reducible refine Blk.new' ?_ ?_ <;> first | (with_reducible rfl) | (simp; done)) | (with_reducible refine Blk.alloc ?_ _) | (with_reducible refine RowIn.alloc ?_ _) | (with_reducible refine Below.alloc ?_ ?_ _) | (with_reducible refine Blk.set' ?_ ?_) | (with_reducible refine Blk.far' ?_ ?_ _) | (with_reducible refine RowIn.far' ?_ ?_ _) | (with_reducible refine Below.far' ?_ ?_ _) | rfl | omega | go_size)
    clear b1
    have ka_1 := za_1.cell; have fa_1 := za_1.frozen; have la_1 := za_1.lt
    have kb_1 := zb_1.cell; have fb_1 := zb_1.frozen; have lb_1 := zb_1.lt
    have kr_1 := zr_1.cell; have fr_1 := zr_1.frozen; have lr_1 := zr_1.lt
    go_wp2_with fail
    refine (bcheck_bad B n d M ys _ rb_1.row hy (by omega) h2).mono ?_
    rintro e w2 ⟨rfl, b2⟩
    have s2 := b2.size
    try simp only [World.size_alloc, World.size_setCell, World.size_drew, size_drewN] at s2
    obtain ⟨za_2, zb_2, zr_2, rb_2, bb_2⟩ : Blk w2 (w.heap.size) 26 [.slice A m c, .int .i64 N] ∧ Blk w2 (w.heap.size + 1) 26 [.slice B n d, .int .i64 M] ∧ Blk w2 (w.heap.size + 1 + 1) 26 [.slice none 0 0, .int .i64 0] ∧ RowIn .u8 w2 (0) (w.heap.size) B n ys ∧ Below w.heap.size w w2 := by
      refine ⟨?_, ?_, ?_, ?_, ?_⟩
      all_goals repeat' (first | (with_reducible assumption) | (with_reducible exact Below.refl _ _) | (with_reducible refine Blk.after ?_ b2) | (with_reducible refine RowIn.belowS ?_ b2) | (with_reducible refine Below.after ?_ b2 ?_) | (with_reducible refine Blk.drewN ?_ _) | (with_reducible refine RowIn.drewN ?_ _) | (with_reducible refine below_drewN ?_ _) | (with_reducible refine Blk.drew ?_) | (with_reducible refine RowIn.drew ?_) | (with_reducible refine Below.drew ?_) | (with_reducible refine Blk.new' ?_ ?_ <;> first | (with_reducible rfl) | (simp; done)) | (with_reducible refine Blk.alloc ?_ _) | (with_reducible refine RowIn.alloc ?_ _) | (with_reducible refine Below.alloc ?_ ?_ _) | (with_reducible refine Blk.set' ?_ ?_) | (with_reducible refine Blk.far' ?_ ?_ _) | (with_reducible refine RowIn.far' ?_ ?_ _) | (with_reducible refine Below.far' ?_ ?_ _) | rfl | omega | go_size)
    clear za_1 zb_1 zr_1 rb_1 bb_1 ka_1 fa_1 la_1 kb_1 fb_1 lb_1 kr_1 fr_1 lr_1 b2
    have ka_2 := za_2.cell; have fa_2 := za_2.frozen; have la_2 := za_2.lt
    have kb_2 := zb_2.cell; have fb_2 := zb_2.frozen; have lb_2 := zb_2.lt
    have kr_2 := zr_2.cell; have fr_2 := zr_2.frozen; have lr_2 := zr_2.lt
    go_wp2
    refine bodyPost_ret (v := .tuple #[.agg #[.slice none 0 0, .int .i64 0], .int .i64 8]) (by simp [results, Tryd.results48, go_sem, kr_2]) rfl ?_
    refine RetB.of rfl (BitsIn.zero _ _ _) ?_
    repeat' (first | (with_reducible assumption) | (with_reducible exact Below.refl _ _) | (with_reducible refine Blk.drewN ?_ _) | (with_reducible refine RowIn.drewN ?_ _) | (with_reducible refine below_drewN ?_ _) | (with_reducible refine Blk.drew ?_) | (with_reducible refine RowIn.drew ?_) | (with_reducible refine Below.drew ?_) | (with_reducible refine Blk.new' ?_ ?_ <;> first | (with_reducible rfl) | (simp; done)) | (with_reducible refine Blk.alloc ?_ _) | (with_reducible refine RowIn.alloc ?_ _) | (with_reducible refine Below.alloc ?_ ?_ _) | (with_reducible refine Blk.set' ?_ ?_) | (with_reducible refine Blk.far' ?_ ?_ _) | (with_reducible refine RowIn.far' ?_ ?_ _) | (with_reducible refine Below.far' ?_ ?_ _) | rfl | omega | go_size)
  · go_enter Tryd.func48, Tryd.ntmps48
    go_wp2_with fail
    refine (bcheck_bad A m c N xs _ (by exact (((ha.alloc _).alloc _).alloc _)) hx (by omega) h1).mono ?_
    rintro e w1 ⟨rfl, b1⟩
    have s1 := b1.size
    try simp only [World.size_alloc, World.size_setCell, World.size_drew, size_drewN] at s1
    obtain ⟨za_1, zb_1, zr_1, rb_1, bb_1⟩ : Blk w1 (w.heap.size) 26 [.slice A m c, .int .i64 N] ∧ Blk w1 (w.heap.size + 1) 26 [.slice B n d, .int .i64 M] ∧ Blk w1 (w.heap.size + 1 + 1) 26 [.slice none 0 0, .int .i64 0] ∧ RowIn .u8 w1 (0) (w.heap.size) B n ys ∧ Below w.heap.size w w1 := by
      refine ⟨?_, ?_, ?_, ?_, ?_⟩
      all_goals repeat' (first | (with_reducible assumption) | (with_reducible exact Below.refl _ _) | (with_reducible refine Blk.after ?_ b1) | (with_reducible refine RowIn.belowS ?_ b1) | (with_reducible refine Below.after ?_ b1 ?_) | (with_reducible refine Blk.drewN ?_ _) | (with_reducible refine RowIn.drewN ?_ _) | (with_reducible refine below_drewN ?_ _) | (with_reducible refine Blk.drew ?_) | (with_reducible refine RowIn.drew ?_) | (with_reducible refine Below.drew ?_) | (with_reducible refine Blk.new' ?_ ?_ <;> first | (with_reducible rfl) | (simp; done)) | (with_reducible refine Blk.alloc ?_ _) | (with_reducible refine RowIn.alloc ?_ _) | (with_reducible refine Below.alloc ?_ ?_ _) | (with_reducible refine Blk.set' ?_ ?_) | (with_reducible refine Blk.far' ?_ ?_ _) | (with_reducible refine RowIn.far' ?_ ?_ _) | (with_reducible refine Below.far' ?_ ?_ _) | rfl | omega | go_size)
    clear b1
    have ka_1 := za_1.cell; have fa_1 := za_1.frozen; have la_1 := za_1.lt
    have kb_1 := zb_1.cell; have fb_1 := zb_1.frozen; have lb_1 := zb_1.lt
    have kr_1 := zr_1.cell; have fr_1 := zr_1.frozen; have lr_1 := zr_1.lt
    go_wp2
    refine bodyPost_ret (v := .tuple #[.agg #[.slice none 0 0, .int .i64 0], .int .i64 8]) (by simp [results, Tryd.results48, go_sem, kr_1]) rfl ?_
    refine RetB.of rfl (BitsIn.zero _ _ _) ?_
    repeat' (first | (with_reducible assumption) | (with_reducible exact Below.refl _ _) | (with_reducible refine Blk.drewN ?_ _) | (with_reducible refine RowIn.drewN ?_ _) | (with_reducible refine below_drewN ?_ _) | (with_reducible refine Blk.drew ?_) | (with_reducible refine RowIn.drew ?_) | (with_reducible refine Below.drew ?_) | (with_reducible refine Blk.new' ?_ ?_ <;> first | (with_reducible rfl) | (simp; done)) | (with_reducible refine Blk.alloc ?_ _) | (with_reducible refine RowIn.alloc ?_ _) | (with_reducible refine Below.alloc ?_ ?_ _) | (with_reducible refine Blk.set' ?_ ?_) | (with_reducible refine Blk.far' ?_ ?_ _) | (with_reducible refine RowIn.far' ?_ ?_ _) | (with_reducible refine Below.far' ?_ ?_ _) | rfl | omega | go_size)


/-- What Of returns. -/
def ofR (bytes : List Int) : List Bool × Int := if 41250 < bytes.length then ([], 4) else (unpack bytes, 0)

set_option maxHeartbeats 400000 in
theorem bof_ret (A : Option Addr) (n c : Nat) (bytes : List Int) (w : World) (ha : Row .u8 w A n bytes) (hb : Within 0 255 bytes) (hc : n ≤ c ∧ c ≤ 9223372036854775807) :
    Calls Tryd.prog 56 #[.slice A n c] w (RetB w (ofR bytes).1 (ofR bytes).2) := by
  have hx := ha.len
  by_cases h1 : 41250 < n
  · have HR : Hid (ofR bytes = ([], 4)) := by unfold ofR; rw [if_pos (by omega)]; rfl
    clear hx
    go_enter Tryd.func56, Tryd.ntmps56
    go_wp2
    refine bodyPost_ret (v := .tuple #[.agg #[.slice none 0 0, .int .i64 0], .int .i64 4]) (by simp [results, Tryd.results56, go_sem]) rfl ?_
    rw [HR.out]
    refine RetB.of rfl (BitsIn.zero _ _ _) ?_
    repeat' (first | (with_reducible assumption) | (with_reducible exact Below.refl _ _) | (with_reducible refine Blk.drewN ?_ _) | (with_reducible refine RowIn.drewN ?_ _) | (with_reducible refine below_drewN ?_ _) | (with_reducible refine Blk.drew ?_) | (with_reducible refine RowIn.drew ?_) | (with_reducible refine Below.drew ?_) | (with_reducible refine Blk.new' ?_ ?_ <;> first | (with_reducible rfl) | (simp; done)) | (with_reducible refine Blk.alloc ?_ _) | (with_reducible refine RowIn.alloc ?_ _) | (with_reducible refine Below.alloc ?_ ?_ _) | (with_reducible refine Blk.set' ?_ ?_) | (with_reducible refine Blk.far' ?_ ?_ _) | (with_reducible refine RowIn.far' ?_ ?_ _) | (with_reducible refine Below.far' ?_ ?_ _) | rfl | omega | go_size)
  · have HR : Hid (ofR bytes = (unpack bytes, 0)) := by unfold ofR; rw [if_neg (by omega)]; rfl
    have HX := Lib.hid hx
    clear hx
    go_enter Tryd.func56, Tryd.ntmps56
    go_wp2_with fail
    refine (clone8_any A n c bytes _ (by exact ha.alloc _) (by omega)).mono ?_
    rintro e w1 ⟨B1, d1, rfl, own1, b1⟩
    have s1 := b1.size
    try simp only [World.size_alloc, World.size_setCell, World.size_drew, size_drewN] at s1
    obtain ⟨zr_1, bb_1⟩ : Blk w1 (w.heap.size) 26 [.slice none 0 0, .int .i64 0] ∧ Below w.heap.size w w1 := by
      refine ⟨?_, ?_⟩
      all_goals repeat' (first | (with_reducible assumption) | (with_reducible exact Below.refl _ _) | (with_reducible refine Blk.after ?_ b1) | (with_reducible refine RowIn.belowS ?_ b1) | (with_reducible refine Below.after ?_ b1 ?_) | (with_reducible refine Blk.drewN ?_ _) | (with_reducible refine RowIn.drewN ?_ _) | (with_reducible refine below_drewN ?_ _) | (with_reducible refine Blk.drew ?_) | (with_reducible refine RowIn.drew ?_) | (with_reducible refine Below.drew ?_) | (with_reducible refine Blk.new' ?_ ?_ <;> first | (with_reducible rfl) | (simp; done)) | (with_reducible refine Blk.alloc ?_ _) | (with_reducible refine RowIn.alloc ?_ _) | (with_reducible refine Below.alloc ?_ ?_ _) | (with_reducible refine Blk.set' ?_ ?_) | (with_reducible refine Blk.far' ?_ ?_ _) | (with_reducible refine RowIn.far' ?_ ?_ _) | (with_reducible refine Below.far' ?_ ?_ _) | rfl | omega | go_size)
    have kr_1 := zr_1.cell; have fr_1 := zr_1.frozen; have lr_1 := zr_1.lt
    have rw1 := own1.rowIn
    go_wp2
    refine bodyPost_ret (v := .tuple #[.agg #[.slice B1 n d1, .int .i64 (8 * (n : Int))], .int .i64 0]) (by simp [results, Tryd.results56, go_sem, kr_1]) rfl ?_
    rw [HR.out]
    refine RetB.of (x := .agg #[.slice B1 n d1, .int .i64 (8 * (n : Int))]) rfl ⟨B1, n, d1, by rw [unpack_len, HX.out]; rfl, own1.rowC.2, ?_⟩ ?_
    · rw [pack_unpack hb]
      refine RowIn.mono (lo := (w.alloc (.cells #[.slice none 0 0, .int .i64 0] 26)).heap.size) (hi := w1.heap.size) ?_ (by go_size) (by go_size)
      repeat' (first | (with_reducible assumption) | (with_reducible exact Below.refl _ _) | (with_reducible refine Blk.drewN ?_ _) | (with_reducible refine RowIn.drewN ?_ _) | (with_reducible refine below_drewN ?_ _) | (with_reducible refine Blk.drew ?_) | (with_reducible refine RowIn.drew ?_) | (with_reducible refine Below.drew ?_) | (with_reducible refine Blk.new' ?_ ?_ <;> first | (with_reducible rfl) | (simp; done)) | (with_reducible refine Blk.alloc ?_ _) | (with_reducible refine RowIn.alloc ?_ _) | (with_reducible refine Below.alloc ?_ ?_ _) | (with_reducible refine Blk.set' ?_ ?_) | (with_reducible refine Blk.far' ?_ ?_ _) | (with_reducible refine RowIn.far' ?_ ?_ _) | (with_reducible refine Below.far' ?_ ?_ _) | rfl | omega | go_size)
    · repeat' (first | (with_reducible assumption) | (with_reducible exact Below.refl _ _) | (with_reducible refine Blk.drewN ?_ _) | (with_reducible refine RowIn.drewN ?_ _) | (with_reducible refine below_drewN ?_ _) | (with_reducible refine Blk.drew ?_) | (with_reducible refine RowIn.drew ?_) | (with_reducible refine Below.drew ?_) | (with_reducible refine Blk.new' ?_ ?_ <;> first | (with_reducible rfl) | (simp; done)) | (with_reducible refine Blk.alloc ?_ _) | (with_reducible refine RowIn.alloc ?_ _) | (with_reducible refine Below.alloc ?_ ?_ _) | (with_reducible refine Blk.set' ?_ ?_) | (with_reducible refine Blk.far' ?_ ?_ _) | (with_reducible refine RowIn.far' ?_ ?_ _) | (with_reducible refine Below.far' ?_ ?_ _) | rfl | omega | go_size)


end Go.Proofs.YtpohaikbbfochaaDoor


/-
  Contracts of Join, Cut and Of on the way on which they succeed.
-/
namespace Go.Proofs.YtpohaikbbfochaaDoor
open Go.RowKit Cad Cad.Bit
set_option linter.unusedVariables false
set_option linter.unusedSimpArgs false

theorem bjoin_ok (A B : Option Addr) (m c n d : Nat) (fs bs : List Bool) (w : World) (ha : Row .u8 w A m (pack fs)) (hb : Row .u8 w B n (pack bs)) (hc : m ≤ c ∧ c ≤ 9223372036854775807) (hd : n ≤ d ∧ d ≤ 9223372036854775807) (h : fs.length + bs.length ≤ 330000) :
    Calls Tryd.prog 48 #[.agg #[.slice A m c, .int .i64 (fs.length : Nat)], .agg #[.slice B n d, .int .i64 (bs.length : Nat)]] w (RetB w (fs ++ bs) 0) := by
  have h1 := bjoin_ret A B m c n d fs bs w ha hb hc hd (by omega) (by omega)
  have h2 : joinR fs bs = (fs ++ bs, 0) := by unfold joinR; rw [if_neg (by omega)]
  rw [h2] at h1; exact h1
theorem bcut_ok (A : Option Addr) (m c : Nat) (bs : List Bool) (p q : Int) (w : World) (ha : Row .u8 w A m (pack bs)) (hc : m ≤ c ∧ c ≤ 9223372036854775807) (hl : bs.length ≤ 330000) (h0 : 0 ≤ p) (h1 : p ≤ q) (h2 : q ≤ (bs.length : Int)) :
    Calls Tryd.prog 60 #[.agg #[.slice A m c, .int .i64 (bs.length : Nat)], .int .i64 p, .int .i64 q] w (RetB w ((bs.drop p.toNat).take (q.toNat - p.toNat)) 0) := by
  have h := bcut_ret A m c bs p q w ha hc hl
  have e : cutR bs p q = ((bs.drop p.toNat).take (q.toNat - p.toNat), 0) := by unfold cutR; rw [if_neg (by omega)]
  rw [e] at h; exact h
theorem bof_ok (A : Option Addr) (n c : Nat) (bytes : List Int) (w : World) (ha : Row .u8 w A n bytes) (hb : Within 0 255 bytes) (hc : n ≤ c ∧ c ≤ 9223372036854775807) (h : bytes.length ≤ 41250) :
    Calls Tryd.prog 56 #[.slice A n c] w (RetB w (unpack bytes) 0) := by
  have h1 := bof_ret A n c bytes w ha hb hc
  have e : ofR bytes = (unpack bytes, 0) := by unfold ofR; rw [if_neg (by omega)]
  rw [e] at h1; exact h1

end Go.Proofs.YtpohaikbbfochaaDoor

/-
  Contracts of Length and Write of runs.
-/
namespace Go.Proofs.YtpohaikbbfochaaDoor
open Go.RowKit Cad Cad.Bit Cad.Code
set_option linter.unusedVariables false
set_option linter.unusedSimpArgs false

/-- What Length returns. -/
def ulenR (n : Int) : Int × Int := if n < 0 ∨ 48 < n then (0, 2) else ((runLen n.toNat : Nat), 0)
theorem ulen_bad (n : Int) (w : World) (h : n < 0 ∨ 48 < n) :
    Calls Tryd.prog 41 #[.int .i64 n] w fun e w' => e = .returned (.tuple #[.int .i64 0, .int .i64 2]) ∧ w = w' := by
  rcases h with h | h
  all_goals
    go_enter Tryd.func41, Tryd.ntmps41
    go_wp2
    go_ret2
    exact ⟨rfl, rfl⟩
theorem ulen_ok (n : Int) (w : World) (h0 : 0 ≤ n) (h1 : n ≤ 48) :
    Calls Tryd.prog 41 #[.int .i64 n] w fun e w' => ∃ y : Nat, e = .returned (.tuple #[.int .i64 (y : Int), .int .i64 0]) ∧ Hid (y = runLen n.toNat) ∧ w = w' := by
  obtain ⟨k, rfl⟩ := Int.eq_ofNat_of_zero_le h0
  by_cases h : k < 48
  · have h' : (k : Int) + 1 ≤ 48 := by omega
    go_enter Tryd.func41, Tryd.ntmps41
    go_wp2
    go_ret2
    refine ⟨k + 1, by rfl, Lib.hid ?_, rfl⟩
    rw [Int.toNat_natCast]; unfold runLen; omega
  · obtain rfl : k = 48 := by omega
    go_enter Tryd.func41, Tryd.ntmps41
    go_wp2
    go_ret2
    exact ⟨48, rfl, Lib.hid rfl, rfl⟩

/-- What Write returns. -/
def uwR (bs : List Bool) (n : Int) : List Bool × Int := if n < 0 ∨ 48 < n then ([], 2) else if 330000 < bs.length + runLen n.toNat then ([], 18) else (bs ++ run n.toNat, 0)
theorem ones_word {k : Nat} (h : k ≤ 48) : IntKind.u64.wrap (IntKind.u64.wrap ((2 : Int) ^ k) - 1) = ((2 ^ k - 1 : Nat) : Int) := by
  have hp := Nat.two_pow_pos k
  have hlt : 2 ^ k < 18446744073709551616 := Nat.lt_of_le_of_lt (Nat.pow_le_pow_right (by omega) h) (by decide)
  rw [pow_cast, u64_nat hlt, IntWalk.u64_in _ (by omega)]; omega
theorem run_fits {k : Nat} (h : k ≤ 48) : 2 ^ k - 1 < 2 ^ runLen k := by
  have hp := Nat.two_pow_pos k
  have h1 : 2 ^ k ≤ 2 ^ runLen k := Nat.pow_le_pow_right (by omega) (by unfold runLen; omega)
  omega


set_option maxHeartbeats 1000000 in
theorem uwrite_ret (A : Option Addr) (m c : Nat) (bs : List Bool) (n : Int) (w : World) (ha : Row .u8 w A m (pack bs)) (hc : m ≤ c ∧ c ≤ 9223372036854775807) (hl : bs.length ≤ 330000) (hn : -9223372036854775808 ≤ n ∧ n ≤ 9223372036854775807) :
    Calls Tryd.prog 11 #[.agg #[.slice A m c, .int .i64 ((bs.length : Nat) : Int)], .int .i64 n] w (RetB w (uwR bs n).1 (uwR bs n).2) := by
  have hri := ha.rowIn
  by_cases h1 : n < 0 ∨ 48 < n
  · have HR : Hid (uwR bs n = ([], 2)) := by unfold uwR; rw [if_pos h1]; rfl
    have H1 := Lib.hid h1
    clear h1
    go_enter Tryd.func11, Tryd.ntmps11
    go_wp2_with fail
    refine (bcheck_ok A m c bs _ (by exact ((ha.alloc _).alloc _)) (by omega) hl).mono ?_
    rintro e w1 ⟨rfl, b1⟩
    have s1 := b1.size
    try simp only [World.size_alloc, World.size_setCell, World.size_drew, size_drewN] at s1
    obtain ⟨zb_1, zr_1, rb_1, bb_1⟩ : Blk w1 (w.heap.size) 26 [.slice A m c, .int .i64 ((bs.length : Nat) : Int)] ∧ Blk w1 (w.heap.size + 1) 26 [.slice none 0 0, .int .i64 0] ∧ RowIn .u8 w1 (0) (w.heap.size) A m (pack bs) ∧ Below w.heap.size w w1 := by
      refine ⟨?_, ?_, ?_, ?_⟩
      all_goals repeat' (first | (with_reducible assumption) | (with_reducible exact Below.refl _ _) | (with_reducible refine Blk.after ?_ b1) | (with_reducible refine RowIn.belowS ?_ b1) | (with_reducible refine Below.after ?_ b1 ?_) | (with_reducible refine Blk.drewN ?_ _) | (with_reducible refine RowIn.drewN ?_ _) | (with_reducible refine below_drewN ?_ _) | (with_reducible refine Blk.drew ?_) | (with_reducible refine RowIn.drew ?_) | (with_reducible refine Below.drew ?_) | (with_reducible refine Blk.new' ?_ ?_ <;> first | (with_reducible rfl) | (simp; done)) | (with_reducible refine Blk.alloc ?_ _) | (with_reducible refine RowIn.alloc ?_ _) | (with_reducible refine Below.alloc ?_ ?_ _) | (with_reducible apply Blk.set') | (with_reducible refine Blk.far' ?_ ?_ _) | (with_reducible refine RowIn.far' ?_ ?_ _) | (with_reducible refine Below.far' ?_ ?_ _) | rfl | omega | go_size)
    clear b1
    have kb_1 := zb_1.cell; have fb_1 := zb_1.frozen; have lb_1 := zb_1.lt
    have kr_1 := zr_1.cell; have fr_1 := zr_1.frozen; have lr_1 := zr_1.lt
    go_wp2_with fail
    refine (ulen_bad n _ H1.out).mono ?_
    rintro e _ ⟨rfl, rfl⟩
    go_wp2
    refine bodyPost_ret (v := .tuple #[.agg #[.slice none 0 0, .int .i64 0], .int .i64 2]) (by simp [results, Tryd.results11, go_sem, kr_1]) rfl ?_
    rw [HR.out]
    refine RetB.of rfl (BitsIn.zero _ _ _) ?_
    repeat' (first | (with_reducible assumption) | (with_reducible exact Below.refl _ _) | (with_reducible refine Blk.drewN ?_ _) | (with_reducible refine RowIn.drewN ?_ _) | (with_reducible refine below_drewN ?_ _) | (with_reducible refine Blk.drew ?_) | (with_reducible refine RowIn.drew ?_) | (with_reducible refine Below.drew ?_) | (with_reducible refine Blk.new' ?_ ?_ <;> first | (with_reducible rfl) | (simp; done)) | (with_reducible refine Blk.alloc ?_ _) | (with_reducible refine RowIn.alloc ?_ _) | (with_reducible refine Below.alloc ?_ ?_ _) | (with_reducible apply Blk.set') | (with_reducible refine Blk.far' ?_ ?_ _) | (with_reducible refine RowIn.far' ?_ ?_ _) | (with_reducible refine Below.far' ?_ ?_ _) | rfl | omega | go_size)
  obtain ⟨k, rfl⟩ := Int.eq_ofNat_of_zero_le (by omega : 0 ≤ n)
  have hk : k ≤ 48 := by omega
  have HR : Hid (uwR bs (k : Nat) = if 330000 < bs.length + runLen k then ([], 18) else (bs ++ run k, 0)) := by unfold uwR; rw [if_neg h1]; rfl
  clear h1
  obtain ⟨z, hz⟩ : ∃ z, 2 ^ k - 1 = z := ⟨_, rfl⟩
  have hw := ones_word hk
  rw [hz] at hw
  have hz64 : z < 18446744073709551616 := by rw [← hz]; exact Nat.lt_of_lt_of_le (run_fits hk) (pow_le_u64 (by unfold runLen; omega))
  have HZ := Lib.hid hz
  clear hz
  go_enter Tryd.func11, Tryd.ntmps11
  go_wp2_with fail
  refine (bcheck_ok A m c bs _ (by exact ((ha.alloc _).alloc _)) (by omega) hl).mono ?_
  rintro e w1 ⟨rfl, b1⟩
  have s1 := b1.size
  try simp only [World.size_alloc, World.size_setCell, World.size_drew, size_drewN] at s1
  obtain ⟨zb_1, zr_1, rb_1, bb_1⟩ : Blk w1 (w.heap.size) 26 [.slice A m c, .int .i64 ((bs.length : Nat) : Int)] ∧ Blk w1 (w.heap.size + 1) 26 [.slice none 0 0, .int .i64 0] ∧ RowIn .u8 w1 (0) (w.heap.size) A m (pack bs) ∧ Below w.heap.size w w1 := by
    refine ⟨?_, ?_, ?_, ?_⟩
    all_goals repeat' (first | (with_reducible assumption) | (with_reducible exact Below.refl _ _) | (with_reducible refine Blk.after ?_ b1) | (with_reducible refine RowIn.belowS ?_ b1) | (with_reducible refine Below.after ?_ b1 ?_) | (with_reducible refine Blk.drewN ?_ _) | (with_reducible refine RowIn.drewN ?_ _) | (with_reducible refine below_drewN ?_ _) | (with_reducible refine Blk.drew ?_) | (with_reducible refine RowIn.drew ?_) | (with_reducible refine Below.drew ?_) | (with_reducible refine Blk.new' ?_ ?_ <;> first | (with_reducible rfl) | (simp; done)) | (with_reducible refine Blk.alloc ?_ _) | (with_reducible refine RowIn.alloc ?_ _) | (with_reducible refine Below.alloc ?_ ?_ _) | (with_reducible apply Blk.set') | (with_reducible refine Blk.far' ?_ ?_ _) | (with_reducible refine RowIn.far' ?_ ?_ _) | (with_reducible refine Below.far' ?_ ?_ _) | rfl | omega | go_size)
  clear b1
  have kb_1 := zb_1.cell; have fb_1 := zb_1.frozen; have lb_1 := zb_1.lt
  have kr_1 := zr_1.cell; have fr_1 := zr_1.frozen; have lr_1 := zr_1.lt
  go_wp2_with fail
  refine (ulen_ok (k : Nat) _ (by omega) (by omega)).mono ?_
  rintro e _ ⟨y, rfl, HY, rfl⟩
  have hy : y ≤ 48 := by rw [HY.out]; unfold runLen; omega
  go_wp2_with fail
  go_region_law (go_simp; go_at_call 7
                 refine (bput_ret A m c bs z y _ (by exact rb_1.row) hc hl (by omega) (by omega)).mono ?_
                 rintro e w2 ⟨Ax, mx, cx, xx, rfl, hcx, rx, HXx, b2⟩
                 replace rx := rx.mono (lo' := w1.heap.size + 0) (by go_size) (Nat.le_refl _)
                 have s2 := b2.size
                 try simp only [World.size_alloc, World.size_setCell, World.size_drew, size_drewN] at s2
                 obtain ⟨zb_2, zr_2, rb_2, rx_2, bb_2⟩ : Blk w2 (w.heap.size) 26 [.slice A m c, .int .i64 ((bs.length : Nat) : Int)] ∧ Blk w2 (w.heap.size + 1) 26 [.slice none 0 0, .int .i64 0] ∧ RowIn .u8 w2 (0) (w.heap.size) A m (pack bs) ∧ RowIn .u8 w2 (w1.heap.size + 0) (w2.heap.size) Ax mx (pack xx) ∧ Below w.heap.size w w2 := by
                   refine ⟨?_, ?_, ?_, ?_, ?_⟩
                   all_goals repeat' (first | (with_reducible assumption) | (with_reducible exact Below.refl _ _) | (with_reducible refine Blk.after ?_ b2) | (with_reducible refine RowIn.belowS ?_ b2) | (with_reducible refine Below.after ?_ b2 ?_) | (with_reducible refine Blk.drewN ?_ _) | (with_reducible refine RowIn.drewN ?_ _) | (with_reducible refine below_drewN ?_ _) | (with_reducible refine Blk.drew ?_) | (with_reducible refine RowIn.drew ?_) | (with_reducible refine Below.drew ?_) | (with_reducible refine Blk.new' ?_ ?_ <;> first | (with_reducible rfl) | (simp; done)) | (with_reducible refine Blk.alloc ?_ _) | (with_reducible refine RowIn.alloc ?_ _) | (with_reducible refine Below.alloc ?_ ?_ _) | (with_reducible apply Blk.set') | (with_reducible refine Blk.far' ?_ ?_ _) | (with_reducible refine RowIn.far' ?_ ?_ _) | (with_reducible refine Below.far' ?_ ?_ _) | rfl | omega | go_size)
                 clear zb_1 zr_1 rb_1 bb_1 kb_1 fb_1 lb_1 kr_1 fr_1 lr_1 b2
                 have kb_2 := zb_2.cell; have fb_2 := zb_2.frozen; have lb_2 := zb_2.lt
                 have kr_2 := zr_2.cell; have fr_2 := zr_2.frozen; have lr_2 := zr_2.lt
                 clear rx)
  all_goals
    have HP : Hid (putR bs (z : Int).toNat (y : Int) = uwR bs (k : Nat)) := by
      rw [HR.out, Int.toNat_natCast]
      unfold putR
      rw [if_neg (by omega), Int.toNat_natCast, HY.out, Int.toNat_natCast, ← HZ.out, if_neg (by have := run_fits hk; omega), lowBits_run hk]
      exact Lib.hid rfl
    go_wp2
    refine bodyPost_ret (v := .tuple #[.agg #[.slice Ax mx cx, .int .i64 ((xx.length : Nat) : Int)], .int .i64 (putR bs (z : Int).toNat (y : Int)).2]) (by simp [results, Tryd.results11, go_sem, kr_2]) rfl ?_
    rw [HP.out] at HXx
    rw [HP.out]
    refine RetB.of (x := .agg #[.slice Ax mx cx, .int .i64 ((xx.length : Nat) : Int)]) rfl ⟨Ax, mx, cx, by rw [HXx.out], hcx, ?_⟩ ?_
    · rw [← HXx.out]
      refine RowIn.mono (lo := w1.heap.size + 0) (hi := w2.heap.size) ?_ (by omega) (by go_size)
      repeat' (first | (with_reducible assumption) | (with_reducible exact Below.refl _ _) | (with_reducible refine Blk.drewN ?_ _) | (with_reducible refine RowIn.drewN ?_ _) | (with_reducible refine below_drewN ?_ _) | (with_reducible refine Blk.drew ?_) | (with_reducible refine RowIn.drew ?_) | (with_reducible refine Below.drew ?_) | (with_reducible refine Blk.new' ?_ ?_ <;> first | (with_reducible rfl) | (simp; done)) | (with_reducible refine Blk.alloc ?_ _) | (with_reducible refine RowIn.alloc ?_ _) | (with_reducible refine Below.alloc ?_ ?_ _) | (with_reducible apply Blk.set') | (with_reducible refine Blk.far' ?_ ?_ _) | (with_reducible refine RowIn.far' ?_ ?_ _) | (with_reducible refine Below.far' ?_ ?_ _) | rfl | omega | go_size)
    · repeat' (first | (with_reducible assumption) | (with_reducible exact Below.refl _ _) | (with_reducible refine Blk.drewN ?_ _) | (with_reducible refine RowIn.drewN ?_ _) | (with_reducible refine below_drewN ?_ _) | (with_reducible refine Blk.drew ?_) | (with_reducible refine RowIn.drew ?_) | (with_reducible refine Below.drew ?_) | (with_reducible refine Blk.new' ?_ ?_ <;> first | (with_reducible rfl) | (simp; done)) | (with_reducible refine Blk.alloc ?_ _) | (with_reducible refine RowIn.alloc ?_ _) | (with_reducible refine Below.alloc ?_ ?_ _) | (with_reducible apply Blk.set') | (with_reducible refine Blk.far' ?_ ?_ _) | (with_reducible refine RowIn.far' ?_ ?_ _) | (with_reducible refine Below.far' ?_ ?_ _) | rfl | omega | go_size)


theorem uwrite_ok (A : Option Addr) (m c : Nat) (bs : List Bool) (n : Int) (w : World) (ha : Row .u8 w A m (pack bs)) (hc : m ≤ c ∧ c ≤ 9223372036854775807) (hn : 0 ≤ n ∧ n ≤ 48) (hr : bs.length + runLen n.toNat ≤ 330000) :
    Calls Tryd.prog 11 #[.agg #[.slice A m c, .int .i64 (bs.length : Nat)], .int .i64 n] w (RetB w (bs ++ run n.toNat) 0) := by
  have h := uwrite_ret A m c bs n w ha hc (by omega) (by omega)
  have e : uwR bs n = (bs ++ run n.toNat, 0) := by unfold uwR; rw [if_neg (by omega), if_neg (by omega)]
  rw [e] at h; exact h


set_option maxHeartbeats 400000 in
theorem uwrite_bad (A : Option Addr) (m c : Nat) (N : Int) (bytes : List Int) (n : Int) (w : World) (ha : Row .u8 w A m bytes) (hb : Within 0 255 bytes) (hc : m ≤ c ∧ c ≤ 9223372036854775807) (hv : ¬ Valid bytes N) :
    Calls Tryd.prog 11 #[.agg #[.slice A m c, .int .i64 N], .int .i64 n] w (RetB w [] 8) := by
  go_enter Tryd.func11, Tryd.ntmps11
  go_wp2_with fail
  refine (bcheck_bad A m c N bytes _ (by exact ((ha.alloc _).alloc _)) hb (by omega) hv).mono ?_
  rintro e w1 ⟨rfl, b1⟩
  have s1 := b1.size
  try simp only [World.size_alloc, World.size_setCell, World.size_drew, size_drewN] at s1
  obtain ⟨zb_1, zr_1, bb_1⟩ : Blk w1 (w.heap.size) 26 [.slice A m c, .int .i64 N] ∧ Blk w1 (w.heap.size + 1) 26 [.slice none 0 0, .int .i64 0] ∧ Below w.heap.size w w1 := by
    refine ⟨?_, ?_, ?_⟩
    all_goals repeat' (first | (with_reducible assumption) | (with_reducible exact Below.refl _ _) | (with_reducible refine Blk.after ?_ b1) | (with_reducible refine RowIn.belowS ?_ b1) | (with_reducible refine Below.after ?_ b1 ?_) | (with_reducible refine Blk.drewN ?_ _) | (with_reducible refine RowIn.drewN ?_ _) | (with_reducible refine below_drewN ?_ _) | (with_reducible refine Blk.drew ?_) | (with_reducible refine RowIn.drew ?_) | (with_reducible refine Below.drew ?_) | (with_reducible refine Blk.new' ?_ ?_ <;> first | (with_reducible rfl) | (simp; done)) | (with_reducible refine Blk.alloc ?_ _) | (with_reducible refine RowIn.alloc ?_ _) | (with_reducible refine Below.alloc ?_ ?_ _) | (with_reducible apply Blk.set') | (with_reducible refine Blk.far' ?_ ?_ _) | (with_reducible refine RowIn.far' ?_ ?_ _) | (with_reducible refine Below.far' ?_ ?_ _) | rfl | omega | go_size)
  clear b1
  have kb_1 := zb_1.cell; have fb_1 := zb_1.frozen; have lb_1 := zb_1.lt
  have kr_1 := zr_1.cell; have fr_1 := zr_1.frozen; have lr_1 := zr_1.lt
  go_wp2
  refine bodyPost_ret (v := .tuple #[.agg #[.slice none 0 0, .int .i64 0], .int .i64 8]) (by simp [results, Tryd.results11, go_sem, kr_1]) rfl ?_
  refine RetB.of rfl (BitsIn.zero _ _ _) ?_
  repeat' (first | (with_reducible assumption) | (with_reducible exact Below.refl _ _) | (with_reducible refine Blk.drewN ?_ _) | (with_reducible refine RowIn.drewN ?_ _) | (with_reducible refine below_drewN ?_ _) | (with_reducible refine Blk.drew ?_) | (with_reducible refine RowIn.drew ?_) | (with_reducible refine Below.drew ?_) | (with_reducible refine Blk.new' ?_ ?_ <;> first | (with_reducible rfl) | (simp; done)) | (with_reducible refine Blk.alloc ?_ _) | (with_reducible refine RowIn.alloc ?_ _) | (with_reducible refine Below.alloc ?_ ?_ _) | (with_reducible apply Blk.set') | (with_reducible refine Blk.far' ?_ ?_ _) | (with_reducible refine RowIn.far' ?_ ?_ _) | (with_reducible refine Below.far' ?_ ?_ _) | rfl | omega | go_size)


end Go.Proofs.YtpohaikbbfochaaDoor

/-
  Contracts of Length and Write of Rice codes.
-/
namespace Go.Proofs.YtpohaikbbfochaaDoor
open Go.RowKit Cad Cad.Bit Cad.Code
set_option linter.unusedVariables false
set_option linter.unusedSimpArgs false

theorem resc_yes (v k q : Nat) (w : World) (hk : k ≤ 24) (hv : v < 4294967296) (hq : q = v / 2 ^ k) (h : 48 ≤ q) :
    Calls Tryd.prog 76 #[.int .u32 (v : Int), .int .i64 (k : Int)] w fun e w' => e = .returned (.bool true) ∧ w = w' := by
  have e1 : (v : Int) / 2 ^ k = (q : Int) := by rw [pow_cast, ← Int.natCast_ediv, hq]
  clear hq
  go_enter Tryd.func76, Tryd.ntmps76
  go_wp2
  go_ret
  exact ⟨ret_bool (decide_eq_true (by omega)), rfl⟩
theorem resc_no (v k q : Nat) (w : World) (hk : k ≤ 24) (hv : v < 4294967296) (hq : q = v / 2 ^ k) (h : q < 48) :
    Calls Tryd.prog 76 #[.int .u32 (v : Int), .int .i64 (k : Int)] w fun e w' => e = .returned (.bool false) ∧ w = w' := by
  have e1 : (v : Int) / 2 ^ k = (q : Int) := by rw [pow_cast, ← Int.natCast_ediv, hq]
  clear hq
  go_enter Tryd.func76, Tryd.ntmps76
  go_wp2
  go_ret
  exact ⟨ret_bool (decide_eq_false (by omega)), rfl⟩

theorem rlen_bad (v k : Int) (w : World) (h : k < 0 ∨ 24 < k) :
    Calls Tryd.prog 68 #[.int .u32 v, .int .i64 k] w fun e w' => e = .returned (.tuple #[.int .i64 0, .int .i64 2]) ∧ w = w' := by
  rcases h with h | h
  all_goals
    go_enter Tryd.func68, Tryd.ntmps68
    go_wp2
    go_ret2
    exact ⟨rfl, rfl⟩
theorem rlen_ok (v k : Nat) (w : World) (hk : k ≤ 24) (hv : v < 4294967296) :
    Calls Tryd.prog 68 #[.int .u32 (v : Int), .int .i64 (k : Int)] w fun e w' => ∃ y : Nat, e = .returned (.tuple #[.int .i64 (y : Int), .int .i64 0]) ∧ Hid (y = riceLen v k) ∧ w = w' := by
  obtain ⟨q, hq⟩ : ∃ q, q = v / 2 ^ k := ⟨_, rfl⟩
  have e1 : (v : Int) / 2 ^ k = (q : Int) := by rw [pow_cast, ← Int.natCast_ediv, hq]
  have HQ := Lib.hid hq
  by_cases h : q < 48
  · have HL : Hid (riceLen v k = q + 1 + k) := by unfold riceLen; rw [← hq, if_pos h]; exact Lib.hid rfl
    clear hq
    go_enter Tryd.func68, Tryd.ntmps68
    go_wp2_with fail
    refine (resc_no v k q _ hk hv HQ.out h).mono ?_
    rintro e _ ⟨rfl, rfl⟩
    go_wp2
    go_ret2
    exact ⟨q + 1 + k, by go_num, Lib.hid HL.out.symm, rfl⟩
  · have HL : Hid (riceLen v k = 80) := by unfold riceLen; rw [← hq, if_neg h]; exact Lib.hid rfl
    clear hq
    go_enter Tryd.func68, Tryd.ntmps68
    go_wp2_with fail
    refine (resc_yes v k q _ hk hv HQ.out (by omega)).mono ?_
    rintro e _ ⟨rfl, rfl⟩
    go_wp2
    go_ret2
    exact ⟨80, rfl, Lib.hid HL.out.symm, rfl⟩

/-- What Write returns. -/
def rwR (bs : List Bool) (v : Nat) (k : Int) : List Bool × Int := if k < 0 ∨ 24 < k then ([], 2) else if 330000 < bs.length + riceLen v k.toNat then ([], 18) else (bs ++ rice v k.toNat, 0)
theorem u32_mask {v k : Nat} (hv : v < 4294967296) (hk : k ≤ 24) : bits .and .u32 (v : Int) (((2 : Int) ^ k - 1) % 4294967296) = ((v % 2 ^ k : Nat) : Int) := by
  have hp := Nat.two_pow_pos k
  have hlt : 2 ^ k ≤ 16777216 := Nat.le_trans (Nat.pow_le_pow_right (by omega) hk) (by decide)
  have e1 : ((2 : Int) ^ k - 1) % 4294967296 = ((2 ^ k - 1 : Nat) : Int) := by rw [pow_cast]; omega
  rw [e1, u32_and_nat _ _ hv (by omega), Nat.and_two_pow_sub_one_eq_mod]


set_option maxHeartbeats 1000000 in
theorem rwrite_ret (A : Option Addr) (m c : Nat) (bs : List Bool) (v : Nat) (k : Int) (w : World) (ha : Row .u8 w A m (pack bs)) (hc : m ≤ c ∧ c ≤ 9223372036854775807) (hl : bs.length ≤ 330000) (hv : v < 4294967296) (hk0 : -9223372036854775808 ≤ k ∧ k ≤ 9223372036854775807) :
    Calls Tryd.prog 63 #[.agg #[.slice A m c, .int .i64 ((bs.length : Nat) : Int)], .int .u32 (v : Int), .int .i64 k] w (RetB w (rwR bs v k).1 (rwR bs v k).2) := by
  have hri := ha.rowIn
  by_cases h1 : k < 0
  · have HR : Hid (rwR bs v k = ([], 2)) := by unfold rwR; rw [if_pos (Or.inl h1)]; rfl
    go_enter Tryd.func63, Tryd.ntmps63
    go_wp2_with fail
    refine (bcheck_ok A m c bs _ (by exact ((ha.alloc _).alloc _)) (by omega) hl).mono ?_
    rintro e w1 ⟨rfl, b1⟩
    have s1 := b1.size
    try simp only [World.size_alloc, World.size_setCell, World.size_drew, size_drewN] at s1
    obtain ⟨zb_1, zr_1, rb_1, bb_1⟩ : Blk w1 (w.heap.size) 26 [.slice A m c, .int .i64 ((bs.length : Nat) : Int)] ∧ Blk w1 (w.heap.size + 1) 26 [.slice none 0 0, .int .i64 0] ∧ RowIn .u8 w1 (0) (w.heap.size) A m (pack bs) ∧ Below w.heap.size w w1 := by
      refine ⟨?_, ?_, ?_, ?_⟩
      all_goals repeat' (first | (with_reducible assumption) | (with_reducible exact Below.refl _ _) | (with_reducible refine Blk.after ?_ b1) | (with_reducible refine RowIn.belowS ?_ b1) | (with_reducible refine Below.after ?_ b1 ?_) | (with_reducible refine Blk.drewN ?_ _) | (with_reducible refine RowIn.drewN ?_ _) | (with_reducible refine below_drewN ?_ _) | (with_reducible refine Blk.drew ?_) | (with_reducible refine RowIn.drew ?_) | (with_reducible refine Below.drew ?_) | (with_reducible refine Blk.new' ?_ ?_ <;> first | (with_reducible rfl) | (simp; done)) | (with_reducible refine Blk.alloc ?_ _) | (with_reducible refine RowIn.alloc ?_ _) | (with_reducible refine Below.alloc ?_ ?_ _) | (with_reducible apply Blk.set') | (with_reducible apply Blk.far') | (with_reducible refine RowIn.far' ?_ ?_ _) | (with_reducible refine Below.far' ?_ ?_ _) | rfl | omega | go_size)
    clear b1
    have kb_1 := zb_1.cell; have fb_1 := zb_1.frozen; have lb_1 := zb_1.lt
    have kr_1 := zr_1.cell; have fr_1 := zr_1.frozen; have lr_1 := zr_1.lt
    go_wp2
    refine bodyPost_ret (v := .tuple #[.agg #[.slice none 0 0, .int .i64 0], .int .i64 2]) (by simp [results, Tryd.results63, go_sem, kr_1]) rfl ?_
    rw [HR.out]
    refine RetB.of rfl (BitsIn.zero _ _ _) ?_
    repeat' (first | (with_reducible assumption) | (with_reducible exact Below.refl _ _) | (with_reducible refine Blk.drewN ?_ _) | (with_reducible refine RowIn.drewN ?_ _) | (with_reducible refine below_drewN ?_ _) | (with_reducible refine Blk.drew ?_) | (with_reducible refine RowIn.drew ?_) | (with_reducible refine Below.drew ?_) | (with_reducible refine Blk.new' ?_ ?_ <;> first | (with_reducible rfl) | (simp; done)) | (with_reducible refine Blk.alloc ?_ _) | (with_reducible refine RowIn.alloc ?_ _) | (with_reducible refine Below.alloc ?_ ?_ _) | (with_reducible apply Blk.set') | (with_reducible apply Blk.far') | (with_reducible refine RowIn.far' ?_ ?_ _) | (with_reducible refine Below.far' ?_ ?_ _) | rfl | omega | go_size)
  by_cases h2 : 24 < k
  · have HR : Hid (rwR bs v k = ([], 2)) := by unfold rwR; rw [if_pos (Or.inr h2)]; rfl
    go_enter Tryd.func63, Tryd.ntmps63
    go_wp2_with fail
    refine (bcheck_ok A m c bs _ (by exact ((ha.alloc _).alloc _)) (by omega) hl).mono ?_
    rintro e w1 ⟨rfl, b1⟩
    have s1 := b1.size
    try simp only [World.size_alloc, World.size_setCell, World.size_drew, size_drewN] at s1
    obtain ⟨zb_1, zr_1, rb_1, bb_1⟩ : Blk w1 (w.heap.size) 26 [.slice A m c, .int .i64 ((bs.length : Nat) : Int)] ∧ Blk w1 (w.heap.size + 1) 26 [.slice none 0 0, .int .i64 0] ∧ RowIn .u8 w1 (0) (w.heap.size) A m (pack bs) ∧ Below w.heap.size w w1 := by
      refine ⟨?_, ?_, ?_, ?_⟩
      all_goals repeat' (first | (with_reducible assumption) | (with_reducible exact Below.refl _ _) | (with_reducible refine Blk.after ?_ b1) | (with_reducible refine RowIn.belowS ?_ b1) | (with_reducible refine Below.after ?_ b1 ?_) | (with_reducible refine Blk.drewN ?_ _) | (with_reducible refine RowIn.drewN ?_ _) | (with_reducible refine below_drewN ?_ _) | (with_reducible refine Blk.drew ?_) | (with_reducible refine RowIn.drew ?_) | (with_reducible refine Below.drew ?_) | (with_reducible refine Blk.new' ?_ ?_ <;> first | (with_reducible rfl) | (simp; done)) | (with_reducible refine Blk.alloc ?_ _) | (with_reducible refine RowIn.alloc ?_ _) | (with_reducible refine Below.alloc ?_ ?_ _) | (with_reducible apply Blk.set') | (with_reducible apply Blk.far') | (with_reducible refine RowIn.far' ?_ ?_ _) | (with_reducible refine Below.far' ?_ ?_ _) | rfl | omega | go_size)
    clear b1
    have kb_1 := zb_1.cell; have fb_1 := zb_1.frozen; have lb_1 := zb_1.lt
    have kr_1 := zr_1.cell; have fr_1 := zr_1.frozen; have lr_1 := zr_1.lt
    go_wp2
    refine bodyPost_ret (v := .tuple #[.agg #[.slice none 0 0, .int .i64 0], .int .i64 2]) (by simp [results, Tryd.results63, go_sem, kr_1]) rfl ?_
    rw [HR.out]
    refine RetB.of rfl (BitsIn.zero _ _ _) ?_
    repeat' (first | (with_reducible assumption) | (with_reducible exact Below.refl _ _) | (with_reducible refine Blk.drewN ?_ _) | (with_reducible refine RowIn.drewN ?_ _) | (with_reducible refine below_drewN ?_ _) | (with_reducible refine Blk.drew ?_) | (with_reducible refine RowIn.drew ?_) | (with_reducible refine Below.drew ?_) | (with_reducible refine Blk.new' ?_ ?_ <;> first | (with_reducible rfl) | (simp; done)) | (with_reducible refine Blk.alloc ?_ _) | (with_reducible refine RowIn.alloc ?_ _) | (with_reducible refine Below.alloc ?_ ?_ _) | (with_reducible apply Blk.set') | (with_reducible apply Blk.far') | (with_reducible refine RowIn.far' ?_ ?_ _) | (with_reducible refine Below.far' ?_ ?_ _) | rfl | omega | go_size)
  obtain ⟨k, rfl⟩ := Int.eq_ofNat_of_zero_le (by omega : 0 ≤ k)
  have hk : k ≤ 24 := by omega
  have HR0 : Hid (rwR bs v (k : Nat) = if 330000 < bs.length + riceLen v k then ([], 18) else (bs ++ rice v k, 0)) := by unfold rwR; rw [if_neg (by omega)]; rfl
  obtain ⟨q, hq⟩ : ∃ q, q = v / 2 ^ k := ⟨_, rfl⟩
  obtain ⟨r, hr⟩ : ∃ r, r = v % 2 ^ k := ⟨_, rfl⟩
  have e1 : (v : Int) / 2 ^ k = (q : Int) := by rw [pow_cast, ← Int.natCast_ediv, hq]
  have e2 := u32_mask hv hk
  rw [← hr] at e2
  have hqb : q < 4294967296 := by rw [hq]; exact Nat.lt_of_le_of_lt (Nat.div_le_self _ _) hv
  have hrk : r < 2 ^ k := by rw [hr]; exact Nat.mod_lt _ (Nat.two_pow_pos k)
  have hrb : r < 4294967296 := by rw [hr]; exact Nat.lt_of_le_of_lt (Nat.mod_le _ _) hv
  have HQ := Lib.hid hq; have HRM := Lib.hid hr; have HRK := Lib.hid hrk
  clear hq hr hrk h1 h2
  have e3 : IntKind.i64.wrap (q : Int) = (q : Int) := IntWalk.i64_in _ (by omega)
  have e4 : IntKind.u64.wrap (r : Int) = (r : Int) := IntWalk.u64_in _ (by omega)
  have e5 : IntKind.u64.wrap (v : Int) = (v : Int) := IntWalk.u64_in _ (by omega)
  by_cases h48 : q < 48
  · go_enter Tryd.func63, Tryd.ntmps63
    go_wp2_with fail
    refine (bcheck_ok A m c bs _ (by exact ((ha.alloc _).alloc _)) (by omega) hl).mono ?_
    rintro e w1 ⟨rfl, b1⟩
    have s1 := b1.size
    try simp only [World.size_alloc, World.size_setCell, World.size_drew, size_drewN] at s1
    obtain ⟨zb_1, zr_1, rb_1, bb_1⟩ : Blk w1 (w.heap.size) 26 [.slice A m c, .int .i64 ((bs.length : Nat) : Int)] ∧ Blk w1 (w.heap.size + 1) 26 [.slice none 0 0, .int .i64 0] ∧ RowIn .u8 w1 (0) (w.heap.size) A m (pack bs) ∧ Below w.heap.size w w1 := by
      refine ⟨?_, ?_, ?_, ?_⟩
      all_goals repeat' (first | (with_reducible assumption) | (with_reducible exact Below.refl _ _) | (with_reducible refine Blk.after ?_ b1) | (with_reducible refine RowIn.belowS ?_ b1) | (with_reducible refine Below.after ?_ b1 ?_) | (with_reducible refine Blk.drewN ?_ _) | (with_reducible refine RowIn.drewN ?_ _) | (with_reducible refine below_drewN ?_ _) | (with_reducible refine Blk.drew ?_) | (with_reducible refine RowIn.drew ?_) | (with_reducible refine Below.drew ?_) | (with_reducible refine Blk.new' ?_ ?_ <;> first | (with_reducible rfl) | (simp; done)) | (with_reducible refine Blk.alloc ?_ _) | (with_reducible refine RowIn.alloc ?_ _) | (with_reducible refine Below.alloc ?_ ?_ _) | (with_reducible apply Blk.set') | (with_reducible apply Blk.far') | (with_reducible refine RowIn.far' ?_ ?_ _) | (with_reducible refine Below.far' ?_ ?_ _) | rfl | omega | go_size)
    clear b1
    have kb_1 := zb_1.cell; have fb_1 := zb_1.frozen; have lb_1 := zb_1.lt
    have kr_1 := zr_1.cell; have fr_1 := zr_1.frozen; have lr_1 := zr_1.lt
    go_wp2_with fail
    go_quiet (fail)
    clear e3
    generalize hwd : w1.drewN nq = w2
    have b2 : Below w1.heap.size w1 w2 := by rw [← hwd]; exact below_drewN (Below.refl _ _) _
    clear hwd
    have s2 := b2.size
    try simp only [World.size_alloc, World.size_setCell, World.size_drew, size_drewN] at s2
    obtain ⟨zb_2, zr_2, rb_2, bb_2⟩ : Blk w2 (w.heap.size) 26 [.slice A m c, .int .i64 ((bs.length : Nat) : Int)] ∧ Blk w2 (w.heap.size + 1) 26 [.slice none 0 0, .int .i64 0] ∧ RowIn .u8 w2 (0) (w.heap.size) A m (pack bs) ∧ Below w.heap.size w w2 := by
      refine ⟨?_, ?_, ?_, ?_⟩
      all_goals repeat' (first | (with_reducible assumption) | (with_reducible exact Below.refl _ _) | (with_reducible refine Blk.after ?_ b2) | (with_reducible refine RowIn.belowS ?_ b2) | (with_reducible refine Below.after ?_ b2 ?_) | (with_reducible refine Blk.drewN ?_ _) | (with_reducible refine RowIn.drewN ?_ _) | (with_reducible refine below_drewN ?_ _) | (with_reducible refine Blk.drew ?_) | (with_reducible refine RowIn.drew ?_) | (with_reducible refine Below.drew ?_) | (with_reducible refine Blk.new' ?_ ?_ <;> first | (with_reducible rfl) | (simp; done)) | (with_reducible refine Blk.alloc ?_ _) | (with_reducible refine RowIn.alloc ?_ _) | (with_reducible refine Below.alloc ?_ ?_ _) | (with_reducible apply Blk.set') | (with_reducible apply Blk.far') | (with_reducible refine RowIn.far' ?_ ?_ _) | (with_reducible refine Below.far' ?_ ?_ _) | rfl | omega | go_size)
    clear zb_1 zr_1 rb_1 bb_1 kb_1 fb_1 lb_1 kr_1 fr_1 lr_1 b2
    have kb_2 := zb_2.cell; have fb_2 := zb_2.frozen; have lb_2 := zb_2.lt
    have kr_2 := zr_2.cell; have fr_2 := zr_2.frozen; have lr_2 := zr_2.lt
    go_wp2_with fail
    refine (resc_no v k q _ hk hv HQ.out (by omega)).mono ?_
    rintro e _ ⟨rfl, rfl⟩
    go_wp2_with fail
    have hw := uwrite_ret A m c bs ((q : Nat) : Int) w2 rb_2.row hc hl (by omega)
    have HLEN : Hid (riceLen v k = runLen (((q : Nat) : Int)).toNat + k) := by
      have hq := HQ.out
      unfold riceLen; rw [← hq, if_pos (by omega), Int.toNat_natCast, runLen_lt (by omega)]; exact Lib.hid rfl
    have hrl : runLen (((q : Nat) : Int)).toNat ≤ 48 := by unfold runLen; omega
    by_cases h3 : 330000 < bs.length + runLen (((q : Nat) : Int)).toNat
    · have hu : uwR bs ((q : Nat) : Int) = ([], 18) := by unfold uwR; rw [if_neg (by omega), if_pos h3]
      rw [hu] at hw
      have HW := Lib.hid hw
      have HR : Hid (rwR bs v (k : Nat) = ([], 18)) := by rw [HR0.out, if_pos (by have := HLEN.out; omega)]; rfl
      clear hw hu
      refine (HW.out).mono ?_
      rintro e w3 ⟨Ax, mx, cx, xx, rfl, hcx, rx, HXx, b3⟩
      replace rx := rx.mono (lo' := w2.heap.size + 0) (by go_size) (Nat.le_refl _)
      have s3 := b3.size
      try simp only [World.size_alloc, World.size_setCell, World.size_drew, size_drewN] at s3
      obtain ⟨zb_3, zr_3, rb_3, rx_3, bb_3⟩ : Blk w3 (w.heap.size) 26 [.slice A m c, .int .i64 ((bs.length : Nat) : Int)] ∧ Blk w3 (w.heap.size + 1) 26 [.slice none 0 0, .int .i64 0] ∧ RowIn .u8 w3 (0) (w.heap.size) A m (pack bs) ∧ RowIn .u8 w3 (w2.heap.size + 0) (w3.heap.size) Ax mx (pack xx) ∧ Below w.heap.size w w3 := by
        refine ⟨?_, ?_, ?_, ?_, ?_⟩
        all_goals repeat' (first | (with_reducible assumption) | (with_reducible exact Below.refl _ _) | (with_reducible refine Blk.after ?_ b3) | (with_reducible refine RowIn.belowS ?_ b3) | (with_reducible refine Below.after ?_ b3 ?_) | (with_reducible refine Blk.drewN ?_ _) | (with_reducible refine RowIn.drewN ?_ _) | (with_reducible refine below_drewN ?_ _) | (with_reducible refine Blk.drew ?_) | (with_reducible refine RowIn.drew ?_) | (with_reducible refine Below.drew ?_) | (with_reducible refine Blk.new' ?_ ?_ <;> first | (with_reducible rfl) | (simp; done)) | (with_reducible refine Blk.alloc ?_ _) | (with_reducible refine RowIn.alloc ?_ _) | (with_reducible refine Below.alloc ?_ ?_ _) | (with_reducible apply Blk.set') | (with_reducible apply Blk.far') | (with_reducible refine RowIn.far' ?_ ?_ _) | (with_reducible refine Below.far' ?_ ?_ _) | rfl | omega | go_size)
      clear zb_2 zr_2 rb_2 bb_2 kb_2 fb_2 lb_2 kr_2 fr_2 lr_2 b3
      have kb_3 := zb_3.cell; have fb_3 := zb_3.frozen; have lb_3 := zb_3.lt
      have kr_3 := zr_3.cell; have fr_3 := zr_3.frozen; have lr_3 := zr_3.lt
      clear rx
      go_wp2
      refine bodyPost_ret (v := .tuple #[.agg #[.slice none 0 0, .int .i64 0], .int .i64 18]) (by simp [results, Tryd.results63, go_sem, kr_3]) rfl ?_
      rw [HR.out]
      refine RetB.of rfl (BitsIn.zero _ _ _) ?_
      repeat' (first | (with_reducible assumption) | (with_reducible exact Below.refl _ _) | (with_reducible refine Blk.drewN ?_ _) | (with_reducible refine RowIn.drewN ?_ _) | (with_reducible refine below_drewN ?_ _) | (with_reducible refine Blk.drew ?_) | (with_reducible refine RowIn.drew ?_) | (with_reducible refine Below.drew ?_) | (with_reducible refine Blk.new' ?_ ?_ <;> first | (with_reducible rfl) | (simp; done)) | (with_reducible refine Blk.alloc ?_ _) | (with_reducible refine RowIn.alloc ?_ _) | (with_reducible refine Below.alloc ?_ ?_ _) | (with_reducible apply Blk.set') | (with_reducible apply Blk.far') | (with_reducible refine RowIn.far' ?_ ?_ _) | (with_reducible refine Below.far' ?_ ?_ _) | rfl | omega | go_size)
    have hu : uwR bs ((q : Nat) : Int) = (bs ++ run (((q : Nat) : Int)).toNat, 0) := by unfold uwR; rw [if_neg (by omega), if_neg h3]
    rw [hu] at hw
    have HW := Lib.hid hw
    clear hw hu
    refine (HW.out).mono ?_
    rintro e w3 ⟨Ax, mx, cx, xx, rfl, hcx, rx, HXx, b3⟩
    have Lx : xx.length ≤ bs.length + runLen (((q : Nat) : Int)).toNat ∧ bs.length + runLen (((q : Nat) : Int)).toNat ≤ xx.length := by rw [HXx.out]; rw [List.length_append, run_len (by omega)]; omega
    obtain ⟨Lx1, Lx2⟩ := Lx
    replace rx := rx.mono (lo' := w2.heap.size + 0) (by go_size) (Nat.le_refl _)
    have s3 := b3.size
    try simp only [World.size_alloc, World.size_setCell, World.size_drew, size_drewN] at s3
    obtain ⟨zb_3, zr_3, rb_3, rx_3, bb_3⟩ : Blk w3 (w.heap.size) 26 [.slice A m c, .int .i64 ((bs.length : Nat) : Int)] ∧ Blk w3 (w.heap.size + 1) 26 [.slice none 0 0, .int .i64 0] ∧ RowIn .u8 w3 (0) (w.heap.size) A m (pack bs) ∧ RowIn .u8 w3 (w2.heap.size + 0) (w3.heap.size) Ax mx (pack xx) ∧ Below w.heap.size w w3 := by
      refine ⟨?_, ?_, ?_, ?_, ?_⟩
      all_goals repeat' (first | (with_reducible assumption) | (with_reducible exact Below.refl _ _) | (with_reducible refine Blk.after ?_ b3) | (with_reducible refine RowIn.belowS ?_ b3) | (with_reducible refine Below.after ?_ b3 ?_) | (with_reducible refine Blk.drewN ?_ _) | (with_reducible refine RowIn.drewN ?_ _) | (with_reducible refine below_drewN ?_ _) | (with_reducible refine Blk.drew ?_) | (with_reducible refine RowIn.drew ?_) | (with_reducible refine Below.drew ?_) | (with_reducible refine Blk.new' ?_ ?_ <;> first | (with_reducible rfl) | (simp; done)) | (with_reducible refine Blk.alloc ?_ _) | (with_reducible refine RowIn.alloc ?_ _) | (with_reducible refine Below.alloc ?_ ?_ _) | (with_reducible apply Blk.set') | (with_reducible apply Blk.far') | (with_reducible refine RowIn.far' ?_ ?_ _) | (with_reducible refine Below.far' ?_ ?_ _) | rfl | omega | go_size)
    clear zb_2 zr_2 rb_2 bb_2 kb_2 fb_2 lb_2 kr_2 fr_2 lr_2 b3
    have kb_3 := zb_3.cell; have fb_3 := zb_3.frozen; have lb_3 := zb_3.lt
    have kr_3 := zr_3.cell; have fr_3 := zr_3.frozen; have lr_3 := zr_3.lt
    clear rx
    have HP : Hid (putR xx (((r : Nat) : Int)).toNat ((k : Nat) : Int) = rwR bs v (k : Nat)) := by
      have hq := HQ.out
      have hlen := HLEN.out
      rw [HR0.out, Int.toNat_natCast]
      unfold putR
      rw [if_neg (by omega), if_neg (by rw [Int.toNat_natCast]; exact Nat.not_le.2 HRK.out)]
      by_cases h5 : 330000 < bs.length + riceLen v k
      · rw [if_pos h5, if_pos (by rw [Int.toNat_natCast]; omega)]; exact Lib.hid rfl
      · rw [if_neg h5, if_neg (by rw [Int.toNat_natCast]; omega), HXx.out]
        refine Lib.hid ?_
        unfold rice
        rw [← hq, if_pos (by omega), HRM.out, Int.toNat_natCast, Int.toNat_natCast, List.append_assoc]
    go_wp2_with fail
    refine (bput_ret Ax mx cx xx ((r : Nat) : Int) ((k : Nat) : Int) _ (by exact (rx_3.far' (Or.inl (by omega)) _).far' (Or.inl (by omega)) _ |>.row) hcx (by omega) (by omega) (by omega)).mono ?_
    rintro e w4 ⟨Ay, my, cy, xy, rfl, hcy, ry, HXy, b4⟩
    replace ry := ry.mono (lo' := w3.heap.size) (by go_size) (Nat.le_refl _)
    have s4 := b4.size
    try simp only [World.size_alloc, World.size_setCell, World.size_drew, size_drewN] at s4
    obtain ⟨zb_4, zr_4, ry_4, bb_4⟩ : Blk w4 (w.heap.size) 26 [.slice Ax mx cx, .int .i64 ((xx.length : Nat) : Int)] ∧ Blk w4 (w.heap.size + 1) 26 [.slice none 0 0, .int .i64 0] ∧ RowIn .u8 w4 (w3.heap.size) (w4.heap.size) Ay my (pack xy) ∧ Below w.heap.size w w4 := by
      refine ⟨?_, ?_, ?_, ?_⟩
      all_goals repeat' (first | (with_reducible assumption) | (with_reducible exact Below.refl _ _) | (with_reducible refine Blk.after ?_ b4) | (with_reducible refine RowIn.belowS ?_ b4) | (with_reducible refine Below.after ?_ b4 ?_) | (with_reducible refine Blk.drewN ?_ _) | (with_reducible refine RowIn.drewN ?_ _) | (with_reducible refine below_drewN ?_ _) | (with_reducible refine Blk.drew ?_) | (with_reducible refine RowIn.drew ?_) | (with_reducible refine Below.drew ?_) | (with_reducible refine Blk.new' ?_ ?_ <;> first | (with_reducible rfl) | (simp; done)) | (with_reducible refine Blk.alloc ?_ _) | (with_reducible refine RowIn.alloc ?_ _) | (with_reducible refine Below.alloc ?_ ?_ _) | (with_reducible apply Blk.set') | (with_reducible apply Blk.far') | (with_reducible refine RowIn.far' ?_ ?_ _) | (with_reducible refine Below.far' ?_ ?_ _) | rfl | omega | go_size)
    clear zb_3 zr_3 rb_3 rx_3 bb_3 kb_3 fb_3 lb_3 kr_3 fr_3 lr_3 b4
    have kb_4 := zb_4.cell; have fb_4 := zb_4.frozen; have lb_4 := zb_4.lt
    have kr_4 := zr_4.cell; have fr_4 := zr_4.frozen; have lr_4 := zr_4.lt
    rw [HP.out] at HXy
    skip
    have HPP := HP
    go_wp2
    refine bodyPost_ret (v := .tuple #[.agg #[.slice Ay my cy, .int .i64 ((xy.length : Nat) : Int)], .int .i64 (putR xx (((r : Nat) : Int)).toNat ((k : Nat) : Int)).2]) (by simp [results, Tryd.results63, go_sem, kr_4]) rfl ?_
    rw [HP.out]
    refine RetB.of (x := .agg #[.slice Ay my cy, .int .i64 ((xy.length : Nat) : Int)]) rfl ⟨Ay, my, cy, by rw [HXy.out], hcy, ?_⟩ ?_
    · rw [← HXy.out]
      refine RowIn.mono (lo := w3.heap.size) (hi := w4.heap.size) ?_ (by omega) (by go_size)
      repeat' (first | (with_reducible assumption) | (with_reducible exact Below.refl _ _) | (with_reducible refine Blk.drewN ?_ _) | (with_reducible refine RowIn.drewN ?_ _) | (with_reducible refine below_drewN ?_ _) | (with_reducible refine Blk.drew ?_) | (with_reducible refine RowIn.drew ?_) | (with_reducible refine Below.drew ?_) | (with_reducible refine Blk.new' ?_ ?_ <;> first | (with_reducible rfl) | (simp; done)) | (with_reducible refine Blk.alloc ?_ _) | (with_reducible refine RowIn.alloc ?_ _) | (with_reducible refine Below.alloc ?_ ?_ _) | (with_reducible apply Blk.set') | (with_reducible apply Blk.far') | (with_reducible refine RowIn.far' ?_ ?_ _) | (with_reducible refine Below.far' ?_ ?_ _) | rfl | omega | go_size)
    · repeat' (first | (with_reducible assumption) | (with_reducible exact Below.refl _ _) | (with_reducible refine Blk.drewN ?_ _) | (with_reducible refine RowIn.drewN ?_ _) | (with_reducible refine below_drewN ?_ _) | (with_reducible refine Blk.drew ?_) | (with_reducible refine RowIn.drew ?_) | (with_reducible refine Below.drew ?_) | (with_reducible refine Blk.new' ?_ ?_ <;> first | (with_reducible rfl) | (simp; done)) | (with_reducible refine Blk.alloc ?_ _) | (with_reducible refine RowIn.alloc ?_ _) | (with_reducible refine Below.alloc ?_ ?_ _) | (with_reducible apply Blk.set') | (with_reducible apply Blk.far') | (with_reducible refine RowIn.far' ?_ ?_ _) | (with_reducible refine Below.far' ?_ ?_ _) | rfl | omega | go_size)
  · go_enter Tryd.func63, Tryd.ntmps63
    go_wp2_with fail
    refine (bcheck_ok A m c bs _ (by exact ((ha.alloc _).alloc _)) (by omega) hl).mono ?_
    rintro e w1 ⟨rfl, b1⟩
    have s1 := b1.size
    try simp only [World.size_alloc, World.size_setCell, World.size_drew, size_drewN] at s1
    obtain ⟨zb_1, zr_1, rb_1, bb_1⟩ : Blk w1 (w.heap.size) 26 [.slice A m c, .int .i64 ((bs.length : Nat) : Int)] ∧ Blk w1 (w.heap.size + 1) 26 [.slice none 0 0, .int .i64 0] ∧ RowIn .u8 w1 (0) (w.heap.size) A m (pack bs) ∧ Below w.heap.size w w1 := by
      refine ⟨?_, ?_, ?_, ?_⟩
      all_goals repeat' (first | (with_reducible assumption) | (with_reducible exact Below.refl _ _) | (with_reducible refine Blk.after ?_ b1) | (with_reducible refine RowIn.belowS ?_ b1) | (with_reducible refine Below.after ?_ b1 ?_) | (with_reducible refine Blk.drewN ?_ _) | (with_reducible refine RowIn.drewN ?_ _) | (with_reducible refine below_drewN ?_ _) | (with_reducible refine Blk.drew ?_) | (with_reducible refine RowIn.drew ?_) | (with_reducible refine Below.drew ?_) | (with_reducible refine Blk.new' ?_ ?_ <;> first | (with_reducible rfl) | (simp; done)) | (with_reducible refine Blk.alloc ?_ _) | (with_reducible refine RowIn.alloc ?_ _) | (with_reducible refine Below.alloc ?_ ?_ _) | (with_reducible apply Blk.set') | (with_reducible apply Blk.far') | (with_reducible refine RowIn.far' ?_ ?_ _) | (with_reducible refine Below.far' ?_ ?_ _) | rfl | omega | go_size)
    clear b1
    have kb_1 := zb_1.cell; have fb_1 := zb_1.frozen; have lb_1 := zb_1.lt
    have kr_1 := zr_1.cell; have fr_1 := zr_1.frozen; have lr_1 := zr_1.lt
    go_wp2_with fail
    go_quiet (fail)
    clear e3
    generalize hwd : w1.drewN nq = w2
    have b2 : Below w1.heap.size w1 w2 := by rw [← hwd]; exact below_drewN (Below.refl _ _) _
    clear hwd
    have s2 := b2.size
    try simp only [World.size_alloc, World.size_setCell, World.size_drew, size_drewN] at s2
    obtain ⟨zb_2, zr_2, rb_2, bb_2⟩ : Blk w2 (w.heap.size) 26 [.slice A m c, .int .i64 ((bs.length : Nat) : Int)] ∧ Blk w2 (w.heap.size + 1) 26 [.slice none 0 0, .int .i64 0] ∧ RowIn .u8 w2 (0) (w.heap.size) A m (pack bs) ∧ Below w.heap.size w w2 := by
      refine ⟨?_, ?_, ?_, ?_⟩
      all_goals repeat' (first | (with_reducible assumption) | (with_reducible exact Below.refl _ _) | (with_reducible refine Blk.after ?_ b2) | (with_reducible refine RowIn.belowS ?_ b2) | (with_reducible refine Below.after ?_ b2 ?_) | (with_reducible refine Blk.drewN ?_ _) | (with_reducible refine RowIn.drewN ?_ _) | (with_reducible refine below_drewN ?_ _) | (with_reducible refine Blk.drew ?_) | (with_reducible refine RowIn.drew ?_) | (with_reducible refine Below.drew ?_) | (with_reducible refine Blk.new' ?_ ?_ <;> first | (with_reducible rfl) | (simp; done)) | (with_reducible refine Blk.alloc ?_ _) | (with_reducible refine RowIn.alloc ?_ _) | (with_reducible refine Below.alloc ?_ ?_ _) | (with_reducible apply Blk.set') | (with_reducible apply Blk.far') | (with_reducible refine RowIn.far' ?_ ?_ _) | (with_reducible refine Below.far' ?_ ?_ _) | rfl | omega | go_size)
    clear zb_1 zr_1 rb_1 bb_1 kb_1 fb_1 lb_1 kr_1 fr_1 lr_1 b2
    have kb_2 := zb_2.cell; have fb_2 := zb_2.frozen; have lb_2 := zb_2.lt
    have kr_2 := zr_2.cell; have fr_2 := zr_2.frozen; have lr_2 := zr_2.lt
    go_wp2_with fail
    refine (resc_yes v k q _ hk hv HQ.out (by omega)).mono ?_
    rintro e _ ⟨rfl, rfl⟩
    go_wp2_with fail
    have hw := uwrite_ret A m c bs (48 : Int) w2 rb_2.row hc hl (by omega)
    have HLEN : Hid (riceLen v k = runLen ((48 : Int)).toNat + 32) := by
      have hq := HQ.out
      unfold riceLen; rw [← hq, if_neg (by omega)]; exact Lib.hid rfl
    have hrl : runLen ((48 : Int)).toNat ≤ 48 := by unfold runLen; omega
    by_cases h3 : 330000 < bs.length + runLen ((48 : Int)).toNat
    · have hu : uwR bs (48 : Int) = ([], 18) := by unfold uwR; rw [if_neg (by omega), if_pos h3]
      rw [hu] at hw
      have HW := Lib.hid hw
      have HR : Hid (rwR bs v (k : Nat) = ([], 18)) := by rw [HR0.out, if_pos (by have := HLEN.out; omega)]; rfl
      clear hw hu
      refine (HW.out).mono ?_
      rintro e w3 ⟨Ax, mx, cx, xx, rfl, hcx, rx, HXx, b3⟩
      replace rx := rx.mono (lo' := w2.heap.size + 0) (by go_size) (Nat.le_refl _)
      have s3 := b3.size
      try simp only [World.size_alloc, World.size_setCell, World.size_drew, size_drewN] at s3
      obtain ⟨zb_3, zr_3, rb_3, rx_3, bb_3⟩ : Blk w3 (w.heap.size) 26 [.slice A m c, .int .i64 ((bs.length : Nat) : Int)] ∧ Blk w3 (w.heap.size + 1) 26 [.slice none 0 0, .int .i64 0] ∧ RowIn .u8 w3 (0) (w.heap.size) A m (pack bs) ∧ RowIn .u8 w3 (w2.heap.size + 0) (w3.heap.size) Ax mx (pack xx) ∧ Below w.heap.size w w3 := by
        refine ⟨?_, ?_, ?_, ?_, ?_⟩
        all_goals repeat' (first | (with_reducible assumption) | (with_reducible exact Below.refl _ _) | (with_reducible refine Blk.after ?_ b3) | (with_reducible refine RowIn.belowS ?_ b3) | (with_reducible refine Below.after ?_ b3 ?_) | (with_reducible refine Blk.drewN ?_ _) | (with_reducible refine RowIn.drewN ?_ _) | (with_reducible refine below_drewN ?_ _) | (with_reducible refine Blk.drew ?_) | (with_reducible refine RowIn.drew ?_) | (with_reducible refine Below.drew ?_) | (with_reducible refine Blk.new' ?_ ?_ <;> first | (with_reducible rfl) | (simp; done)) | (with_reducible refine Blk.alloc ?_ _) | (with_reducible refine RowIn.alloc ?_ _) | (with_reducible refine Below.alloc ?_ ?_ _) | (with_reducible apply Blk.set') | (with_reducible apply Blk.far') | (with_reducible refine RowIn.far' ?_ ?_ _) | (with_reducible refine Below.far' ?_ ?_ _) | rfl | omega | go_size)
      clear zb_2 zr_2 rb_2 bb_2 kb_2 fb_2 lb_2 kr_2 fr_2 lr_2 b3
      have kb_3 := zb_3.cell; have fb_3 := zb_3.frozen; have lb_3 := zb_3.lt
      have kr_3 := zr_3.cell; have fr_3 := zr_3.frozen; have lr_3 := zr_3.lt
      clear rx
      go_wp2
      refine bodyPost_ret (v := .tuple #[.agg #[.slice none 0 0, .int .i64 0], .int .i64 18]) (by simp [results, Tryd.results63, go_sem, kr_3]) rfl ?_
      rw [HR.out]
      refine RetB.of rfl (BitsIn.zero _ _ _) ?_
      repeat' (first | (with_reducible assumption) | (with_reducible exact Below.refl _ _) | (with_reducible refine Blk.drewN ?_ _) | (with_reducible refine RowIn.drewN ?_ _) | (with_reducible refine below_drewN ?_ _) | (with_reducible refine Blk.drew ?_) | (with_reducible refine RowIn.drew ?_) | (with_reducible refine Below.drew ?_) | (with_reducible refine Blk.new' ?_ ?_ <;> first | (with_reducible rfl) | (simp; done)) | (with_reducible refine Blk.alloc ?_ _) | (with_reducible refine RowIn.alloc ?_ _) | (with_reducible refine Below.alloc ?_ ?_ _) | (with_reducible apply Blk.set') | (with_reducible apply Blk.far') | (with_reducible refine RowIn.far' ?_ ?_ _) | (with_reducible refine Below.far' ?_ ?_ _) | rfl | omega | go_size)
    have hu : uwR bs (48 : Int) = (bs ++ run ((48 : Int)).toNat, 0) := by unfold uwR; rw [if_neg (by omega), if_neg h3]
    rw [hu] at hw
    have HW := Lib.hid hw
    clear hw hu
    refine (HW.out).mono ?_
    rintro e w3 ⟨Ax, mx, cx, xx, rfl, hcx, rx, HXx, b3⟩
    have Lx : xx.length ≤ bs.length + runLen ((48 : Int)).toNat ∧ bs.length + runLen ((48 : Int)).toNat ≤ xx.length := by rw [HXx.out]; rw [List.length_append, run_len (by omega)]; omega
    obtain ⟨Lx1, Lx2⟩ := Lx
    replace rx := rx.mono (lo' := w2.heap.size + 0) (by go_size) (Nat.le_refl _)
    have s3 := b3.size
    try simp only [World.size_alloc, World.size_setCell, World.size_drew, size_drewN] at s3
    obtain ⟨zb_3, zr_3, rb_3, rx_3, bb_3⟩ : Blk w3 (w.heap.size) 26 [.slice A m c, .int .i64 ((bs.length : Nat) : Int)] ∧ Blk w3 (w.heap.size + 1) 26 [.slice none 0 0, .int .i64 0] ∧ RowIn .u8 w3 (0) (w.heap.size) A m (pack bs) ∧ RowIn .u8 w3 (w2.heap.size + 0) (w3.heap.size) Ax mx (pack xx) ∧ Below w.heap.size w w3 := by
      refine ⟨?_, ?_, ?_, ?_, ?_⟩
      all_goals repeat' (first | (with_reducible assumption) | (with_reducible exact Below.refl _ _) | (with_reducible refine Blk.after ?_ b3) | (with_reducible refine RowIn.belowS ?_ b3) | (with_reducible refine Below.after ?_ b3 ?_) | (with_reducible refine Blk.drewN ?_ _) | (with_reducible refine RowIn.drewN ?_ _) | (with_reducible refine below_drewN ?_ _) | (with_reducible refine Blk.drew ?_) | (with_reducible refine RowIn.drew ?_) | (with_reducible refine Below.drew ?_) | (with_reducible refine Blk.new' ?_ ?_ <;> first | (with_reducible rfl) | (simp; done)) | (with_reducible refine Blk.alloc ?_ _) | (with_reducible refine RowIn.alloc ?_ _) | (with_reducible refine Below.alloc ?_ ?_ _) | (with_reducible apply Blk.set') | (with_reducible apply Blk.far') | (with_reducible refine RowIn.far' ?_ ?_ _) | (with_reducible refine Below.far' ?_ ?_ _) | rfl | omega | go_size)
    clear zb_2 zr_2 rb_2 bb_2 kb_2 fb_2 lb_2 kr_2 fr_2 lr_2 b3
    have kb_3 := zb_3.cell; have fb_3 := zb_3.frozen; have lb_3 := zb_3.lt
    have kr_3 := zr_3.cell; have fr_3 := zr_3.frozen; have lr_3 := zr_3.lt
    clear rx
    have HP : Hid (putR xx (((v : Nat) : Int)).toNat (32 : Int) = rwR bs v (k : Nat)) := by
      have hq := HQ.out
      have hlen := HLEN.out
      rw [HR0.out, Int.toNat_natCast]
      unfold putR
      rw [if_neg (by omega), if_neg (by have : v < 2 ^ 32 := hv; exact Nat.not_le.2 this)]
      by_cases h5 : 330000 < bs.length + riceLen v k
      · rw [if_pos h5, if_pos (by omega)]; exact Lib.hid rfl
      · rw [if_neg h5, if_neg (by omega), HXx.out]
        refine Lib.hid ?_
        unfold rice
        rw [← hq, if_neg (by omega), List.append_assoc]; rfl
    go_wp2_with fail
    refine (bput_ret Ax mx cx xx ((v : Nat) : Int) (32 : Int) _ (by exact (rx_3.far' (Or.inl (by omega)) _).far' (Or.inl (by omega)) _ |>.row) hcx (by omega) (by omega) (by omega)).mono ?_
    rintro e w4 ⟨Ay, my, cy, xy, rfl, hcy, ry, HXy, b4⟩
    replace ry := ry.mono (lo' := w3.heap.size) (by go_size) (Nat.le_refl _)
    have s4 := b4.size
    try simp only [World.size_alloc, World.size_setCell, World.size_drew, size_drewN] at s4
    obtain ⟨zb_4, zr_4, ry_4, bb_4⟩ : Blk w4 (w.heap.size) 26 [.slice Ax mx cx, .int .i64 ((xx.length : Nat) : Int)] ∧ Blk w4 (w.heap.size + 1) 26 [.slice none 0 0, .int .i64 0] ∧ RowIn .u8 w4 (w3.heap.size) (w4.heap.size) Ay my (pack xy) ∧ Below w.heap.size w w4 := by
      refine ⟨?_, ?_, ?_, ?_⟩
      all_goals repeat' (first | (with_reducible assumption) | (with_reducible exact Below.refl _ _) | (with_reducible refine Blk.after ?_ b4) | (with_reducible refine RowIn.belowS ?_ b4) | (with_reducible refine Below.after ?_ b4 ?_) | (with_reducible refine Blk.drewN ?_ _) | (with_reducible refine RowIn.drewN ?_ _) | (with_reducible refine below_drewN ?_ _) | (with_reducible refine Blk.drew ?_) | (with_reducible refine RowIn.drew ?_) | (with_reducible refine Below.drew ?_) | (with_reducible refine Blk.new' ?_ ?_ <;> first | (with_reducible rfl) | (simp; done)) | (with_reducible refine Blk.alloc ?_ _) | (with_reducible refine RowIn.alloc ?_ _) | (with_reducible refine Below.alloc ?_ ?_ _) | (with_reducible apply Blk.set') | (with_reducible apply Blk.far') | (with_reducible refine RowIn.far' ?_ ?_ _) | (with_reducible refine Below.far' ?_ ?_ _) | rfl | omega | go_size)
    clear zb_3 zr_3 rb_3 rx_3 bb_3 kb_3 fb_3 lb_3 kr_3 fr_3 lr_3 b4
    have kb_4 := zb_4.cell; have fb_4 := zb_4.frozen; have lb_4 := zb_4.lt
    have kr_4 := zr_4.cell; have fr_4 := zr_4.frozen; have lr_4 := zr_4.lt
    rw [HP.out] at HXy
    skip
    have HPP := HP
    go_wp2
    refine bodyPost_ret (v := .tuple #[.agg #[.slice Ay my cy, .int .i64 ((xy.length : Nat) : Int)], .int .i64 (putR xx (((v : Nat) : Int)).toNat (32 : Int)).2]) (by simp [results, Tryd.results63, go_sem, kr_4]) rfl ?_
    rw [HP.out]
    refine RetB.of (x := .agg #[.slice Ay my cy, .int .i64 ((xy.length : Nat) : Int)]) rfl ⟨Ay, my, cy, by rw [HXy.out], hcy, ?_⟩ ?_
    · rw [← HXy.out]
      refine RowIn.mono (lo := w3.heap.size) (hi := w4.heap.size) ?_ (by omega) (by go_size)
      repeat' (first | (with_reducible assumption) | (with_reducible exact Below.refl _ _) | (with_reducible refine Blk.drewN ?_ _) | (with_reducible refine RowIn.drewN ?_ _) | (with_reducible refine below_drewN ?_ _) | (with_reducible refine Blk.drew ?_) | (with_reducible refine RowIn.drew ?_) | (with_reducible refine Below.drew ?_) | (with_reducible refine Blk.new' ?_ ?_ <;> first | (with_reducible rfl) | (simp; done)) | (with_reducible refine Blk.alloc ?_ _) | (with_reducible refine RowIn.alloc ?_ _) | (with_reducible refine Below.alloc ?_ ?_ _) | (with_reducible apply Blk.set') | (with_reducible apply Blk.far') | (with_reducible refine RowIn.far' ?_ ?_ _) | (with_reducible refine Below.far' ?_ ?_ _) | rfl | omega | go_size)
    · repeat' (first | (with_reducible assumption) | (with_reducible exact Below.refl _ _) | (with_reducible refine Blk.drewN ?_ _) | (with_reducible refine RowIn.drewN ?_ _) | (with_reducible refine below_drewN ?_ _) | (with_reducible refine Blk.drew ?_) | (with_reducible refine RowIn.drew ?_) | (with_reducible refine Below.drew ?_) | (with_reducible refine Blk.new' ?_ ?_ <;> first | (with_reducible rfl) | (simp; done)) | (with_reducible refine Blk.alloc ?_ _) | (with_reducible refine RowIn.alloc ?_ _) | (with_reducible refine Below.alloc ?_ ?_ _) | (with_reducible apply Blk.set') | (with_reducible apply Blk.far') | (with_reducible refine RowIn.far' ?_ ?_ _) | (with_reducible refine Below.far' ?_ ?_ _) | rfl | omega | go_size)


end Go.Proofs.YtpohaikbbfochaaDoor

/-
  Contracts of the state of the code with two levels.
-/
namespace Go.Proofs.YtpohaikbbfochaaDoor
open Go.RowKit Cad Cad.Bit Cad.Code
set_option linter.unusedVariables false
set_option linter.unusedSimpArgs false


theorem dstart_ok (w : World) : Calls Tryd.prog 29 #[] w fun e w' => e = .returned (.agg #[.int .i64 10, .int .i64 10, .int .u64 16384, .int .u64 16384]) ∧ Below w.heap.size w w' := by
  go_enter Tryd.func29, Tryd.ntmps29
  go_wp2
  refine bodyPost_ret (v := .agg #[.int .i64 10, .int .i64 10, .int .u64 16384, .int .u64 16384]) (by simp [results, Tryd.results29, go_sem]) rfl ?_
  exact ⟨rfl, (Below.refl _ _).alloc (Nat.le_refl _) _⟩
/-- Numbers that are a state. -/
def DOk (k0 k1 s0 s1 : Int) : Prop := (0 ≤ k0 ∧ k0 ≤ 24) ∧ (0 ≤ k1 ∧ k1 ≤ 24) ∧ s0 ≤ 68719476735 ∧ s1 ≤ 68719476735
instance (k0 k1 s0 s1 : Int) : Decidable (DOk k0 k1 s0 s1) := by unfold DOk; infer_instance

set_option maxRecDepth 100000 in
set_option maxHeartbeats 400000 in
theorem dcheck_any (k0 k1 s0 s1 : Int) (w : World) (h2 : 0 ≤ s0) (h3 : 0 ≤ s1) :
    Calls Tryd.prog 66 #[.agg #[.int .i64 k0, .int .i64 k1, .int .u64 s0, .int .u64 s1]] w fun e w' => e = .returned (.int .i64 (if DOk k0 k1 s0 s1 then 0 else 8)) ∧ Below w.heap.size w w' := by
  obtain ⟨er, HER⟩ : ∃ er : Int, Hid ((if DOk k0 k1 s0 s1 then 0 else 8) = er) := ⟨_, Lib.hid rfl⟩
  rw [HER.out]
  have i0 : ∀ k : Int, (if 24 < (if k < 0 then 0 else k) then 24 else (if k < 0 then 0 else k)) = k ↔ 0 ≤ k ∧ k ≤ 24 := fun k => by split <;> split <;> omega
  have i2 : ∀ s : Int, (if 68719476735 < s then 68719476735 else s) = s ↔ s ≤ 68719476735 := fun k => by split <;> omega
  have I0 := Lib.hid (i0 k0); have I1 := Lib.hid (i0 k1); have I2 := Lib.hid (i2 s0); have I3 := Lib.hid (i2 s1)
  clear i0 i2
  go_enter Tryd.func66, Tryd.ntmps66
  go_wp2_with fail
  obtain ⟨m0, hm0⟩ : ∃ m0, (if k0 < 0 then 0 else k0) = m0 := ⟨_, rfl⟩
  rw [hm0] at I0
  obtain ⟨c0, hc0⟩ : ∃ c0, (if 24 < m0 then 24 else m0) = c0 := ⟨_, rfl⟩
  rw [hc0] at I0
  obtain ⟨m1, hm1⟩ : ∃ m1, (if k1 < 0 then 0 else k1) = m1 := ⟨_, rfl⟩
  rw [hm1] at I1
  obtain ⟨c1, hc1⟩ : ∃ c1, (if 24 < m1 then 24 else m1) = c1 := ⟨_, rfl⟩
  rw [hc1] at I1
  obtain ⟨c2, hc2⟩ : ∃ c2, (if 68719476735 < s0 then 68719476735 else s0) = c2 := ⟨_, rfl⟩
  rw [hc2] at I2
  obtain ⟨c3, hc3⟩ : ∃ c3, (if 68719476735 < s1 then 68719476735 else s1) = c3 := ⟨_, rfl⟩
  rw [hc3] at I3
  go_region
  all_goals go_wp2_with fail
  all_goals go_region
  all_goals go_wp2_with fail
  all_goals
    go_ret
    refine ⟨ret_int ?_, ?_⟩
    · rw [← HER.out]
      first
        | (rw [if_pos ⟨I0.out.1 (by assumption), I1.out.1 (by assumption), I2.out.1 (by assumption), I3.out.1 (by assumption)⟩])
        | (rw [if_neg fun h => absurd (I0.out.2 h.1) (by assumption)])
        | (rw [if_neg fun h => absurd (I1.out.2 h.2.1) (by assumption)])
        | (rw [if_neg fun h => absurd (I2.out.2 h.2.2.1) (by assumption)])
        | (rw [if_neg fun h => absurd (I3.out.2 h.2.2.2) (by assumption)])
    · repeat' (first | (with_reducible assumption) | (with_reducible exact Below.refl _ _) | (with_reducible refine Blk.drewN ?_ _) | (with_reducible refine RowIn.drewN ?_ _) | (with_reducible refine below_drewN ?_ _) | (with_reducible refine Blk.drew ?_) | (with_reducible refine RowIn.drew ?_) | (with_reducible refine Below.drew ?_) | (with_reducible refine Blk.new' ?_ ?_ <;> first | (with_reducible rfl) | (simp; done)) | (with_reducible refine Blk.alloc ?_ _) | (with_reducible refine RowIn.alloc ?_ _) | (with_reducible refine Below.alloc ?_ ?_ _) | (with_reducible apply Blk.set') | (with_reducible apply Blk.far') | (with_reducible refine RowIn.far' ?_ ?_ _) | (with_reducible refine Below.far' ?_ ?_ _) | rfl | omega | go_size)


theorem dlevel_low (k0 k1 s0 s1 v : Nat) (w : World) (hk : k0 ≤ 24) (hv : v < 4294967296) (h : v < 2 ^ k0) :
    Calls Tryd.prog 67 #[.agg #[.int .i64 (k0 : Int), .int .i64 (k1 : Int), .int .u64 (s0 : Int), .int .u64 (s1 : Int)], .int .u32 (v : Int)] w fun e w' => e = .returned (.tuple #[.int .i64 0, .int .u32 (v : Int)]) ∧ Below w.heap.size w w' := by
  have e1 : (v : Int) / 2 ^ k0 = 0 := by rw [pow_cast, ← Int.natCast_ediv, Nat.div_eq_of_lt h]; rfl
  go_enter Tryd.func67, Tryd.ntmps67
  go_wp2
  go_ret2
  exact ⟨rfl, by go_grown⟩
theorem dlevel_high (k0 k1 s0 s1 v : Nat) (w : World) (hk : k0 ≤ 24) (hv : v < 4294967296) (h : ¬ v < 2 ^ k0) :
    Calls Tryd.prog 67 #[.agg #[.int .i64 (k0 : Int), .int .i64 (k1 : Int), .int .u64 (s0 : Int), .int .u64 (s1 : Int)], .int .u32 (v : Int)] w fun e w' => ∃ y : Nat, e = .returned (.tuple #[.int .i64 1, .int .u32 (y : Int)]) ∧ Hid (y = v - 2 ^ k0) ∧ Below w.heap.size w w' := by
  obtain ⟨q, HQ⟩ : ∃ q, Hid (q = v / 2 ^ k0) := ⟨_, Lib.hid rfl⟩
  have e1 : (v : Int) / 2 ^ k0 = (q : Int) := by rw [HQ.out, pow_cast, ← Int.natCast_ediv]
  have hq : 0 < q := by rw [HQ.out]; exact Nat.div_pos (by omega) (Nat.two_pow_pos k0)
  have t1 : ((q : Int) == 0) = false := beq_eq_false_iff_ne.2 (by omega)
  obtain ⟨p, hp⟩ : ∃ p, p = 2 ^ k0 := ⟨_, rfl⟩
  have hp2 : p ≤ 16777216 := by rw [hp]; exact Nat.le_trans (Nat.pow_le_pow_right (by omega) hk) (by decide)
  have e2 : (2 : Int) ^ k0 % 4294967296 = (p : Int) := by rw [hp, pow_cast]; exact Int.emod_eq_of_lt (Int.natCast_nonneg _) (by omega)
  have hpv : p ≤ v := by omega
  have HP := Lib.hid hp
  clear hp h
  go_enter Tryd.func67, Tryd.ntmps67
  obtain ⟨y, hy⟩ : ∃ y, v - p = y := ⟨_, rfl⟩
  have hyi : (v : Int) - (p : Int) = (y : Int) := by omega
  go_wp2_with fail
  go_region
  all_goals
    go_wp2
    go_ret2
    refine ⟨y, rfl, Lib.hid (by rw [← HP.out, hy]), ?_⟩
    repeat' (first | (with_reducible assumption) | (with_reducible exact Below.refl _ _) | (with_reducible refine Blk.drewN ?_ _) | (with_reducible refine RowIn.drewN ?_ _) | (with_reducible refine below_drewN ?_ _) | (with_reducible refine Blk.drew ?_) | (with_reducible refine RowIn.drew ?_) | (with_reducible refine Below.drew ?_) | (with_reducible refine Blk.new' ?_ ?_ <;> first | (with_reducible rfl) | (simp; done)) | (with_reducible refine Blk.alloc ?_ _) | (with_reducible refine RowIn.alloc ?_ _) | (with_reducible refine Below.alloc ?_ ?_ _) | (with_reducible apply Blk.set') | (with_reducible apply Blk.far') | (with_reducible refine RowIn.far' ?_ ?_ _) | (with_reducible refine Below.far' ?_ ?_ _) | rfl | omega | go_size)


end Go.Proofs.YtpohaikbbfochaaDoor
