/-
  Contracts of Cut, Join, Of and Align of bits.
-/
import Derived.Test.YtpohaikbbfochaaDoorBits
namespace Go.Proofs.YtpohaikbbfochaaDoor
open Go.RowKit Cad Cad.Bit
set_option linter.unusedVariables false
set_option linter.unusedSimpArgs false

theorem get_int (A : Option Addr) (m c : Nat) (N : Int) (bs : List Bool) (p n : Int) (w : World) (ha : Row .u8 w A m (pack bs)) (hm : m ≤ 9223372036854775807) (hp0 : 0 ≤ p) (hn0 : 0 ≤ n) (hp : p + n ≤ (bs.length : Int)) (hl : bs.length ≤ 330000) (hn : n ≤ 64) :
    Calls Tryd.prog 43 #[.agg #[.slice A m c, .int .i64 N], .int .i64 p, .int .i64 n] w fun e w' => ∃ y : Nat, e = .returned (.int .u64 (y : Int)) ∧ Hid (y = bval ((bs.drop p.toNat).take n.toNat)) ∧ y < 18446744073709551616 ∧ Below w.heap.size w w' := by
  have h := get_any A m c N bs p.toNat n.toNat w ha hm (by omega) hl (by omega)
  rw [Int.toNat_of_nonneg hp0, Int.toNat_of_nonneg hn0] at h
  refine h.mono fun e w' ⟨he, hb⟩ => ⟨_, he, Lib.hid rfl, ?_, hb⟩
  have h2 := bval_lt ((bs.drop p.toNat).take n.toNat)
  refine Nat.lt_of_lt_of_le h2 (pow_le_u64 ?_)
  have := List.length_take_le n.toNat (bs.drop p.toNat)
  omega
theorem put_int (g base : Nat) (A : Option Addr) (m c : Nat) (N : Int) (bs : List Bool) (v n : Int) (w : World) (hv : 0 ≤ v ∧ v < 18446744073709551616) (hn : 0 ≤ n ∧ n ≤ 64) (hl : bs.length + n.toNat ≤ 330000) (hbase : base ≤ w.heap.size)
    (hN : N = (bs.length : Nat)) (hc2 : Blk w g 26 [.slice A m c, .int .i64 N]) (hown : Own w base 5 .u8 A m c (pack bs)) :
    Calls Tryd.prog 36 #[.pointer (some ⟨g, 0, none⟩), .int .u64 v, .int .i64 n] w fun e w' => e = .returned (.tuple #[]) ∧
      ∃ (B : Option Addr) (m' d : Nat) (bs' : List Bool), Blk w' g 26 [.slice B m' d, .int .i64 (bs'.length : Nat)] ∧ Own w' base 5 .u8 B m' d (pack bs') ∧ Hid (bs' = bs ++ lowBits v.toNat n.toNat) ∧ Frm (fun k => k = g ∨ blockOf A = some k) w w' ∧ (∀ k, blockOf B = some k → k < w.heap.size → blockOf A = some k) := by
  subst hN
  have h := put_any g base A m c bs v.toNat n.toNat w (by omega) (by omega) hl hbase hc2 hown
  rw [Int.toNat_of_nonneg hv.1, Int.toNat_of_nonneg hn.1] at h
  refine h.mono ?_
  rintro e w' ⟨rfl, B, m', d, h1, h2, h3, h4⟩
  refine ⟨rfl, B, m', d, bs ++ lowBits v.toNat n.toNat, ?_, h2, Lib.hid rfl, h3, h4⟩
  have e1 : (bs ++ lowBits v.toNat n.toNat).length = bs.length + n.toNat := by rw [List.length_append, lowBits_len]
  rw [e1]; exact h1

/-- What Cut returns. -/
def cutR (bs : List Bool) (p q : Int) : List Bool × Int := if p < 0 ∨ q < p ∨ (bs.length : Int) < q then ([], 2) else ((bs.drop p.toNat).take (q.toNat - p.toNat), 0)
theorem lowBits_bval' {l : List Bool} {n : Nat} (h : l.length = n) : lowBits (bval l) n = l := by rw [← h]; exact lowBits_bval l
/-- One round of Cut: the next bits behind those that are there. -/
theorem cut_step {bs : List Bool} {i a L t : Nat} (ha : a = i + L) (h : a + t ≤ bs.length) : (bs.drop i).take L ++ lowBits (bval ((bs.drop a).take t)) t = (bs.drop i).take (L + t) := by
  subst ha
  rw [lowBits_bval' (by rw [List.length_take, List.length_drop]; omega), List.take_add, List.drop_drop]


set_option maxHeartbeats 1000000 in
theorem bcut_ret (A : Option Addr) (m c : Nat) (bs : List Bool) (p q : Int) (w : World) (ha : Row .u8 w A m (pack bs)) (hc : m ≤ c ∧ c ≤ 9223372036854775807) (hl : bs.length ≤ 330000) :
    Calls Tryd.prog 60 #[.agg #[.slice A m c, .int .i64 (bs.length : Nat)], .int .i64 p, .int .i64 q] w (RetB w (cutR bs p q).1 (cutR bs p q).2) := by
  have hm : m ≤ 41250 := by have := ha.len; rw [pack_len] at this; unfold bytesFor at this; omega
  have hri := ha.rowIn
  by_cases h1 : p < 0
  · have HR : Hid (cutR bs p q = ([], 2)) := by unfold cutR; rw [if_pos (Or.inl h1)]; rfl
    go_enter Tryd.func60, Tryd.ntmps60
    go_wp2_with fail
    refine (bcheck_ok A m c bs _ (by exact ((ha.alloc _).alloc _)) (by omega) hl).mono ?_
    rintro e w1 ⟨rfl, b1⟩
    have s1 := b1.size
    try simp only [World.size_alloc, World.size_setCell, World.size_drew, size_drewN] at s1
    obtain ⟨zb_1, zr_1, bb_1⟩ : Blk w1 (w.heap.size) 26 [.slice A m c, .int .i64 ((bs.length : Nat) : Int)] ∧ Blk w1 (w.heap.size + 1) 26 [.slice none 0 0, .int .i64 0] ∧ Below w.heap.size w w1 := by
      refine ⟨?_, ?_, ?_⟩
      all_goals repeat' (first | (with_reducible assumption) | (with_reducible exact Below.refl _ _) | (with_reducible refine Blk.after ?_ b1) | (with_reducible refine RowIn.belowS ?_ b1) | (with_reducible refine Below.after ?_ b1 ?_) | (with_reducible refine Blk.drewN ?_ _) | (with_reducible refine RowIn.drewN ?_ _) | (with_reducible refine below_drewN ?_ _) | (with_reducible refine Blk.drew ?_) | (with_reducible refine RowIn.drew ?_) | (with_reducible refine Below.drew ?_) | (with_reducible refine Blk.new' ?_ ?_ <;> first | (with_reducible rfl) | (simp; done)) | (with_reducible refine Blk.alloc ?_ _) | (with_reducible refine RowIn.alloc ?_ _) | (with_reducible refine Below.alloc ?_ ?_ _) | (with_reducible refine Blk.set' ?_ ?_) | (with_reducible refine Blk.far' ?_ ?_ _) | (with_reducible refine RowIn.far' ?_ ?_ _) | (with_reducible refine Below.far' ?_ ?_ _) | rfl | omega | go_size)
    clear b1
    have kb_1 := zb_1.cell; have fb_1 := zb_1.frozen
    have kr_1 := zr_1.cell; have fr_1 := zr_1.frozen
    go_wp2
    refine bodyPost_ret (v := .tuple #[.agg #[.slice none 0 0, .int .i64 0], .int .i64 2]) (by simp [results, Tryd.results60, go_sem, kr_1]) rfl ?_
    rw [HR.out]
    refine RetB.of rfl (BitsIn.zero _ _ _) ?_
    · repeat' (first | (with_reducible assumption) | (with_reducible exact Below.refl _ _) | (with_reducible refine Blk.drewN ?_ _) | (with_reducible refine RowIn.drewN ?_ _) | (with_reducible refine below_drewN ?_ _) | (with_reducible refine Blk.drew ?_) | (with_reducible refine RowIn.drew ?_) | (with_reducible refine Below.drew ?_) | (with_reducible refine Blk.new' ?_ ?_ <;> first | (with_reducible rfl) | (simp; done)) | (with_reducible refine Blk.alloc ?_ _) | (with_reducible refine RowIn.alloc ?_ _) | (with_reducible refine Below.alloc ?_ ?_ _) | (with_reducible refine Blk.set' ?_ ?_) | (with_reducible refine Blk.far' ?_ ?_ _) | (with_reducible refine RowIn.far' ?_ ?_ _) | (with_reducible refine Below.far' ?_ ?_ _) | rfl | omega | go_size)
  by_cases h2 : q < p
  · have HR : Hid (cutR bs p q = ([], 2)) := by unfold cutR; rw [if_pos (Or.inr (Or.inl h2))]; rfl
    go_enter Tryd.func60, Tryd.ntmps60
    go_wp2_with fail
    refine (bcheck_ok A m c bs _ (by exact ((ha.alloc _).alloc _)) (by omega) hl).mono ?_
    rintro e w1 ⟨rfl, b1⟩
    have s1 := b1.size
    try simp only [World.size_alloc, World.size_setCell, World.size_drew, size_drewN] at s1
    obtain ⟨zb_1, zr_1, bb_1⟩ : Blk w1 (w.heap.size) 26 [.slice A m c, .int .i64 ((bs.length : Nat) : Int)] ∧ Blk w1 (w.heap.size + 1) 26 [.slice none 0 0, .int .i64 0] ∧ Below w.heap.size w w1 := by
      refine ⟨?_, ?_, ?_⟩
      all_goals repeat' (first | (with_reducible assumption) | (with_reducible exact Below.refl _ _) | (with_reducible refine Blk.after ?_ b1) | (with_reducible refine RowIn.belowS ?_ b1) | (with_reducible refine Below.after ?_ b1 ?_) | (with_reducible refine Blk.drewN ?_ _) | (with_reducible refine RowIn.drewN ?_ _) | (with_reducible refine below_drewN ?_ _) | (with_reducible refine Blk.drew ?_) | (with_reducible refine RowIn.drew ?_) | (with_reducible refine Below.drew ?_) | (with_reducible refine Blk.new' ?_ ?_ <;> first | (with_reducible rfl) | (simp; done)) | (with_reducible refine Blk.alloc ?_ _) | (with_reducible refine RowIn.alloc ?_ _) | (with_reducible refine Below.alloc ?_ ?_ _) | (with_reducible refine Blk.set' ?_ ?_) | (with_reducible refine Blk.far' ?_ ?_ _) | (with_reducible refine RowIn.far' ?_ ?_ _) | (with_reducible refine Below.far' ?_ ?_ _) | rfl | omega | go_size)
    clear b1
    have kb_1 := zb_1.cell; have fb_1 := zb_1.frozen
    have kr_1 := zr_1.cell; have fr_1 := zr_1.frozen
    go_wp2
    refine bodyPost_ret (v := .tuple #[.agg #[.slice none 0 0, .int .i64 0], .int .i64 2]) (by simp [results, Tryd.results60, go_sem, kr_1]) rfl ?_
    rw [HR.out]
    refine RetB.of rfl (BitsIn.zero _ _ _) ?_
    · repeat' (first | (with_reducible assumption) | (with_reducible exact Below.refl _ _) | (with_reducible refine Blk.drewN ?_ _) | (with_reducible refine RowIn.drewN ?_ _) | (with_reducible refine below_drewN ?_ _) | (with_reducible refine Blk.drew ?_) | (with_reducible refine RowIn.drew ?_) | (with_reducible refine Below.drew ?_) | (with_reducible refine Blk.new' ?_ ?_ <;> first | (with_reducible rfl) | (simp; done)) | (with_reducible refine Blk.alloc ?_ _) | (with_reducible refine RowIn.alloc ?_ _) | (with_reducible refine Below.alloc ?_ ?_ _) | (with_reducible refine Blk.set' ?_ ?_) | (with_reducible refine Blk.far' ?_ ?_ _) | (with_reducible refine RowIn.far' ?_ ?_ _) | (with_reducible refine Below.far' ?_ ?_ _) | rfl | omega | go_size)
  by_cases h3 : (bs.length : Int) < q
  · have HR : Hid (cutR bs p q = ([], 2)) := by unfold cutR; rw [if_pos (Or.inr (Or.inr h3))]; rfl
    go_enter Tryd.func60, Tryd.ntmps60
    go_wp2_with fail
    refine (bcheck_ok A m c bs _ (by exact ((ha.alloc _).alloc _)) (by omega) hl).mono ?_
    rintro e w1 ⟨rfl, b1⟩
    have s1 := b1.size
    try simp only [World.size_alloc, World.size_setCell, World.size_drew, size_drewN] at s1
    obtain ⟨zb_1, zr_1, bb_1⟩ : Blk w1 (w.heap.size) 26 [.slice A m c, .int .i64 ((bs.length : Nat) : Int)] ∧ Blk w1 (w.heap.size + 1) 26 [.slice none 0 0, .int .i64 0] ∧ Below w.heap.size w w1 := by
      refine ⟨?_, ?_, ?_⟩
      all_goals repeat' (first | (with_reducible assumption) | (with_reducible exact Below.refl _ _) | (with_reducible refine Blk.after ?_ b1) | (with_reducible refine RowIn.belowS ?_ b1) | (with_reducible refine Below.after ?_ b1 ?_) | (with_reducible refine Blk.drewN ?_ _) | (with_reducible refine RowIn.drewN ?_ _) | (with_reducible refine below_drewN ?_ _) | (with_reducible refine Blk.drew ?_) | (with_reducible refine RowIn.drew ?_) | (with_reducible refine Below.drew ?_) | (with_reducible refine Blk.new' ?_ ?_ <;> first | (with_reducible rfl) | (simp; done)) | (with_reducible refine Blk.alloc ?_ _) | (with_reducible refine RowIn.alloc ?_ _) | (with_reducible refine Below.alloc ?_ ?_ _) | (with_reducible refine Blk.set' ?_ ?_) | (with_reducible refine Blk.far' ?_ ?_ _) | (with_reducible refine RowIn.far' ?_ ?_ _) | (with_reducible refine Below.far' ?_ ?_ _) | rfl | omega | go_size)
    clear b1
    have kb_1 := zb_1.cell; have fb_1 := zb_1.frozen
    have kr_1 := zr_1.cell; have fr_1 := zr_1.frozen
    go_wp2
    refine bodyPost_ret (v := .tuple #[.agg #[.slice none 0 0, .int .i64 0], .int .i64 2]) (by simp [results, Tryd.results60, go_sem, kr_1]) rfl ?_
    rw [HR.out]
    refine RetB.of rfl (BitsIn.zero _ _ _) ?_
    · repeat' (first | (with_reducible assumption) | (with_reducible exact Below.refl _ _) | (with_reducible refine Blk.drewN ?_ _) | (with_reducible refine RowIn.drewN ?_ _) | (with_reducible refine below_drewN ?_ _) | (with_reducible refine Blk.drew ?_) | (with_reducible refine RowIn.drew ?_) | (with_reducible refine Below.drew ?_) | (with_reducible refine Blk.new' ?_ ?_ <;> first | (with_reducible rfl) | (simp; done)) | (with_reducible refine Blk.alloc ?_ _) | (with_reducible refine RowIn.alloc ?_ _) | (with_reducible refine Below.alloc ?_ ?_ _) | (with_reducible refine Blk.set' ?_ ?_) | (with_reducible refine Blk.far' ?_ ?_ _) | (with_reducible refine RowIn.far' ?_ ?_ _) | (with_reducible refine Below.far' ?_ ?_ _) | rfl | omega | go_size)
  obtain ⟨i, rfl⟩ := Int.eq_ofNat_of_zero_le (by omega : 0 ≤ p)
  obtain ⟨j, rfl⟩ := Int.eq_ofNat_of_zero_le (by omega : 0 ≤ q)
  have HR : Hid (cutR bs (i : Nat) (j : Nat) = ((bs.drop i).take (j - i), 0)) := by unfold cutR; rw [if_neg (by omega)]; rfl
  have hij : i ≤ j := by omega
  have hjl : j ≤ bs.length := by omega
  clear h1 h2 h3
  have t1 : decide ((i : Int) < 0) = false := decide_eq_false (by omega)
  have t2 : decide (j < i) = false := decide_eq_false (by omega)
  have t3 : decide (bs.length < j) = false := decide_eq_false (by omega)
  go_enter Tryd.func60, Tryd.ntmps60
  go_wp2_with fail
  refine (bcheck_ok A m c bs _ (by exact ((ha.alloc _).alloc _)) (by omega) hl).mono ?_
  rintro e w1 ⟨rfl, b1⟩
  have s1 := b1.size
  try simp only [World.size_alloc, World.size_setCell, World.size_drew, size_drewN] at s1
  obtain ⟨zb_1, zr_1, bb_1⟩ : Blk w1 (w.heap.size) 26 [.slice A m c, .int .i64 ((bs.length : Nat) : Int)] ∧ Blk w1 (w.heap.size + 1) 26 [.slice none 0 0, .int .i64 0] ∧ Below w.heap.size w w1 := by
    refine ⟨?_, ?_, ?_⟩
    all_goals repeat' (first | (with_reducible assumption) | (with_reducible exact Below.refl _ _) | (with_reducible refine Blk.after ?_ b1) | (with_reducible refine RowIn.belowS ?_ b1) | (with_reducible refine Below.after ?_ b1 ?_) | (with_reducible refine Blk.drewN ?_ _) | (with_reducible refine RowIn.drewN ?_ _) | (with_reducible refine below_drewN ?_ _) | (with_reducible refine Blk.drew ?_) | (with_reducible refine RowIn.drew ?_) | (with_reducible refine Below.drew ?_) | (with_reducible refine Blk.new' ?_ ?_ <;> first | (with_reducible rfl) | (simp; done)) | (with_reducible refine Blk.alloc ?_ _) | (with_reducible refine RowIn.alloc ?_ _) | (with_reducible refine Below.alloc ?_ ?_ _) | (with_reducible refine Blk.set' ?_ ?_) | (with_reducible refine Blk.far' ?_ ?_ _) | (with_reducible refine RowIn.far' ?_ ?_ _) | (with_reducible refine Below.far' ?_ ?_ _) | rfl | omega | go_size)
  clear b1
  have kb_1 := zb_1.cell; have fb_1 := zb_1.frozen
  have kr_1 := zr_1.cell; have fr_1 := zr_1.frozen
  go_wp2_with fail
  obtain ⟨R, hR⟩ : ∃ R, (j - i + 63) / 64 = R := ⟨_, rfl⟩
  have HRR := Lib.hid hR; clear hR
  go_loopg [9] R (fun k v wr => ∃ (r a L : Nat) (B : Option Addr) (m' d : Nat), r + k = R ∧ v = .int .i64 (a : Nat) ∧ Hid (a = i + 64 * r) ∧ Hid (L = min (64 * r) (j - i)) ∧ Blk wr w1.heap.size 26 [.slice B m' d, .int .i64 (L : Nat)] ∧ Own wr (w1.heap.size + 1) 5 .u8 B m' d (pack ((bs.drop i).take L)) ∧ Below w1.heap.size w1 wr)
  case atStart =>
    refine ⟨0, i, 0, none, 0, 0, by omega, rfl, Lib.hid (by omega), Lib.hid (by omega), ?_, by rw [List.take_zero]; exact Own.nil _ _ _ _, ?_⟩
    all_goals repeat' (first | (with_reducible assumption) | (with_reducible exact Below.refl _ _) | (with_reducible refine Blk.drewN ?_ _) | (with_reducible refine RowIn.drewN ?_ _) | (with_reducible refine below_drewN ?_ _) | (with_reducible refine Blk.drew ?_) | (with_reducible refine RowIn.drew ?_) | (with_reducible refine Below.drew ?_) | (with_reducible refine Blk.new' ?_ ?_ <;> first | (with_reducible rfl) | (simp; done)) | (with_reducible refine Blk.alloc ?_ _) | (with_reducible refine RowIn.alloc ?_ _) | (with_reducible refine Below.alloc ?_ ?_ _) | (with_reducible refine Blk.set' ?_ ?_) | (with_reducible refine Blk.far' ?_ ?_ _) | (with_reducible refine RowIn.far' ?_ ?_ _) | (with_reducible refine Below.far' ?_ ?_ _) | rfl | omega | go_size)
  case round =>
    obtain ⟨r, a, L, B, m', d, hk, rfl, HA, HLL, zo, own, br⟩ := hrel
    have sr := br.size
    have hsz := zo.lt
    have hb : Blk wr w.heap.size 26 [.slice A m c, .int .i64 ((bs.length : Nat) : Int)] := zb_1.after br
    have hres : Blk wr (w.heap.size + 1) 26 [.slice none 0 0, .int .i64 0] := zr_1.after br
    have hrow : RowIn .u8 wr 0 w.heap.size A m (pack bs) := hri.below (Below.after bb_1 br bb_1.size) (Nat.le_refl _)
    have bbr : Below w.heap.size w wr := Below.after bb_1 br bb_1.size
    clear zb_1 zr_1 kb_1 fb_1 kr_1 fr_1 bb_1
    have kb := hb.cell; have fb := hb.frozen; have kr := hres.cell; have fr := hres.frozen; have ko := zo.cell; have fo := zo.frozen
    have hlt1 := hres.lt
    by_cases hlt : a < j
    · have hL : L + i = a := by have := HA.out; have := HLL.out; omega
      have HL := Lib.hid hL
      have hLle : L ≤ j - i := by omega
      have hrR : r < R := by have := HA.out; have := HRR.out; omega
      clear hL
      by_cases h64 : 64 ≤ j - a
      · have h64' : (64 : Int) ≤ (j : Int) - (a : Int) := by omega
        go_wp2_with fail
        refine (get_int A m c _ bs _ _ _ (by exact hrow.row) (by omega) (by omega) (by omega) (by omega) hl (by omega)).mono ?_
        rintro e w2 ⟨y, rfl, HY, hy, b2⟩
        have zo2 := zo.after b2
        have own2 := own.below b2 (Nat.le_refl _)
        have s2 := b2.size
        have kb2 := (hb.after b2).cell
        go_wp2_with fail
        refine (put_int _ (w1.heap.size + 1) B m' d (L : Nat) ((bs.drop i).take L) _ _ w2 (by omega) (by omega) (by rw [List.length_take, List.length_drop]; have := HL.out; omega) (by omega) (by rw [List.length_take, List.length_drop, Nat.min_eq_left (by have := HL.out; omega)]) zo2 own2).mono ?_
        rintro e w3 ⟨rfl, B3, m3, d3, bs3, zo3, own3, HB, fr3, hB3⟩
        have fin : Hid (bs3 = (bs.drop i).take (L + 64)) := by
          rw [HB.out, HY.out]
          exact cut_step (by have := HL.out; omega) (by omega)
        have fin2 : bs3.length = L + 64 := by rw [fin.out, List.length_take, List.length_drop]; have := HL.out; omega
        rw [fin2] at zo3
        have hown := own2.block
        have br3 : Below w1.heap.size w1 w3 := (Below.after br b2 br.size).trans (fr3.below (by omega) (fun k hk => by
          rintro (h | h)
          · omega
          · have := hown k h; omega))
        have HB3 := fin
        clear fin2 fin HB HY ko fo kb fb kr fr kb2 zo zo2 own own2
        go_wp2
        go_roundg (R - (r + 1))
        case measure => omega
        case rel => exact ⟨r + 1, a + 64, L + 64, B3, m3, d3, by omega, by go_num, Lib.hid (by have := HA.out; omega), Lib.hid (by have := HLL.out; have := HA.out; have := HL.out; omega), zo3, by rw [← HB3.out]; exact own3, br3⟩
      · obtain ⟨t, ht⟩ : ∃ t, j - a = t := ⟨_, rfl⟩
        have h64' : (j : Int) - (a : Int) = (t : Int) := by omega
        have h65 : ¬ (64 : Int) ≤ (t : Int) := by omega
        have ht1 : a + t ≤ j := by omega
        have ht2 : j ≤ a + t := by omega
        clear ht
        go_wp2_with fail
        refine (get_int A m c _ bs _ _ _ (by exact hrow.row) (by omega) (by omega) (by omega) (by omega) hl (by omega)).mono ?_
        rintro e w2 ⟨y, rfl, HY, hy, b2⟩
        have zo2 := zo.after b2
        have own2 := own.below b2 (Nat.le_refl _)
        have s2 := b2.size
        have kb2 := (hb.after b2).cell
        go_wp2_with fail
        refine (put_int _ (w1.heap.size + 1) B m' d (L : Nat) ((bs.drop i).take L) _ _ w2 (by omega) (by omega) (by rw [List.length_take, List.length_drop]; have := HL.out; omega) (by omega) (by rw [List.length_take, List.length_drop, Nat.min_eq_left (by have := HL.out; omega)]) zo2 own2).mono ?_
        rintro e w3 ⟨rfl, B3, m3, d3, bs3, zo3, own3, HB, fr3, hB3⟩
        have fin : Hid (bs3 = (bs.drop i).take (L + t)) := by
          rw [HB.out, HY.out]
          exact cut_step (by have := HL.out; omega) (by omega)
        have fin2 : bs3.length = L + t := by rw [fin.out, List.length_take, List.length_drop]; have := HL.out; omega
        rw [fin2] at zo3
        have hown := own2.block
        have br3 : Below w1.heap.size w1 w3 := (Below.after br b2 br.size).trans (fr3.below (by omega) (fun k hk => by
          rintro (h | h)
          · omega
          · have := hown k h; omega))
        have HB3 := fin
        clear fin2 fin HB HY ko fo kb fb kr fr kb2 zo zo2 own own2
        go_wp2
        go_roundg (R - (r + 1))
        case measure => omega
        case rel => exact ⟨r + 1, a + 64, L + t, B3, m3, d3, by omega, by go_num, Lib.hid (by have := HA.out; omega), Lib.hid (by have := HLL.out; have := HA.out; have := HL.out; omega), zo3, by rw [← HB3.out]; exact own3, br3⟩
    · have hLe : L = j - i := by have := HA.out; have := HLL.out; have := HRR.out; omega
      subst hLe
      go_wp2
      refine bodyPost_ret (v := .tuple #[.agg #[.slice B m' d, .int .i64 ((j - i : Nat) : Int)], .int .i64 0]) (by simp [results, Tryd.results60, go_sem, kr]) rfl ?_
      rw [HR.out]
      have hlen : ((bs.drop i).take (j - i)).length = j - i := by rw [List.length_take, List.length_drop]; omega
      refine RetB.of (x := .agg #[.slice B m' d, .int .i64 ((j - i : Nat) : Int)]) rfl ⟨B, m', d, by rw [hlen], own.rowC.2, ?_⟩ ?_
      · refine RowIn.mono (lo := w1.heap.size + 1) (hi := wr.heap.size) ?_ (by omega) (by go_size)
        have := own.rowIn
        repeat' (first | (with_reducible assumption) | (with_reducible exact Below.refl _ _) | (with_reducible refine Blk.drewN ?_ _) | (with_reducible refine RowIn.drewN ?_ _) | (with_reducible refine below_drewN ?_ _) | (with_reducible refine Blk.drew ?_) | (with_reducible refine RowIn.drew ?_) | (with_reducible refine Below.drew ?_) | (with_reducible refine Blk.new' ?_ ?_ <;> first | (with_reducible rfl) | (simp; done)) | (with_reducible refine Blk.alloc ?_ _) | (with_reducible refine RowIn.alloc ?_ _) | (with_reducible refine Below.alloc ?_ ?_ _) | (with_reducible refine Blk.set' ?_ ?_) | (with_reducible refine Blk.far' ?_ ?_ _) | (with_reducible refine RowIn.far' ?_ ?_ _) | (with_reducible refine Below.far' ?_ ?_ _) | rfl | omega | go_size)
      · repeat' (first | (with_reducible assumption) | (with_reducible exact Below.refl _ _) | (with_reducible refine Blk.drewN ?_ _) | (with_reducible refine RowIn.drewN ?_ _) | (with_reducible refine below_drewN ?_ _) | (with_reducible refine Blk.drew ?_) | (with_reducible refine RowIn.drew ?_) | (with_reducible refine Below.drew ?_) | (with_reducible refine Blk.new' ?_ ?_ <;> first | (with_reducible rfl) | (simp; done)) | (with_reducible refine Blk.alloc ?_ _) | (with_reducible refine RowIn.alloc ?_ _) | (with_reducible refine Below.alloc ?_ ?_ _) | (with_reducible refine Blk.set' ?_ ?_) | (with_reducible refine Blk.far' ?_ ?_ _) | (with_reducible refine RowIn.far' ?_ ?_ _) | (with_reducible refine Below.far' ?_ ?_ _) | rfl | omega | go_size)

end Go.Proofs.YtpohaikbbfochaaDoor

