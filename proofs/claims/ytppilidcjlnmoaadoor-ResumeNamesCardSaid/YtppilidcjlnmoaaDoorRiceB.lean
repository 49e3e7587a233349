/-
  Contract of Read of Rice codes.
-/
import Derived.Test.YtppilidcjlnmoaaDoorRiceA
import Derived.Test.YtppilidcjlnmoaaDoorUnaB
namespace Go.Proofs.YtppilidcjlnmoaaDoor
open Go.RowKit Cad Cad.Bit Cad.Code
set_option linter.unusedVariables false
set_option linter.unusedSimpArgs false

/-- What Read returns: the number, the index behind it, the error. -/
def rrR (bs : List Bool) (p k : Int) : Int × Int × Int :=
  if k < 0 ∨ 24 < k then (0, 0, 2) else if p < 0 then (0, 0, 2) else match readR (bs.drop p.toNat) k.toNat with
    | .ok v n => ((v : Nat), p + (n : Nat), 0)
    | .err e => (0, 0, (e : Nat))
theorem rice_or {q k y : Nat} (hq : q < 48) (hk : k ≤ 24) (hy : y < 2 ^ k) : bits .or .u32 (((q : Int) * 2 ^ k) % 4294967296) (y : Int) = ((q * 2 ^ k + y : Nat) : Int) := by
  have h24 : 2 ^ k ≤ 16777216 := Nat.le_trans (Nat.pow_le_pow_right (by omega) hk) (by decide)
  have h1 : q * 2 ^ k ≤ 47 * 16777216 := Nat.mul_le_mul (by omega) h24
  have e1 : ((q : Int) * 2 ^ k) % 4294967296 = ((q * 2 ^ k : Nat) : Int) := by
    rw [pow_cast, ← Int.natCast_mul]; exact Int.emod_eq_of_lt (Int.natCast_nonneg _) (by omega)
  rw [e1, u32_or_nat _ _ (by omega) (by omega), nat_join k _ _ (Nat.mul_mod_left _ _) hy]
theorem bval_take_lt (l : List Bool) (n : Nat) : bval (l.take n) < 2 ^ n :=
  Nat.lt_of_lt_of_le (bval_lt _) (Nat.pow_le_pow_right (by omega) (List.length_take_le n l))

set_option maxRecDepth 100000 in
set_option maxHeartbeats 4000000 in
theorem rread_ret (A : Option Addr) (m c : Nat) (bs : List Bool) (p k : Int) (w : World) (ha : Row .u8 w A m (pack bs)) (hc : m ≤ c ∧ c ≤ 9223372036854775807) (hl : bs.length ≤ 330000) (hp : -9223372036854775808 ≤ p ∧ p ≤ 9223372036854775807) (hk0 : -9223372036854775808 ≤ k ∧ k ≤ 9223372036854775807) (ht : Tab w) :
    Calls Tryd.prog 62 #[.agg #[.slice A m c, .int .i64 ((bs.length : Nat) : Int)], .int .i64 p, .int .i64 k] w fun e w' => e = .returned (.tuple #[.int .u32 (rrR bs p k).1, .int .i64 (rrR bs p k).2.1, .int .i64 (rrR bs p k).2.2]) ∧ Below w.heap.size w w' := by
  have hri := ha.rowIn
  have hti : RowIn .u8 w 0 w.heap.size (some ⟨0, 0, none⟩) 64 dbTab := ht.rowIn
  by_cases h1 : k < 0
  · have HR : Hid (rrR bs p k = (0, 0, 2)) := by unfold rrR; rw [if_pos (Or.inl h1)]; rfl
    go_enter Tryd.func62, Tryd.ntmps62
    go_wp2_with fail
    refine (bcheck_ok A m c bs _ (by exact RowIn.row (lo := 0) (hi := w.heap.size) (by repeat' (first | (with_reducible assumption) | (with_reducible exact Below.refl _ _) | (with_reducible refine Blk.drewN ?_ _) | (with_reducible refine RowIn.drewN ?_ _) | (with_reducible refine below_drewN ?_ _) | (with_reducible refine Blk.drew ?_) | (with_reducible refine RowIn.drew ?_) | (with_reducible refine Below.drew ?_) | (with_reducible refine Blk.new' ?_ ?_ <;> first | (with_reducible rfl) | (simp; done)) | (with_reducible refine Blk.alloc ?_ _) | (with_reducible refine RowIn.alloc ?_ _) | (with_reducible refine Below.alloc ?_ ?_ _) | (with_reducible apply Blk.set') | (with_reducible apply Blk.far') | (with_reducible refine RowIn.far' ?_ ?_ _) | (with_reducible refine Below.far' ?_ ?_ _) | rfl | omega | go_size))) (by omega) hl).mono ?_
    rintro e w1 ⟨rfl, b1⟩
    have s1 := b1.size
    try simp only [World.size_alloc, World.size_setCell, World.size_drew, size_drewN] at s1
    obtain ⟨zb_1, rb_1, rt_1, bb_1⟩ : Blk w1 (w.heap.size) 24 [.slice A m c, .int .i64 ((bs.length : Nat) : Int)] ∧ RowIn .u8 w1 (0) (w.heap.size) A m (pack bs) ∧ RowIn .u8 w1 (0) (w.heap.size) (some ⟨0, 0, none⟩) 64 dbTab ∧ Below w.heap.size w w1 := by
      refine ⟨?_, ?_, ?_, ?_⟩
      all_goals repeat' (first | (with_reducible assumption) | (with_reducible exact Below.refl _ _) | (with_reducible refine Blk.after ?_ b1) | (with_reducible refine RowIn.belowS ?_ b1) | (with_reducible refine Below.after ?_ b1 ?_) | (with_reducible refine Blk.drewN ?_ _) | (with_reducible refine RowIn.drewN ?_ _) | (with_reducible refine below_drewN ?_ _) | (with_reducible refine Blk.drew ?_) | (with_reducible refine RowIn.drew ?_) | (with_reducible refine Below.drew ?_) | (with_reducible refine Blk.new' ?_ ?_ <;> first | (with_reducible rfl) | (simp; done)) | (with_reducible refine Blk.alloc ?_ _) | (with_reducible refine RowIn.alloc ?_ _) | (with_reducible refine Below.alloc ?_ ?_ _) | (with_reducible apply Blk.set') | (with_reducible apply Blk.far') | (with_reducible refine RowIn.far' ?_ ?_ _) | (with_reducible refine Below.far' ?_ ?_ _) | rfl | omega | go_size)
    clear b1
    have kb_1 := zb_1.cell; have fb_1 := zb_1.frozen; have lb_1 := zb_1.lt
    go_wp2
    go_ret3
    refine ⟨by rw [HR.out]; first | rfl | go_num, ?_⟩
    repeat' (first | (with_reducible assumption) | (with_reducible exact Below.refl _ _) | (with_reducible refine Blk.drewN ?_ _) | (with_reducible refine RowIn.drewN ?_ _) | (with_reducible refine below_drewN ?_ _) | (with_reducible refine Blk.drew ?_) | (with_reducible refine RowIn.drew ?_) | (with_reducible refine Below.drew ?_) | (with_reducible refine Blk.new' ?_ ?_ <;> first | (with_reducible rfl) | (simp; done)) | (with_reducible refine Blk.alloc ?_ _) | (with_reducible refine RowIn.alloc ?_ _) | (with_reducible refine Below.alloc ?_ ?_ _) | (with_reducible apply Blk.set') | (with_reducible apply Blk.far') | (with_reducible refine RowIn.far' ?_ ?_ _) | (with_reducible refine Below.far' ?_ ?_ _) | rfl | omega | go_size)
  by_cases h2 : 24 < k
  · have HR : Hid (rrR bs p k = (0, 0, 2)) := by unfold rrR; rw [if_pos (Or.inr h2)]; rfl
    go_enter Tryd.func62, Tryd.ntmps62
    go_wp2_with fail
    refine (bcheck_ok A m c bs _ (by exact RowIn.row (lo := 0) (hi := w.heap.size) (by repeat' (first | (with_reducible assumption) | (with_reducible exact Below.refl _ _) | (with_reducible refine Blk.drewN ?_ _) | (with_reducible refine RowIn.drewN ?_ _) | (with_reducible refine below_drewN ?_ _) | (with_reducible refine Blk.drew ?_) | (with_reducible refine RowIn.drew ?_) | (with_reducible refine Below.drew ?_) | (with_reducible refine Blk.new' ?_ ?_ <;> first | (with_reducible rfl) | (simp; done)) | (with_reducible refine Blk.alloc ?_ _) | (with_reducible refine RowIn.alloc ?_ _) | (with_reducible refine Below.alloc ?_ ?_ _) | (with_reducible apply Blk.set') | (with_reducible apply Blk.far') | (with_reducible refine RowIn.far' ?_ ?_ _) | (with_reducible refine Below.far' ?_ ?_ _) | rfl | omega | go_size))) (by omega) hl).mono ?_
    rintro e w1 ⟨rfl, b1⟩
    have s1 := b1.size
    try simp only [World.size_alloc, World.size_setCell, World.size_drew, size_drewN] at s1
    obtain ⟨zb_1, rb_1, rt_1, bb_1⟩ : Blk w1 (w.heap.size) 24 [.slice A m c, .int .i64 ((bs.length : Nat) : Int)] ∧ RowIn .u8 w1 (0) (w.heap.size) A m (pack bs) ∧ RowIn .u8 w1 (0) (w.heap.size) (some ⟨0, 0, none⟩) 64 dbTab ∧ Below w.heap.size w w1 := by
      refine ⟨?_, ?_, ?_, ?_⟩
      all_goals repeat' (first | (with_reducible assumption) | (with_reducible exact Below.refl _ _) | (with_reducible refine Blk.after ?_ b1) | (with_reducible refine RowIn.belowS ?_ b1) | (with_reducible refine Below.after ?_ b1 ?_) | (with_reducible refine Blk.drewN ?_ _) | (with_reducible refine RowIn.drewN ?_ _) | (with_reducible refine below_drewN ?_ _) | (with_reducible refine Blk.drew ?_) | (with_reducible refine RowIn.drew ?_) | (with_reducible refine Below.drew ?_) | (with_reducible refine Blk.new' ?_ ?_ <;> first | (with_reducible rfl) | (simp; done)) | (with_reducible refine Blk.alloc ?_ _) | (with_reducible refine RowIn.alloc ?_ _) | (with_reducible refine Below.alloc ?_ ?_ _) | (with_reducible apply Blk.set') | (with_reducible apply Blk.far') | (with_reducible refine RowIn.far' ?_ ?_ _) | (with_reducible refine Below.far' ?_ ?_ _) | rfl | omega | go_size)
    clear b1
    have kb_1 := zb_1.cell; have fb_1 := zb_1.frozen; have lb_1 := zb_1.lt
    go_wp2
    go_ret3
    refine ⟨by rw [HR.out]; first | rfl | go_num, ?_⟩
    repeat' (first | (with_reducible assumption) | (with_reducible exact Below.refl _ _) | (with_reducible refine Blk.drewN ?_ _) | (with_reducible refine RowIn.drewN ?_ _) | (with_reducible refine below_drewN ?_ _) | (with_reducible refine Blk.drew ?_) | (with_reducible refine RowIn.drew ?_) | (with_reducible refine Below.drew ?_) | (with_reducible refine Blk.new' ?_ ?_ <;> first | (with_reducible rfl) | (simp; done)) | (with_reducible refine Blk.alloc ?_ _) | (with_reducible refine RowIn.alloc ?_ _) | (with_reducible refine Below.alloc ?_ ?_ _) | (with_reducible apply Blk.set') | (with_reducible apply Blk.far') | (with_reducible refine RowIn.far' ?_ ?_ _) | (with_reducible refine Below.far' ?_ ?_ _) | rfl | omega | go_size)
  obtain ⟨k, rfl⟩ := Int.eq_ofNat_of_zero_le (by omega : 0 ≤ k)
  have hk : k ≤ 24 := by omega
  by_cases h3 : p < 0
  · have HR : Hid (rrR bs p (k : Nat) = (0, 0, 2)) := by unfold rrR; rw [if_neg (by omega), if_pos h3]; rfl
    have hu : urR bs p = (0, 0, 2) := by unfold urR; rw [if_pos h3]
    have HU := Lib.hid hu
    clear hu
    go_enter Tryd.func62, Tryd.ntmps62
    go_wp2_with fail
    refine (bcheck_ok A m c bs _ (by exact RowIn.row (lo := 0) (hi := w.heap.size) (by repeat' (first | (with_reducible assumption) | (with_reducible exact Below.refl _ _) | (with_reducible refine Blk.drewN ?_ _) | (with_reducible refine RowIn.drewN ?_ _) | (with_reducible refine below_drewN ?_ _) | (with_reducible refine Blk.drew ?_) | (with_reducible refine RowIn.drew ?_) | (with_reducible refine Below.drew ?_) | (with_reducible refine Blk.new' ?_ ?_ <;> first | (with_reducible rfl) | (simp; done)) | (with_reducible refine Blk.alloc ?_ _) | (with_reducible refine RowIn.alloc ?_ _) | (with_reducible refine Below.alloc ?_ ?_ _) | (with_reducible apply Blk.set') | (with_reducible apply Blk.far') | (with_reducible refine RowIn.far' ?_ ?_ _) | (with_reducible refine Below.far' ?_ ?_ _) | rfl | omega | go_size))) (by omega) hl).mono ?_
    rintro e w1 ⟨rfl, b1⟩
    have s1 := b1.size
    try simp only [World.size_alloc, World.size_setCell, World.size_drew, size_drewN] at s1
    obtain ⟨zb_1, rb_1, rt_1, bb_1⟩ : Blk w1 (w.heap.size) 24 [.slice A m c, .int .i64 ((bs.length : Nat) : Int)] ∧ RowIn .u8 w1 (0) (w.heap.size) A m (pack bs) ∧ RowIn .u8 w1 (0) (w.heap.size) (some ⟨0, 0, none⟩) 64 dbTab ∧ Below w.heap.size w w1 := by
      refine ⟨?_, ?_, ?_, ?_⟩
      all_goals repeat' (first | (with_reducible assumption) | (with_reducible exact Below.refl _ _) | (with_reducible refine Blk.after ?_ b1) | (with_reducible refine RowIn.belowS ?_ b1) | (with_reducible refine Below.after ?_ b1 ?_) | (with_reducible refine Blk.drewN ?_ _) | (with_reducible refine RowIn.drewN ?_ _) | (with_reducible refine below_drewN ?_ _) | (with_reducible refine Blk.drew ?_) | (with_reducible refine RowIn.drew ?_) | (with_reducible refine Below.drew ?_) | (with_reducible refine Blk.new' ?_ ?_ <;> first | (with_reducible rfl) | (simp; done)) | (with_reducible refine Blk.alloc ?_ _) | (with_reducible refine RowIn.alloc ?_ _) | (with_reducible refine Below.alloc ?_ ?_ _) | (with_reducible apply Blk.set') | (with_reducible apply Blk.far') | (with_reducible refine RowIn.far' ?_ ?_ _) | (with_reducible refine Below.far' ?_ ?_ _) | rfl | omega | go_size)
    clear b1
    have kb_1 := zb_1.cell; have fb_1 := zb_1.frozen; have lb_1 := zb_1.lt
    go_wp2_with fail
    have hcl := uread_ret A m c bs p _ (by exact RowIn.row (lo := 0) (hi := w.heap.size) (by repeat' (first | (with_reducible assumption) | (with_reducible exact Below.refl _ _) | (with_reducible refine Blk.drewN ?_ _) | (with_reducible refine RowIn.drewN ?_ _) | (with_reducible refine below_drewN ?_ _) | (with_reducible refine Blk.drew ?_) | (with_reducible refine RowIn.drew ?_) | (with_reducible refine Below.drew ?_) | (with_reducible refine Blk.new' ?_ ?_ <;> first | (with_reducible rfl) | (simp; done)) | (with_reducible refine Blk.alloc ?_ _) | (with_reducible refine RowIn.alloc ?_ _) | (with_reducible refine Below.alloc ?_ ?_ _) | (with_reducible apply Blk.set') | (with_reducible apply Blk.far') | (with_reducible refine RowIn.far' ?_ ?_ _) | (with_reducible refine Below.far' ?_ ?_ _) | rfl | omega | go_size))) hc hl hp (by exact RowIn.row (lo := 0) (hi := w.heap.size) (by repeat' (first | (with_reducible assumption) | (with_reducible exact Below.refl _ _) | (with_reducible refine Blk.drewN ?_ _) | (with_reducible refine RowIn.drewN ?_ _) | (with_reducible refine below_drewN ?_ _) | (with_reducible refine Blk.drew ?_) | (with_reducible refine RowIn.drew ?_) | (with_reducible refine Below.drew ?_) | (with_reducible refine Blk.new' ?_ ?_ <;> first | (with_reducible rfl) | (simp; done)) | (with_reducible refine Blk.alloc ?_ _) | (with_reducible refine RowIn.alloc ?_ _) | (with_reducible refine Below.alloc ?_ ?_ _) | (with_reducible apply Blk.set') | (with_reducible apply Blk.far') | (with_reducible refine RowIn.far' ?_ ?_ _) | (with_reducible refine Below.far' ?_ ?_ _) | rfl | omega | go_size)))
    rw [HU.out] at hcl
    replace hcl := Lib.hid hcl
    refine (hcl.out).mono ?_
    rintro e w2 ⟨rfl, b2⟩
    have s2 := b2.size
    try simp only [World.size_alloc, World.size_setCell, World.size_drew, size_drewN] at s2
    obtain ⟨zb_2, rb_2, rt_2, bb_2⟩ : Blk w2 (w.heap.size) 24 [.slice A m c, .int .i64 ((bs.length : Nat) : Int)] ∧ RowIn .u8 w2 (0) (w.heap.size) A m (pack bs) ∧ RowIn .u8 w2 (0) (w.heap.size) (some ⟨0, 0, none⟩) 64 dbTab ∧ Below w.heap.size w w2 := by
      refine ⟨?_, ?_, ?_, ?_⟩
      all_goals repeat' (first | (with_reducible assumption) | (with_reducible exact Below.refl _ _) | (with_reducible refine Blk.after ?_ b2) | (with_reducible refine RowIn.belowS ?_ b2) | (with_reducible refine Below.after ?_ b2 ?_) | (with_reducible refine Blk.drewN ?_ _) | (with_reducible refine RowIn.drewN ?_ _) | (with_reducible refine below_drewN ?_ _) | (with_reducible refine Blk.drew ?_) | (with_reducible refine RowIn.drew ?_) | (with_reducible refine Below.drew ?_) | (with_reducible refine Blk.new' ?_ ?_ <;> first | (with_reducible rfl) | (simp; done)) | (with_reducible refine Blk.alloc ?_ _) | (with_reducible refine RowIn.alloc ?_ _) | (with_reducible refine Below.alloc ?_ ?_ _) | (with_reducible apply Blk.set') | (with_reducible apply Blk.far') | (with_reducible refine RowIn.far' ?_ ?_ _) | (with_reducible refine Below.far' ?_ ?_ _) | rfl | omega | go_size)
    clear zb_1 rb_1 rt_1 bb_1 kb_1 fb_1 lb_1 b2
    have kb_2 := zb_2.cell; have fb_2 := zb_2.frozen; have lb_2 := zb_2.lt
    clear hcl
    go_wp2
    go_ret3
    refine ⟨by rw [HR.out]; first | rfl | go_num, ?_⟩
    repeat' (first | (with_reducible assumption) | (with_reducible exact Below.refl _ _) | (with_reducible refine Blk.drewN ?_ _) | (with_reducible refine RowIn.drewN ?_ _) | (with_reducible refine below_drewN ?_ _) | (with_reducible refine Blk.drew ?_) | (with_reducible refine RowIn.drew ?_) | (with_reducible refine Below.drew ?_) | (with_reducible refine Blk.new' ?_ ?_ <;> first | (with_reducible rfl) | (simp; done)) | (with_reducible refine Blk.alloc ?_ _) | (with_reducible refine RowIn.alloc ?_ _) | (with_reducible refine Below.alloc ?_ ?_ _) | (with_reducible apply Blk.set') | (with_reducible apply Blk.far') | (with_reducible refine RowIn.far' ?_ ?_ _) | (with_reducible refine Below.far' ?_ ?_ _) | rfl | omega | go_size)
  obtain ⟨i, rfl⟩ := Int.eq_ofNat_of_zero_le (by omega : 0 ≤ p)
  have HR0 : Hid (rrR bs (i : Nat) (k : Nat) = match readR (bs.drop i) k with | .ok v n => (((v : Nat) : Int), (i : Int) + ((n : Nat) : Int), 0) | .err e => (0, 0, ((e : Nat) : Int))) := by unfold rrR; rw [if_neg (by omega), if_neg h3]; rfl
  clear h1 h2 h3
  cases hu : readU (bs.drop i) with
  | err e =>
    obtain ⟨rfl, _, _⟩ := readU_err hu
    have HR : Hid (rrR bs (i : Nat) (k : Nat) = (0, 0, 24)) := by rw [HR0.out]; unfold readR; rw [hu]; rfl
    have HU := Lib.hid hu
    clear hu
    go_enter Tryd.func62, Tryd.ntmps62
    go_wp2_with fail
    refine (bcheck_ok A m c bs _ (by exact RowIn.row (lo := 0) (hi := w.heap.size) (by repeat' (first | (with_reducible assumption) | (with_reducible exact Below.refl _ _) | (with_reducible refine Blk.drewN ?_ _) | (with_reducible refine RowIn.drewN ?_ _) | (with_reducible refine below_drewN ?_ _) | (with_reducible refine Blk.drew ?_) | (with_reducible refine RowIn.drew ?_) | (with_reducible refine Below.drew ?_) | (with_reducible refine Blk.new' ?_ ?_ <;> first | (with_reducible rfl) | (simp; done)) | (with_reducible refine Blk.alloc ?_ _) | (with_reducible refine RowIn.alloc ?_ _) | (with_reducible refine Below.alloc ?_ ?_ _) | (with_reducible apply Blk.set') | (with_reducible apply Blk.far') | (with_reducible refine RowIn.far' ?_ ?_ _) | (with_reducible refine Below.far' ?_ ?_ _) | rfl | omega | go_size))) (by omega) hl).mono ?_
    rintro e w1 ⟨rfl, b1⟩
    have s1 := b1.size
    try simp only [World.size_alloc, World.size_setCell, World.size_drew, size_drewN] at s1
    obtain ⟨zb_1, rb_1, rt_1, bb_1⟩ : Blk w1 (w.heap.size) 24 [.slice A m c, .int .i64 ((bs.length : Nat) : Int)] ∧ RowIn .u8 w1 (0) (w.heap.size) A m (pack bs) ∧ RowIn .u8 w1 (0) (w.heap.size) (some ⟨0, 0, none⟩) 64 dbTab ∧ Below w.heap.size w w1 := by
      refine ⟨?_, ?_, ?_, ?_⟩
      all_goals repeat' (first | (with_reducible assumption) | (with_reducible exact Below.refl _ _) | (with_reducible refine Blk.after ?_ b1) | (with_reducible refine RowIn.belowS ?_ b1) | (with_reducible refine Below.after ?_ b1 ?_) | (with_reducible refine Blk.drewN ?_ _) | (with_reducible refine RowIn.drewN ?_ _) | (with_reducible refine below_drewN ?_ _) | (with_reducible refine Blk.drew ?_) | (with_reducible refine RowIn.drew ?_) | (with_reducible refine Below.drew ?_) | (with_reducible refine Blk.new' ?_ ?_ <;> first | (with_reducible rfl) | (simp; done)) | (with_reducible refine Blk.alloc ?_ _) | (with_reducible refine RowIn.alloc ?_ _) | (with_reducible refine Below.alloc ?_ ?_ _) | (with_reducible apply Blk.set') | (with_reducible apply Blk.far') | (with_reducible refine RowIn.far' ?_ ?_ _) | (with_reducible refine Below.far' ?_ ?_ _) | rfl | omega | go_size)
    clear b1
    have kb_1 := zb_1.cell; have fb_1 := zb_1.frozen; have lb_1 := zb_1.lt
    go_wp2_with fail
    refine (uread_short A m c bs (i : Nat) 24 _ (by exact RowIn.row (lo := 0) (hi := w.heap.size) (by repeat' (first | (with_reducible assumption) | (with_reducible exact Below.refl _ _) | (with_reducible refine Blk.drewN ?_ _) | (with_reducible refine RowIn.drewN ?_ _) | (with_reducible refine below_drewN ?_ _) | (with_reducible refine Blk.drew ?_) | (with_reducible refine RowIn.drew ?_) | (with_reducible refine Below.drew ?_) | (with_reducible refine Blk.new' ?_ ?_ <;> first | (with_reducible rfl) | (simp; done)) | (with_reducible refine Blk.alloc ?_ _) | (with_reducible refine RowIn.alloc ?_ _) | (with_reducible refine Below.alloc ?_ ?_ _) | (with_reducible apply Blk.set') | (with_reducible apply Blk.far') | (with_reducible refine RowIn.far' ?_ ?_ _) | (with_reducible refine Below.far' ?_ ?_ _) | rfl | omega | go_size))) hc hl (by omega) (by rw [Int.toNat_natCast]; exact HU.out) (by exact RowIn.row (lo := 0) (hi := w.heap.size) (by repeat' (first | (with_reducible assumption) | (with_reducible exact Below.refl _ _) | (with_reducible refine Blk.drewN ?_ _) | (with_reducible refine RowIn.drewN ?_ _) | (with_reducible refine below_drewN ?_ _) | (with_reducible refine Blk.drew ?_) | (with_reducible refine RowIn.drew ?_) | (with_reducible refine Below.drew ?_) | (with_reducible refine Blk.new' ?_ ?_ <;> first | (with_reducible rfl) | (simp; done)) | (with_reducible refine Blk.alloc ?_ _) | (with_reducible refine RowIn.alloc ?_ _) | (with_reducible refine Below.alloc ?_ ?_ _) | (with_reducible apply Blk.set') | (with_reducible apply Blk.far') | (with_reducible refine RowIn.far' ?_ ?_ _) | (with_reducible refine Below.far' ?_ ?_ _) | rfl | omega | go_size)))).mono ?_
    rintro e w2 ⟨rfl, b2⟩
    have s2 := b2.size
    try simp only [World.size_alloc, World.size_setCell, World.size_drew, size_drewN] at s2
    obtain ⟨zb_2, rb_2, rt_2, bb_2⟩ : Blk w2 (w.heap.size) 24 [.slice A m c, .int .i64 ((bs.length : Nat) : Int)] ∧ RowIn .u8 w2 (0) (w.heap.size) A m (pack bs) ∧ RowIn .u8 w2 (0) (w.heap.size) (some ⟨0, 0, none⟩) 64 dbTab ∧ Below w.heap.size w w2 := by
      refine ⟨?_, ?_, ?_, ?_⟩
      all_goals repeat' (first | (with_reducible assumption) | (with_reducible exact Below.refl _ _) | (with_reducible refine Blk.after ?_ b2) | (with_reducible refine RowIn.belowS ?_ b2) | (with_reducible refine Below.after ?_ b2 ?_) | (with_reducible refine Blk.drewN ?_ _) | (with_reducible refine RowIn.drewN ?_ _) | (with_reducible refine below_drewN ?_ _) | (with_reducible refine Blk.drew ?_) | (with_reducible refine RowIn.drew ?_) | (with_reducible refine Below.drew ?_) | (with_reducible refine Blk.new' ?_ ?_ <;> first | (with_reducible rfl) | (simp; done)) | (with_reducible refine Blk.alloc ?_ _) | (with_reducible refine RowIn.alloc ?_ _) | (with_reducible refine Below.alloc ?_ ?_ _) | (with_reducible apply Blk.set') | (with_reducible apply Blk.far') | (with_reducible refine RowIn.far' ?_ ?_ _) | (with_reducible refine Below.far' ?_ ?_ _) | rfl | omega | go_size)
    clear zb_1 rb_1 rt_1 bb_1 kb_1 fb_1 lb_1 b2
    have kb_2 := zb_2.cell; have fb_2 := zb_2.frozen; have lb_2 := zb_2.lt
    go_wp2
    go_ret3
    refine ⟨by rw [HR.out]; first | rfl | go_num, ?_⟩
    repeat' (first | (with_reducible assumption) | (with_reducible exact Below.refl _ _) | (with_reducible refine Blk.drewN ?_ _) | (with_reducible refine RowIn.drewN ?_ _) | (with_reducible refine below_drewN ?_ _) | (with_reducible refine Blk.drew ?_) | (with_reducible refine RowIn.drew ?_) | (with_reducible refine Below.drew ?_) | (with_reducible refine Blk.new' ?_ ?_ <;> first | (with_reducible rfl) | (simp; done)) | (with_reducible refine Blk.alloc ?_ _) | (with_reducible refine RowIn.alloc ?_ _) | (with_reducible refine Below.alloc ?_ ?_ _) | (with_reducible apply Blk.set') | (with_reducible apply Blk.far') | (with_reducible refine RowIn.far' ?_ ?_ _) | (with_reducible refine Below.far' ?_ ?_ _) | rfl | omega | go_size)
  | ok q u =>
    obtain ⟨hq, hur, t, ht2⟩ := readU_inv hu
    have hul : u + i ≤ bs.length := by
      have h := congrArg List.length ht2
      rw [List.length_drop, List.length_append, run_len hq, ← hur] at h
      have : 1 ≤ u := by rw [hur]; unfold runLen; omega
      omega
    have hdl : (bs.drop i).length = bs.length - i := List.length_drop ..
    have HR1 : Hid (readR (bs.drop i) k = if bs.length - i - u < restLen q k then .err 24 else if q < 48 then .ok (q * 2 ^ k + bval ((bs.drop (i + u)).take (restLen q k))) (u + restLen q k) else if bval ((bs.drop (i + u)).take (restLen q k)) / 2 ^ k < 48 then .err 12 else .ok (bval ((bs.drop (i + u)).take (restLen q k))) (u + restLen q k)) := by
      unfold readR; rw [hu]; dsimp only; rw [hdl, List.drop_drop]; exact Lib.hid rfl
    have HU := Lib.hid hu
    clear hu ht2 hdl hur
    obtain ⟨z, hz⟩ : ∃ z, z = i + u := ⟨_, rfl⟩
    rw [← hz] at HR1
    have hzb : z ≤ bs.length := by omega
    have HZ := Lib.hid hz
    obtain ⟨y, HY⟩ : ∃ y, Hid (y = bval ((bs.drop z).take (restLen q k))) := ⟨_, Lib.hid rfl⟩
    rw [← HY.out] at HR1
    by_cases h48 : q = 48
    · have hrl : restLen q k = 32 := by unfold restLen; rw [if_pos h48]
      rw [hrl] at HR1 HY
      clear hrl
      subst h48
      by_cases h5 : bs.length - i - u < 32
      · have HR : Hid (rrR bs (i : Nat) (k : Nat) = (0, 0, 24)) := by rw [HR0.out, HR1.out, if_pos h5]; rfl
        have HG : Hid (getR bs (z : Nat) (32 : Int) = (0, 24)) := by unfold getR; rw [if_neg (by omega), if_pos (by omega)]; rfl
        clear hz h5
        go_enter Tryd.func62, Tryd.ntmps62
        go_wp2_with fail
        refine (bcheck_ok A m c bs _ (by exact RowIn.row (lo := 0) (hi := w.heap.size) (by repeat' (first | (with_reducible assumption) | (with_reducible exact Below.refl _ _) | (with_reducible refine Blk.drewN ?_ _) | (with_reducible refine RowIn.drewN ?_ _) | (with_reducible refine below_drewN ?_ _) | (with_reducible refine Blk.drew ?_) | (with_reducible refine RowIn.drew ?_) | (with_reducible refine Below.drew ?_) | (with_reducible refine Blk.new' ?_ ?_ <;> first | (with_reducible rfl) | (simp; done)) | (with_reducible refine Blk.alloc ?_ _) | (with_reducible refine RowIn.alloc ?_ _) | (with_reducible refine Below.alloc ?_ ?_ _) | (with_reducible apply Blk.set') | (with_reducible apply Blk.far') | (with_reducible refine RowIn.far' ?_ ?_ _) | (with_reducible refine Below.far' ?_ ?_ _) | rfl | omega | go_size))) (by omega) hl).mono ?_
        rintro e w1 ⟨rfl, b1⟩
        have s1 := b1.size
        try simp only [World.size_alloc, World.size_setCell, World.size_drew, size_drewN] at s1
        obtain ⟨zb_1, rb_1, rt_1, bb_1⟩ : Blk w1 (w.heap.size) 24 [.slice A m c, .int .i64 ((bs.length : Nat) : Int)] ∧ RowIn .u8 w1 (0) (w.heap.size) A m (pack bs) ∧ RowIn .u8 w1 (0) (w.heap.size) (some ⟨0, 0, none⟩) 64 dbTab ∧ Below w.heap.size w w1 := by
          refine ⟨?_, ?_, ?_, ?_⟩
          all_goals repeat' (first | (with_reducible assumption) | (with_reducible exact Below.refl _ _) | (with_reducible refine Blk.after ?_ b1) | (with_reducible refine RowIn.belowS ?_ b1) | (with_reducible refine Below.after ?_ b1 ?_) | (with_reducible refine Blk.drewN ?_ _) | (with_reducible refine RowIn.drewN ?_ _) | (with_reducible refine below_drewN ?_ _) | (with_reducible refine Blk.drew ?_) | (with_reducible refine RowIn.drew ?_) | (with_reducible refine Below.drew ?_) | (with_reducible refine Blk.new' ?_ ?_ <;> first | (with_reducible rfl) | (simp; done)) | (with_reducible refine Blk.alloc ?_ _) | (with_reducible refine RowIn.alloc ?_ _) | (with_reducible refine Below.alloc ?_ ?_ _) | (with_reducible apply Blk.set') | (with_reducible apply Blk.far') | (with_reducible refine RowIn.far' ?_ ?_ _) | (with_reducible refine Below.far' ?_ ?_ _) | rfl | omega | go_size)
        clear b1
        have kb_1 := zb_1.cell; have fb_1 := zb_1.frozen; have lb_1 := zb_1.lt
        go_wp2_with fail
        refine (uread_ok A m c bs (i : Nat) 48 u _ (by exact RowIn.row (lo := 0) (hi := w.heap.size) (by repeat' (first | (with_reducible assumption) | (with_reducible exact Below.refl _ _) | (with_reducible refine Blk.drewN ?_ _) | (with_reducible refine RowIn.drewN ?_ _) | (with_reducible refine below_drewN ?_ _) | (with_reducible refine Blk.drew ?_) | (with_reducible refine RowIn.drew ?_) | (with_reducible refine Below.drew ?_) | (with_reducible refine Blk.new' ?_ ?_ <;> first | (with_reducible rfl) | (simp; done)) | (with_reducible refine Blk.alloc ?_ _) | (with_reducible refine RowIn.alloc ?_ _) | (with_reducible refine Below.alloc ?_ ?_ _) | (with_reducible apply Blk.set') | (with_reducible apply Blk.far') | (with_reducible refine RowIn.far' ?_ ?_ _) | (with_reducible refine Below.far' ?_ ?_ _) | rfl | omega | go_size))) hc hl (by omega) (by rw [Int.toNat_natCast]; exact HU.out) (by exact RowIn.row (lo := 0) (hi := w.heap.size) (by repeat' (first | (with_reducible assumption) | (with_reducible exact Below.refl _ _) | (with_reducible refine Blk.drewN ?_ _) | (with_reducible refine RowIn.drewN ?_ _) | (with_reducible refine below_drewN ?_ _) | (with_reducible refine Blk.drew ?_) | (with_reducible refine RowIn.drew ?_) | (with_reducible refine Below.drew ?_) | (with_reducible refine Blk.new' ?_ ?_ <;> first | (with_reducible rfl) | (simp; done)) | (with_reducible refine Blk.alloc ?_ _) | (with_reducible refine RowIn.alloc ?_ _) | (with_reducible refine Below.alloc ?_ ?_ _) | (with_reducible apply Blk.set') | (with_reducible apply Blk.far') | (with_reducible refine RowIn.far' ?_ ?_ _) | (with_reducible refine Below.far' ?_ ?_ _) | rfl | omega | go_size)))).mono ?_
        rintro e w2 ⟨z2, rfl, HZ2, b2⟩
        have s2 := b2.size
        try simp only [World.size_alloc, World.size_setCell, World.size_drew, size_drewN] at s2
        obtain ⟨zb_2, rb_2, rt_2, bb_2⟩ : Blk w2 (w.heap.size) 24 [.slice A m c, .int .i64 ((bs.length : Nat) : Int)] ∧ RowIn .u8 w2 (0) (w.heap.size) A m (pack bs) ∧ RowIn .u8 w2 (0) (w.heap.size) (some ⟨0, 0, none⟩) 64 dbTab ∧ Below w.heap.size w w2 := by
          refine ⟨?_, ?_, ?_, ?_⟩
          all_goals repeat' (first | (with_reducible assumption) | (with_reducible exact Below.refl _ _) | (with_reducible refine Blk.after ?_ b2) | (with_reducible refine RowIn.belowS ?_ b2) | (with_reducible refine Below.after ?_ b2 ?_) | (with_reducible refine Blk.drewN ?_ _) | (with_reducible refine RowIn.drewN ?_ _) | (with_reducible refine below_drewN ?_ _) | (with_reducible refine Blk.drew ?_) | (with_reducible refine RowIn.drew ?_) | (with_reducible refine Below.drew ?_) | (with_reducible refine Blk.new' ?_ ?_ <;> first | (with_reducible rfl) | (simp; done)) | (with_reducible refine Blk.alloc ?_ _) | (with_reducible refine RowIn.alloc ?_ _) | (with_reducible refine Below.alloc ?_ ?_ _) | (with_reducible apply Blk.set') | (with_reducible apply Blk.far') | (with_reducible refine RowIn.far' ?_ ?_ _) | (with_reducible refine Below.far' ?_ ?_ _) | rfl | omega | go_size)
        clear zb_1 rb_1 rt_1 bb_1 kb_1 fb_1 lb_1 b2
        have kb_2 := zb_2.cell; have fb_2 := zb_2.frozen; have lb_2 := zb_2.lt
        obtain rfl : z = z2 := by rw [HZ.out, HZ2.out, Int.toNat_natCast]
        clear HZ2
        go_wp2_with fail
        have hcl := bget_ret A m c bs (z : Nat) (32 : Int) w2 rb_2.row hc hl (by omega) (by omega)
        rw [HG.out] at hcl
        replace hcl := Lib.hid hcl
        refine (hcl.out).mono ?_
        rintro e w3 ⟨rfl, b3⟩
        have s3 := b3.size
        try simp only [World.size_alloc, World.size_setCell, World.size_drew, size_drewN] at s3
        obtain ⟨zb_3, rb_3, rt_3, bb_3⟩ : Blk w3 (w.heap.size) 24 [.slice A m c, .int .i64 ((bs.length : Nat) : Int)] ∧ RowIn .u8 w3 (0) (w.heap.size) A m (pack bs) ∧ RowIn .u8 w3 (0) (w.heap.size) (some ⟨0, 0, none⟩) 64 dbTab ∧ Below w.heap.size w w3 := by
          refine ⟨?_, ?_, ?_, ?_⟩
          all_goals repeat' (first | (with_reducible assumption) | (with_reducible exact Below.refl _ _) | (with_reducible refine Blk.after ?_ b3) | (with_reducible refine RowIn.belowS ?_ b3) | (with_reducible refine Below.after ?_ b3 ?_) | (with_reducible refine Blk.drewN ?_ _) | (with_reducible refine RowIn.drewN ?_ _) | (with_reducible refine below_drewN ?_ _) | (with_reducible refine Blk.drew ?_) | (with_reducible refine RowIn.drew ?_) | (with_reducible refine Below.drew ?_) | (with_reducible refine Blk.new' ?_ ?_ <;> first | (with_reducible rfl) | (simp; done)) | (with_reducible refine Blk.alloc ?_ _) | (with_reducible refine RowIn.alloc ?_ _) | (with_reducible refine Below.alloc ?_ ?_ _) | (with_reducible apply Blk.set') | (with_reducible apply Blk.far') | (with_reducible refine RowIn.far' ?_ ?_ _) | (with_reducible refine Below.far' ?_ ?_ _) | rfl | omega | go_size)
        clear zb_2 rb_2 rt_2 bb_2 kb_2 fb_2 lb_2 b3
        have kb_3 := zb_3.cell; have fb_3 := zb_3.frozen; have lb_3 := zb_3.lt
        clear hcl
        go_wp2
        go_ret3
        refine ⟨by rw [HR.out]; first | rfl | go_num, ?_⟩
        repeat' (first | (with_reducible assumption) | (with_reducible exact Below.refl _ _) | (with_reducible refine Blk.drewN ?_ _) | (with_reducible refine RowIn.drewN ?_ _) | (with_reducible refine below_drewN ?_ _) | (with_reducible refine Blk.drew ?_) | (with_reducible refine RowIn.drew ?_) | (with_reducible refine Below.drew ?_) | (with_reducible refine Blk.new' ?_ ?_ <;> first | (with_reducible rfl) | (simp; done)) | (with_reducible refine Blk.alloc ?_ _) | (with_reducible refine RowIn.alloc ?_ _) | (with_reducible refine Below.alloc ?_ ?_ _) | (with_reducible apply Blk.set') | (with_reducible apply Blk.far') | (with_reducible refine RowIn.far' ?_ ?_ _) | (with_reducible refine Below.far' ?_ ?_ _) | rfl | omega | go_size)
      have hzl : (z : Int) ≤ ((bs.length : Nat) : Int) - (32 : Int) := by omega
      have hy : y < 4294967296 := by rw [HY.out]; exact bval_take_lt _ _
      rw [if_neg h5] at HR1
      clear hz h5
      rw [if_neg (by omega)] at HR1
      have hw1 : IntKind.u32.wrap (y : Int) = (y : Int) := IntWalk.u32_in _ (by omega)
      obtain ⟨x, HX⟩ : ∃ x, Hid (x = y / 2 ^ k) := ⟨_, Lib.hid rfl⟩
      by_cases h6 : x < 48
      · have HR : Hid (rrR bs (i : Nat) (k : Nat) = (0, 0, 12)) := by rw [HR0.out, HR1.out, ← HX.out, if_pos h6]; rfl
        go_enter Tryd.func62, Tryd.ntmps62
        go_wp2_with fail
        refine (bcheck_ok A m c bs _ (by exact RowIn.row (lo := 0) (hi := w.heap.size) (by repeat' (first | (with_reducible assumption) | (with_reducible exact Below.refl _ _) | (with_reducible refine Blk.drewN ?_ _) | (with_reducible refine RowIn.drewN ?_ _) | (with_reducible refine below_drewN ?_ _) | (with_reducible refine Blk.drew ?_) | (with_reducible refine RowIn.drew ?_) | (with_reducible refine Below.drew ?_) | (with_reducible refine Blk.new' ?_ ?_ <;> first | (with_reducible rfl) | (simp; done)) | (with_reducible refine Blk.alloc ?_ _) | (with_reducible refine RowIn.alloc ?_ _) | (with_reducible refine Below.alloc ?_ ?_ _) | (with_reducible apply Blk.set') | (with_reducible apply Blk.far') | (with_reducible refine RowIn.far' ?_ ?_ _) | (with_reducible refine Below.far' ?_ ?_ _) | rfl | omega | go_size))) (by omega) hl).mono ?_
        rintro e w1 ⟨rfl, b1⟩
        have s1 := b1.size
        try simp only [World.size_alloc, World.size_setCell, World.size_drew, size_drewN] at s1
        obtain ⟨zb_1, rb_1, rt_1, bb_1⟩ : Blk w1 (w.heap.size) 24 [.slice A m c, .int .i64 ((bs.length : Nat) : Int)] ∧ RowIn .u8 w1 (0) (w.heap.size) A m (pack bs) ∧ RowIn .u8 w1 (0) (w.heap.size) (some ⟨0, 0, none⟩) 64 dbTab ∧ Below w.heap.size w w1 := by
          refine ⟨?_, ?_, ?_, ?_⟩
          all_goals repeat' (first | (with_reducible assumption) | (with_reducible exact Below.refl _ _) | (with_reducible refine Blk.after ?_ b1) | (with_reducible refine RowIn.belowS ?_ b1) | (with_reducible refine Below.after ?_ b1 ?_) | (with_reducible refine Blk.drewN ?_ _) | (with_reducible refine RowIn.drewN ?_ _) | (with_reducible refine below_drewN ?_ _) | (with_reducible refine Blk.drew ?_) | (with_reducible refine RowIn.drew ?_) | (with_reducible refine Below.drew ?_) | (with_reducible refine Blk.new' ?_ ?_ <;> first | (with_reducible rfl) | (simp; done)) | (with_reducible refine Blk.alloc ?_ _) | (with_reducible refine RowIn.alloc ?_ _) | (with_reducible refine Below.alloc ?_ ?_ _) | (with_reducible apply Blk.set') | (with_reducible apply Blk.far') | (with_reducible refine RowIn.far' ?_ ?_ _) | (with_reducible refine Below.far' ?_ ?_ _) | rfl | omega | go_size)
        clear b1
        have kb_1 := zb_1.cell; have fb_1 := zb_1.frozen; have lb_1 := zb_1.lt
        go_wp2_with fail
        refine (uread_ok A m c bs (i : Nat) 48 u _ (by exact RowIn.row (lo := 0) (hi := w.heap.size) (by repeat' (first | (with_reducible assumption) | (with_reducible exact Below.refl _ _) | (with_reducible refine Blk.drewN ?_ _) | (with_reducible refine RowIn.drewN ?_ _) | (with_reducible refine below_drewN ?_ _) | (with_reducible refine Blk.drew ?_) | (with_reducible refine RowIn.drew ?_) | (with_reducible refine Below.drew ?_) | (with_reducible refine Blk.new' ?_ ?_ <;> first | (with_reducible rfl) | (simp; done)) | (with_reducible refine Blk.alloc ?_ _) | (with_reducible refine RowIn.alloc ?_ _) | (with_reducible refine Below.alloc ?_ ?_ _) | (with_reducible apply Blk.set') | (with_reducible apply Blk.far') | (with_reducible refine RowIn.far' ?_ ?_ _) | (with_reducible refine Below.far' ?_ ?_ _) | rfl | omega | go_size))) hc hl (by omega) (by rw [Int.toNat_natCast]; exact HU.out) (by exact RowIn.row (lo := 0) (hi := w.heap.size) (by repeat' (first | (with_reducible assumption) | (with_reducible exact Below.refl _ _) | (with_reducible refine Blk.drewN ?_ _) | (with_reducible refine RowIn.drewN ?_ _) | (with_reducible refine below_drewN ?_ _) | (with_reducible refine Blk.drew ?_) | (with_reducible refine RowIn.drew ?_) | (with_reducible refine Below.drew ?_) | (with_reducible refine Blk.new' ?_ ?_ <;> first | (with_reducible rfl) | (simp; done)) | (with_reducible refine Blk.alloc ?_ _) | (with_reducible refine RowIn.alloc ?_ _) | (with_reducible refine Below.alloc ?_ ?_ _) | (with_reducible apply Blk.set') | (with_reducible apply Blk.far') | (with_reducible refine RowIn.far' ?_ ?_ _) | (with_reducible refine Below.far' ?_ ?_ _) | rfl | omega | go_size)))).mono ?_
        rintro e w2 ⟨z2, rfl, HZ2, b2⟩
        have s2 := b2.size
        try simp only [World.size_alloc, World.size_setCell, World.size_drew, size_drewN] at s2
        obtain ⟨zb_2, rb_2, rt_2, bb_2⟩ : Blk w2 (w.heap.size) 24 [.slice A m c, .int .i64 ((bs.length : Nat) : Int)] ∧ RowIn .u8 w2 (0) (w.heap.size) A m (pack bs) ∧ RowIn .u8 w2 (0) (w.heap.size) (some ⟨0, 0, none⟩) 64 dbTab ∧ Below w.heap.size w w2 := by
          refine ⟨?_, ?_, ?_, ?_⟩
          all_goals repeat' (first | (with_reducible assumption) | (with_reducible exact Below.refl _ _) | (with_reducible refine Blk.after ?_ b2) | (with_reducible refine RowIn.belowS ?_ b2) | (with_reducible refine Below.after ?_ b2 ?_) | (with_reducible refine Blk.drewN ?_ _) | (with_reducible refine RowIn.drewN ?_ _) | (with_reducible refine below_drewN ?_ _) | (with_reducible refine Blk.drew ?_) | (with_reducible refine RowIn.drew ?_) | (with_reducible refine Below.drew ?_) | (with_reducible refine Blk.new' ?_ ?_ <;> first | (with_reducible rfl) | (simp; done)) | (with_reducible refine Blk.alloc ?_ _) | (with_reducible refine RowIn.alloc ?_ _) | (with_reducible refine Below.alloc ?_ ?_ _) | (with_reducible apply Blk.set') | (with_reducible apply Blk.far') | (with_reducible refine RowIn.far' ?_ ?_ _) | (with_reducible refine Below.far' ?_ ?_ _) | rfl | omega | go_size)
        clear zb_1 rb_1 rt_1 bb_1 kb_1 fb_1 lb_1 b2
        have kb_2 := zb_2.cell; have fb_2 := zb_2.frozen; have lb_2 := zb_2.lt
        obtain rfl : z = z2 := by rw [HZ.out, HZ2.out, Int.toNat_natCast]
        clear HZ2
        go_wp2_with fail
        refine (bget_ok A m c bs (z : Nat) (32 : Int) w2 rb_2.row hc hl (by omega) (by omega) hzl).mono ?_
        rintro e w3 ⟨y2, rfl, HY2, b3⟩
        have s3 := b3.size
        try simp only [World.size_alloc, World.size_setCell, World.size_drew, size_drewN] at s3
        obtain ⟨zb_3, rb_3, rt_3, bb_3⟩ : Blk w3 (w.heap.size) 24 [.slice A m c, .int .i64 ((bs.length : Nat) : Int)] ∧ RowIn .u8 w3 (0) (w.heap.size) A m (pack bs) ∧ RowIn .u8 w3 (0) (w.heap.size) (some ⟨0, 0, none⟩) 64 dbTab ∧ Below w.heap.size w w3 := by
          refine ⟨?_, ?_, ?_, ?_⟩
          all_goals repeat' (first | (with_reducible assumption) | (with_reducible exact Below.refl _ _) | (with_reducible refine Blk.after ?_ b3) | (with_reducible refine RowIn.belowS ?_ b3) | (with_reducible refine Below.after ?_ b3 ?_) | (with_reducible refine Blk.drewN ?_ _) | (with_reducible refine RowIn.drewN ?_ _) | (with_reducible refine below_drewN ?_ _) | (with_reducible refine Blk.drew ?_) | (with_reducible refine RowIn.drew ?_) | (with_reducible refine Below.drew ?_) | (with_reducible refine Blk.new' ?_ ?_ <;> first | (with_reducible rfl) | (simp; done)) | (with_reducible refine Blk.alloc ?_ _) | (with_reducible refine RowIn.alloc ?_ _) | (with_reducible refine Below.alloc ?_ ?_ _) | (with_reducible apply Blk.set') | (with_reducible apply Blk.far') | (with_reducible refine RowIn.far' ?_ ?_ _) | (with_reducible refine Below.far' ?_ ?_ _) | rfl | omega | go_size)
        clear zb_2 rb_2 rt_2 bb_2 kb_2 fb_2 lb_2 b3
        have kb_3 := zb_3.cell; have fb_3 := zb_3.frozen; have lb_3 := zb_3.lt
        obtain rfl : y = y2 := by rw [HY.out, HY2.out]; simp only [Int.toNat_natCast]; try rfl
        clear HY2
        go_wp2_with fail
        refine (resc_no y k x _ hk hy HX.out h6).mono ?_
        rintro e _ ⟨rfl, rfl⟩
        go_wp2
        go_ret3
        refine ⟨by rw [HR.out]; first | rfl | go_num, ?_⟩
        repeat' (first | (with_reducible assumption) | (with_reducible exact Below.refl _ _) | (with_reducible refine Blk.drewN ?_ _) | (with_reducible refine RowIn.drewN ?_ _) | (with_reducible refine below_drewN ?_ _) | (with_reducible refine Blk.drew ?_) | (with_reducible refine RowIn.drew ?_) | (with_reducible refine Below.drew ?_) | (with_reducible refine Blk.new' ?_ ?_ <;> first | (with_reducible rfl) | (simp; done)) | (with_reducible refine Blk.alloc ?_ _) | (with_reducible refine RowIn.alloc ?_ _) | (with_reducible refine Below.alloc ?_ ?_ _) | (with_reducible apply Blk.set') | (with_reducible apply Blk.far') | (with_reducible refine RowIn.far' ?_ ?_ _) | (with_reducible refine Below.far' ?_ ?_ _) | rfl | omega | go_size)
      · have HR : Hid (rrR bs (i : Nat) (k : Nat) = ((y : Int), (z : Int) + 32, 0)) := by rw [HR0.out, HR1.out, ← HX.out, if_neg h6, HZ.out]; refine Lib.hid ?_; simp only [Prod.mk.injEq, true_and, and_true]; omega
        go_enter Tryd.func62, Tryd.ntmps62
        go_wp2_with fail
        refine (bcheck_ok A m c bs _ (by exact RowIn.row (lo := 0) (hi := w.heap.size) (by repeat' (first | (with_reducible assumption) | (with_reducible exact Below.refl _ _) | (with_reducible refine Blk.drewN ?_ _) | (with_reducible refine RowIn.drewN ?_ _) | (with_reducible refine below_drewN ?_ _) | (with_reducible refine Blk.drew ?_) | (with_reducible refine RowIn.drew ?_) | (with_reducible refine Below.drew ?_) | (with_reducible refine Blk.new' ?_ ?_ <;> first | (with_reducible rfl) | (simp; done)) | (with_reducible refine Blk.alloc ?_ _) | (with_reducible refine RowIn.alloc ?_ _) | (with_reducible refine Below.alloc ?_ ?_ _) | (with_reducible apply Blk.set') | (with_reducible apply Blk.far') | (with_reducible refine RowIn.far' ?_ ?_ _) | (with_reducible refine Below.far' ?_ ?_ _) | rfl | omega | go_size))) (by omega) hl).mono ?_
        rintro e w1 ⟨rfl, b1⟩
        have s1 := b1.size
        try simp only [World.size_alloc, World.size_setCell, World.size_drew, size_drewN] at s1
        obtain ⟨zb_1, rb_1, rt_1, bb_1⟩ : Blk w1 (w.heap.size) 24 [.slice A m c, .int .i64 ((bs.length : Nat) : Int)] ∧ RowIn .u8 w1 (0) (w.heap.size) A m (pack bs) ∧ RowIn .u8 w1 (0) (w.heap.size) (some ⟨0, 0, none⟩) 64 dbTab ∧ Below w.heap.size w w1 := by
          refine ⟨?_, ?_, ?_, ?_⟩
          all_goals repeat' (first | (with_reducible assumption) | (with_reducible exact Below.refl _ _) | (with_reducible refine Blk.after ?_ b1) | (with_reducible refine RowIn.belowS ?_ b1) | (with_reducible refine Below.after ?_ b1 ?_) | (with_reducible refine Blk.drewN ?_ _) | (with_reducible refine RowIn.drewN ?_ _) | (with_reducible refine below_drewN ?_ _) | (with_reducible refine Blk.drew ?_) | (with_reducible refine RowIn.drew ?_) | (with_reducible refine Below.drew ?_) | (with_reducible refine Blk.new' ?_ ?_ <;> first | (with_reducible rfl) | (simp; done)) | (with_reducible refine Blk.alloc ?_ _) | (with_reducible refine RowIn.alloc ?_ _) | (with_reducible refine Below.alloc ?_ ?_ _) | (with_reducible apply Blk.set') | (with_reducible apply Blk.far') | (with_reducible refine RowIn.far' ?_ ?_ _) | (with_reducible refine Below.far' ?_ ?_ _) | rfl | omega | go_size)
        clear b1
        have kb_1 := zb_1.cell; have fb_1 := zb_1.frozen; have lb_1 := zb_1.lt
        go_wp2_with fail
        refine (uread_ok A m c bs (i : Nat) 48 u _ (by exact RowIn.row (lo := 0) (hi := w.heap.size) (by repeat' (first | (with_reducible assumption) | (with_reducible exact Below.refl _ _) | (with_reducible refine Blk.drewN ?_ _) | (with_reducible refine RowIn.drewN ?_ _) | (with_reducible refine below_drewN ?_ _) | (with_reducible refine Blk.drew ?_) | (with_reducible refine RowIn.drew ?_) | (with_reducible refine Below.drew ?_) | (with_reducible refine Blk.new' ?_ ?_ <;> first | (with_reducible rfl) | (simp; done)) | (with_reducible refine Blk.alloc ?_ _) | (with_reducible refine RowIn.alloc ?_ _) | (with_reducible refine Below.alloc ?_ ?_ _) | (with_reducible apply Blk.set') | (with_reducible apply Blk.far') | (with_reducible refine RowIn.far' ?_ ?_ _) | (with_reducible refine Below.far' ?_ ?_ _) | rfl | omega | go_size))) hc hl (by omega) (by rw [Int.toNat_natCast]; exact HU.out) (by exact RowIn.row (lo := 0) (hi := w.heap.size) (by repeat' (first | (with_reducible assumption) | (with_reducible exact Below.refl _ _) | (with_reducible refine Blk.drewN ?_ _) | (with_reducible refine RowIn.drewN ?_ _) | (with_reducible refine below_drewN ?_ _) | (with_reducible refine Blk.drew ?_) | (with_reducible refine RowIn.drew ?_) | (with_reducible refine Below.drew ?_) | (with_reducible refine Blk.new' ?_ ?_ <;> first | (with_reducible rfl) | (simp; done)) | (with_reducible refine Blk.alloc ?_ _) | (with_reducible refine RowIn.alloc ?_ _) | (with_reducible refine Below.alloc ?_ ?_ _) | (with_reducible apply Blk.set') | (with_reducible apply Blk.far') | (with_reducible refine RowIn.far' ?_ ?_ _) | (with_reducible refine Below.far' ?_ ?_ _) | rfl | omega | go_size)))).mono ?_
        rintro e w2 ⟨z2, rfl, HZ2, b2⟩
        have s2 := b2.size
        try simp only [World.size_alloc, World.size_setCell, World.size_drew, size_drewN] at s2
        obtain ⟨zb_2, rb_2, rt_2, bb_2⟩ : Blk w2 (w.heap.size) 24 [.slice A m c, .int .i64 ((bs.length : Nat) : Int)] ∧ RowIn .u8 w2 (0) (w.heap.size) A m (pack bs) ∧ RowIn .u8 w2 (0) (w.heap.size) (some ⟨0, 0, none⟩) 64 dbTab ∧ Below w.heap.size w w2 := by
          refine ⟨?_, ?_, ?_, ?_⟩
          all_goals repeat' (first | (with_reducible assumption) | (with_reducible exact Below.refl _ _) | (with_reducible refine Blk.after ?_ b2) | (with_reducible refine RowIn.belowS ?_ b2) | (with_reducible refine Below.after ?_ b2 ?_) | (with_reducible refine Blk.drewN ?_ _) | (with_reducible refine RowIn.drewN ?_ _) | (with_reducible refine below_drewN ?_ _) | (with_reducible refine Blk.drew ?_) | (with_reducible refine RowIn.drew ?_) | (with_reducible refine Below.drew ?_) | (with_reducible refine Blk.new' ?_ ?_ <;> first | (with_reducible rfl) | (simp; done)) | (with_reducible refine Blk.alloc ?_ _) | (with_reducible refine RowIn.alloc ?_ _) | (with_reducible refine Below.alloc ?_ ?_ _) | (with_reducible apply Blk.set') | (with_reducible apply Blk.far') | (with_reducible refine RowIn.far' ?_ ?_ _) | (with_reducible refine Below.far' ?_ ?_ _) | rfl | omega | go_size)
        clear zb_1 rb_1 rt_1 bb_1 kb_1 fb_1 lb_1 b2
        have kb_2 := zb_2.cell; have fb_2 := zb_2.frozen; have lb_2 := zb_2.lt
        obtain rfl : z = z2 := by rw [HZ.out, HZ2.out, Int.toNat_natCast]
        clear HZ2
        go_wp2_with fail
        refine (bget_ok A m c bs (z : Nat) (32 : Int) w2 rb_2.row hc hl (by omega) (by omega) hzl).mono ?_
        rintro e w3 ⟨y2, rfl, HY2, b3⟩
        have s3 := b3.size
        try simp only [World.size_alloc, World.size_setCell, World.size_drew, size_drewN] at s3
        obtain ⟨zb_3, rb_3, rt_3, bb_3⟩ : Blk w3 (w.heap.size) 24 [.slice A m c, .int .i64 ((bs.length : Nat) : Int)] ∧ RowIn .u8 w3 (0) (w.heap.size) A m (pack bs) ∧ RowIn .u8 w3 (0) (w.heap.size) (some ⟨0, 0, none⟩) 64 dbTab ∧ Below w.heap.size w w3 := by
          refine ⟨?_, ?_, ?_, ?_⟩
          all_goals repeat' (first | (with_reducible assumption) | (with_reducible exact Below.refl _ _) | (with_reducible refine Blk.after ?_ b3) | (with_reducible refine RowIn.belowS ?_ b3) | (with_reducible refine Below.after ?_ b3 ?_) | (with_reducible refine Blk.drewN ?_ _) | (with_reducible refine RowIn.drewN ?_ _) | (with_reducible refine below_drewN ?_ _) | (with_reducible refine Blk.drew ?_) | (with_reducible refine RowIn.drew ?_) | (with_reducible refine Below.drew ?_) | (with_reducible refine Blk.new' ?_ ?_ <;> first | (with_reducible rfl) | (simp; done)) | (with_reducible refine Blk.alloc ?_ _) | (with_reducible refine RowIn.alloc ?_ _) | (with_reducible refine Below.alloc ?_ ?_ _) | (with_reducible apply Blk.set') | (with_reducible apply Blk.far') | (with_reducible refine RowIn.far' ?_ ?_ _) | (with_reducible refine Below.far' ?_ ?_ _) | rfl | omega | go_size)
        clear zb_2 rb_2 rt_2 bb_2 kb_2 fb_2 lb_2 b3
        have kb_3 := zb_3.cell; have fb_3 := zb_3.frozen; have lb_3 := zb_3.lt
        obtain rfl : y = y2 := by rw [HY.out, HY2.out]; simp only [Int.toNat_natCast]; try rfl
        clear HY2
        go_wp2_with fail
        refine (resc_yes y k x _ hk hy HX.out (by omega)).mono ?_
        rintro e _ ⟨rfl, rfl⟩
        go_wp2
        go_ret3
        refine ⟨by rw [HR.out]; first | rfl | go_num, ?_⟩
        repeat' (first | (with_reducible assumption) | (with_reducible exact Below.refl _ _) | (with_reducible refine Blk.drewN ?_ _) | (with_reducible refine RowIn.drewN ?_ _) | (with_reducible refine below_drewN ?_ _) | (with_reducible refine Blk.drew ?_) | (with_reducible refine RowIn.drew ?_) | (with_reducible refine Below.drew ?_) | (with_reducible refine Blk.new' ?_ ?_ <;> first | (with_reducible rfl) | (simp; done)) | (with_reducible refine Blk.alloc ?_ _) | (with_reducible refine RowIn.alloc ?_ _) | (with_reducible refine Below.alloc ?_ ?_ _) | (with_reducible apply Blk.set') | (with_reducible apply Blk.far') | (with_reducible refine RowIn.far' ?_ ?_ _) | (with_reducible refine Below.far' ?_ ?_ _) | rfl | omega | go_size)
    · have hrl : restLen q k = k := by unfold restLen; rw [if_neg h48]
      rw [hrl] at HR1 HY
      clear hrl
      have hq48 : q < 48 := by omega
      have t48 : ((q : Int) == 48) = false := beq_eq_false_iff_ne.2 (by omega)
      clear h48
      by_cases h5 : bs.length - i - u < k
      · have HR : Hid (rrR bs (i : Nat) (k : Nat) = (0, 0, 24)) := by rw [HR0.out, HR1.out, if_pos h5]; rfl
        have HG : Hid (getR bs (z : Nat) ((k : Nat) : Int) = (0, 24)) := by unfold getR; rw [if_neg (by omega), if_pos (by omega)]; rfl
        clear hz h5
        go_enter Tryd.func62, Tryd.ntmps62
        go_wp2_with fail
        refine (bcheck_ok A m c bs _ (by exact RowIn.row (lo := 0) (hi := w.heap.size) (by repeat' (first | (with_reducible assumption) | (with_reducible exact Below.refl _ _) | (with_reducible refine Blk.drewN ?_ _) | (with_reducible refine RowIn.drewN ?_ _) | (with_reducible refine below_drewN ?_ _) | (with_reducible refine Blk.drew ?_) | (with_reducible refine RowIn.drew ?_) | (with_reducible refine Below.drew ?_) | (with_reducible refine Blk.new' ?_ ?_ <;> first | (with_reducible rfl) | (simp; done)) | (with_reducible refine Blk.alloc ?_ _) | (with_reducible refine RowIn.alloc ?_ _) | (with_reducible refine Below.alloc ?_ ?_ _) | (with_reducible apply Blk.set') | (with_reducible apply Blk.far') | (with_reducible refine RowIn.far' ?_ ?_ _) | (with_reducible refine Below.far' ?_ ?_ _) | rfl | omega | go_size))) (by omega) hl).mono ?_
        rintro e w1 ⟨rfl, b1⟩
        have s1 := b1.size
        try simp only [World.size_alloc, World.size_setCell, World.size_drew, size_drewN] at s1
        obtain ⟨zb_1, rb_1, rt_1, bb_1⟩ : Blk w1 (w.heap.size) 24 [.slice A m c, .int .i64 ((bs.length : Nat) : Int)] ∧ RowIn .u8 w1 (0) (w.heap.size) A m (pack bs) ∧ RowIn .u8 w1 (0) (w.heap.size) (some ⟨0, 0, none⟩) 64 dbTab ∧ Below w.heap.size w w1 := by
          refine ⟨?_, ?_, ?_, ?_⟩
          all_goals repeat' (first | (with_reducible assumption) | (with_reducible exact Below.refl _ _) | (with_reducible refine Blk.after ?_ b1) | (with_reducible refine RowIn.belowS ?_ b1) | (with_reducible refine Below.after ?_ b1 ?_) | (with_reducible refine Blk.drewN ?_ _) | (with_reducible refine RowIn.drewN ?_ _) | (with_reducible refine below_drewN ?_ _) | (with_reducible refine Blk.drew ?_) | (with_reducible refine RowIn.drew ?_) | (with_reducible refine Below.drew ?_) | (with_reducible refine Blk.new' ?_ ?_ <;> first | (with_reducible rfl) | (simp; done)) | (with_reducible refine Blk.alloc ?_ _) | (with_reducible refine RowIn.alloc ?_ _) | (with_reducible refine Below.alloc ?_ ?_ _) | (with_reducible apply Blk.set') | (with_reducible apply Blk.far') | (with_reducible refine RowIn.far' ?_ ?_ _) | (with_reducible refine Below.far' ?_ ?_ _) | rfl | omega | go_size)
        clear b1
        have kb_1 := zb_1.cell; have fb_1 := zb_1.frozen; have lb_1 := zb_1.lt
        go_wp2_with fail
        refine (uread_ok A m c bs (i : Nat) q u _ (by exact RowIn.row (lo := 0) (hi := w.heap.size) (by repeat' (first | (with_reducible assumption) | (with_reducible exact Below.refl _ _) | (with_reducible refine Blk.drewN ?_ _) | (with_reducible refine RowIn.drewN ?_ _) | (with_reducible refine below_drewN ?_ _) | (with_reducible refine Blk.drew ?_) | (with_reducible refine RowIn.drew ?_) | (with_reducible refine Below.drew ?_) | (with_reducible refine Blk.new' ?_ ?_ <;> first | (with_reducible rfl) | (simp; done)) | (with_reducible refine Blk.alloc ?_ _) | (with_reducible refine RowIn.alloc ?_ _) | (with_reducible refine Below.alloc ?_ ?_ _) | (with_reducible apply Blk.set') | (with_reducible apply Blk.far') | (with_reducible refine RowIn.far' ?_ ?_ _) | (with_reducible refine Below.far' ?_ ?_ _) | rfl | omega | go_size))) hc hl (by omega) (by rw [Int.toNat_natCast]; exact HU.out) (by exact RowIn.row (lo := 0) (hi := w.heap.size) (by repeat' (first | (with_reducible assumption) | (with_reducible exact Below.refl _ _) | (with_reducible refine Blk.drewN ?_ _) | (with_reducible refine RowIn.drewN ?_ _) | (with_reducible refine below_drewN ?_ _) | (with_reducible refine Blk.drew ?_) | (with_reducible refine RowIn.drew ?_) | (with_reducible refine Below.drew ?_) | (with_reducible refine Blk.new' ?_ ?_ <;> first | (with_reducible rfl) | (simp; done)) | (with_reducible refine Blk.alloc ?_ _) | (with_reducible refine RowIn.alloc ?_ _) | (with_reducible refine Below.alloc ?_ ?_ _) | (with_reducible apply Blk.set') | (with_reducible apply Blk.far') | (with_reducible refine RowIn.far' ?_ ?_ _) | (with_reducible refine Below.far' ?_ ?_ _) | rfl | omega | go_size)))).mono ?_
        rintro e w2 ⟨z2, rfl, HZ2, b2⟩
        have s2 := b2.size
        try simp only [World.size_alloc, World.size_setCell, World.size_drew, size_drewN] at s2
        obtain ⟨zb_2, rb_2, rt_2, bb_2⟩ : Blk w2 (w.heap.size) 24 [.slice A m c, .int .i64 ((bs.length : Nat) : Int)] ∧ RowIn .u8 w2 (0) (w.heap.size) A m (pack bs) ∧ RowIn .u8 w2 (0) (w.heap.size) (some ⟨0, 0, none⟩) 64 dbTab ∧ Below w.heap.size w w2 := by
          refine ⟨?_, ?_, ?_, ?_⟩
          all_goals repeat' (first | (with_reducible assumption) | (with_reducible exact Below.refl _ _) | (with_reducible refine Blk.after ?_ b2) | (with_reducible refine RowIn.belowS ?_ b2) | (with_reducible refine Below.after ?_ b2 ?_) | (with_reducible refine Blk.drewN ?_ _) | (with_reducible refine RowIn.drewN ?_ _) | (with_reducible refine below_drewN ?_ _) | (with_reducible refine Blk.drew ?_) | (with_reducible refine RowIn.drew ?_) | (with_reducible refine Below.drew ?_) | (with_reducible refine Blk.new' ?_ ?_ <;> first | (with_reducible rfl) | (simp; done)) | (with_reducible refine Blk.alloc ?_ _) | (with_reducible refine RowIn.alloc ?_ _) | (with_reducible refine Below.alloc ?_ ?_ _) | (with_reducible apply Blk.set') | (with_reducible apply Blk.far') | (with_reducible refine RowIn.far' ?_ ?_ _) | (with_reducible refine Below.far' ?_ ?_ _) | rfl | omega | go_size)
        clear zb_1 rb_1 rt_1 bb_1 kb_1 fb_1 lb_1 b2
        have kb_2 := zb_2.cell; have fb_2 := zb_2.frozen; have lb_2 := zb_2.lt
        obtain rfl : z = z2 := by rw [HZ.out, HZ2.out, Int.toNat_natCast]
        clear HZ2
        go_wp2_with fail
        have hcl := bget_ret A m c bs (z : Nat) ((k : Nat) : Int) w2 rb_2.row hc hl (by omega) (by omega)
        rw [HG.out] at hcl
        replace hcl := Lib.hid hcl
        refine (hcl.out).mono ?_
        rintro e w3 ⟨rfl, b3⟩
        have s3 := b3.size
        try simp only [World.size_alloc, World.size_setCell, World.size_drew, size_drewN] at s3
        obtain ⟨zb_3, rb_3, rt_3, bb_3⟩ : Blk w3 (w.heap.size) 24 [.slice A m c, .int .i64 ((bs.length : Nat) : Int)] ∧ RowIn .u8 w3 (0) (w.heap.size) A m (pack bs) ∧ RowIn .u8 w3 (0) (w.heap.size) (some ⟨0, 0, none⟩) 64 dbTab ∧ Below w.heap.size w w3 := by
          refine ⟨?_, ?_, ?_, ?_⟩
          all_goals repeat' (first | (with_reducible assumption) | (with_reducible exact Below.refl _ _) | (with_reducible refine Blk.after ?_ b3) | (with_reducible refine RowIn.belowS ?_ b3) | (with_reducible refine Below.after ?_ b3 ?_) | (with_reducible refine Blk.drewN ?_ _) | (with_reducible refine RowIn.drewN ?_ _) | (with_reducible refine below_drewN ?_ _) | (with_reducible refine Blk.drew ?_) | (with_reducible refine RowIn.drew ?_) | (with_reducible refine Below.drew ?_) | (with_reducible refine Blk.new' ?_ ?_ <;> first | (with_reducible rfl) | (simp; done)) | (with_reducible refine Blk.alloc ?_ _) | (with_reducible refine RowIn.alloc ?_ _) | (with_reducible refine Below.alloc ?_ ?_ _) | (with_reducible apply Blk.set') | (with_reducible apply Blk.far') | (with_reducible refine RowIn.far' ?_ ?_ _) | (with_reducible refine Below.far' ?_ ?_ _) | rfl | omega | go_size)
        clear zb_2 rb_2 rt_2 bb_2 kb_2 fb_2 lb_2 b3
        have kb_3 := zb_3.cell; have fb_3 := zb_3.frozen; have lb_3 := zb_3.lt
        clear hcl
        go_wp2
        go_ret3
        refine ⟨by rw [HR.out]; first | rfl | go_num, ?_⟩
        repeat' (first | (with_reducible assumption) | (with_reducible exact Below.refl _ _) | (with_reducible refine Blk.drewN ?_ _) | (with_reducible refine RowIn.drewN ?_ _) | (with_reducible refine below_drewN ?_ _) | (with_reducible refine Blk.drew ?_) | (with_reducible refine RowIn.drew ?_) | (with_reducible refine Below.drew ?_) | (with_reducible refine Blk.new' ?_ ?_ <;> first | (with_reducible rfl) | (simp; done)) | (with_reducible refine Blk.alloc ?_ _) | (with_reducible refine RowIn.alloc ?_ _) | (with_reducible refine Below.alloc ?_ ?_ _) | (with_reducible apply Blk.set') | (with_reducible apply Blk.far') | (with_reducible refine RowIn.far' ?_ ?_ _) | (with_reducible refine Below.far' ?_ ?_ _) | rfl | omega | go_size)
      have hzl : (z : Int) ≤ ((bs.length : Nat) : Int) - ((k : Nat) : Int) := by omega
      have hy : y < 2 ^ k := by rw [HY.out]; exact bval_take_lt _ _
      rw [if_neg h5] at HR1
      clear hz h5
      have hy32 : y < 4294967296 := Nat.lt_of_lt_of_le hy (Nat.le_trans (Nat.pow_le_pow_right (by omega) hk) (by decide))
      rw [if_pos hq48] at HR1
      have HR : Hid (rrR bs (i : Nat) (k : Nat) = (((q * 2 ^ k + y : Nat) : Int), (z : Int) + (k : Int), 0)) := by rw [HR0.out, HR1.out, HZ.out]; refine Lib.hid ?_; simp only [Prod.mk.injEq, true_and, and_true]; omega
      have hw1 : IntKind.u32.wrap (y : Int) = (y : Int) := IntWalk.u32_in _ (by omega)
      have hw2 : IntKind.u32.wrap (q : Int) = (q : Int) := IntWalk.u32_in _ (by omega)
      have hor := Lib.hid (rice_or hq48 hk hy)
      clear hy
      go_enter Tryd.func62, Tryd.ntmps62
      go_wp2_with fail
      refine (bcheck_ok A m c bs _ (by exact RowIn.row (lo := 0) (hi := w.heap.size) (by repeat' (first | (with_reducible assumption) | (with_reducible exact Below.refl _ _) | (with_reducible refine Blk.drewN ?_ _) | (with_reducible refine RowIn.drewN ?_ _) | (with_reducible refine below_drewN ?_ _) | (with_reducible refine Blk.drew ?_) | (with_reducible refine RowIn.drew ?_) | (with_reducible refine Below.drew ?_) | (with_reducible refine Blk.new' ?_ ?_ <;> first | (with_reducible rfl) | (simp; done)) | (with_reducible refine Blk.alloc ?_ _) | (with_reducible refine RowIn.alloc ?_ _) | (with_reducible refine Below.alloc ?_ ?_ _) | (with_reducible apply Blk.set') | (with_reducible apply Blk.far') | (with_reducible refine RowIn.far' ?_ ?_ _) | (with_reducible refine Below.far' ?_ ?_ _) | rfl | omega | go_size))) (by omega) hl).mono ?_
      rintro e w1 ⟨rfl, b1⟩
      have s1 := b1.size
      try simp only [World.size_alloc, World.size_setCell, World.size_drew, size_drewN] at s1
      obtain ⟨zb_1, rb_1, rt_1, bb_1⟩ : Blk w1 (w.heap.size) 24 [.slice A m c, .int .i64 ((bs.length : Nat) : Int)] ∧ RowIn .u8 w1 (0) (w.heap.size) A m (pack bs) ∧ RowIn .u8 w1 (0) (w.heap.size) (some ⟨0, 0, none⟩) 64 dbTab ∧ Below w.heap.size w w1 := by
        refine ⟨?_, ?_, ?_, ?_⟩
        all_goals repeat' (first | (with_reducible assumption) | (with_reducible exact Below.refl _ _) | (with_reducible refine Blk.after ?_ b1) | (with_reducible refine RowIn.belowS ?_ b1) | (with_reducible refine Below.after ?_ b1 ?_) | (with_reducible refine Blk.drewN ?_ _) | (with_reducible refine RowIn.drewN ?_ _) | (with_reducible refine below_drewN ?_ _) | (with_reducible refine Blk.drew ?_) | (with_reducible refine RowIn.drew ?_) | (with_reducible refine Below.drew ?_) | (with_reducible refine Blk.new' ?_ ?_ <;> first | (with_reducible rfl) | (simp; done)) | (with_reducible refine Blk.alloc ?_ _) | (with_reducible refine RowIn.alloc ?_ _) | (with_reducible refine Below.alloc ?_ ?_ _) | (with_reducible apply Blk.set') | (with_reducible apply Blk.far') | (with_reducible refine RowIn.far' ?_ ?_ _) | (with_reducible refine Below.far' ?_ ?_ _) | rfl | omega | go_size)
      clear b1
      have kb_1 := zb_1.cell; have fb_1 := zb_1.frozen; have lb_1 := zb_1.lt
      go_wp2_with fail
      refine (uread_ok A m c bs (i : Nat) q u _ (by exact RowIn.row (lo := 0) (hi := w.heap.size) (by repeat' (first | (with_reducible assumption) | (with_reducible exact Below.refl _ _) | (with_reducible refine Blk.drewN ?_ _) | (with_reducible refine RowIn.drewN ?_ _) | (with_reducible refine below_drewN ?_ _) | (with_reducible refine Blk.drew ?_) | (with_reducible refine RowIn.drew ?_) | (with_reducible refine Below.drew ?_) | (with_reducible refine Blk.new' ?_ ?_ <;> first | (with_reducible rfl) | (simp; done)) | (with_reducible refine Blk.alloc ?_ _) | (with_reducible refine RowIn.alloc ?_ _) | (with_reducible refine Below.alloc ?_ ?_ _) | (with_reducible apply Blk.set') | (with_reducible apply Blk.far') | (with_reducible refine RowIn.far' ?_ ?_ _) | (with_reducible refine Below.far' ?_ ?_ _) | rfl | omega | go_size))) hc hl (by omega) (by rw [Int.toNat_natCast]; exact HU.out) (by exact RowIn.row (lo := 0) (hi := w.heap.size) (by repeat' (first | (with_reducible assumption) | (with_reducible exact Below.refl _ _) | (with_reducible refine Blk.drewN ?_ _) | (with_reducible refine RowIn.drewN ?_ _) | (with_reducible refine below_drewN ?_ _) | (with_reducible refine Blk.drew ?_) | (with_reducible refine RowIn.drew ?_) | (with_reducible refine Below.drew ?_) | (with_reducible refine Blk.new' ?_ ?_ <;> first | (with_reducible rfl) | (simp; done)) | (with_reducible refine Blk.alloc ?_ _) | (with_reducible refine RowIn.alloc ?_ _) | (with_reducible refine Below.alloc ?_ ?_ _) | (with_reducible apply Blk.set') | (with_reducible apply Blk.far') | (with_reducible refine RowIn.far' ?_ ?_ _) | (with_reducible refine Below.far' ?_ ?_ _) | rfl | omega | go_size)))).mono ?_
      rintro e w2 ⟨z2, rfl, HZ2, b2⟩
      have s2 := b2.size
      try simp only [World.size_alloc, World.size_setCell, World.size_drew, size_drewN] at s2
      obtain ⟨zb_2, rb_2, rt_2, bb_2⟩ : Blk w2 (w.heap.size) 24 [.slice A m c, .int .i64 ((bs.length : Nat) : Int)] ∧ RowIn .u8 w2 (0) (w.heap.size) A m (pack bs) ∧ RowIn .u8 w2 (0) (w.heap.size) (some ⟨0, 0, none⟩) 64 dbTab ∧ Below w.heap.size w w2 := by
        refine ⟨?_, ?_, ?_, ?_⟩
        all_goals repeat' (first | (with_reducible assumption) | (with_reducible exact Below.refl _ _) | (with_reducible refine Blk.after ?_ b2) | (with_reducible refine RowIn.belowS ?_ b2) | (with_reducible refine Below.after ?_ b2 ?_) | (with_reducible refine Blk.drewN ?_ _) | (with_reducible refine RowIn.drewN ?_ _) | (with_reducible refine below_drewN ?_ _) | (with_reducible refine Blk.drew ?_) | (with_reducible refine RowIn.drew ?_) | (with_reducible refine Below.drew ?_) | (with_reducible refine Blk.new' ?_ ?_ <;> first | (with_reducible rfl) | (simp; done)) | (with_reducible refine Blk.alloc ?_ _) | (with_reducible refine RowIn.alloc ?_ _) | (with_reducible refine Below.alloc ?_ ?_ _) | (with_reducible apply Blk.set') | (with_reducible apply Blk.far') | (with_reducible refine RowIn.far' ?_ ?_ _) | (with_reducible refine Below.far' ?_ ?_ _) | rfl | omega | go_size)
      clear zb_1 rb_1 rt_1 bb_1 kb_1 fb_1 lb_1 b2
      have kb_2 := zb_2.cell; have fb_2 := zb_2.frozen; have lb_2 := zb_2.lt
      obtain rfl : z = z2 := by rw [HZ.out, HZ2.out, Int.toNat_natCast]
      clear HZ2
      go_wp2_with fail
      refine (bget_ok A m c bs (z : Nat) ((k : Nat) : Int) w2 rb_2.row hc hl (by omega) (by omega) hzl).mono ?_
      rintro e w3 ⟨y2, rfl, HY2, b3⟩
      have s3 := b3.size
      try simp only [World.size_alloc, World.size_setCell, World.size_drew, size_drewN] at s3
      obtain ⟨zb_3, rb_3, rt_3, bb_3⟩ : Blk w3 (w.heap.size) 24 [.slice A m c, .int .i64 ((bs.length : Nat) : Int)] ∧ RowIn .u8 w3 (0) (w.heap.size) A m (pack bs) ∧ RowIn .u8 w3 (0) (w.heap.size) (some ⟨0, 0, none⟩) 64 dbTab ∧ Below w.heap.size w w3 := by
        refine ⟨?_, ?_, ?_, ?_⟩
        all_goals repeat' (first | (with_reducible assumption) | (with_reducible exact Below.refl _ _) | (with_reducible refine Blk.after ?_ b3) | (with_reducible refine RowIn.belowS ?_ b3) | (with_reducible refine Below.after ?_ b3 ?_) | (with_reducible refine Blk.drewN ?_ _) | (with_reducible refine RowIn.drewN ?_ _) | (with_reducible refine below_drewN ?_ _) | (with_reducible refine Blk.drew ?_) | (with_reducible refine RowIn.drew ?_) | (with_reducible refine Below.drew ?_) | (with_reducible refine Blk.new' ?_ ?_ <;> first | (with_reducible rfl) | (simp; done)) | (with_reducible refine Blk.alloc ?_ _) | (with_reducible refine RowIn.alloc ?_ _) | (with_reducible refine Below.alloc ?_ ?_ _) | (with_reducible apply Blk.set') | (with_reducible apply Blk.far') | (with_reducible refine RowIn.far' ?_ ?_ _) | (with_reducible refine Below.far' ?_ ?_ _) | rfl | omega | go_size)
      clear zb_2 rb_2 rt_2 bb_2 kb_2 fb_2 lb_2 b3
      have kb_3 := zb_3.cell; have fb_3 := zb_3.frozen; have lb_3 := zb_3.lt
      obtain rfl : y = y2 := by rw [HY.out, HY2.out]; simp only [Int.toNat_natCast]; try rfl
      clear HY2
      go_wp2
      go_ret3
      refine ⟨by rw [HR.out, hor.out]; first | rfl | go_num, ?_⟩
      repeat' (first | (with_reducible assumption) | (with_reducible exact Below.refl _ _) | (with_reducible refine Blk.drewN ?_ _) | (with_reducible refine RowIn.drewN ?_ _) | (with_reducible refine below_drewN ?_ _) | (with_reducible refine Blk.drew ?_) | (with_reducible refine RowIn.drew ?_) | (with_reducible refine Below.drew ?_) | (with_reducible refine Blk.new' ?_ ?_ <;> first | (with_reducible rfl) | (simp; done)) | (with_reducible refine Blk.alloc ?_ _) | (with_reducible refine RowIn.alloc ?_ _) | (with_reducible refine Below.alloc ?_ ?_ _) | (with_reducible apply Blk.set') | (with_reducible apply Blk.far') | (with_reducible refine RowIn.far' ?_ ?_ _) | (with_reducible refine Below.far' ?_ ?_ _) | rfl | omega | go_size)


theorem rread_ok (A : Option Addr) (m c : Nat) (bs : List Bool) (p : Int) (k v n : Nat) (w : World) (ha : Row .u8 w A m (pack bs)) (hc : m ≤ c ∧ c ≤ 9223372036854775807) (hl : bs.length ≤ 330000) (hp : 0 ≤ p ∧ p ≤ 9223372036854775807) (hk : k ≤ 24) (hr : readR (bs.drop p.toNat) k = .ok v n) (ht : Tab w) :
    Calls Tryd.prog 62 #[.agg #[.slice A m c, .int .i64 ((bs.length : Nat) : Int)], .int .i64 p, .int .i64 (k : Int)] w fun e w' => ∃ z : Nat, e = .returned (.tuple #[.int .u32 (v : Int), .int .i64 (z : Int), .int .i64 0]) ∧ Hid (z = p.toNat + n) ∧ Below w.heap.size w w' := by
  have h := rread_ret A m c bs p k w ha hc hl (by omega) (by omega) ht
  have e : rrR bs p k = ((v : Int), ((p.toNat + n : Nat) : Int), 0) := by unfold rrR; rw [if_neg (by omega), if_neg (by omega), Int.toNat_natCast, hr]; simp; omega
  rw [e] at h
  exact h.mono fun e w' ⟨he, hb⟩ => ⟨_, he, Lib.hid rfl, hb⟩
theorem rread_err (A : Option Addr) (m c : Nat) (bs : List Bool) (p : Int) (k er : Nat) (w : World) (ha : Row .u8 w A m (pack bs)) (hc : m ≤ c ∧ c ≤ 9223372036854775807) (hl : bs.length ≤ 330000) (hp : 0 ≤ p ∧ p ≤ 9223372036854775807) (hk : k ≤ 24) (hr : readR (bs.drop p.toNat) k = .err er) (ht : Tab w) :
    Calls Tryd.prog 62 #[.agg #[.slice A m c, .int .i64 ((bs.length : Nat) : Int)], .int .i64 p, .int .i64 (k : Int)] w fun e w' => e = .returned (.tuple #[.int .u32 0, .int .i64 0, .int .i64 (er : Int)]) ∧ Below w.heap.size w w' := by
  have h := rread_ret A m c bs p k w ha hc hl (by omega) (by omega) ht
  have e : rrR bs p k = (0, 0, (er : Int)) := by unfold rrR; rw [if_neg (by omega), if_neg (by omega), Int.toNat_natCast, hr]
  rw [e] at h
  exact h

set_option maxHeartbeats 400000 in
theorem rread_bad (A : Option Addr) (m c : Nat) (N : Int) (bytes : List Int) (p k : Int) (w : World) (ha : Row .u8 w A m bytes) (hb : Within 0 255 bytes) (hc : m ≤ c ∧ c ≤ 9223372036854775807) (hv : ¬ Valid bytes N) :
    Calls Tryd.prog 62 #[.agg #[.slice A m c, .int .i64 N], .int .i64 p, .int .i64 k] w fun e w' => e = .returned (.tuple #[.int .u32 0, .int .i64 0, .int .i64 8]) ∧ Below w.heap.size w w' := by
  have hri := ha.rowIn
  go_enter Tryd.func62, Tryd.ntmps62
  go_wp2_with fail
  refine (bcheck_bad A m c N bytes _ (by exact RowIn.row (lo := 0) (hi := w.heap.size) (by repeat' (first | (with_reducible assumption) | (with_reducible exact Below.refl _ _) | (with_reducible refine Blk.drewN ?_ _) | (with_reducible refine RowIn.drewN ?_ _) | (with_reducible refine below_drewN ?_ _) | (with_reducible refine Blk.drew ?_) | (with_reducible refine RowIn.drew ?_) | (with_reducible refine Below.drew ?_) | (with_reducible refine Blk.new' ?_ ?_ <;> first | (with_reducible rfl) | (simp; done)) | (with_reducible refine Blk.alloc ?_ _) | (with_reducible refine RowIn.alloc ?_ _) | (with_reducible refine Below.alloc ?_ ?_ _) | (with_reducible apply Blk.set') | (with_reducible apply Blk.far') | (with_reducible refine RowIn.far' ?_ ?_ _) | (with_reducible refine Below.far' ?_ ?_ _) | rfl | omega | go_size))) hb (by omega) hv).mono ?_
  rintro e w1 ⟨rfl, b1⟩
  have s1 := b1.size
  try simp only [World.size_alloc, World.size_setCell, World.size_drew, size_drewN] at s1
  obtain ⟨zb_1, rb_1, bb_1⟩ : Blk w1 (w.heap.size) 24 [.slice A m c, .int .i64 N] ∧ RowIn .u8 w1 (0) (w.heap.size) A m bytes ∧ Below w.heap.size w w1 := by
    refine ⟨?_, ?_, ?_⟩
    all_goals repeat' (first | (with_reducible assumption) | (with_reducible exact Below.refl _ _) | (with_reducible refine Blk.after ?_ b1) | (with_reducible refine RowIn.belowS ?_ b1) | (with_reducible refine Below.after ?_ b1 ?_) | (with_reducible refine Blk.drewN ?_ _) | (with_reducible refine RowIn.drewN ?_ _) | (with_reducible refine below_drewN ?_ _) | (with_reducible refine Blk.drew ?_) | (with_reducible refine RowIn.drew ?_) | (with_reducible refine Below.drew ?_) | (with_reducible refine Blk.new' ?_ ?_ <;> first | (with_reducible rfl) | (simp; done)) | (with_reducible refine Blk.alloc ?_ _) | (with_reducible refine RowIn.alloc ?_ _) | (with_reducible refine Below.alloc ?_ ?_ _) | (with_reducible apply Blk.set') | (with_reducible apply Blk.far') | (with_reducible refine RowIn.far' ?_ ?_ _) | (with_reducible refine Below.far' ?_ ?_ _) | rfl | omega | go_size)
  clear b1
  have kb_1 := zb_1.cell; have fb_1 := zb_1.frozen; have lb_1 := zb_1.lt
  go_wp2
  go_ret3
  refine ⟨rfl, ?_⟩
  repeat' (first | (with_reducible assumption) | (with_reducible exact Below.refl _ _) | (with_reducible refine Blk.drewN ?_ _) | (with_reducible refine RowIn.drewN ?_ _) | (with_reducible refine below_drewN ?_ _) | (with_reducible refine Blk.drew ?_) | (with_reducible refine RowIn.drew ?_) | (with_reducible refine Below.drew ?_) | (with_reducible refine Blk.new' ?_ ?_ <;> first | (with_reducible rfl) | (simp; done)) | (with_reducible refine Blk.alloc ?_ _) | (with_reducible refine RowIn.alloc ?_ _) | (with_reducible refine Below.alloc ?_ ?_ _) | (with_reducible apply Blk.set') | (with_reducible apply Blk.far') | (with_reducible refine RowIn.far' ?_ ?_ _) | (with_reducible refine Below.far' ?_ ?_ _) | rfl | omega | go_size)


end Go.Proofs.YtppilidcjlnmoaaDoor
