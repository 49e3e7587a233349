/-
  Contracts of Cut, Join, Of and Align of bits.
-/
import Derived.Test.YtpohaikbbfochaaBits
namespace Go.Proofs.Ytpohaikbbfochaa
open Go.RowKit Cad Cad.Bit
set_option linter.unusedVariables false
set_option linter.unusedSimpArgs false

theorem get_int (A : Option Addr) (m c : Nat) (N : Int) (bs : List Bool) (p n : Int) (w : World) (ha : Row .u8 w A m (pack bs)) (hm : m ≤ 9223372036854775807) (hp0 : 0 ≤ p) (hn0 : 0 ≤ n) (hp : p + n ≤ (bs.length : Int)) (hl : bs.length ≤ 330000) (hn : n ≤ 64) :
    Calls Try.prog 58 #[.agg #[.slice A m c, .int .i64 N], .int .i64 p, .int .i64 n] w fun e w' => ∃ y : Nat, e = .returned (.int .u64 (y : Int)) ∧ Hid (y = bval ((bs.drop p.toNat).take n.toNat)) ∧ y < 18446744073709551616 ∧ Below w.heap.size w w' := by
  have h := get_any A m c N bs p.toNat n.toNat w ha hm (by omega) hl (by omega)
  rw [Int.toNat_of_nonneg hp0, Int.toNat_of_nonneg hn0] at h
  refine h.mono fun e w' ⟨he, hb⟩ => ⟨_, he, Lib.hid rfl, ?_, hb⟩
  have h2 := bval_lt ((bs.drop p.toNat).take n.toNat)
  refine Nat.lt_of_lt_of_le h2 (pow_le_u64 ?_)
  have := List.length_take_le n.toNat (bs.drop p.toNat)
  omega
theorem put_int (g base : Nat) (A : Option Addr) (m c : Nat) (N : Int) (bs : List Bool) (v n : Int) (w : World) (hv : 0 ≤ v ∧ v < 18446744073709551616) (hn : 0 ≤ n ∧ n ≤ 64) (hl : bs.length + n.toNat ≤ 330000) (hbase : base ≤ w.heap.size)
    (hN : N = (bs.length : Nat)) (hc2 : Blk w g 54 [.slice A m c, .int .i64 N]) (hown : Own w base 5 .u8 A m c (pack bs)) :
    Calls Try.prog 57 #[.pointer (some ⟨g, 0, none⟩), .int .u64 v, .int .i64 n] w fun e w' => e = .returned (.tuple #[]) ∧
      ∃ (B : Option Addr) (m' d : Nat) (bs' : List Bool), Blk w' g 54 [.slice B m' d, .int .i64 (bs'.length : Nat)] ∧ Own w' base 5 .u8 B m' d (pack bs') ∧ Hid (bs' = bs ++ lowBits v.toNat n.toNat) ∧ Frm (fun k => k = g ∨ blockOf A = some k) w w' ∧ (∀ k, blockOf B = some k → k < w.heap.size → blockOf A = some k) := by
  subst hN
  have h := put_any g base A m c bs v.toNat n.toNat w (by omega) (by omega) hl hbase hc2 hown
  rw [Int.toNat_of_nonneg hv.1, Int.toNat_of_nonneg hn.1] at h
  refine h.mono ?_
  rintro e w' ⟨rfl, B, m', d, h1, h2, h3, h4⟩
  refine ⟨rfl, B, m', d, bs ++ lowBits v.toNat n.toNat, ?_, h2, Lib.hid rfl, h3, h4⟩
  have e1 : (bs ++ lowBits v.toNat n.toNat).length = bs.length + n.toNat := by rw [List.length_append, lowBits_len]
  rw [e1]; exact h1

/-- What Cut returns. -/
def cutR (bs : List Bool) (p q : Int) : List Bool × Int := if p < 0 ∨ q < p ∨ (bs.length : Int) < q then ([], 2) else ((bs.drop p.toNat).take (q.toNat - p.toNat), 0)
theorem lowBits_bval' {l : List Bool} {n : Nat} (h : l.length = n) : lowBits (bval l) n = l := by rw [← h]; exact lowBits_bval l
/-- One round of Cut: the next bits behind those that are there. -/
theorem cut_step {bs : List Bool} {i a L t : Nat} (ha : a = i + L) (h : a + t ≤ bs.length) : (bs.drop i).take L ++ lowBits (bval ((bs.drop a).take t)) t = (bs.drop i).take (L + t) := by
  subst ha
  rw [lowBits_bval' (by rw [List.length_take, List.length_drop]; omega), List.take_add, List.drop_drop]


end Go.Proofs.Ytpohaikbbfochaa

