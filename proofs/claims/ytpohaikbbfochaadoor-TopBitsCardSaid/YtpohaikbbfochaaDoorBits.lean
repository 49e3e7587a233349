/-
  Contracts of Put, Get and Check of bits, in the form in which callers use them.
-/
import Derived.Test.YtpohaikbbfochaaDoorBitD
namespace Go.Proofs.YtpohaikbbfochaaDoor
open Go.RowKit Cad Cad.Bit
set_option linter.unusedVariables false

theorem bput_ret (A : Option Addr) (m c : Nat) (bs : List Bool) (v n : Int) (w : World) (ha : Row .u8 w A m (pack bs)) (hc : m ≤ c ∧ c ≤ 9223372036854775807) (hl : bs.length ≤ 330000) (hv : 0 ≤ v ∧ v < 18446744073709551616) (hn : -9223372036854775808 ≤ n ∧ n ≤ 9223372036854775807) :
    Calls Tryd.prog 7 #[.agg #[.slice A m c, .int .i64 (bs.length : Nat)], .int .u64 v, .int .i64 n] w (RetB w (putR bs v.toNat n).1 (putR bs v.toNat n).2) := by
  have h := bput_any A m c bs v.toNat n w ⟨ha, hc⟩ hl (by omega) hn
  rw [Int.toNat_of_nonneg hv.1] at h
  exact h.mono fun e w' ⟨x, he, hx, hb⟩ => RetB.of he hx hb
theorem putR_ok {bs : List Bool} {v : Nat} {n : Int} (h0 : 0 ≤ n) (h1 : n ≤ 64) (h2 : v < 2 ^ n.toNat) (h3 : bs.length + n.toNat ≤ 330000) : putR bs v n = (bs ++ lowBits v n.toNat, 0) := by
  unfold putR; rw [if_neg (by omega), if_neg (by omega), if_neg (by omega)]
theorem bput_ok (A : Option Addr) (m c : Nat) (bs : List Bool) (v n : Int) (w : World) (ha : Row .u8 w A m (pack bs)) (hc : m ≤ c ∧ c ≤ 9223372036854775807) (hv : 0 ≤ v ∧ v < 18446744073709551616) (hn : 0 ≤ n ∧ n ≤ 64) (hf : v.toNat < 2 ^ n.toNat) (hr : bs.length + n.toNat ≤ 330000) :
    Calls Tryd.prog 7 #[.agg #[.slice A m c, .int .i64 (bs.length : Nat)], .int .u64 v, .int .i64 n] w (RetB w (bs ++ lowBits v.toNat n.toNat) 0) := by
  have h := bput_ret A m c bs v n w ha hc (by omega) hv (by omega)
  rw [putR_ok hn.1 hn.2 hf hr] at h
  exact h

theorem bget_ret (A : Option Addr) (m c : Nat) (bs : List Bool) (p n : Int) (w : World) (ha : Row .u8 w A m (pack bs)) (hc : m ≤ c ∧ c ≤ 9223372036854775807) (hl : bs.length ≤ 330000) (hp : -9223372036854775808 ≤ p ∧ p ≤ 9223372036854775807) (hn : -9223372036854775808 ≤ n ∧ n ≤ 9223372036854775807) :
    Calls Tryd.prog 15 #[.agg #[.slice A m c, .int .i64 (bs.length : Nat)], .int .i64 p, .int .i64 n] w fun e w' => e = .returned (.tuple #[.int .u64 ((getR bs p n).1 : Nat), .int .i64 (getR bs p n).2]) ∧ Below w.heap.size w w' :=
  bget_any A m c bs p n w ⟨ha, hc⟩ hl hp hn
theorem getR_ok {bs : List Bool} {p n : Int} (hp : 0 ≤ p) (h0 : 0 ≤ n) (h1 : n ≤ 64) (h2 : p ≤ (bs.length : Int) - n) : getR bs p n = (bval ((bs.drop p.toNat).take n.toNat), 0) := by
  unfold getR; rw [if_neg (by omega), if_neg (by omega)]
theorem bget_ok (A : Option Addr) (m c : Nat) (bs : List Bool) (p n : Int) (w : World) (ha : Row .u8 w A m (pack bs)) (hc : m ≤ c ∧ c ≤ 9223372036854775807) (hl : bs.length ≤ 330000) (hp : 0 ≤ p) (hn : 0 ≤ n ∧ n ≤ 64) (hr : p ≤ (bs.length : Int) - n) :
    Calls Tryd.prog 15 #[.agg #[.slice A m c, .int .i64 (bs.length : Nat)], .int .i64 p, .int .i64 n] w fun e w' => ∃ y : Nat, e = .returned (.tuple #[.int .u64 (y : Int), .int .i64 0]) ∧ Hid (y = bval ((bs.drop p.toNat).take n.toNat)) ∧ Below w.heap.size w w' := by
  have h := bget_ret A m c bs p n w ha hc hl (by omega) (by omega)
  rw [getR_ok hp hn.1 hn.2 hr] at h
  exact h.mono fun e w' ⟨he, hb⟩ => ⟨_, he, Lib.hid rfl, hb⟩

end Go.Proofs.YtpohaikbbfochaaDoor
