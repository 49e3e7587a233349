/-
  What the machine's operations on words make of bits.
-/
import Derived.Test.YtpohaikbbfochaaDoorBitP
namespace Cad.Bit
open Go Go.RowKit Cad
set_option linter.unusedVariables false

theorem and7 (m : Nat) (h : m < 4611686018427387904) : bits .and .i64 (m : Int) 7 = ((m % 8 : Nat) : Int) := by
  have hx : m &&& 7 = m % 8 := Nat.and_two_pow_sub_one_eq_mod m 3
  show IntKind.i64.wrap ((BitVec.ofInt 64 (m : Int) &&& BitVec.ofInt 64 7).toNat : Int) = _
  have h1 : (BitVec.ofInt 64 (m : Int)).toNat = m := by
    rw [BitVec.ofInt_natCast, BitVec.toNat_ofNat]; exact Nat.mod_eq_of_lt (by omega)
  have h2 : (BitVec.ofInt 64 7).toNat = 7 := by rfl
  rw [BitVec.toNat_and, h1, h2, hx, IntKind.wrap_i64]
  omega

theorem pow_cast (s : Nat) : (2 : Int) ^ s = ((2 ^ s : Nat) : Int) := by simp
theorem pow_le_256 {t : Nat} (h : t ≤ 8) : 2 ^ t ≤ 256 := Nat.le_trans (Nat.pow_le_pow_right (by omega) h) (by decide)
theorem pow_le_u64 {t : Nat} (h : t ≤ 64) : 2 ^ t ≤ 18446744073709551616 := Nat.le_trans (Nat.pow_le_pow_right (by omega) h) (by decide)
theorem mask8 {t : Nat} (h : t ≤ 8) : ((2 : Int) ^ t - 1) % 256 = ((2 ^ t - 1 : Nat) : Int) := by
  have h1 := pow_le_256 h
  have h2 := Nat.two_pow_pos t
  rw [pow_cast]; omega
theorem u64_nat {n : Nat} (h : n < 18446744073709551616) : IntKind.u64.wrap (n : Int) = (n : Int) := IntWalk.u64_in _ (by omega)

/-- One round of getting bits. -/
theorem get_step {bs : List Bool} {p h s t : Nat} (hs : (p + h) % 8 = s) (hst : s + t ≤ 8) (hp : p + h + t ≤ bs.length) (hh : h + t ≤ 64) :
    bits .or .u64 ((bval ((bs.drop p).take h) : Nat) : Int)
        (IntKind.u64.wrap (IntKind.u64.wrap (bits .and .u8 (((byteAt bs ((p + h) / 8) : Nat) : Int) / 2 ^ s) ((2 ^ t - 1) % 256)) * 2 ^ h))
      = ((bval ((bs.drop p).take (h + t)) : Nat) : Int) := by
  have hB := byteAt_lt bs ((p + h) / 8)
  have hq : byteAt bs ((p + h) / 8) / 2 ^ s < 256 := Nat.lt_of_le_of_lt (Nat.div_le_self _ _) hB
  have hm : 2 ^ t - 1 < 256 := by have := pow_le_256 (t := t) (by omega); have := Nat.two_pow_pos t; omega
  have hx : byteAt bs ((p + h) / 8) / 2 ^ s % 2 ^ t = bval ((bs.drop (p + h)).take t) := by
    rw [← hs]; exact byte_part (by omega) hp
  have hlx : bval ((bs.drop (p + h)).take t) < 2 ^ t := by
    have := bval_lt ((bs.drop (p + h)).take t)
    exact Nat.lt_of_lt_of_le this (Nat.pow_le_pow_right (by omega) (List.length_take_le _ _))
  have hlt : bval ((bs.drop p).take h) < 2 ^ h := by
    have := bval_lt ((bs.drop p).take h)
    exact Nat.lt_of_lt_of_le this (Nat.pow_le_pow_right (by omega) (List.length_take_le _ _))
  have hmul : bval ((bs.drop (p + h)).take t) * 2 ^ h < 18446744073709551616 := by
    have h1 : bval ((bs.drop (p + h)).take t) * 2 ^ h < 2 ^ t * 2 ^ h := Nat.mul_lt_mul_of_pos_right hlx (Nat.two_pow_pos h)
    rw [← Nat.pow_add] at h1
    exact Nat.lt_of_lt_of_le h1 (pow_le_u64 (by omega))
  rw [mask8 (by omega), pow_cast s, ← Int.natCast_ediv, u8_and_nat _ _ hq hm, Nat.and_two_pow_sub_one_eq_mod, hx, u64_nat (Nat.lt_of_lt_of_le hlx (pow_le_u64 (by omega))), pow_cast h, ← Int.natCast_mul, u64_nat hmul,
    u64_or_nat _ _ (Nat.lt_of_lt_of_le hlt (pow_le_u64 (by omega))) hmul, Nat.or_comm, nat_join h _ _ (Nat.mul_mod_left _ _) hlt]
  congr 1
  rw [List.take_add, bval_append, List.drop_drop, List.length_take, List.length_drop, Nat.min_eq_left (by omega), Nat.mul_comm]
  omega

/-- The byte that one round of putting bits stores. -/
theorem put_word {y u s t : Nat} (hu : u < 18446744073709551616) (hy : y < 2 ^ s) (h1 : 1 ≤ t) (hst : s + t ≤ 8) :
    bits .or .u8 (y : Int) (((bits .and .u64 (u : Int) (IntKind.u64.wrap (IntKind.u64.wrap (2 ^ t) - 1))) % 256) * 2 ^ s % 256) = ((y + 2 ^ s * (u % 2 ^ t) : Nat) : Int) := by
  have hp := Nat.two_pow_pos t
  have hm : 2 ^ t ≤ 256 := pow_le_256 (by omega)
  have hx : u % 2 ^ t < 2 ^ t := Nat.mod_lt _ hp
  have hmul : u % 2 ^ t * 2 ^ s < 256 := by
    have h1 : u % 2 ^ t * 2 ^ s < 2 ^ t * 2 ^ s := Nat.mul_lt_mul_of_pos_right hx (Nat.two_pow_pos s)
    rw [← Nat.pow_add] at h1
    exact Nat.lt_of_lt_of_le h1 (pow_le_256 (by omega))
  have e1 : IntKind.u64.wrap (IntKind.u64.wrap ((2 : Int) ^ t) - 1) = ((2 ^ t - 1 : Nat) : Int) := by
    rw [pow_cast, u64_nat (by omega), IntWalk.u64_in _ (by omega)]; omega
  rw [e1, u64_and_nat _ _ hu (by omega), Nat.and_two_pow_sub_one_eq_mod, pow_cast s]
  have e2 : ((u % 2 ^ t : Nat) : Int) % 256 = ((u % 2 ^ t : Nat) : Int) := by omega
  rw [e2, ← Int.natCast_mul]
  have e3 : ((u % 2 ^ t * 2 ^ s : Nat) : Int) % 256 = ((u % 2 ^ t * 2 ^ s : Nat) : Int) := by omega
  rw [e3, u8_or_nat _ _ (Nat.lt_of_lt_of_le hy (pow_le_256 (by omega))) hmul, Nat.or_comm, nat_join s _ _ (Nat.mul_mod_left _ _) hy, Nat.mul_comm, Nat.add_comm]

end Cad.Bit
