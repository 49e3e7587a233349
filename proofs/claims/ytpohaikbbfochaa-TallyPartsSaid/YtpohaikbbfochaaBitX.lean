/-
  Bytes of bits, and bits of bytes, plainly.
-/
import Derived.Test.YtpohaikbbfochaaBitW
namespace Cad.Bit
open Go Go.RowKit Cad
set_option linter.unusedVariables false

theorem one_bit {bs : List Bool} {i : Nat} (h : i < bs.length) : (bs.drop i).take 1 = [bs[i]] := by rw [List.drop_eq_getElem_cons h]; rfl
theorem bit_at {bs : List Bool} {i : Nat} (h : i < bs.length) : byteAt bs (i / 8) / 2 ^ (i % 8) % 2 = if bs[i] then 1 else 0 := by
  have p := byte_part (bs := bs) (p := i) (t := 1) (by omega) (by omega)
  rw [one_bit h] at p
  rw [show (2 : Nat) ^ 1 = 2 from rfl] at p
  rw [p]; simp [bval]
theorem unpack_pack_len (bs : List Bool) : (unpack (pack bs)).length = 8 * bytesFor bs.length := by rw [unpack_len, pack_len]
theorem unpack_pack_take (bs : List Bool) : (unpack (pack bs)).take bs.length = bs := by
  have hl := unpack_pack_len bs
  have hlen : bs.length ≤ (unpack (pack bs)).length := by rw [hl]; unfold bytesFor; omega
  apply List.ext_getElem (by rw [List.length_take]; omega)
  intro i h1 h2
  rw [List.getElem_take]
  have hi : i / 8 < bytesFor bs.length := by unfold bytesFor; omega
  have hb : byteAt (unpack (pack bs)) (i / 8) = byteAt bs (i / 8) := by
    have e := byteAt_unpack (bytes := pack bs) (i := i / 8) (by rw [pack_len]; exact hi) (pack_u8 bs)
    rw [nth_pack hi] at e
    omega
  have a := bit_at (bs := unpack (pack bs)) (i := i) (by omega)
  have b := bit_at (bs := bs) h2
  rw [hb, b] at a
  revert a
  cases bs[i] <;> cases (unpack (pack bs))[i] <;> simp
theorem pack_whole {bs : List Bool} (h : bs.length % 8 = 0) : unpack (pack bs) = bs := by
  have h1 := unpack_pack_take bs
  rwa [List.take_of_length_le (by rw [unpack_pack_len]; unfold bytesFor; omega)] at h1

end Cad.Bit
