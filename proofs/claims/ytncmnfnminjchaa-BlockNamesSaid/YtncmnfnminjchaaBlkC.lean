/-
  Blocks, plainly: what unpacking returns; the sum of zeros.
-/
import Derived.Test.YtncmnfnminjchaaBlkB
import Derived.Test.YtncmnfnminjchaaCrcB
namespace Go.Proofs.Ytncmnfnminjchaa
open Go.RowKit Cad Cad.Bit Cad.Crc Cad.Le
set_option linter.unusedVariables false

theorem unp_short {l : List Int} (h : l.length < 4) : unpR l = ([], 24) := by unfold unpR; rw [if_pos h]
theorem unp_many {l : List Int} (h : 41254 < l.length) : unpR l = ([], 4) := by unfold unpR; rw [if_neg (by omega), if_pos h]
theorem unp_good {l : List Int} {m : Nat} (hl : l.length = m + 4) (hm : m ≤ 41250) (h : leB (Crc.sum (l.take m)) 4 = l.drop m) : unpR l = (unpack (l.take m), 0) := by
  unfold unpR; rw [if_neg (by omega), if_neg (by omega), hl, Nat.add_sub_cancel, if_pos h]
theorem unp_sum {l : List Int} {m : Nat} (hl : l.length = m + 4) (hm : m ≤ 41250) (h : ¬ leB (Crc.sum (l.take m)) 4 = l.drop m) : unpR l = ([], 22) := by
  unfold unpR; rw [if_neg (by omega), if_neg (by omega), hl, Nat.add_sub_cancel, if_neg h]
theorem unp_sealed' {l : List Int} (h : l.length ≤ 41250) : unpR (sealed l) = (unpack l, 0) := by
  have e1 : (sealed l).take l.length = l := by unfold sealed; exact List.take_left' rfl
  have e2 : (sealed l).drop l.length = leB (Crc.sum l) 4 := by unfold sealed; exact List.drop_left' rfl
  rw [unp_good (m := l.length) (sealed_len l) h (by rw [e1, e2]), e1]
theorem unp_sealed {bs : List Bool} (h : bs.length ≤ 330000) : unpR (sealed (pack bs)) = (unpack (pack bs), 0) :=
  unp_sealed' (by rw [pack_len]; unfold bytesFor; omega)
theorem unp_c (A : Option Addr) (n c : Nat) (l : List Int) (w : World) (r : List Bool) (er : Int) (ha : Row .u8 w A n l) (hl : Within 0 255 l) (hc : n ≤ c ∧ c ≤ 9223372036854775807) (he : unpR l = (r, er)) :
    Calls Try.prog 11 #[.slice A n c] w (RetB w r er) := by
  have h := unp_ret A n c l w ha hl hc
  rw [he] at h; exact h
theorem of_c (A : Option Addr) (n c : Nat) (l : List Int) (w : World) (ha : Row .u8 w A n l) (hl : Within 0 255 l) (hc : n ≤ c ∧ c ≤ 9223372036854775807) (hn : n ≤ 41250) :
    Calls Try.prog 23 #[.slice A n c] w (RetB w (unpack l) 0) := by
  have h := bof_ret A n c l w ha hl hc
  have e : ofR l = (unpack l, 0) := by unfold ofR; rw [if_neg (by rw [ha.len]; omega)]
  rw [e] at h; exact h
theorem bsize_c (n m : Nat) (w : World) (h : n ≤ 330000) (hm : (n + 7) / 8 + 4 = m) :
    Calls Try.prog 20 #[.int .i64 (n : Int)] w fun e w' => e = .returned (.tuple #[.int .i64 (m : Int), .int .i64 0]) ∧ w = w' := by
  subst hm; exact bsize_ok n w h
theorem bpack_three (A : Option Addr) (c : Nat) (w : World) (ha : Row .u8 w A 1 [0]) (hc : 1 ≤ c ∧ c ≤ 9223372036854775807) : Calls Try.prog 16 #[.agg #[.slice A 1 c, .int .i64 3]] w (RetY w [0, 141, 239, 2, 210] 0) := by
  have h := bpack_ok A 1 c (List.replicate 3 false) w (by exact ha) hc (by decide)
  have e : sealed (pack (List.replicate 3 false)) = [0, 141, 239, 2, 210] := by decide +kernel
  rw [e] at h; exact h
theorem not_valid1 : ¬ Valid [] 1 := by decide
theorem zeros_within (n : Nat) : Within 0 255 (zeros n) := by
  intro x hx
  unfold zeros at hx
  rw [List.mem_replicate] at hx
  omega
theorem row_made {k : IntKind} {w : World} {n : Nat} {e : TypeId} {g : Nat} (hg : g = w.heap.size) : Row k (w.alloc (.cells (zeroRow k n) e)) (some ⟨g, 0, none⟩) n (zeros n) := by
  subst hg
  have h := row_new k w (zeros n) e
  rw [zeros_len] at h
  exact h
theorem row_new' {k : IntKind} {w : World} {xs : List Int} {t : TypeId} {g : Nat} (hg : g = w.heap.size) : Row k (w.alloc (.cells (xs.map (Value.int k)).toArray t)) (some ⟨g, 0, none⟩) xs.length xs := by
  subst hg; exact row_new k w xs t

end Go.Proofs.Ytncmnfnminjchaa
