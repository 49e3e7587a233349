/-
  Texts joined (RefV, RefS, RefZ).
-/
import Derived.Test.YtpohaikbbfochaaDoorPk8
/-
  Contracts of the reference of chapter 6: Got, Read.
-/
namespace Go.Proofs.YtpohaikbbfochaaDoor
open Go.RowKit Cad Cad.Bit Cad.Code
set_option linter.unusedVariables false
set_option linter.unusedSimpArgs false


/-- What Got returns. -/
def ugR (bs : List Bool) (i : Nat) : Int × Int := match readU (bs.drop i) with
  | .ok n m => ((n : Nat), ((i + m : Nat) : Int))
  | .err _ => (-1, 0)
theorem ones_next {l : List Bool} {j : Nat} (hj : j ≤ ones l) (hb : bitAt l j = true) : j + 1 ≤ ones l := by
  rcases Nat.lt_or_ge j (ones l) with h | h
  · exact h
  · exfalso
    obtain rfl : j = ones l := by omega
    rcases Nat.lt_or_ge (ones l) l.length with h2 | h2
    · have := ones_end h2
      rw [List.getElem?_eq_getElem h2] at this
      rw [bitAt_eq h2] at hb
      rw [hb] at this; cases this
    · unfold bitAt at hb
      rw [List.getD_eq_getElem?_getD, List.getElem?_eq_none h2] at hb; cases hb
theorem ones_stop {l : List Bool} {j : Nat} (hj : j ≤ ones l) (hb : bitAt l j = false) : j = ones l := by
  rcases Nat.lt_or_ge j (ones l) with h | h
  · exfalso
    have h2 := ones_get h
    unfold bitAt at hb
    rw [List.getD_eq_getElem?_getD, h2] at hb; cases hb
  · omega
theorem bitAt_drop (l : List Bool) (i j : Nat) : bitAt (l.drop i) j = bitAt l (i + j) := by unfold bitAt; rw [List.getD_eq_getElem?_getD, List.getD_eq_getElem?_getD, List.getElem?_drop]
theorem readU_of {l : List Bool} {j : Nat} (h : j = min (ones l) 48) : readU l = if j = 48 then .ok 48 48 else if j < l.length then .ok j (j + 1) else .err 24 := by
  unfold readU; rw [ones_take, ← h]

end Go.Proofs.YtpohaikbbfochaaDoor

/-
  Contracts of the reference: reading of chapters 7 and 8.
-/
namespace Go.Proofs.YtpohaikbbfochaaDoor
open Go.RowKit Cad Cad.Bit Cad.Code
set_option linter.unusedVariables false
set_option linter.unusedSimpArgs false


/-- What Got returns. -/
def rgR (bs : List Bool) (i k : Nat) : Int × Int × Int := match readR (bs.drop i) k with
  | .ok v n => ((v : Nat), ((i + n : Nat) : Int), 0)
  | .err e => (0, 0, (e : Nat))
theorem readR_nil {l : List Bool} (k : Nat) (h : l = []) : readR l k = .err 24 := by subst h; rfl

theorem rgR_rrR {bs : List Bool} {i k : Nat} (hk : k ≤ 24) : rrR bs (i : Nat) (k : Nat) = rgR bs i k := by
  unfold rrR rgR
  rw [if_neg (by omega), if_neg (by omega), Int.toNat_natCast, Int.toNat_natCast]
  cases readR (bs.drop i) k with
  | err e => rfl
  | ok v n => simp
end Go.Proofs.YtpohaikbbfochaaDoor

/-
  Contracts of the reference: reading of chapter 8.
-/
namespace Go.Proofs.YtpohaikbbfochaaDoor
open Go.RowKit Cad Cad.Bit Cad.Code
set_option linter.unusedVariables false
set_option linter.unusedSimpArgs false


/-- What Got returns. -/
def gdR (bs : List Bool) (i : Nat) (d : Dual) : Int × Int × Int := match readD (bs.drop i) d with
  | .ok v n => ((v : Nat), ((i + n : Nat) : Int), 0)
  | .err e => (0, 0, (e : Nat))

end Go.Proofs.YtpohaikbbfochaaDoor
