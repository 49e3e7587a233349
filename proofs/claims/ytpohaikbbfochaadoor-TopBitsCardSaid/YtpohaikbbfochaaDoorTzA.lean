/-
  Contract of the library's count of trailing zeros.
-/
import Derived.Test.YtpohaikbbfochaaDoorRows
import Derived.Test.YtpohaikbbfochaaDoorTz
import Derived.Test.YtpohaikbbfochaaDoorSt
namespace Go.Proofs.YtpohaikbbfochaaDoor
open Go.RowKit Cad Cad.Bit Cad.Code
set_option linter.unusedVariables false
set_option linter.unusedSimpArgs false

/-- The library's table lies where it was laid. -/
def Tab (w : World) : Prop := Row .u8 w (some ⟨0, 0, none⟩) 64 dbTab

set_option maxHeartbeats 400000 in
theorem ntz_some (x i q : Nat) (w : World) (hx : x < 18446744073709551616) (hi : i < 64) (h : x = 2 ^ i * (2 * q + 1)) (ht : Tab w) :
    Calls Tryd.prog 46 #[.int .u64 (x : Int)] w fun e w' => e = .returned (.int .i64 (i : Int)) ∧ w = w' := by
  have hpos : 0 < x := by rw [h]; exact Nat.mul_pos (Nat.two_pow_pos i) (by omega)
  have e1 := low_one hx h
  obtain ⟨hJ, hT⟩ := dbAt_ok hi
  obtain ⟨P, hP⟩ : ∃ P, 2 ^ i = P := ⟨_, rfl⟩
  obtain ⟨J, hJJ⟩ : ∃ J, dbAt i = J := ⟨_, rfl⟩
  have e2 : IntKind.u64.wrap ((P : Int) * 285870213051353865) / 288230376151711744 = (J : Int) := by
    rw [IntKind.wrap_u64, ← hJJ, ← hP]; unfold dbAt; omega
  rw [hP] at e1
  rw [hJJ] at hJ hT
  obtain ⟨b, o, hb, _, hc⟩ := ht.at (by decide)
  simp only [Option.some.injEq, Addr.mk.injEq] at hb
  obtain ⟨rfl, rfl, _⟩ := hb
  have c1 : w.cell? ⟨0, J, none⟩ = some (.int .u8 (i : Int)) := by
    have := hc J hJ
    rwa [hT, Nat.zero_add] at this
  clear h hP hJJ hc hT
  go_enter Tryd.func46, Tryd.ntmps46
  go_wp2
  go_ret
  exact ⟨rfl, rfl⟩
theorem ntz_zero (w : World) :
    Calls Tryd.prog 46 #[.int .u64 0] w fun e w' => e = .returned (.int .i64 64) ∧ w = w' := by
  go_enter Tryd.func46, Tryd.ntmps46
  go_wp2
  go_ret
  exact ⟨rfl, rfl⟩
/-- The trailing zeros of a word whose bits are turned: the ones that it begins with. -/
theorem ntz_not (l : List Bool) (z : Int) (w : World) (hl : l.length ≤ 63) (hz : z = 18446744073709551615 - (bval l : Nat)) (ht : Tab w) :
    Calls Tryd.prog 46 #[.int .u64 z] w fun e w' => ∃ n : Nat, e = .returned (.int .i64 (n : Int)) ∧ Hid (n = ones l) ∧ w = w' := by
  have hb : bval l < 18446744073709551616 := Nat.lt_of_lt_of_le (bval_lt l) (pow_le_u64 (by omega))
  obtain ⟨i, q, hi, h1, h2⟩ := not_word hb
  rw [ones_word' hl] at hi
  have hlt : i < 64 := by have := ones_le l; omega
  have e : z = ((18446744073709551615 - bval l : Nat) : Int) := by rw [hz]; omega
  rw [e]
  exact (ntz_some _ i q w (by omega) hlt (h1 hlt) ht).mono fun e w' ⟨he, hw⟩ => ⟨i, he, Lib.hid hi, hw⟩

end Go.Proofs.YtpohaikbbfochaaDoor
