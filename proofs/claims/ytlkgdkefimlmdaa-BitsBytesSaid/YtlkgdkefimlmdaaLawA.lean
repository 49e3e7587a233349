/-
  The statements' own helper: the n lowest bits of a number.
-/
import Derived.Test.YtlkgdkefimlmdaaBitD
import Derived.Test.YtlkgdkefimlmdaaRefA
namespace Go.Proofs.Ytlkgdkefimlmdaa
open Go.RowKit Cad Cad.Bit
set_option linter.unusedVariables false

theorem cut_any (v n : Nat) (w : World) (hv : v < 18446744073709551616) (hn : n ≤ 64) :
    Calls Try.prog 11 #[.int .u64 v, .int .i64 n] w fun e w' => e = .returned (.int .u64 ((v % 2 ^ n : Nat) : Int)) ∧ w = w' := by
  by_cases h : n < 64
  · have HM : Hid (bits .and .u64 (v : Int) (IntKind.u64.wrap (IntKind.u64.wrap (2 ^ n) - 1)) = ((v % 2 ^ n : Nat) : Int)) := by
      have hp := Nat.two_pow_pos n
      have hlt : 2 ^ n < 18446744073709551616 := Nat.lt_of_lt_of_le (Nat.pow_lt_pow_right (by omega) h) (by decide)
      have e1 : IntKind.u64.wrap (IntKind.u64.wrap ((2 : Int) ^ n) - 1) = ((2 ^ n - 1 : Nat) : Int) := by
        rw [pow_cast, u64_nat hlt, IntWalk.u64_in _ (by omega)]; omega
      rw [e1, u64_and_nat _ _ hv (by omega), Nat.and_two_pow_sub_one_eq_mod]; rfl
    go_enter Try.func11, Try.ntmps11
    go_wp2
    go_ret
    exact ⟨ret_int HM.out, rfl⟩
  · obtain rfl : n = 64 := by omega
    go_enter Try.func11, Try.ntmps11
    go_wp2
    go_ret
    exact ⟨ret_int (by rw [Nat.mod_eq_of_lt hv]), rfl⟩

end Go.Proofs.Ytlkgdkefimlmdaa
