/-
  Contracts of the reference of chapter 8.
-/
import Derived.Test.YtppilidcjlnmoaaRefR
import Derived.Test.YtppilidcjlnmoaaDualC
namespace Go.Proofs.Ytppilidcjlnmoaa
open Go.RowKit Cad Cad.Bit Cad.Code
set_option linter.unusedVariables false
set_option linter.unusedSimpArgs false

theorem rdstart_ok (w : World) : Calls Try.prog 26 #[] w fun e w' => e = .returned (.agg #[.int .i64 10, .int .i64 10, .int .u64 16384, .int .u64 16384]) ∧ Below w.heap.size w w' := by
  go_enter Try.func26, Try.ntmps26
  go_wp2
  refine bodyPost_ret (v := .agg #[.int .i64 10, .int .i64 10, .int .u64 16384, .int .u64 16384]) (by simp [results, Try.results26, go_sem]) rfl ?_
  exact ⟨rfl, (Below.refl _ _).alloc (Nat.le_refl _) _⟩


end Go.Proofs.Ytppilidcjlnmoaa
