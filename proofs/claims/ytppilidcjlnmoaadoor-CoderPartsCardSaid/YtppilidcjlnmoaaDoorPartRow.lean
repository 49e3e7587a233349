/-
  The first ones of a row.
-/
import Derived.Test.YtppilidcjlnmoaaDoorSt
namespace Go.Proofs.YtppilidcjlnmoaaDoor
open Go.RowKit Cad Cad.Bit
theorem part_row2 {k : IntKind} {w : World} {lo hi : Nat} {A : Option Addr} {n : Nat} {xs : List Int} (h : RowIn k w lo hi A n xs) {j : Nat} (hj : j ≤ n) : RowIn k w lo hi A j (xs.take j) := by
  refine ⟨by rw [List.length_take, h.len]; omega, fun hp => ?_⟩
  obtain ⟨b, off, e, h1, h2, hc⟩ := h.2 (by omega)
  exact ⟨b, off, e, h1, h2, fun i hi => by rw [hc i (by omega), nth_take hi]⟩
theorem within_take2 {lo hi : Int} {xs : List Int} (h : Within lo hi xs) (j : Nat) : Within lo hi (xs.take j) := fun x hx => h x (List.mem_of_mem_take hx)
end Go.Proofs.YtppilidcjlnmoaaDoor
