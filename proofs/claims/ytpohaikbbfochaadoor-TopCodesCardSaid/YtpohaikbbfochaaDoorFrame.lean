/-
  Opening arguments: a slice of integers, as a row with its capacity; a struct of integers and slices. Over any program.
-/
import Derived.Test.YtpohaikbbfochaaDoorKit
import Derived.ProofKit
import Derived.OpenShut
import Derived.ChangeOld
import Derived.Lib.SmallJoins
namespace Cad
open Go Go.RowKit Go.ChangeShapes Go.WideShapes

theorem lt_of_cell {w : World} {b o : Nat} {v : Value} (h : w.cell? ⟨b, o, none⟩ = some v) : b < w.heap.size := by
  rcases Nat.lt_or_ge b w.heap.size with hlt | hge
  · exact hlt
  · unfold World.cell? at h; rw [Array.getElem?_eq_none hge] at h; cases h

theorem array7 {α : Type} {cs : Array α} (h : cs.size = 7) : ∃ c0 c1 c2 c3 c4 c5 c6, cs = #[c0, c1, c2, c3, c4, c5, c6] := by
  obtain ⟨l⟩ := cs
  match l, h with
  | [c0, c1, c2, c3, c4, c5, c6], _ => exact ⟨c0, c1, c2, c3, c4, c5, c6, rfl⟩

section
variable {H : Type} {enc : TypeId × Value → H} {P : Program} {w : World} {base : Nat} {held : Bool}
/-- What a slice of integers that can be read reads as. -/
theorem open_rowc {t e : TypeId} {k : IntKind} {fuel : Nat} {a : Option Addr} {len cap : Nat} {x : DataW H × List MemPlace} (ht : P.underlying t = some (.slice e)) (he : P.underlying e = some (.int k)) (hc : P.cellsOf e = 1)
    (h : DataW.trod enc P w base (fun _ => true) held fuel t [.slice a len cap] = some x) : ∃ xs, RowC k w a len cap xs ∧ ∀ n ∈ xs, (Lit.int k n).wf = true := by
  rcases open_ints ht he hc h with ⟨hcs, _⟩ | ⟨ad, l, c, zs, hcs, _, hl, hm, hz, _, hcell, hwz⟩
  · simp only [List.cons.injEq, Value.slice.injEq, and_true] at hcs
    obtain ⟨rfl, rfl, rfl⟩ := hcs
    exact ⟨[], ⟨Row.nil, Nat.le_refl _, Nat.zero_le _⟩, fun n hn => by cases hn⟩
  · simp only [List.cons.injEq, Value.slice.injEq, and_true] at hcs
    obtain ⟨rfl, rfl, rfl⟩ := hcs
    have hz' : zs.length = cap := by simpa using hz
    refine ⟨zs.take len, ⟨⟨by rw [List.length_take]; omega, fun hn => ?_⟩, hl, by simp only [maxLen] at hm; omega⟩, fun n hn => hwz n (List.mem_of_mem_take hn)⟩
    obtain ⟨b, off, spot⟩ := ad
    have hc0 := hcell 0 (by omega)
    have hs : spot = none := by simpa [Addr.add] using World.cell?_spot hc0
    subst hs
    have key : ∀ j, j < len → w.cell? ⟨b, off + j, none⟩ = some (.int k (nth (zs.take len) j)) := fun j hj => by
      have := hcell j (by omega)
      rw [nth_take hj]
      have e1 : (⟨b, off, none⟩ : Addr).add j = ⟨b, off + j, none⟩ := by
        unfold Addr.add
        by_cases h0 : j = 0 <;> simp [h0]
      rw [e1] at this
      exact this
    exact ⟨b, off, rfl, lt_of_cell (key 0 hn), key⟩
/-- The same of a value whose form is not known yet: a field of a struct. -/
theorem open_rowv {t e : TypeId} {k : IntKind} {fuel : Nat} {v : Value} {x : DataW H × List MemPlace} (ht : P.underlying t = some (.slice e)) (he : P.underlying e = some (.int k)) (hc : P.cellsOf e = 1)
    (h : DataW.trod enc P w base (fun _ => true) held fuel t [v] = some x) : ∃ a len cap xs, v = .slice a len cap ∧ RowC k w a len cap xs ∧ ∀ n ∈ xs, (Lit.int k n).wf = true := by
  have hv : ∃ a len cap, v = .slice a len cap := by
    rcases open_ints ht he hc h with ⟨hcs, _⟩ | ⟨ad, l, c, zs, hcs, _⟩
    · simp only [List.cons.injEq, and_true] at hcs; exact ⟨_, _, _, hcs⟩
    · simp only [List.cons.injEq, and_true] at hcs; exact ⟨_, _, _, hcs⟩
  obtain ⟨a, len, cap, rfl⟩ := hv
  obtain ⟨xs, h1, h2⟩ := open_rowc ht he hc h
  exact ⟨a, len, cap, xs, rfl, h1, h2⟩
end

theorem wf_u8 {xs : List Int} (h : ∀ n ∈ xs, (Lit.int .u8 n).wf = true) : Within 0 255 xs := fun x hx => bounds_u8 (h x hx)
theorem wf_i32 {xs : List Int} (h : ∀ n ∈ xs, (Lit.int .i32 n).wf = true) : Within (-2147483648) 2147483647 xs := fun x hx => bounds_i32 (h x hx)
theorem wf_u32 {xs : List Int} (h : ∀ n ∈ xs, (Lit.int .u32 n).wf = true) : Within 0 4294967295 xs := fun x hx => bounds_u32 (h x hx)
theorem wf_i64 {xs : List Int} (h : ∀ n ∈ xs, (Lit.int .i64 n).wf = true) : Within (-9223372036854775808) 9223372036854775807 xs := fun x hx => bounds_i64 (h x hx)

end Cad
