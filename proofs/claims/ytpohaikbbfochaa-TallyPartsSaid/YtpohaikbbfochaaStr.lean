/-
  Bytes as a string.
-/
import Derived.Test.YtpohaikbbfochaaKit
import Derived.Lib.Bytes
namespace Cad
open Go Go.RowKit
set_option linter.unusedVariables false

theorem run_str {P : Program} {src dst e : TypeId} (hs : P.underlying src = some (.slice e)) (he : P.underlying e = some (.int .u8)) (hd : P.underlying dst = some .string) {w : World} {A : Option Addr} {n : Nat} (c : Nat) {xs : List Int} (h : Row .u8 w A n xs) :
    (convert src dst (.slice A n c)).run P w = .ok (.string (strOfNums xs)) w := by
  by_cases hn : 0 < n
  · obtain ⟨b, off, rfl, _, hc⟩ := h.at hn
    exact run_convert_bytes_arg w src e hs he b off n c xs h.len (fun i hi => by rw [hc i hi]; rfl) dst hd
  · obtain rfl : n = 0 := by omega
    have hx : xs = [] := List.eq_nil_of_length_eq_zero h.len
    subst hx
    cases A with
    | none => exact run_convert_bytes_nil w src e hs he 0 c dst hd
    | some ad =>
      rw [run_convert_bytes_string w src dst e _ 0 c hs he hd]
      have hl : (loadCells ad 0).run P w = .ok (([] : List Int).map (Value.int .u8)).toArray w := by
        have := run_loadCells_list (P := P) w ad [] (fun j v hj => by simp at hj)
        simpa using this
      rw [run_bytesToString w ad 0 c [] hl]
      rfl

theorem strOfNums_inj {xs ys : List Int} (hx : Within 0 255 xs) (hy : Within 0 255 ys) (h : strOfNums xs = strOfNums ys) : xs = ys := by
  have h1 : (xs.map fun n => UInt8.ofNat n.toNat) = (ys.map fun n => UInt8.ofNat n.toNat) := by
    have := congrArg (fun s : ByteArray => s.data.toList) h
    simpa [strOfNums] using this
  have hl : xs.length = ys.length := by have := congrArg List.length h1; simpa using this
  apply List.ext_getElem hl
  intro i p q
  have e := congrArg (fun l : List UInt8 => l[i]?) h1
  simp only [List.getElem?_map, List.getElem?_eq_getElem p, List.getElem?_eq_getElem q, Option.map_some, Option.some.injEq] at e
  have a := hx _ (List.getElem_mem p)
  have b := hy _ (List.getElem_mem q)
  have e2 := congrArg UInt8.toNat e
  rw [UInt8.toNat_ofNat', UInt8.toNat_ofNat'] at e2
  omega
theorem strOfNums_iff {xs ys : List Int} (hx : Within 0 255 xs) (hy : Within 0 255 ys) : strOfNums xs = strOfNums ys ↔ xs = ys := ⟨strOfNums_inj hx hy, fun h => by rw [h]⟩

theorem str_eq {xs ys : List Int} (hx : Within 0 255 xs) (hy : Within 0 255 ys) : ((strOfNums xs).toList == (strOfNums ys).toList) = decide (xs = ys) := by
  by_cases h : xs = ys
  · subst h; simp
  · rw [decide_eq_false h]
    refine beq_eq_false_iff_ne.2 (fun e => h (strOfNums_inj hx hy ?_))
    rw [Lib.strOfNums_toList, Lib.strOfNums_toList] at e
    show ByteArray.mk _ = ByteArray.mk _
    congr 1
    exact congrArg List.toArray e
/-- Bytes, as a string, against bytes that are written out. -/
theorem str_lit {xs : List Int} {l : List UInt8} (hx : Within 0 255 xs) : ((strOfNums xs).toList == l) = decide (xs = l.map fun b => (b.toNat : Int)) := by
  rw [Lib.strOfNums_toList, Bool.eq_iff_iff, beq_iff_eq, decide_eq_true_iff]
  constructor
  · intro e
    subst e
    apply List.ext_getElem (by simp [Lib.bytesOf])
    intro i p q
    have a := hx _ (List.getElem_mem p)
    simp only [Lib.bytesOf, List.getElem_map]
    rw [UInt8.toNat_ofNat']
    omega
  · intro e
    subst e
    apply List.ext_getElem (by simp [Lib.bytesOf])
    intro i p q
    simp [Lib.bytesOf]

end Cad
