/-
  Contract of the reference's comparison of bits, and of the size that the statements consider.
-/
import Derived.Test.YtppilidcjlnmoaaDoorRefA
import Derived.Test.YtppilidcjlnmoaaDoorStr
namespace Go.Proofs.YtppilidcjlnmoaaDoor
open Go.RowKit Cad Cad.Bit
set_option linter.unusedVariables false
set_option linter.unusedSimpArgs false

set_option maxHeartbeats 400000 in
theorem rsame_any (A B : Option Addr) (n m c d : Nat) (N M : Int) (xs ys : List Int) (w : World) (ha : Row .u8 w A n xs) (hb : Row .u8 w B m ys) (hx : Within 0 255 xs) (hy : Within 0 255 ys) :
    Calls Tryd.prog 22 #[.agg #[.slice A n c, .int .i64 N], .agg #[.slice B m d, .int .i64 M]] w fun e w' => e = .returned (.bool (decide (N = M ∧ xs = ys))) ∧ Below w.heap.size w w' := by
  by_cases h : N = M
  · subst h
    have s1 : (convert 22 9 (.slice A n c)).run Tryd.prog ((w.alloc (.cells #[.slice A n c, .int .i64 N] 24)).alloc (.cells #[.slice B m d, .int .i64 N] 24)) = .ok (.string (strOfNums xs)) _ := run_str Tryd.underlying22 Tryd.underlying5 Tryd.underlying9 c ((ha.alloc _).alloc _)
    have s2 : (convert 22 9 (.slice B m d)).run Tryd.prog ((w.alloc (.cells #[.slice A n c, .int .i64 N] 24)).alloc (.cells #[.slice B m d, .int .i64 N] 24)) = .ok (.string (strOfNums ys)) _ := run_str Tryd.underlying22 Tryd.underlying5 Tryd.underlying9 d ((hb.alloc _).alloc _)
    go_enter Tryd.func22, Tryd.ntmps22
    go_wp2
    go_ret
    refine ⟨ret_bool ?_, ?_⟩
    · rw [str_eq hx hy]; simp
    · go_grown
  · go_enter Tryd.func22, Tryd.ntmps22
    go_wp2
    go_ret
    refine ⟨ret_bool (decide_eq_false (fun h2 => h h2.1)).symm, ?_⟩
    go_grown
theorem rsame_eq (A B : Option Addr) (n m c d : Nat) (N M : Int) (xs ys : List Int) (w : World) (ha : Row .u8 w A n xs) (hb : Row .u8 w B m ys) (hx : Within 0 255 xs) (hy : Within 0 255 ys) (hN : N = M) (he : xs = ys) :
    Calls Tryd.prog 22 #[.agg #[.slice A n c, .int .i64 N], .agg #[.slice B m d, .int .i64 M]] w fun e w' => e = .returned (.bool true) ∧ Below w.heap.size w w' :=
  (rsame_any A B n m c d N M xs ys w ha hb hx hy).mono fun e w' h => ⟨by rw [h.1, decide_eq_true ⟨hN, he⟩], h.2⟩
theorem rsame_ne (A B : Option Addr) (n m c d : Nat) (N M : Int) (xs ys : List Int) (w : World) (ha : Row .u8 w A n xs) (hb : Row .u8 w B m ys) (hx : Within 0 255 xs) (hy : Within 0 255 ys) (h : ¬ (N = M ∧ xs = ys)) :
    Calls Tryd.prog 22 #[.agg #[.slice A n c, .int .i64 N], .agg #[.slice B m d, .int .i64 M]] w fun e w' => e = .returned (.bool false) ∧ Below w.heap.size w w' :=
  (rsame_any A B n m c d N M xs ys w ha hb hx hy).mono fun e w' hh => ⟨by rw [hh.1, decide_eq_false h], hh.2⟩
/-- Bits that are the same. -/
theorem rsame_bits (A B : Option Addr) (n m c d : Nat) (fs bs : List Bool) (w : World) (ha : Row .u8 w A n (pack fs)) (hb : Row .u8 w B m (pack bs)) (he : fs = bs) :
    Calls Tryd.prog 22 #[.agg #[.slice A n c, .int .i64 (fs.length : Nat)], .agg #[.slice B m d, .int .i64 (bs.length : Nat)]] w fun e w' => e = .returned (.bool true) ∧ Below w.heap.size w w' :=
  rsame_eq A B n m c d _ _ _ _ w ha hb (pack_u8 _) (pack_u8 _) (by rw [he]) (by rw [he])

end Go.Proofs.YtppilidcjlnmoaaDoor
