/-
  No cell of these rows narrows 'for every input' (looked for: loops, veiled, ifaces, maps, wideKeys, modest, calm, conditions, laid).
  DERIVED. THE GIVEN ROWS OF THIS SEAT. 6 by the template 'for every input the law returns true; each argument reads behind the call as it read before'; 0 by the template 'total and deterministic' (their statements: YtpohaikbbfochaaTotals.lean).
  GIVEN WITH THE SEED: the statements are not yours to turn. If you find one false, say at which input.
  Laid BY PROGRAM, IN A SANDBOX (cutbox-rows.mjs): the forced cells as the released guide's own fill.sh prints them over the translation 1edc0f5415d61fdb… (all of the seat's roots in one cut). By AI agents, Wed Nov 11 2026. No macro, syntax, notation, axiom, sorry.
-/
import Derived.Test.YtpohaikbbfochaaChecked
import GoSem.Claim
import GoSem.ClaimJoined
import GoSem.ClaimMapViews
import Derived.JoinedTies
import Derived.KernelRfl
namespace Go.Proofs.Ytpohaikbbfochaa
/- THE CELL 'sum', in the pinned program and in every row, IS THE sha256 OF THE DUMP (.gsa) THAT YtpohaikbbfochaaProg.lean LOADS. Nothing in Lean hashes anything: it is a label: what it is worth is what the hold of that sum in a sandbox is worth. -/
noncomputable def Try.pinned : Pinned := { name := "ytpohaikbbfochaa", sum := "1edc0f5415d61fdbf99d5bf59a8cd613c704291d00aa5b817321980bd358c999", checked := Try.checked }
namespace Rows
def none {H : Type} : Left H := { results := [], args := [] }

/-- 'cadenzalaw12.TallyCounts': WHATEVER THE INPUT: true; the input reads as it did. -/
def tallyCountsSpec : ChangeSpec := { name := "tallyCounts", fn := fun _ => fun
  | [d] => { results := [.lit (.bool true)], args := [d] }
  | _ => none }
def tallyCountsRow : OpenClaim := { program := "ytpohaikbbfochaa", sum := "1edc0f5415d61fdbf99d5bf59a8cd613c704291d00aa5b817321980bd358c999", func := "cadenza/cadenzalaw12.TallyCounts", spec := "tallyCounts", unfollowed := true, recurses := true, apart := false }
def TallyCountsSaid : Prop := tallyCountsRow.holds Try.pinned (OpenSpec.ofChange tallyCountsSpec)

/-- ITS FALSE NEIGHBOUR: 'it returns false'. Refute it at one input. -/
def tallyCountsWrong : ChangeSpec := { name := "tallyCounts", fn := fun _ => fun
  | [d] => { results := [.lit (.bool false)], args := [d] }
  | _ => none }
def TallyCountsWrongFalsely : Prop := tallyCountsRow.holds Try.pinned (OpenSpec.ofChange tallyCountsWrong)

/-- 'cadenzalaw12.TallyFits': WHATEVER THE INPUT: true; the input reads as it did. -/
def tallyFitsSpec : ChangeSpec := { name := "tallyFits", fn := fun _ => fun
  | [d1, d2, d3] => { results := [.lit (.bool true)], args := [d1, d2, d3] }
  | _ => none }
def tallyFitsRow : OpenClaim := { program := "ytpohaikbbfochaa", sum := "1edc0f5415d61fdbf99d5bf59a8cd613c704291d00aa5b817321980bd358c999", func := "cadenza/cadenzalaw12.TallyFits", spec := "tallyFits", unfollowed := true, recurses := true, apart := false }
def TallyFitsSaid : Prop := tallyFitsRow.holds Try.pinned (OpenSpec.ofChange tallyFitsSpec)

/-- ITS FALSE NEIGHBOUR: 'it returns false'. Refute it at one input. -/
def tallyFitsWrong : ChangeSpec := { name := "tallyFits", fn := fun _ => fun
  | [d1, d2, d3] => { results := [.lit (.bool false)], args := [d1, d2, d3] }
  | _ => none }
def TallyFitsWrongFalsely : Prop := tallyFitsRow.holds Try.pinned (OpenSpec.ofChange tallyFitsWrong)

/-- 'cadenzalaw12.TallyMost': WHATEVER THE INPUT: true; the input reads as it did. -/
def tallyMostSpec : ChangeSpec := { name := "tallyMost", fn := fun _ => fun
  | [d1, d2] => { results := [.lit (.bool true)], args := [d1, d2] }
  | _ => none }
def tallyMostRow : OpenClaim := { program := "ytpohaikbbfochaa", sum := "1edc0f5415d61fdbf99d5bf59a8cd613c704291d00aa5b817321980bd358c999", func := "cadenza/cadenzalaw12.TallyMost", spec := "tallyMost", unfollowed := true, recurses := true, apart := false }
def TallyMostSaid : Prop := tallyMostRow.holds Try.pinned (OpenSpec.ofChange tallyMostSpec)

/-- ITS FALSE NEIGHBOUR: 'it returns false'. Refute it at one input. -/
def tallyMostWrong : ChangeSpec := { name := "tallyMost", fn := fun _ => fun
  | [d1, d2] => { results := [.lit (.bool false)], args := [d1, d2] }
  | _ => none }
def TallyMostWrongFalsely : Prop := tallyMostRow.holds Try.pinned (OpenSpec.ofChange tallyMostWrong)

/-- 'cadenzalaw12.TallyNames': WHATEVER THE INPUT: true; the input reads as it did. -/
def tallyNamesSpec : ChangeSpec := { name := "tallyNames", fn := fun _ => fun
  | [] => { results := [.lit (.bool true)], args := [] }
  | _ => none }
def tallyNamesRow : OpenClaim := { program := "ytpohaikbbfochaa", sum := "1edc0f5415d61fdbf99d5bf59a8cd613c704291d00aa5b817321980bd358c999", func := "cadenza/cadenzalaw12.TallyNames", spec := "tallyNames", unfollowed := true, recurses := true, apart := false }
def TallyNamesSaid : Prop := tallyNamesRow.holds Try.pinned (OpenSpec.ofChange tallyNamesSpec)

/-- ITS FALSE NEIGHBOUR: 'it returns false'. Refute it at one input. -/
def tallyNamesWrong : ChangeSpec := { name := "tallyNames", fn := fun _ => fun
  | [] => { results := [.lit (.bool false)], args := [] }
  | _ => none }
def TallyNamesWrongFalsely : Prop := tallyNamesRow.holds Try.pinned (OpenSpec.ofChange tallyNamesWrong)

/-- 'cadenzalaw12.TallyParts': WHATEVER THE INPUT: true; the input reads as it did. -/
def tallyPartsSpec : ChangeSpec := { name := "tallyParts", fn := fun _ => fun
  | [d1, d2] => { results := [.lit (.bool true)], args := [d1, d2] }
  | _ => none }
def tallyPartsRow : OpenClaim := { program := "ytpohaikbbfochaa", sum := "1edc0f5415d61fdbf99d5bf59a8cd613c704291d00aa5b817321980bd358c999", func := "cadenza/cadenzalaw12.TallyParts", spec := "tallyParts", unfollowed := true, recurses := true, apart := false }
def TallyPartsSaid : Prop := tallyPartsRow.holds Try.pinned (OpenSpec.ofChange tallyPartsSpec)

/-- ITS FALSE NEIGHBOUR: 'it returns false'. Refute it at one input. -/
def tallyPartsWrong : ChangeSpec := { name := "tallyParts", fn := fun _ => fun
  | [d1, d2] => { results := [.lit (.bool false)], args := [d1, d2] }
  | _ => none }
def TallyPartsWrongFalsely : Prop := tallyPartsRow.holds Try.pinned (OpenSpec.ofChange tallyPartsWrong)

/-- 'cadenzalaw12.TallySame': WHATEVER THE INPUT: true; the input reads as it did. -/
def tallySameSpec : ChangeSpec := { name := "tallySame", fn := fun _ => fun
  | [d] => { results := [.lit (.bool true)], args := [d] }
  | _ => none }
def tallySameRow : OpenClaim := { program := "ytpohaikbbfochaa", sum := "1edc0f5415d61fdbf99d5bf59a8cd613c704291d00aa5b817321980bd358c999", func := "cadenza/cadenzalaw12.TallySame", spec := "tallySame", unfollowed := true, recurses := true, apart := false }
def TallySameSaid : Prop := tallySameRow.holds Try.pinned (OpenSpec.ofChange tallySameSpec)

/-- ITS FALSE NEIGHBOUR: 'it returns false'. Refute it at one input. -/
def tallySameWrong : ChangeSpec := { name := "tallySame", fn := fun _ => fun
  | [d] => { results := [.lit (.bool false)], args := [d] }
  | _ => none }
def TallySameWrongFalsely : Prop := tallySameRow.holds Try.pinned (OpenSpec.ofChange tallySameWrong)

/- THE SECOND FORM. 'bulk': how many values and letters a reading holds, each counted each time it is reached (what is shared counts as often as it is met; a slice's spare places count too). A statement '..UptoSaid' is the law's where the arguments, and the package variables that the reading takes, are together of bulk at most 1048576: NARROWER than '..Said'. Prove '..Said' where nothing that the law and all that it calls make is longer than what came in: it says more and counts as full. Else prove '..UptoSaid'. A law counts once. -/
mutual
def uptoBulk {H : Type} : DataW H → Nat
  | .lit (.string bytes) => bytes.length + 1
  | .lit _ => 1
  | .nil => 1
  | .ptr d => uptoBulk d + 1
  | .slice elems spare => uptoBulkAll elems + uptoBulkAll spare + 1
  | .agg parts => uptoBulkAll parts + 1
  | .iface _ d => uptoBulk d + 1
  | .map entries => uptoBulkEntries entries + 1
  | .held _ => 1
def uptoBulkAll {H : Type} : List (DataW H) → Nat
  | [] => 0
  | d :: r => uptoBulk d + uptoBulkAll r
def uptoBulkEntries {H : Type} : List (Lit × DataW H) → Nat
  | [] => 0
  | x :: r => uptoBulkEntry x + uptoBulkEntries r
def uptoBulkEntry {H : Type} : Lit × DataW H → Nat
  | (.string bytes, d) => bytes.length + uptoBulk d + 1
  | (_, d) => uptoBulk d + 1
 end
def uptoSmall : (H : Type) → List (DataW H) → Bool := fun _ ds => decide (uptoBulkAll ds ≤ 1048576)
def OpenSpec.upto (s : _root_.Go.ChangeSpec) : _root_.Go.OpenSpec := { _root_.Go.OpenSpec.ofChange s with cond := some uptoSmall }

/-- 'cadenzalaw12.TallyCounts', WHERE WHAT IT READS IS OF BULK AT MOST 1048576: true; the input reads as it did. -/
def tallyCountsUptoRow : OpenClaim := { program := "ytpohaikbbfochaa", sum := "1edc0f5415d61fdbf99d5bf59a8cd613c704291d00aa5b817321980bd358c999", func := "cadenza/cadenzalaw12.TallyCounts", spec := "tallyCounts", unfollowed := true, recurses := true, apart := false, narrowed := true }
def TallyCountsUptoSaid : Prop := tallyCountsUptoRow.holds Try.pinned (OpenSpec.upto tallyCountsSpec)

/-- 'cadenzalaw12.TallyFits', WHERE WHAT IT READS IS OF BULK AT MOST 1048576: true; the input reads as it did. -/
def tallyFitsUptoRow : OpenClaim := { program := "ytpohaikbbfochaa", sum := "1edc0f5415d61fdbf99d5bf59a8cd613c704291d00aa5b817321980bd358c999", func := "cadenza/cadenzalaw12.TallyFits", spec := "tallyFits", unfollowed := true, recurses := true, apart := false, narrowed := true }
def TallyFitsUptoSaid : Prop := tallyFitsUptoRow.holds Try.pinned (OpenSpec.upto tallyFitsSpec)

/-- 'cadenzalaw12.TallyMost', WHERE WHAT IT READS IS OF BULK AT MOST 1048576: true; the input reads as it did. -/
def tallyMostUptoRow : OpenClaim := { program := "ytpohaikbbfochaa", sum := "1edc0f5415d61fdbf99d5bf59a8cd613c704291d00aa5b817321980bd358c999", func := "cadenza/cadenzalaw12.TallyMost", spec := "tallyMost", unfollowed := true, recurses := true, apart := false, narrowed := true }
def TallyMostUptoSaid : Prop := tallyMostUptoRow.holds Try.pinned (OpenSpec.upto tallyMostSpec)

/-- 'cadenzalaw12.TallyNames', WHERE WHAT IT READS IS OF BULK AT MOST 1048576: true; the input reads as it did. -/
def tallyNamesUptoRow : OpenClaim := { program := "ytpohaikbbfochaa", sum := "1edc0f5415d61fdbf99d5bf59a8cd613c704291d00aa5b817321980bd358c999", func := "cadenza/cadenzalaw12.TallyNames", spec := "tallyNames", unfollowed := true, recurses := true, apart := false, narrowed := true }
def TallyNamesUptoSaid : Prop := tallyNamesUptoRow.holds Try.pinned (OpenSpec.upto tallyNamesSpec)

/-- 'cadenzalaw12.TallyParts', WHERE WHAT IT READS IS OF BULK AT MOST 1048576: true; the input reads as it did. -/
def tallyPartsUptoRow : OpenClaim := { program := "ytpohaikbbfochaa", sum := "1edc0f5415d61fdbf99d5bf59a8cd613c704291d00aa5b817321980bd358c999", func := "cadenza/cadenzalaw12.TallyParts", spec := "tallyParts", unfollowed := true, recurses := true, apart := false, narrowed := true }
def TallyPartsUptoSaid : Prop := tallyPartsUptoRow.holds Try.pinned (OpenSpec.upto tallyPartsSpec)

/-- 'cadenzalaw12.TallySame', WHERE WHAT IT READS IS OF BULK AT MOST 1048576: true; the input reads as it did. -/
def tallySameUptoRow : OpenClaim := { program := "ytpohaikbbfochaa", sum := "1edc0f5415d61fdbf99d5bf59a8cd613c704291d00aa5b817321980bd358c999", func := "cadenza/cadenzalaw12.TallySame", spec := "tallySame", unfollowed := true, recurses := true, apart := false, narrowed := true }
def TallySameUptoSaid : Prop := tallySameUptoRow.holds Try.pinned (OpenSpec.upto tallySameSpec)

end Rows
end Go.Proofs.Ytpohaikbbfochaa
