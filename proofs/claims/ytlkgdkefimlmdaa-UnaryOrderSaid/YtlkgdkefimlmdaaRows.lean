/-
  No cell of these rows narrows 'for every input' (looked for: loops, veiled, ifaces, maps, wideKeys, modest, calm, conditions, laid).
  DERIVED. THE GIVEN ROWS OF THIS SEAT. 6 by the template 'for every input the law returns true; each argument reads behind the call as it read before'; 0 by the template 'total and deterministic' (their statements: YtlkgdkefimlmdaaTotals.lean).
  GIVEN WITH THE SEED: the statements are not yours to turn. If you find one false, say at which input.
  Laid BY PROGRAM, IN A SANDBOX (cutbox-rows.mjs): the forced cells as the released guide's own fill.sh prints them over the translation 0d0e65ca32e018b9… (all of the seat's roots in one cut). By AI agents, Wed Nov 11 2026. No macro, syntax, notation, axiom, sorry.
-/
import Derived.Test.YtlkgdkefimlmdaaChecked
import GoSem.Claim
import GoSem.ClaimJoined
import GoSem.ClaimMapViews
import Derived.JoinedTies
import Derived.KernelRfl
namespace Go.Proofs.Ytlkgdkefimlmdaa
/- THE CELL 'sum', in the pinned program and in every row, IS THE sha256 OF THE DUMP (.gsa) THAT YtlkgdkefimlmdaaProg.lean LOADS. Nothing in Lean hashes anything: it is a label: what it is worth is what the hold of that sum in a sandbox is worth. -/
noncomputable def Try.pinned : Pinned := { name := "ytlkgdkefimlmdaa", sum := "0d0e65ca32e018b9c5c26998a066ddec8a55fe822f640bae38549dc315956fea", checked := Try.checked }
namespace Rows
def none {H : Type} : Left H := { results := [], args := [] }

/-- 'cadenzalaw02.BitsGot': WHATEVER THE INPUT: true; the input reads as it did. -/
def bitsGotSpec : ChangeSpec := { name := "bitsGot", fn := fun _ => fun
  | [d1, d2, d3, d4, d5] => { results := [.lit (.bool true)], args := [d1, d2, d3, d4, d5] }
  | _ => none }
def bitsGotRow : OpenClaim := { program := "ytlkgdkefimlmdaa", sum := "0d0e65ca32e018b9c5c26998a066ddec8a55fe822f640bae38549dc315956fea", func := "cadenza/cadenzalaw02.BitsGot", spec := "bitsGot", apart := false }
def BitsGotSaid : Prop := bitsGotRow.holds Try.pinned (OpenSpec.ofChange bitsGotSpec)

/-- ITS FALSE NEIGHBOUR: 'it returns false'. Refute it at one input. -/
def bitsGotWrong : ChangeSpec := { name := "bitsGot", fn := fun _ => fun
  | [d1, d2, d3, d4, d5] => { results := [.lit (.bool false)], args := [d1, d2, d3, d4, d5] }
  | _ => none }
def BitsGotWrongFalsely : Prop := bitsGotRow.holds Try.pinned (OpenSpec.ofChange bitsGotWrong)

/-- 'cadenzalaw02.BitsTogether': WHATEVER THE INPUT: true; the input reads as it did. -/
def bitsTogetherSpec : ChangeSpec := { name := "bitsTogether", fn := fun _ => fun
  | [d1, d2, d3, d4, d5] => { results := [.lit (.bool true)], args := [d1, d2, d3, d4, d5] }
  | _ => none }
def bitsTogetherRow : OpenClaim := { program := "ytlkgdkefimlmdaa", sum := "0d0e65ca32e018b9c5c26998a066ddec8a55fe822f640bae38549dc315956fea", func := "cadenza/cadenzalaw02.BitsTogether", spec := "bitsTogether", apart := false }
def BitsTogetherSaid : Prop := bitsTogetherRow.holds Try.pinned (OpenSpec.ofChange bitsTogetherSpec)

/-- ITS FALSE NEIGHBOUR: 'it returns false'. Refute it at one input. -/
def bitsTogetherWrong : ChangeSpec := { name := "bitsTogether", fn := fun _ => fun
  | [d1, d2, d3, d4, d5] => { results := [.lit (.bool false)], args := [d1, d2, d3, d4, d5] }
  | _ => none }
def BitsTogetherWrongFalsely : Prop := bitsTogetherRow.holds Try.pinned (OpenSpec.ofChange bitsTogetherWrong)

/-- 'cadenzalaw02.BitsParts': WHATEVER THE INPUT: true; the input reads as it did. -/
def bitsPartsSpec : ChangeSpec := { name := "bitsParts", fn := fun _ => fun
  | [d1, d2, d3, d4, d5] => { results := [.lit (.bool true)], args := [d1, d2, d3, d4, d5] }
  | _ => none }
def bitsPartsRow : OpenClaim := { program := "ytlkgdkefimlmdaa", sum := "0d0e65ca32e018b9c5c26998a066ddec8a55fe822f640bae38549dc315956fea", func := "cadenza/cadenzalaw02.BitsParts", spec := "bitsParts", unfollowed := true, recurses := true, apart := false }
def BitsPartsSaid : Prop := bitsPartsRow.holds Try.pinned (OpenSpec.ofChange bitsPartsSpec)

/-- ITS FALSE NEIGHBOUR: 'it returns false'. Refute it at one input. -/
def bitsPartsWrong : ChangeSpec := { name := "bitsParts", fn := fun _ => fun
  | [d1, d2, d3, d4, d5] => { results := [.lit (.bool false)], args := [d1, d2, d3, d4, d5] }
  | _ => none }
def BitsPartsWrongFalsely : Prop := bitsPartsRow.holds Try.pinned (OpenSpec.ofChange bitsPartsWrong)

/-- 'cadenzalaw06.UnaryOrder': WHATEVER THE INPUT: true; the input reads as it did. -/
def unaryOrderSpec : ChangeSpec := { name := "unaryOrder", fn := fun _ => fun
  | [d1, d2] => { results := [.lit (.bool true)], args := [d1, d2] }
  | _ => none }
def unaryOrderRow : OpenClaim := { program := "ytlkgdkefimlmdaa", sum := "0d0e65ca32e018b9c5c26998a066ddec8a55fe822f640bae38549dc315956fea", func := "cadenza/cadenzalaw06.UnaryOrder", spec := "unaryOrder", apart := false }
def UnaryOrderSaid : Prop := unaryOrderRow.holds Try.pinned (OpenSpec.ofChange unaryOrderSpec)

/-- ITS FALSE NEIGHBOUR: 'it returns false'. Refute it at one input. -/
def unaryOrderWrong : ChangeSpec := { name := "unaryOrder", fn := fun _ => fun
  | [d1, d2] => { results := [.lit (.bool false)], args := [d1, d2] }
  | _ => none }
def UnaryOrderWrongFalsely : Prop := unaryOrderRow.holds Try.pinned (OpenSpec.ofChange unaryOrderWrong)

/-- 'cadenzalaw02.BitsBytes': WHATEVER THE INPUT: true; the input reads as it did. -/
def bitsBytesSpec : ChangeSpec := { name := "bitsBytes", fn := fun _ => fun
  | [d1, d2] => { results := [.lit (.bool true)], args := [d1, d2] }
  | _ => none }
def bitsBytesRow : OpenClaim := { program := "ytlkgdkefimlmdaa", sum := "0d0e65ca32e018b9c5c26998a066ddec8a55fe822f640bae38549dc315956fea", func := "cadenza/cadenzalaw02.BitsBytes", spec := "bitsBytes", apart := false }
def BitsBytesSaid : Prop := bitsBytesRow.holds Try.pinned (OpenSpec.ofChange bitsBytesSpec)

/-- ITS FALSE NEIGHBOUR: 'it returns false'. Refute it at one input. -/
def bitsBytesWrong : ChangeSpec := { name := "bitsBytes", fn := fun _ => fun
  | [d1, d2] => { results := [.lit (.bool false)], args := [d1, d2] }
  | _ => none }
def BitsBytesWrongFalsely : Prop := bitsBytesRow.holds Try.pinned (OpenSpec.ofChange bitsBytesWrong)

/-- 'cadenzalaw02.BitsCut': WHATEVER THE INPUT: true; the input reads as it did. -/
def bitsCutSpec : ChangeSpec := { name := "bitsCut", fn := fun _ => fun
  | [d1, d2, d3, d4] => { results := [.lit (.bool true)], args := [d1, d2, d3, d4] }
  | _ => none }
def bitsCutRow : OpenClaim := { program := "ytlkgdkefimlmdaa", sum := "0d0e65ca32e018b9c5c26998a066ddec8a55fe822f640bae38549dc315956fea", func := "cadenza/cadenzalaw02.BitsCut", spec := "bitsCut", unfollowed := true, recurses := true, apart := false }
def BitsCutSaid : Prop := bitsCutRow.holds Try.pinned (OpenSpec.ofChange bitsCutSpec)

/-- ITS FALSE NEIGHBOUR: 'it returns false'. Refute it at one input. -/
def bitsCutWrong : ChangeSpec := { name := "bitsCut", fn := fun _ => fun
  | [d1, d2, d3, d4] => { results := [.lit (.bool false)], args := [d1, d2, d3, d4] }
  | _ => none }
def BitsCutWrongFalsely : Prop := bitsCutRow.holds Try.pinned (OpenSpec.ofChange bitsCutWrong)

/- THE SECOND FORM. 'bulk': how many values and letters a reading holds, each counted each time it is reached (what is shared counts as often as it is met; a slice's spare places count too). A statement '..UptoSaid' is the law's where the arguments, and the package variables that the reading takes, are together of bulk at most 1048576: NARROWER than '..Said'. Prove '..Said' where nothing that the law and all that it calls make is longer than what came in: it says more and counts as full. Else prove '..UptoSaid'. A law counts once. -/
mutual
def uptoBulk {H : Type} : DataW H → Nat
  | .lit (.string bytes) => bytes.length + 1
  | .lit _ => 1
  | .nil => 1
  | .ptr d => uptoBulk d + 1
  | .slice elems spare => uptoBulkAll elems + uptoBulkAll spare + 1
  | .agg parts => uptoBulkAll parts + 1
  | .iface _ d => uptoBulk d + 1
  | .map entries => uptoBulkEntries entries + 1
  | .held _ => 1
def uptoBulkAll {H : Type} : List (DataW H) → Nat
  | [] => 0
  | d :: r => uptoBulk d + uptoBulkAll r
def uptoBulkEntries {H : Type} : List (Lit × DataW H) → Nat
  | [] => 0
  | x :: r => uptoBulkEntry x + uptoBulkEntries r
def uptoBulkEntry {H : Type} : Lit × DataW H → Nat
  | (.string bytes, d) => bytes.length + uptoBulk d + 1
  | (_, d) => uptoBulk d + 1
 end
def uptoSmall : (H : Type) → List (DataW H) → Bool := fun _ ds => decide (uptoBulkAll ds ≤ 1048576)
def OpenSpec.upto (s : _root_.Go.ChangeSpec) : _root_.Go.OpenSpec := { _root_.Go.OpenSpec.ofChange s with cond := some uptoSmall }

/-- 'cadenzalaw02.BitsGot', WHERE WHAT IT READS IS OF BULK AT MOST 1048576: true; the input reads as it did. -/
def bitsGotUptoRow : OpenClaim := { program := "ytlkgdkefimlmdaa", sum := "0d0e65ca32e018b9c5c26998a066ddec8a55fe822f640bae38549dc315956fea", func := "cadenza/cadenzalaw02.BitsGot", spec := "bitsGot", apart := false, narrowed := true }
def BitsGotUptoSaid : Prop := bitsGotUptoRow.holds Try.pinned (OpenSpec.upto bitsGotSpec)

/-- 'cadenzalaw02.BitsTogether', WHERE WHAT IT READS IS OF BULK AT MOST 1048576: true; the input reads as it did. -/
def bitsTogetherUptoRow : OpenClaim := { program := "ytlkgdkefimlmdaa", sum := "0d0e65ca32e018b9c5c26998a066ddec8a55fe822f640bae38549dc315956fea", func := "cadenza/cadenzalaw02.BitsTogether", spec := "bitsTogether", apart := false, narrowed := true }
def BitsTogetherUptoSaid : Prop := bitsTogetherUptoRow.holds Try.pinned (OpenSpec.upto bitsTogetherSpec)

/-- 'cadenzalaw02.BitsParts', WHERE WHAT IT READS IS OF BULK AT MOST 1048576: true; the input reads as it did. -/
def bitsPartsUptoRow : OpenClaim := { program := "ytlkgdkefimlmdaa", sum := "0d0e65ca32e018b9c5c26998a066ddec8a55fe822f640bae38549dc315956fea", func := "cadenza/cadenzalaw02.BitsParts", spec := "bitsParts", unfollowed := true, recurses := true, apart := false, narrowed := true }
def BitsPartsUptoSaid : Prop := bitsPartsUptoRow.holds Try.pinned (OpenSpec.upto bitsPartsSpec)

/-- 'cadenzalaw06.UnaryOrder', WHERE WHAT IT READS IS OF BULK AT MOST 1048576: true; the input reads as it did. -/
def unaryOrderUptoRow : OpenClaim := { program := "ytlkgdkefimlmdaa", sum := "0d0e65ca32e018b9c5c26998a066ddec8a55fe822f640bae38549dc315956fea", func := "cadenza/cadenzalaw06.UnaryOrder", spec := "unaryOrder", apart := false, narrowed := true }
def UnaryOrderUptoSaid : Prop := unaryOrderUptoRow.holds Try.pinned (OpenSpec.upto unaryOrderSpec)

/-- 'cadenzalaw02.BitsBytes', WHERE WHAT IT READS IS OF BULK AT MOST 1048576: true; the input reads as it did. -/
def bitsBytesUptoRow : OpenClaim := { program := "ytlkgdkefimlmdaa", sum := "0d0e65ca32e018b9c5c26998a066ddec8a55fe822f640bae38549dc315956fea", func := "cadenza/cadenzalaw02.BitsBytes", spec := "bitsBytes", apart := false, narrowed := true }
def BitsBytesUptoSaid : Prop := bitsBytesUptoRow.holds Try.pinned (OpenSpec.upto bitsBytesSpec)

/-- 'cadenzalaw02.BitsCut', WHERE WHAT IT READS IS OF BULK AT MOST 1048576: true; the input reads as it did. -/
def bitsCutUptoRow : OpenClaim := { program := "ytlkgdkefimlmdaa", sum := "0d0e65ca32e018b9c5c26998a066ddec8a55fe822f640bae38549dc315956fea", func := "cadenza/cadenzalaw02.BitsCut", spec := "bitsCut", unfollowed := true, recurses := true, apart := false, narrowed := true }
def BitsCutUptoSaid : Prop := bitsCutUptoRow.holds Try.pinned (OpenSpec.upto bitsCutSpec)

end Rows
end Go.Proofs.Ytlkgdkefimlmdaa
