/-
  No cell of these rows narrows 'for every input' (looked for: loops, veiled, ifaces, maps, wideKeys, modest, calm, conditions, laid).
  DERIVED. THE GIVEN ROWS OF THIS SEAT. 7 by the template 'for every input the law returns true; each argument reads behind the call as it read before'; 0 by the template 'total and deterministic' (their statements: YtphckhgomolhgaaTotals.lean).
  GIVEN WITH THE SEED: the statements are not yours to turn. If you find one false, say at which input.
  Laid BY PROGRAM, IN A SANDBOX (cutbox-rows.mjs): the forced cells as the released guide's own fill.sh prints them over the translation b427c10139f54db4… (all of the seat's roots in one cut). By AI agents, Wed Nov 11 2026. No macro, syntax, notation, axiom, sorry.
-/
import Derived.Test.YtphckhgomolhgaaChecked
import GoSem.Claim
import GoSem.ClaimJoined
import GoSem.ClaimMapViews
import Derived.JoinedTies
import Derived.KernelRfl
namespace Go.Proofs.Ytphckhgomolhgaa
/- THE CELL 'sum', in the pinned program and in every row, IS THE sha256 OF THE DUMP (.gsa) THAT YtphckhgomolhgaaProg.lean LOADS. Nothing in Lean hashes anything: it is a label: what it is worth is what the hold of that sum in a sandbox is worth. -/
noncomputable def Try.pinned : Pinned := { name := "ytphckhgomolhgaa", sum := "b427c10139f54db4fbd28ebcfe23521dfcf681456199d26d5beb5555f8bcaf41", checked := Try.checked }
namespace Rows
def none {H : Type} : Left H := { results := [], args := [] }

/-- 'cadenzalaw17.MixRuns': WHATEVER THE INPUT: true; the input reads as it did. -/
def mixRunsSpec : ChangeSpec := { name := "mixRuns", fn := fun _ => fun
  | [d1, d2] => { results := [.lit (.bool true)], args := [d1, d2] }
  | _ => none }
def mixRunsRow : OpenClaim := { program := "ytphckhgomolhgaa", sum := "b427c10139f54db4fbd28ebcfe23521dfcf681456199d26d5beb5555f8bcaf41", func := "cadenza/cadenzalaw17.MixRuns", spec := "mixRuns", apart := false }
def MixRunsSaid : Prop := mixRunsRow.holds Try.pinned (OpenSpec.ofChange mixRunsSpec)

/-- ITS FALSE NEIGHBOUR: 'it returns false'. Refute it at one input. -/
def mixRunsWrong : ChangeSpec := { name := "mixRuns", fn := fun _ => fun
  | [d1, d2] => { results := [.lit (.bool false)], args := [d1, d2] }
  | _ => none }
def MixRunsWrongFalsely : Prop := mixRunsRow.holds Try.pinned (OpenSpec.ofChange mixRunsWrong)

/-- 'cadenzalaw17.MixMoments': WHATEVER THE INPUT: true; the input reads as it did. -/
def mixMomentsSpec : ChangeSpec := { name := "mixMoments", fn := fun _ => fun
  | [d] => { results := [.lit (.bool true)], args := [d] }
  | _ => none }
def mixMomentsRow : OpenClaim := { program := "ytphckhgomolhgaa", sum := "b427c10139f54db4fbd28ebcfe23521dfcf681456199d26d5beb5555f8bcaf41", func := "cadenza/cadenzalaw17.MixMoments", spec := "mixMoments", apart := false }
def MixMomentsSaid : Prop := mixMomentsRow.holds Try.pinned (OpenSpec.ofChange mixMomentsSpec)

/-- ITS FALSE NEIGHBOUR: 'it returns false'. Refute it at one input. -/
def mixMomentsWrong : ChangeSpec := { name := "mixMoments", fn := fun _ => fun
  | [d] => { results := [.lit (.bool false)], args := [d] }
  | _ => none }
def MixMomentsWrongFalsely : Prop := mixMomentsRow.holds Try.pinned (OpenSpec.ofChange mixMomentsWrong)

/-- 'cadenzalaw17.MixNames': WHATEVER THE INPUT: true; the input reads as it did. -/
def mixNamesSpec : ChangeSpec := { name := "mixNames", fn := fun _ => fun
  | [] => { results := [.lit (.bool true)], args := [] }
  | _ => none }
def mixNamesRow : OpenClaim := { program := "ytphckhgomolhgaa", sum := "b427c10139f54db4fbd28ebcfe23521dfcf681456199d26d5beb5555f8bcaf41", func := "cadenza/cadenzalaw17.MixNames", spec := "mixNames", apart := false }
def MixNamesSaid : Prop := mixNamesRow.holds Try.pinned (OpenSpec.ofChange mixNamesSpec)

/-- ITS FALSE NEIGHBOUR: 'it returns false'. Refute it at one input. -/
def mixNamesWrong : ChangeSpec := { name := "mixNames", fn := fun _ => fun
  | [] => { results := [.lit (.bool false)], args := [] }
  | _ => none }
def MixNamesWrongFalsely : Prop := mixNamesRow.holds Try.pinned (OpenSpec.ofChange mixNamesWrong)

/-- 'cadenzalaw17.MixBack': WHATEVER THE INPUT: true; the input reads as it did. -/
def mixBackSpec : ChangeSpec := { name := "mixBack", fn := fun _ => fun
  | [d] => { results := [.lit (.bool true)], args := [d] }
  | _ => none }
def mixBackRow : OpenClaim := { program := "ytphckhgomolhgaa", sum := "b427c10139f54db4fbd28ebcfe23521dfcf681456199d26d5beb5555f8bcaf41", func := "cadenza/cadenzalaw17.MixBack", spec := "mixBack", apart := false }
def MixBackSaid : Prop := mixBackRow.holds Try.pinned (OpenSpec.ofChange mixBackSpec)

/-- ITS FALSE NEIGHBOUR: 'it returns false'. Refute it at one input. -/
def mixBackWrong : ChangeSpec := { name := "mixBack", fn := fun _ => fun
  | [d] => { results := [.lit (.bool false)], args := [d] }
  | _ => none }
def MixBackWrongFalsely : Prop := mixBackRow.holds Try.pinned (OpenSpec.ofChange mixBackWrong)

/-- 'cadenzalaw17.MixTurns': WHATEVER THE INPUT: true; the input reads as it did. -/
def mixTurnsSpec : ChangeSpec := { name := "mixTurns", fn := fun _ => fun
  | [d1, d2, d3] => { results := [.lit (.bool true)], args := [d1, d2, d3] }
  | _ => none }
def mixTurnsRow : OpenClaim := { program := "ytphckhgomolhgaa", sum := "b427c10139f54db4fbd28ebcfe23521dfcf681456199d26d5beb5555f8bcaf41", func := "cadenza/cadenzalaw17.MixTurns", spec := "mixTurns", apart := false }
def MixTurnsSaid : Prop := mixTurnsRow.holds Try.pinned (OpenSpec.ofChange mixTurnsSpec)

/-- ITS FALSE NEIGHBOUR: 'it returns false'. Refute it at one input. -/
def mixTurnsWrong : ChangeSpec := { name := "mixTurns", fn := fun _ => fun
  | [d1, d2, d3] => { results := [.lit (.bool false)], args := [d1, d2, d3] }
  | _ => none }
def MixTurnsWrongFalsely : Prop := mixTurnsRow.holds Try.pinned (OpenSpec.ofChange mixTurnsWrong)

/-- 'cadenzalaw17.MixEqual': WHATEVER THE INPUT: true; the input reads as it did. -/
def mixEqualSpec : ChangeSpec := { name := "mixEqual", fn := fun _ => fun
  | [d1, d2] => { results := [.lit (.bool true)], args := [d1, d2] }
  | _ => none }
def mixEqualRow : OpenClaim := { program := "ytphckhgomolhgaa", sum := "b427c10139f54db4fbd28ebcfe23521dfcf681456199d26d5beb5555f8bcaf41", func := "cadenza/cadenzalaw17.MixEqual", spec := "mixEqual", apart := false }
def MixEqualSaid : Prop := mixEqualRow.holds Try.pinned (OpenSpec.ofChange mixEqualSpec)

/-- ITS FALSE NEIGHBOUR: 'it returns false'. Refute it at one input. -/
def mixEqualWrong : ChangeSpec := { name := "mixEqual", fn := fun _ => fun
  | [d1, d2] => { results := [.lit (.bool false)], args := [d1, d2] }
  | _ => none }
def MixEqualWrongFalsely : Prop := mixEqualRow.holds Try.pinned (OpenSpec.ofChange mixEqualWrong)

/-- 'cadenzalaw17.MixTwo': WHATEVER THE INPUT: true; the input reads as it did. -/
def mixTwoSpec : ChangeSpec := { name := "mixTwo", fn := fun _ => fun
  | [d1, d2] => { results := [.lit (.bool true)], args := [d1, d2] }
  | _ => none }
def mixTwoRow : OpenClaim := { program := "ytphckhgomolhgaa", sum := "b427c10139f54db4fbd28ebcfe23521dfcf681456199d26d5beb5555f8bcaf41", func := "cadenza/cadenzalaw17.MixTwo", spec := "mixTwo", apart := false }
def MixTwoSaid : Prop := mixTwoRow.holds Try.pinned (OpenSpec.ofChange mixTwoSpec)

/-- ITS FALSE NEIGHBOUR: 'it returns false'. Refute it at one input. -/
def mixTwoWrong : ChangeSpec := { name := "mixTwo", fn := fun _ => fun
  | [d1, d2] => { results := [.lit (.bool false)], args := [d1, d2] }
  | _ => none }
def MixTwoWrongFalsely : Prop := mixTwoRow.holds Try.pinned (OpenSpec.ofChange mixTwoWrong)

/- THE SECOND FORM. 'bulk': how many values and letters a reading holds, each counted each time it is reached (what is shared counts as often as it is met; a slice's spare places count too). A statement '..UptoSaid' is the law's where the arguments, and the package variables that the reading takes, are together of bulk at most 1048576: NARROWER than '..Said'. Prove '..Said' where nothing that the law and all that it calls make is longer than what came in: it says more and counts as full. Else prove '..UptoSaid'. A law counts once. -/
mutual
def uptoBulk {H : Type} : DataW H → Nat
  | .lit (.string bytes) => bytes.length + 1
  | .lit _ => 1
  | .nil => 1
  | .ptr d => uptoBulk d + 1
  | .slice elems spare => uptoBulkAll elems + uptoBulkAll spare + 1
  | .agg parts => uptoBulkAll parts + 1
  | .iface _ d => uptoBulk d + 1
  | .map entries => uptoBulkEntries entries + 1
  | .held _ => 1
def uptoBulkAll {H : Type} : List (DataW H) → Nat
  | [] => 0
  | d :: r => uptoBulk d + uptoBulkAll r
def uptoBulkEntries {H : Type} : List (Lit × DataW H) → Nat
  | [] => 0
  | x :: r => uptoBulkEntry x + uptoBulkEntries r
def uptoBulkEntry {H : Type} : Lit × DataW H → Nat
  | (.string bytes, d) => bytes.length + uptoBulk d + 1
  | (_, d) => uptoBulk d + 1
 end
def uptoSmall : (H : Type) → List (DataW H) → Bool := fun _ ds => decide (uptoBulkAll ds ≤ 1048576)
def OpenSpec.upto (s : _root_.Go.ChangeSpec) : _root_.Go.OpenSpec := { _root_.Go.OpenSpec.ofChange s with cond := some uptoSmall }

/-- 'cadenzalaw17.MixRuns', WHERE WHAT IT READS IS OF BULK AT MOST 1048576: true; the input reads as it did. -/
def mixRunsUptoRow : OpenClaim := { program := "ytphckhgomolhgaa", sum := "b427c10139f54db4fbd28ebcfe23521dfcf681456199d26d5beb5555f8bcaf41", func := "cadenza/cadenzalaw17.MixRuns", spec := "mixRuns", apart := false, narrowed := true }
def MixRunsUptoSaid : Prop := mixRunsUptoRow.holds Try.pinned (OpenSpec.upto mixRunsSpec)

/-- 'cadenzalaw17.MixMoments', WHERE WHAT IT READS IS OF BULK AT MOST 1048576: true; the input reads as it did. -/
def mixMomentsUptoRow : OpenClaim := { program := "ytphckhgomolhgaa", sum := "b427c10139f54db4fbd28ebcfe23521dfcf681456199d26d5beb5555f8bcaf41", func := "cadenza/cadenzalaw17.MixMoments", spec := "mixMoments", apart := false, narrowed := true }
def MixMomentsUptoSaid : Prop := mixMomentsUptoRow.holds Try.pinned (OpenSpec.upto mixMomentsSpec)

/-- 'cadenzalaw17.MixNames', WHERE WHAT IT READS IS OF BULK AT MOST 1048576: true; the input reads as it did. -/
def mixNamesUptoRow : OpenClaim := { program := "ytphckhgomolhgaa", sum := "b427c10139f54db4fbd28ebcfe23521dfcf681456199d26d5beb5555f8bcaf41", func := "cadenza/cadenzalaw17.MixNames", spec := "mixNames", apart := false, narrowed := true }
def MixNamesUptoSaid : Prop := mixNamesUptoRow.holds Try.pinned (OpenSpec.upto mixNamesSpec)

/-- 'cadenzalaw17.MixBack', WHERE WHAT IT READS IS OF BULK AT MOST 1048576: true; the input reads as it did. -/
def mixBackUptoRow : OpenClaim := { program := "ytphckhgomolhgaa", sum := "b427c10139f54db4fbd28ebcfe23521dfcf681456199d26d5beb5555f8bcaf41", func := "cadenza/cadenzalaw17.MixBack", spec := "mixBack", apart := false, narrowed := true }
def MixBackUptoSaid : Prop := mixBackUptoRow.holds Try.pinned (OpenSpec.upto mixBackSpec)

/-- 'cadenzalaw17.MixTurns', WHERE WHAT IT READS IS OF BULK AT MOST 1048576: true; the input reads as it did. -/
def mixTurnsUptoRow : OpenClaim := { program := "ytphckhgomolhgaa", sum := "b427c10139f54db4fbd28ebcfe23521dfcf681456199d26d5beb5555f8bcaf41", func := "cadenza/cadenzalaw17.MixTurns", spec := "mixTurns", apart := false, narrowed := true }
def MixTurnsUptoSaid : Prop := mixTurnsUptoRow.holds Try.pinned (OpenSpec.upto mixTurnsSpec)

/-- 'cadenzalaw17.MixEqual', WHERE WHAT IT READS IS OF BULK AT MOST 1048576: true; the input reads as it did. -/
def mixEqualUptoRow : OpenClaim := { program := "ytphckhgomolhgaa", sum := "b427c10139f54db4fbd28ebcfe23521dfcf681456199d26d5beb5555f8bcaf41", func := "cadenza/cadenzalaw17.MixEqual", spec := "mixEqual", apart := false, narrowed := true }
def MixEqualUptoSaid : Prop := mixEqualUptoRow.holds Try.pinned (OpenSpec.upto mixEqualSpec)

/-- 'cadenzalaw17.MixTwo', WHERE WHAT IT READS IS OF BULK AT MOST 1048576: true; the input reads as it did. -/
def mixTwoUptoRow : OpenClaim := { program := "ytphckhgomolhgaa", sum := "b427c10139f54db4fbd28ebcfe23521dfcf681456199d26d5beb5555f8bcaf41", func := "cadenza/cadenzalaw17.MixTwo", spec := "mixTwo", apart := false, narrowed := true }
def MixTwoUptoSaid : Prop := mixTwoUptoRow.holds Try.pinned (OpenSpec.upto mixTwoSpec)

end Rows
end Go.Proofs.Ytphckhgomolhgaa
