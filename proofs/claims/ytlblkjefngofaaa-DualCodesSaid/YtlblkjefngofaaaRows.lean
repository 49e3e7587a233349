/-
  No cell of these rows narrows 'for every input' (looked for: loops, veiled, ifaces, maps, wideKeys, modest, calm, conditions, laid).
  DERIVED. THE GIVEN ROWS OF THIS SEAT. 3 by the template 'for every input the law returns true; each argument reads behind the call as it read before'; 0 by the template 'total and deterministic' (their statements: YtlblkjefngofaaaTotals.lean).
  GIVEN WITH THE SEED: the statements are not yours to turn. If you find one false, say at which input.
  Laid BY PROGRAM, IN A SANDBOX (cutbox-rows.mjs): the forced cells as the released guide's own fill.sh prints them over the translation 941892af478741d5… (all of the seat's roots in one cut). By AI agents, Wed Nov 11 2026. No macro, syntax, notation, axiom, sorry.
-/
import Derived.Test.YtlblkjefngofaaaChecked
import GoSem.Claim
import GoSem.ClaimJoined
import GoSem.ClaimMapViews
import Derived.JoinedTies
import Derived.KernelRfl
namespace Go.Proofs.Ytlblkjefngofaaa
/- THE CELL 'sum', in the pinned program and in every row, IS THE sha256 OF THE DUMP (.gsa) THAT YtlblkjefngofaaaProg.lean LOADS. Nothing in Lean hashes anything: it is a label: what it is worth is what the hold of that sum in a sandbox is worth. -/
noncomputable def Try.pinned : Pinned := { name := "ytlblkjefngofaaa", sum := "941892af478741d56f1b3fa056027aec7e990ac21cc25a72dc628269582db6df", checked := Try.checked }
namespace Rows
def none {H : Type} : Left H := { results := [], args := [] }

/-- 'cadenzalaw07.RiceOrder': WHATEVER THE INPUT: true; the input reads as it did. -/
def riceOrderSpec : ChangeSpec := { name := "riceOrder", fn := fun _ => fun
  | [d1, d2, d3] => { results := [.lit (.bool true)], args := [d1, d2, d3] }
  | _ => none }
def riceOrderRow : OpenClaim := { program := "ytlblkjefngofaaa", sum := "941892af478741d56f1b3fa056027aec7e990ac21cc25a72dc628269582db6df", func := "cadenza/cadenzalaw07.RiceOrder", spec := "riceOrder", apart := false }
def RiceOrderSaid : Prop := riceOrderRow.holds Try.pinned (OpenSpec.ofChange riceOrderSpec)

/-- ITS FALSE NEIGHBOUR: 'it returns false'. Refute it at one input. -/
def riceOrderWrong : ChangeSpec := { name := "riceOrder", fn := fun _ => fun
  | [d1, d2, d3] => { results := [.lit (.bool false)], args := [d1, d2, d3] }
  | _ => none }
def RiceOrderWrongFalsely : Prop := riceOrderRow.holds Try.pinned (OpenSpec.ofChange riceOrderWrong)

/-- 'cadenzalaw08.DualCodes': WHATEVER THE INPUT: true; the input reads as it did. -/
def dualCodesSpec : ChangeSpec := { name := "dualCodes", fn := fun _ => fun
  | [d1, d2, d3] => { results := [.lit (.bool true)], args := [d1, d2, d3] }
  | _ => none }
def dualCodesRow : OpenClaim := { program := "ytlblkjefngofaaa", sum := "941892af478741d56f1b3fa056027aec7e990ac21cc25a72dc628269582db6df", func := "cadenza/cadenzalaw08.DualCodes", spec := "dualCodes", unfollowed := true, recurses := true, apart := false }
def DualCodesSaid : Prop := dualCodesRow.holds Try.pinned (OpenSpec.ofChange dualCodesSpec)

/-- ITS FALSE NEIGHBOUR: 'it returns false'. Refute it at one input. -/
def dualCodesWrong : ChangeSpec := { name := "dualCodes", fn := fun _ => fun
  | [d1, d2, d3] => { results := [.lit (.bool false)], args := [d1, d2, d3] }
  | _ => none }
def DualCodesWrongFalsely : Prop := dualCodesRow.holds Try.pinned (OpenSpec.ofChange dualCodesWrong)

/-- 'cadenzalaw08.DualPairs': WHATEVER THE INPUT: true; the input reads as it did. -/
def dualPairsSpec : ChangeSpec := { name := "dualPairs", fn := fun _ => fun
  | [d1, d2, d3, d4] => { results := [.lit (.bool true)], args := [d1, d2, d3, d4] }
  | _ => none }
def dualPairsRow : OpenClaim := { program := "ytlblkjefngofaaa", sum := "941892af478741d56f1b3fa056027aec7e990ac21cc25a72dc628269582db6df", func := "cadenza/cadenzalaw08.DualPairs", spec := "dualPairs", unfollowed := true, recurses := true, apart := false }
def DualPairsSaid : Prop := dualPairsRow.holds Try.pinned (OpenSpec.ofChange dualPairsSpec)

/-- ITS FALSE NEIGHBOUR: 'it returns false'. Refute it at one input. -/
def dualPairsWrong : ChangeSpec := { name := "dualPairs", fn := fun _ => fun
  | [d1, d2, d3, d4] => { results := [.lit (.bool false)], args := [d1, d2, d3, d4] }
  | _ => none }
def DualPairsWrongFalsely : Prop := dualPairsRow.holds Try.pinned (OpenSpec.ofChange dualPairsWrong)

/- THE SECOND FORM. 'bulk': how many values and letters a reading holds, each counted each time it is reached (what is shared counts as often as it is met; a slice's spare places count too). A statement '..UptoSaid' is the law's where the arguments, and the package variables that the reading takes, are together of bulk at most 1048576: NARROWER than '..Said'. Prove '..Said' where nothing that the law and all that it calls make is longer than what came in: it says more and counts as full. Else prove '..UptoSaid'. A law counts once. -/
mutual
def uptoBulk {H : Type} : DataW H → Nat
  | .lit (.string bytes) => bytes.length + 1
  | .lit _ => 1
  | .nil => 1
  | .ptr d => uptoBulk d + 1
  | .slice elems spare => uptoBulkAll elems + uptoBulkAll spare + 1
  | .agg parts => uptoBulkAll parts + 1
  | .iface _ d => uptoBulk d + 1
  | .map entries => uptoBulkEntries entries + 1
  | .held _ => 1
def uptoBulkAll {H : Type} : List (DataW H) → Nat
  | [] => 0
  | d :: r => uptoBulk d + uptoBulkAll r
def uptoBulkEntries {H : Type} : List (Lit × DataW H) → Nat
  | [] => 0
  | x :: r => uptoBulkEntry x + uptoBulkEntries r
def uptoBulkEntry {H : Type} : Lit × DataW H → Nat
  | (.string bytes, d) => bytes.length + uptoBulk d + 1
  | (_, d) => uptoBulk d + 1
 end
def uptoSmall : (H : Type) → List (DataW H) → Bool := fun _ ds => decide (uptoBulkAll ds ≤ 1048576)
def OpenSpec.upto (s : _root_.Go.ChangeSpec) : _root_.Go.OpenSpec := { _root_.Go.OpenSpec.ofChange s with cond := some uptoSmall }

/-- 'cadenzalaw07.RiceOrder', WHERE WHAT IT READS IS OF BULK AT MOST 1048576: true; the input reads as it did. -/
def riceOrderUptoRow : OpenClaim := { program := "ytlblkjefngofaaa", sum := "941892af478741d56f1b3fa056027aec7e990ac21cc25a72dc628269582db6df", func := "cadenza/cadenzalaw07.RiceOrder", spec := "riceOrder", apart := false, narrowed := true }
def RiceOrderUptoSaid : Prop := riceOrderUptoRow.holds Try.pinned (OpenSpec.upto riceOrderSpec)

/-- 'cadenzalaw08.DualCodes', WHERE WHAT IT READS IS OF BULK AT MOST 1048576: true; the input reads as it did. -/
def dualCodesUptoRow : OpenClaim := { program := "ytlblkjefngofaaa", sum := "941892af478741d56f1b3fa056027aec7e990ac21cc25a72dc628269582db6df", func := "cadenza/cadenzalaw08.DualCodes", spec := "dualCodes", unfollowed := true, recurses := true, apart := false, narrowed := true }
def DualCodesUptoSaid : Prop := dualCodesUptoRow.holds Try.pinned (OpenSpec.upto dualCodesSpec)

/-- 'cadenzalaw08.DualPairs', WHERE WHAT IT READS IS OF BULK AT MOST 1048576: true; the input reads as it did. -/
def dualPairsUptoRow : OpenClaim := { program := "ytlblkjefngofaaa", sum := "941892af478741d56f1b3fa056027aec7e990ac21cc25a72dc628269582db6df", func := "cadenza/cadenzalaw08.DualPairs", spec := "dualPairs", unfollowed := true, recurses := true, apart := false, narrowed := true }
def DualPairsUptoSaid : Prop := dualPairsUptoRow.holds Try.pinned (OpenSpec.upto dualPairsSpec)

end Rows
end Go.Proofs.Ytlblkjefngofaaa
