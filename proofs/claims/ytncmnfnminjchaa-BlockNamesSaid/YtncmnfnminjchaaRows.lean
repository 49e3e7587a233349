/-
  No cell of these rows narrows 'for every input' (looked for: loops, veiled, ifaces, maps, wideKeys, modest, calm, conditions, laid).
  DERIVED. THE GIVEN ROWS OF THIS SEAT. 7 by the template 'for every input the law returns true; each argument reads behind the call as it read before'; 0 by the template 'total and deterministic' (their statements: YtncmnfnminjchaaTotals.lean).
  GIVEN WITH THE SEED: the statements are not yours to turn. If you find one false, say at which input.
  Laid BY PROGRAM, IN A SANDBOX (cutbox-rows.mjs): the forced cells as the released guide's own fill.sh prints them over the translation 52a20c487defa385… (all of the seat's roots in one cut). By AI agents, Wed Nov 11 2026. No macro, syntax, notation, axiom, sorry.
-/
import Derived.Test.YtncmnfnminjchaaChecked
import GoSem.Claim
import GoSem.ClaimJoined
import GoSem.ClaimMapViews
import Derived.JoinedTies
import Derived.KernelRfl
namespace Go.Proofs.Ytncmnfnminjchaa
/- THE CELL 'sum', in the pinned program and in every row, IS THE sha256 OF THE DUMP (.gsa) THAT YtncmnfnminjchaaProg.lean LOADS. Nothing in Lean hashes anything: it is a label: what it is worth is what the hold of that sum in a sandbox is worth. -/
noncomputable def Try.pinned : Pinned := { name := "ytncmnfnminjchaa", sum := "52a20c487defa385e471e24eca6170e375cc49a42b179d8c0db01a6dce6b54a5", checked := Try.checked }
namespace Rows
def none {H : Type} : Left H := { results := [], args := [] }

/-- 'cadenzalaw11.BlockUnpacks': WHATEVER THE INPUT: true; the input reads as it did. -/
def blockUnpacksSpec : ChangeSpec := { name := "blockUnpacks", fn := fun _ => fun
  | [d] => { results := [.lit (.bool true)], args := [d] }
  | _ => none }
def blockUnpacksRow : OpenClaim := { program := "ytncmnfnminjchaa", sum := "52a20c487defa385e471e24eca6170e375cc49a42b179d8c0db01a6dce6b54a5", func := "cadenza/cadenzalaw11.BlockUnpacks", spec := "blockUnpacks", apart := false }
def BlockUnpacksSaid : Prop := blockUnpacksRow.holds Try.pinned (OpenSpec.ofChange blockUnpacksSpec)

/-- ITS FALSE NEIGHBOUR: 'it returns false'. Refute it at one input. -/
def blockUnpacksWrong : ChangeSpec := { name := "blockUnpacks", fn := fun _ => fun
  | [d] => { results := [.lit (.bool false)], args := [d] }
  | _ => none }
def BlockUnpacksWrongFalsely : Prop := blockUnpacksRow.holds Try.pinned (OpenSpec.ofChange blockUnpacksWrong)

/-- 'cadenzalaw11.BlockSums': WHATEVER THE INPUT: true; the input reads as it did. -/
def blockSumsSpec : ChangeSpec := { name := "blockSums", fn := fun _ => fun
  | [d] => { results := [.lit (.bool true)], args := [d] }
  | _ => none }
def blockSumsRow : OpenClaim := { program := "ytncmnfnminjchaa", sum := "52a20c487defa385e471e24eca6170e375cc49a42b179d8c0db01a6dce6b54a5", func := "cadenza/cadenzalaw11.BlockSums", spec := "blockSums", apart := false }
def BlockSumsSaid : Prop := blockSumsRow.holds Try.pinned (OpenSpec.ofChange blockSumsSpec)

/-- ITS FALSE NEIGHBOUR: 'it returns false'. Refute it at one input. -/
def blockSumsWrong : ChangeSpec := { name := "blockSums", fn := fun _ => fun
  | [d] => { results := [.lit (.bool false)], args := [d] }
  | _ => none }
def BlockSumsWrongFalsely : Prop := blockSumsRow.holds Try.pinned (OpenSpec.ofChange blockSumsWrong)

/-- 'cadenzalaw11.BlockApart': WHATEVER THE INPUT: true; the input reads as it did. -/
def blockApartSpec : ChangeSpec := { name := "blockApart", fn := fun _ => fun
  | [d1, d2] => { results := [.lit (.bool true)], args := [d1, d2] }
  | _ => none }
def blockApartRow : OpenClaim := { program := "ytncmnfnminjchaa", sum := "52a20c487defa385e471e24eca6170e375cc49a42b179d8c0db01a6dce6b54a5", func := "cadenza/cadenzalaw11.BlockApart", spec := "blockApart", apart := false }
def BlockApartSaid : Prop := blockApartRow.holds Try.pinned (OpenSpec.ofChange blockApartSpec)

/-- ITS FALSE NEIGHBOUR: 'it returns false'. Refute it at one input. -/
def blockApartWrong : ChangeSpec := { name := "blockApart", fn := fun _ => fun
  | [d1, d2] => { results := [.lit (.bool false)], args := [d1, d2] }
  | _ => none }
def BlockApartWrongFalsely : Prop := blockApartRow.holds Try.pinned (OpenSpec.ofChange blockApartWrong)

/-- 'cadenzalaw11.BlockPacks': WHATEVER THE INPUT: true; the input reads as it did. -/
def blockPacksSpec : ChangeSpec := { name := "blockPacks", fn := fun _ => fun
  | [d1, d2] => { results := [.lit (.bool true)], args := [d1, d2] }
  | _ => none }
def blockPacksRow : OpenClaim := { program := "ytncmnfnminjchaa", sum := "52a20c487defa385e471e24eca6170e375cc49a42b179d8c0db01a6dce6b54a5", func := "cadenza/cadenzalaw11.BlockPacks", spec := "blockPacks", apart := false }
def BlockPacksSaid : Prop := blockPacksRow.holds Try.pinned (OpenSpec.ofChange blockPacksSpec)

/-- ITS FALSE NEIGHBOUR: 'it returns false'. Refute it at one input. -/
def blockPacksWrong : ChangeSpec := { name := "blockPacks", fn := fun _ => fun
  | [d1, d2] => { results := [.lit (.bool false)], args := [d1, d2] }
  | _ => none }
def BlockPacksWrongFalsely : Prop := blockPacksRow.holds Try.pinned (OpenSpec.ofChange blockPacksWrong)

/-- 'cadenzalaw11.BlockBurst': WHATEVER THE INPUT: true; the input reads as it did. -/
def blockBurstSpec : ChangeSpec := { name := "blockBurst", fn := fun _ => fun
  | [d1, d2, d3] => { results := [.lit (.bool true)], args := [d1, d2, d3] }
  | _ => none }
def blockBurstRow : OpenClaim := { program := "ytncmnfnminjchaa", sum := "52a20c487defa385e471e24eca6170e375cc49a42b179d8c0db01a6dce6b54a5", func := "cadenza/cadenzalaw11.BlockBurst", spec := "blockBurst", apart := false }
def BlockBurstSaid : Prop := blockBurstRow.holds Try.pinned (OpenSpec.ofChange blockBurstSpec)

/-- ITS FALSE NEIGHBOUR: 'it returns false'. Refute it at one input. -/
def blockBurstWrong : ChangeSpec := { name := "blockBurst", fn := fun _ => fun
  | [d1, d2, d3] => { results := [.lit (.bool false)], args := [d1, d2, d3] }
  | _ => none }
def BlockBurstWrongFalsely : Prop := blockBurstRow.holds Try.pinned (OpenSpec.ofChange blockBurstWrong)

/-- 'cadenzalaw11.BlockNames': WHATEVER THE INPUT: true; the input reads as it did. -/
def blockNamesSpec : ChangeSpec := { name := "blockNames", fn := fun _ => fun
  | [] => { results := [.lit (.bool true)], args := [] }
  | _ => none }
def blockNamesRow : OpenClaim := { program := "ytncmnfnminjchaa", sum := "52a20c487defa385e471e24eca6170e375cc49a42b179d8c0db01a6dce6b54a5", func := "cadenza/cadenzalaw11.BlockNames", spec := "blockNames", apart := false }
def BlockNamesSaid : Prop := blockNamesRow.holds Try.pinned (OpenSpec.ofChange blockNamesSpec)

/-- ITS FALSE NEIGHBOUR: 'it returns false'. Refute it at one input. -/
def blockNamesWrong : ChangeSpec := { name := "blockNames", fn := fun _ => fun
  | [] => { results := [.lit (.bool false)], args := [] }
  | _ => none }
def BlockNamesWrongFalsely : Prop := blockNamesRow.holds Try.pinned (OpenSpec.ofChange blockNamesWrong)

/-- 'cadenzalaw11.BlockBack': WHATEVER THE INPUT: true; the input reads as it did. -/
def blockBackSpec : ChangeSpec := { name := "blockBack", fn := fun _ => fun
  | [d1, d2] => { results := [.lit (.bool true)], args := [d1, d2] }
  | _ => none }
def blockBackRow : OpenClaim := { program := "ytncmnfnminjchaa", sum := "52a20c487defa385e471e24eca6170e375cc49a42b179d8c0db01a6dce6b54a5", func := "cadenza/cadenzalaw11.BlockBack", spec := "blockBack", apart := false }
def BlockBackSaid : Prop := blockBackRow.holds Try.pinned (OpenSpec.ofChange blockBackSpec)

/-- ITS FALSE NEIGHBOUR: 'it returns false'. Refute it at one input. -/
def blockBackWrong : ChangeSpec := { name := "blockBack", fn := fun _ => fun
  | [d1, d2] => { results := [.lit (.bool false)], args := [d1, d2] }
  | _ => none }
def BlockBackWrongFalsely : Prop := blockBackRow.holds Try.pinned (OpenSpec.ofChange blockBackWrong)

/- THE SECOND FORM. 'bulk': how many values and letters a reading holds, each counted each time it is reached (what is shared counts as often as it is met; a slice's spare places count too). A statement '..UptoSaid' is the law's where the arguments, and the package variables that the reading takes, are together of bulk at most 1048576: NARROWER than '..Said'. Prove '..Said' where nothing that the law and all that it calls make is longer than what came in: it says more and counts as full. Else prove '..UptoSaid'. A law counts once. -/
mutual
def uptoBulk {H : Type} : DataW H → Nat
  | .lit (.string bytes) => bytes.length + 1
  | .lit _ => 1
  | .nil => 1
  | .ptr d => uptoBulk d + 1
  | .slice elems spare => uptoBulkAll elems + uptoBulkAll spare + 1
  | .agg parts => uptoBulkAll parts + 1
  | .iface _ d => uptoBulk d + 1
  | .map entries => uptoBulkEntries entries + 1
  | .held _ => 1
def uptoBulkAll {H : Type} : List (DataW H) → Nat
  | [] => 0
  | d :: r => uptoBulk d + uptoBulkAll r
def uptoBulkEntries {H : Type} : List (Lit × DataW H) → Nat
  | [] => 0
  | x :: r => uptoBulkEntry x + uptoBulkEntries r
def uptoBulkEntry {H : Type} : Lit × DataW H → Nat
  | (.string bytes, d) => bytes.length + uptoBulk d + 1
  | (_, d) => uptoBulk d + 1
 end
def uptoSmall : (H : Type) → List (DataW H) → Bool := fun _ ds => decide (uptoBulkAll ds ≤ 1048576)
def OpenSpec.upto (s : _root_.Go.ChangeSpec) : _root_.Go.OpenSpec := { _root_.Go.OpenSpec.ofChange s with cond := some uptoSmall }

/-- 'cadenzalaw11.BlockUnpacks', WHERE WHAT IT READS IS OF BULK AT MOST 1048576: true; the input reads as it did. -/
def blockUnpacksUptoRow : OpenClaim := { program := "ytncmnfnminjchaa", sum := "52a20c487defa385e471e24eca6170e375cc49a42b179d8c0db01a6dce6b54a5", func := "cadenza/cadenzalaw11.BlockUnpacks", spec := "blockUnpacks", apart := false, narrowed := true }
def BlockUnpacksUptoSaid : Prop := blockUnpacksUptoRow.holds Try.pinned (OpenSpec.upto blockUnpacksSpec)

/-- 'cadenzalaw11.BlockSums', WHERE WHAT IT READS IS OF BULK AT MOST 1048576: true; the input reads as it did. -/
def blockSumsUptoRow : OpenClaim := { program := "ytncmnfnminjchaa", sum := "52a20c487defa385e471e24eca6170e375cc49a42b179d8c0db01a6dce6b54a5", func := "cadenza/cadenzalaw11.BlockSums", spec := "blockSums", apart := false, narrowed := true }
def BlockSumsUptoSaid : Prop := blockSumsUptoRow.holds Try.pinned (OpenSpec.upto blockSumsSpec)

/-- 'cadenzalaw11.BlockApart', WHERE WHAT IT READS IS OF BULK AT MOST 1048576: true; the input reads as it did. -/
def blockApartUptoRow : OpenClaim := { program := "ytncmnfnminjchaa", sum := "52a20c487defa385e471e24eca6170e375cc49a42b179d8c0db01a6dce6b54a5", func := "cadenza/cadenzalaw11.BlockApart", spec := "blockApart", apart := false, narrowed := true }
def BlockApartUptoSaid : Prop := blockApartUptoRow.holds Try.pinned (OpenSpec.upto blockApartSpec)

/-- 'cadenzalaw11.BlockPacks', WHERE WHAT IT READS IS OF BULK AT MOST 1048576: true; the input reads as it did. -/
def blockPacksUptoRow : OpenClaim := { program := "ytncmnfnminjchaa", sum := "52a20c487defa385e471e24eca6170e375cc49a42b179d8c0db01a6dce6b54a5", func := "cadenza/cadenzalaw11.BlockPacks", spec := "blockPacks", apart := false, narrowed := true }
def BlockPacksUptoSaid : Prop := blockPacksUptoRow.holds Try.pinned (OpenSpec.upto blockPacksSpec)

/-- 'cadenzalaw11.BlockBurst', WHERE WHAT IT READS IS OF BULK AT MOST 1048576: true; the input reads as it did. -/
def blockBurstUptoRow : OpenClaim := { program := "ytncmnfnminjchaa", sum := "52a20c487defa385e471e24eca6170e375cc49a42b179d8c0db01a6dce6b54a5", func := "cadenza/cadenzalaw11.BlockBurst", spec := "blockBurst", apart := false, narrowed := true }
def BlockBurstUptoSaid : Prop := blockBurstUptoRow.holds Try.pinned (OpenSpec.upto blockBurstSpec)

/-- 'cadenzalaw11.BlockNames', WHERE WHAT IT READS IS OF BULK AT MOST 1048576: true; the input reads as it did. -/
def blockNamesUptoRow : OpenClaim := { program := "ytncmnfnminjchaa", sum := "52a20c487defa385e471e24eca6170e375cc49a42b179d8c0db01a6dce6b54a5", func := "cadenza/cadenzalaw11.BlockNames", spec := "blockNames", apart := false, narrowed := true }
def BlockNamesUptoSaid : Prop := blockNamesUptoRow.holds Try.pinned (OpenSpec.upto blockNamesSpec)

/-- 'cadenzalaw11.BlockBack', WHERE WHAT IT READS IS OF BULK AT MOST 1048576: true; the input reads as it did. -/
def blockBackUptoRow : OpenClaim := { program := "ytncmnfnminjchaa", sum := "52a20c487defa385e471e24eca6170e375cc49a42b179d8c0db01a6dce6b54a5", func := "cadenza/cadenzalaw11.BlockBack", spec := "blockBack", apart := false, narrowed := true }
def BlockBackUptoSaid : Prop := blockBackUptoRow.holds Try.pinned (OpenSpec.upto blockBackSpec)

end Rows
end Go.Proofs.Ytncmnfnminjchaa
