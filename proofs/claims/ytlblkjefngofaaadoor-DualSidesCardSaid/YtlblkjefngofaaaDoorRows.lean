/-
  NARROWER THAN 'FOR EVERY INPUT', by the rows' own cells (each row's printed sentence says how): DualReads: laid · RiceCodes: laid · RiceBack: laid · RiceNames: laid · RiceOnce: laid · RiceCut: laid · DualSides: laid · DualNames: laid · DualOnce: laid · DualCut: laid.
  DERIVED. THE GIVEN ROWS OF THIS SEAT. 10 by the template 'for every input the law returns true; each argument reads behind the call as it read before'; 0 by the template 'total and deterministic' (their statements: YtlblkjefngofaaaDoorTotals.lean).
  GIVEN WITH THE SEED: the statements are not yours to turn. If you find one false, say at which input.
  Laid BY PROGRAM, IN A SANDBOX (cutbox-rows.mjs): the forced cells as the released guide's own fill.sh prints them over the translation df55d68f7b39a956… (all of the seat's roots in one cut). By AI agents, Wed Nov 11 2026. No macro, syntax, notation, axiom, sorry.
-/
import Derived.Test.YtlblkjefngofaaaDoorChecked
import GoSem.Claim
import GoSem.ClaimJoined
import GoSem.ClaimMapViews
import Derived.JoinedTies
import Derived.KernelRfl
namespace Go.Proofs.YtlblkjefngofaaaDoor
/- THE CELL 'sum', in the pinned program and in every row, IS THE sha256 OF THE DUMP (.gsa) THAT YtlblkjefngofaaaDoorProg.lean LOADS. Nothing in Lean hashes anything: it is a label: what it is worth is what the hold of that sum in a sandbox is worth. -/
noncomputable def Tryd.pinned : Pinned := { name := "ytlblkjefngofaaadoor", sum := "df55d68f7b39a9563547b57316645044caa741970ed2f918b7c8a612c4ab6419", checked := Tryd.checked }
namespace Rows
def none {H : Type} : Left H := { results := [], args := [] }

/- WHAT THE LISTED PACKAGE-LEVEL VARIABLES READ AS WHEN THE CALL BEGINS. Each datum BY PROGRAM (the guide's laid-datum.mjs) off the statement by which the dump's own 'gosem.cut.vars' lays the variable. In a bare row this is a premise. The card (YtlblkjefngofaaaDoorCards.lean) ties it to the program's text. -/
def laid_math_bits_deBruijn64tab {H : Type} : DataW H := .agg [.lit (.int .u8 0), .lit (.int .u8 1), .lit (.int .u8 56), .lit (.int .u8 2), .lit (.int .u8 57), .lit (.int .u8 49), .lit (.int .u8 28), .lit (.int .u8 3), .lit (.int .u8 61), .lit (.int .u8 58), .lit (.int .u8 42), .lit (.int .u8 50), .lit (.int .u8 38), .lit (.int .u8 29), .lit (.int .u8 17), .lit (.int .u8 4), .lit (.int .u8 62), .lit (.int .u8 47), .lit (.int .u8 59), .lit (.int .u8 36), .lit (.int .u8 45), .lit (.int .u8 43), .lit (.int .u8 51), .lit (.int .u8 22), .lit (.int .u8 53), .lit (.int .u8 39), .lit (.int .u8 33), .lit (.int .u8 30), .lit (.int .u8 24), .lit (.int .u8 18), .lit (.int .u8 12), .lit (.int .u8 5), .lit (.int .u8 63), .lit (.int .u8 55), .lit (.int .u8 48), .lit (.int .u8 27), .lit (.int .u8 60), .lit (.int .u8 41), .lit (.int .u8 37), .lit (.int .u8 16), .lit (.int .u8 46), .lit (.int .u8 35), .lit (.int .u8 44), .lit (.int .u8 21), .lit (.int .u8 52), .lit (.int .u8 32), .lit (.int .u8 23), .lit (.int .u8 11), .lit (.int .u8 54), .lit (.int .u8 26), .lit (.int .u8 40), .lit (.int .u8 15), .lit (.int .u8 34), .lit (.int .u8 20), .lit (.int .u8 31), .lit (.int .u8 10), .lit (.int .u8 25), .lit (.int .u8 14), .lit (.int .u8 19), .lit (.int .u8 9), .lit (.int .u8 13), .lit (.int .u8 8), .lit (.int .u8 7), .lit (.int .u8 6)]

/-- 'cadenzalaw08.DualReads': WHATEVER THE INPUT: true; the input reads as it did. -/
def dualReadsSpec : ChangeSpec := { name := "dualReads", fn := fun _ => fun
  | [d1, d2, d3] => { results := [.lit (.bool true)], args := [d1, d2, d3] }
  | _ => none }
def dualReadsRow : OpenClaim := { program := "ytlblkjefngofaaadoor", sum := "df55d68f7b39a9563547b57316645044caa741970ed2f918b7c8a612c4ab6419", func := "cadenza/cadenzalaw08.DualReads", spec := "dualReads", unfollowed := true, recurses := true, named := ["math/bits.deBruijn64tab"], apart := false, laid := [("math/bits.deBruijn64tab", laid_math_bits_deBruijn64tab)] }
def DualReadsSaid : Prop := dualReadsRow.holds Tryd.pinned (OpenSpec.ofChange dualReadsSpec)

/-- ITS FALSE NEIGHBOUR: 'it returns false'. Refute it at one input. -/
def dualReadsWrong : ChangeSpec := { name := "dualReads", fn := fun _ => fun
  | [d1, d2, d3] => { results := [.lit (.bool false)], args := [d1, d2, d3] }
  | _ => none }
def DualReadsWrongFalsely : Prop := dualReadsRow.holds Tryd.pinned (OpenSpec.ofChange dualReadsWrong)

/-- 'cadenzalaw07.RiceCodes': WHATEVER THE INPUT: true; the input reads as it did. -/
def riceCodesSpec : ChangeSpec := { name := "riceCodes", fn := fun _ => fun
  | [d1, d2, d3, d4] => { results := [.lit (.bool true)], args := [d1, d2, d3, d4] }
  | _ => none }
def riceCodesRow : OpenClaim := { program := "ytlblkjefngofaaadoor", sum := "df55d68f7b39a9563547b57316645044caa741970ed2f918b7c8a612c4ab6419", func := "cadenza/cadenzalaw07.RiceCodes", spec := "riceCodes", unfollowed := true, recurses := true, named := ["math/bits.deBruijn64tab"], apart := false, laid := [("math/bits.deBruijn64tab", laid_math_bits_deBruijn64tab)] }
def RiceCodesSaid : Prop := riceCodesRow.holds Tryd.pinned (OpenSpec.ofChange riceCodesSpec)

/-- ITS FALSE NEIGHBOUR: 'it returns false'. Refute it at one input. -/
def riceCodesWrong : ChangeSpec := { name := "riceCodes", fn := fun _ => fun
  | [d1, d2, d3, d4] => { results := [.lit (.bool false)], args := [d1, d2, d3, d4] }
  | _ => none }
def RiceCodesWrongFalsely : Prop := riceCodesRow.holds Tryd.pinned (OpenSpec.ofChange riceCodesWrong)

/-- 'cadenzalaw07.RiceBack': WHATEVER THE INPUT: true; the input reads as it did. -/
def riceBackSpec : ChangeSpec := { name := "riceBack", fn := fun _ => fun
  | [d1, d2, d3] => { results := [.lit (.bool true)], args := [d1, d2, d3] }
  | _ => none }
def riceBackRow : OpenClaim := { program := "ytlblkjefngofaaadoor", sum := "df55d68f7b39a9563547b57316645044caa741970ed2f918b7c8a612c4ab6419", func := "cadenza/cadenzalaw07.RiceBack", spec := "riceBack", unfollowed := true, recurses := true, named := ["math/bits.deBruijn64tab"], apart := false, laid := [("math/bits.deBruijn64tab", laid_math_bits_deBruijn64tab)] }
def RiceBackSaid : Prop := riceBackRow.holds Tryd.pinned (OpenSpec.ofChange riceBackSpec)

/-- ITS FALSE NEIGHBOUR: 'it returns false'. Refute it at one input. -/
def riceBackWrong : ChangeSpec := { name := "riceBack", fn := fun _ => fun
  | [d1, d2, d3] => { results := [.lit (.bool false)], args := [d1, d2, d3] }
  | _ => none }
def RiceBackWrongFalsely : Prop := riceBackRow.holds Tryd.pinned (OpenSpec.ofChange riceBackWrong)

/-- 'cadenzalaw07.RiceNames': WHATEVER THE INPUT: true; the input reads as it did. -/
def riceNamesSpec : ChangeSpec := { name := "riceNames", fn := fun _ => fun
  | [] => { results := [.lit (.bool true)], args := [] }
  | _ => none }
def riceNamesRow : OpenClaim := { program := "ytlblkjefngofaaadoor", sum := "df55d68f7b39a9563547b57316645044caa741970ed2f918b7c8a612c4ab6419", func := "cadenza/cadenzalaw07.RiceNames", spec := "riceNames", unfollowed := true, recurses := true, named := ["math/bits.deBruijn64tab"], apart := false, laid := [("math/bits.deBruijn64tab", laid_math_bits_deBruijn64tab)] }
def RiceNamesSaid : Prop := riceNamesRow.holds Tryd.pinned (OpenSpec.ofChange riceNamesSpec)

/-- ITS FALSE NEIGHBOUR: 'it returns false'. Refute it at one input. -/
def riceNamesWrong : ChangeSpec := { name := "riceNames", fn := fun _ => fun
  | [] => { results := [.lit (.bool false)], args := [] }
  | _ => none }
def RiceNamesWrongFalsely : Prop := riceNamesRow.holds Tryd.pinned (OpenSpec.ofChange riceNamesWrong)

/-- 'cadenzalaw07.RiceOnce': WHATEVER THE INPUT: true; the input reads as it did. -/
def riceOnceSpec : ChangeSpec := { name := "riceOnce", fn := fun _ => fun
  | [d1, d2, d3] => { results := [.lit (.bool true)], args := [d1, d2, d3] }
  | _ => none }
def riceOnceRow : OpenClaim := { program := "ytlblkjefngofaaadoor", sum := "df55d68f7b39a9563547b57316645044caa741970ed2f918b7c8a612c4ab6419", func := "cadenza/cadenzalaw07.RiceOnce", spec := "riceOnce", unfollowed := true, recurses := true, named := ["math/bits.deBruijn64tab"], apart := false, laid := [("math/bits.deBruijn64tab", laid_math_bits_deBruijn64tab)] }
def RiceOnceSaid : Prop := riceOnceRow.holds Tryd.pinned (OpenSpec.ofChange riceOnceSpec)

/-- ITS FALSE NEIGHBOUR: 'it returns false'. Refute it at one input. -/
def riceOnceWrong : ChangeSpec := { name := "riceOnce", fn := fun _ => fun
  | [d1, d2, d3] => { results := [.lit (.bool false)], args := [d1, d2, d3] }
  | _ => none }
def RiceOnceWrongFalsely : Prop := riceOnceRow.holds Tryd.pinned (OpenSpec.ofChange riceOnceWrong)

/-- 'cadenzalaw07.RiceCut': WHATEVER THE INPUT: true; the input reads as it did. -/
def riceCutSpec : ChangeSpec := { name := "riceCut", fn := fun _ => fun
  | [d1, d2, d3, d4] => { results := [.lit (.bool true)], args := [d1, d2, d3, d4] }
  | _ => none }
def riceCutRow : OpenClaim := { program := "ytlblkjefngofaaadoor", sum := "df55d68f7b39a9563547b57316645044caa741970ed2f918b7c8a612c4ab6419", func := "cadenza/cadenzalaw07.RiceCut", spec := "riceCut", unfollowed := true, recurses := true, named := ["math/bits.deBruijn64tab"], apart := false, laid := [("math/bits.deBruijn64tab", laid_math_bits_deBruijn64tab)] }
def RiceCutSaid : Prop := riceCutRow.holds Tryd.pinned (OpenSpec.ofChange riceCutSpec)

/-- ITS FALSE NEIGHBOUR: 'it returns false'. Refute it at one input. -/
def riceCutWrong : ChangeSpec := { name := "riceCut", fn := fun _ => fun
  | [d1, d2, d3, d4] => { results := [.lit (.bool false)], args := [d1, d2, d3, d4] }
  | _ => none }
def RiceCutWrongFalsely : Prop := riceCutRow.holds Tryd.pinned (OpenSpec.ofChange riceCutWrong)

/-- 'cadenzalaw08.DualSides': WHATEVER THE INPUT: true; the input reads as it did. -/
def dualSidesSpec : ChangeSpec := { name := "dualSides", fn := fun _ => fun
  | [d1, d2, d3] => { results := [.lit (.bool true)], args := [d1, d2, d3] }
  | _ => none }
def dualSidesRow : OpenClaim := { program := "ytlblkjefngofaaadoor", sum := "df55d68f7b39a9563547b57316645044caa741970ed2f918b7c8a612c4ab6419", func := "cadenza/cadenzalaw08.DualSides", spec := "dualSides", unfollowed := true, recurses := true, named := ["math/bits.deBruijn64tab"], apart := false, laid := [("math/bits.deBruijn64tab", laid_math_bits_deBruijn64tab)] }
def DualSidesSaid : Prop := dualSidesRow.holds Tryd.pinned (OpenSpec.ofChange dualSidesSpec)

/-- ITS FALSE NEIGHBOUR: 'it returns false'. Refute it at one input. -/
def dualSidesWrong : ChangeSpec := { name := "dualSides", fn := fun _ => fun
  | [d1, d2, d3] => { results := [.lit (.bool false)], args := [d1, d2, d3] }
  | _ => none }
def DualSidesWrongFalsely : Prop := dualSidesRow.holds Tryd.pinned (OpenSpec.ofChange dualSidesWrong)

/-- 'cadenzalaw08.DualNames': WHATEVER THE INPUT: true; the input reads as it did. -/
def dualNamesSpec : ChangeSpec := { name := "dualNames", fn := fun _ => fun
  | [] => { results := [.lit (.bool true)], args := [] }
  | _ => none }
def dualNamesRow : OpenClaim := { program := "ytlblkjefngofaaadoor", sum := "df55d68f7b39a9563547b57316645044caa741970ed2f918b7c8a612c4ab6419", func := "cadenza/cadenzalaw08.DualNames", spec := "dualNames", unfollowed := true, recurses := true, named := ["math/bits.deBruijn64tab"], apart := false, laid := [("math/bits.deBruijn64tab", laid_math_bits_deBruijn64tab)] }
def DualNamesSaid : Prop := dualNamesRow.holds Tryd.pinned (OpenSpec.ofChange dualNamesSpec)

/-- ITS FALSE NEIGHBOUR: 'it returns false'. Refute it at one input. -/
def dualNamesWrong : ChangeSpec := { name := "dualNames", fn := fun _ => fun
  | [] => { results := [.lit (.bool false)], args := [] }
  | _ => none }
def DualNamesWrongFalsely : Prop := dualNamesRow.holds Tryd.pinned (OpenSpec.ofChange dualNamesWrong)

/-- 'cadenzalaw08.DualOnce': WHATEVER THE INPUT: true; the input reads as it did. -/
def dualOnceSpec : ChangeSpec := { name := "dualOnce", fn := fun _ => fun
  | [d1, d2, d3] => { results := [.lit (.bool true)], args := [d1, d2, d3] }
  | _ => none }
def dualOnceRow : OpenClaim := { program := "ytlblkjefngofaaadoor", sum := "df55d68f7b39a9563547b57316645044caa741970ed2f918b7c8a612c4ab6419", func := "cadenza/cadenzalaw08.DualOnce", spec := "dualOnce", unfollowed := true, recurses := true, named := ["math/bits.deBruijn64tab"], apart := false, laid := [("math/bits.deBruijn64tab", laid_math_bits_deBruijn64tab)] }
def DualOnceSaid : Prop := dualOnceRow.holds Tryd.pinned (OpenSpec.ofChange dualOnceSpec)

/-- ITS FALSE NEIGHBOUR: 'it returns false'. Refute it at one input. -/
def dualOnceWrong : ChangeSpec := { name := "dualOnce", fn := fun _ => fun
  | [d1, d2, d3] => { results := [.lit (.bool false)], args := [d1, d2, d3] }
  | _ => none }
def DualOnceWrongFalsely : Prop := dualOnceRow.holds Tryd.pinned (OpenSpec.ofChange dualOnceWrong)

/-- 'cadenzalaw08.DualCut': WHATEVER THE INPUT: true; the input reads as it did. -/
def dualCutSpec : ChangeSpec := { name := "dualCut", fn := fun _ => fun
  | [d1, d2, d3, d4] => { results := [.lit (.bool true)], args := [d1, d2, d3, d4] }
  | _ => none }
def dualCutRow : OpenClaim := { program := "ytlblkjefngofaaadoor", sum := "df55d68f7b39a9563547b57316645044caa741970ed2f918b7c8a612c4ab6419", func := "cadenza/cadenzalaw08.DualCut", spec := "dualCut", unfollowed := true, recurses := true, named := ["math/bits.deBruijn64tab"], apart := false, laid := [("math/bits.deBruijn64tab", laid_math_bits_deBruijn64tab)] }
def DualCutSaid : Prop := dualCutRow.holds Tryd.pinned (OpenSpec.ofChange dualCutSpec)

/-- ITS FALSE NEIGHBOUR: 'it returns false'. Refute it at one input. -/
def dualCutWrong : ChangeSpec := { name := "dualCut", fn := fun _ => fun
  | [d1, d2, d3, d4] => { results := [.lit (.bool false)], args := [d1, d2, d3, d4] }
  | _ => none }
def DualCutWrongFalsely : Prop := dualCutRow.holds Tryd.pinned (OpenSpec.ofChange dualCutWrong)

/- THE SECOND FORM. 'bulk': how many values and letters a reading holds, each counted each time it is reached (what is shared counts as often as it is met; a slice's spare places count too). A statement '..UptoSaid' is the law's where the arguments, and the package variables that the reading takes, are together of bulk at most 1048576: NARROWER than '..Said'. Prove '..Said' where nothing that the law and all that it calls make is longer than what came in: it says more and counts as full. Else prove '..UptoSaid'. A law counts once. -/
mutual
def uptoBulk {H : Type} : DataW H → Nat
  | .lit (.string bytes) => bytes.length + 1
  | .lit _ => 1
  | .nil => 1
  | .ptr d => uptoBulk d + 1
  | .slice elems spare => uptoBulkAll elems + uptoBulkAll spare + 1
  | .agg parts => uptoBulkAll parts + 1
  | .iface _ d => uptoBulk d + 1
  | .map entries => uptoBulkEntries entries + 1
  | .held _ => 1
def uptoBulkAll {H : Type} : List (DataW H) → Nat
  | [] => 0
  | d :: r => uptoBulk d + uptoBulkAll r
def uptoBulkEntries {H : Type} : List (Lit × DataW H) → Nat
  | [] => 0
  | x :: r => uptoBulkEntry x + uptoBulkEntries r
def uptoBulkEntry {H : Type} : Lit × DataW H → Nat
  | (.string bytes, d) => bytes.length + uptoBulk d + 1
  | (_, d) => uptoBulk d + 1
 end
def uptoSmall : (H : Type) → List (DataW H) → Bool := fun _ ds => decide (uptoBulkAll ds ≤ 1048576)
def OpenSpec.upto (s : _root_.Go.ChangeSpec) : _root_.Go.OpenSpec := { _root_.Go.OpenSpec.ofChange s with cond := some uptoSmall }

/-- 'cadenzalaw08.DualReads', WHERE WHAT IT READS IS OF BULK AT MOST 1048576: true; the input reads as it did. -/
def dualReadsUptoRow : OpenClaim := { program := "ytlblkjefngofaaadoor", sum := "df55d68f7b39a9563547b57316645044caa741970ed2f918b7c8a612c4ab6419", func := "cadenza/cadenzalaw08.DualReads", spec := "dualReads", unfollowed := true, recurses := true, named := ["math/bits.deBruijn64tab"], apart := false, laid := [("math/bits.deBruijn64tab", laid_math_bits_deBruijn64tab)], narrowed := true }
def DualReadsUptoSaid : Prop := dualReadsUptoRow.holds Tryd.pinned (OpenSpec.upto dualReadsSpec)

/-- 'cadenzalaw07.RiceCodes', WHERE WHAT IT READS IS OF BULK AT MOST 1048576: true; the input reads as it did. -/
def riceCodesUptoRow : OpenClaim := { program := "ytlblkjefngofaaadoor", sum := "df55d68f7b39a9563547b57316645044caa741970ed2f918b7c8a612c4ab6419", func := "cadenza/cadenzalaw07.RiceCodes", spec := "riceCodes", unfollowed := true, recurses := true, named := ["math/bits.deBruijn64tab"], apart := false, laid := [("math/bits.deBruijn64tab", laid_math_bits_deBruijn64tab)], narrowed := true }
def RiceCodesUptoSaid : Prop := riceCodesUptoRow.holds Tryd.pinned (OpenSpec.upto riceCodesSpec)

/-- 'cadenzalaw07.RiceBack', WHERE WHAT IT READS IS OF BULK AT MOST 1048576: true; the input reads as it did. -/
def riceBackUptoRow : OpenClaim := { program := "ytlblkjefngofaaadoor", sum := "df55d68f7b39a9563547b57316645044caa741970ed2f918b7c8a612c4ab6419", func := "cadenza/cadenzalaw07.RiceBack", spec := "riceBack", unfollowed := true, recurses := true, named := ["math/bits.deBruijn64tab"], apart := false, laid := [("math/bits.deBruijn64tab", laid_math_bits_deBruijn64tab)], narrowed := true }
def RiceBackUptoSaid : Prop := riceBackUptoRow.holds Tryd.pinned (OpenSpec.upto riceBackSpec)

/-- 'cadenzalaw07.RiceNames', WHERE WHAT IT READS IS OF BULK AT MOST 1048576: true; the input reads as it did. -/
def riceNamesUptoRow : OpenClaim := { program := "ytlblkjefngofaaadoor", sum := "df55d68f7b39a9563547b57316645044caa741970ed2f918b7c8a612c4ab6419", func := "cadenza/cadenzalaw07.RiceNames", spec := "riceNames", unfollowed := true, recurses := true, named := ["math/bits.deBruijn64tab"], apart := false, laid := [("math/bits.deBruijn64tab", laid_math_bits_deBruijn64tab)], narrowed := true }
def RiceNamesUptoSaid : Prop := riceNamesUptoRow.holds Tryd.pinned (OpenSpec.upto riceNamesSpec)

/-- 'cadenzalaw07.RiceOnce', WHERE WHAT IT READS IS OF BULK AT MOST 1048576: true; the input reads as it did. -/
def riceOnceUptoRow : OpenClaim := { program := "ytlblkjefngofaaadoor", sum := "df55d68f7b39a9563547b57316645044caa741970ed2f918b7c8a612c4ab6419", func := "cadenza/cadenzalaw07.RiceOnce", spec := "riceOnce", unfollowed := true, recurses := true, named := ["math/bits.deBruijn64tab"], apart := false, laid := [("math/bits.deBruijn64tab", laid_math_bits_deBruijn64tab)], narrowed := true }
def RiceOnceUptoSaid : Prop := riceOnceUptoRow.holds Tryd.pinned (OpenSpec.upto riceOnceSpec)

/-- 'cadenzalaw07.RiceCut', WHERE WHAT IT READS IS OF BULK AT MOST 1048576: true; the input reads as it did. -/
def riceCutUptoRow : OpenClaim := { program := "ytlblkjefngofaaadoor", sum := "df55d68f7b39a9563547b57316645044caa741970ed2f918b7c8a612c4ab6419", func := "cadenza/cadenzalaw07.RiceCut", spec := "riceCut", unfollowed := true, recurses := true, named := ["math/bits.deBruijn64tab"], apart := false, laid := [("math/bits.deBruijn64tab", laid_math_bits_deBruijn64tab)], narrowed := true }
def RiceCutUptoSaid : Prop := riceCutUptoRow.holds Tryd.pinned (OpenSpec.upto riceCutSpec)

/-- 'cadenzalaw08.DualSides', WHERE WHAT IT READS IS OF BULK AT MOST 1048576: true; the input reads as it did. -/
def dualSidesUptoRow : OpenClaim := { program := "ytlblkjefngofaaadoor", sum := "df55d68f7b39a9563547b57316645044caa741970ed2f918b7c8a612c4ab6419", func := "cadenza/cadenzalaw08.DualSides", spec := "dualSides", unfollowed := true, recurses := true, named := ["math/bits.deBruijn64tab"], apart := false, laid := [("math/bits.deBruijn64tab", laid_math_bits_deBruijn64tab)], narrowed := true }
def DualSidesUptoSaid : Prop := dualSidesUptoRow.holds Tryd.pinned (OpenSpec.upto dualSidesSpec)

/-- 'cadenzalaw08.DualNames', WHERE WHAT IT READS IS OF BULK AT MOST 1048576: true; the input reads as it did. -/
def dualNamesUptoRow : OpenClaim := { program := "ytlblkjefngofaaadoor", sum := "df55d68f7b39a9563547b57316645044caa741970ed2f918b7c8a612c4ab6419", func := "cadenza/cadenzalaw08.DualNames", spec := "dualNames", unfollowed := true, recurses := true, named := ["math/bits.deBruijn64tab"], apart := false, laid := [("math/bits.deBruijn64tab", laid_math_bits_deBruijn64tab)], narrowed := true }
def DualNamesUptoSaid : Prop := dualNamesUptoRow.holds Tryd.pinned (OpenSpec.upto dualNamesSpec)

/-- 'cadenzalaw08.DualOnce', WHERE WHAT IT READS IS OF BULK AT MOST 1048576: true; the input reads as it did. -/
def dualOnceUptoRow : OpenClaim := { program := "ytlblkjefngofaaadoor", sum := "df55d68f7b39a9563547b57316645044caa741970ed2f918b7c8a612c4ab6419", func := "cadenza/cadenzalaw08.DualOnce", spec := "dualOnce", unfollowed := true, recurses := true, named := ["math/bits.deBruijn64tab"], apart := false, laid := [("math/bits.deBruijn64tab", laid_math_bits_deBruijn64tab)], narrowed := true }
def DualOnceUptoSaid : Prop := dualOnceUptoRow.holds Tryd.pinned (OpenSpec.upto dualOnceSpec)

/-- 'cadenzalaw08.DualCut', WHERE WHAT IT READS IS OF BULK AT MOST 1048576: true; the input reads as it did. -/
def dualCutUptoRow : OpenClaim := { program := "ytlblkjefngofaaadoor", sum := "df55d68f7b39a9563547b57316645044caa741970ed2f918b7c8a612c4ab6419", func := "cadenza/cadenzalaw08.DualCut", spec := "dualCut", unfollowed := true, recurses := true, named := ["math/bits.deBruijn64tab"], apart := false, laid := [("math/bits.deBruijn64tab", laid_math_bits_deBruijn64tab)], narrowed := true }
def DualCutUptoSaid : Prop := dualCutUptoRow.holds Tryd.pinned (OpenSpec.upto dualCutSpec)

end Rows
end Go.Proofs.YtlblkjefngofaaaDoor
