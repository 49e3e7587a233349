/-
  NARROWER THAN 'FOR EVERY INPUT', by the rows' own cells (each row's printed sentence says how): CoderReads: laid · ResumeFeeds: laid · DualNames: laid · ResumeNames: laid · ResumePieces: laid · ResumeBytes: laid · CoderBack: laid · CoderOnce: laid · CoderCut: laid · CoderNames: laid · CoderParts: laid · CoderZeros: laid · ResumeWaits: laid · ResumeCoder: laid.
  DERIVED. THE GIVEN ROWS OF THIS SEAT. 14 by the template 'for every input the law returns true; each argument reads behind the call as it read before'; 0 by the template 'total and deterministic' (their statements: YtppilidcjlnmoaaDoorTotals.lean).
  GIVEN WITH THE SEED: the statements are not yours to turn. If you find one false, say at which input.
  Laid BY PROGRAM, IN A SANDBOX (cutbox-rows.mjs): the forced cells as the released guide's own fill.sh prints them over the translation 60ce0ae1d89dac6c… (all of the seat's roots in one cut). By AI agents, Wed Nov 11 2026. No macro, syntax, notation, axiom, sorry.
-/
import Derived.Test.YtppilidcjlnmoaaDoorChecked
import GoSem.Claim
import GoSem.ClaimJoined
import GoSem.ClaimMapViews
import Derived.JoinedTies
import Derived.KernelRfl
namespace Go.Proofs.YtppilidcjlnmoaaDoor
/- THE CELL 'sum', in the pinned program and in every row, IS THE sha256 OF THE DUMP (.gsa) THAT YtppilidcjlnmoaaDoorProg.lean LOADS. Nothing in Lean hashes anything: it is a label: what it is worth is what the hold of that sum in a sandbox is worth. -/
noncomputable def Tryd.pinned : Pinned := { name := "ytppilidcjlnmoaadoor", sum := "60ce0ae1d89dac6ce103e3da5fc4b74201060019a32e631047b9d55c74ffad0f", checked := Tryd.checked }
namespace Rows
def none {H : Type} : Left H := { results := [], args := [] }

/- WHAT THE LISTED PACKAGE-LEVEL VARIABLES READ AS WHEN THE CALL BEGINS. Each datum BY PROGRAM (the guide's laid-datum.mjs) off the statement by which the dump's own 'gosem.cut.vars' lays the variable. In a bare row this is a premise. The card (YtppilidcjlnmoaaDoorCards.lean) ties it to the program's text. -/
def laid_math_bits_deBruijn64tab {H : Type} : DataW H := .agg [.lit (.int .u8 0), .lit (.int .u8 1), .lit (.int .u8 56), .lit (.int .u8 2), .lit (.int .u8 57), .lit (.int .u8 49), .lit (.int .u8 28), .lit (.int .u8 3), .lit (.int .u8 61), .lit (.int .u8 58), .lit (.int .u8 42), .lit (.int .u8 50), .lit (.int .u8 38), .lit (.int .u8 29), .lit (.int .u8 17), .lit (.int .u8 4), .lit (.int .u8 62), .lit (.int .u8 47), .lit (.int .u8 59), .lit (.int .u8 36), .lit (.int .u8 45), .lit (.int .u8 43), .lit (.int .u8 51), .lit (.int .u8 22), .lit (.int .u8 53), .lit (.int .u8 39), .lit (.int .u8 33), .lit (.int .u8 30), .lit (.int .u8 24), .lit (.int .u8 18), .lit (.int .u8 12), .lit (.int .u8 5), .lit (.int .u8 63), .lit (.int .u8 55), .lit (.int .u8 48), .lit (.int .u8 27), .lit (.int .u8 60), .lit (.int .u8 41), .lit (.int .u8 37), .lit (.int .u8 16), .lit (.int .u8 46), .lit (.int .u8 35), .lit (.int .u8 44), .lit (.int .u8 21), .lit (.int .u8 52), .lit (.int .u8 32), .lit (.int .u8 23), .lit (.int .u8 11), .lit (.int .u8 54), .lit (.int .u8 26), .lit (.int .u8 40), .lit (.int .u8 15), .lit (.int .u8 34), .lit (.int .u8 20), .lit (.int .u8 31), .lit (.int .u8 10), .lit (.int .u8 25), .lit (.int .u8 14), .lit (.int .u8 19), .lit (.int .u8 9), .lit (.int .u8 13), .lit (.int .u8 8), .lit (.int .u8 7), .lit (.int .u8 6)]

/-- 'cadenzalaw09.CoderReads': WHATEVER THE INPUT: true; the input reads as it did. -/
def coderReadsSpec : ChangeSpec := { name := "coderReads", fn := fun _ => fun
  | [d1, d2] => { results := [.lit (.bool true)], args := [d1, d2] }
  | _ => none }
def coderReadsRow : OpenClaim := { program := "ytppilidcjlnmoaadoor", sum := "60ce0ae1d89dac6ce103e3da5fc4b74201060019a32e631047b9d55c74ffad0f", func := "cadenza/cadenzalaw09.CoderReads", spec := "coderReads", unfollowed := true, recurses := true, named := ["math/bits.deBruijn64tab"], apart := false, laid := [("math/bits.deBruijn64tab", laid_math_bits_deBruijn64tab)] }
def CoderReadsSaid : Prop := coderReadsRow.holds Tryd.pinned (OpenSpec.ofChange coderReadsSpec)

/-- ITS FALSE NEIGHBOUR: 'it returns false'. Refute it at one input. -/
def coderReadsWrong : ChangeSpec := { name := "coderReads", fn := fun _ => fun
  | [d1, d2] => { results := [.lit (.bool false)], args := [d1, d2] }
  | _ => none }
def CoderReadsWrongFalsely : Prop := coderReadsRow.holds Tryd.pinned (OpenSpec.ofChange coderReadsWrong)

/-- 'cadenzalaw10.ResumeFeeds': WHATEVER THE INPUT: true; the input reads as it did. -/
def resumeFeedsSpec : ChangeSpec := { name := "resumeFeeds", fn := fun _ => fun
  | [d1, d2] => { results := [.lit (.bool true)], args := [d1, d2] }
  | _ => none }
def resumeFeedsRow : OpenClaim := { program := "ytppilidcjlnmoaadoor", sum := "60ce0ae1d89dac6ce103e3da5fc4b74201060019a32e631047b9d55c74ffad0f", func := "cadenza/cadenzalaw10.ResumeFeeds", spec := "resumeFeeds", unfollowed := true, recurses := true, named := ["math/bits.deBruijn64tab"], apart := false, laid := [("math/bits.deBruijn64tab", laid_math_bits_deBruijn64tab)] }
def ResumeFeedsSaid : Prop := resumeFeedsRow.holds Tryd.pinned (OpenSpec.ofChange resumeFeedsSpec)

/-- ITS FALSE NEIGHBOUR: 'it returns false'. Refute it at one input. -/
def resumeFeedsWrong : ChangeSpec := { name := "resumeFeeds", fn := fun _ => fun
  | [d1, d2] => { results := [.lit (.bool false)], args := [d1, d2] }
  | _ => none }
def ResumeFeedsWrongFalsely : Prop := resumeFeedsRow.holds Tryd.pinned (OpenSpec.ofChange resumeFeedsWrong)

/-- 'cadenzalaw08.DualNames': WHATEVER THE INPUT: true; the input reads as it did. -/
def dualNamesSpec : ChangeSpec := { name := "dualNames", fn := fun _ => fun
  | [] => { results := [.lit (.bool true)], args := [] }
  | _ => none }
def dualNamesRow : OpenClaim := { program := "ytppilidcjlnmoaadoor", sum := "60ce0ae1d89dac6ce103e3da5fc4b74201060019a32e631047b9d55c74ffad0f", func := "cadenza/cadenzalaw08.DualNames", spec := "dualNames", unfollowed := true, recurses := true, named := ["math/bits.deBruijn64tab"], apart := false, laid := [("math/bits.deBruijn64tab", laid_math_bits_deBruijn64tab)] }
def DualNamesSaid : Prop := dualNamesRow.holds Tryd.pinned (OpenSpec.ofChange dualNamesSpec)

/-- ITS FALSE NEIGHBOUR: 'it returns false'. Refute it at one input. -/
def dualNamesWrong : ChangeSpec := { name := "dualNames", fn := fun _ => fun
  | [] => { results := [.lit (.bool false)], args := [] }
  | _ => none }
def DualNamesWrongFalsely : Prop := dualNamesRow.holds Tryd.pinned (OpenSpec.ofChange dualNamesWrong)

/-- 'cadenzalaw10.ResumeNames': WHATEVER THE INPUT: true; the input reads as it did. -/
def resumeNamesSpec : ChangeSpec := { name := "resumeNames", fn := fun _ => fun
  | [] => { results := [.lit (.bool true)], args := [] }
  | _ => none }
def resumeNamesRow : OpenClaim := { program := "ytppilidcjlnmoaadoor", sum := "60ce0ae1d89dac6ce103e3da5fc4b74201060019a32e631047b9d55c74ffad0f", func := "cadenza/cadenzalaw10.ResumeNames", spec := "resumeNames", unfollowed := true, recurses := true, named := ["math/bits.deBruijn64tab"], apart := false, laid := [("math/bits.deBruijn64tab", laid_math_bits_deBruijn64tab)] }
def ResumeNamesSaid : Prop := resumeNamesRow.holds Tryd.pinned (OpenSpec.ofChange resumeNamesSpec)

/-- ITS FALSE NEIGHBOUR: 'it returns false'. Refute it at one input. -/
def resumeNamesWrong : ChangeSpec := { name := "resumeNames", fn := fun _ => fun
  | [] => { results := [.lit (.bool false)], args := [] }
  | _ => none }
def ResumeNamesWrongFalsely : Prop := resumeNamesRow.holds Tryd.pinned (OpenSpec.ofChange resumeNamesWrong)

/-- 'cadenzalaw10.ResumePieces': WHATEVER THE INPUT: true; the input reads as it did. -/
def resumePiecesSpec : ChangeSpec := { name := "resumePieces", fn := fun _ => fun
  | [d1, d2, d3] => { results := [.lit (.bool true)], args := [d1, d2, d3] }
  | _ => none }
def resumePiecesRow : OpenClaim := { program := "ytppilidcjlnmoaadoor", sum := "60ce0ae1d89dac6ce103e3da5fc4b74201060019a32e631047b9d55c74ffad0f", func := "cadenza/cadenzalaw10.ResumePieces", spec := "resumePieces", unfollowed := true, recurses := true, named := ["math/bits.deBruijn64tab"], apart := false, laid := [("math/bits.deBruijn64tab", laid_math_bits_deBruijn64tab)] }
def ResumePiecesSaid : Prop := resumePiecesRow.holds Tryd.pinned (OpenSpec.ofChange resumePiecesSpec)

/-- ITS FALSE NEIGHBOUR: 'it returns false'. Refute it at one input. -/
def resumePiecesWrong : ChangeSpec := { name := "resumePieces", fn := fun _ => fun
  | [d1, d2, d3] => { results := [.lit (.bool false)], args := [d1, d2, d3] }
  | _ => none }
def ResumePiecesWrongFalsely : Prop := resumePiecesRow.holds Tryd.pinned (OpenSpec.ofChange resumePiecesWrong)

/-- 'cadenzalaw10.ResumeBytes': WHATEVER THE INPUT: true; the input reads as it did. -/
def resumeBytesSpec : ChangeSpec := { name := "resumeBytes", fn := fun _ => fun
  | [d1, d2] => { results := [.lit (.bool true)], args := [d1, d2] }
  | _ => none }
def resumeBytesRow : OpenClaim := { program := "ytppilidcjlnmoaadoor", sum := "60ce0ae1d89dac6ce103e3da5fc4b74201060019a32e631047b9d55c74ffad0f", func := "cadenza/cadenzalaw10.ResumeBytes", spec := "resumeBytes", unfollowed := true, recurses := true, named := ["math/bits.deBruijn64tab"], apart := false, laid := [("math/bits.deBruijn64tab", laid_math_bits_deBruijn64tab)] }
def ResumeBytesSaid : Prop := resumeBytesRow.holds Tryd.pinned (OpenSpec.ofChange resumeBytesSpec)

/-- ITS FALSE NEIGHBOUR: 'it returns false'. Refute it at one input. -/
def resumeBytesWrong : ChangeSpec := { name := "resumeBytes", fn := fun _ => fun
  | [d1, d2] => { results := [.lit (.bool false)], args := [d1, d2] }
  | _ => none }
def ResumeBytesWrongFalsely : Prop := resumeBytesRow.holds Tryd.pinned (OpenSpec.ofChange resumeBytesWrong)

/-- 'cadenzalaw09.CoderBack': WHATEVER THE INPUT: true; the input reads as it did. -/
def coderBackSpec : ChangeSpec := { name := "coderBack", fn := fun _ => fun
  | [d1, d2] => { results := [.lit (.bool true)], args := [d1, d2] }
  | _ => none }
def coderBackRow : OpenClaim := { program := "ytppilidcjlnmoaadoor", sum := "60ce0ae1d89dac6ce103e3da5fc4b74201060019a32e631047b9d55c74ffad0f", func := "cadenza/cadenzalaw09.CoderBack", spec := "coderBack", unfollowed := true, recurses := true, named := ["math/bits.deBruijn64tab"], apart := false, laid := [("math/bits.deBruijn64tab", laid_math_bits_deBruijn64tab)] }
def CoderBackSaid : Prop := coderBackRow.holds Tryd.pinned (OpenSpec.ofChange coderBackSpec)

/-- ITS FALSE NEIGHBOUR: 'it returns false'. Refute it at one input. -/
def coderBackWrong : ChangeSpec := { name := "coderBack", fn := fun _ => fun
  | [d1, d2] => { results := [.lit (.bool false)], args := [d1, d2] }
  | _ => none }
def CoderBackWrongFalsely : Prop := coderBackRow.holds Tryd.pinned (OpenSpec.ofChange coderBackWrong)

/-- 'cadenzalaw09.CoderOnce': WHATEVER THE INPUT: true; the input reads as it did. -/
def coderOnceSpec : ChangeSpec := { name := "coderOnce", fn := fun _ => fun
  | [d1, d2] => { results := [.lit (.bool true)], args := [d1, d2] }
  | _ => none }
def coderOnceRow : OpenClaim := { program := "ytppilidcjlnmoaadoor", sum := "60ce0ae1d89dac6ce103e3da5fc4b74201060019a32e631047b9d55c74ffad0f", func := "cadenza/cadenzalaw09.CoderOnce", spec := "coderOnce", unfollowed := true, recurses := true, named := ["math/bits.deBruijn64tab"], apart := false, laid := [("math/bits.deBruijn64tab", laid_math_bits_deBruijn64tab)] }
def CoderOnceSaid : Prop := coderOnceRow.holds Tryd.pinned (OpenSpec.ofChange coderOnceSpec)

/-- ITS FALSE NEIGHBOUR: 'it returns false'. Refute it at one input. -/
def coderOnceWrong : ChangeSpec := { name := "coderOnce", fn := fun _ => fun
  | [d1, d2] => { results := [.lit (.bool false)], args := [d1, d2] }
  | _ => none }
def CoderOnceWrongFalsely : Prop := coderOnceRow.holds Tryd.pinned (OpenSpec.ofChange coderOnceWrong)

/-- 'cadenzalaw09.CoderCut': WHATEVER THE INPUT: true; the input reads as it did. -/
def coderCutSpec : ChangeSpec := { name := "coderCut", fn := fun _ => fun
  | [d1, d2] => { results := [.lit (.bool true)], args := [d1, d2] }
  | _ => none }
def coderCutRow : OpenClaim := { program := "ytppilidcjlnmoaadoor", sum := "60ce0ae1d89dac6ce103e3da5fc4b74201060019a32e631047b9d55c74ffad0f", func := "cadenza/cadenzalaw09.CoderCut", spec := "coderCut", unfollowed := true, recurses := true, named := ["math/bits.deBruijn64tab"], apart := false, laid := [("math/bits.deBruijn64tab", laid_math_bits_deBruijn64tab)] }
def CoderCutSaid : Prop := coderCutRow.holds Tryd.pinned (OpenSpec.ofChange coderCutSpec)

/-- ITS FALSE NEIGHBOUR: 'it returns false'. Refute it at one input. -/
def coderCutWrong : ChangeSpec := { name := "coderCut", fn := fun _ => fun
  | [d1, d2] => { results := [.lit (.bool false)], args := [d1, d2] }
  | _ => none }
def CoderCutWrongFalsely : Prop := coderCutRow.holds Tryd.pinned (OpenSpec.ofChange coderCutWrong)

/-- 'cadenzalaw09.CoderNames': WHATEVER THE INPUT: true; the input reads as it did. -/
def coderNamesSpec : ChangeSpec := { name := "coderNames", fn := fun _ => fun
  | [] => { results := [.lit (.bool true)], args := [] }
  | _ => none }
def coderNamesRow : OpenClaim := { program := "ytppilidcjlnmoaadoor", sum := "60ce0ae1d89dac6ce103e3da5fc4b74201060019a32e631047b9d55c74ffad0f", func := "cadenza/cadenzalaw09.CoderNames", spec := "coderNames", unfollowed := true, recurses := true, named := ["math/bits.deBruijn64tab"], apart := false, laid := [("math/bits.deBruijn64tab", laid_math_bits_deBruijn64tab)] }
def CoderNamesSaid : Prop := coderNamesRow.holds Tryd.pinned (OpenSpec.ofChange coderNamesSpec)

/-- ITS FALSE NEIGHBOUR: 'it returns false'. Refute it at one input. -/
def coderNamesWrong : ChangeSpec := { name := "coderNames", fn := fun _ => fun
  | [] => { results := [.lit (.bool false)], args := [] }
  | _ => none }
def CoderNamesWrongFalsely : Prop := coderNamesRow.holds Tryd.pinned (OpenSpec.ofChange coderNamesWrong)

/-- 'cadenzalaw09.CoderParts': WHATEVER THE INPUT: true; the input reads as it did. -/
def coderPartsSpec : ChangeSpec := { name := "coderParts", fn := fun _ => fun
  | [d1, d2] => { results := [.lit (.bool true)], args := [d1, d2] }
  | _ => none }
def coderPartsRow : OpenClaim := { program := "ytppilidcjlnmoaadoor", sum := "60ce0ae1d89dac6ce103e3da5fc4b74201060019a32e631047b9d55c74ffad0f", func := "cadenza/cadenzalaw09.CoderParts", spec := "coderParts", unfollowed := true, recurses := true, named := ["math/bits.deBruijn64tab"], apart := false, laid := [("math/bits.deBruijn64tab", laid_math_bits_deBruijn64tab)] }
def CoderPartsSaid : Prop := coderPartsRow.holds Tryd.pinned (OpenSpec.ofChange coderPartsSpec)

/-- ITS FALSE NEIGHBOUR: 'it returns false'. Refute it at one input. -/
def coderPartsWrong : ChangeSpec := { name := "coderParts", fn := fun _ => fun
  | [d1, d2] => { results := [.lit (.bool false)], args := [d1, d2] }
  | _ => none }
def CoderPartsWrongFalsely : Prop := coderPartsRow.holds Tryd.pinned (OpenSpec.ofChange coderPartsWrong)

/-- 'cadenzalaw09.CoderZeros': WHATEVER THE INPUT: true; the input reads as it did. -/
def coderZerosSpec : ChangeSpec := { name := "coderZeros", fn := fun _ => fun
  | [d1, d2] => { results := [.lit (.bool true)], args := [d1, d2] }
  | _ => none }
def coderZerosRow : OpenClaim := { program := "ytppilidcjlnmoaadoor", sum := "60ce0ae1d89dac6ce103e3da5fc4b74201060019a32e631047b9d55c74ffad0f", func := "cadenza/cadenzalaw09.CoderZeros", spec := "coderZeros", unfollowed := true, recurses := true, named := ["math/bits.deBruijn64tab"], apart := false, laid := [("math/bits.deBruijn64tab", laid_math_bits_deBruijn64tab)] }
def CoderZerosSaid : Prop := coderZerosRow.holds Tryd.pinned (OpenSpec.ofChange coderZerosSpec)

/-- ITS FALSE NEIGHBOUR: 'it returns false'. Refute it at one input. -/
def coderZerosWrong : ChangeSpec := { name := "coderZeros", fn := fun _ => fun
  | [d1, d2] => { results := [.lit (.bool false)], args := [d1, d2] }
  | _ => none }
def CoderZerosWrongFalsely : Prop := coderZerosRow.holds Tryd.pinned (OpenSpec.ofChange coderZerosWrong)

/-- 'cadenzalaw10.ResumeWaits': WHATEVER THE INPUT: true; the input reads as it did. -/
def resumeWaitsSpec : ChangeSpec := { name := "resumeWaits", fn := fun _ => fun
  | [d1, d2] => { results := [.lit (.bool true)], args := [d1, d2] }
  | _ => none }
def resumeWaitsRow : OpenClaim := { program := "ytppilidcjlnmoaadoor", sum := "60ce0ae1d89dac6ce103e3da5fc4b74201060019a32e631047b9d55c74ffad0f", func := "cadenza/cadenzalaw10.ResumeWaits", spec := "resumeWaits", unfollowed := true, recurses := true, named := ["math/bits.deBruijn64tab"], apart := false, laid := [("math/bits.deBruijn64tab", laid_math_bits_deBruijn64tab)] }
def ResumeWaitsSaid : Prop := resumeWaitsRow.holds Tryd.pinned (OpenSpec.ofChange resumeWaitsSpec)

/-- ITS FALSE NEIGHBOUR: 'it returns false'. Refute it at one input. -/
def resumeWaitsWrong : ChangeSpec := { name := "resumeWaits", fn := fun _ => fun
  | [d1, d2] => { results := [.lit (.bool false)], args := [d1, d2] }
  | _ => none }
def ResumeWaitsWrongFalsely : Prop := resumeWaitsRow.holds Tryd.pinned (OpenSpec.ofChange resumeWaitsWrong)

/-- 'cadenzalaw10.ResumeCoder': WHATEVER THE INPUT: true; the input reads as it did. -/
def resumeCoderSpec : ChangeSpec := { name := "resumeCoder", fn := fun _ => fun
  | [d1, d2] => { results := [.lit (.bool true)], args := [d1, d2] }
  | _ => none }
def resumeCoderRow : OpenClaim := { program := "ytppilidcjlnmoaadoor", sum := "60ce0ae1d89dac6ce103e3da5fc4b74201060019a32e631047b9d55c74ffad0f", func := "cadenza/cadenzalaw10.ResumeCoder", spec := "resumeCoder", unfollowed := true, recurses := true, named := ["math/bits.deBruijn64tab"], apart := false, laid := [("math/bits.deBruijn64tab", laid_math_bits_deBruijn64tab)] }
def ResumeCoderSaid : Prop := resumeCoderRow.holds Tryd.pinned (OpenSpec.ofChange resumeCoderSpec)

/-- ITS FALSE NEIGHBOUR: 'it returns false'. Refute it at one input. -/
def resumeCoderWrong : ChangeSpec := { name := "resumeCoder", fn := fun _ => fun
  | [d1, d2] => { results := [.lit (.bool false)], args := [d1, d2] }
  | _ => none }
def ResumeCoderWrongFalsely : Prop := resumeCoderRow.holds Tryd.pinned (OpenSpec.ofChange resumeCoderWrong)

/- THE SECOND FORM. 'bulk': how many values and letters a reading holds, each counted each time it is reached (what is shared counts as often as it is met; a slice's spare places count too). A statement '..UptoSaid' is the law's where the arguments, and the package variables that the reading takes, are together of bulk at most 1048576: NARROWER than '..Said'. Prove '..Said' where nothing that the law and all that it calls make is longer than what came in: it says more and counts as full. Else prove '..UptoSaid'. A law counts once. -/
mutual
def uptoBulk {H : Type} : DataW H → Nat
  | .lit (.string bytes) => bytes.length + 1
  | .lit _ => 1
  | .nil => 1
  | .ptr d => uptoBulk d + 1
  | .slice elems spare => uptoBulkAll elems + uptoBulkAll spare + 1
  | .agg parts => uptoBulkAll parts + 1
  | .iface _ d => uptoBulk d + 1
  | .map entries => uptoBulkEntries entries + 1
  | .held _ => 1
def uptoBulkAll {H : Type} : List (DataW H) → Nat
  | [] => 0
  | d :: r => uptoBulk d + uptoBulkAll r
def uptoBulkEntries {H : Type} : List (Lit × DataW H) → Nat
  | [] => 0
  | x :: r => uptoBulkEntry x + uptoBulkEntries r
def uptoBulkEntry {H : Type} : Lit × DataW H → Nat
  | (.string bytes, d) => bytes.length + uptoBulk d + 1
  | (_, d) => uptoBulk d + 1
 end
def uptoSmall : (H : Type) → List (DataW H) → Bool := fun _ ds => decide (uptoBulkAll ds ≤ 1048576)
def OpenSpec.upto (s : _root_.Go.ChangeSpec) : _root_.Go.OpenSpec := { _root_.Go.OpenSpec.ofChange s with cond := some uptoSmall }

/-- 'cadenzalaw09.CoderReads', WHERE WHAT IT READS IS OF BULK AT MOST 1048576: true; the input reads as it did. -/
def coderReadsUptoRow : OpenClaim := { program := "ytppilidcjlnmoaadoor", sum := "60ce0ae1d89dac6ce103e3da5fc4b74201060019a32e631047b9d55c74ffad0f", func := "cadenza/cadenzalaw09.CoderReads", spec := "coderReads", unfollowed := true, recurses := true, named := ["math/bits.deBruijn64tab"], apart := false, laid := [("math/bits.deBruijn64tab", laid_math_bits_deBruijn64tab)], narrowed := true }
def CoderReadsUptoSaid : Prop := coderReadsUptoRow.holds Tryd.pinned (OpenSpec.upto coderReadsSpec)

/-- 'cadenzalaw10.ResumeFeeds', WHERE WHAT IT READS IS OF BULK AT MOST 1048576: true; the input reads as it did. -/
def resumeFeedsUptoRow : OpenClaim := { program := "ytppilidcjlnmoaadoor", sum := "60ce0ae1d89dac6ce103e3da5fc4b74201060019a32e631047b9d55c74ffad0f", func := "cadenza/cadenzalaw10.ResumeFeeds", spec := "resumeFeeds", unfollowed := true, recurses := true, named := ["math/bits.deBruijn64tab"], apart := false, laid := [("math/bits.deBruijn64tab", laid_math_bits_deBruijn64tab)], narrowed := true }
def ResumeFeedsUptoSaid : Prop := resumeFeedsUptoRow.holds Tryd.pinned (OpenSpec.upto resumeFeedsSpec)

/-- 'cadenzalaw08.DualNames', WHERE WHAT IT READS IS OF BULK AT MOST 1048576: true; the input reads as it did. -/
def dualNamesUptoRow : OpenClaim := { program := "ytppilidcjlnmoaadoor", sum := "60ce0ae1d89dac6ce103e3da5fc4b74201060019a32e631047b9d55c74ffad0f", func := "cadenza/cadenzalaw08.DualNames", spec := "dualNames", unfollowed := true, recurses := true, named := ["math/bits.deBruijn64tab"], apart := false, laid := [("math/bits.deBruijn64tab", laid_math_bits_deBruijn64tab)], narrowed := true }
def DualNamesUptoSaid : Prop := dualNamesUptoRow.holds Tryd.pinned (OpenSpec.upto dualNamesSpec)

/-- 'cadenzalaw10.ResumeNames', WHERE WHAT IT READS IS OF BULK AT MOST 1048576: true; the input reads as it did. -/
def resumeNamesUptoRow : OpenClaim := { program := "ytppilidcjlnmoaadoor", sum := "60ce0ae1d89dac6ce103e3da5fc4b74201060019a32e631047b9d55c74ffad0f", func := "cadenza/cadenzalaw10.ResumeNames", spec := "resumeNames", unfollowed := true, recurses := true, named := ["math/bits.deBruijn64tab"], apart := false, laid := [("math/bits.deBruijn64tab", laid_math_bits_deBruijn64tab)], narrowed := true }
def ResumeNamesUptoSaid : Prop := resumeNamesUptoRow.holds Tryd.pinned (OpenSpec.upto resumeNamesSpec)

/-- 'cadenzalaw10.ResumePieces', WHERE WHAT IT READS IS OF BULK AT MOST 1048576: true; the input reads as it did. -/
def resumePiecesUptoRow : OpenClaim := { program := "ytppilidcjlnmoaadoor", sum := "60ce0ae1d89dac6ce103e3da5fc4b74201060019a32e631047b9d55c74ffad0f", func := "cadenza/cadenzalaw10.ResumePieces", spec := "resumePieces", unfollowed := true, recurses := true, named := ["math/bits.deBruijn64tab"], apart := false, laid := [("math/bits.deBruijn64tab", laid_math_bits_deBruijn64tab)], narrowed := true }
def ResumePiecesUptoSaid : Prop := resumePiecesUptoRow.holds Tryd.pinned (OpenSpec.upto resumePiecesSpec)

/-- 'cadenzalaw10.ResumeBytes', WHERE WHAT IT READS IS OF BULK AT MOST 1048576: true; the input reads as it did. -/
def resumeBytesUptoRow : OpenClaim := { program := "ytppilidcjlnmoaadoor", sum := "60ce0ae1d89dac6ce103e3da5fc4b74201060019a32e631047b9d55c74ffad0f", func := "cadenza/cadenzalaw10.ResumeBytes", spec := "resumeBytes", unfollowed := true, recurses := true, named := ["math/bits.deBruijn64tab"], apart := false, laid := [("math/bits.deBruijn64tab", laid_math_bits_deBruijn64tab)], narrowed := true }
def ResumeBytesUptoSaid : Prop := resumeBytesUptoRow.holds Tryd.pinned (OpenSpec.upto resumeBytesSpec)

/-- 'cadenzalaw09.CoderBack', WHERE WHAT IT READS IS OF BULK AT MOST 1048576: true; the input reads as it did. -/
def coderBackUptoRow : OpenClaim := { program := "ytppilidcjlnmoaadoor", sum := "60ce0ae1d89dac6ce103e3da5fc4b74201060019a32e631047b9d55c74ffad0f", func := "cadenza/cadenzalaw09.CoderBack", spec := "coderBack", unfollowed := true, recurses := true, named := ["math/bits.deBruijn64tab"], apart := false, laid := [("math/bits.deBruijn64tab", laid_math_bits_deBruijn64tab)], narrowed := true }
def CoderBackUptoSaid : Prop := coderBackUptoRow.holds Tryd.pinned (OpenSpec.upto coderBackSpec)

/-- 'cadenzalaw09.CoderOnce', WHERE WHAT IT READS IS OF BULK AT MOST 1048576: true; the input reads as it did. -/
def coderOnceUptoRow : OpenClaim := { program := "ytppilidcjlnmoaadoor", sum := "60ce0ae1d89dac6ce103e3da5fc4b74201060019a32e631047b9d55c74ffad0f", func := "cadenza/cadenzalaw09.CoderOnce", spec := "coderOnce", unfollowed := true, recurses := true, named := ["math/bits.deBruijn64tab"], apart := false, laid := [("math/bits.deBruijn64tab", laid_math_bits_deBruijn64tab)], narrowed := true }
def CoderOnceUptoSaid : Prop := coderOnceUptoRow.holds Tryd.pinned (OpenSpec.upto coderOnceSpec)

/-- 'cadenzalaw09.CoderCut', WHERE WHAT IT READS IS OF BULK AT MOST 1048576: true; the input reads as it did. -/
def coderCutUptoRow : OpenClaim := { program := "ytppilidcjlnmoaadoor", sum := "60ce0ae1d89dac6ce103e3da5fc4b74201060019a32e631047b9d55c74ffad0f", func := "cadenza/cadenzalaw09.CoderCut", spec := "coderCut", unfollowed := true, recurses := true, named := ["math/bits.deBruijn64tab"], apart := false, laid := [("math/bits.deBruijn64tab", laid_math_bits_deBruijn64tab)], narrowed := true }
def CoderCutUptoSaid : Prop := coderCutUptoRow.holds Tryd.pinned (OpenSpec.upto coderCutSpec)

/-- 'cadenzalaw09.CoderNames', WHERE WHAT IT READS IS OF BULK AT MOST 1048576: true; the input reads as it did. -/
def coderNamesUptoRow : OpenClaim := { program := "ytppilidcjlnmoaadoor", sum := "60ce0ae1d89dac6ce103e3da5fc4b74201060019a32e631047b9d55c74ffad0f", func := "cadenza/cadenzalaw09.CoderNames", spec := "coderNames", unfollowed := true, recurses := true, named := ["math/bits.deBruijn64tab"], apart := false, laid := [("math/bits.deBruijn64tab", laid_math_bits_deBruijn64tab)], narrowed := true }
def CoderNamesUptoSaid : Prop := coderNamesUptoRow.holds Tryd.pinned (OpenSpec.upto coderNamesSpec)

/-- 'cadenzalaw09.CoderParts', WHERE WHAT IT READS IS OF BULK AT MOST 1048576: true; the input reads as it did. -/
def coderPartsUptoRow : OpenClaim := { program := "ytppilidcjlnmoaadoor", sum := "60ce0ae1d89dac6ce103e3da5fc4b74201060019a32e631047b9d55c74ffad0f", func := "cadenza/cadenzalaw09.CoderParts", spec := "coderParts", unfollowed := true, recurses := true, named := ["math/bits.deBruijn64tab"], apart := false, laid := [("math/bits.deBruijn64tab", laid_math_bits_deBruijn64tab)], narrowed := true }
def CoderPartsUptoSaid : Prop := coderPartsUptoRow.holds Tryd.pinned (OpenSpec.upto coderPartsSpec)

/-- 'cadenzalaw09.CoderZeros', WHERE WHAT IT READS IS OF BULK AT MOST 1048576: true; the input reads as it did. -/
def coderZerosUptoRow : OpenClaim := { program := "ytppilidcjlnmoaadoor", sum := "60ce0ae1d89dac6ce103e3da5fc4b74201060019a32e631047b9d55c74ffad0f", func := "cadenza/cadenzalaw09.CoderZeros", spec := "coderZeros", unfollowed := true, recurses := true, named := ["math/bits.deBruijn64tab"], apart := false, laid := [("math/bits.deBruijn64tab", laid_math_bits_deBruijn64tab)], narrowed := true }
def CoderZerosUptoSaid : Prop := coderZerosUptoRow.holds Tryd.pinned (OpenSpec.upto coderZerosSpec)

/-- 'cadenzalaw10.ResumeWaits', WHERE WHAT IT READS IS OF BULK AT MOST 1048576: true; the input reads as it did. -/
def resumeWaitsUptoRow : OpenClaim := { program := "ytppilidcjlnmoaadoor", sum := "60ce0ae1d89dac6ce103e3da5fc4b74201060019a32e631047b9d55c74ffad0f", func := "cadenza/cadenzalaw10.ResumeWaits", spec := "resumeWaits", unfollowed := true, recurses := true, named := ["math/bits.deBruijn64tab"], apart := false, laid := [("math/bits.deBruijn64tab", laid_math_bits_deBruijn64tab)], narrowed := true }
def ResumeWaitsUptoSaid : Prop := resumeWaitsUptoRow.holds Tryd.pinned (OpenSpec.upto resumeWaitsSpec)

/-- 'cadenzalaw10.ResumeCoder', WHERE WHAT IT READS IS OF BULK AT MOST 1048576: true; the input reads as it did. -/
def resumeCoderUptoRow : OpenClaim := { program := "ytppilidcjlnmoaadoor", sum := "60ce0ae1d89dac6ce103e3da5fc4b74201060019a32e631047b9d55c74ffad0f", func := "cadenza/cadenzalaw10.ResumeCoder", spec := "resumeCoder", unfollowed := true, recurses := true, named := ["math/bits.deBruijn64tab"], apart := false, laid := [("math/bits.deBruijn64tab", laid_math_bits_deBruijn64tab)], narrowed := true }
def ResumeCoderUptoSaid : Prop := resumeCoderUptoRow.holds Tryd.pinned (OpenSpec.upto resumeCoderSpec)

end Rows
end Go.Proofs.YtppilidcjlnmoaaDoor
