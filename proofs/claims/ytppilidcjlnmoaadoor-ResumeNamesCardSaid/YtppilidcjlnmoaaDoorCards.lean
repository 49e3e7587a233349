/-
  DERIVED. GIVEN WITH THE SEED: THE CARDS: each row of YtppilidcjlnmoaaDoorRows.lean that lists a variable, with what it lists TIED to the program's text (the seventh form; the later family's looks); each row that meets fmt, with fmt's text TOLD by the authors' own Lean function (tested against real Go, not proved from fmt's source: count such statements apart). THE CARD IS WHAT COUNTS. Prove the row's statement (the work); the ties are given (YtppilidcjlnmoaaDoorTie.lean); close each card by the builder's one call (the guide's Derived/Test/ToyasCard.lean, 'card_holds'). Laid BY PROGRAM, IN A SANDBOX (cutbox-door.mjs). By AI agents, Wed Nov 11 2026. No macro, syntax, notation, axiom, sorry.
-/
import Derived.Test.YtppilidcjlnmoaaDoorRows
import GoSem.ClaimSeven
namespace Go.Proofs.YtppilidcjlnmoaaDoor
namespace Rows

/-- THE TIED CARD OF 'cadenzalaw09.CoderReads'. -/
def coderReadsCard : Claim7 := { stood := { row := coderReadsRow, standIns := [], harness := (true, "b93b95efea11ce6f059c2d6c947f371bdc12842c90e91af992d596c7efa3e645"), looks := false }, kinds := [], alts := [], laidByText := true, laidKinds := [.data], laidTests := true, laidLooks := .later }
def CoderReadsCardSaid : Prop := Claim7.holds Tryd.pinned (.plain (OpenSpec.ofChange coderReadsSpec)) coderReadsCard

/-- THE TIED CARD OF 'cadenzalaw10.ResumeFeeds'. -/
def resumeFeedsCard : Claim7 := { stood := { row := resumeFeedsRow, standIns := [], harness := (true, "b93b95efea11ce6f059c2d6c947f371bdc12842c90e91af992d596c7efa3e645"), looks := false }, kinds := [], alts := [], laidByText := true, laidKinds := [.data], laidTests := true, laidLooks := .later }
def ResumeFeedsCardSaid : Prop := Claim7.holds Tryd.pinned (.plain (OpenSpec.ofChange resumeFeedsSpec)) resumeFeedsCard

/-- THE TIED CARD OF 'cadenzalaw08.DualNames'. -/
def dualNamesCard : Claim7 := { stood := { row := dualNamesRow, standIns := [], harness := (true, "b93b95efea11ce6f059c2d6c947f371bdc12842c90e91af992d596c7efa3e645"), looks := false }, kinds := [], alts := [], laidByText := true, laidKinds := [.data], laidTests := true, laidLooks := .later }
def DualNamesCardSaid : Prop := Claim7.holds Tryd.pinned (.plain (OpenSpec.ofChange dualNamesSpec)) dualNamesCard

/-- THE TIED CARD OF 'cadenzalaw10.ResumeNames'. -/
def resumeNamesCard : Claim7 := { stood := { row := resumeNamesRow, standIns := [], harness := (true, "b93b95efea11ce6f059c2d6c947f371bdc12842c90e91af992d596c7efa3e645"), looks := false }, kinds := [], alts := [], laidByText := true, laidKinds := [.data], laidTests := true, laidLooks := .later }
def ResumeNamesCardSaid : Prop := Claim7.holds Tryd.pinned (.plain (OpenSpec.ofChange resumeNamesSpec)) resumeNamesCard

/-- THE TIED CARD OF 'cadenzalaw10.ResumePieces'. -/
def resumePiecesCard : Claim7 := { stood := { row := resumePiecesRow, standIns := [], harness := (true, "b93b95efea11ce6f059c2d6c947f371bdc12842c90e91af992d596c7efa3e645"), looks := false }, kinds := [], alts := [], laidByText := true, laidKinds := [.data], laidTests := true, laidLooks := .later }
def ResumePiecesCardSaid : Prop := Claim7.holds Tryd.pinned (.plain (OpenSpec.ofChange resumePiecesSpec)) resumePiecesCard

/-- THE TIED CARD OF 'cadenzalaw10.ResumeBytes'. -/
def resumeBytesCard : Claim7 := { stood := { row := resumeBytesRow, standIns := [], harness := (true, "b93b95efea11ce6f059c2d6c947f371bdc12842c90e91af992d596c7efa3e645"), looks := false }, kinds := [], alts := [], laidByText := true, laidKinds := [.data], laidTests := true, laidLooks := .later }
def ResumeBytesCardSaid : Prop := Claim7.holds Tryd.pinned (.plain (OpenSpec.ofChange resumeBytesSpec)) resumeBytesCard

/-- THE TIED CARD OF 'cadenzalaw09.CoderBack'. -/
def coderBackCard : Claim7 := { stood := { row := coderBackRow, standIns := [], harness := (true, "b93b95efea11ce6f059c2d6c947f371bdc12842c90e91af992d596c7efa3e645"), looks := false }, kinds := [], alts := [], laidByText := true, laidKinds := [.data], laidTests := true, laidLooks := .later }
def CoderBackCardSaid : Prop := Claim7.holds Tryd.pinned (.plain (OpenSpec.ofChange coderBackSpec)) coderBackCard

/-- THE TIED CARD OF 'cadenzalaw09.CoderOnce'. -/
def coderOnceCard : Claim7 := { stood := { row := coderOnceRow, standIns := [], harness := (true, "b93b95efea11ce6f059c2d6c947f371bdc12842c90e91af992d596c7efa3e645"), looks := false }, kinds := [], alts := [], laidByText := true, laidKinds := [.data], laidTests := true, laidLooks := .later }
def CoderOnceCardSaid : Prop := Claim7.holds Tryd.pinned (.plain (OpenSpec.ofChange coderOnceSpec)) coderOnceCard

/-- THE TIED CARD OF 'cadenzalaw09.CoderCut'. -/
def coderCutCard : Claim7 := { stood := { row := coderCutRow, standIns := [], harness := (true, "b93b95efea11ce6f059c2d6c947f371bdc12842c90e91af992d596c7efa3e645"), looks := false }, kinds := [], alts := [], laidByText := true, laidKinds := [.data], laidTests := true, laidLooks := .later }
def CoderCutCardSaid : Prop := Claim7.holds Tryd.pinned (.plain (OpenSpec.ofChange coderCutSpec)) coderCutCard

/-- THE TIED CARD OF 'cadenzalaw09.CoderNames'. -/
def coderNamesCard : Claim7 := { stood := { row := coderNamesRow, standIns := [], harness := (true, "b93b95efea11ce6f059c2d6c947f371bdc12842c90e91af992d596c7efa3e645"), looks := false }, kinds := [], alts := [], laidByText := true, laidKinds := [.data], laidTests := true, laidLooks := .later }
def CoderNamesCardSaid : Prop := Claim7.holds Tryd.pinned (.plain (OpenSpec.ofChange coderNamesSpec)) coderNamesCard

/-- THE TIED CARD OF 'cadenzalaw09.CoderParts'. -/
def coderPartsCard : Claim7 := { stood := { row := coderPartsRow, standIns := [], harness := (true, "b93b95efea11ce6f059c2d6c947f371bdc12842c90e91af992d596c7efa3e645"), looks := false }, kinds := [], alts := [], laidByText := true, laidKinds := [.data], laidTests := true, laidLooks := .later }
def CoderPartsCardSaid : Prop := Claim7.holds Tryd.pinned (.plain (OpenSpec.ofChange coderPartsSpec)) coderPartsCard

/-- THE TIED CARD OF 'cadenzalaw09.CoderZeros'. -/
def coderZerosCard : Claim7 := { stood := { row := coderZerosRow, standIns := [], harness := (true, "b93b95efea11ce6f059c2d6c947f371bdc12842c90e91af992d596c7efa3e645"), looks := false }, kinds := [], alts := [], laidByText := true, laidKinds := [.data], laidTests := true, laidLooks := .later }
def CoderZerosCardSaid : Prop := Claim7.holds Tryd.pinned (.plain (OpenSpec.ofChange coderZerosSpec)) coderZerosCard

/-- THE TIED CARD OF 'cadenzalaw10.ResumeWaits'. -/
def resumeWaitsCard : Claim7 := { stood := { row := resumeWaitsRow, standIns := [], harness := (true, "b93b95efea11ce6f059c2d6c947f371bdc12842c90e91af992d596c7efa3e645"), looks := false }, kinds := [], alts := [], laidByText := true, laidKinds := [.data], laidTests := true, laidLooks := .later }
def ResumeWaitsCardSaid : Prop := Claim7.holds Tryd.pinned (.plain (OpenSpec.ofChange resumeWaitsSpec)) resumeWaitsCard

/-- THE TIED CARD OF 'cadenzalaw10.ResumeCoder'. -/
def resumeCoderCard : Claim7 := { stood := { row := resumeCoderRow, standIns := [], harness := (true, "b93b95efea11ce6f059c2d6c947f371bdc12842c90e91af992d596c7efa3e645"), looks := false }, kinds := [], alts := [], laidByText := true, laidKinds := [.data], laidTests := true, laidLooks := .later }
def ResumeCoderCardSaid : Prop := Claim7.holds Tryd.pinned (.plain (OpenSpec.ofChange resumeCoderSpec)) resumeCoderCard

/-- THE SECOND FORM's CARD OF 'cadenzalaw09.CoderReads'. -/
def coderReadsUptoCard : Claim7 := { stood := { row := coderReadsUptoRow, standIns := [], harness := (true, "b93b95efea11ce6f059c2d6c947f371bdc12842c90e91af992d596c7efa3e645"), looks := false }, kinds := [], alts := [], laidByText := true, laidKinds := [.data], laidTests := true, laidLooks := .later }
def CoderReadsUptoCardSaid : Prop := Claim7.holds Tryd.pinned (.plain (OpenSpec.upto coderReadsSpec)) coderReadsUptoCard

/-- THE SECOND FORM's CARD OF 'cadenzalaw10.ResumeFeeds'. -/
def resumeFeedsUptoCard : Claim7 := { stood := { row := resumeFeedsUptoRow, standIns := [], harness := (true, "b93b95efea11ce6f059c2d6c947f371bdc12842c90e91af992d596c7efa3e645"), looks := false }, kinds := [], alts := [], laidByText := true, laidKinds := [.data], laidTests := true, laidLooks := .later }
def ResumeFeedsUptoCardSaid : Prop := Claim7.holds Tryd.pinned (.plain (OpenSpec.upto resumeFeedsSpec)) resumeFeedsUptoCard

/-- THE SECOND FORM's CARD OF 'cadenzalaw08.DualNames'. -/
def dualNamesUptoCard : Claim7 := { stood := { row := dualNamesUptoRow, standIns := [], harness := (true, "b93b95efea11ce6f059c2d6c947f371bdc12842c90e91af992d596c7efa3e645"), looks := false }, kinds := [], alts := [], laidByText := true, laidKinds := [.data], laidTests := true, laidLooks := .later }
def DualNamesUptoCardSaid : Prop := Claim7.holds Tryd.pinned (.plain (OpenSpec.upto dualNamesSpec)) dualNamesUptoCard

/-- THE SECOND FORM's CARD OF 'cadenzalaw10.ResumeNames'. -/
def resumeNamesUptoCard : Claim7 := { stood := { row := resumeNamesUptoRow, standIns := [], harness := (true, "b93b95efea11ce6f059c2d6c947f371bdc12842c90e91af992d596c7efa3e645"), looks := false }, kinds := [], alts := [], laidByText := true, laidKinds := [.data], laidTests := true, laidLooks := .later }
def ResumeNamesUptoCardSaid : Prop := Claim7.holds Tryd.pinned (.plain (OpenSpec.upto resumeNamesSpec)) resumeNamesUptoCard

/-- THE SECOND FORM's CARD OF 'cadenzalaw10.ResumePieces'. -/
def resumePiecesUptoCard : Claim7 := { stood := { row := resumePiecesUptoRow, standIns := [], harness := (true, "b93b95efea11ce6f059c2d6c947f371bdc12842c90e91af992d596c7efa3e645"), looks := false }, kinds := [], alts := [], laidByText := true, laidKinds := [.data], laidTests := true, laidLooks := .later }
def ResumePiecesUptoCardSaid : Prop := Claim7.holds Tryd.pinned (.plain (OpenSpec.upto resumePiecesSpec)) resumePiecesUptoCard

/-- THE SECOND FORM's CARD OF 'cadenzalaw10.ResumeBytes'. -/
def resumeBytesUptoCard : Claim7 := { stood := { row := resumeBytesUptoRow, standIns := [], harness := (true, "b93b95efea11ce6f059c2d6c947f371bdc12842c90e91af992d596c7efa3e645"), looks := false }, kinds := [], alts := [], laidByText := true, laidKinds := [.data], laidTests := true, laidLooks := .later }
def ResumeBytesUptoCardSaid : Prop := Claim7.holds Tryd.pinned (.plain (OpenSpec.upto resumeBytesSpec)) resumeBytesUptoCard

/-- THE SECOND FORM's CARD OF 'cadenzalaw09.CoderBack'. -/
def coderBackUptoCard : Claim7 := { stood := { row := coderBackUptoRow, standIns := [], harness := (true, "b93b95efea11ce6f059c2d6c947f371bdc12842c90e91af992d596c7efa3e645"), looks := false }, kinds := [], alts := [], laidByText := true, laidKinds := [.data], laidTests := true, laidLooks := .later }
def CoderBackUptoCardSaid : Prop := Claim7.holds Tryd.pinned (.plain (OpenSpec.upto coderBackSpec)) coderBackUptoCard

/-- THE SECOND FORM's CARD OF 'cadenzalaw09.CoderOnce'. -/
def coderOnceUptoCard : Claim7 := { stood := { row := coderOnceUptoRow, standIns := [], harness := (true, "b93b95efea11ce6f059c2d6c947f371bdc12842c90e91af992d596c7efa3e645"), looks := false }, kinds := [], alts := [], laidByText := true, laidKinds := [.data], laidTests := true, laidLooks := .later }
def CoderOnceUptoCardSaid : Prop := Claim7.holds Tryd.pinned (.plain (OpenSpec.upto coderOnceSpec)) coderOnceUptoCard

/-- THE SECOND FORM's CARD OF 'cadenzalaw09.CoderCut'. -/
def coderCutUptoCard : Claim7 := { stood := { row := coderCutUptoRow, standIns := [], harness := (true, "b93b95efea11ce6f059c2d6c947f371bdc12842c90e91af992d596c7efa3e645"), looks := false }, kinds := [], alts := [], laidByText := true, laidKinds := [.data], laidTests := true, laidLooks := .later }
def CoderCutUptoCardSaid : Prop := Claim7.holds Tryd.pinned (.plain (OpenSpec.upto coderCutSpec)) coderCutUptoCard

/-- THE SECOND FORM's CARD OF 'cadenzalaw09.CoderNames'. -/
def coderNamesUptoCard : Claim7 := { stood := { row := coderNamesUptoRow, standIns := [], harness := (true, "b93b95efea11ce6f059c2d6c947f371bdc12842c90e91af992d596c7efa3e645"), looks := false }, kinds := [], alts := [], laidByText := true, laidKinds := [.data], laidTests := true, laidLooks := .later }
def CoderNamesUptoCardSaid : Prop := Claim7.holds Tryd.pinned (.plain (OpenSpec.upto coderNamesSpec)) coderNamesUptoCard

/-- THE SECOND FORM's CARD OF 'cadenzalaw09.CoderParts'. -/
def coderPartsUptoCard : Claim7 := { stood := { row := coderPartsUptoRow, standIns := [], harness := (true, "b93b95efea11ce6f059c2d6c947f371bdc12842c90e91af992d596c7efa3e645"), looks := false }, kinds := [], alts := [], laidByText := true, laidKinds := [.data], laidTests := true, laidLooks := .later }
def CoderPartsUptoCardSaid : Prop := Claim7.holds Tryd.pinned (.plain (OpenSpec.upto coderPartsSpec)) coderPartsUptoCard

/-- THE SECOND FORM's CARD OF 'cadenzalaw09.CoderZeros'. -/
def coderZerosUptoCard : Claim7 := { stood := { row := coderZerosUptoRow, standIns := [], harness := (true, "b93b95efea11ce6f059c2d6c947f371bdc12842c90e91af992d596c7efa3e645"), looks := false }, kinds := [], alts := [], laidByText := true, laidKinds := [.data], laidTests := true, laidLooks := .later }
def CoderZerosUptoCardSaid : Prop := Claim7.holds Tryd.pinned (.plain (OpenSpec.upto coderZerosSpec)) coderZerosUptoCard

/-- THE SECOND FORM's CARD OF 'cadenzalaw10.ResumeWaits'. -/
def resumeWaitsUptoCard : Claim7 := { stood := { row := resumeWaitsUptoRow, standIns := [], harness := (true, "b93b95efea11ce6f059c2d6c947f371bdc12842c90e91af992d596c7efa3e645"), looks := false }, kinds := [], alts := [], laidByText := true, laidKinds := [.data], laidTests := true, laidLooks := .later }
def ResumeWaitsUptoCardSaid : Prop := Claim7.holds Tryd.pinned (.plain (OpenSpec.upto resumeWaitsSpec)) resumeWaitsUptoCard

/-- THE SECOND FORM's CARD OF 'cadenzalaw10.ResumeCoder'. -/
def resumeCoderUptoCard : Claim7 := { stood := { row := resumeCoderUptoRow, standIns := [], harness := (true, "b93b95efea11ce6f059c2d6c947f371bdc12842c90e91af992d596c7efa3e645"), looks := false }, kinds := [], alts := [], laidByText := true, laidKinds := [.data], laidTests := true, laidLooks := .later }
def ResumeCoderUptoCardSaid : Prop := Claim7.holds Tryd.pinned (.plain (OpenSpec.upto resumeCoderSpec)) resumeCoderUptoCard
end Rows
end Go.Proofs.YtppilidcjlnmoaaDoor
