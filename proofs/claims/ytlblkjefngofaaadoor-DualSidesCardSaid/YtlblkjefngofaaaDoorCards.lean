/-
  DERIVED. GIVEN WITH THE SEED: THE CARDS: each row of YtlblkjefngofaaaDoorRows.lean that lists a variable, with what it lists TIED to the program's text (the seventh form; the later family's looks); each row that meets fmt, with fmt's text TOLD by the authors' own Lean function (tested against real Go, not proved from fmt's source: count such statements apart). THE CARD IS WHAT COUNTS. Prove the row's statement (the work); the ties are given (YtlblkjefngofaaaDoorTie.lean); close each card by the builder's one call (the guide's Derived/Test/ToyasCard.lean, 'card_holds'). Laid BY PROGRAM, IN A SANDBOX (cutbox-door.mjs). By AI agents, Wed Nov 11 2026. No macro, syntax, notation, axiom, sorry.
-/
import Derived.Test.YtlblkjefngofaaaDoorRows
import GoSem.ClaimSeven
namespace Go.Proofs.YtlblkjefngofaaaDoor
namespace Rows

/-- THE TIED CARD OF 'cadenzalaw08.DualReads'. -/
def dualReadsCard : Claim7 := { stood := { row := dualReadsRow, standIns := [], harness := (true, "2e48488ab419f3022ef8d7c50ddc5d484af7a51c418e9f739fa0ff2cb6fec058"), looks := false }, kinds := [], alts := [], laidByText := true, laidKinds := [.data], laidTests := true, laidLooks := .later }
def DualReadsCardSaid : Prop := Claim7.holds Tryd.pinned (.plain (OpenSpec.ofChange dualReadsSpec)) dualReadsCard

/-- THE TIED CARD OF 'cadenzalaw07.RiceCodes'. -/
def riceCodesCard : Claim7 := { stood := { row := riceCodesRow, standIns := [], harness := (true, "2e48488ab419f3022ef8d7c50ddc5d484af7a51c418e9f739fa0ff2cb6fec058"), looks := false }, kinds := [], alts := [], laidByText := true, laidKinds := [.data], laidTests := true, laidLooks := .later }
def RiceCodesCardSaid : Prop := Claim7.holds Tryd.pinned (.plain (OpenSpec.ofChange riceCodesSpec)) riceCodesCard

/-- THE TIED CARD OF 'cadenzalaw07.RiceBack'. -/
def riceBackCard : Claim7 := { stood := { row := riceBackRow, standIns := [], harness := (true, "2e48488ab419f3022ef8d7c50ddc5d484af7a51c418e9f739fa0ff2cb6fec058"), looks := false }, kinds := [], alts := [], laidByText := true, laidKinds := [.data], laidTests := true, laidLooks := .later }
def RiceBackCardSaid : Prop := Claim7.holds Tryd.pinned (.plain (OpenSpec.ofChange riceBackSpec)) riceBackCard

/-- THE TIED CARD OF 'cadenzalaw07.RiceNames'. -/
def riceNamesCard : Claim7 := { stood := { row := riceNamesRow, standIns := [], harness := (true, "2e48488ab419f3022ef8d7c50ddc5d484af7a51c418e9f739fa0ff2cb6fec058"), looks := false }, kinds := [], alts := [], laidByText := true, laidKinds := [.data], laidTests := true, laidLooks := .later }
def RiceNamesCardSaid : Prop := Claim7.holds Tryd.pinned (.plain (OpenSpec.ofChange riceNamesSpec)) riceNamesCard

/-- THE TIED CARD OF 'cadenzalaw07.RiceOnce'. -/
def riceOnceCard : Claim7 := { stood := { row := riceOnceRow, standIns := [], harness := (true, "2e48488ab419f3022ef8d7c50ddc5d484af7a51c418e9f739fa0ff2cb6fec058"), looks := false }, kinds := [], alts := [], laidByText := true, laidKinds := [.data], laidTests := true, laidLooks := .later }
def RiceOnceCardSaid : Prop := Claim7.holds Tryd.pinned (.plain (OpenSpec.ofChange riceOnceSpec)) riceOnceCard

/-- THE TIED CARD OF 'cadenzalaw07.RiceCut'. -/
def riceCutCard : Claim7 := { stood := { row := riceCutRow, standIns := [], harness := (true, "2e48488ab419f3022ef8d7c50ddc5d484af7a51c418e9f739fa0ff2cb6fec058"), looks := false }, kinds := [], alts := [], laidByText := true, laidKinds := [.data], laidTests := true, laidLooks := .later }
def RiceCutCardSaid : Prop := Claim7.holds Tryd.pinned (.plain (OpenSpec.ofChange riceCutSpec)) riceCutCard

/-- THE TIED CARD OF 'cadenzalaw08.DualSides'. -/
def dualSidesCard : Claim7 := { stood := { row := dualSidesRow, standIns := [], harness := (true, "2e48488ab419f3022ef8d7c50ddc5d484af7a51c418e9f739fa0ff2cb6fec058"), looks := false }, kinds := [], alts := [], laidByText := true, laidKinds := [.data], laidTests := true, laidLooks := .later }
def DualSidesCardSaid : Prop := Claim7.holds Tryd.pinned (.plain (OpenSpec.ofChange dualSidesSpec)) dualSidesCard

/-- THE TIED CARD OF 'cadenzalaw08.DualNames'. -/
def dualNamesCard : Claim7 := { stood := { row := dualNamesRow, standIns := [], harness := (true, "2e48488ab419f3022ef8d7c50ddc5d484af7a51c418e9f739fa0ff2cb6fec058"), looks := false }, kinds := [], alts := [], laidByText := true, laidKinds := [.data], laidTests := true, laidLooks := .later }
def DualNamesCardSaid : Prop := Claim7.holds Tryd.pinned (.plain (OpenSpec.ofChange dualNamesSpec)) dualNamesCard

/-- THE TIED CARD OF 'cadenzalaw08.DualOnce'. -/
def dualOnceCard : Claim7 := { stood := { row := dualOnceRow, standIns := [], harness := (true, "2e48488ab419f3022ef8d7c50ddc5d484af7a51c418e9f739fa0ff2cb6fec058"), looks := false }, kinds := [], alts := [], laidByText := true, laidKinds := [.data], laidTests := true, laidLooks := .later }
def DualOnceCardSaid : Prop := Claim7.holds Tryd.pinned (.plain (OpenSpec.ofChange dualOnceSpec)) dualOnceCard

/-- THE TIED CARD OF 'cadenzalaw08.DualCut'. -/
def dualCutCard : Claim7 := { stood := { row := dualCutRow, standIns := [], harness := (true, "2e48488ab419f3022ef8d7c50ddc5d484af7a51c418e9f739fa0ff2cb6fec058"), looks := false }, kinds := [], alts := [], laidByText := true, laidKinds := [.data], laidTests := true, laidLooks := .later }
def DualCutCardSaid : Prop := Claim7.holds Tryd.pinned (.plain (OpenSpec.ofChange dualCutSpec)) dualCutCard

/-- THE SECOND FORM's CARD OF 'cadenzalaw08.DualReads'. -/
def dualReadsUptoCard : Claim7 := { stood := { row := dualReadsUptoRow, standIns := [], harness := (true, "2e48488ab419f3022ef8d7c50ddc5d484af7a51c418e9f739fa0ff2cb6fec058"), looks := false }, kinds := [], alts := [], laidByText := true, laidKinds := [.data], laidTests := true, laidLooks := .later }
def DualReadsUptoCardSaid : Prop := Claim7.holds Tryd.pinned (.plain (OpenSpec.upto dualReadsSpec)) dualReadsUptoCard

/-- THE SECOND FORM's CARD OF 'cadenzalaw07.RiceCodes'. -/
def riceCodesUptoCard : Claim7 := { stood := { row := riceCodesUptoRow, standIns := [], harness := (true, "2e48488ab419f3022ef8d7c50ddc5d484af7a51c418e9f739fa0ff2cb6fec058"), looks := false }, kinds := [], alts := [], laidByText := true, laidKinds := [.data], laidTests := true, laidLooks := .later }
def RiceCodesUptoCardSaid : Prop := Claim7.holds Tryd.pinned (.plain (OpenSpec.upto riceCodesSpec)) riceCodesUptoCard

/-- THE SECOND FORM's CARD OF 'cadenzalaw07.RiceBack'. -/
def riceBackUptoCard : Claim7 := { stood := { row := riceBackUptoRow, standIns := [], harness := (true, "2e48488ab419f3022ef8d7c50ddc5d484af7a51c418e9f739fa0ff2cb6fec058"), looks := false }, kinds := [], alts := [], laidByText := true, laidKinds := [.data], laidTests := true, laidLooks := .later }
def RiceBackUptoCardSaid : Prop := Claim7.holds Tryd.pinned (.plain (OpenSpec.upto riceBackSpec)) riceBackUptoCard

/-- THE SECOND FORM's CARD OF 'cadenzalaw07.RiceNames'. -/
def riceNamesUptoCard : Claim7 := { stood := { row := riceNamesUptoRow, standIns := [], harness := (true, "2e48488ab419f3022ef8d7c50ddc5d484af7a51c418e9f739fa0ff2cb6fec058"), looks := false }, kinds := [], alts := [], laidByText := true, laidKinds := [.data], laidTests := true, laidLooks := .later }
def RiceNamesUptoCardSaid : Prop := Claim7.holds Tryd.pinned (.plain (OpenSpec.upto riceNamesSpec)) riceNamesUptoCard

/-- THE SECOND FORM's CARD OF 'cadenzalaw07.RiceOnce'. -/
def riceOnceUptoCard : Claim7 := { stood := { row := riceOnceUptoRow, standIns := [], harness := (true, "2e48488ab419f3022ef8d7c50ddc5d484af7a51c418e9f739fa0ff2cb6fec058"), looks := false }, kinds := [], alts := [], laidByText := true, laidKinds := [.data], laidTests := true, laidLooks := .later }
def RiceOnceUptoCardSaid : Prop := Claim7.holds Tryd.pinned (.plain (OpenSpec.upto riceOnceSpec)) riceOnceUptoCard

/-- THE SECOND FORM's CARD OF 'cadenzalaw07.RiceCut'. -/
def riceCutUptoCard : Claim7 := { stood := { row := riceCutUptoRow, standIns := [], harness := (true, "2e48488ab419f3022ef8d7c50ddc5d484af7a51c418e9f739fa0ff2cb6fec058"), looks := false }, kinds := [], alts := [], laidByText := true, laidKinds := [.data], laidTests := true, laidLooks := .later }
def RiceCutUptoCardSaid : Prop := Claim7.holds Tryd.pinned (.plain (OpenSpec.upto riceCutSpec)) riceCutUptoCard

/-- THE SECOND FORM's CARD OF 'cadenzalaw08.DualSides'. -/
def dualSidesUptoCard : Claim7 := { stood := { row := dualSidesUptoRow, standIns := [], harness := (true, "2e48488ab419f3022ef8d7c50ddc5d484af7a51c418e9f739fa0ff2cb6fec058"), looks := false }, kinds := [], alts := [], laidByText := true, laidKinds := [.data], laidTests := true, laidLooks := .later }
def DualSidesUptoCardSaid : Prop := Claim7.holds Tryd.pinned (.plain (OpenSpec.upto dualSidesSpec)) dualSidesUptoCard

/-- THE SECOND FORM's CARD OF 'cadenzalaw08.DualNames'. -/
def dualNamesUptoCard : Claim7 := { stood := { row := dualNamesUptoRow, standIns := [], harness := (true, "2e48488ab419f3022ef8d7c50ddc5d484af7a51c418e9f739fa0ff2cb6fec058"), looks := false }, kinds := [], alts := [], laidByText := true, laidKinds := [.data], laidTests := true, laidLooks := .later }
def DualNamesUptoCardSaid : Prop := Claim7.holds Tryd.pinned (.plain (OpenSpec.upto dualNamesSpec)) dualNamesUptoCard

/-- THE SECOND FORM's CARD OF 'cadenzalaw08.DualOnce'. -/
def dualOnceUptoCard : Claim7 := { stood := { row := dualOnceUptoRow, standIns := [], harness := (true, "2e48488ab419f3022ef8d7c50ddc5d484af7a51c418e9f739fa0ff2cb6fec058"), looks := false }, kinds := [], alts := [], laidByText := true, laidKinds := [.data], laidTests := true, laidLooks := .later }
def DualOnceUptoCardSaid : Prop := Claim7.holds Tryd.pinned (.plain (OpenSpec.upto dualOnceSpec)) dualOnceUptoCard

/-- THE SECOND FORM's CARD OF 'cadenzalaw08.DualCut'. -/
def dualCutUptoCard : Claim7 := { stood := { row := dualCutUptoRow, standIns := [], harness := (true, "2e48488ab419f3022ef8d7c50ddc5d484af7a51c418e9f739fa0ff2cb6fec058"), looks := false }, kinds := [], alts := [], laidByText := true, laidKinds := [.data], laidTests := true, laidLooks := .later }
def DualCutUptoCardSaid : Prop := Claim7.holds Tryd.pinned (.plain (OpenSpec.upto dualCutSpec)) dualCutUptoCard
end Rows
end Go.Proofs.YtlblkjefngofaaaDoor
