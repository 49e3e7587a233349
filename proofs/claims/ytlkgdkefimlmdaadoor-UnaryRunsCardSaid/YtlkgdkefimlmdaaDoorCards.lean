/-
  DERIVED. GIVEN WITH THE SEED: THE CARDS: each row of YtlkgdkefimlmdaaDoorRows.lean that lists a variable, with what it lists TIED to the program's text (the seventh form; the later family's looks); each row that meets fmt, with fmt's text TOLD by the authors' own Lean function (tested against real Go, not proved from fmt's source: count such statements apart). THE CARD IS WHAT COUNTS. Prove the row's statement (the work); the ties are given (YtlkgdkefimlmdaaDoorTie.lean); close each card by the builder's one call (the guide's Derived/Test/ToyasCard.lean, 'card_holds'). Laid BY PROGRAM, IN A SANDBOX (cutbox-door.mjs). By AI agents, Wed Nov 11 2026. No macro, syntax, notation, axiom, sorry.
-/
import Derived.Test.YtlkgdkefimlmdaaDoorRows
import GoSem.ClaimSeven
namespace Go.Proofs.YtlkgdkefimlmdaaDoor
namespace Rows

/-- THE TIED CARD OF 'cadenzalaw06.UnaryRuns'. -/
def unaryRunsCard : Claim7 := { stood := { row := unaryRunsRow, standIns := [], harness := (true, "70173d7cc3ce3b76e1812b5f8d903668cce545a2d4fedd5c350264d547d5ff21"), looks := false }, kinds := [], alts := [], laidByText := true, laidKinds := [.data], laidTests := true, laidLooks := .later }
def UnaryRunsCardSaid : Prop := Claim7.holds Tryd.pinned (.plain (OpenSpec.ofChange unaryRunsSpec)) unaryRunsCard

/-- THE TIED CARD OF 'cadenzalaw06.UnaryNames'. -/
def unaryNamesCard : Claim7 := { stood := { row := unaryNamesRow, standIns := [], harness := (true, "70173d7cc3ce3b76e1812b5f8d903668cce545a2d4fedd5c350264d547d5ff21"), looks := false }, kinds := [], alts := [], laidByText := true, laidKinds := [.data], laidTests := true, laidLooks := .later }
def UnaryNamesCardSaid : Prop := Claim7.holds Tryd.pinned (.plain (OpenSpec.ofChange unaryNamesSpec)) unaryNamesCard

/-- THE TIED CARD OF 'cadenzalaw06.UnaryBack'. -/
def unaryBackCard : Claim7 := { stood := { row := unaryBackRow, standIns := [], harness := (true, "70173d7cc3ce3b76e1812b5f8d903668cce545a2d4fedd5c350264d547d5ff21"), looks := false }, kinds := [], alts := [], laidByText := true, laidKinds := [.data], laidTests := true, laidLooks := .later }
def UnaryBackCardSaid : Prop := Claim7.holds Tryd.pinned (.plain (OpenSpec.ofChange unaryBackSpec)) unaryBackCard

/-- THE TIED CARD OF 'cadenzalaw06.UnaryShort'. -/
def unaryShortCard : Claim7 := { stood := { row := unaryShortRow, standIns := [], harness := (true, "70173d7cc3ce3b76e1812b5f8d903668cce545a2d4fedd5c350264d547d5ff21"), looks := false }, kinds := [], alts := [], laidByText := true, laidKinds := [.data], laidTests := true, laidLooks := .later }
def UnaryShortCardSaid : Prop := Claim7.holds Tryd.pinned (.plain (OpenSpec.ofChange unaryShortSpec)) unaryShortCard

/-- THE TIED CARD OF 'cadenzalaw06.UnaryCut'. -/
def unaryCutCard : Claim7 := { stood := { row := unaryCutRow, standIns := [], harness := (true, "70173d7cc3ce3b76e1812b5f8d903668cce545a2d4fedd5c350264d547d5ff21"), looks := false }, kinds := [], alts := [], laidByText := true, laidKinds := [.data], laidTests := true, laidLooks := .later }
def UnaryCutCardSaid : Prop := Claim7.holds Tryd.pinned (.plain (OpenSpec.ofChange unaryCutSpec)) unaryCutCard

/-- THE SECOND FORM's CARD OF 'cadenzalaw06.UnaryRuns'. -/
def unaryRunsUptoCard : Claim7 := { stood := { row := unaryRunsUptoRow, standIns := [], harness := (true, "70173d7cc3ce3b76e1812b5f8d903668cce545a2d4fedd5c350264d547d5ff21"), looks := false }, kinds := [], alts := [], laidByText := true, laidKinds := [.data], laidTests := true, laidLooks := .later }
def UnaryRunsUptoCardSaid : Prop := Claim7.holds Tryd.pinned (.plain (OpenSpec.upto unaryRunsSpec)) unaryRunsUptoCard

/-- THE SECOND FORM's CARD OF 'cadenzalaw06.UnaryNames'. -/
def unaryNamesUptoCard : Claim7 := { stood := { row := unaryNamesUptoRow, standIns := [], harness := (true, "70173d7cc3ce3b76e1812b5f8d903668cce545a2d4fedd5c350264d547d5ff21"), looks := false }, kinds := [], alts := [], laidByText := true, laidKinds := [.data], laidTests := true, laidLooks := .later }
def UnaryNamesUptoCardSaid : Prop := Claim7.holds Tryd.pinned (.plain (OpenSpec.upto unaryNamesSpec)) unaryNamesUptoCard

/-- THE SECOND FORM's CARD OF 'cadenzalaw06.UnaryBack'. -/
def unaryBackUptoCard : Claim7 := { stood := { row := unaryBackUptoRow, standIns := [], harness := (true, "70173d7cc3ce3b76e1812b5f8d903668cce545a2d4fedd5c350264d547d5ff21"), looks := false }, kinds := [], alts := [], laidByText := true, laidKinds := [.data], laidTests := true, laidLooks := .later }
def UnaryBackUptoCardSaid : Prop := Claim7.holds Tryd.pinned (.plain (OpenSpec.upto unaryBackSpec)) unaryBackUptoCard

/-- THE SECOND FORM's CARD OF 'cadenzalaw06.UnaryShort'. -/
def unaryShortUptoCard : Claim7 := { stood := { row := unaryShortUptoRow, standIns := [], harness := (true, "70173d7cc3ce3b76e1812b5f8d903668cce545a2d4fedd5c350264d547d5ff21"), looks := false }, kinds := [], alts := [], laidByText := true, laidKinds := [.data], laidTests := true, laidLooks := .later }
def UnaryShortUptoCardSaid : Prop := Claim7.holds Tryd.pinned (.plain (OpenSpec.upto unaryShortSpec)) unaryShortUptoCard

/-- THE SECOND FORM's CARD OF 'cadenzalaw06.UnaryCut'. -/
def unaryCutUptoCard : Claim7 := { stood := { row := unaryCutUptoRow, standIns := [], harness := (true, "70173d7cc3ce3b76e1812b5f8d903668cce545a2d4fedd5c350264d547d5ff21"), looks := false }, kinds := [], alts := [], laidByText := true, laidKinds := [.data], laidTests := true, laidLooks := .later }
def UnaryCutUptoCardSaid : Prop := Claim7.holds Tryd.pinned (.plain (OpenSpec.upto unaryCutSpec)) unaryCutUptoCard
end Rows
end Go.Proofs.YtlkgdkefimlmdaaDoor
