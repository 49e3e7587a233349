/-
  DERIVED. GIVEN WITH THE SEED: THE CARDS: each row of YtpohaikbbfochaaDoorRows.lean that lists a variable, with what it lists TIED to the program's text (the seventh form; the later family's looks); each row that meets fmt, with fmt's text TOLD by the authors' own Lean function (tested against real Go, not proved from fmt's source: count such statements apart). THE CARD IS WHAT COUNTS. Prove the row's statement (the work); the ties are given (YtpohaikbbfochaaDoorTie.lean); close each card by the builder's one call (the guide's Derived/Test/ToyasCard.lean, 'card_holds'). Laid BY PROGRAM, IN A SANDBOX (cutbox-door.mjs). By AI agents, Wed Nov 11 2026. No macro, syntax, notation, axiom, sorry.
-/
import Derived.Test.YtpohaikbbfochaaDoorRows
import GoSem.ClaimSeven
namespace Go.Proofs.YtpohaikbbfochaaDoor
namespace Rows

/-- THE TIED CARD OF 'cadenzatop.TopBits'. -/
def topBitsCard : Claim7 := { stood := { row := topBitsRow, standIns := [], harness := (true, "e67e422fd2262813ec55f013214dbdd6fd7fabeb4fafbdbed37f81ce6642757d"), looks := false }, kinds := [], alts := [], laidByText := true, laidKinds := [.data], laidTests := true, laidLooks := .later }
def TopBitsCardSaid : Prop := Claim7.holds Tryd.pinned (.plain (OpenSpec.ofChange topBitsSpec)) topBitsCard

/-- THE TIED CARD OF 'cadenzatop.TopCodes'. -/
def topCodesCard : Claim7 := { stood := { row := topCodesRow, standIns := [], harness := (true, "e67e422fd2262813ec55f013214dbdd6fd7fabeb4fafbdbed37f81ce6642757d"), looks := false }, kinds := [], alts := [], laidByText := true, laidKinds := [.data], laidTests := true, laidLooks := .later }
def TopCodesCardSaid : Prop := Claim7.holds Tryd.pinned (.plain (OpenSpec.ofChange topCodesSpec)) topCodesCard

/-- THE SECOND FORM's CARD OF 'cadenzatop.TopBits'. -/
def topBitsUptoCard : Claim7 := { stood := { row := topBitsUptoRow, standIns := [], harness := (true, "e67e422fd2262813ec55f013214dbdd6fd7fabeb4fafbdbed37f81ce6642757d"), looks := false }, kinds := [], alts := [], laidByText := true, laidKinds := [.data], laidTests := true, laidLooks := .later }
def TopBitsUptoCardSaid : Prop := Claim7.holds Tryd.pinned (.plain (OpenSpec.upto topBitsSpec)) topBitsUptoCard

/-- THE SECOND FORM's CARD OF 'cadenzatop.TopCodes'. -/
def topCodesUptoCard : Claim7 := { stood := { row := topCodesUptoRow, standIns := [], harness := (true, "e67e422fd2262813ec55f013214dbdd6fd7fabeb4fafbdbed37f81ce6642757d"), looks := false }, kinds := [], alts := [], laidByText := true, laidKinds := [.data], laidTests := true, laidLooks := .later }
def TopCodesUptoCardSaid : Prop := Claim7.holds Tryd.pinned (.plain (OpenSpec.upto topCodesSpec)) topCodesUptoCard
end Rows
end Go.Proofs.YtpohaikbbfochaaDoor
