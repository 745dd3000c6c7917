/-
  DERIVED. GIVEN WITH THE SEED: THE CARDS: each row of YtdldcfllnohkeaaGreatDoorRows.lean that lists a variable, with what it lists TIED to the program's text (the seventh form; the later family's looks); each row that meets fmt, with fmt's text TOLD by the authors' own Lean function (tested against real Go, not proved from fmt's source: count such statements apart). THE CARD IS WHAT COUNTS. Prove the row's statement (the work); the ties are given (YtdldcfllnohkeaaGreatDoorTie.lean); close each card by the builder's one call (the guide's Derived/Test/ToyasCard.lean, 'card_holds'). Laid BY PROGRAM, IN A SANDBOX (cutbox-door.mjs). By AI agents, Wed Nov 11 2026. No macro, syntax, notation, axiom, sorry.
-/
import Derived.Test.YtdldcfllnohkeaaGreatDoorRows
import GoSem.ClaimSeven
namespace Go.Proofs.YtdldcfllnohkeaaGreatDoor
namespace Rows

/-- THE TIED CARD OF 'lispproverlaw6.PrinterRaw'. -/
def printerRawCard : Claim7 := { stood := { row := printerRawRow, standIns := [], harness := (true, "9b39ba6a87ff8504a688baf467470cde8614b9e2f682b0d2bbb3ce7848ca3a6d"), looks := true }, kinds := [], alts := [], laidByText := true, laidKinds := [.data, .data, .data, .data, .sentinel, .sentinel, .pinned], laidTests := true, laidLooks := .later }
def PrinterRawCardSaid : Prop := Claim7.holds Tryz.pinned (.plain (OpenSpec.ofChange printerRawSpec)) printerRawCard

/-- THE TIED CARD OF 'lispproverlaw6.PrinterLines'. -/
def printerLinesCard : Claim7 := { stood := { row := printerLinesRow, standIns := [], harness := (true, "9b39ba6a87ff8504a688baf467470cde8614b9e2f682b0d2bbb3ce7848ca3a6d"), looks := true }, kinds := [], alts := [], laidByText := true, laidKinds := [.data, .data, .data, .data, .sentinel, .sentinel, .pinned], laidTests := true, laidLooks := .later }
def PrinterLinesCardSaid : Prop := Claim7.holds Tryz.pinned (.plain (OpenSpec.ofChange printerLinesSpec)) printerLinesCard

/-- THE TIED CARD OF 'lispproverlaw6.LinesTrip'. -/
def linesTripCard : Claim7 := { stood := { row := linesTripRow, standIns := [], harness := (true, "9b39ba6a87ff8504a688baf467470cde8614b9e2f682b0d2bbb3ce7848ca3a6d"), looks := true }, kinds := [], alts := [], laidByText := true, laidKinds := [.data, .data, .data, .data, .sentinel, .sentinel, .pinned], laidTests := true, laidLooks := .later }
def LinesTripCardSaid : Prop := Claim7.holds Tryz.pinned (.plain (OpenSpec.ofChange linesTripSpec)) linesTripCard

/-- THE SECOND FORM's CARD OF 'lispproverlaw6.PrinterRaw'. -/
def printerRawUptoCard : Claim7 := { stood := { row := printerRawUptoRow, standIns := [], harness := (true, "9b39ba6a87ff8504a688baf467470cde8614b9e2f682b0d2bbb3ce7848ca3a6d"), looks := true }, kinds := [], alts := [], laidByText := true, laidKinds := [.data, .data, .data, .data, .sentinel, .sentinel, .pinned], laidTests := true, laidLooks := .later }
def PrinterRawUptoCardSaid : Prop := Claim7.holds Tryz.pinned (.plain (OpenSpec.upto printerRawSpec)) printerRawUptoCard

/-- THE SECOND FORM's CARD OF 'lispproverlaw6.PrinterLines'. -/
def printerLinesUptoCard : Claim7 := { stood := { row := printerLinesUptoRow, standIns := [], harness := (true, "9b39ba6a87ff8504a688baf467470cde8614b9e2f682b0d2bbb3ce7848ca3a6d"), looks := true }, kinds := [], alts := [], laidByText := true, laidKinds := [.data, .data, .data, .data, .sentinel, .sentinel, .pinned], laidTests := true, laidLooks := .later }
def PrinterLinesUptoCardSaid : Prop := Claim7.holds Tryz.pinned (.plain (OpenSpec.upto printerLinesSpec)) printerLinesUptoCard

/-- THE SECOND FORM's CARD OF 'lispproverlaw6.LinesTrip'. -/
def linesTripUptoCard : Claim7 := { stood := { row := linesTripUptoRow, standIns := [], harness := (true, "9b39ba6a87ff8504a688baf467470cde8614b9e2f682b0d2bbb3ce7848ca3a6d"), looks := true }, kinds := [], alts := [], laidByText := true, laidKinds := [.data, .data, .data, .data, .sentinel, .sentinel, .pinned], laidTests := true, laidLooks := .later }
def LinesTripUptoCardSaid : Prop := Claim7.holds Tryz.pinned (.plain (OpenSpec.upto linesTripSpec)) linesTripUptoCard
end Rows
end Go.Proofs.YtdldcfllnohkeaaGreatDoor
