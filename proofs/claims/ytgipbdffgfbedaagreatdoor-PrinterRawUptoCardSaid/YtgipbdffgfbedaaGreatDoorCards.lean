/-
  DERIVED. GIVEN WITH THE SEED: THE CARDS: each row of YtgipbdffgfbedaaGreatDoorRows.lean that lists a variable, with what it lists TIED to the program's text (the seventh form; the later family's looks); each row that meets fmt, with fmt's text TOLD by the authors' own Lean function (tested against real Go, not proved from fmt's source: count such statements apart). THE CARD IS WHAT COUNTS. Prove the row's statement (the work); the ties are given (YtgipbdffgfbedaaGreatDoorTie.lean); close each card by the builder's one call (the guide's Derived/Test/ToyasCard.lean, 'card_holds'). Laid BY PROGRAM, IN A SANDBOX (cutbox-door.mjs). By AI agents, Wed Nov 11 2026. No macro, syntax, notation, axiom, sorry.
-/
import Derived.Test.YtgipbdffgfbedaaGreatDoorRows
import GoSem.ClaimSeven
namespace Go.Proofs.YtgipbdffgfbedaaGreatDoor
namespace Rows

/-- THE TIED CARD OF 'lispproverlaw6.PrinterRaw'. -/
def printerRawCard : Claim7 := { stood := { row := printerRawRow, standIns := [], harness := (true, "79fe8721e7c31b239c93d0165d37668f6abe71e24d70356f26f8196dd044077d"), looks := true }, kinds := [], alts := [], laidByText := true, laidKinds := [.data, .data, .data, .data, .sentinel, .sentinel, .pinned], laidTests := true, laidLooks := .later }
def PrinterRawCardSaid : Prop := Claim7.holds Tryz.pinned (.plain (OpenSpec.ofChange printerRawSpec)) printerRawCard

/-- THE SECOND FORM's CARD OF 'lispproverlaw6.PrinterRaw'. -/
def printerRawUptoCard : Claim7 := { stood := { row := printerRawUptoRow, standIns := [], harness := (true, "79fe8721e7c31b239c93d0165d37668f6abe71e24d70356f26f8196dd044077d"), looks := true }, kinds := [], alts := [], laidByText := true, laidKinds := [.data, .data, .data, .data, .sentinel, .sentinel, .pinned], laidTests := true, laidLooks := .later }
def PrinterRawUptoCardSaid : Prop := Claim7.holds Tryz.pinned (.plain (OpenSpec.upto printerRawSpec)) printerRawUptoCard
end Rows
end Go.Proofs.YtgipbdffgfbedaaGreatDoor
