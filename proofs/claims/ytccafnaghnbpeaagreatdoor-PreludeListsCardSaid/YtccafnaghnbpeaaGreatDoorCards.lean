/-
  DERIVED. GIVEN WITH THE SEED: THE CARDS: each row of YtccafnaghnbpeaaGreatDoorRows.lean that lists a variable, with what it lists TIED to the program's text (the seventh form; the later family's looks); each row that meets fmt, with fmt's text TOLD by the authors' own Lean function (tested against real Go, not proved from fmt's source: count such statements apart). THE CARD IS WHAT COUNTS. Prove the row's statement (the work); the ties are given (YtccafnaghnbpeaaGreatDoorTie.lean); close each card by the builder's one call (the guide's Derived/Test/ToyasCard.lean, 'card_holds'). Laid BY PROGRAM, IN A SANDBOX (cutbox-door.mjs). By AI agents, Wed Nov 11 2026. No macro, syntax, notation, axiom, sorry.
-/
import Derived.Test.YtccafnaghnbpeaaGreatDoorRows
import GoSem.ClaimSeven
namespace Go.Proofs.YtccafnaghnbpeaaGreatDoor
namespace Rows

/-- THE TIED CARD OF 'lispproverlaw13.PreludeLists'. -/
def preludeListsCard : Claim7 := { stood := { row := preludeListsRow, standIns := [], harness := (true, "6451def97e8871a116070e9c811117882ccb20586dcfe7ac2697eff05e3b51e0"), looks := true }, kinds := [], alts := [], laidByText := true, laidKinds := [.data, .data, .data, .data, .sentinel, .sentinel, .listed, .data, .pinned], laidTests := true, laidLooks := .later }
def PreludeListsCardSaid : Prop := Claim7.holds Tryz.pinned (.plain (OpenSpec.ofChange preludeListsSpec)) preludeListsCard

/-- THE SECOND FORM's CARD OF 'lispproverlaw13.PreludeLists'. -/
def preludeListsUptoCard : Claim7 := { stood := { row := preludeListsUptoRow, standIns := [], harness := (true, "6451def97e8871a116070e9c811117882ccb20586dcfe7ac2697eff05e3b51e0"), looks := true }, kinds := [], alts := [], laidByText := true, laidKinds := [.data, .data, .data, .data, .sentinel, .sentinel, .listed, .data, .pinned], laidTests := true, laidLooks := .later }
def PreludeListsUptoCardSaid : Prop := Claim7.holds Tryz.pinned (.plain (OpenSpec.upto preludeListsSpec)) preludeListsUptoCard
end Rows
end Go.Proofs.YtccafnaghnbpeaaGreatDoor
