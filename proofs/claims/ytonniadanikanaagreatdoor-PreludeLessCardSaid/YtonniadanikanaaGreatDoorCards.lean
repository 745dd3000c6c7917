/-
  DERIVED. GIVEN WITH THE SEED: THE CARDS: each row of YtonniadanikanaaGreatDoorRows.lean that lists a variable, with what it lists TIED to the program's text (the seventh form; the later family's looks); each row that meets fmt, with fmt's text TOLD by the authors' own Lean function (tested against real Go, not proved from fmt's source: count such statements apart). THE CARD IS WHAT COUNTS. Prove the row's statement (the work); the ties are given (YtonniadanikanaaGreatDoorTie.lean); close each card by the builder's one call (the guide's Derived/Test/ToyasCard.lean, 'card_holds'). Laid BY PROGRAM, IN A SANDBOX (cutbox-door.mjs). By AI agents, Wed Nov 11 2026. No macro, syntax, notation, axiom, sorry.
-/
import Derived.Test.YtonniadanikanaaGreatDoorRows
import GoSem.ClaimSeven
namespace Go.Proofs.YtonniadanikanaaGreatDoor
namespace Rows

/-- THE TIED CARD OF 'lispproverlaw13.PreludeOrdinals'. -/
def preludeOrdinalsCard : Claim7 := { stood := { row := preludeOrdinalsRow, standIns := [], harness := (true, "62d4fb6bffd92a77fa54d003c13113c90ae548076a0f57559f6b598155dc8668"), looks := true }, kinds := [], alts := [], laidByText := true, laidKinds := [.data, .data, .data, .data, .sentinel, .sentinel, .listed, .data, .pinned], laidTests := true, laidLooks := .later }
def PreludeOrdinalsCardSaid : Prop := Claim7.holds Tryz.pinned (.plain (OpenSpec.ofChange preludeOrdinalsSpec)) preludeOrdinalsCard

/-- THE TIED CARD OF 'lispproverlaw13.PreludeLess'. -/
def preludeLessCard : Claim7 := { stood := { row := preludeLessRow, standIns := [], harness := (true, "62d4fb6bffd92a77fa54d003c13113c90ae548076a0f57559f6b598155dc8668"), looks := true }, kinds := [], alts := [], laidByText := true, laidKinds := [.data, .data, .data, .data, .sentinel, .sentinel, .listed, .data, .pinned], laidTests := true, laidLooks := .later }
def PreludeLessCardSaid : Prop := Claim7.holds Tryz.pinned (.plain (OpenSpec.ofChange preludeLessSpec)) preludeLessCard

/-- THE TIED CARD OF 'lispproverlaw13.PreludeCounts'. -/
def preludeCountsCard : Claim7 := { stood := { row := preludeCountsRow, standIns := [], harness := (true, "62d4fb6bffd92a77fa54d003c13113c90ae548076a0f57559f6b598155dc8668"), looks := true }, kinds := [], alts := [], laidByText := true, laidKinds := [.data, .data, .data, .data, .sentinel, .sentinel, .listed, .data, .pinned], laidTests := true, laidLooks := .later }
def PreludeCountsCardSaid : Prop := Claim7.holds Tryz.pinned (.plain (OpenSpec.ofChange preludeCountsSpec)) preludeCountsCard

/-- THE TIED CARD OF 'lispproverlaw13.PreludeLists'. -/
def preludeListsCard : Claim7 := { stood := { row := preludeListsRow, standIns := [], harness := (true, "62d4fb6bffd92a77fa54d003c13113c90ae548076a0f57559f6b598155dc8668"), looks := true }, kinds := [], alts := [], laidByText := true, laidKinds := [.data, .data, .data, .data, .sentinel, .sentinel, .listed, .data, .pinned], laidTests := true, laidLooks := .later }
def PreludeListsCardSaid : Prop := Claim7.holds Tryz.pinned (.plain (OpenSpec.ofChange preludeListsSpec)) preludeListsCard

/-- THE SECOND FORM's CARD OF 'lispproverlaw13.PreludeOrdinals'. -/
def preludeOrdinalsUptoCard : Claim7 := { stood := { row := preludeOrdinalsUptoRow, standIns := [], harness := (true, "62d4fb6bffd92a77fa54d003c13113c90ae548076a0f57559f6b598155dc8668"), looks := true }, kinds := [], alts := [], laidByText := true, laidKinds := [.data, .data, .data, .data, .sentinel, .sentinel, .listed, .data, .pinned], laidTests := true, laidLooks := .later }
def PreludeOrdinalsUptoCardSaid : Prop := Claim7.holds Tryz.pinned (.plain (OpenSpec.upto preludeOrdinalsSpec)) preludeOrdinalsUptoCard

/-- THE SECOND FORM's CARD OF 'lispproverlaw13.PreludeLess'. -/
def preludeLessUptoCard : Claim7 := { stood := { row := preludeLessUptoRow, standIns := [], harness := (true, "62d4fb6bffd92a77fa54d003c13113c90ae548076a0f57559f6b598155dc8668"), looks := true }, kinds := [], alts := [], laidByText := true, laidKinds := [.data, .data, .data, .data, .sentinel, .sentinel, .listed, .data, .pinned], laidTests := true, laidLooks := .later }
def PreludeLessUptoCardSaid : Prop := Claim7.holds Tryz.pinned (.plain (OpenSpec.upto preludeLessSpec)) preludeLessUptoCard

/-- THE SECOND FORM's CARD OF 'lispproverlaw13.PreludeCounts'. -/
def preludeCountsUptoCard : Claim7 := { stood := { row := preludeCountsUptoRow, standIns := [], harness := (true, "62d4fb6bffd92a77fa54d003c13113c90ae548076a0f57559f6b598155dc8668"), looks := true }, kinds := [], alts := [], laidByText := true, laidKinds := [.data, .data, .data, .data, .sentinel, .sentinel, .listed, .data, .pinned], laidTests := true, laidLooks := .later }
def PreludeCountsUptoCardSaid : Prop := Claim7.holds Tryz.pinned (.plain (OpenSpec.upto preludeCountsSpec)) preludeCountsUptoCard

/-- THE SECOND FORM's CARD OF 'lispproverlaw13.PreludeLists'. -/
def preludeListsUptoCard : Claim7 := { stood := { row := preludeListsUptoRow, standIns := [], harness := (true, "62d4fb6bffd92a77fa54d003c13113c90ae548076a0f57559f6b598155dc8668"), looks := true }, kinds := [], alts := [], laidByText := true, laidKinds := [.data, .data, .data, .data, .sentinel, .sentinel, .listed, .data, .pinned], laidTests := true, laidLooks := .later }
def PreludeListsUptoCardSaid : Prop := Claim7.holds Tryz.pinned (.plain (OpenSpec.upto preludeListsSpec)) preludeListsUptoCard
end Rows
end Go.Proofs.YtonniadanikanaaGreatDoor
