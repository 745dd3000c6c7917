/-
  DERIVED. GIVEN WITH THE SEED: THE CARDS: each row of YtffaodopiifbkaaGreatDoorRows.lean that lists a variable, with what it lists TIED to the program's text (the seventh form; the later family's looks); each row that meets fmt, with fmt's text TOLD by the authors' own Lean function (tested against real Go, not proved from fmt's source: count such statements apart). THE CARD IS WHAT COUNTS. Prove the row's statement (the work); the ties are given (YtffaodopiifbkaaGreatDoorTie.lean); close each card by the builder's one call (the guide's Derived/Test/ToyasCard.lean, 'card_holds'). Laid BY PROGRAM, IN A SANDBOX (cutbox-door.mjs). By AI agents, Wed Nov 11 2026. No macro, syntax, notation, axiom, sorry.
-/
import Derived.Test.YtffaodopiifbkaaGreatDoorRows
import GoSem.ClaimSeven
namespace Go.Proofs.YtffaodopiifbkaaGreatDoor
namespace Rows

/-- THE TIED CARD OF 'lispproverlaw5.ReaderOnes'. -/
def readerOnesCard : Claim7 := { stood := { row := readerOnesRow, standIns := [], harness := (true, "e4d6be23df470f3136165a029df302f723ced8eef17464b25267ff55f95d981b"), looks := true }, kinds := [], alts := [], laidByText := true, laidKinds := [.data, .data, .data, .data, .sentinel, .sentinel, .pinned], laidTests := true, laidLooks := .later }
def ReaderOnesCardSaid : Prop := Claim7.holds Tryz.pinned (.plain (OpenSpec.ofChange readerOnesSpec)) readerOnesCard

/-- THE TIED CARD OF 'lispproverlaw5.ReaderTokens'. -/
def readerTokensCard : Claim7 := { stood := { row := readerTokensRow, standIns := [], harness := (true, "e4d6be23df470f3136165a029df302f723ced8eef17464b25267ff55f95d981b"), looks := true }, kinds := [], alts := [], laidByText := true, laidKinds := [.data, .data, .data, .data, .sentinel, .sentinel, .pinned], laidTests := true, laidLooks := .later }
def ReaderTokensCardSaid : Prop := Claim7.holds Tryz.pinned (.plain (OpenSpec.ofChange readerTokensSpec)) readerTokensCard

/-- THE TIED CARD OF 'lispproverlaw5.ReaderPrefix'. -/
def readerPrefixCard : Claim7 := { stood := { row := readerPrefixRow, standIns := [], harness := (true, "e4d6be23df470f3136165a029df302f723ced8eef17464b25267ff55f95d981b"), looks := true }, kinds := [], alts := [], laidByText := true, laidKinds := [.data, .data, .data, .data, .sentinel, .sentinel, .pinned], laidTests := true, laidLooks := .later }
def ReaderPrefixCardSaid : Prop := Claim7.holds Tryz.pinned (.plain (OpenSpec.ofChange readerPrefixSpec)) readerPrefixCard

/-- THE TIED CARD OF 'lispproverlaw5.ReaderReads'. -/
def readerReadsCard : Claim7 := { stood := { row := readerReadsRow, standIns := [], harness := (true, "e4d6be23df470f3136165a029df302f723ced8eef17464b25267ff55f95d981b"), looks := true }, kinds := [], alts := [], laidByText := true, laidKinds := [.data, .data, .data, .data, .sentinel, .sentinel, .pinned], laidTests := true, laidLooks := .later }
def ReaderReadsCardSaid : Prop := Claim7.holds Tryz.pinned (.plain (OpenSpec.ofChange readerReadsSpec)) readerReadsCard

/-- THE TIED CARD OF 'lispproverlaw5.ReaderDeep'. -/
def readerDeepCard : Claim7 := { stood := { row := readerDeepRow, standIns := [], harness := (true, "e4d6be23df470f3136165a029df302f723ced8eef17464b25267ff55f95d981b"), looks := true }, kinds := [], alts := [], laidByText := true, laidKinds := [.data, .data, .data, .data, .sentinel, .sentinel, .pinned], laidTests := true, laidLooks := .later }
def ReaderDeepCardSaid : Prop := Claim7.holds Tryz.pinned (.plain (OpenSpec.ofChange readerDeepSpec)) readerDeepCard

/-- THE TIED CARD OF 'lispproverlaw5.ReaderLong'. -/
def readerLongCard : Claim7 := { stood := { row := readerLongRow, standIns := [], harness := (true, "e4d6be23df470f3136165a029df302f723ced8eef17464b25267ff55f95d981b"), looks := true }, kinds := [], alts := [], laidByText := true, laidKinds := [.data, .data, .data, .data, .sentinel, .sentinel, .pinned], laidTests := true, laidLooks := .later }
def ReaderLongCardSaid : Prop := Claim7.holds Tryz.pinned (.plain (OpenSpec.ofChange readerLongSpec)) readerLongCard

/-- THE TIED CARD OF 'lispproverlaw6.PrinterNames'. -/
def printerNamesCard : Claim7 := { stood := { row := printerNamesRow, standIns := [], harness := (true, "e4d6be23df470f3136165a029df302f723ced8eef17464b25267ff55f95d981b"), looks := true }, kinds := [], alts := [], laidByText := true, laidKinds := [.data, .data, .data, .data, .sentinel, .sentinel, .pinned], laidTests := true, laidLooks := .later }
def PrinterNamesCardSaid : Prop := Claim7.holds Tryz.pinned (.plain (OpenSpec.ofChange printerNamesSpec)) printerNamesCard

/-- THE TIED CARD OF 'lispproverlaw6.PrinterPrints'. -/
def printerPrintsCard : Claim7 := { stood := { row := printerPrintsRow, standIns := [], harness := (true, "e4d6be23df470f3136165a029df302f723ced8eef17464b25267ff55f95d981b"), looks := true }, kinds := [], alts := [], laidByText := true, laidKinds := [.data, .data, .data, .data, .sentinel, .sentinel, .pinned], laidTests := true, laidLooks := .later }
def PrinterPrintsCardSaid : Prop := Claim7.holds Tryz.pinned (.plain (OpenSpec.ofChange printerPrintsSpec)) printerPrintsCard

/-- THE TIED CARD OF 'lispproverlaw6.PrinterRaw'. -/
def printerRawCard : Claim7 := { stood := { row := printerRawRow, standIns := [], harness := (true, "e4d6be23df470f3136165a029df302f723ced8eef17464b25267ff55f95d981b"), looks := true }, kinds := [], alts := [], laidByText := true, laidKinds := [.data, .data, .data, .data, .sentinel, .sentinel, .pinned], laidTests := true, laidLooks := .later }
def PrinterRawCardSaid : Prop := Claim7.holds Tryz.pinned (.plain (OpenSpec.ofChange printerRawSpec)) printerRawCard

/-- THE TIED CARD OF 'lispproverlaw6.PrinterLines'. -/
def printerLinesCard : Claim7 := { stood := { row := printerLinesRow, standIns := [], harness := (true, "e4d6be23df470f3136165a029df302f723ced8eef17464b25267ff55f95d981b"), looks := true }, kinds := [], alts := [], laidByText := true, laidKinds := [.data, .data, .data, .data, .sentinel, .sentinel, .pinned], laidTests := true, laidLooks := .later }
def PrinterLinesCardSaid : Prop := Claim7.holds Tryz.pinned (.plain (OpenSpec.ofChange printerLinesSpec)) printerLinesCard

/-- THE TIED CARD OF 'lispproverlaw6.RoundTrip'. -/
def roundTripCard : Claim7 := { stood := { row := roundTripRow, standIns := [], harness := (true, "e4d6be23df470f3136165a029df302f723ced8eef17464b25267ff55f95d981b"), looks := true }, kinds := [], alts := [], laidByText := true, laidKinds := [.data, .data, .data, .data, .sentinel, .sentinel, .pinned], laidTests := true, laidLooks := .later }
def RoundTripCardSaid : Prop := Claim7.holds Tryz.pinned (.plain (OpenSpec.ofChange roundTripSpec)) roundTripCard

/-- THE TIED CARD OF 'lispproverlaw6.NamesTrip'. -/
def namesTripCard : Claim7 := { stood := { row := namesTripRow, standIns := [], harness := (true, "e4d6be23df470f3136165a029df302f723ced8eef17464b25267ff55f95d981b"), looks := true }, kinds := [], alts := [], laidByText := true, laidKinds := [.data, .data, .data, .data, .sentinel, .sentinel, .pinned], laidTests := true, laidLooks := .later }
def NamesTripCardSaid : Prop := Claim7.holds Tryz.pinned (.plain (OpenSpec.ofChange namesTripSpec)) namesTripCard

/-- THE TIED CARD OF 'lispproverlaw6.PrintAgain'. -/
def printAgainCard : Claim7 := { stood := { row := printAgainRow, standIns := [], harness := (true, "e4d6be23df470f3136165a029df302f723ced8eef17464b25267ff55f95d981b"), looks := true }, kinds := [], alts := [], laidByText := true, laidKinds := [.data, .data, .data, .data, .sentinel, .sentinel, .pinned], laidTests := true, laidLooks := .later }
def PrintAgainCardSaid : Prop := Claim7.holds Tryz.pinned (.plain (OpenSpec.ofChange printAgainSpec)) printAgainCard

/-- THE TIED CARD OF 'lispproverlaw6.LinesTrip'. -/
def linesTripCard : Claim7 := { stood := { row := linesTripRow, standIns := [], harness := (true, "e4d6be23df470f3136165a029df302f723ced8eef17464b25267ff55f95d981b"), looks := true }, kinds := [], alts := [], laidByText := true, laidKinds := [.data, .data, .data, .data, .sentinel, .sentinel, .pinned], laidTests := true, laidLooks := .later }
def LinesTripCardSaid : Prop := Claim7.holds Tryz.pinned (.plain (OpenSpec.ofChange linesTripSpec)) linesTripCard

/-- THE SECOND FORM's CARD OF 'lispproverlaw5.ReaderOnes'. -/
def readerOnesUptoCard : Claim7 := { stood := { row := readerOnesUptoRow, standIns := [], harness := (true, "e4d6be23df470f3136165a029df302f723ced8eef17464b25267ff55f95d981b"), looks := true }, kinds := [], alts := [], laidByText := true, laidKinds := [.data, .data, .data, .data, .sentinel, .sentinel, .pinned], laidTests := true, laidLooks := .later }
def ReaderOnesUptoCardSaid : Prop := Claim7.holds Tryz.pinned (.plain (OpenSpec.upto readerOnesSpec)) readerOnesUptoCard

/-- THE SECOND FORM's CARD OF 'lispproverlaw5.ReaderTokens'. -/
def readerTokensUptoCard : Claim7 := { stood := { row := readerTokensUptoRow, standIns := [], harness := (true, "e4d6be23df470f3136165a029df302f723ced8eef17464b25267ff55f95d981b"), looks := true }, kinds := [], alts := [], laidByText := true, laidKinds := [.data, .data, .data, .data, .sentinel, .sentinel, .pinned], laidTests := true, laidLooks := .later }
def ReaderTokensUptoCardSaid : Prop := Claim7.holds Tryz.pinned (.plain (OpenSpec.upto readerTokensSpec)) readerTokensUptoCard

/-- THE SECOND FORM's CARD OF 'lispproverlaw5.ReaderPrefix'. -/
def readerPrefixUptoCard : Claim7 := { stood := { row := readerPrefixUptoRow, standIns := [], harness := (true, "e4d6be23df470f3136165a029df302f723ced8eef17464b25267ff55f95d981b"), looks := true }, kinds := [], alts := [], laidByText := true, laidKinds := [.data, .data, .data, .data, .sentinel, .sentinel, .pinned], laidTests := true, laidLooks := .later }
def ReaderPrefixUptoCardSaid : Prop := Claim7.holds Tryz.pinned (.plain (OpenSpec.upto readerPrefixSpec)) readerPrefixUptoCard

/-- THE SECOND FORM's CARD OF 'lispproverlaw5.ReaderReads'. -/
def readerReadsUptoCard : Claim7 := { stood := { row := readerReadsUptoRow, standIns := [], harness := (true, "e4d6be23df470f3136165a029df302f723ced8eef17464b25267ff55f95d981b"), looks := true }, kinds := [], alts := [], laidByText := true, laidKinds := [.data, .data, .data, .data, .sentinel, .sentinel, .pinned], laidTests := true, laidLooks := .later }
def ReaderReadsUptoCardSaid : Prop := Claim7.holds Tryz.pinned (.plain (OpenSpec.upto readerReadsSpec)) readerReadsUptoCard

/-- THE SECOND FORM's CARD OF 'lispproverlaw5.ReaderDeep'. -/
def readerDeepUptoCard : Claim7 := { stood := { row := readerDeepUptoRow, standIns := [], harness := (true, "e4d6be23df470f3136165a029df302f723ced8eef17464b25267ff55f95d981b"), looks := true }, kinds := [], alts := [], laidByText := true, laidKinds := [.data, .data, .data, .data, .sentinel, .sentinel, .pinned], laidTests := true, laidLooks := .later }
def ReaderDeepUptoCardSaid : Prop := Claim7.holds Tryz.pinned (.plain (OpenSpec.upto readerDeepSpec)) readerDeepUptoCard

/-- THE SECOND FORM's CARD OF 'lispproverlaw5.ReaderLong'. -/
def readerLongUptoCard : Claim7 := { stood := { row := readerLongUptoRow, standIns := [], harness := (true, "e4d6be23df470f3136165a029df302f723ced8eef17464b25267ff55f95d981b"), looks := true }, kinds := [], alts := [], laidByText := true, laidKinds := [.data, .data, .data, .data, .sentinel, .sentinel, .pinned], laidTests := true, laidLooks := .later }
def ReaderLongUptoCardSaid : Prop := Claim7.holds Tryz.pinned (.plain (OpenSpec.upto readerLongSpec)) readerLongUptoCard

/-- THE SECOND FORM's CARD OF 'lispproverlaw6.PrinterNames'. -/
def printerNamesUptoCard : Claim7 := { stood := { row := printerNamesUptoRow, standIns := [], harness := (true, "e4d6be23df470f3136165a029df302f723ced8eef17464b25267ff55f95d981b"), looks := true }, kinds := [], alts := [], laidByText := true, laidKinds := [.data, .data, .data, .data, .sentinel, .sentinel, .pinned], laidTests := true, laidLooks := .later }
def PrinterNamesUptoCardSaid : Prop := Claim7.holds Tryz.pinned (.plain (OpenSpec.upto printerNamesSpec)) printerNamesUptoCard

/-- THE SECOND FORM's CARD OF 'lispproverlaw6.PrinterPrints'. -/
def printerPrintsUptoCard : Claim7 := { stood := { row := printerPrintsUptoRow, standIns := [], harness := (true, "e4d6be23df470f3136165a029df302f723ced8eef17464b25267ff55f95d981b"), looks := true }, kinds := [], alts := [], laidByText := true, laidKinds := [.data, .data, .data, .data, .sentinel, .sentinel, .pinned], laidTests := true, laidLooks := .later }
def PrinterPrintsUptoCardSaid : Prop := Claim7.holds Tryz.pinned (.plain (OpenSpec.upto printerPrintsSpec)) printerPrintsUptoCard

/-- THE SECOND FORM's CARD OF 'lispproverlaw6.PrinterRaw'. -/
def printerRawUptoCard : Claim7 := { stood := { row := printerRawUptoRow, standIns := [], harness := (true, "e4d6be23df470f3136165a029df302f723ced8eef17464b25267ff55f95d981b"), looks := true }, kinds := [], alts := [], laidByText := true, laidKinds := [.data, .data, .data, .data, .sentinel, .sentinel, .pinned], laidTests := true, laidLooks := .later }
def PrinterRawUptoCardSaid : Prop := Claim7.holds Tryz.pinned (.plain (OpenSpec.upto printerRawSpec)) printerRawUptoCard

/-- THE SECOND FORM's CARD OF 'lispproverlaw6.PrinterLines'. -/
def printerLinesUptoCard : Claim7 := { stood := { row := printerLinesUptoRow, standIns := [], harness := (true, "e4d6be23df470f3136165a029df302f723ced8eef17464b25267ff55f95d981b"), looks := true }, kinds := [], alts := [], laidByText := true, laidKinds := [.data, .data, .data, .data, .sentinel, .sentinel, .pinned], laidTests := true, laidLooks := .later }
def PrinterLinesUptoCardSaid : Prop := Claim7.holds Tryz.pinned (.plain (OpenSpec.upto printerLinesSpec)) printerLinesUptoCard

/-- THE SECOND FORM's CARD OF 'lispproverlaw6.RoundTrip'. -/
def roundTripUptoCard : Claim7 := { stood := { row := roundTripUptoRow, standIns := [], harness := (true, "e4d6be23df470f3136165a029df302f723ced8eef17464b25267ff55f95d981b"), looks := true }, kinds := [], alts := [], laidByText := true, laidKinds := [.data, .data, .data, .data, .sentinel, .sentinel, .pinned], laidTests := true, laidLooks := .later }
def RoundTripUptoCardSaid : Prop := Claim7.holds Tryz.pinned (.plain (OpenSpec.upto roundTripSpec)) roundTripUptoCard

/-- THE SECOND FORM's CARD OF 'lispproverlaw6.NamesTrip'. -/
def namesTripUptoCard : Claim7 := { stood := { row := namesTripUptoRow, standIns := [], harness := (true, "e4d6be23df470f3136165a029df302f723ced8eef17464b25267ff55f95d981b"), looks := true }, kinds := [], alts := [], laidByText := true, laidKinds := [.data, .data, .data, .data, .sentinel, .sentinel, .pinned], laidTests := true, laidLooks := .later }
def NamesTripUptoCardSaid : Prop := Claim7.holds Tryz.pinned (.plain (OpenSpec.upto namesTripSpec)) namesTripUptoCard

/-- THE SECOND FORM's CARD OF 'lispproverlaw6.PrintAgain'. -/
def printAgainUptoCard : Claim7 := { stood := { row := printAgainUptoRow, standIns := [], harness := (true, "e4d6be23df470f3136165a029df302f723ced8eef17464b25267ff55f95d981b"), looks := true }, kinds := [], alts := [], laidByText := true, laidKinds := [.data, .data, .data, .data, .sentinel, .sentinel, .pinned], laidTests := true, laidLooks := .later }
def PrintAgainUptoCardSaid : Prop := Claim7.holds Tryz.pinned (.plain (OpenSpec.upto printAgainSpec)) printAgainUptoCard

/-- THE SECOND FORM's CARD OF 'lispproverlaw6.LinesTrip'. -/
def linesTripUptoCard : Claim7 := { stood := { row := linesTripUptoRow, standIns := [], harness := (true, "e4d6be23df470f3136165a029df302f723ced8eef17464b25267ff55f95d981b"), looks := true }, kinds := [], alts := [], laidByText := true, laidKinds := [.data, .data, .data, .data, .sentinel, .sentinel, .pinned], laidTests := true, laidLooks := .later }
def LinesTripUptoCardSaid : Prop := Claim7.holds Tryz.pinned (.plain (OpenSpec.upto linesTripSpec)) linesTripUptoCard
end Rows
end Go.Proofs.YtffaodopiifbkaaGreatDoor
