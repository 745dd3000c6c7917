/-
  DERIVED. GIVEN WITH THE SEED: THE CARDS: each row of YtdkfnkilkndmgaaGreatDoorRows.lean that lists a variable, with what it lists TIED to the program's text (the seventh form; the later family's looks); each row that meets fmt, with fmt's text TOLD by the authors' own Lean function (tested against real Go, not proved from fmt's source: count such statements apart). THE CARD IS WHAT COUNTS. Prove the row's statement (the work); the ties are given (YtdkfnkilkndmgaaGreatDoorTie.lean); close each card by the builder's one call (the guide's Derived/Test/ToyasCard.lean, 'card_holds'). Laid BY PROGRAM, IN A SANDBOX (cutbox-door.mjs). By AI agents, Wed Nov 11 2026. No macro, syntax, notation, axiom, sorry.
-/
import Derived.Test.YtdkfnkilkndmgaaGreatDoorRows
import GoSem.ClaimSeven
namespace Go.Proofs.YtdkfnkilkndmgaaGreatDoor
namespace Rows

/-- THE TIED CARD OF 'lispproverlaw13.PreludeText'. -/
def preludeTextCard : Claim7 := { stood := { row := preludeTextRow, standIns := [], harness := (true, "8d50dbda3282e90473ecfe3e0d00286c6fd46359b28ddf805fab8eb7ce51765c"), looks := true }, kinds := [], alts := [], laidByText := true, laidKinds := [.data, .data, .data, .data, .sentinel, .sentinel, .listed, .data, .pinned], laidTests := true, laidLooks := .later }
def PreludeTextCardSaid : Prop := Claim7.holds Tryz.pinned (.plain (OpenSpec.ofChange preludeTextSpec)) preludeTextCard

/-- THE TIED CARD OF 'lispproverlaw13.PreludeWorld'. -/
def preludeWorldCard : Claim7 := { stood := { row := preludeWorldRow, standIns := [], harness := (true, "8d50dbda3282e90473ecfe3e0d00286c6fd46359b28ddf805fab8eb7ce51765c"), looks := true }, kinds := [], alts := [], laidByText := true, laidKinds := [.data, .data, .data, .data, .sentinel, .sentinel, .listed, .data, .pinned], laidTests := true, laidLooks := .later }
def PreludeWorldCardSaid : Prop := Claim7.holds Tryz.pinned (.plain (OpenSpec.ofChange preludeWorldSpec)) preludeWorldCard

/-- THE TIED CARD OF 'lispproverlaw13.PreludeBegins'. -/
def preludeBeginsCard : Claim7 := { stood := { row := preludeBeginsRow, standIns := [], harness := (true, "8d50dbda3282e90473ecfe3e0d00286c6fd46359b28ddf805fab8eb7ce51765c"), looks := true }, kinds := [], alts := [], laidByText := true, laidKinds := [.data, .data, .data, .data, .sentinel, .sentinel, .listed, .data, .pinned], laidTests := true, laidLooks := .later }
def PreludeBeginsCardSaid : Prop := Claim7.holds Tryz.pinned (.plain (OpenSpec.ofChange preludeBeginsSpec)) preludeBeginsCard

/-- THE TIED CARD OF 'lispproverlaw13.PreludeRead'. -/
def preludeReadCard : Claim7 := { stood := { row := preludeReadRow, standIns := [], harness := (true, "8d50dbda3282e90473ecfe3e0d00286c6fd46359b28ddf805fab8eb7ce51765c"), looks := true }, kinds := [], alts := [], laidByText := true, laidKinds := [.data, .data, .data, .data, .sentinel, .sentinel, .listed, .data, .pinned], laidTests := true, laidLooks := .later }
def PreludeReadCardSaid : Prop := Claim7.holds Tryz.pinned (.plain (OpenSpec.ofChange preludeReadSpec)) preludeReadCard

/-- THE SECOND FORM's CARD OF 'lispproverlaw13.PreludeText'. -/
def preludeTextUptoCard : Claim7 := { stood := { row := preludeTextUptoRow, standIns := [], harness := (true, "8d50dbda3282e90473ecfe3e0d00286c6fd46359b28ddf805fab8eb7ce51765c"), looks := true }, kinds := [], alts := [], laidByText := true, laidKinds := [.data, .data, .data, .data, .sentinel, .sentinel, .listed, .data, .pinned], laidTests := true, laidLooks := .later }
def PreludeTextUptoCardSaid : Prop := Claim7.holds Tryz.pinned (.plain (OpenSpec.upto preludeTextSpec)) preludeTextUptoCard

/-- THE SECOND FORM's CARD OF 'lispproverlaw13.PreludeWorld'. -/
def preludeWorldUptoCard : Claim7 := { stood := { row := preludeWorldUptoRow, standIns := [], harness := (true, "8d50dbda3282e90473ecfe3e0d00286c6fd46359b28ddf805fab8eb7ce51765c"), looks := true }, kinds := [], alts := [], laidByText := true, laidKinds := [.data, .data, .data, .data, .sentinel, .sentinel, .listed, .data, .pinned], laidTests := true, laidLooks := .later }
def PreludeWorldUptoCardSaid : Prop := Claim7.holds Tryz.pinned (.plain (OpenSpec.upto preludeWorldSpec)) preludeWorldUptoCard

/-- THE SECOND FORM's CARD OF 'lispproverlaw13.PreludeBegins'. -/
def preludeBeginsUptoCard : Claim7 := { stood := { row := preludeBeginsUptoRow, standIns := [], harness := (true, "8d50dbda3282e90473ecfe3e0d00286c6fd46359b28ddf805fab8eb7ce51765c"), looks := true }, kinds := [], alts := [], laidByText := true, laidKinds := [.data, .data, .data, .data, .sentinel, .sentinel, .listed, .data, .pinned], laidTests := true, laidLooks := .later }
def PreludeBeginsUptoCardSaid : Prop := Claim7.holds Tryz.pinned (.plain (OpenSpec.upto preludeBeginsSpec)) preludeBeginsUptoCard

/-- THE SECOND FORM's CARD OF 'lispproverlaw13.PreludeRead'. -/
def preludeReadUptoCard : Claim7 := { stood := { row := preludeReadUptoRow, standIns := [], harness := (true, "8d50dbda3282e90473ecfe3e0d00286c6fd46359b28ddf805fab8eb7ce51765c"), looks := true }, kinds := [], alts := [], laidByText := true, laidKinds := [.data, .data, .data, .data, .sentinel, .sentinel, .listed, .data, .pinned], laidTests := true, laidLooks := .later }
def PreludeReadUptoCardSaid : Prop := Claim7.holds Tryz.pinned (.plain (OpenSpec.upto preludeReadSpec)) preludeReadUptoCard
end Rows
end Go.Proofs.YtdkfnkilkndmgaaGreatDoor
