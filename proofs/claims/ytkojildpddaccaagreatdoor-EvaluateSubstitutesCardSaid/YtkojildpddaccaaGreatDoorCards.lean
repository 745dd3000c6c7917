/-
  DERIVED. GIVEN WITH THE SEED: THE CARDS: each row of YtkojildpddaccaaGreatDoorRows.lean that lists a variable, with what it lists TIED to the program's text (the seventh form; the later family's looks); each row that meets fmt, with fmt's text TOLD by the authors' own Lean function (tested against real Go, not proved from fmt's source: count such statements apart). THE CARD IS WHAT COUNTS. Prove the row's statement (the work); the ties are given (YtkojildpddaccaaGreatDoorTie.lean); close each card by the builder's one call (the guide's Derived/Test/ToyasCard.lean, 'card_holds'). Laid BY PROGRAM, IN A SANDBOX (cutbox-door.mjs). By AI agents, Wed Nov 11 2026. No macro, syntax, notation, axiom, sorry.
-/
import Derived.Test.YtkojildpddaccaaGreatDoorRows
import GoSem.ClaimSeven
namespace Go.Proofs.YtkojildpddaccaaGreatDoor
namespace Rows

/-- THE TIED CARD OF 'lispproverlaw11.EvaluateSubstitutes'. -/
def evaluateSubstitutesCard : Claim7 := { stood := { row := evaluateSubstitutesRow, standIns := [], harness := (true, "ea8ab358e801f3dc3ad01d7a05a435c513e62a207b18b8202ab4f85e1ba88e31"), looks := true }, kinds := [], alts := [], laidByText := true, laidKinds := [.data, .data, .data, .sentinel, .sentinel], laidTests := true, laidLooks := .later }
def EvaluateSubstitutesCardSaid : Prop := Claim7.holds Tryz.pinned (.plain (OpenSpec.ofChange evaluateSubstitutesSpec)) evaluateSubstitutesCard

/-- THE TIED CARD OF 'lispproverlaw12.TranslateLets'. -/
def translateLetsCard : Claim7 := { stood := { row := translateLetsRow, standIns := [], harness := (true, "ea8ab358e801f3dc3ad01d7a05a435c513e62a207b18b8202ab4f85e1ba88e31"), looks := true }, kinds := [], alts := [], laidByText := true, laidKinds := [.data, .data, .data, .sentinel, .sentinel], laidTests := true, laidLooks := .later }
def TranslateLetsCardSaid : Prop := Claim7.holds Tryz.pinned (.plain (OpenSpec.ofChange translateLetsSpec)) translateLetsCard

/-- THE SECOND FORM's CARD OF 'lispproverlaw11.EvaluateSubstitutes'. -/
def evaluateSubstitutesUptoCard : Claim7 := { stood := { row := evaluateSubstitutesUptoRow, standIns := [], harness := (true, "ea8ab358e801f3dc3ad01d7a05a435c513e62a207b18b8202ab4f85e1ba88e31"), looks := true }, kinds := [], alts := [], laidByText := true, laidKinds := [.data, .data, .data, .sentinel, .sentinel], laidTests := true, laidLooks := .later }
def EvaluateSubstitutesUptoCardSaid : Prop := Claim7.holds Tryz.pinned (.plain (OpenSpec.upto evaluateSubstitutesSpec)) evaluateSubstitutesUptoCard

/-- THE SECOND FORM's CARD OF 'lispproverlaw12.TranslateLets'. -/
def translateLetsUptoCard : Claim7 := { stood := { row := translateLetsUptoRow, standIns := [], harness := (true, "ea8ab358e801f3dc3ad01d7a05a435c513e62a207b18b8202ab4f85e1ba88e31"), looks := true }, kinds := [], alts := [], laidByText := true, laidKinds := [.data, .data, .data, .sentinel, .sentinel], laidTests := true, laidLooks := .later }
def TranslateLetsUptoCardSaid : Prop := Claim7.holds Tryz.pinned (.plain (OpenSpec.upto translateLetsSpec)) translateLetsUptoCard
end Rows
end Go.Proofs.YtkojildpddaccaaGreatDoor
