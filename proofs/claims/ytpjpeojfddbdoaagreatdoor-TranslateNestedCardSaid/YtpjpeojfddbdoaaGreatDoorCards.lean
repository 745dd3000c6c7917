/-
  DERIVED. GIVEN WITH THE SEED: THE CARDS: each row of YtpjpeojfddbdoaaGreatDoorRows.lean that lists a variable, with what it lists TIED to the program's text (the seventh form; the later family's looks); each row that meets fmt, with fmt's text TOLD by the authors' own Lean function (tested against real Go, not proved from fmt's source: count such statements apart). THE CARD IS WHAT COUNTS. Prove the row's statement (the work); the ties are given (YtpjpeojfddbdoaaGreatDoorTie.lean); close each card by the builder's one call (the guide's Derived/Test/ToyasCard.lean, 'card_holds'). Laid BY PROGRAM, IN A SANDBOX (cutbox-door.mjs). By AI agents, Wed Nov 11 2026. No macro, syntax, notation, axiom, sorry.
-/
import Derived.Test.YtpjpeojfddbdoaaGreatDoorRows
import GoSem.ClaimSeven
namespace Go.Proofs.YtpjpeojfddbdoaaGreatDoor
namespace Rows

/-- THE TIED CARD OF 'lispproverlaw12.TranslateNested'. -/
def translateNestedCard : Claim7 := { stood := { row := translateNestedRow, standIns := [], harness := (true, "0967beff842ebb949404d52e8cd2ec7562e977636c41e73aa580fca70ed79c51"), looks := true }, kinds := [], alts := [], laidByText := true, laidKinds := [.data, .data, .data, .sentinel, .sentinel], laidTests := true, laidLooks := .later }
def TranslateNestedCardSaid : Prop := Claim7.holds Tryz.pinned (.plain (OpenSpec.ofChange translateNestedSpec)) translateNestedCard

/-- THE TIED CARD OF 'lispproverlaw12.TranslateLimit'. -/
def translateLimitCard : Claim7 := { stood := { row := translateLimitRow, standIns := [], harness := (true, "0967beff842ebb949404d52e8cd2ec7562e977636c41e73aa580fca70ed79c51"), looks := true }, kinds := [], alts := [], laidByText := true, laidKinds := [.data, .data, .data, .sentinel, .sentinel], laidTests := true, laidLooks := .later }
def TranslateLimitCardSaid : Prop := Claim7.holds Tryz.pinned (.plain (OpenSpec.ofChange translateLimitSpec)) translateLimitCard

/-- THE SECOND FORM's CARD OF 'lispproverlaw12.TranslateNested'. -/
def translateNestedUptoCard : Claim7 := { stood := { row := translateNestedUptoRow, standIns := [], harness := (true, "0967beff842ebb949404d52e8cd2ec7562e977636c41e73aa580fca70ed79c51"), looks := true }, kinds := [], alts := [], laidByText := true, laidKinds := [.data, .data, .data, .sentinel, .sentinel], laidTests := true, laidLooks := .later }
def TranslateNestedUptoCardSaid : Prop := Claim7.holds Tryz.pinned (.plain (OpenSpec.upto translateNestedSpec)) translateNestedUptoCard

/-- THE SECOND FORM's CARD OF 'lispproverlaw12.TranslateLimit'. -/
def translateLimitUptoCard : Claim7 := { stood := { row := translateLimitUptoRow, standIns := [], harness := (true, "0967beff842ebb949404d52e8cd2ec7562e977636c41e73aa580fca70ed79c51"), looks := true }, kinds := [], alts := [], laidByText := true, laidKinds := [.data, .data, .data, .sentinel, .sentinel], laidTests := true, laidLooks := .later }
def TranslateLimitUptoCardSaid : Prop := Claim7.holds Tryz.pinned (.plain (OpenSpec.upto translateLimitSpec)) translateLimitUptoCard
end Rows
end Go.Proofs.YtpjpeojfddbdoaaGreatDoor
