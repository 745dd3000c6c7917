/- b7t facts of the card of 'lispproverlaw11.EvaluateSubstitutes', one by one (together they outgrow a process). -/
import Derived.Test.YtkojildpddaccaaGreatDoorCZ1
set_option linter.all false
namespace Go.Proofs.YtkojildpddaccaaGreatDoor
open Go.Abs Go.ChangeShapes Go.WideShapes Go.ChangeAt Go.WideMaps Go.WideElems Go.RowKit
set_option maxRecDepth 100000
theorem d3p:Tryz.prog.inPlace 3=Rows.evaluateSubstitutesRow.inPlace:=kR
theorem c30:Tryz.prog.unfollowed 3=true:=kR
theorem c9k:Tryz.prog.recurses 3=true:=kR
theorem e1o:Tryz.prog.varsNamed 3=Rows.evaluateSubstitutesRow.named:=kR
theorem c6l:mapsRowed Tryz.prog=true:=kR
theorem d6q:joinedFacts Tryz.prog 3 Tryz.f3 Rows.evaluateSubstitutesSpec Rows.evaluateSubstitutesRow=true:=by
 unfold joinedFacts;rw [d3p,c30,c9k,e1o,b0y,c6l]
 kernel_rfl
end Go.Proofs.YtkojildpddaccaaGreatDoor
