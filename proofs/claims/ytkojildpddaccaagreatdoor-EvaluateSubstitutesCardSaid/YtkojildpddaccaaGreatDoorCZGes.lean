/- Another closed fact of the card of 'lispproverlaw11.EvaluateSubstitutes'. -/
import Derived.Test.YtkojildpddaccaaGreatDoorCZ1
set_option linter.all false
namespace Go.Proofs.YtkojildpddaccaaGreatDoor
open Go.Abs Go.ChangeShapes Go.WideShapes Go.ChangeAt Go.WideMaps Go.WideElems Go.RowKit
set_option maxRecDepth 100000
theorem e7c:false=Rows.evaluateSubstitutesRow.goesBy Tryz.prog:=kR
end Go.Proofs.YtkojildpddaccaaGreatDoor
