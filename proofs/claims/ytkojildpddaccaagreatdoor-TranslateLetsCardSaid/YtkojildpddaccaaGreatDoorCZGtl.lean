/- Another closed fact of the card of 'lispproverlaw12.TranslateLets'. -/
import Derived.Test.YtkojildpddaccaaGreatDoorCZ1
set_option linter.all false
namespace Go.Proofs.YtkojildpddaccaaGreatDoor
open Go.Abs Go.ChangeShapes Go.WideShapes Go.ChangeAt Go.WideMaps Go.WideElems Go.RowKit
set_option maxRecDepth 100000
theorem f3k:false=Rows.translateLetsRow.goesBy Tryz.prog:=kR
end Go.Proofs.YtkojildpddaccaaGreatDoor
