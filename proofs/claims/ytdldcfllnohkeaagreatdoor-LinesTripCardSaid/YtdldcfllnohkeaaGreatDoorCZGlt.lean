/- Another closed fact of the card of 'lispproverlaw6.LinesTrip'. -/
import Derived.Test.YtdldcfllnohkeaaGreatDoorCZ1
set_option linter.all false
namespace Go.Proofs.YtdldcfllnohkeaaGreatDoor
open Go.Abs Go.ChangeShapes Go.WideShapes Go.ChangeAt Go.WideMaps Go.WideElems Go.RowKit
set_option maxRecDepth 100000
theorem e67:false=Rows.linesTripRow.goesBy Tryz.prog:=kR
end Go.Proofs.YtdldcfllnohkeaaGreatDoor
