/- Another closed fact of the card of 'lispproverlaw6.PrinterLines'. -/
import Derived.Test.YtdldcfllnohkeaaGreatDoorKZ1
set_option linter.all false
namespace Go.Proofs.YtdldcfllnohkeaaGreatDoor
open Go.Abs Go.ChangeShapes Go.WideShapes Go.ChangeAt Go.WideMaps Go.WideElems Go.RowKit
set_option maxRecDepth 100000
theorem e4f:false=Rows.printerLinesRow.goesBy Tryz.prog:=kR
end Go.Proofs.YtdldcfllnohkeaaGreatDoor
