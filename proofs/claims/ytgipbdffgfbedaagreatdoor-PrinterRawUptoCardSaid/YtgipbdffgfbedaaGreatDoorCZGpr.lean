/- Another closed fact of the card of 'lispproverlaw6.PrinterRaw'. -/
import Derived.Test.YtgipbdffgfbedaaGreatDoorCZ1
set_option linter.all false
namespace Go.Proofs.YtgipbdffgfbedaaGreatDoor
open Go.Abs Go.ChangeShapes Go.WideShapes Go.ChangeAt Go.WideMaps Go.WideElems Go.RowKit
set_option maxRecDepth 100000
theorem d9y:false=Rows.printerRawUptoRow.goesBy Tryz.prog:=kR
end Go.Proofs.YtgipbdffgfbedaaGreatDoor
