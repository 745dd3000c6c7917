/- Another closed fact of the card of 'lispproverlaw6.PrinterPrints'. -/
import Derived.Test.YtffaodopiifbkaaGreatDoorKZ1
set_option linter.all false
namespace Go.Proofs.YtffaodopiifbkaaGreatDoor
open Go.Abs Go.ChangeShapes Go.WideShapes Go.ChangeAt Go.WideMaps Go.WideElems Go.RowKit
set_option maxRecDepth 100000
theorem e2e:false=Rows.printerPrintsRow.goesBy Tryz.prog:=kR
end Go.Proofs.YtffaodopiifbkaaGreatDoor
