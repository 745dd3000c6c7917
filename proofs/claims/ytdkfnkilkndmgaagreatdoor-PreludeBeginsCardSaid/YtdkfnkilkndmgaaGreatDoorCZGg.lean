/- Another closed fact of the card of 'lispproverlaw13.PreludeBegins'. -/
import Derived.Test.YtdkfnkilkndmgaaGreatDoorCZ1
namespace Go.Proofs.YtdkfnkilkndmgaaGreatDoor
open Go.Abs Go.ChangeShapes Go.WideShapes Go.ChangeAt Go.WideMaps Go.WideElems Go.RowKit
set_option maxRecDepth 100000
theorem g_goes : false = Rows.preludeBeginsRow.goesBy Tryz.prog := by kernel_rfl
end Go.Proofs.YtdkfnkilkndmgaaGreatDoor
