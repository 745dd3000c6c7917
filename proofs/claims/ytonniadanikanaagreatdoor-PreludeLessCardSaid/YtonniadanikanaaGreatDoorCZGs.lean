/- Another closed fact of the card of 'lispproverlaw13.PreludeLess'. -/
import Derived.Test.YtonniadanikanaaGreatDoorCZ1
set_option linter.all false
namespace Go.Proofs.YtonniadanikanaaGreatDoor
open Go.Abs Go.ChangeShapes Go.WideShapes Go.ChangeAt Go.WideMaps Go.WideElems Go.RowKit
set_option maxRecDepth 100000
theorem s_goes : false = Rows.preludeLessRow.goesBy Tryz.prog := by kernel_rfl
end Go.Proofs.YtonniadanikanaaGreatDoor
