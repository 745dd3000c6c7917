/- Another closed fact of the card of 'lispproverlaw13.PreludeCounts'. -/
import Derived.Test.YtonniadanikanaaGreatDoorCZ1
set_option linter.all false
namespace Go.Proofs.YtonniadanikanaaGreatDoor
open Go.Abs Go.ChangeShapes Go.WideShapes Go.ChangeAt Go.WideMaps Go.WideElems Go.RowKit
set_option maxRecDepth 100000
theorem c_goes : false = Rows.preludeCountsRow.goesBy Tryz.prog := by kernel_rfl
end Go.Proofs.YtonniadanikanaaGreatDoor
