/- Another closed fact of the card of 'lispproverlaw13.PreludeLists'. -/
import Derived.Test.YtccafnaghnbpeaaGreatDoorCZ1
set_option linter.all false
namespace Go.Proofs.YtccafnaghnbpeaaGreatDoor
open Go.Abs Go.ChangeShapes Go.WideShapes Go.ChangeAt Go.WideMaps Go.WideElems Go.RowKit
set_option maxRecDepth 100000
theorem l_goes : false = Rows.preludeListsRow.goesBy Tryz.prog := by kernel_rfl
end Go.Proofs.YtccafnaghnbpeaaGreatDoor
