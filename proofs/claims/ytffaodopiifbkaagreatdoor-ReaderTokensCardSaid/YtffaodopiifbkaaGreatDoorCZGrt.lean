/- Another closed fact of the card of 'lispproverlaw5.ReaderTokens'. -/
import Derived.Test.YtffaodopiifbkaaGreatDoorCZ1
set_option linter.all false
namespace Go.Proofs.YtffaodopiifbkaaGreatDoor
open Go.Abs Go.ChangeShapes Go.WideShapes Go.ChangeAt Go.WideMaps Go.WideElems Go.RowKit
set_option maxRecDepth 100000
theorem d8j:false=Rows.readerTokensRow.goesBy Tryz.prog:=by kernel_rfl
end Go.Proofs.YtffaodopiifbkaaGreatDoor
