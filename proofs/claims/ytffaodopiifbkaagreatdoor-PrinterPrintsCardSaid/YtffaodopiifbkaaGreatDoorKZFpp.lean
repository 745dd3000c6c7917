/- b0v facts of the card of 'lispproverlaw6.PrinterPrints', one by one (together they outgrow a process). -/
import Derived.Test.YtffaodopiifbkaaGreatDoorKZ1
set_option linter.all false
namespace Go.Proofs.YtffaodopiifbkaaGreatDoor
open Go.Abs Go.ChangeShapes Go.WideShapes Go.ChangeAt Go.WideMaps Go.WideElems Go.RowKit
set_option maxRecDepth 100000
theorem d0z:Tryz.prog.inPlace 10=Rows.printerPrintsRow.inPlace:=kR
theorem c0i:Tryz.prog.unfollowed 10=true:=kR
theorem c5r:Tryz.prog.recurses 10=true:=kR
theorem d9d:Tryz.prog.varsNamed 10=Rows.printerPrintsRow.named:=kR
theorem c31:mapsRowed Tryz.prog=true:=kR
theorem d3w:joinedFacts Tryz.prog 10 Tryz.f10 Rows.printerPrintsSpec Rows.printerPrintsRow=true:=by
 unfold joinedFacts
 rw [d0z,c0i,c5r,d9d,a81,c31]
 kernel_rfl
end Go.Proofs.YtffaodopiifbkaaGreatDoor
