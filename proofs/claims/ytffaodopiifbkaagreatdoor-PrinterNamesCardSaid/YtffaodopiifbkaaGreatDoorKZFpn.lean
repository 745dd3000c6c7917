/- b0v facts of the card of 'lispproverlaw6.PrinterNames', one by one (together they outgrow a process). -/
import Derived.Test.YtffaodopiifbkaaGreatDoorKZ1
set_option linter.all false
namespace Go.Proofs.YtffaodopiifbkaaGreatDoor
open Go.Abs Go.ChangeShapes Go.WideShapes Go.ChangeAt Go.WideMaps Go.WideElems Go.RowKit
set_option maxRecDepth 100000
theorem c9e:Tryz.prog.inPlace 9=Rows.printerNamesRow.inPlace:=kR
theorem c0j:Tryz.prog.unfollowed 9=true:=kR
theorem c5x:Tryz.prog.recurses 9=true:=kR
theorem d83:Tryz.prog.varsNamed 9=Rows.printerNamesRow.named:=kR
theorem c1y:mapsRowed Tryz.prog=true:=kR
theorem d4h:joinedFacts Tryz.prog 9 Tryz.f9 Rows.printerNamesSpec Rows.printerNamesRow=true:=by
 unfold joinedFacts
 rw [c9e,c0j,c5x,d83,a81,c1y]
 kernel_rfl
end Go.Proofs.YtffaodopiifbkaaGreatDoor
