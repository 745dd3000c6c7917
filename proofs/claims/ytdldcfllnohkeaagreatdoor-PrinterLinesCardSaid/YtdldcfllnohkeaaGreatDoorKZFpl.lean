/- b41 facts of the card of 'lispproverlaw6.PrinterLines', one by one (together they outgrow a process). -/
import Derived.Test.YtdldcfllnohkeaaGreatDoorKZ1
set_option linter.all false
namespace Go.Proofs.YtdldcfllnohkeaaGreatDoor
open Go.Abs Go.ChangeShapes Go.WideShapes Go.ChangeAt Go.WideMaps Go.WideElems Go.RowKit
set_option maxRecDepth 100000
theorem d1f:Tryz.prog.inPlace 4=Rows.printerLinesRow.inPlace:=kR
theorem c1a:Tryz.prog.unfollowed 4=true:=kR
theorem c6s:Tryz.prog.recurses 4=true:=kR
theorem d8f:Tryz.prog.varsNamed 4=Rows.printerLinesRow.named:=kR
theorem c4m:mapsRowed Tryz.prog=true:=kR
theorem d4u:joinedFacts Tryz.prog 4 Tryz.f4 Rows.printerLinesSpec Rows.printerLinesRow=true:=by
 unfold joinedFacts
 rw [d1f,c1a,c6s,d8f,c3o,c4m]
 kernel_rfl
end Go.Proofs.YtdldcfllnohkeaaGreatDoor
