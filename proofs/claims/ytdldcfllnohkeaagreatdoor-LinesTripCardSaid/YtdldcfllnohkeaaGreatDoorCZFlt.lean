/- b66 facts of the card of 'lispproverlaw6.LinesTrip', one by one (together they outgrow a process). -/
import Derived.Test.YtdldcfllnohkeaaGreatDoorCZ1
set_option linter.all false
namespace Go.Proofs.YtdldcfllnohkeaaGreatDoor
open Go.Abs Go.ChangeShapes Go.WideShapes Go.ChangeAt Go.WideMaps Go.WideElems Go.RowKit
set_option maxRecDepth 100000
theorem d35:Tryz.prog.inPlace 5=Rows.linesTripRow.inPlace:=kR
theorem c30:Tryz.prog.unfollowed 5=true:=kR
theorem c9p:Tryz.prog.recurses 5=true:=kR
theorem e0t:Tryz.prog.varsNamed 5=Rows.linesTripRow.named:=kR
theorem c6v:mapsRowed Tryz.prog=true:=kR
theorem d69:joinedFacts Tryz.prog 5 Tryz.f5 Rows.linesTripSpec Rows.linesTripRow=true:=by
 unfold joinedFacts
 rw [d35,c30,c9p,e0t,c6i,c6v]
 kernel_rfl
end Go.Proofs.YtdldcfllnohkeaaGreatDoor
