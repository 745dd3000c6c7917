/- a97 facts of the card of 'lispproverlaw6.NamesTrip', one by one (together they outgrow a process). -/
import Derived.Test.YtffaodopiifbkaaGreatDoorCJxn
import Derived.Test.YtffaodopiifbkaaGreatDoorCZ1
set_option linter.all false
namespace Go.Proofs.YtffaodopiifbkaaGreatDoor
open Go.Abs Go.ChangeShapes Go.WideShapes Go.ChangeAt Go.WideMaps Go.WideElems Go.RowKit
set_option maxRecDepth 100000
theorem d4q:Tryz.prog.inPlace 14=Rows.namesTripRow.inPlace:=kR
theorem c36:Tryz.prog.unfollowed 14=true:=kR
theorem c9a:Tryz.prog.recurses 14=true:=kR
theorem e1r:Tryz.prog.varsNamed 14=Rows.namesTripRow.named:=kR
theorem c7a:mapsRowed Tryz.prog=true:=kR
theorem d7h:joinedFacts Tryz.prog 14 Tryz.f14 Rows.namesTripSpec Rows.namesTripRow=true:=by
 unfold joinedFacts
 rw [d4q,c36,c9a,e1r,b08,c7a]
 kernel_rfl
end Go.Proofs.YtffaodopiifbkaaGreatDoor
