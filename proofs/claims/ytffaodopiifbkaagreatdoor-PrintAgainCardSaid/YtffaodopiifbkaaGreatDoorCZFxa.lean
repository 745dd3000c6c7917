/- a97 facts of the card of 'lispproverlaw6.PrintAgain', one by one (together they outgrow a process). -/
import Derived.Test.YtffaodopiifbkaaGreatDoorCJxa
import Derived.Test.YtffaodopiifbkaaGreatDoorCZ1
set_option linter.all false
namespace Go.Proofs.YtffaodopiifbkaaGreatDoor
open Go.Abs Go.ChangeShapes Go.WideShapes Go.ChangeAt Go.WideMaps Go.WideElems Go.RowKit
set_option maxRecDepth 100000
theorem d5j:Tryz.prog.inPlace 15=Rows.printAgainRow.inPlace:=kR
theorem c3u:Tryz.prog.unfollowed 15=true:=kR
theorem c9z:Tryz.prog.recurses 15=true:=kR
theorem e4m:Tryz.prog.varsNamed 15=Rows.printAgainRow.named:=kR
theorem c7i:mapsRowed Tryz.prog=true:=kR
theorem d6q:joinedFacts Tryz.prog 15 Tryz.f15 Rows.printAgainSpec Rows.printAgainRow=true:=by
 unfold joinedFacts
 rw [d5j,c3u,c9z,e4m,b08,c7i]
 kernel_rfl
end Go.Proofs.YtffaodopiifbkaaGreatDoor
