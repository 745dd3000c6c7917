/- a97 facts of the card of 'lispproverlaw6.RoundTrip', one by one (together they outgrow a process). -/
import Derived.Test.YtffaodopiifbkaaGreatDoorCJxt
set_option linter.all false
namespace Go.Proofs.YtffaodopiifbkaaGreatDoor
open Go.Abs Go.ChangeShapes Go.WideShapes Go.ChangeAt Go.WideMaps Go.WideElems Go.RowKit
set_option maxRecDepth 100000
theorem d37:Tryz.prog.inPlace 13=Rows.roundTripRow.inPlace:=kR
theorem c32:Tryz.prog.unfollowed 13=true:=kR
theorem c9i:Tryz.prog.recurses 13=true:=kR
theorem e26:Tryz.prog.varsNamed 13=Rows.roundTripRow.named:=kR
theorem c8w:mapsRowed Tryz.prog=true:=kR
theorem d86:joinedFacts Tryz.prog 13 Tryz.f13 Rows.roundTripSpec Rows.roundTripRow=true:=by
 unfold joinedFacts
 rw [d37,c32,c9i,e26,b08,c8w]
 kernel_rfl
end Go.Proofs.YtffaodopiifbkaaGreatDoor
