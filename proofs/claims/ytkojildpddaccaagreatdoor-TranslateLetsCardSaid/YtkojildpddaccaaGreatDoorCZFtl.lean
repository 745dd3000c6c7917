/- b5g facts of the card of 'lispproverlaw12.TranslateLets', one by one (together they outgrow a process). -/
import Derived.Test.YtkojildpddaccaaGreatDoorCZ1
set_option linter.all false
namespace Go.Proofs.YtkojildpddaccaaGreatDoor
open Go.Abs Go.ChangeShapes Go.WideShapes Go.ChangeAt Go.WideMaps Go.WideElems Go.RowKit
set_option maxRecDepth 100000
theorem d3v:Tryz.prog.inPlace 4=Rows.translateLetsRow.inPlace:=kR
theorem c1a:Tryz.prog.unfollowed 4=true:=kR
theorem c6u:Tryz.prog.recurses 4=true:=kR
theorem e4h:Tryz.prog.varsNamed 4=Rows.translateLetsRow.named:=kR
theorem c5n:mapsRowed Tryz.prog=true:=kR
theorem d8d:joinedFacts Tryz.prog 4 Tryz.f4 Rows.translateLetsSpec Rows.translateLetsRow=true:=by
 unfold joinedFacts
 rw [d3v,c1a,c6u,e4h,a5j,c5n]
 kernel_rfl
end Go.Proofs.YtkojildpddaccaaGreatDoor
