/- a5k facts of the card of 'lispproverlaw5.ReaderDeep', one by one (together they outgrow a process). -/
import Derived.Test.YtffaodopiifbkaaGreatDoorCZ1
set_option linter.all false
namespace Go.Proofs.YtffaodopiifbkaaGreatDoor
open Go.Abs Go.ChangeShapes Go.WideShapes Go.ChangeAt Go.WideMaps Go.WideElems Go.RowKit
set_option maxRecDepth 100000
theorem c9t:Tryz.prog.inPlace 7=Rows.readerDeepRow.inPlace:=kR
theorem c0r:Tryz.prog.unfollowed 7=true:=kR
theorem c6i:Tryz.prog.recurses 7=true:=kR
theorem d4d:Tryz.prog.varsNamed 7=Rows.readerDeepRow.named:=kR
theorem c4d:mapsRowed Tryz.prog=true:=kR
theorem d3v:joinedFacts Tryz.prog 7 Tryz.f7 Rows.readerDeepSpec Rows.readerDeepRow=true:=by
 unfold joinedFacts
 rw [c9t,c0r,c6i,d4d,a2e,c4d]
 kernel_rfl
end Go.Proofs.YtffaodopiifbkaaGreatDoor
