/- a5k facts of the card of 'lispproverlaw5.ReaderOnes', one by one (together they outgrow a process). -/
import Derived.Test.YtffaodopiifbkaaGreatDoorCZ1
set_option linter.all false
namespace Go.Proofs.YtffaodopiifbkaaGreatDoor
open Go.Abs Go.ChangeShapes Go.WideShapes Go.ChangeAt Go.WideMaps Go.WideElems Go.RowKit
set_option maxRecDepth 100000
theorem d0s:Tryz.prog.inPlace 3=Rows.readerOnesRow.inPlace:=kR
theorem c0k:Tryz.prog.unfollowed 3=true:=kR
theorem c59:Tryz.prog.recurses 3=true:=kR
theorem d7b:Tryz.prog.varsNamed 3=Rows.readerOnesRow.named:=kR
theorem c4p:mapsRowed Tryz.prog=true:=kR
theorem d18:joinedFacts Tryz.prog 3 Tryz.f3 Rows.readerOnesSpec Rows.readerOnesRow=true:=by
 unfold joinedFacts
 rw [d0s,c0k,c59,d7b,a2e,c4p]
 kernel_rfl
end Go.Proofs.YtffaodopiifbkaaGreatDoor
