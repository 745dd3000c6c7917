/- a5k facts of the card of 'lispproverlaw5.ReaderLong', one by one (together they outgrow a process). -/
import Derived.Test.YtffaodopiifbkaaGreatDoorCZ1
set_option linter.all false
namespace Go.Proofs.YtffaodopiifbkaaGreatDoor
open Go.Abs Go.ChangeShapes Go.WideShapes Go.ChangeAt Go.WideMaps Go.WideElems Go.RowKit
set_option maxRecDepth 100000
theorem d0g:Tryz.prog.inPlace 8=Rows.readerLongRow.inPlace:=kR
theorem c0s:Tryz.prog.unfollowed 8=true:=kR
theorem c56:Tryz.prog.recurses 8=true:=kR
theorem d5k:Tryz.prog.varsNamed 8=Rows.readerLongRow.named:=kR
theorem c25:mapsRowed Tryz.prog=true:=kR
theorem d24:joinedFacts Tryz.prog 8 Tryz.f8 Rows.readerLongSpec Rows.readerLongRow=true:=by
 unfold joinedFacts
 rw [d0g,c0s,c56,d5k,a2e,c25]
 kernel_rfl
end Go.Proofs.YtffaodopiifbkaaGreatDoor
