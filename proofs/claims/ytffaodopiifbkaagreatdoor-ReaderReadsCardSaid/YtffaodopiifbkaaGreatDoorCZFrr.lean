/- a5k facts of the card of 'lispproverlaw5.ReaderReads', one by one (together they outgrow a process). -/
import Derived.Test.YtffaodopiifbkaaGreatDoorCZ1
set_option linter.all false
namespace Go.Proofs.YtffaodopiifbkaaGreatDoor
open Go.Abs Go.ChangeShapes Go.WideShapes Go.ChangeAt Go.WideMaps Go.WideElems Go.RowKit
set_option maxRecDepth 100000
theorem c80:Tryz.prog.inPlace 6=Rows.readerReadsRow.inPlace:=kR
theorem c0x:Tryz.prog.unfollowed 6=true:=kR
theorem c5r:Tryz.prog.recurses 6=true:=kR
theorem d6a:Tryz.prog.varsNamed 6=Rows.readerReadsRow.named:=kR
theorem c48:mapsRowed Tryz.prog=true:=kR
theorem d1j:joinedFacts Tryz.prog 6 Tryz.f6 Rows.readerReadsSpec Rows.readerReadsRow=true:=by
 unfold joinedFacts
 rw [c80,c0x,c5r,d6a,a2e,c48]
 kernel_rfl
end Go.Proofs.YtffaodopiifbkaaGreatDoor
