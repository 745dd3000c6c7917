/- b4p facts of the card of 'lispproverlaw5.ReaderTokens', one by one (together they outgrow a process). -/
import Derived.Test.YtffaodopiifbkaaGreatDoorCZ1
set_option linter.all false
namespace Go.Proofs.YtffaodopiifbkaaGreatDoor
open Go.Abs Go.ChangeShapes Go.WideShapes Go.ChangeAt Go.WideMaps Go.WideElems Go.RowKit
set_option maxRecDepth 100000
theorem c7i:Tryz.prog.inPlace 4=Rows.readerTokensRow.inPlace:=by kernel_rfl
theorem b9u:Tryz.prog.unfollowed 4=true:=by kernel_rfl
theorem c37:Tryz.prog.recurses 4=true:=by kernel_rfl
theorem d3z:Tryz.prog.varsNamed 4=Rows.readerTokensRow.named:=by kernel_rfl
theorem c16:mapsRowed Tryz.prog=true:=by kernel_rfl
theorem c90:joinedFacts Tryz.prog 4 Tryz.f4 Rows.readerTokensSpec Rows.readerTokensRow=true:=by
 unfold joinedFacts
 rw [c7i,b9u,c37,d3z,d24,c16]
 kernel_rfl
end Go.Proofs.YtffaodopiifbkaaGreatDoor
