/- Closed facts of the card of 'lispproverlaw5.ReaderPrefix', one by one (together they outgrow a process). -/
import Derived.Test.YtffaodopiifbkaaGreatDoorCZ1
set_option linter.all false
namespace Go.Proofs.YtffaodopiifbkaaGreatDoor
open Go.Abs Go.ChangeShapes Go.WideShapes Go.ChangeAt Go.WideMaps Go.WideElems Go.RowKit
set_option maxRecDepth 100000
theorem rp_inPlace:Tryz.prog.inPlace 5=Rows.readerPrefixRow.inPlace:=by kernel_rfl
theorem rp_unfollowed:Tryz.prog.unfollowed 5=true:=by kernel_rfl
theorem rp_recurses:Tryz.prog.recurses 5=true:=by kernel_rfl
theorem rp_named:Tryz.prog.varsNamed 5=Rows.readerPrefixRow.named:=by kernel_rfl
theorem rp_mapsRowed:mapsRowed Tryz.prog=true:=by kernel_rfl
theorem rp_joined:joinedFacts Tryz.prog 5 Tryz.f5 Rows.readerPrefixSpec Rows.readerPrefixRow=true:=by
 unfold joinedFacts
 rw [rp_inPlace,rp_unfollowed,rp_recurses,rp_named,laidOutP,rp_mapsRowed]
 kernel_rfl
end Go.Proofs.YtffaodopiifbkaaGreatDoor
