/- Closed facts of the card of 'lispproverlaw13.PreludeWorld', one by one (together they outgrow a process). -/
import Derived.Test.YtdkfnkilkndmgaaGreatDoorCZ1
namespace Go.Proofs.YtdkfnkilkndmgaaGreatDoor
open Go.Abs Go.ChangeShapes Go.WideShapes Go.ChangeAt Go.WideMaps Go.WideElems Go.RowKit
set_option maxRecDepth 100000
theorem w_inPlace : Tryz.prog.inPlace 4 = Rows.preludeWorldRow.inPlace := by kernel_rfl
theorem w_unfollowed : Tryz.prog.unfollowed 4 = true := by kernel_rfl
theorem w_recurses : Tryz.prog.recurses 4 = true := by kernel_rfl
theorem w_named : Tryz.prog.varsNamed 4 = Rows.preludeWorldRow.named := by kernel_rfl
theorem w_laidOut : laidOutB Tryz.prog = true := by kernel_rfl
theorem w_mapsRowed : mapsRowed Tryz.prog = true := by kernel_rfl
theorem w_joined : joinedFacts Tryz.prog 4 Tryz.f4 Rows.preludeWorldSpec Rows.preludeWorldRow = true := by
  unfold joinedFacts
  rw [w_inPlace, w_unfollowed, w_recurses, w_named, w_laidOut, w_mapsRowed]
  kernel_rfl
end Go.Proofs.YtdkfnkilkndmgaaGreatDoor
