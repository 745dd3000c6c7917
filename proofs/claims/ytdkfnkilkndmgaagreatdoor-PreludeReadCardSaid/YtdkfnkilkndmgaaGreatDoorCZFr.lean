/- Closed facts of the card of 'lispproverlaw13.PreludeRead', one by one (together they outgrow a process). -/
import Derived.Test.YtdkfnkilkndmgaaGreatDoorCZ1
namespace Go.Proofs.YtdkfnkilkndmgaaGreatDoor
open Go.Abs Go.ChangeShapes Go.WideShapes Go.ChangeAt Go.WideMaps Go.WideElems Go.RowKit
set_option maxRecDepth 100000
theorem r_inPlace : Tryz.prog.inPlace 6 = Rows.preludeReadRow.inPlace := by kernel_rfl
theorem r_unfollowed : Tryz.prog.unfollowed 6 = true := by kernel_rfl
theorem r_recurses : Tryz.prog.recurses 6 = true := by kernel_rfl
theorem r_named : Tryz.prog.varsNamed 6 = Rows.preludeReadRow.named := by kernel_rfl
theorem r_laidOut : laidOutB Tryz.prog = true := by kernel_rfl
theorem r_mapsRowed : mapsRowed Tryz.prog = true := by kernel_rfl
theorem r_joined : joinedFacts Tryz.prog 6 Tryz.f6 Rows.preludeReadSpec Rows.preludeReadRow = true := by
  unfold joinedFacts
  rw [r_inPlace, r_unfollowed, r_recurses, r_named, r_laidOut, r_mapsRowed]
  kernel_rfl
end Go.Proofs.YtdkfnkilkndmgaaGreatDoor
