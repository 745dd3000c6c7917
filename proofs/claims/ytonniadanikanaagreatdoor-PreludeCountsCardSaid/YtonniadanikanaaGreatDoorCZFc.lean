/- Closed facts of the card of 'lispproverlaw13.PreludeCounts', one by one (together they outgrow a process). -/
import Derived.Test.YtonniadanikanaaGreatDoorCZ1
set_option linter.all false
namespace Go.Proofs.YtonniadanikanaaGreatDoor
open Go.Abs Go.ChangeShapes Go.WideShapes Go.ChangeAt Go.WideMaps Go.WideElems Go.RowKit
set_option maxRecDepth 100000
theorem c_inPlace : Tryz.prog.inPlace 5 = Rows.preludeCountsRow.inPlace := by kernel_rfl
theorem c_unfollowed : Tryz.prog.unfollowed 5 = true := by kernel_rfl
theorem c_recurses : Tryz.prog.recurses 5 = true := by kernel_rfl
theorem c_named : Tryz.prog.varsNamed 5 = Rows.preludeCountsRow.named := by kernel_rfl
theorem c_mapsRowed : mapsRowed Tryz.prog = true := by kernel_rfl
theorem c_joined : joinedFacts Tryz.prog 5 Tryz.f5 Rows.preludeCountsSpec Rows.preludeCountsRow = true := by
 unfold joinedFacts
 rw [c_inPlace, c_unfollowed, c_recurses, c_named, laidOutP, c_mapsRowed]
 kernel_rfl
end Go.Proofs.YtonniadanikanaaGreatDoor
