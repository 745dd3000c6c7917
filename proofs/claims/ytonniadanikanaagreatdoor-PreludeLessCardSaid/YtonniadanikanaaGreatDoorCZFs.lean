/- Closed facts of the card of 'lispproverlaw13.PreludeLess', one by one (together they outgrow a process). -/
import Derived.Test.YtonniadanikanaaGreatDoorCZ1
set_option linter.all false
namespace Go.Proofs.YtonniadanikanaaGreatDoor
open Go.Abs Go.ChangeShapes Go.WideShapes Go.ChangeAt Go.WideMaps Go.WideElems Go.RowKit
set_option maxRecDepth 100000
theorem s_inPlace : Tryz.prog.inPlace 4 = Rows.preludeLessRow.inPlace := by kernel_rfl
theorem s_unfollowed : Tryz.prog.unfollowed 4 = true := by kernel_rfl
theorem s_recurses : Tryz.prog.recurses 4 = true := by kernel_rfl
theorem s_named : Tryz.prog.varsNamed 4 = Rows.preludeLessRow.named := by kernel_rfl
theorem s_mapsRowed : mapsRowed Tryz.prog = true := by kernel_rfl
theorem s_joined : joinedFacts Tryz.prog 4 Tryz.f4 Rows.preludeLessSpec Rows.preludeLessRow = true := by
 unfold joinedFacts
 rw [s_inPlace, s_unfollowed, s_recurses, s_named, laidOutP, s_mapsRowed]
 kernel_rfl
end Go.Proofs.YtonniadanikanaaGreatDoor
