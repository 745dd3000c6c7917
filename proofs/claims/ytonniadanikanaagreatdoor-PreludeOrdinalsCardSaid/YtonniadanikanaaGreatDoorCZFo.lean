/- Closed facts of the card of 'lispproverlaw13.PreludeOrdinals', one by one (together they outgrow a process). -/
import Derived.Test.YtonniadanikanaaGreatDoorCZ1
set_option linter.all false
namespace Go.Proofs.YtonniadanikanaaGreatDoor
open Go.Abs Go.ChangeShapes Go.WideShapes Go.ChangeAt Go.WideMaps Go.WideElems Go.RowKit
set_option maxRecDepth 100000
theorem o_inPlace : Tryz.prog.inPlace 3 = Rows.preludeOrdinalsRow.inPlace := by kernel_rfl
theorem o_unfollowed : Tryz.prog.unfollowed 3 = true := by kernel_rfl
theorem o_recurses : Tryz.prog.recurses 3 = true := by kernel_rfl
theorem o_named : Tryz.prog.varsNamed 3 = Rows.preludeOrdinalsRow.named := by kernel_rfl
theorem o_mapsRowed : mapsRowed Tryz.prog = true := by kernel_rfl
theorem o_joined : joinedFacts Tryz.prog 3 Tryz.f3 Rows.preludeOrdinalsSpec Rows.preludeOrdinalsRow = true := by
 unfold joinedFacts
 rw [o_inPlace, o_unfollowed, o_recurses, o_named, laidOutP, o_mapsRowed]
 kernel_rfl
end Go.Proofs.YtonniadanikanaaGreatDoor
