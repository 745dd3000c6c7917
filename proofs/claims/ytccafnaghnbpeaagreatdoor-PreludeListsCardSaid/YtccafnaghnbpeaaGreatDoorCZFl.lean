/- Closed facts of the card of 'lispproverlaw13.PreludeLists', one by one (together they outgrow a process). -/
import Derived.Test.YtccafnaghnbpeaaGreatDoorCZ1
set_option linter.all false
namespace Go.Proofs.YtccafnaghnbpeaaGreatDoor
open Go.Abs Go.ChangeShapes Go.WideShapes Go.ChangeAt Go.WideMaps Go.WideElems Go.RowKit
set_option maxRecDepth 100000
theorem l_inPlace : Tryz.prog.inPlace 3 = Rows.preludeListsRow.inPlace := by kernel_rfl
theorem l_unfollowed : Tryz.prog.unfollowed 3 = true := by kernel_rfl
theorem l_recurses : Tryz.prog.recurses 3 = true := by kernel_rfl
theorem l_named : Tryz.prog.varsNamed 3 = Rows.preludeListsRow.named := by kernel_rfl
theorem l_mapsRowed : mapsRowed Tryz.prog = true := by kernel_rfl
theorem l_joined : joinedFacts Tryz.prog 3 Tryz.f3 Rows.preludeListsSpec Rows.preludeListsRow = true := by
 unfold joinedFacts
 rw [l_inPlace, l_unfollowed, l_recurses, l_named, laidOutP, l_mapsRowed]
 kernel_rfl
end Go.Proofs.YtccafnaghnbpeaaGreatDoor
