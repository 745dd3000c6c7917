/- Closed facts of the card of 'lispproverlaw13.PreludeBegins', one by one (together they outgrow a process). -/
import Derived.Test.YtdkfnkilkndmgaaGreatDoorCZ1
namespace Go.Proofs.YtdkfnkilkndmgaaGreatDoor
open Go.Abs Go.ChangeShapes Go.WideShapes Go.ChangeAt Go.WideMaps Go.WideElems Go.RowKit
set_option maxRecDepth 100000
theorem g_inPlace : Tryz.prog.inPlace 5 = Rows.preludeBeginsRow.inPlace := by kernel_rfl
theorem g_unfollowed : Tryz.prog.unfollowed 5 = true := by kernel_rfl
theorem g_recurses : Tryz.prog.recurses 5 = true := by kernel_rfl
theorem g_named : Tryz.prog.varsNamed 5 = Rows.preludeBeginsRow.named := by kernel_rfl
theorem g_laidOut : laidOutB Tryz.prog = true := by kernel_rfl
theorem g_mapsRowed : mapsRowed Tryz.prog = true := by kernel_rfl
theorem g_joined : joinedFacts Tryz.prog 5 Tryz.f5 Rows.preludeBeginsSpec Rows.preludeBeginsRow = true := by
  unfold joinedFacts
  rw [g_inPlace, g_unfollowed, g_recurses, g_named, g_laidOut, g_mapsRowed]
  kernel_rfl
end Go.Proofs.YtdkfnkilkndmgaaGreatDoor
