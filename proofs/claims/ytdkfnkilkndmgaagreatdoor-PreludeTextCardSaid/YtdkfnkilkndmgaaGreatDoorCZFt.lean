/- Closed facts of the card of 'lispproverlaw13.PreludeText', one by one (together they outgrow a process). -/
import Derived.Test.YtdkfnkilkndmgaaGreatDoorCZ1
namespace Go.Proofs.YtdkfnkilkndmgaaGreatDoor
open Go.Abs Go.ChangeShapes Go.WideShapes Go.ChangeAt Go.WideMaps Go.WideElems Go.RowKit
set_option maxRecDepth 100000
theorem t_inPlace : Tryz.prog.inPlace 3 = Rows.preludeTextRow.inPlace := by kernel_rfl
theorem t_unfollowed : Tryz.prog.unfollowed 3 = true := by kernel_rfl
theorem t_recurses : Tryz.prog.recurses 3 = true := by kernel_rfl
theorem t_named : Tryz.prog.varsNamed 3 = Rows.preludeTextRow.named := by kernel_rfl
theorem t_laidOut : laidOutB Tryz.prog = true := by kernel_rfl
theorem t_mapsRowed : mapsRowed Tryz.prog = true := by kernel_rfl
theorem t_joined : joinedFacts Tryz.prog 3 Tryz.f3 Rows.preludeTextSpec Rows.preludeTextRow = true := by
  unfold joinedFacts
  rw [t_inPlace, t_unfollowed, t_recurses, t_named, t_laidOut, t_mapsRowed]
  kernel_rfl
end Go.Proofs.YtdkfnkilkndmgaaGreatDoor
