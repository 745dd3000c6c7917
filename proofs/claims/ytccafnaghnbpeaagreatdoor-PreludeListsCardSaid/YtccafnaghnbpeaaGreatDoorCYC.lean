/- The program's world as typed data; the sanity check. -/
import Derived.Test.YtccafnaghnbpeaaGreatDoorCYP
import Derived.Test.YtccafnaghnbpeaaGreatDoorCRC
import Derived.Test.YtccafnaghnbpeaaGreatDoorCRE
set_option linter.all false
namespace Go.Proofs.YtccafnaghnbpeaaGreatDoor
open Go.Abs LQ
set_option maxRecDepth 100000
set_option maxHeartbeats 4000000
noncomputable section
theorem world_rows : chkRows (chkG 60) 32 w29 (preW.map Et.g) 0 = true := by kernel_rfl
theorem world0 : World0 := fun _ vs bs hv hb => by
 cases hv
 cases hb
 exact ⟨.ret WP, [], fun hok => RW_ok 15 [] [] _ _ world_eq hok, .ret _ _ (.sl 32 _ w29 0 29 rfl (chkRows_ok (chkG_ok 60) world_rows)), .nil⟩
theorem first0 : First0 := fun _ vs bs hv hb => by
 cases hv
 cases hb
 exact ⟨.ret (.bool true), [], fun hok => RW_ok 4 [] [] _ _ first_eq hok, .ret _ _ (.b true), .nil⟩
end
end Go.Proofs.YtccafnaghnbpeaaGreatDoor
namespace Go.Proofs.YtccafnaghnbpeaaGreatDoor
open Go.Abs LQ
noncomputable section
theorem val_knownL : Know 12 spVal := kVal world0 (kApply11 (kApply7 itoa_ok))
theorem lists_known : Know 3 spLists := kLists itoa_ok first0 val_knownL
end
end Go.Proofs.YtccafnaghnbpeaaGreatDoor
