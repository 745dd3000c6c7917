/- The program's world as typed data; the sanity check. -/
import Derived.Test.YtonniadanikanaaGreatDoorCYP
import Derived.Test.YtonniadanikanaaGreatDoorCRC
import Derived.Test.YtonniadanikanaaGreatDoorCRE
set_option linter.all false
namespace Go.Proofs.YtonniadanikanaaGreatDoor
open Go.Abs LQ
set_option maxRecDepth 100000
set_option maxHeartbeats 4000000
noncomputable section
theorem world_rows : chkRows (chkG 60) 32 w29 (preW.map Et.g) 0 = true := by kernel_rfl
theorem world0 : World0 := fun _ vs bs hv hb => by
 cases hv
 cases hb
 exact ⟨.ret WP, [], fun hok => RW_ok 23 [] [] _ _ world_eq hok, .ret _ _ (.sl 32 _ w29 0 29 rfl (chkRows_ok (chkG_ok 60) world_rows)), .nil⟩
theorem first0 : First0 := fun _ vs bs hv hb => by
 cases hv
 cases hb
 exact ⟨.ret (.bool true), [], fun hok => RW_ok 7 [] [] _ _ first_eq hok, .ret _ _ (.b true), .nil⟩
end
end Go.Proofs.YtonniadanikanaaGreatDoor
namespace Go.Proofs.YtonniadanikanaaGreatDoor
open Go.Abs LQ
noncomputable section
theorem less_known : Know 4 spRR := kLessLaw itoa_ok first0 (kVal world0 (kApply11 (kApply7 itoa_ok)))
end
end Go.Proofs.YtonniadanikanaaGreatDoor
