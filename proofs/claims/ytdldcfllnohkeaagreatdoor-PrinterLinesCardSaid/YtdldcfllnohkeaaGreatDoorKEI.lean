/- The program's reader: objects from D5. -/
import Derived.Test.YtdldcfllnohkeaaGreatDoorKEH
set_option linter.all false
namespace Go.Abs
end Go.Abs
namespace Go.Proofs.YtdldcfllnohkeaaGreatDoor
open Go.Abs LQ
set_option maxRecDepth 100000
set_option maxHeartbeats 8000000
noncomputable section
set_option maxHeartbeats 16000000
section
variable (hst:j3 179 a1w)
end
end
end Go.Proofs.YtdldcfllnohkeaaGreatDoor
