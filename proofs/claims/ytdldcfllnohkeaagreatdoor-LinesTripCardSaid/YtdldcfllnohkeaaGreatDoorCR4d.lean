/- The reference's numbers: products. -/
import Derived.Test.YtdldcfllnohkeaaGreatDoorCR4c
set_option linter.all false
namespace Go.Proofs.YtdldcfllnohkeaaGreatDoor
open Go.Abs LQ
set_option maxRecDepth 100000
set_option maxHeartbeats 4000000
noncomputable section
end
end Go.Proofs.YtdldcfllnohkeaaGreatDoor
