/- What definitions gives. -/
import Derived.Test.YtdkfnkilkndmgaaGreatDoorCYD
namespace Go.Proofs.YtdkfnkilkndmgaaGreatDoor
open Go.Abs
set_option maxRecDepth 100000
set_option maxHeartbeats 4000000
theorem dP_eq : RL 27 [] [] = some (.ret DP, []) := by kernel_rfl
end Go.Proofs.YtdkfnkilkndmgaaGreatDoor
