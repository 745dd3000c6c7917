/- The world is valid, and begins as it must. -/
import Derived.Test.YtdkfnkilkndmgaaGreatDoorCYK
namespace Go.Proofs.YtdkfnkilkndmgaaGreatDoor
open Go.Abs
set_option maxRecDepth 100000
set_option maxHeartbeats 4000000
noncomputable section
theorem k_valid : RW 16 [(.slice (slT WP) 32 0 29 .no)] [] = some (.ret (.known true), []) := by kernel_rfl
theorem k_begins : RW 17 [(.slice (slT WP) 32 0 29 .no)] [] = some (.ret (.known true), []) := by kernel_rfl
end
end Go.Proofs.YtdkfnkilkndmgaaGreatDoor
