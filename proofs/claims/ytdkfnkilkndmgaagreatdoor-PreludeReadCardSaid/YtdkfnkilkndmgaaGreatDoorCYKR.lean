/- What is read from the text. -/
import Derived.Test.YtdkfnkilkndmgaaGreatDoorCYK
namespace Go.Proofs.YtdkfnkilkndmgaaGreatDoor
open Go.Abs
set_option maxRecDepth 100000
set_option maxHeartbeats 4000000
noncomputable section
theorem k_read : RW 18 [.slice i19T 2 0 1 .no, .str 4 1886611820, .str s10l s10c] [] = some (.ret (.tuple [.slice (slT DR) 7 0 28 .no, .agg [.int .i64 0, .int .i64 0]]), []) := by kernel_rfl
end
end Go.Proofs.YtdkfnkilkndmgaaGreatDoor
