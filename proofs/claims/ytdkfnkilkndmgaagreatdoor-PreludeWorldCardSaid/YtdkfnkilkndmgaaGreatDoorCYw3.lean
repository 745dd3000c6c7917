/- Runs. -/
import Derived.Test.YtdkfnkilkndmgaaGreatDoorCYw0
namespace Go.Proofs.YtdkfnkilkndmgaaGreatDoor
open Go.Abs
set_option maxRecDepth 100000
set_option maxHeartbeats 4000000
noncomputable section
theorem w_r20 (n : Int) : wK RW n (.int .i64 20) [] = some (.ret (.bool true), []) := by kernel_rfl
theorem w_r21 (n : Int) : wK RW n (.int .i64 21) [] = some (.ret (.bool true), []) := by kernel_rfl
theorem w_r22 (n : Int) : wK RW n (.int .i64 22) [] = some (.ret (.bool true), []) := by kernel_rfl
theorem w_r23 (n : Int) : wK RW n (.int .i64 23) [] = some (.ret (.bool true), []) := by kernel_rfl
theorem w_r24 (n : Int) : wK RW n (.int .i64 24) [] = some (.ret (.bool true), []) := by kernel_rfl
theorem w_r25 (n : Int) : wK RW n (.int .i64 25) [] = some (.ret (.bool true), []) := by kernel_rfl
theorem w_r26 (n : Int) : wK RW n (.int .i64 26) [] = some (.ret (.bool true), []) := by kernel_rfl
theorem w_r27 (n : Int) : wK RW n (.int .i64 27) [] = some (.ret (.bool true), []) := by kernel_rfl
theorem w_r28 (n : Int) : wK RW n (.int .i64 28) [] = some (.ret (.known true), []) := by kernel_rfl
end
end Go.Proofs.YtdkfnkilkndmgaaGreatDoor
