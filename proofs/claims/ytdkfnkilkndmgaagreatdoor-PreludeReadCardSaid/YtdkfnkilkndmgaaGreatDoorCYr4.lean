/- Runs. -/
import Derived.Test.YtdkfnkilkndmgaaGreatDoorCYr0
namespace Go.Proofs.YtdkfnkilkndmgaaGreatDoor
open Go.Abs
set_option maxRecDepth 100000
set_option maxHeartbeats 4000000
noncomputable section
theorem r_r21 (n : Int) : rK RW n (.int .i64 21) [] = some (.ret (.bool true), []) := by kernel_rfl
theorem r_r22 (n : Int) : rK RW n (.int .i64 22) [] = some (.ret (.bool true), []) := by kernel_rfl
theorem r_r23 (n : Int) : rK RW n (.int .i64 23) [] = some (.ret (.bool true), []) := by kernel_rfl
theorem r_r24 (n : Int) : rK RW n (.int .i64 24) [] = some (.ret (.bool true), []) := by kernel_rfl
theorem r_r25 (n : Int) : rK RW n (.int .i64 25) [] = some (.ret (.bool true), []) := by kernel_rfl
theorem r_r26 (n : Int) : rK RW n (.int .i64 26) [] = some (.ret (.bool true), []) := by kernel_rfl
theorem r_r27 (n : Int) : rK RW n (.int .i64 27) [] = some (.ret (.bool true), []) := by kernel_rfl
end
end Go.Proofs.YtdkfnkilkndmgaaGreatDoor
