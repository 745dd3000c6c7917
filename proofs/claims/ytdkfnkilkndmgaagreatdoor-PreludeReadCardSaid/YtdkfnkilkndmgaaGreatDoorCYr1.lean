/- Runs. -/
import Derived.Test.YtdkfnkilkndmgaaGreatDoorCYr0
namespace Go.Proofs.YtdkfnkilkndmgaaGreatDoor
open Go.Abs
set_option maxRecDepth 100000
set_option maxHeartbeats 4000000
noncomputable section
theorem r_r0 (n : Int) : rK RW n (.int .i64 0) [] = some (.ret (.bool true), []) := by kernel_rfl
theorem r_r1 (n : Int) : rK RW n (.int .i64 1) [] = some (.ret (.bool true), []) := by kernel_rfl
theorem r_r2 (n : Int) : rK RW n (.int .i64 2) [] = some (.ret (.bool true), []) := by kernel_rfl
theorem r_r3 (n : Int) : rK RW n (.int .i64 3) [] = some (.ret (.bool true), []) := by kernel_rfl
theorem r_r4 (n : Int) : rK RW n (.int .i64 4) [] = some (.ret (.bool true), []) := by kernel_rfl
theorem r_r5 (n : Int) : rK RW n (.int .i64 5) [] = some (.ret (.bool true), []) := by kernel_rfl
theorem r_r6 (n : Int) : rK RW n (.int .i64 6) [] = some (.ret (.bool true), []) := by kernel_rfl
end
end Go.Proofs.YtdkfnkilkndmgaaGreatDoor
