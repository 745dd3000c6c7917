/- Runs. -/
import Derived.Test.YtdkfnkilkndmgaaGreatDoorCYr0
namespace Go.Proofs.YtdkfnkilkndmgaaGreatDoor
open Go.Abs
set_option maxRecDepth 100000
set_option maxHeartbeats 4000000
noncomputable section
theorem r_r14 (n : Int) : rK RW n (.int .i64 14) [] = some (.ret (.bool true), []) := by kernel_rfl
theorem r_r15 (n : Int) : rK RW n (.int .i64 15) [] = some (.ret (.bool true), []) := by kernel_rfl
theorem r_r16 (n : Int) : rK RW n (.int .i64 16) [] = some (.ret (.bool true), []) := by kernel_rfl
theorem r_r17 (n : Int) : rK RW n (.int .i64 17) [] = some (.ret (.bool true), []) := by kernel_rfl
theorem r_r18 (n : Int) : rK RW n (.int .i64 18) [] = some (.ret (.bool true), []) := by kernel_rfl
theorem r_r19 (n : Int) : rK RW n (.int .i64 19) [] = some (.ret (.bool true), []) := by kernel_rfl
theorem r_r20 (n : Int) : rK RW n (.int .i64 20) [] = some (.ret (.bool true), []) := by kernel_rfl
end
end Go.Proofs.YtdkfnkilkndmgaaGreatDoor
