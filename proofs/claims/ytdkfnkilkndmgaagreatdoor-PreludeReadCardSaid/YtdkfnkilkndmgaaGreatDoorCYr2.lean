/- Runs. -/
import Derived.Test.YtdkfnkilkndmgaaGreatDoorCYr0
namespace Go.Proofs.YtdkfnkilkndmgaaGreatDoor
open Go.Abs
set_option maxRecDepth 100000
set_option maxHeartbeats 4000000
noncomputable section
theorem r_r7 (n : Int) : rK RW n (.int .i64 7) [] = some (.ret (.bool true), []) := by kernel_rfl
theorem r_r8 (n : Int) : rK RW n (.int .i64 8) [] = some (.ret (.bool true), []) := by kernel_rfl
theorem r_r9 (n : Int) : rK RW n (.int .i64 9) [] = some (.ret (.bool true), []) := by kernel_rfl
theorem r_r10 (n : Int) : rK RW n (.int .i64 10) [] = some (.ret (.bool true), []) := by kernel_rfl
theorem r_r11 (n : Int) : rK RW n (.int .i64 11) [] = some (.ret (.bool true), []) := by kernel_rfl
theorem r_r12 (n : Int) : rK RW n (.int .i64 12) [] = some (.ret (.bool true), []) := by kernel_rfl
theorem r_r13 (n : Int) : rK RW n (.int .i64 13) [] = some (.ret (.bool true), []) := by kernel_rfl
end
end Go.Proofs.YtdkfnkilkndmgaaGreatDoor
