/- Runs. -/
import Derived.Test.YtdkfnkilkndmgaaGreatDoorCYw0
namespace Go.Proofs.YtdkfnkilkndmgaaGreatDoor
open Go.Abs
set_option maxRecDepth 100000
set_option maxHeartbeats 4000000
noncomputable section
theorem w_r0 (n : Int) : wK RW n (.int .i64 0) [] = some (.ret (.bool true), []) := by kernel_rfl
theorem w_r1 (n : Int) : wK RW n (.int .i64 1) [] = some (.ret (.bool true), []) := by kernel_rfl
theorem w_r2 (n : Int) : wK RW n (.int .i64 2) [] = some (.ret (.bool true), []) := by kernel_rfl
theorem w_r3 (n : Int) : wK RW n (.int .i64 3) [] = some (.ret (.bool true), []) := by kernel_rfl
theorem w_r4 (n : Int) : wK RW n (.int .i64 4) [] = some (.ret (.bool true), []) := by kernel_rfl
theorem w_r5 (n : Int) : wK RW n (.int .i64 5) [] = some (.ret (.bool true), []) := by kernel_rfl
theorem w_r6 (n : Int) : wK RW n (.int .i64 6) [] = some (.ret (.bool true), []) := by kernel_rfl
theorem w_r7 (n : Int) : wK RW n (.int .i64 7) [] = some (.ret (.bool true), []) := by kernel_rfl
theorem w_r8 (n : Int) : wK RW n (.int .i64 8) [] = some (.ret (.bool true), []) := by kernel_rfl
theorem w_r9 (n : Int) : wK RW n (.int .i64 9) [] = some (.ret (.bool true), []) := by kernel_rfl
end
end Go.Proofs.YtdkfnkilkndmgaaGreatDoor
