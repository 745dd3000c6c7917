/- Runs. -/
import Derived.Test.YtdkfnkilkndmgaaGreatDoorCYw0
namespace Go.Proofs.YtdkfnkilkndmgaaGreatDoor
open Go.Abs
set_option maxRecDepth 100000
set_option maxHeartbeats 4000000
noncomputable section
theorem w_r10 (n : Int) : wK RW n (.int .i64 10) [] = some (.ret (.bool true), []) := by kernel_rfl
theorem w_r11 (n : Int) : wK RW n (.int .i64 11) [] = some (.ret (.bool true), []) := by kernel_rfl
theorem w_r12 (n : Int) : wK RW n (.int .i64 12) [] = some (.ret (.bool true), []) := by kernel_rfl
theorem w_r13 (n : Int) : wK RW n (.int .i64 13) [] = some (.ret (.bool true), []) := by kernel_rfl
theorem w_r14 (n : Int) : wK RW n (.int .i64 14) [] = some (.ret (.bool true), []) := by kernel_rfl
theorem w_r15 (n : Int) : wK RW n (.int .i64 15) [] = some (.ret (.bool true), []) := by kernel_rfl
theorem w_r16 (n : Int) : wK RW n (.int .i64 16) [] = some (.ret (.bool true), []) := by kernel_rfl
theorem w_r17 (n : Int) : wK RW n (.int .i64 17) [] = some (.ret (.bool true), []) := by kernel_rfl
theorem w_r18 (n : Int) : wK RW n (.int .i64 18) [] = some (.ret (.bool true), []) := by kernel_rfl
theorem w_r19 (n : Int) : wK RW n (.int .i64 19) [] = some (.ret (.bool true), []) := by kernel_rfl
end
end Go.Proofs.YtdkfnkilkndmgaaGreatDoor
