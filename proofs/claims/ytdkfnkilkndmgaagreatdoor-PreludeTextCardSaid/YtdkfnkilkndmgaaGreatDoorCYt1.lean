/- Runs. -/
import Derived.Test.YtdkfnkilkndmgaaGreatDoorCYt0
namespace Go.Proofs.YtdkfnkilkndmgaaGreatDoor
open Go.Abs
set_option maxRecDepth 100000
set_option maxHeartbeats 4000000
noncomputable section
theorem t_r0 (n : Int) : tK RW n (.int .i64 0) [] = some (.ret (.bool true), []) := by kernel_rfl
theorem t_r1 (n : Int) : tK RW n (.int .i64 1) [] = some (.ret (.bool true), []) := by kernel_rfl
theorem t_r2 (n : Int) : tK RW n (.int .i64 2) [] = some (.ret (.bool true), []) := by kernel_rfl
theorem t_r3 (n : Int) : tK RW n (.int .i64 3) [] = some (.ret (.bool true), []) := by kernel_rfl
theorem t_r4 (n : Int) : tK RW n (.int .i64 4) [] = some (.ret (.bool true), []) := by kernel_rfl
theorem t_r5 (n : Int) : tK RW n (.int .i64 5) [] = some (.ret (.bool true), []) := by kernel_rfl
theorem t_r6 (n : Int) : tK RW n (.int .i64 6) [] = some (.ret (.bool true), []) := by kernel_rfl
theorem t_r7 (n : Int) : tK RW n (.int .i64 7) [] = some (.ret (.bool true), []) := by kernel_rfl
theorem t_r8 (n : Int) : tK RW n (.int .i64 8) [] = some (.ret (.bool true), []) := by kernel_rfl
theorem t_r9 (n : Int) : tK RW n (.int .i64 9) [] = some (.ret (.bool true), []) := by kernel_rfl
theorem t_r10 (n : Int) : tK RW n (.int .i64 10) [] = some (.ret (.bool true), []) := by kernel_rfl
theorem t_r11 (n : Int) : tK RW n (.int .i64 11) [] = some (.ret (.bool true), []) := by kernel_rfl
theorem t_r12 (n : Int) : tK RW n (.int .i64 12) [] = some (.ret (.bool true), []) := by kernel_rfl
theorem t_r13 (n : Int) : tK RW n (.int .i64 13) [] = some (.ret (.bool true), []) := by kernel_rfl
theorem t_r14 (n : Int) : tK RW n (.int .i64 14) [] = some (.ret (.bool true), []) := by kernel_rfl
theorem t_r15 (n : Int) : tK RW n (.int .i64 15) [] = some (.ret (.bool true), []) := by kernel_rfl
theorem t_r16 (n : Int) : tK RW n (.int .i64 16) [] = some (.ret (.bool true), []) := by kernel_rfl
theorem t_r17 (n : Int) : tK RW n (.int .i64 17) [] = some (.ret (.bool true), []) := by kernel_rfl
theorem t_r18 (n : Int) : tK RW n (.int .i64 18) [] = some (.ret (.bool true), []) := by kernel_rfl
theorem t_r19 (n : Int) : tK RW n (.int .i64 19) [] = some (.ret (.bool true), []) := by kernel_rfl
theorem t_r20 (n : Int) : tK RW n (.int .i64 20) [] = some (.ret (.bool true), []) := by kernel_rfl
theorem t_r21 (n : Int) : tK RW n (.int .i64 21) [] = some (.ret (.bool true), []) := by kernel_rfl
theorem t_r22 (n : Int) : tK RW n (.int .i64 22) [] = some (.ret (.bool true), []) := by kernel_rfl
theorem t_r23 (n : Int) : tK RW n (.int .i64 23) [] = some (.ret (.bool true), []) := by kernel_rfl
theorem t_r24 (n : Int) : tK RW n (.int .i64 24) [] = some (.ret (.bool true), []) := by kernel_rfl
theorem t_r25 (n : Int) : tK RW n (.int .i64 25) [] = some (.ret (.bool true), []) := by kernel_rfl
theorem t_r26 (n : Int) : tK RW n (.int .i64 26) [] = some (.ret (.bool true), []) := by kernel_rfl
theorem t_r27 (n : Int) : tK RW n (.int .i64 27) [] = some (.ret (.bool true), []) := by kernel_rfl
theorem t_r28 (n : Int) : tK RW n (.int .i64 28) [] = some (.ret (.bool true), []) := by kernel_rfl
theorem t_r29 (n : Int) : tK RW n (.int .i64 29) [] = some (.ret (.bool true), []) := by kernel_rfl
theorem t_r30 (n : Int) : tK RW n (.int .i64 30) [] = some (.ret (.bool true), []) := by kernel_rfl
theorem t_r31 (n : Int) : tK RW n (.int .i64 31) [] = some (.ret (.bool true), []) := by kernel_rfl
theorem t_r32 (n : Int) : tK RW n (.int .i64 32) [] = some (.ret (.bool true), []) := by kernel_rfl
theorem t_r33 (n : Int) : tK RW n (.int .i64 33) [] = some (.ret (.bool true), []) := by kernel_rfl
theorem t_r34 (n : Int) : tK RW n (.int .i64 34) [] = some (.ret (.bool true), []) := by kernel_rfl
theorem t_r35 (n : Int) : tK RW n (.int .i64 35) [] = some (.ret (.bool true), []) := by kernel_rfl
theorem t_r36 (n : Int) : tK RW n (.int .i64 36) [] = some (.ret (.bool true), []) := by kernel_rfl
theorem t_r37 (n : Int) : tK RW n (.int .i64 37) [] = some (.ret (.bool true), []) := by kernel_rfl
theorem t_r38 (n : Int) : tK RW n (.int .i64 38) [] = some (.ret (.bool true), []) := by kernel_rfl
theorem t_r39 (n : Int) : tK RW n (.int .i64 39) [] = some (.ret (.bool true), []) := by kernel_rfl
end
end Go.Proofs.YtdkfnkilkndmgaaGreatDoor
