/- Runs. -/
import Derived.Test.YtdkfnkilkndmgaaGreatDoorCYg0
namespace Go.Proofs.YtdkfnkilkndmgaaGreatDoor
open Go.Abs
set_option maxRecDepth 100000
set_option maxHeartbeats 4000000
noncomputable section
theorem g_r0 (n : Int) : gK RW n (.int .i64 0) [] = some (.ret (.bool true), []) := (g_rest n 0).trans (by kernel_rfl)
theorem g_r1 (n : Int) : gK RW n (.int .i64 1) [] = some (.ret (.bool true), []) := (g_rest n 1).trans (by kernel_rfl)
theorem g_r2 (n : Int) : gK RW n (.int .i64 2) [] = some (.ret (.bool true), []) := (g_rest n 2).trans (by kernel_rfl)
theorem g_r3 (n : Int) : gK RW n (.int .i64 3) [] = some (.ret (.bool true), []) := (g_rest n 3).trans (by kernel_rfl)
theorem g_r4 (n : Int) : gK RW n (.int .i64 4) [] = some (.ret (.bool true), []) := (g_rest n 4).trans (by kernel_rfl)
theorem g_r5 (n : Int) : gK RW n (.int .i64 5) [] = some (.ret (.bool true), []) := (g_rest n 5).trans (by kernel_rfl)
theorem g_r6 (n : Int) : gK RW n (.int .i64 6) [] = some (.ret (.bool true), []) := (g_rest n 6).trans (by kernel_rfl)
theorem g_r7 (n : Int) : gK RW n (.int .i64 7) [] = some (.ret (.bool true), []) := (g_rest n 7).trans (by kernel_rfl)
theorem g_r8 (n : Int) : gK RW n (.int .i64 8) [] = some (.ret (.bool true), []) := (g_rest n 8).trans (by kernel_rfl)
theorem g_r9 (n : Int) : gK RW n (.int .i64 9) [] = some (.ret (.bool true), []) := (g_rest n 9).trans (by kernel_rfl)
theorem g_r10 (n : Int) : gK RW n (.int .i64 10) [] = some (.ret (.bool true), []) := (g_rest n 10).trans (by kernel_rfl)
theorem g_r11 (n : Int) : gK RW n (.int .i64 11) [] = some (.ret (.bool true), []) := (g_rest n 11).trans (by kernel_rfl)
theorem g_r12 (n : Int) : gK RW n (.int .i64 12) [] = some (.ret (.bool true), []) := (g_rest n 12).trans (by kernel_rfl)
theorem g_r13 (n : Int) : gK RW n (.int .i64 13) [] = some (.ret (.bool true), []) := (g_rest n 13).trans (by kernel_rfl)
theorem g_r14 (n : Int) : gK RW n (.int .i64 14) [] = some (.ret (.bool true), []) := (g_rest n 14).trans (by kernel_rfl)
theorem g_r15 (n : Int) : gK RW n (.int .i64 15) [] = some (.ret (.bool true), []) := (g_rest n 15).trans (by kernel_rfl)
theorem g_r16 (n : Int) : gK RW n (.int .i64 16) [] = some (.ret (.bool true), []) := (g_rest n 16).trans (by kernel_rfl)
theorem g_r17 (n : Int) : gK RW n (.int .i64 17) [] = some (.ret (.bool true), []) := (g_rest n 17).trans (by kernel_rfl)
theorem g_r18 (n : Int) : gK RW n (.int .i64 18) [] = some (.ret (.bool true), []) := (g_rest n 18).trans (by kernel_rfl)
theorem g_r19 (n : Int) : gK RW n (.int .i64 19) [] = some (.ret (.bool true), []) := (g_rest n 19).trans (by kernel_rfl)
theorem g_r20 (n : Int) : gK RW n (.int .i64 20) [] = some (.ret (.bool true), []) := (g_rest n 20).trans (by kernel_rfl)
theorem g_r21 (n : Int) : gK RW n (.int .i64 21) [] = some (.ret (.bool true), []) := (g_rest n 21).trans (by kernel_rfl)
theorem g_r22 (n : Int) : gK RW n (.int .i64 22) [] = some (.ret (.bool true), []) := (g_rest n 22).trans (by kernel_rfl)
theorem g_r23 (n : Int) : gK RW n (.int .i64 23) [] = some (.ret (.bool true), []) := (g_rest n 23).trans (by kernel_rfl)
theorem g_r24 (n : Int) : gK RW n (.int .i64 24) [] = some (.ret (.bool true), []) := (g_rest n 24).trans (by kernel_rfl)
theorem g_r25 (n : Int) : gK RW n (.int .i64 25) [] = some (.ret (.bool true), []) := (g_rest n 25).trans (by kernel_rfl)
theorem g_r26 (n : Int) : gK RW n (.int .i64 26) [] = some (.ret (.bool true), []) := (g_rest n 26).trans (by kernel_rfl)
theorem g_r27 (n : Int) : gK RW n (.int .i64 27) [] = some (.ret (.bool true), []) := (g_rest n 27).trans (by kernel_rfl)
theorem g_r28 (n : Int) : gK RW n (.int .i64 28) [] = some (.ret (.bool true), []) := (g_rest n 28).trans (by kernel_rfl)
end
end Go.Proofs.YtdkfnkilkndmgaaGreatDoor
