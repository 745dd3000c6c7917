/- Runs. -/
import Derived.Test.YtdkfnkilkndmgaaGreatDoorCYt0
namespace Go.Proofs.YtdkfnkilkndmgaaGreatDoor
open Go.Abs
set_option maxRecDepth 100000
set_option maxHeartbeats 4000000
noncomputable section
theorem t_r40 (n : Int) : tK RW n (.int .i64 40) [] = some (.ret (.bool true), []) := by kernel_rfl
theorem t_r41 (n : Int) : tK RW n (.int .i64 41) [] = some (.ret (.bool true), []) := by kernel_rfl
theorem t_r42 (n : Int) : tK RW n (.int .i64 42) [] = some (.ret (.bool true), []) := by kernel_rfl
theorem t_r43 (n : Int) : tK RW n (.int .i64 43) [] = some (.ret (.bool true), []) := by kernel_rfl
theorem t_r44 (n : Int) : tK RW n (.int .i64 44) [] = some (.ret (.bool true), []) := by kernel_rfl
theorem t_r45 (n : Int) : tK RW n (.int .i64 45) [] = some (.ret (.bool true), []) := by kernel_rfl
theorem t_r46 (n : Int) : tK RW n (.int .i64 46) [] = some (.ret (.bool true), []) := by kernel_rfl
theorem t_r47 (n : Int) : tK RW n (.int .i64 47) [] = some (.ret (.bool true), []) := by kernel_rfl
theorem t_r48 (n : Int) : tK RW n (.int .i64 48) [] = some (.ret (.bool true), []) := by kernel_rfl
theorem t_r49 (n : Int) : tK RW n (.int .i64 49) [] = some (.ret (.bool true), []) := by kernel_rfl
theorem t_r50 (n : Int) : tK RW n (.int .i64 50) [] = some (.ret (.bool true), []) := by kernel_rfl
theorem t_r51 (n : Int) : tK RW n (.int .i64 51) [] = some (.ret (.bool true), []) := by kernel_rfl
theorem t_r52 (n : Int) : tK RW n (.int .i64 52) [] = some (.ret (.bool true), []) := by kernel_rfl
theorem t_r53 (n : Int) : tK RW n (.int .i64 53) [] = some (.ret (.bool true), []) := by kernel_rfl
theorem t_r54 (n : Int) : tK RW n (.int .i64 54) [] = some (.ret (.bool true), []) := by kernel_rfl
theorem t_r55 (n : Int) : tK RW n (.int .i64 55) [] = some (.ret (.bool true), []) := by kernel_rfl
theorem t_r56 (n : Int) : tK RW n (.int .i64 56) [] = some (.ret (.bool true), []) := by kernel_rfl
theorem t_r57 (n : Int) : tK RW n (.int .i64 57) [] = some (.ret (.bool true), []) := by kernel_rfl
theorem t_r58 (n : Int) : tK RW n (.int .i64 58) [] = some (.ret (.bool true), []) := by kernel_rfl
theorem t_r59 (n : Int) : tK RW n (.int .i64 59) [] = some (.ret (.bool true), []) := by kernel_rfl
theorem t_r60 (n : Int) : tK RW n (.int .i64 60) [] = some (.ret (.bool true), []) := by kernel_rfl
theorem t_r61 (n : Int) : tK RW n (.int .i64 61) [] = some (.ret (.bool true), []) := by kernel_rfl
theorem t_r62 (n : Int) : tK RW n (.int .i64 62) [] = some (.ret (.bool true), []) := by kernel_rfl
theorem t_r63 (n : Int) : tK RW n (.int .i64 63) [] = some (.ret (.bool true), []) := by kernel_rfl
theorem t_r64 (n : Int) : tK RW n (.int .i64 64) [] = some (.ret (.bool true), []) := by kernel_rfl
theorem t_r65 (n : Int) : tK RW n (.int .i64 65) [] = some (.ret (.bool true), []) := by kernel_rfl
theorem t_r66 (n : Int) : tK RW n (.int .i64 66) [] = some (.ret (.bool true), []) := by kernel_rfl
theorem t_r67 (n : Int) : tK RW n (.int .i64 67) [] = some (.ret (.bool true), []) := by kernel_rfl
theorem t_r68 (n : Int) : tK RW n (.int .i64 68) [] = some (.ret (.bool true), []) := by kernel_rfl
theorem t_r69 (n : Int) : tK RW n (.int .i64 69) [] = some (.ret (.bool true), []) := by kernel_rfl
theorem t_r70 (n : Int) : tK RW n (.int .i64 70) [] = some (.ret (.bool true), []) := by kernel_rfl
theorem t_r71 (n : Int) : tK RW n (.int .i64 71) [] = some (.ret (.bool true), []) := by kernel_rfl
theorem t_r72 (n : Int) : tK RW n (.int .i64 72) [] = some (.ret (.bool true), []) := by kernel_rfl
theorem t_r73 (n : Int) : tK RW n (.int .i64 73) [] = some (.ret (.bool true), []) := by kernel_rfl
theorem t_r74 (n : Int) : tK RW n (.int .i64 74) [] = some (.ret (.bool true), []) := by kernel_rfl
theorem t_r75 (n : Int) : tK RW n (.int .i64 75) [] = some (.ret (.bool true), []) := by kernel_rfl
theorem t_r76 (n : Int) : tK RW n (.int .i64 76) [] = some (.ret (.bool true), []) := by kernel_rfl
theorem t_r77 (n : Int) : tK RW n (.int .i64 77) [] = some (.ret (.bool true), []) := by kernel_rfl
theorem t_r78 (n : Int) : tK RW n (.int .i64 78) [] = some (.ret (.bool true), []) := by kernel_rfl
theorem t_r79 (n : Int) : tK RW n (.int .i64 79) [] = some (.ret (.bool true), []) := by kernel_rfl
end
end Go.Proofs.YtdkfnkilkndmgaaGreatDoor
