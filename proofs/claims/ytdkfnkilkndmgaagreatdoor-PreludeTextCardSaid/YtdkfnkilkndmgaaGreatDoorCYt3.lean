/- Runs. -/
import Derived.Test.YtdkfnkilkndmgaaGreatDoorCYt0
namespace Go.Proofs.YtdkfnkilkndmgaaGreatDoor
open Go.Abs
set_option maxRecDepth 100000
set_option maxHeartbeats 4000000
noncomputable section
theorem t_r80 (n : Int) : tK RW n (.int .i64 80) [] = some (.ret (.bool true), []) := by kernel_rfl
theorem t_r81 (n : Int) : tK RW n (.int .i64 81) [] = some (.ret (.bool true), []) := by kernel_rfl
theorem t_r82 (n : Int) : tK RW n (.int .i64 82) [] = some (.ret (.bool true), []) := by kernel_rfl
theorem t_r83 (n : Int) : tK RW n (.int .i64 83) [] = some (.ret (.bool true), []) := by kernel_rfl
theorem t_r84 (n : Int) : tK RW n (.int .i64 84) [] = some (.ret (.bool true), []) := by kernel_rfl
theorem t_r85 (n : Int) : tK RW n (.int .i64 85) [] = some (.ret (.bool true), []) := by kernel_rfl
theorem t_r86 (n : Int) : tK RW n (.int .i64 86) [] = some (.ret (.bool true), []) := by kernel_rfl
theorem t_r87 (n : Int) : tK RW n (.int .i64 87) [] = some (.ret (.bool true), []) := by kernel_rfl
theorem t_r88 (n : Int) : tK RW n (.int .i64 88) [] = some (.ret (.bool true), []) := by kernel_rfl
theorem t_r89 (n : Int) : tK RW n (.int .i64 89) [] = some (.ret (.bool true), []) := by kernel_rfl
theorem t_r90 (n : Int) : tK RW n (.int .i64 90) [] = some (.ret (.bool true), []) := by kernel_rfl
theorem t_r91 (n : Int) : tK RW n (.int .i64 91) [] = some (.ret (.bool true), []) := by kernel_rfl
theorem t_r92 (n : Int) : tK RW n (.int .i64 92) [] = some (.ret (.bool true), []) := by kernel_rfl
theorem t_r93 (n : Int) : tK RW n (.int .i64 93) [] = some (.ret (.bool true), []) := by kernel_rfl
theorem t_r94 (n : Int) : tK RW n (.int .i64 94) [] = some (.ret (.bool true), []) := by kernel_rfl
theorem t_r95 (n : Int) : tK RW n (.int .i64 95) [] = some (.ret (.bool true), []) := by kernel_rfl
theorem t_r96 (n : Int) : tK RW n (.int .i64 96) [] = some (.ret (.bool true), []) := by kernel_rfl
theorem t_r97 (n : Int) : tK RW n (.int .i64 97) [] = some (.ret (.bool true), []) := by kernel_rfl
theorem t_r98 (n : Int) : tK RW n (.int .i64 98) [] = some (.ret (.bool true), []) := by kernel_rfl
theorem t_r99 (n : Int) : tK RW n (.int .i64 99) [] = some (.ret (.bool true), []) := by kernel_rfl
theorem t_r100 (n : Int) : tK RW n (.int .i64 100) [] = some (.ret (.bool true), []) := by kernel_rfl
theorem t_r101 (n : Int) : tK RW n (.int .i64 101) [] = some (.ret (.bool true), []) := by kernel_rfl
theorem t_r102 (n : Int) : tK RW n (.int .i64 102) [] = some (.ret (.bool true), []) := by kernel_rfl
theorem t_r103 (n : Int) : tK RW n (.int .i64 103) [] = some (.ret (.bool true), []) := by kernel_rfl
theorem t_r104 (n : Int) : tK RW n (.int .i64 104) [] = some (.ret (.bool true), []) := by kernel_rfl
theorem t_r105 (n : Int) : tK RW n (.int .i64 105) [] = some (.ret (.bool true), []) := by kernel_rfl
theorem t_r106 (n : Int) : tK RW n (.int .i64 106) [] = some (.ret (.bool true), []) := by kernel_rfl
theorem t_r107 (n : Int) : tK RW n (.int .i64 107) [] = some (.ret (.bool true), []) := by kernel_rfl
theorem t_r108 (n : Int) : tK RW n (.int .i64 108) [] = some (.ret (.bool true), []) := by kernel_rfl
theorem t_r109 (n : Int) : tK RW n (.int .i64 109) [] = some (.ret (.bool true), []) := by kernel_rfl
theorem t_r110 (n : Int) : tK RW n (.int .i64 110) [] = some (.ret (.bool true), []) := by kernel_rfl
theorem t_r111 (n : Int) : tK RW n (.int .i64 111) [] = some (.ret (.bool true), []) := by kernel_rfl
theorem t_r112 (n : Int) : tK RW n (.int .i64 112) [] = some (.ret (.bool true), []) := by kernel_rfl
theorem t_r113 (n : Int) : tK RW n (.int .i64 113) [] = some (.ret (.bool true), []) := by kernel_rfl
end
end Go.Proofs.YtdkfnkilkndmgaaGreatDoor
