/- Known results. -/
import Derived.Test.YtdkfnkilkndmgaaGreatDoorCYK0
namespace Go.Proofs.YtdkfnkilkndmgaaGreatDoor
open Go.Abs
set_option maxRecDepth 100000
set_option maxHeartbeats 4000000
noncomputable section
theorem k_first : RW 7 [] [] = some (.ret (.bool true), []) := first_eq
theorem k_namesP : RW 8 [] [] = some (.ret (.slice nPT 2 0 114 .no), []) := by kernel_rfl
theorem k_namesR : RW 9 [] [] = some (.ret (.slice nRT 2 0 114 .no), []) := by kernel_rfl
theorem k_textP : RW 10 [] [] = some (.ret (.str s10l s10c), []) := by kernel_rfl
theorem k_textR : RW 11 [] [] = some (.ret (.str s10l s10c), []) := by kernel_rfl
theorem bind_ret (v : V) (bs : LB) (K : V → LB → Om) (Kp : V → Om) : Abs.bind (some (.ret v, bs)) K Kp = K v bs := rfl
end
end Go.Proofs.YtdkfnkilkndmgaaGreatDoor
