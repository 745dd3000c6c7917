/- Known results. -/
import Derived.Test.YtdkfnkilkndmgaaGreatDoorCYK0
namespace Go.Proofs.YtdkfnkilkndmgaaGreatDoor
open Go.Abs
set_option maxRecDepth 100000
set_option maxHeartbeats 4000000
noncomputable section
theorem k_first : RW 7 [] [] = some (.ret (.bool true), []) := first_eq
theorem k_worldP : RW 13 [] [] = some (.ret (.slice (slT WP) 32 0 29 .no), []) := by kernel_rfl
theorem k_worldR : RW 14 [] [] = some (.ret (.slice (slT WP) 32 0 29 .no), []) := by kernel_rfl
theorem k_init : RW 19 [] [] = some (.ret (.slice i19T 2 0 1 (.fr 2)), []) := by kernel_rfl
theorem k_textP : RW 10 [] [] = some (.ret (.str s10l s10c), []) := by kernel_rfl
theorem bind_ret (v : V) (bs : LB) (K : V → LB → Om) (Kp : V → Om) : Abs.bind (some (.ret v, bs)) K Kp = K v bs := rfl
end
end Go.Proofs.YtdkfnkilkndmgaaGreatDoor
