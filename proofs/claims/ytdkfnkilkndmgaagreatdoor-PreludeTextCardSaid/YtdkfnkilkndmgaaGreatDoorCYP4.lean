/- Each entry is what is made of its definition. -/
import Derived.Test.YtdkfnkilkndmgaaGreatDoorCYP3
namespace Go.Proofs.YtdkfnkilkndmgaaGreatDoor
open Go.Abs
set_option maxRecDepth 100000
set_option maxHeartbeats 4000000
theorem entP0 : RL1 32 [.slice wP0 32 0 0 .no, .q (celQ (tQ (slT DP) 0) 0)] [] = some (.ret vP0, []) := by kernel_rfl
theorem entP1 : RL1 32 [.slice wP1 32 0 1 .no, .q (celQ (tQ (slT DP) 1) 0)] [] = some (.ret vP1, []) := by kernel_rfl
theorem entP2 : RL1 32 [.slice wP2 32 0 2 .no, .q (celQ (tQ (slT DP) 2) 0)] [] = some (.ret vP2, []) := by kernel_rfl
theorem entP3 : RL1 32 [.slice wP3 32 0 3 .no, .q (celQ (tQ (slT DP) 3) 0)] [] = some (.ret vP3, []) := by kernel_rfl
theorem entP4 : RL1 32 [.slice wP4 32 0 4 .no, .q (celQ (tQ (slT DP) 4) 0)] [] = some (.ret vP4, []) := by kernel_rfl
theorem entP5 : RL1 32 [.slice wP5 32 0 5 .no, .q (celQ (tQ (slT DP) 5) 0)] [] = some (.ret vP5, []) := by kernel_rfl
theorem entP6 : RL1 32 [.slice wP6 32 0 6 .no, .q (celQ (tQ (slT DP) 6) 0)] [] = some (.ret vP6, []) := by kernel_rfl
theorem entP7 : RL1 32 [.slice wP7 32 0 7 .no, .q (celQ (tQ (slT DP) 7) 0)] [] = some (.ret vP7, []) := by kernel_rfl
theorem entP8 : RL1 32 [.slice wP8 32 0 8 .no, .q (celQ (tQ (slT DP) 8) 0)] [] = some (.ret vP8, []) := by kernel_rfl
theorem entP9 : RL1 32 [.slice wP9 32 0 9 .no, .q (celQ (tQ (slT DP) 9) 0)] [] = some (.ret vP9, []) := by kernel_rfl
theorem entP10 : RL1 32 [.slice wP10 32 0 10 .no, .q (celQ (tQ (slT DP) 10) 0)] [] = some (.ret vP10, []) := by kernel_rfl
theorem entP11 : RL1 32 [.slice wP11 32 0 11 .no, .q (celQ (tQ (slT DP) 11) 0)] [] = some (.ret vP11, []) := by kernel_rfl
theorem entP12 : RL1 32 [.slice wP12 32 0 12 .no, .q (celQ (tQ (slT DP) 12) 0)] [] = some (.ret vP12, []) := by kernel_rfl
theorem entP13 : RL1 32 [.slice wP13 32 0 13 .no, .q (celQ (tQ (slT DP) 13) 0)] [] = some (.ret vP13, []) := by kernel_rfl
theorem entP14 : RL1 32 [.slice wP14 32 0 14 .no, .q (celQ (tQ (slT DP) 14) 0)] [] = some (.ret vP14, []) := by kernel_rfl
theorem entP15 : RL1 32 [.slice wP15 32 0 15 .no, .q (celQ (tQ (slT DP) 15) 0)] [] = some (.ret vP15, []) := by kernel_rfl
theorem entP16 : RL1 32 [.slice wP16 32 0 16 .no, .q (celQ (tQ (slT DP) 16) 0)] [] = some (.ret vP16, []) := by kernel_rfl
theorem entP17 : RL1 32 [.slice wP17 32 0 17 .no, .q (celQ (tQ (slT DP) 17) 0)] [] = some (.ret vP17, []) := by kernel_rfl
theorem entP18 : RL1 32 [.slice wP18 32 0 18 .no, .q (celQ (tQ (slT DP) 18) 0)] [] = some (.ret vP18, []) := by kernel_rfl
theorem entP19 : RL1 32 [.slice wP19 32 0 19 .no, .q (celQ (tQ (slT DP) 19) 0)] [] = some (.ret vP19, []) := by kernel_rfl
theorem entP20 : RL1 32 [.slice wP20 32 0 20 .no, .q (celQ (tQ (slT DP) 20) 0)] [] = some (.ret vP20, []) := by kernel_rfl
theorem entP21 : RL1 32 [.slice wP21 32 0 21 .no, .q (celQ (tQ (slT DP) 21) 0)] [] = some (.ret vP21, []) := by kernel_rfl
theorem entP22 : RL1 32 [.slice wP22 32 0 22 .no, .q (celQ (tQ (slT DP) 22) 0)] [] = some (.ret vP22, []) := by kernel_rfl
theorem entP23 : RL1 32 [.slice wP23 32 0 23 .no, .q (celQ (tQ (slT DP) 23) 0)] [] = some (.ret vP23, []) := by kernel_rfl
theorem entP24 : RL1 32 [.slice wP24 32 0 24 .no, .q (celQ (tQ (slT DP) 24) 0)] [] = some (.ret vP24, []) := by kernel_rfl
theorem entP25 : RL1 32 [.slice wP25 32 0 25 .no, .q (celQ (tQ (slT DP) 25) 0)] [] = some (.ret vP25, []) := by kernel_rfl
theorem entP26 : RL1 32 [.slice wP26 32 0 26 .no, .q (celQ (tQ (slT DP) 26) 0)] [] = some (.ret vP26, []) := by kernel_rfl
theorem entP27 : RL1 32 [.slice wP27 32 0 27 .no, .q (celQ (tQ (slT DP) 27) 0)] [] = some (.ret vP27, []) := by kernel_rfl
end Go.Proofs.YtdkfnkilkndmgaaGreatDoor
