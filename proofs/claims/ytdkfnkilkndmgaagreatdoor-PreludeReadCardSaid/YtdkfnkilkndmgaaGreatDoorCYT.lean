/- The functions, the definitions known. -/
import Derived.Test.YtdkfnkilkndmgaaGreatDoorCYDP
import Derived.Test.YtdkfnkilkndmgaaGreatDoorCYDR
namespace Go.Proofs.YtdkfnkilkndmgaaGreatDoor
open Go.Abs
set_option maxRecDepth 100000
set_option maxHeartbeats 4000000
noncomputable section
def ft1 : FTab := (27, fun _ => litF (.ret DP, [])) :: (31, fun _ => litF (.ret DR, [])) :: ftU
theorem ft1_ok : ∀ g F, (g, F) ∈ ft1 → ∀ fn, (∀ g, FnOk X0 g (fn g)) → FnOk X0 g (F fn) := litF_tab (litF_tab ftU_ok (RL_ok 31) dR_eq) (RL_ok 27) dP_eq
def RL1 (g : FuncId) : FunT := appW (runW ft1 300 g)
theorem RL1_ok (g : FuncId) : FnOk X0 g (RL1 g) := runW_ok ft1_ok 300 g
/-- The steps, with another way to go round. -/
def CUv (lpv : ((LV → LB → Om) → LV → LB → Om) → LV → LB → Om) : CombU := { CU with lp := lpv }
theorem CUv_lp : CUv lp = CU := rfl
def lpN (n : Nat) (body : (LV → LB → Om) → LV → LB → Om) : LV → LB → Om := Nat.rec (motive := fun _ => LV → LB → Om) (fun _ _ => none) (fun _ ih => body ih) n
theorem lp_eq (body : (LV → LB → Om) → LV → LB → Om) : lp body = lpN 100000 body := by kernel_rfl
theorem runW_succ {T : FTab} {n : Nat} {g : FuncId} {F : FF → FunT} (h : lookF g T = some F) : appW (runW T (n + 1) g) = F fun g => appW (runW T n g) := by
  show appW (match lookF g T with
    | some F => ⟨F fun g => appW (runW T n g)⟩
    | none => ⟨fun _ _ => none⟩) = _
  rw [h]
  rfl
theorem dP_eq1 : RL1 27 [] [] = some (.ret DP, []) := by kernel_rfl
theorem dR_eq1 : RL1 31 [] [] = some (.ret DR, []) := by kernel_rfl
def tellF : KJ := fun vs bs => some (.pan (.tuple vs), bs)
end
end Go.Proofs.YtdkfnkilkndmgaaGreatDoor
