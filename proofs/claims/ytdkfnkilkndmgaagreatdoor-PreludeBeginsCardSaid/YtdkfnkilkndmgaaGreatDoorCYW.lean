/- The functions, the worlds known. -/
import Derived.Test.YtdkfnkilkndmgaaGreatDoorCYP
import Derived.Test.YtdkfnkilkndmgaaGreatDoorCYR
namespace Go.Proofs.YtdkfnkilkndmgaaGreatDoor
open Go.Abs
set_option maxRecDepth 100000
noncomputable section
def ftW : FTab := (13, fun _ => litF (.ret WP, [])) :: (14, fun _ => litF (.ret WP, [])) :: ft1
theorem ftW_ok : ∀ g F, (g, F) ∈ ftW → ∀ fn, (∀ g, FnOk X0 g (fn g)) → FnOk X0 g (F fn) := litF_tab (litF_tab ft1_ok (runW_ok ft1_ok 301 14) worldR_eq) (runW_ok ft1_ok 301 13) worldP_eq
/-- What a function gives, run, the worlds known. -/
def RW (g : FuncId) : FunT := appW (runW ftW 4000 g)
theorem RW_ok (g : FuncId) : FnOk X0 g (RW g) := runW_ok ftW_ok 4000 g
theorem first_eq : RW 7 [] [] = some (.ret (.bool true), []) := by kernel_rfl
end
end Go.Proofs.YtdkfnkilkndmgaaGreatDoor
