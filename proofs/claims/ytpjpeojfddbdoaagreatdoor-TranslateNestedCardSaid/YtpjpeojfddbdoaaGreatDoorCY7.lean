/- The functions, the world known. -/
import Derived.Test.YtpjpeojfddbdoaaGreatDoorCY6
namespace Go.Proofs.YtpjpeojfddbdoaaGreatDoor
open Go.Abs
set_option maxRecDepth 100000
/-- What a function gives, run, the world known. -/
noncomputable def RW (g : FuncId) : FunT := appW (runW ftW 4000 g)
theorem RW_ok (g : FuncId) : FnOk X0 g (RW g) := runW_ok ftW_ok 4000 g
theorem first_eq : RW 5 [] [] = some (.ret (.bool true), []) := by kernel_rfl

end Go.Proofs.YtpjpeojfddbdoaaGreatDoor
