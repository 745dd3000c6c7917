/- Runs. -/
import Derived.Test.YtpjpeojfddbdoaaGreatDoorCYN0
namespace Go.Proofs.YtpjpeojfddbdoaaGreatDoor
open Go.Abs
set_option maxRecDepth 100000
theorem nst_27_f : nstK RW false (.int .i64 27) [] = some (.ret (.bool true), []) := by kernel_rfl
theorem nst_21_f : nstK RW false (.int .i64 21) [] = some (.ret (.bool true), []) := by kernel_rfl
theorem nst_15_f : nstK RW false (.int .i64 15) [] = some (.ret (.bool true), []) := by kernel_rfl
theorem nst_7_f : nstK RW false (.int .i64 7) [] = some (.ret (.bool true), []) := by kernel_rfl
theorem nst_1_f : nstK RW false (.int .i64 1) [] = some (.ret (.bool true), []) := by kernel_rfl
end Go.Proofs.YtpjpeojfddbdoaaGreatDoor
