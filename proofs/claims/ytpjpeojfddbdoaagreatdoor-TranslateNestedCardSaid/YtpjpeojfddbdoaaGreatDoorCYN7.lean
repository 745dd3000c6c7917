/- Runs. -/
import Derived.Test.YtpjpeojfddbdoaaGreatDoorCYN0
namespace Go.Proofs.YtpjpeojfddbdoaaGreatDoor
open Go.Abs
set_option maxRecDepth 100000
theorem nst_26_f : nstK RW false (.int .i64 26) [] = some (.ret (.bool true), []) := by kernel_rfl
theorem nst_20_f : nstK RW false (.int .i64 20) [] = some (.ret (.bool true), []) := by kernel_rfl
theorem nst_14_f : nstK RW false (.int .i64 14) [] = some (.ret (.bool true), []) := by kernel_rfl
theorem nst_6_f : nstK RW false (.int .i64 6) [] = some (.ret (.bool true), []) := by kernel_rfl
theorem nst_0_f : nstK RW false (.int .i64 0) [] = some (.ret (.bool true), []) := by kernel_rfl
end Go.Proofs.YtpjpeojfddbdoaaGreatDoor
