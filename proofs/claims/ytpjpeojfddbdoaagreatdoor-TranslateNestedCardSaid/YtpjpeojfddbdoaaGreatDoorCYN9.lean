/- Runs. -/
import Derived.Test.YtpjpeojfddbdoaaGreatDoorCYN0
namespace Go.Proofs.YtpjpeojfddbdoaaGreatDoor
open Go.Abs
set_option maxRecDepth 100000
theorem nst_25_f : nstK RW false (.int .i64 25) [] = some (.ret (.bool true), []) := by kernel_rfl
theorem nst_19_f : nstK RW false (.int .i64 19) [] = some (.ret (.bool true), []) := by kernel_rfl
theorem nst_13_f : nstK RW false (.int .i64 13) [] = some (.ret (.bool true), []) := by kernel_rfl
theorem nst_5_f : nstK RW false (.int .i64 5) [] = some (.ret (.bool true), []) := by kernel_rfl
end Go.Proofs.YtpjpeojfddbdoaaGreatDoor
