/- Runs. -/
import Derived.Test.YtpjpeojfddbdoaaGreatDoorCYN0
namespace Go.Proofs.YtpjpeojfddbdoaaGreatDoor
open Go.Abs
set_option maxRecDepth 100000
theorem nst_24_f : nstK RW false (.int .i64 24) [] = some (.ret (.bool true), []) := by kernel_rfl
theorem nst_18_f : nstK RW false (.int .i64 18) [] = some (.ret (.bool true), []) := by kernel_rfl
theorem nst_12_f : nstK RW false (.int .i64 12) [] = some (.ret (.bool true), []) := by kernel_rfl
theorem nst_4_f : nstK RW false (.int .i64 4) [] = some (.ret (.bool true), []) := by kernel_rfl
end Go.Proofs.YtpjpeojfddbdoaaGreatDoor
