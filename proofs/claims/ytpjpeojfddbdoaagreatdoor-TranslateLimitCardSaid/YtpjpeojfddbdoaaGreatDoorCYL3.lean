/- Runs. -/
import Derived.Test.YtpjpeojfddbdoaaGreatDoorCYL0
namespace Go.Proofs.YtpjpeojfddbdoaaGreatDoor
open Go.Abs
set_option maxRecDepth 100000
theorem lim_2_f : limK RW false (.int .i64 2) [] = some (.ret (.bool true), []) := by kernel_rfl
theorem lim_2_t : limK RW true (.int .i64 2) [] = some (.ret (.bool true), []) := by kernel_rfl
end Go.Proofs.YtpjpeojfddbdoaaGreatDoor
