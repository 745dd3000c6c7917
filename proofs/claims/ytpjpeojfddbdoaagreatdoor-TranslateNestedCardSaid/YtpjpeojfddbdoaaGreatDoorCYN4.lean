/- Runs. -/
import Derived.Test.YtpjpeojfddbdoaaGreatDoorCYN0
namespace Go.Proofs.YtpjpeojfddbdoaaGreatDoor
open Go.Abs
set_option maxRecDepth 100000
theorem nst_28_t : nstK RW true (.int .i64 28) [] = some (.ret (.bool true), []) := by kernel_rfl
theorem nst_22_t : nstK RW true (.int .i64 22) [] = some (.ret (.bool true), []) := by kernel_rfl
theorem nst_16_t : nstK RW true (.int .i64 16) [] = some (.ret (.bool true), []) := by kernel_rfl
theorem nst_8_t : nstK RW true (.int .i64 8) [] = some (.ret (.bool true), []) := by kernel_rfl
theorem nst_2_t : nstK RW true (.int .i64 2) [] = some (.ret (.bool true), []) := by kernel_rfl
end Go.Proofs.YtpjpeojfddbdoaaGreatDoor
