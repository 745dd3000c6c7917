/- Runs. -/
import Derived.Test.YtpjpeojfddbdoaaGreatDoorCYN0
namespace Go.Proofs.YtpjpeojfddbdoaaGreatDoor
open Go.Abs
set_option maxRecDepth 100000
theorem nst_29_t : nstK RW true (.int .i64 29) [] = some (.ret (.bool true), []) := by kernel_rfl
theorem nst_23_t : nstK RW true (.int .i64 23) [] = some (.ret (.bool true), []) := by kernel_rfl
theorem nst_17_t : nstK RW true (.int .i64 17) [] = some (.ret (.bool true), []) := by kernel_rfl
theorem nst_11_t : nstK RW true (.int .i64 11) [] = some (.ret (.bool true), []) := by kernel_rfl
theorem nst_3_t : nstK RW true (.int .i64 3) [] = some (.ret (.bool true), []) := by kernel_rfl
end Go.Proofs.YtpjpeojfddbdoaaGreatDoor
