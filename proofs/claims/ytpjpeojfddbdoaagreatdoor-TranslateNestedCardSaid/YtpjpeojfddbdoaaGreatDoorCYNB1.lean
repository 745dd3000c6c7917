/- Runs. -/
import Derived.Test.YtpjpeojfddbdoaaGreatDoorCYNA
namespace Go.Proofs.YtpjpeojfddbdoaaGreatDoor
open Go.Abs
set_option maxRecDepth 100000
noncomputable section
theorem h12_9f : RW 12 [(.slice wt29 32 0 29 .no), .slice .nil 0 0 0 .no, .a o9f 7] [] = some (.ret (.tuple [.a tw9 11, .int .i64 0]), []) := by kernel_rfl
theorem h14_9 : RW 14 [.a tw9 11, .a tw9 11] [] = some (.ret (.bool true), []) := by kernel_rfl
theorem h30_10 : RW1 30 [.a tw10 11] [] = some (.ret (.bool true), []) := by kernel_rfl
end
end Go.Proofs.YtpjpeojfddbdoaaGreatDoor
