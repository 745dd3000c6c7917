/- Runs. -/
import Derived.Test.YtpjpeojfddbdoaaGreatDoorCYNA
namespace Go.Proofs.YtpjpeojfddbdoaaGreatDoor
open Go.Abs
set_option maxRecDepth 100000
noncomputable section
theorem h13_9f : RW 13 [(.slice wt29 32 0 29 .no), .slice .nil 0 0 0 .no, .a o9f 7] [] = some (.ret (.tuple [.a tw9 11, .int .i64 0]), []) := by kernel_rfl
theorem h27_10f : RW1 27 [.ptr 0 0, .a o10f 7, .slice .nil 0 0 0 .no] [.cells [(.slice wt29 32 0 29 .no), .slice .nil 37 0 0 .no, .int .i64 0]] = some (.ret (.tuple [.a tw10 11, .int .i64 0]), [.opa (.agg [(.slice wt29 32 0 29), (.slice .nil 37 0 0), (.int .i64 0)] 0) 3]) := by kernel_rfl
theorem h27_10t : RW1 27 [.ptr 0 0, .a o10t 7, .slice .nil 0 0 0 .no] [.cells [(.slice wt29 32 0 29 .no), .slice .nil 37 0 0 .no, .int .i64 0]] = some (.ret (.tuple [.a tw10 11, .int .i64 0]), [.opa (.agg [(.slice wt29 32 0 29), (.slice .nil 37 0 0), (.int .i64 10)] 0) 3]) := by kernel_rfl
end
end Go.Proofs.YtpjpeojfddbdoaaGreatDoor
