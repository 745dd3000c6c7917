/- reader.One: what is known. -/
import Derived.Test.YtgipbdffgfbedaaGreatDoorCJ18
set_option linter.all false
namespace Go.Proofs.YtgipbdffgfbedaaGreatDoor
open Go.Abs LQ
set_option maxRecDepth 100000
set_option maxHeartbeats 1000000
noncomputable section
end
end Go.Proofs.YtgipbdffgfbedaaGreatDoor
