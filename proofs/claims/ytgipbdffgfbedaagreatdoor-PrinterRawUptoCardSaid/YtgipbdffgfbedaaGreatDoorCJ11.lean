/- reader.Read: the deferred catch, in both modes. -/
import Derived.Test.YtgipbdffgfbedaaGreatDoorCJ10
set_option linter.all false
namespace Go.Proofs.YtgipbdffgfbedaaGreatDoor
open Go.Abs
set_option maxRecDepth 100000
set_option maxHeartbeats 1000000
end Go.Proofs.YtgipbdffgfbedaaGreatDoor
