/- The program's reader: objects from C6. -/
import Derived.Test.YtffaodopiifbkaaGreatDoorKEH
set_option linter.all false
namespace Go.Abs
end Go.Abs
namespace Go.Proofs.YtffaodopiifbkaaGreatDoor
open Go.Abs LQ
set_option maxRecDepth 100000
set_option maxHeartbeats 8000000
noncomputable section
set_option maxHeartbeats 16000000
section
variable (hst:j5 203 a1e)
end
end
end Go.Proofs.YtffaodopiifbkaaGreatDoor
