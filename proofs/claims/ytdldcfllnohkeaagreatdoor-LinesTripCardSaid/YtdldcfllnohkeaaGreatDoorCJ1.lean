/- The reference's reader: bytes, blanks, words. -/
import Derived.Test.YtdldcfllnohkeaaGreatDoorCTB
set_option linter.all false
namespace Go.Proofs.YtdldcfllnohkeaaGreatDoor
open Go.Abs LQ
set_option maxRecDepth 100000
set_option maxHeartbeats 4000000
noncomputable section
set_option maxHeartbeats 8000000
set_option maxHeartbeats 16000000
mutual
/-- The place where the reading of an object ends, also where it fails. -/
def atO (L:List Pk) (cur:i6) (T:List x5) (d i:Nat):Nat :=
 if (T.getD i t0).kind=5∨(T.getD i t0).kind=6∨(T.getD i t0).kind=7 then i+1
 else if (T.getD i t0).kind=4∧d≤200∧i+1 < T.length then atO L cur T (d+1) (i+1)
 else if (T.getD i t0).kind=1∧d≤200∧i+1 < T.length then atL L cur T (d+1) (i+1) true
 else i
termination_by 2 * (T.length - i)
decreasing_by all_goals omega
def atL (L:List Pk) (cur:i6) (T:List x5) (d k:Nat) (e:Bool):Nat :=
 if (T.getD k t0).kind=2 then k+1
 else if (T.getD k t0).kind=3∧e=false∧k+1 < T.length then
  match F9 L cur T d (k+1) with
  | .ok (_,j)=>if (T.getD j t0).kind=2 then j+1 else j
  | .error _=>atO L cur T d (k+1)
 else
  match F9 L cur T d k with
  | .ok (_,j)=>if k < j∧j < T.length then atL L cur T d j false else j
  | .error _=>atO L cur T d k
termination_by 2 * (T.length - k)+1
decreasing_by all_goals omega
end
end
end Go.Proofs.YtdldcfllnohkeaaGreatDoor
