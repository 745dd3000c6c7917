/- Objects made of trees. -/
import Derived.Test.YtonniadanikanaaGreatDoorCR9e
import Derived.Test.YtonniadanikanaaGreatDoorCRA
set_option linter.all false
namespace Go.Proofs.YtonniadanikanaaGreatDoor
open Go.Abs LQ
set_option maxRecDepth 100000
set_option maxHeartbeats 4000000
noncomputable section
def symNames : List Str := [dec 1 97, dec 1 98, dec 3 7303014, dec 8 7308604895909930095, dec 1 49, dec 3 7961720, dec 1 46, dec 4 858731053, dec 1 35]
def symR (n : Int) : Sy :=
 if n % 13 < 9 then (userS, symNames.getD (n % 13).toNat []) else
 if n % 13 = 9 then (lispS, dec 3 7104878) else
 if n % 13 = 10 then (lispS, dec 1 116) else
 if n % 13 = 11 then (lispS, dec 3 7496035) else (lispS, dec 5 435745158513)
def atR (r : Raw) : O :=
 if r.k % 8 = 0 ∨ r.k % 8 = 1 then .num (r.n % 2001 - 1000) 1 else
 if r.k % 8 = 2 then numO (qn (r.n % 41 - 20) (1 + r.s.length)) else
 if r.k % 8 = 3 then .sy (symR r.n) else .tx r.s
mutual
def objR : Raw → O
 | .mk k n s l => if k % 8 < 5 then atR (.mk k n s l) else
  if k % 8 = 5 then .co ((objRs l).getD 0 (.num (-1000) 1)) ((objRs l).getD 1 (.num (-1000) 1)) else listO (objRs l)
def objRs : List Raw → List O
 | [] => []
 | x :: xs => objR x :: objRs xs
end
end
end Go.Proofs.YtonniadanikanaaGreatDoor
