/- Functions, run: part 0. -/
import Derived.Test.YtffaodopiifbkaaGreatDoorCLR
set_option linter.all false
namespace Go.Proofs.YtffaodopiifbkaaGreatDoor
open Go.Abs
set_option maxRecDepth 100000
set_option maxHeartbeats 4000000
noncomputable section
def r15:TX:=fun U fn vs bs=>cS U vs fun a d e=>nN U e bs ((U.bind (fn 30 [] []) (kB U (fun f=>bN U f fun g=>U.cnd g (some (.ret Vf,[])) (fO U a fun h=>U.fB (U.iLt 100 h) fun i=>U.cnd i (some (.ret Vt,[])) (U.bind (fn 33 [] []) (kL U 2 0 (fun j k l=>U.bind (fn 19 [VL j 2 k l,.str 4 1919251317,.str a d] []) (fun m n=>U.uTu m fun o=>cA U 7 o fun p q=>cA U 2 q fun r s=>nN U s n ((qI U r 0 fun t=>U.fB (U.bnot (U.iEq t 0)) fun u=>U.cnd u (some (.ret Vt,[])) (U.bind (fn 33 [] []) (kL U 2 0 (fun v w x=>qZ U p fun y=>U.bind (fn 38 [VL v 2 w x,.str 4 1919251317,.a y 7] []) (fun z a0=>U.uTu z fun a1=>cS U a1 fun b c a2=>cI U a2 fun a3 a4=>nN U a4 a0 ((U.fB (U.bnot (U.iEq a3 0)) fun a5=>U.cnd a5 (some (.ret Vf,[])) (U.bind (fn 33 [] []) (kL U 2 0 (fun a6 a7 a8=>U.bind (fn 19 [VL a6 2 a7 a8,.str 4 1919251317,.str b c] []) (fun a9 aA=>U.uTu a9 fun aB=>cA U 7 aB fun aC aD=>cA U 2 aD fun aE aF=>nN U aF aA ((U.bind (fn 33 [] []) (kL U 2 0 (fun aG aH aI=>qZ U aC fun aJ=>U.bind (fn 38 [VL aG 2 aH aI,.str 4 1919251317,.a aJ 7] []) (fun aK aL=>U.uTu aK fun aM=>cS U aM fun aN aO aP=>cI U aP fun aQ aR=>nN U aR aL ((qI U aE 0 fun aS=>U.fB (U.iEq aS 0) fun aT=>U.cnd aT (U.fB (U.iEq aQ 0) fun aU=>U.cnd aU (U.fB (U.sEq b c aN aO) fun aV=>some (.ret (.bool aV),[])) (some (.ret Vf,[]))) (some (.ret Vf,[]))))) (pn U))) fun _=>none))) (pn U))) (pn U))))) (pn U))) fun _=>none)))) (pn U))) (pn U))))) (pn U)))
theorem f5p:Ok 15 r15:=fun h=>x4 h [] [.str] [] l7 l7 r15 Tryz.func15 Tryz.call15
end
end Go.Proofs.YtffaodopiifbkaaGreatDoor
