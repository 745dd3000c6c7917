/- Functions, run: part 0. -/
import Derived.Test.YtffaodopiifbkaaGreatDoorCLR
set_option linter.all false
namespace Go.Proofs.YtffaodopiifbkaaGreatDoor
open Go.Abs
set_option maxRecDepth 100000
set_option maxHeartbeats 4000000
noncomputable section
def g1m:=aO 5 ⟨[(1,0),(7,0)],[.int .i64,.ptr 0 0],[.opa 2]⟩ l7
def r14:TX:=fun U fn vs bs=>cS U vs fun a b g=>cI U g fun c h=>cB U h fun i j=>nN U j bs ((U.bind (fn 30 [] []) (kB U (fun k=>bN U k fun l=>U.cnd l (some (.ret Vf,[])) (U.jn (fun d=>U.cnd i (d [VI c,m7] [.cells [.str 4 1886611820,.str a b]]) (d [VI c,m7] [.cells [.str 4 1919251317,.str a b]])) (fun m n=>cI U m fun e o=>u4 U 0 0 o (fun p=>U.uNil p (bO U 2 n fun f q=>U.uNilB q (U.bind (fn 33 [] []) (kL U 2 0 (fun r s t=>U.bind (fn 34 [VI e] []) (kS U (fun u v=>qZ U f fun w=>U.bind (fn 32 [VL r 2 s t,.str u v,.a w 2] []) (fun x y=>U.uTu x fun z=>cS U z fun a0 a1 a2=>cI U a2 fun a3 a4=>nN U a4 y ((U.fB (U.bnot (U.iEq a3 0)) fun a5=>U.cnd a5 (some (.ret Vt,[])) (U.bind (fn 33 [] []) (kL U 2 0 (fun a6 a7 a8=>U.bind (fn 34 [VI e] []) (kS U (fun a9 aA=>U.bind (fn 19 [VL a6 2 a7 a8,.str a9 aA,.str a0 a1] []) (fun aB aC=>U.uTu aB fun aD=>cA U 7 aD fun aE aF=>cA U 2 aF fun aG aH=>nN U aH aC ((qI U aG 0 fun aI=>U.fB (U.iEq aI 0) fun aJ=>U.cnd aJ (qZ U aE fun aK=>qZ U f fun aL=>U.bind (fn 43 [.a aL 2] []) (kA U 7 (fun aM=>U.bind (fn 22 [.a aK 7,.a aM 7] []) (kB U (fun aN=>some (.ret (.bool aN),[]))) (pn U))) (pn U)) (some (.ret Vf,[]))))) (pn U))) (pn U))) (pn U))))) (pn U))) fun _=>none)) fun _=>none))))))) (pn U)))
theorem d6l:Ok 14 r14:=fun h=>x4 h [] [.str,.int .i64,.bool] [] l7 g1m r14 Tryz.func14 Tryz.call14
end
end Go.Proofs.YtffaodopiifbkaaGreatDoor
