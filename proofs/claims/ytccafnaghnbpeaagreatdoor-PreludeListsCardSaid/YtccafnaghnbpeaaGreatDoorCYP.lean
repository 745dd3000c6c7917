/- The world, run step by step. -/
import Derived.Test.YtccafnaghnbpeaaGreatDoorCYE
set_option linter.all false
namespace Go.Proofs.YtccafnaghnbpeaaGreatDoor
open Go.Abs
set_option maxRecDepth 100000
set_option maxHeartbeats 4000000
noncomputable section
/-- World's loop: what is done each time. -/
def r15L (U : CombU) (fn : FF) (j9 : KJ) (l10 : LV) (w11 : LB) : Om := U.uCons l10 fun v12 l13 => U.uSl 1 0 v12 fun t14 k15 k16 => U.uCons l13 fun v17 l18 => U.uI .i64 v17 fun n19 => U.uCons l18 fun v20 l21 => U.uI .i64 v20 fun n22 => U.uCons l21 fun v23 l24 => U.uSl 32 2 v23 fun t25 k26 k27 => U.uNil l24 (U.uConsB w11 fun d28 w29 => U.uBt 32 d28 fun k30 => U.uNilB w29 (U.fB (U.iLt n22 n19) fun b31 => U.cnd b31 (U.chk (U.band (U.iLe 0 n22) (U.iLt n22 (U.iOfN k16))) (U.fQ (U.tQ t14 (U.nAdd k15 (U.iNat n22))) fun x32 => U.fQ (U.celQ x32 0) fun x33 => U.bind (fn 31 [(.slice t25 32 k26 k27 .no), (.q x33)] []) (fun v34 w35 => U.uA 37 v34 fun x36 => U.uNilB w35 (U.fQ (U.subQ x36 0) fun x37 => U.fQ (U.subQ x36 0) fun x38 => U.chk (U.band (U.nLe (U.nMul (U.nAdd k27 1) 568) 140737488355328) (U.nLe (U.nAdd k27 1) 140737488355328)) (U.fN (U.nAdd k27 1) fun k39 => U.aT (.node (.agg [(.int .i64 3), (U.celQ x37 0), (U.celQ x37 1), (.str 0 0), (.slice .nil 0 0 0), (.str 0 0), (.str 0 0), (.slice .nil 0 0 0), (.bool false), (.int .i64 0), (.str 0 0), (.str 0 0), (.int .i64 0), (.str 0 0), (.str 0 0), (.str 0 0), (.str 0 0), (.str 0 0), (.slice .nil 0 0 0), (.slice .nil 0 0 0), (.slice (.node x38 .nil .nil) 37 0 1), (.slice .nil 0 0 0), (.slice .nil 0 0 0), (.slice .nil 0 0 0), (.str 0 0), (.str 0 0), (.slice .nil 0 0 0), (.slice .nil 0 0 0), (.slice .nil 0 0 0), (.slice .nil 0 0 0), (.str 0 0), (.int .u64 0)] 0) .nil .nil) 1 t25 (U.nAdd k26 k27) 0 fun t40 => U.chk (U.band (U.nEq k30 k27) (U.nEq 32 32)) (U.fI (U.wr .i64 (U.iAdd n22 1)) fun n41 => j9 [(.slice t14 1 k15 k16 .no), (.int .i64 n19), (.int .i64 n41), (.slice t40 32 k26 k39 (.tok 0))] [(.tok k39 32)])))) fun v42 => some (.pan (U.rn0 v42), []))) (U.bind (fn 20 [] []) (fun v43 w44 => U.uSl 2 0 v43 fun t45 k46 k47 => U.uNilB w44 (U.bind (fn 32 [(.str 12 31382965401887741211696264053)] []) (fun v48 w49 => U.uA 2 v48 fun x50 => U.uNilB w49 (U.chk (U.band (U.nLe (U.nMul (U.nAdd k27 1) 568) 140737488355328) (U.nLe (U.nAdd k27 1) 140737488355328)) (U.fN (U.nAdd k27 1) fun k51 => U.aT (.node (.agg [(.int .i64 1), (U.celQ x50 0), (U.celQ x50 1), (.str 4 1919251317), (.slice t45 2 k46 k47), (.str 0 0), (.str 0 0), (.slice .nil 0 0 0), (.bool false), (.int .i64 0), (.str 0 0), (.str 0 0), (.int .i64 0), (.str 0 0), (.str 0 0), (.str 0 0), (.str 0 0), (.str 0 0), (.slice .nil 0 0 0), (.slice .nil 0 0 0), (.slice .nil 0 0 0), (.slice .nil 0 0 0), (.slice .nil 0 0 0), (.slice .nil 0 0 0), (.str 0 0), (.str 0 0), (.slice .nil 0 0 0), (.slice .nil 0 0 0), (.slice .nil 0 0 0), (.slice .nil 0 0 0), (.str 0 0), (.int .u64 0)] 0) .nil .nil) 1 t25 (U.nAdd k26 k27) 0 fun t52 => U.chk (U.band (U.nEq k30 k27) (U.nEq 32 32)) (some (.ret (.slice t52 32 k26 k51 .no), []))))) fun _ => none)) fun v54 => some (.pan (U.rn0 v54), []))))
def lP (t : TQ) (i : Nat) : LV := [.slice (slT DP) 1 0 28 .no, .int .i64 28, .int .i64 (Int.ofNat i), .slice t 32 0 i (.tok 0)]
def bP (i : Nat) : LB := [.tok i 32]
def LP (m : Nat) (t : TQ) (i : Nat) : Om := lpN m (r15L CU RL1) (lP t i) (bP i)
theorem sP0 (ih : KJ) : r15L CU RL1 ih [.slice (slT DP) 1 0 28 .no, .int .i64 28, .int .i64 0, .slice .nil 0 0 0 (.tok 0)] [.tok 0 32] = ih (lP w1 1) (bP 1) := by kernel_rfl
theorem tP0 (m : Nat) : lpN (m + 1) (r15L CU RL1) [.slice (slT DP) 1 0 28 .no, .int .i64 28, .int .i64 0, .slice .nil 0 0 0 (.tok 0)] [.tok 0 32] = LP m w1 1 := sP0 _
theorem sP1 (ih : KJ) : r15L CU RL1 ih (lP w1 1) (bP 1) = ih (lP w2 2) (bP 2) := by kernel_rfl
theorem tP1 (m : Nat) : LP (m + 1) w1 1 = LP m w2 2 := sP1 _
theorem sP2 (ih : KJ) : r15L CU RL1 ih (lP w2 2) (bP 2) = ih (lP w3 3) (bP 3) := by kernel_rfl
theorem tP2 (m : Nat) : LP (m + 1) w2 2 = LP m w3 3 := sP2 _
theorem sP3 (ih : KJ) : r15L CU RL1 ih (lP w3 3) (bP 3) = ih (lP w4 4) (bP 4) := by kernel_rfl
theorem tP3 (m : Nat) : LP (m + 1) w3 3 = LP m w4 4 := sP3 _
theorem sP4 (ih : KJ) : r15L CU RL1 ih (lP w4 4) (bP 4) = ih (lP w5 5) (bP 5) := by kernel_rfl
theorem tP4 (m : Nat) : LP (m + 1) w4 4 = LP m w5 5 := sP4 _
theorem sP5 (ih : KJ) : r15L CU RL1 ih (lP w5 5) (bP 5) = ih (lP w6 6) (bP 6) := by kernel_rfl
theorem tP5 (m : Nat) : LP (m + 1) w5 5 = LP m w6 6 := sP5 _
theorem sP6 (ih : KJ) : r15L CU RL1 ih (lP w6 6) (bP 6) = ih (lP w7 7) (bP 7) := by kernel_rfl
theorem tP6 (m : Nat) : LP (m + 1) w6 6 = LP m w7 7 := sP6 _
theorem sP7 (ih : KJ) : r15L CU RL1 ih (lP w7 7) (bP 7) = ih (lP w8 8) (bP 8) := by kernel_rfl
theorem tP7 (m : Nat) : LP (m + 1) w7 7 = LP m w8 8 := sP7 _
theorem sP8 (ih : KJ) : r15L CU RL1 ih (lP w8 8) (bP 8) = ih (lP w9 9) (bP 9) := by kernel_rfl
theorem tP8 (m : Nat) : LP (m + 1) w8 8 = LP m w9 9 := sP8 _
theorem sP9 (ih : KJ) : r15L CU RL1 ih (lP w9 9) (bP 9) = ih (lP w10 10) (bP 10) := by kernel_rfl
theorem tP9 (m : Nat) : LP (m + 1) w9 9 = LP m w10 10 := sP9 _
theorem sP10 (ih : KJ) : r15L CU RL1 ih (lP w10 10) (bP 10) = ih (lP w11 11) (bP 11) := by kernel_rfl
theorem tP10 (m : Nat) : LP (m + 1) w10 10 = LP m w11 11 := sP10 _
theorem sP11 (ih : KJ) : r15L CU RL1 ih (lP w11 11) (bP 11) = ih (lP w12 12) (bP 12) := by kernel_rfl
theorem tP11 (m : Nat) : LP (m + 1) w11 11 = LP m w12 12 := sP11 _
theorem sP12 (ih : KJ) : r15L CU RL1 ih (lP w12 12) (bP 12) = ih (lP w13 13) (bP 13) := by kernel_rfl
theorem tP12 (m : Nat) : LP (m + 1) w12 12 = LP m w13 13 := sP12 _
theorem sP13 (ih : KJ) : r15L CU RL1 ih (lP w13 13) (bP 13) = ih (lP w14 14) (bP 14) := by kernel_rfl
theorem tP13 (m : Nat) : LP (m + 1) w13 13 = LP m w14 14 := sP13 _
theorem sP14 (ih : KJ) : r15L CU RL1 ih (lP w14 14) (bP 14) = ih (lP w15 15) (bP 15) := by kernel_rfl
theorem tP14 (m : Nat) : LP (m + 1) w14 14 = LP m w15 15 := sP14 _
theorem sP15 (ih : KJ) : r15L CU RL1 ih (lP w15 15) (bP 15) = ih (lP w16 16) (bP 16) := by kernel_rfl
theorem tP15 (m : Nat) : LP (m + 1) w15 15 = LP m w16 16 := sP15 _
theorem sP16 (ih : KJ) : r15L CU RL1 ih (lP w16 16) (bP 16) = ih (lP w17 17) (bP 17) := by kernel_rfl
theorem tP16 (m : Nat) : LP (m + 1) w16 16 = LP m w17 17 := sP16 _
theorem sP17 (ih : KJ) : r15L CU RL1 ih (lP w17 17) (bP 17) = ih (lP w18 18) (bP 18) := by kernel_rfl
theorem tP17 (m : Nat) : LP (m + 1) w17 17 = LP m w18 18 := sP17 _
theorem sP18 (ih : KJ) : r15L CU RL1 ih (lP w18 18) (bP 18) = ih (lP w19 19) (bP 19) := by kernel_rfl
theorem tP18 (m : Nat) : LP (m + 1) w18 18 = LP m w19 19 := sP18 _
theorem sP19 (ih : KJ) : r15L CU RL1 ih (lP w19 19) (bP 19) = ih (lP w20 20) (bP 20) := by kernel_rfl
theorem tP19 (m : Nat) : LP (m + 1) w19 19 = LP m w20 20 := sP19 _
theorem sP20 (ih : KJ) : r15L CU RL1 ih (lP w20 20) (bP 20) = ih (lP w21 21) (bP 21) := by kernel_rfl
theorem tP20 (m : Nat) : LP (m + 1) w20 20 = LP m w21 21 := sP20 _
theorem sP21 (ih : KJ) : r15L CU RL1 ih (lP w21 21) (bP 21) = ih (lP w22 22) (bP 22) := by kernel_rfl
theorem tP21 (m : Nat) : LP (m + 1) w21 21 = LP m w22 22 := sP21 _
theorem sP22 (ih : KJ) : r15L CU RL1 ih (lP w22 22) (bP 22) = ih (lP w23 23) (bP 23) := by kernel_rfl
theorem tP22 (m : Nat) : LP (m + 1) w22 22 = LP m w23 23 := sP22 _
theorem sP23 (ih : KJ) : r15L CU RL1 ih (lP w23 23) (bP 23) = ih (lP w24 24) (bP 24) := by kernel_rfl
theorem tP23 (m : Nat) : LP (m + 1) w23 23 = LP m w24 24 := sP23 _
theorem sP24 (ih : KJ) : r15L CU RL1 ih (lP w24 24) (bP 24) = ih (lP w25 25) (bP 25) := by kernel_rfl
theorem tP24 (m : Nat) : LP (m + 1) w24 24 = LP m w25 25 := sP24 _
theorem sP25 (ih : KJ) : r15L CU RL1 ih (lP w25 25) (bP 25) = ih (lP w26 26) (bP 26) := by kernel_rfl
theorem tP25 (m : Nat) : LP (m + 1) w25 25 = LP m w26 26 := sP25 _
theorem sP26 (ih : KJ) : r15L CU RL1 ih (lP w26 26) (bP 26) = ih (lP w27 27) (bP 27) := by kernel_rfl
theorem tP26 (m : Nat) : LP (m + 1) w26 26 = LP m w27 27 := sP26 _
theorem sP27 (ih : KJ) : r15L CU RL1 ih (lP w27 27) (bP 27) = ih (lP w28 28) (bP 28) := by kernel_rfl
theorem tP27 (m : Nat) : LP (m + 1) w27 27 = LP m w28 28 := sP27 _
theorem eP (ih : KJ) : r15L CU RL1 ih (lP w28 28) (bP 28) = some (.ret WP, []) := by kernel_rfl
def hP (lpv : ((LV → LB → Om) → LV → LB → Om) → LV → LB → Om) (fn : FF) : V → LB → Om := (fun v1 w2 => (CUv lpv).uSl 1 0 v1 fun t3 k4 k5 => (CUv lpv).uNilB w2 ((CUv lpv).fI ((CUv lpv).iOfN k5) fun n6 => (CUv lpv).lp (r15L (CUv lpv) fn) [(.slice t3 1 k4 k5 .no), (.int .i64 n6), (.int .i64 0), (.slice .nil 0 0 0 (.tok 0))] [(.tok 0 32)]))
def pP (lpv : ((LV → LB → Om) → LV → LB → Om) → LV → LB → Om) : V → Om := fun v55 => some (.pan ((CUv lpv).rn0 v55), [])
theorem aP (lpv : ((LV → LB → Om) → LV → LB → Om) → LV → LB → Om) (fn : FF) : r15 (CUv lpv) fn [] [] = Abs.bind (fn 30 [] []) (hP lpv fn) (pP lpv) := by kernel_rfl
theorem cP (lpv : ((LV → LB → Om) → LV → LB → Om) → LV → LB → Om) (fn : FF) : Abs.bind (some (.ret DP, [])) (hP lpv fn) (pP lpv) = lpv (r15L (CUv lpv) fn) [.slice (slT DP) 1 0 28 .no, .int .i64 28, .int .i64 0, .slice .nil 0 0 0 (.tok 0)] [.tok 0 32] := by kernel_rfl
theorem loopP : lpN 100000 (r15L CU RL1) [.slice (slT DP) 1 0 28 .no, .int .i64 28, .int .i64 0, .slice .nil 0 0 0 (.tok 0)] [.tok 0 32] = some (.ret WP, []) :=
 (tP0 99999).trans ((tP1 99998).trans ((tP2 99997).trans ((tP3 99996).trans ((tP4 99995).trans ((tP5 99994).trans ((tP6 99993).trans ((tP7 99992).trans ((tP8 99991).trans ((tP9 99990).trans ((tP10 99989).trans ((tP11 99988).trans ((tP12 99987).trans ((tP13 99986).trans ((tP14 99985).trans ((tP15 99984).trans ((tP16 99983).trans ((tP17 99982).trans ((tP18 99981).trans ((tP19 99980).trans ((tP20 99979).trans ((tP21 99978).trans ((tP22 99977).trans ((tP23 99976).trans ((tP24 99975).trans ((tP25 99974).trans ((tP26 99973).trans ((tP27 99972).trans ((eP (lpN 99971 (r15L CU RL1)))))))))))))))))))))))))))))))
theorem r15_eqW : r15 CU RL1 [] [] = some (.ret WP, []) := by
 have h := (aP lp RL1).trans ((congrArg (fun o => Abs.bind o _ _) dP_eq1).trans (cP lp RL1))
 rw [CUv_lp, lp_eq] at h
 exact h.trans loopP
theorem look15 : lookF 15 ft1 = some (fun fn => r15 CU fn) := by kernel_rfl
theorem worldP_eq : appW (runW ft1 301 15) [] [] = some (.ret WP, []) := (congrFun (congrFun (runW_succ (n := 300) look15) []) []).trans r15_eqW
end
end Go.Proofs.YtccafnaghnbpeaaGreatDoor
namespace Go.Proofs.YtccafnaghnbpeaaGreatDoor
open Go.Abs
set_option maxRecDepth 100000
noncomputable section
def ftW : FTab := (15, fun _ => litF (.ret WP, [])) :: ft1
theorem ftW_ok : ∀ g F, (g, F) ∈ ftW → ∀ fn, (∀ g, FnOk X0 g (fn g)) → FnOk X0 g (F fn) := litF_tab ft1_ok (runW_ok ft1_ok 301 15) worldP_eq
/-- What a function gives, run, the world known. -/
def RW (g : FuncId) : FunT := appW (runW ftW 4000 g)
theorem RW_ok (g : FuncId) : FnOk X0 g (RW g) := runW_ok ftW_ok 4000 g
theorem world_eq : RW 15 [] [] = some (.ret WP, []) := by kernel_rfl
theorem first_eq : RW 4 [] [] = some (.ret (.bool true), []) := by kernel_rfl
end
end Go.Proofs.YtccafnaghnbpeaaGreatDoor
