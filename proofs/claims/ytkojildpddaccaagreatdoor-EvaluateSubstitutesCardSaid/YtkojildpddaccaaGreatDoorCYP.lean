/- The world, run step by step. -/
import Derived.Test.YtkojildpddaccaaGreatDoorCYE
set_option linter.all false
namespace Go.Proofs.YtkojildpddaccaaGreatDoor
open Go.Abs
set_option maxRecDepth 100000
set_option maxHeartbeats 4000000
noncomputable section
/-- World's loop: what is done each time. -/
def P7 (U:C3) (fn:FF) (j8:KJ) (l9:LV) (w10:LB):Om:=U.uCons l9 fun v11 l12=>U.uSl 7 0 v11 fun t13 k14 k15=>U.uCons l12 fun v16 l17=>U.uI .i64 v16 fun n18=>U.uCons l17 fun v19 l20=>U.uSl 32 2 v19 fun t21 k22 k23=>U.uNil l20 (U.uConsB w10 fun d24 w25=>U.uBt 32 d24 fun k26=>U.uNilB w25 (U.fI (U.iOfN k15) fun n27=>U.fB (U.iLt n18 n27) fun b28=>U.cnd b28 (U.chk (U.band (U.iLe 0 n18) (U.iLt n18 (U.iOfN k15))) (U.fQ (U.tQ t13 (U.nAdd k14 (U.iNat n18))) fun x29=>U.fQ (U.subQ x29 0) fun x30=>U.bind (fn 30 [(.slice t21 32 k22 k23 .no),(.a x30 7)] []) (fun v31 w32=>U.uA 32 v31 fun x33=>U.uNilB w32 (U.chk (U.band (U.nLe (U.nMul (U.nAdd k23 1) 568) 140737488355328) (U.nLe (U.nAdd k23 1) 140737488355328)) (U.fN (U.nAdd k23 1) fun k34=>U.aT (.node x33 .nil .nil) 1 t21 (U.nAdd k22 k23) 0 fun t35=>U.chk (U.band (U.nEq k26 k23) (U.nEq 32 32)) (U.fI (U.wr .i64 (U.iAdd n18 1)) fun n36=>j8 [(.slice t13 7 k14 k15 .no),(.int .i64 n36),(.slice t35 32 k22 k34 (.tok 0))] [(.tok k34 32)])))) fun v37=>some (.pan (U.rn0 v37),[]))) (U.bind (fn 20 [(.str 12 31382965401887741211696264053)] []) (fun v38 w39=>U.uA 2 v38 fun x40=>U.uNilB w39 (U.bind (fn 31 [] []) (fun v41 w42=>U.uSl 2 0 v41 fun t43 k44 k45=>U.uNilB w42 (U.chk (U.band (U.nLe (U.nMul (U.nAdd k23 1) 568) 140737488355328) (U.nLe (U.nAdd k23 1) 140737488355328)) (U.fN (U.nAdd k23 1) fun k46=>U.aT (.node (.agg [(.int .i64 1),(U.celQ x40 0),(U.celQ x40 1),(.str 4 1919251317),(.slice t43 2 k44 k45),(.str 0 0),(.str 0 0),(.slice .nil 0 0 0),(.bool false),(.int .i64 0),(.str 0 0),(.str 0 0),(.int .i64 0),(.str 0 0),(.str 0 0),(.str 0 0),(.str 0 0),(.str 0 0),(.slice .nil 0 0 0),(.slice .nil 0 0 0),(.slice .nil 0 0 0),(.slice .nil 0 0 0),(.slice .nil 0 0 0),(.slice .nil 0 0 0),(.str 0 0),(.str 0 0),(.slice .nil 0 0 0),(.slice .nil 0 0 0),(.slice .nil 0 0 0),(.slice .nil 0 0 0),(.str 0 0),(.int .u64 0)] 0) .nil .nil) 1 t21 (U.nAdd k22 k23) 0 fun t47=>U.chk (U.band (U.nEq k26 k23) (U.nEq 32 32)) (some (.ret (.slice t47 32 k22 k46 .no),[]))))) fun v48=>some (.pan (U.rn0 v48),[]))) fun v49=>some (.pan (U.rn0 v49),[]))))
def lR (t:TQ) (i:Nat):LV:=[.slice (slT DR) 7 0 28 .no,.int .i64 (Int.ofNat i),.slice t 32 0 i (.tok 0)]
def bR (i:Nat):LB:=[.tok i 32]
def LR (m:Nat) (t:TQ) (i:Nat):Om:=lpN m (P7 CU N5) (lR t i) (bR i)
theorem sR0 (ih:KJ):P7 CU N5 ih [.slice (slT DR) 7 0 28 .no,.int .i64 0,.slice .nil 0 0 0 (.tok 0)] [.tok 0 32]=ih (lR w1 1) (bR 1):=kR
theorem tR0 (m:Nat):lpN (m+1) (P7 CU N5) [.slice (slT DR) 7 0 28 .no,.int .i64 0,.slice .nil 0 0 0 (.tok 0)] [.tok 0 32]=LR m w1 1:=sR0 _
theorem sR1 (ih:KJ):P7 CU N5 ih (lR w1 1) (bR 1)=ih (lR w2 2) (bR 2):=kR
theorem tR1 (m:Nat):LR (m+1) w1 1=LR m w2 2:=sR1 _
theorem sR2 (ih:KJ):P7 CU N5 ih (lR w2 2) (bR 2)=ih (lR w3 3) (bR 3):=kR
theorem tR2 (m:Nat):LR (m+1) w2 2=LR m w3 3:=sR2 _
theorem sR3 (ih:KJ):P7 CU N5 ih (lR w3 3) (bR 3)=ih (lR w4 4) (bR 4):=kR
theorem tR3 (m:Nat):LR (m+1) w3 3=LR m w4 4:=sR3 _
theorem sR4 (ih:KJ):P7 CU N5 ih (lR w4 4) (bR 4)=ih (lR w5 5) (bR 5):=kR
theorem tR4 (m:Nat):LR (m+1) w4 4=LR m w5 5:=sR4 _
theorem sR5 (ih:KJ):P7 CU N5 ih (lR w5 5) (bR 5)=ih (lR w6 6) (bR 6):=kR
theorem tR5 (m:Nat):LR (m+1) w5 5=LR m w6 6:=sR5 _
theorem sR6 (ih:KJ):P7 CU N5 ih (lR w6 6) (bR 6)=ih (lR w7 7) (bR 7):=kR
theorem tR6 (m:Nat):LR (m+1) w6 6=LR m w7 7:=sR6 _
theorem sR7 (ih:KJ):P7 CU N5 ih (lR w7 7) (bR 7)=ih (lR w8 8) (bR 8):=kR
theorem tR7 (m:Nat):LR (m+1) w7 7=LR m w8 8:=sR7 _
theorem sR8 (ih:KJ):P7 CU N5 ih (lR w8 8) (bR 8)=ih (lR w9 9) (bR 9):=kR
theorem tR8 (m:Nat):LR (m+1) w8 8=LR m w9 9:=sR8 _
theorem sR9 (ih:KJ):P7 CU N5 ih (lR w9 9) (bR 9)=ih (lR w10 10) (bR 10):=kR
theorem tR9 (m:Nat):LR (m+1) w9 9=LR m w10 10:=sR9 _
theorem g9y (ih:KJ):P7 CU N5 ih (lR w10 10) (bR 10)=ih (lR w11 11) (bR 11):=kR
theorem h0z (m:Nat):LR (m+1) w10 10=LR m w11 11:=g9y _
theorem g9z (ih:KJ):P7 CU N5 ih (lR w11 11) (bR 11)=ih (lR w12 12) (bR 12):=kR
theorem h00 (m:Nat):LR (m+1) w11 11=LR m w12 12:=g9z _
theorem g90 (ih:KJ):P7 CU N5 ih (lR w12 12) (bR 12)=ih (lR w13 13) (bR 13):=kR
theorem h01 (m:Nat):LR (m+1) w12 12=LR m w13 13:=g90 _
theorem g91 (ih:KJ):P7 CU N5 ih (lR w13 13) (bR 13)=ih (lR w14 14) (bR 14):=kR
theorem h02 (m:Nat):LR (m+1) w13 13=LR m w14 14:=g91 _
theorem g92 (ih:KJ):P7 CU N5 ih (lR w14 14) (bR 14)=ih (lR w15 15) (bR 15):=kR
theorem h03 (m:Nat):LR (m+1) w14 14=LR m w15 15:=g92 _
theorem g93 (ih:KJ):P7 CU N5 ih (lR w15 15) (bR 15)=ih (lR w16 16) (bR 16):=kR
theorem h04 (m:Nat):LR (m+1) w15 15=LR m w16 16:=g93 _
theorem g94 (ih:KJ):P7 CU N5 ih (lR w16 16) (bR 16)=ih (lR w17 17) (bR 17):=kR
theorem h05 (m:Nat):LR (m+1) w16 16=LR m w17 17:=g94 _
theorem g95 (ih:KJ):P7 CU N5 ih (lR w17 17) (bR 17)=ih (lR w18 18) (bR 18):=kR
theorem h06 (m:Nat):LR (m+1) w17 17=LR m w18 18:=g95 _
theorem g96 (ih:KJ):P7 CU N5 ih (lR w18 18) (bR 18)=ih (lR w19 19) (bR 19):=kR
theorem h07 (m:Nat):LR (m+1) w18 18=LR m w19 19:=g96 _
theorem g97 (ih:KJ):P7 CU N5 ih (lR w19 19) (bR 19)=ih (lR w20 20) (bR 20):=kR
theorem h08 (m:Nat):LR (m+1) w19 19=LR m w20 20:=g97 _
theorem g98 (ih:KJ):P7 CU N5 ih (lR w20 20) (bR 20)=ih (lR w21 21) (bR 21):=kR
theorem h09 (m:Nat):LR (m+1) w20 20=LR m w21 21:=g98 _
theorem g99 (ih:KJ):P7 CU N5 ih (lR w21 21) (bR 21)=ih (lR w22 22) (bR 22):=kR
theorem h1a (m:Nat):LR (m+1) w21 21=LR m w22 22:=g99 _
theorem h0a (ih:KJ):P7 CU N5 ih (lR w22 22) (bR 22)=ih (lR w23 23) (bR 23):=kR
theorem h1b (m:Nat):LR (m+1) w22 22=LR m w23 23:=h0a _
theorem h0b (ih:KJ):P7 CU N5 ih (lR w23 23) (bR 23)=ih (lR w24 24) (bR 24):=kR
theorem h1c (m:Nat):LR (m+1) w23 23=LR m w24 24:=h0b _
theorem h0c (ih:KJ):P7 CU N5 ih (lR w24 24) (bR 24)=ih (lR w25 25) (bR 25):=kR
theorem h1d (m:Nat):LR (m+1) w24 24=LR m w25 25:=h0c _
theorem h0d (ih:KJ):P7 CU N5 ih (lR w25 25) (bR 25)=ih (lR w26 26) (bR 26):=kR
theorem h1e (m:Nat):LR (m+1) w25 25=LR m w26 26:=h0d _
theorem h0e (ih:KJ):P7 CU N5 ih (lR w26 26) (bR 26)=ih (lR w27 27) (bR 27):=kR
theorem h1f (m:Nat):LR (m+1) w26 26=LR m w27 27:=h0e _
theorem h0f (ih:KJ):P7 CU N5 ih (lR w27 27) (bR 27)=ih (lR w28 28) (bR 28):=kR
theorem h1g (m:Nat):LR (m+1) w27 27=LR m w28 28:=h0f _
theorem eRl (ih:KJ):P7 CU N5 ih (lR w28 28) (bR 28)=some (.ret WP,[]):=kR
def hR (lpv:((LV→LB→Om)→LV→LB→Om)→LV→LB→Om) (fn:FF):V→LB→Om:=(fun v1 w2=>(CUv lpv).uSl 7 0 v1 fun t3 k4 k5=>(CUv lpv).uNilB w2 ((CUv lpv).lp (P7 (CUv lpv) fn) [(.slice t3 7 k4 k5 .no),(.int .i64 0),(.slice .nil 0 0 0 (.tok 0))] [(.tok 0 32)]))
def pR (lpv:((LV→LB→Om)→LV→LB→Om)→LV→LB→Om):V→Om:=fun v50=>some (.pan ((CUv lpv).rn0 v50),[])
theorem aR (lpv:((LV→LB→Om)→LV→LB→Om)→LV→LB→Om) (fn:FF):r8 (CUv lpv) fn [] []=Abs.bind (fn 29 [] []) (hR lpv fn) (pR lpv):=kR
theorem cR (lpv:((LV→LB→Om)→LV→LB→Om)→LV→LB→Om) (fn:FF):Abs.bind (some (.ret DR,[])) (hR lpv fn) (pR lpv)=lpv (P7 (CUv lpv) fn) [.slice (slT DR) 7 0 28 .no,.int .i64 0,.slice .nil 0 0 0 (.tok 0)] [.tok 0 32]:=kR
theorem g4y:lpN 100000 (P7 CU N5) [.slice (slT DR) 7 0 28 .no,.int .i64 0,.slice .nil 0 0 0 (.tok 0)] [.tok 0 32]=some (.ret WP,[]) :=
 (tR0 99999).trans ((tR1 99998).trans ((tR2 99997).trans ((tR3 99996).trans ((tR4 99995).trans ((tR5 99994).trans ((tR6 99993).trans ((tR7 99992).trans ((tR8 99991).trans ((tR9 99990).trans ((h0z 99989).trans ((h00 99988).trans ((h01 99987).trans ((h02 99986).trans ((h03 99985).trans ((h04 99984).trans ((h05 99983).trans ((h06 99982).trans ((h07 99981).trans ((h08 99980).trans ((h09 99979).trans ((h1a 99978).trans ((h1b 99977).trans ((h1c 99976).trans ((h1d 99975).trans ((h1e 99974).trans ((h1f 99973).trans ((h1g 99972).trans ((eRl (lpN 99971 (P7 CU N5)))))))))))))))))))))))))))))))
theorem f90:r8 CU N5 [] []=some (.ret WP,[]):=by
 have h:=(aR lp N5).trans ((congrArg (fun o=>Abs.bind o _ _) f2z).trans (cR lp N5));rw [f2g,g4z] at h;exact h.trans g4y
theorem g4x:a7t 8 ft1=some (fun fn=>r8 CU fn):=kR
theorem e0t:a4s (b1f ft1 301 8) [] []=some (.ret WP,[]):=(congrFun (congrFun (d8u (n:=300) g4x) []) []).trans f90
def ftW:a28:=(8,fun _=>c68 (.ret WP,[])) :: ft1
theorem f4d:∀ g F,(g,F) ∈ ftW→∀ fn,(∀ g,G8 X0 g (fn g))→G8 X0 g (F fn):=c69 d6w (b44 d6w 301 8) e0t
/-- What a function gives, run, the world known. -/
def RW (g:FuncId):F3:=a4s (b1f ftW 4000 g)
theorem e4u (g:FuncId):G8 X0 g (RW g):=b44 f4d 4000 g
theorem e4o:RW 8 [] []=some (.ret WP,[]):=kR
theorem e1y:RW 5 [] []=some (.ret (.bool true),[]):=kR
end
end Go.Proofs.YtkojildpddaccaaGreatDoor
