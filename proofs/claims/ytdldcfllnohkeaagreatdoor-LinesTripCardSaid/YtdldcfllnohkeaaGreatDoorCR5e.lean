/- The reference's objects: lists and numbers. -/
import Derived.Test.YtdldcfllnohkeaaGreatDoorCR5d
set_option linter.all false
namespace Go.Proofs.YtdldcfllnohkeaaGreatDoor
open Go.Abs LQ
set_option maxRecDepth 100000
set_option maxHeartbeats 4000000
noncomputable section
def F1:List O→O
 | []=>B3
 | a :: l=>.co a (F1 l)
def f63 (g:List O→GV):Sp where
 ι:={ l:List O // l.length < 90000 }
 A l:=[.sl 7 (l.1.map O.g)]
 B _:=[]
 R l:=.ret (g l.1)
 B' _:=[]
 inj i j vs bs h k _ _:=by
  obtain ⟨_,_,h1,k1,h,k⟩:=h.two k
  rw [c6y (h1.sl_inj k1)];exact ⟨rfl,rfl⟩
theorem e4m:k9 19 (f63 fun l=>.a (F1 l).g):=n9 (fun fn h=>f2m h) [(47,_),(38,_)] (.cons g1p (.cons e4k .nil)) fun U fn hfn ⟨l,hl⟩ vs bs hv hb=>by
 have hn:=hfn 47 _ rfl
 have hc:=hfn 38 _ rfl
 have hl:l.length < 90000:=hl
 have hv:l7 [.sl 7 (l.map O.g)] vs:=hv
 have hb:RBs [] bs:=hb
 show j5 U _ fun v bs'=>l8 (.ret (.a (F1 l).g)) v∧RBs [] bs'
 unfold r19
 (refine Zz ?_;intros)
 refine j4 hn () (r:=.a B3.g) rfl .nil .nil fun _ _ _ _=>?_
 (refine Zz ?_;intros)
 refine H2 (fun (m:Nat) vs bs=>∃ (t:j8 Q) (off:Nat) (i:Int) (q:Q),vs=[.slice t 7 off l.length .no,.ptr 0 0,.ptr 1 0,.int .i64 i]∧bs=[.cells [.int .i64 0,.str 0 0,.str 0 0,.str 0 0,.str 0 0,.str 0 0,.slice .nil 0 0 0 .exact],.opa q 7]∧i=m - 1∧m≤l.length∧p9 7 (l.map O.g) t off∧A6 (F1 (l.drop m)).g q 0) (fun m=>m) l.length
  ⟨_,_,_,_,rfl,rfl,rfl,oM,aS,by rw [List.drop_length];assumption⟩ (by simp only [C4];omega) ?_
 rintro self m _ _ ⟨t,off,i,q,rfl,rfl,rfl,hm,ht,hq⟩ ih
 (refine Zz ?_;with_reducible repeat' first|intro _|apply aI)
 ·refine c1e (y:=l[m - 1]) aS (by rw [show ((m:Int) - 1).toNat=m - 1 by omega];exact List.getElem?_eq_getElem oM) fun _ _=>?_
  (refine Zz ?_;intros)
  refine j4 hc (l[m - 1],F1 (l.drop m)) (r:=.a (O.co l[m - 1] (F1 (l.drop m))).g) rfl l5 .nil fun _ _ _ _=>?_
  (refine Zz ?_;intros)
  refine ih (m - 1) _ _ ⟨_,_,_,_,rfl,rfl,oM,oM,ht,?_⟩ oM
  rw [List.drop_eq_getElem_cons (by omega:m - 1 < l.length),show m - 1+1=m by omega]
  assumption
 ·have em:m=0:=oM
  subst em
  rw [List.drop_zero] at *
  exact j9 ⟨.ret _ _ l5,.nil⟩
def qn (x y:Int):Int × Nat:=if y=0 then (0,1) else ((if (x < 0)=(y < 0) then 1 else -1) * ((x.natAbs / Nat.gcd x.natAbs y.natAbs:Nat):Int),y.natAbs / Nat.gcd x.natAbs y.natAbs)
theorem U4 (a b:i6):u4 a b=(j3 (qn (j0 a) (j0 b)).1,i7 (qn (j0 a) (j0 b)).2):=by
 unfold u4 qn
 split
 ·rw [a9g];rfl
 ·rfl
def a30 (q:Int × Nat):O:=.num q.1 q.2
theorem b2t:k9 22 (sp2 fun a b=>.ret (.a (a30 (qn (j0 a) (j0 b))).g)):=n9 (fun fn h=>f2s h) [(48,_)] (.cons e6v .nil) fun U fn hfn ⟨(a,b),ha,hbl⟩ vs bs hv hb=>by
 have hr:=hfn 48 _ rfl
 have ha:a.length < 9000:=ha
 have hbl:b.length < 9000:=hbl
 have hv:l7 [.c (.s a),.c (.s b)] vs:=hv
 have hb:RBs [] bs:=hb
 show j5 U _ fun v bs'=>l8 (.ret (.a (a30 (qn (j0 a) (j0 b))).g)) v∧RBs [] bs'
 unfold r22
 (refine Zz ?_;intros)
 refine j4 hr ⟨(a,b),ha,hbl⟩ (r:=.t [.c (.s (j3 (qn (j0 a) (j0 b)).1)),.c (.s (i7 (qn (j0 a) (j0 b)).2))]) (by show r7.ret (.t [.c (.s (u4 a b).1),.c (.s (u4 a b).2)])=_;rw [U4]) l5 .nil fun _ _ _ _=>?_
 (refine Zz ?_;intros)
 exact j9 ⟨.ret _ _ l5,.nil⟩
theorem c97 (n:Int):(j3 n).length≤(j7 n.natAbs).length+2:=by
 unfold j3
 have:=a9f n.natAbs
 split <;> simp <;> omega
theorem c3x (n:Nat):(j7 n).length≤(i7 n).length:=by
 by_cases h:n=0
 ·subst h;rw [y9];simp
 ·rw [S5 n h];exact Nat.le_refl _
theorem c5s (n:Int):(j7 n.natAbs).length≤(j3 n).length:=by
 have:=c3x n.natAbs
 unfold j3
 split <;> simp <;> omega
end
end Go.Proofs.YtdldcfllnohkeaaGreatDoor
