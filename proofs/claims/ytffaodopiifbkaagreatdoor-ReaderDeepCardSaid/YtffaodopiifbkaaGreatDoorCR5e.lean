/- The reference's objects: lists and numbers. -/
import Derived.Test.YtffaodopiifbkaaGreatDoorCR5d
set_option linter.all false
namespace Go.Proofs.YtffaodopiifbkaaGreatDoor
open Go.Abs LQ
set_option maxRecDepth 100000
set_option maxHeartbeats 4000000
noncomputable section
def Q3:List O→O
 | []=>R3
 | a :: l=>.co a (Q3 l)
def e4i (g:List O→GV):Sp where
 ι:={ l:List O // l.length < 90000 }
 A l:=[.sl 7 (l.1.map O.g)]
 B _:=[]
 R l:=.ret (g l.1)
 B' _:=[]
 inj i j vs bs h k _ _:=by
  obtain ⟨_,_,h1,k1,h,k⟩:=h.two k
  rw [c3b (h1.sl_inj k1)];exact ⟨rfl,rfl⟩
theorem d82:l6 46 (e4i fun l=>.a (Q3 l).g):=o7 (fun fn h=>e5y h) [(84,_),(73,_)] (.cons e92 (.cons d9c .nil)) fun U fn hfn ⟨l,hl⟩ vs bs hv hb=>by
 have hn:=hfn 84 _ rfl
 have hc:=hfn 73 _ rfl
 have hl:l.length < 90000:=hl
 have hv:l8 [.sl 7 (l.map O.g)] vs:=hv
 have hb:RBs [] bs:=hb
 show j3 U _ fun v bs'=>l7 (.ret (.a (Q3 l).g)) v∧RBs [] bs'
 unfold r46
 (refine Zz ?_;intros)
 refine i6 hn () (r:=.a R3.g) rfl .nil .nil fun _ _ _ _=>?_
 (refine Zz ?_;intros)
 refine C7 (fun (m:Nat) vs bs=>∃ (t:j9 Q) (off:Nat) (i:Int) (q:Q),vs=[.slice t 7 off l.length .no,.ptr 0 0,.ptr 1 0,.int .i64 i]∧bs=[.cells [.int .i64 0,.str 0 0,.str 0 0,.str 0 0,.str 0 0,.str 0 0,.slice .nil 0 0 0 .exact],.opa q 7]∧i=m - 1∧m≤l.length∧p5 7 (l.map O.g) t off∧x4 (Q3 (l.drop m)).g q 0) (fun m=>m) l.length
  ⟨_,_,_,_,rfl,rfl,rfl,oM,aS,by rw [List.drop_length];assumption⟩ (by simp only [x8];omega) ?_
 rintro self m _ _ ⟨t,off,i,q,rfl,rfl,rfl,hm,ht,hq⟩ ih
 (refine Zz ?_;with_reducible repeat' first|intro _|apply aI)
 ·refine b1r (y:=l[m - 1]) aS (by rw [show ((m:Int) - 1).toNat=m - 1 by omega];exact List.getElem?_eq_getElem oM) fun _ _=>?_
  (refine Zz ?_;intros)
  refine i6 hc (l[m - 1],Q3 (l.drop m)) (r:=.a (O.co l[m - 1] (Q3 (l.drop m))).g) rfl j7 .nil fun _ _ _ _=>?_
  (refine Zz ?_;intros)
  refine ih (m - 1) _ _ ⟨_,_,_,_,rfl,rfl,oM,oM,ht,?_⟩ oM
  rw [List.drop_eq_getElem_cons (by omega:m - 1 < l.length),show m - 1+1=m by omega]
  assumption
 ·have em:m=0:=oM
  subst em
  rw [List.drop_zero] at *
  exact k9 ⟨.ret _ _ j7,.nil⟩
def qn (x y:Int):Int × Nat:=if y=0 then (0,1) else ((if (x < 0)=(y < 0) then 1 else -1) * ((x.natAbs / Nat.gcd x.natAbs y.natAbs:Nat):Int),y.natAbs / Nat.gcd x.natAbs y.natAbs)
theorem a1s (a b:j0):s7 a b=(j6 (qn (i7 a) (i7 b)).1,j5 (qn (i7 a) (i7 b)).2):=by
 unfold s7 qn
 split
 ·rw [b26];rfl
 ·rfl
def a7l (q:Int × Nat):O:=.num q.1 q.2
theorem d21:l6 48 (sp2 fun a b=>.ret (.a (a7l (qn (i7 a) (i7 b))).g)):=o7 (fun fn h=>e65 h) [(85,_)] (.cons c6m .nil) fun U fn hfn ⟨(a,b),ha,hbl⟩ vs bs hv hb=>by
 have hr:=hfn 85 _ rfl
 have ha:a.length < 9000:=ha
 have hbl:b.length < 9000:=hbl
 have hv:l8 [.c (.s a),.c (.s b)] vs:=hv
 have hb:RBs [] bs:=hb
 show j3 U _ fun v bs'=>l7 (.ret (.a (a7l (qn (i7 a) (i7 b))).g)) v∧RBs [] bs'
 unfold r48
 (refine Zz ?_;intros)
 refine i6 hr ⟨(a,b),ha,hbl⟩ (r:=.t [.c (.s (j6 (qn (i7 a) (i7 b)).1)),.c (.s (j5 (qn (i7 a) (i7 b)).2))]) (by show t7.ret (.t [.c (.s (s7 a b).1),.c (.s (s7 a b).2)])=_;rw [a1s]) j7 .nil fun _ _ _ _=>?_
 (refine Zz ?_;intros)
 exact k9 ⟨.ret _ _ j7,.nil⟩
theorem c0u (n:Nat):(j8 n).length≤(j5 n).length:=by
 by_cases h:n=0
 ·subst h;rw [y6];simp
 ·rw [O1 n h];exact Nat.le_refl _
theorem c32 (n:Int):(j8 n.natAbs).length≤(j6 n).length:=by
 have:=c0u n.natAbs
 unfold j6
 split <;> simp <;> omega
end
end Go.Proofs.YtffaodopiifbkaaGreatDoor
