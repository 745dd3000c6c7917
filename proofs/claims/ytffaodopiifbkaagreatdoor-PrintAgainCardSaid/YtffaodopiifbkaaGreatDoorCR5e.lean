/- The reference's objects: lists and numbers. -/
import Derived.Test.YtffaodopiifbkaaGreatDoorCR5d
set_option linter.all false
namespace Go.Proofs.YtffaodopiifbkaaGreatDoor
open Go.Abs LQ
set_option maxRecDepth 100000
set_option maxHeartbeats 4000000
noncomputable section
def E7:List O→O
 | []=>x8
 | a :: l=>.co a (E7 l)
def f3p (g:List O→GV):Sp where
 ι:={ l:List O // l.length < 90000 }
 A l:=[.sl 7 (l.1.map O.g)]
 B _:=[]
 R l:=.ret (g l.1)
 B' _:=[]
 inj i j vs bs h k _ _:=by
  obtain ⟨_,_,h1,k1,h,k⟩:=h.two k
  rw [c55 (h1.sl_inj k1)];exact ⟨rfl,rfl⟩
theorem e5e:l5 46 (f3p fun l=>.a (E7 l).g):=n6 (fun fn h=>f67 h) [(84,_),(73,_)] (.cons g2s (.cons e4y .nil)) fun U fn hfn ⟨l,hl⟩ vs bs hv hb=>by
 have hn:=hfn 84 _ rfl
 have hc:=hfn 73 _ rfl
 have hl:l.length < 90000:=hl
 have hv:l8 [.sl 7 (l.map O.g)] vs:=hv
 have hb:j5 [] bs:=hb
 show j6 U _ fun v bs'=>l9 (.ret (.a (E7 l).g)) v∧j5 [] bs'
 unfold r46
 (refine Zz ?_;intros)
 refine j3 hn () (r:=.a x8.g) rfl .nil .nil fun _ _ _ _=>?_
 (refine Zz ?_;intros)
 refine H0 (fun (m:Nat) vs bs=>∃ (t:j9 Q) (off:Nat) (i:Int) (q:Q),vs=[.slice t 7 off l.length .no,.ptr 0 0,.ptr 1 0,.int .i64 i]∧bs=[.cells [.int .i64 0,.str 0 0,.str 0 0,.str 0 0,.str 0 0,.str 0 0,.slice .nil 0 0 0 .exact],.opa q 7]∧i=m - 1∧m≤l.length∧r7 7 (l.map O.g) t off∧A8 (E7 (l.drop m)).g q 0) (fun m=>m) l.length
  ⟨_,_,_,_,rfl,rfl,rfl,oM,aS,by rw [List.drop_length];assumption⟩ (by simp only [C2];omega) ?_
 rintro self m _ _ ⟨t,off,i,q,rfl,rfl,rfl,hm,ht,hq⟩ ih
 (refine Zz ?_;with_reducible repeat' first|intro _|apply aI)
 ·refine b93 (y:=l[m - 1]) aS (by rw [show ((m:Int) - 1).toNat=m - 1 by omega];exact List.getElem?_eq_getElem oM) fun _ _=>?_
  (refine Zz ?_;intros)
  refine j3 hc (l[m - 1],E7 (l.drop m)) (r:=.a (O.co l[m - 1] (E7 (l.drop m))).g) rfl l6 .nil fun _ _ _ _=>?_
  (refine Zz ?_;intros)
  refine ih (m - 1) _ _ ⟨_,_,_,_,rfl,rfl,oM,oM,ht,?_⟩ oM
  rw [List.drop_eq_getElem_cons (by omega:m - 1 < l.length),show m - 1+1=m by omega]
  assumption
 ·have em:m=0:=oM
  subst em
  rw [List.drop_zero] at *
  exact k9 ⟨.ret _ _ l6,.nil⟩
def qn (x y:Int):Int × Nat:=if y=0 then (0,1) else ((if (x < 0)=(y < 0) then 1 else -1) * ((x.natAbs / Nat.gcd x.natAbs y.natAbs:Nat):Int),y.natAbs / Nat.gcd x.natAbs y.natAbs)
theorem P8 (a b:i6):t7 a b=(j4 (qn (j0 a) (j0 b)).1,i7 (qn (j0 a) (j0 b)).2):=by
 unfold t7 qn
 split
 ·rw [a9b];rfl
 ·rfl
def a3s (q:Int × Nat):O:=.num q.1 q.2
theorem b2l:l5 48 (sp2 fun a b=>.ret (.a (a3s (qn (j0 a) (j0 b))).g)):=n6 (fun fn h=>f6m h) [(85,_)] (.cons e6x .nil) fun U fn hfn ⟨(a,b),ha,hbl⟩ vs bs hv hb=>by
 have hr:=hfn 85 _ rfl
 have ha:a.length < 9000:=ha
 have hbl:b.length < 9000:=hbl
 have hv:l8 [.c (.s a),.c (.s b)] vs:=hv
 have hb:j5 [] bs:=hb
 show j6 U _ fun v bs'=>l9 (.ret (.a (a3s (qn (j0 a) (j0 b))).g)) v∧j5 [] bs'
 unfold r48
 (refine Zz ?_;intros)
 refine j3 hr ⟨(a,b),ha,hbl⟩ (r:=.t [.c (.s (j4 (qn (j0 a) (j0 b)).1)),.c (.s (i7 (qn (j0 a) (j0 b)).2))]) (by show s8.ret (.t [.c (.s (t7 a b).1),.c (.s (t7 a b).2)])=_;rw [P8]) l6 .nil fun _ _ _ _=>?_
 (refine Zz ?_;intros)
 exact k9 ⟨.ret _ _ l6,.nil⟩
theorem c93 (n:Int):(j4 n).length≤(j8 n.natAbs).length+2:=by
 unfold j4
 have:=a88 n.natAbs
 split <;> simp <;> omega
theorem c30 (n:Nat):(j8 n).length≤(i7 n).length:=by
 by_cases h:n=0
 ·subst h;rw [A4];simp
 ·rw [R7 n h];exact Nat.le_refl _
theorem c7k (n:Int):(j8 n.natAbs).length≤(j4 n).length:=by
 have:=c30 n.natAbs
 unfold j4
 split <;> simp <;> omega
end
end Go.Proofs.YtffaodopiifbkaaGreatDoor
