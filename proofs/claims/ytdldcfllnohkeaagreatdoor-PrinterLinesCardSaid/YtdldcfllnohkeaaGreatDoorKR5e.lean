/- The reference's objects: lists and numbers. -/
import Derived.Test.YtdldcfllnohkeaaGreatDoorKR5d
set_option linter.all false
namespace Go.Proofs.YtdldcfllnohkeaaGreatDoor
open Go.Abs LQ
set_option maxRecDepth 100000
set_option maxHeartbeats 4000000
noncomputable section
def Q5:List O→O
 | []=>A5
 | a :: l=>.co a (Q5 l)
def f86 (g:List O→GV):Sp where
 ι:={ l:List O // l.length < 90000 }
 A l:=[.sl 7 (l.1.map O.g)]
 B _:=[]
 R l:=.ret (g l.1)
 B' _:=[]
 inj i j vs bs h k _ _:=by
  obtain ⟨_,_,h1,k1,h,k⟩:=h.two k
  rw [c33 (h1.sl_inj k1)];exact ⟨rfl,rfl⟩
theorem e1a:j3 19 (f86 fun l=>.a (Q5 l).g):=k7 (fun fn h=>e8w h) [(47,_),(38,_)] (.cons e7k (.cons e08 .nil)) fun U fn hfn ⟨l,hl⟩ vs bs hv hb=>by
 have hn:=hfn 47 _ rfl
 have hc:=hfn 38 _ rfl
 have hl:l.length < 90000:=hl
 have hv:j5 [.sl 7 (l.map O.g)] vs:=hv
 have hb:RBs [] bs:=hb
 show g7 U _ fun v bs'=>j6 (.ret (.a (Q5 l).g)) v∧RBs [] bs'
 unfold r19
 (refine Zz ?_;intros)
 refine f6 hn () (r:=.a A5.g) rfl .nil .nil fun _ _ _ _=>?_
 (refine Zz ?_;intros)
 refine E1 (fun (m:Nat) vs bs=>∃ (t:i7 Q) (off:Nat) (i:Int) (q:Q),vs=[.slice t 7 off l.length .no,.ptr 0 0,.ptr 1 0,.int .i64 i]∧bs=[.cells [.int .i64 0,.str 0 0,.str 0 0,.str 0 0,.str 0 0,.str 0 0,.slice .nil 0 0 0 .exact],.opa q 7]∧i=m - 1∧m≤l.length∧m7 7 (l.map O.g) t off∧u6 (Q5 (l.drop m)).g q 0) (fun m=>m) l.length
  ⟨_,_,_,_,rfl,rfl,rfl,oM,aS,by rw [List.drop_length];assumption⟩ (by simp only [x8];omega) ?_
 rintro self m _ _ ⟨t,off,i,q,rfl,rfl,rfl,hm,ht,hq⟩ ih
 (refine Zz ?_;with_reducible repeat' first|intro _|apply aI)
 ·refine d1v (y:=l[m - 1]) aS (by rw [show ((m:Int) - 1).toNat=m - 1 by omega];exact List.getElem?_eq_getElem oM) fun _ _=>?_
  (refine Zz ?_;intros)
  refine f6 hc (l[m - 1],Q5 (l.drop m)) (r:=.a (O.co l[m - 1] (Q5 (l.drop m))).g) rfl j4 .nil fun _ _ _ _=>?_
  (refine Zz ?_;intros)
  refine ih (m - 1) _ _ ⟨_,_,_,_,rfl,rfl,oM,oM,ht,?_⟩ oM
  rw [List.drop_eq_getElem_cons (by omega:m - 1 < l.length),show m - 1+1=m by omega]
  assumption
 ·have em:m=0:=oM
  subst em
  rw [List.drop_zero] at *
  exact g9 ⟨.ret _ _ j4,.nil⟩
def qn (x y:Int):Int × Nat:=if y=0 then (0,1) else ((if (x < 0)=(y < 0) then 1 else -1) * ((x.natAbs / Nat.gcd x.natAbs y.natAbs:Nat):Int),y.natAbs / Nat.gcd x.natAbs y.natAbs)
theorem Y6 (a b:f5):o7 a b=(f9 (qn (f7 a) (f7 b)).1,f8 (qn (f7 a) (f7 b)).2):=by
 unfold o7 qn
 split
 ·rw [a7l];rfl
 ·rfl
def b1f (q:Int × Nat):O:=.num q.1 q.2
theorem b1b:j3 22 (sp2 fun a b=>.ret (.a (b1f (qn (f7 a) (f7 b))).g)):=k7 (fun fn h=>e82 h) [(48,_)] (.cons c79 .nil) fun U fn hfn ⟨(a,b),ha,hbl⟩ vs bs hv hb=>by
 have hr:=hfn 48 _ rfl
 have ha:a.length < 9000:=ha
 have hbl:b.length < 9000:=hbl
 have hv:j5 [.c (.s a),.c (.s b)] vs:=hv
 have hb:RBs [] bs:=hb
 show g7 U _ fun v bs'=>j6 (.ret (.a (b1f (qn (f7 a) (f7 b))).g)) v∧RBs [] bs'
 unfold r22
 (refine Zz ?_;intros)
 refine f6 hr ⟨(a,b),ha,hbl⟩ (r:=.t [.c (.s (f9 (qn (f7 a) (f7 b)).1)),.c (.s (f8 (qn (f7 a) (f7 b)).2))]) (by show n6.ret (.t [.c (.s (o7 a b).1),.c (.s (o7 a b).2)])=_;rw [Y6]) j4 .nil fun _ _ _ _=>?_
 (refine Zz ?_;intros)
 exact g9 ⟨.ret _ _ j4,.nil⟩
theorem c6z (n:Int):(f9 n).length≤(i6 n.natAbs).length+2:=by
 unfold f9
 have:=a7k n.natAbs
 split <;> simp <;> omega
theorem c05 (n:Nat):(i6 n).length≤(f8 n).length:=by
 by_cases h:n=0
 ·subst h;rw [u9];simp
 ·rw [P2 n h];exact Nat.le_refl _
theorem c2x (n:Int):(i6 n.natAbs).length≤(f9 n).length:=by
 have:=c05 n.natAbs
 unfold f9
 split <;> simp <;> omega
end
end Go.Proofs.YtdldcfllnohkeaaGreatDoor
