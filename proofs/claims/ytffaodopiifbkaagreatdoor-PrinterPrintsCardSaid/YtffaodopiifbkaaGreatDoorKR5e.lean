/- The reference's objects: lists and numbers. -/
import Derived.Test.YtffaodopiifbkaaGreatDoorKR5d
set_option linter.all false
namespace Go.Proofs.YtffaodopiifbkaaGreatDoor
open Go.Abs LQ
set_option maxRecDepth 100000
set_option maxHeartbeats 4000000
noncomputable section
def P6:List O→O
 | []=>z8
 | a :: l=>.co a (P6 l)
def f7u (g:List O→GV):Sp where
 ι:={ l:List O // l.length < 90000 }
 A l:=[.sl 7 (l.1.map O.g)]
 B _:=[]
 R l:=.ret (g l.1)
 B' _:=[]
 inj i j vs bs h k _ _:=by
  obtain ⟨_,_,h1,k1,h,k⟩:=h.two k
  rw [c39 (h1.sl_inj k1)];exact ⟨rfl,rfl⟩
theorem e0t:j5 46 (f7u fun l=>.a (P6 l).g):=k8 (fun fn h=>e9b h) [(84,_),(73,_)] (.cons e7f (.cons e0c .nil)) fun U fn hfn ⟨l,hl⟩ vs bs hv hb=>by
 have hn:=hfn 84 _ rfl
 have hc:=hfn 73 _ rfl
 have hl:l.length < 90000:=hl
 have hv:j6 [.sl 7 (l.map O.g)] vs:=hv
 have hb:g9 [] bs:=hb
 show g8 U _ fun v bs'=>j7 (.ret (.a (P6 l).g)) v∧g9 [] bs'
 unfold r46
 (refine Zz ?_;intros)
 refine f5 hn () (r:=.a z8.g) rfl .nil .nil fun _ _ _ _=>?_
 (refine Zz ?_;intros)
 refine D3 (fun (m:Nat) vs bs=>∃ (t:j0 Q) (off:Nat) (i:Int) (q:Q),vs=[.slice t 7 off l.length .no,.ptr 0 0,.ptr 1 0,.int .i64 i]∧bs=[.cells [.int .i64 0,.str 0 0,.str 0 0,.str 0 0,.str 0 0,.str 0 0,.slice .nil 0 0 0 .exact],.opa q 7]∧i=m - 1∧m≤l.length∧m8 7 (l.map O.g) t off∧u1 (P6 (l.drop m)).g q 0) (fun m=>m) l.length
  ⟨_,_,_,_,rfl,rfl,rfl,oM,aS,by rw [List.drop_length];assumption⟩ (by simp only [v8];omega) ?_
 rintro self m _ _ ⟨t,off,i,q,rfl,rfl,rfl,hm,ht,hq⟩ ih
 (refine Zz ?_;with_reducible repeat' first|intro _|apply aI)
 ·refine c8j (y:=l[m - 1]) aS (by rw [show ((m:Int) - 1).toNat=m - 1 by omega];exact List.getElem?_eq_getElem oM) fun _ _=>?_
  (refine Zz ?_;intros)
  refine f5 hc (l[m - 1],P6 (l.drop m)) (r:=.a (O.co l[m - 1] (P6 (l.drop m))).g) rfl j4 .nil fun _ _ _ _=>?_
  (refine Zz ?_;intros)
  refine ih (m - 1) _ _ ⟨_,_,_,_,rfl,rfl,oM,oM,ht,?_⟩ oM
  rw [List.drop_eq_getElem_cons (by omega:m - 1 < l.length),show m - 1+1=m by omega]
  assumption
 ·have em:m=0:=oM
  subst em
  rw [List.drop_zero] at *
  exact i6 ⟨.ret _ _ j4,.nil⟩
def qn (x y:Int):Int × Nat:=if y=0 then (0,1) else ((if (x < 0)=(y < 0) then 1 else -1) * ((x.natAbs / Nat.gcd x.natAbs y.natAbs:Nat):Int),y.natAbs / Nat.gcd x.natAbs y.natAbs)
theorem X1 (a b:f4):n9 a b=(f8 (qn (f6 a) (f6 b)).1,f7 (qn (f6 a) (f6 b)).2):=by
 unfold n9 qn
 split
 ·rw [a6i];rfl
 ·rfl
def a9x (q:Int × Nat):O:=.num q.1 q.2
theorem b1h:j5 48 (sp2 fun a b=>.ret (.a (a9x (qn (f6 a) (f6 b))).g)):=k8 (fun fn h=>e6k h) [(85,_)] (.cons c6l .nil) fun U fn hfn ⟨(a,b),ha,hbl⟩ vs bs hv hb=>by
 have hr:=hfn 85 _ rfl
 have ha:a.length < 9000:=ha
 have hbl:b.length < 9000:=hbl
 have hv:j6 [.c (.s a),.c (.s b)] vs:=hv
 have hb:g9 [] bs:=hb
 show g8 U _ fun v bs'=>j7 (.ret (.a (a9x (qn (f6 a) (f6 b))).g)) v∧g9 [] bs'
 unfold r48
 (refine Zz ?_;intros)
 refine f5 hr ⟨(a,b),ha,hbl⟩ (r:=.t [.c (.s (f8 (qn (f6 a) (f6 b)).1)),.c (.s (f7 (qn (f6 a) (f6 b)).2))]) (by show n5.ret (.t [.c (.s (n9 a b).1),.c (.s (n9 a b).2)])=_;rw [X1]) j4 .nil fun _ _ _ _=>?_
 (refine Zz ?_;intros)
 exact i6 ⟨.ret _ _ j4,.nil⟩
theorem c5l (n:Int):(f8 n).length≤(i7 n.natAbs).length+2:=by
 unfold f8
 have:=a6c n.natAbs
 split <;> simp <;> omega
theorem c0h (n:Nat):(i7 n).length≤(f7 n).length:=by
 by_cases h:n=0
 ·subst h;rw [u3];simp
 ·rw [N9 n h];exact Nat.le_refl _
theorem c15 (n:Int):(i7 n.natAbs).length≤(f8 n).length:=by
 have:=c0h n.natAbs
 unfold f8
 split <;> simp <;> omega
end
end Go.Proofs.YtffaodopiifbkaaGreatDoor
