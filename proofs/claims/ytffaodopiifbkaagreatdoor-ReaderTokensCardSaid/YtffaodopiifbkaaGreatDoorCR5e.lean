/- The reference's objects: lists and numbers. -/
import Derived.Test.YtffaodopiifbkaaGreatDoorCR5d
set_option linter.all false
namespace Go.Proofs.YtffaodopiifbkaaGreatDoor
open Go.Abs LQ
set_option maxRecDepth 100000
set_option maxHeartbeats 4000000
noncomputable section
def T4:List O→O
 | []=>Z3
 | a :: l=>.co a (T4 l)
def e37 (g:List O→GV):Sp where
 ι:={ l:List O // l.length < 90000 }
 A l:=[.sl 7 (l.1.map O.g)]
 B _:=[]
 R l:=.ret (g l.1)
 B' _:=[]
 inj i j vs bs h k _ _:=by
  obtain ⟨_,_,h1,k1,h,k⟩:=h.two k
  rw [c0w (h1.sl_inj k1)];exact ⟨rfl,rfl⟩
theorem e84:l5 46 (e37 fun l=>.a (T4 l).g):=v7 (fun fn h=>e6q h) [(84,_),(73,_)] (.cons f1h (.cons e8b .nil)) fun U fn hfn ⟨l,hl⟩ vs bs hv hb=>by
 have hn:=hfn 84 _ rfl
 have hc:=hfn 73 _ rfl
 have hl:l.length < 90000:=hl
 have hv:l9 [.sl 7 (l.map O.g)] vs:=hv
 have hb:RBs [] bs:=hb
 show j3 U _ fun v bs'=>m8 (.ret (.a (T4 l).g)) v∧RBs [] bs'
 unfold r46
 (refine Zz ?_;with_reducible repeat' first|intro _|apply aI)
 refine j4 hn () (r:=.a Z3.g) rfl .nil .nil fun _ _ _ _=>?_
 (refine Zz ?_;with_reducible repeat' first|intro _|apply aI)
 refine F8 (fun (m:Nat) vs bs=>∃ (t:j8 Q) (off:Nat) (i:Int) (q:Q),vs=[.slice t 7 off l.length .no,.ptr 0 0,.ptr 1 0,.int .i64 i]∧bs=[.cells [.int .i64 0,.str 0 0,.str 0 0,.str 0 0,.str 0 0,.str 0 0,.slice .nil 0 0 0 .exact],.opa q 7]∧i=m - 1∧m≤l.length∧u6 7 (l.map O.g) t off∧B6 (T4 (l.drop m)).g q 0) (fun m=>m) l.length
  ⟨_,_,_,_,rfl,rfl,rfl,by omega,by assumption,by rw [List.drop_length];assumption⟩ (by simp only [B8];omega) ?_
 rintro self m _ _ ⟨t,off,i,q,rfl,rfl,rfl,hm,ht,hq⟩ ih
 (refine Zz ?_;with_reducible repeat' first|intro _|apply aI)
 ·refine b3i (y:=l[m - 1]) (by assumption) (by rw [show ((m:Int) - 1).toNat=m - 1 by omega];exact List.getElem?_eq_getElem (by omega)) fun _ _=>?_
  (refine Zz ?_;with_reducible repeat' first|intro _|apply aI)
  refine j4 hc (l[m - 1],T4 (l.drop m)) (r:=.a (O.co l[m - 1] (T4 (l.drop m))).g) rfl j9 .nil fun _ _ _ _=>?_
  (refine Zz ?_;with_reducible repeat' first|intro _|apply aI)
  refine ih (m - 1) _ _ ⟨_,_,_,_,rfl,rfl,by omega,by omega,ht,?_⟩ (by omega)
  rw [List.drop_eq_getElem_cons (by omega:m - 1 < l.length),show m - 1+1=m by omega]
  assumption
 ·have em:m=0:=by omega
  subst em
  rw [List.drop_zero] at *
  exact l6 ⟨.ret _ _ j9,.nil⟩
def qn (x y:Int):Int × Nat:=if y=0 then (0,1) else ((if (x < 0)=(y < 0) then 1 else -1) * ((x.natAbs / Nat.gcd x.natAbs y.natAbs:Nat):Int),y.natAbs / Nat.gcd x.natAbs y.natAbs)
theorem a1o (a b:i7):u9 a b=(j6 (qn (i6 a) (i6 b)).1,j5 (qn (i6 a) (i6 b)).2):=by
 unfold u9 qn
 split
 ·rw [b2q];rfl
 ·rfl
def a7a (q:Int × Nat):O:=.num q.1 q.2
theorem d0h:l5 48 (sp2 fun a b=>.ret (.a (a7a (qn (i6 a) (i6 b))).g)):=v7 (fun fn h=>e43 h) [(85,_)] (.cons c54 .nil) fun U fn hfn ⟨(a,b),ha,hbl⟩ vs bs hv hb=>by
 have hr:=hfn 85 _ rfl
 have ha:a.length < 9000:=ha
 have hbl:b.length < 9000:=hbl
 have hv:l9 [.c (.s a),.c (.s b)] vs:=hv
 have hb:RBs [] bs:=hb
 show j3 U _ fun v bs'=>m8 (.ret (.a (a7a (qn (i6 a) (i6 b))).g)) v∧RBs [] bs'
 unfold r48
 (refine Zz ?_;with_reducible repeat' first|intro _|apply aI)
 refine j4 hr ⟨(a,b),ha,hbl⟩ (r:=.t [.c (.s (j6 (qn (i6 a) (i6 b)).1)),.c (.s (j5 (qn (i6 a) (i6 b)).2))]) (by show y4.ret (.t [.c (.s (u9 a b).1),.c (.s (u9 a b).2)])=_;rw [a1o]) j9 .nil fun _ _ _ _=>?_
 (refine Zz ?_;with_reducible repeat' first|intro _|apply aI)
 exact l6 ⟨.ret _ _ j9,.nil⟩
theorem b93 (n:Nat):(j7 n).length≤(j5 n).length:=by
 by_cases h:n=0
 ·subst h;rw [B4];simp
 ·rw [P1 n h];exact Nat.le_refl _
theorem c3l (n:Int):(j7 n.natAbs).length≤(j6 n).length:=by
 have:=b93 n.natAbs
 unfold j6
 split <;> simp <;> omega
end
end Go.Proofs.YtffaodopiifbkaaGreatDoor
