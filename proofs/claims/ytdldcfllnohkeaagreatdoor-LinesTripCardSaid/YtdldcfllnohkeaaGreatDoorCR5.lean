/- The reference's numbers: quotients in lowest terms. -/
import Derived.Test.YtdldcfllnohkeaaGreatDoorCR4e
set_option linter.all false
namespace Go.Proofs.YtdldcfllnohkeaaGreatDoor
open Go.Abs LQ
set_option maxRecDepth 100000
set_option maxHeartbeats 4000000
noncomputable section
theorem a9f (n:Nat):(i7 n).length≤(j7 n).length+1:=by
 by_cases h:n=0
 ·subst h;decide
 ·rw [S5 n h];omega
theorem e6v:k9 48 (sp2 fun a b=>.ret (.t [.c (.s (u4 a b).1),.c (.s (u4 a b).2)])):=n9 (fun fn h=>f4c h) [(77,_),(79,_),(80,_),(78,_)] (.cons d1d (.cons e4o (.cons e4q (.cons g1n .nil)))) fun U fn hfn ⟨(a,b),ha,hbl⟩ vs bs hv hb=>by
 have hd:=hfn 77 _ rfl
 have ho:=hfn 79 _ rfl
 have hx:=hfn 80 _ rfl
 have hg:=hfn 78 _ rfl
 have ha:a.length < 9000:=ha
 have hbl:b.length < 9000:=hbl
 have hv:l7 [.c (.s a),.c (.s b)] vs:=hv
 have hb:RBs [] bs:=hb
 show j5 U _ fun v bs'=>l8 (.ret (.t [.c (.s (u4 a b).1),.c (.s (u4 a b).2)])) v∧RBs [] bs'
 have la:=a1y a
 have lb:=a1y b
 unfold r48
 (refine Zx ?_;intros)
 refine j4 hd ⟨b,oM⟩ (r:=.t [.c (.b (decide (j0 b < 0))),.sl 1 ((j7 (j0 b).natAbs).map dg)]) rfl l5 .nil fun _ _ _ _=>?_
 (refine Zx ?_;with_reducible repeat' first|intro _|apply aI)
 ·have e0:j0 b=0:=by
   have h1:=D8 (j0 b).natAbs
   rw [List.length_eq_zero_iff.1 (by omega:(j7 (j0 b).natAbs).length=0)] at h1
   simp [val] at h1;omega
  have e:u4 a b=(B5,Q3):=by unfold u4;rw [if_pos e0]
  rw [e]
  exact j9 ⟨.ret _ _ l5,.nil⟩
 ·have e0:¬j0 b=0:=fun h=>‹¬((j7 (j0 b).natAbs).length:Int)=0› (by rw [h,Int.natAbs_zero,y9];rfl)
  refine j4 hd ⟨a,oM⟩ (r:=.t [.c (.b (decide (j0 a < 0))),.sl 1 ((j7 (j0 a).natAbs).map dg)]) rfl l5 .nil fun _ _ _ _=>?_
  (refine Zx ?_;intros)
  refine j4 hg ⟨(a,b),ha,hbl⟩ (r:=.c (.s (i7 (Nat.gcd (j0 a).natAbs (j0 b).natAbs)))) rfl l5 .nil fun _ _ _ _=>?_
  have e:u4 a b=(j3 ((if (j0 a < 0)=(j0 b < 0) then 1 else -1) * (((j0 a).natAbs / Nat.gcd (j0 a).natAbs (j0 b).natAbs:Nat):Int)),i7 ((j0 b).natAbs / Nat.gcd (j0 a).natAbs (j0 b).natAbs)):=by unfold u4;rw [if_neg e0]
  rw [e]
  have hgp:0 < Nat.gcd (j0 a).natAbs (j0 b).natAbs:=Nat.gcd_pos_of_pos_right _ oM
  have hgl:=R3 (Nat.gcd_le_right (j0 a).natAbs (by omega:0 < (j0 b).natAbs))
  generalize Nat.gcd (j0 a).natAbs (j0 b).natAbs=g at *
  have hsl:=a9f g
  (refine Zx ?_;intros)
  refine j4 hd ⟨i7 g,oM⟩ (r:=.t [.c (.b (decide ((g:Int) < 0))),.sl 1 ((j7 g).map dg)]) (by show r7.ret (.t [.c (.b (decide (j0 (i7 g) < 0))),.sl 1 ((j7 (j0 (i7 g)).natAbs).map dg)])=_;rw [B4];rfl) l5 .nil fun _ _ _ _=>?_
  (refine Zx ?_;intros)
  have l3:=R3 (Nat.div_le_self (j0 a).natAbs g)
  have l4:=R3 (Nat.div_le_self (j0 b).natAbs g)
  refine j4 ho ⟨((j0 a).natAbs,g),show (j7 (j0 a).natAbs).length < 80000 by omega,show (j7 g).length < 80000 by omega,hgp⟩ (r:=.t [.sl 1 ((j7 ((j0 a).natAbs / g)).map dg),.sl 1 ((j7 ((j0 a).natAbs % g)).map dg)]) rfl l5 .nil fun _ _ _ _=>?_
  (refine Zx ?_;intros)
  refine j4 ho ⟨((j0 b).natAbs,g),show (j7 (j0 b).natAbs).length < 80000 by omega,show (j7 g).length < 80000 by omega,hgp⟩ (r:=.t [.sl 1 ((j7 ((j0 b).natAbs / g)).map dg),.sl 1 ((j7 ((j0 b).natAbs % g)).map dg)]) rfl l5 .nil fun _ _ _ _=>?_
  (refine Zx ?_;intros)
  refine j4 hx ⟨(decide (j0 a < 0) != decide (j0 b < 0),j7 ((j0 a).natAbs / g)),show (j7 _).length < 90000 by omega,E5 _⟩ (r:=.c (.s (j3 ((if (j0 a < 0)=(j0 b < 0) then 1 else -1) * (((j0 a).natAbs / g:Nat):Int))))) ?_ l5 .nil fun _ _ _ _=>?_
  ·show r7.ret (.c (.s (sgn _ (val (j7 _)))))=_
   rw [D8,f6n]
   congr 4
   by_cases h1:j0 a < 0 <;> by_cases h2:j0 b < 0 <;> simp [h1,h2]
  ·(refine Zx ?_;intros)
   refine j4 hx ⟨(false,j7 ((j0 b).natAbs / g)),show (j7 _).length < 90000 by omega,E5 _⟩ (r:=.c (.s (i7 ((j0 b).natAbs / g)))) (by show r7.ret (.c (.s (sgn false (val (j7 _)))))=_;rw [D8,b3h]) l5 .nil fun _ _ _ _=>?_
   (refine Zx ?_;intros)
   exact j9 ⟨.ret _ _ l5,.nil⟩
def d2o:Sp where
 ι:=O × O
 A p:=[.a p.1.g,.a p.2.g]
 B _:=[]
 R p:=.ret (.c (.b (O.eqb p.1 p.2)))
 B' _:=[]
 inj i j vs bs h k _ _:=by obtain ⟨e1,e2⟩:=c43 h k;rw [Prod.ext e1 e2];exact ⟨rfl,rfl⟩
theorem f0w:k9 18 d2o:=a3x (fun p=>p.1.size) fun n ih=>n9 (fun fn h=>f2k h) [(18,d2o.lt _ n)] (.cons ih .nil) fun U fn hfn ⟨(a,b),hn⟩ vs bs hv hb=>by
 have hr:=hfn 18 _ rfl
 have hv:l7 [.a a.g,.a b.g] vs:=hv
 have hb:RBs [] bs:=hb
 rw [a.g_eq,b.g_eq] at hv
 show j5 U _ fun v bs'=>l8 (.ret (.c (.b (O.eqb a b)))) v∧RBs [] bs'
 have hl:=a.ps_le
 unfold r18
 (refine Zx ?_;with_reducible repeat' first|intro _|apply aI)
 all_goals first
  | exact j9 ⟨.ret _ _ (N7 (O.eqb_f.2 fun e=>by subst e;first | exact absurd rfl ‹_› | exact absurd (⟨rfl,rfl,trivial⟩:a.sym.1=a.sym.1∧a.sym.2=a.sym.2∧True) ‹_›)),.nil⟩
  | skip
 ·have e1:=‹a.k=b.k›
  have e2:=‹a.nu=b.nu›
  have e3:=‹a.de=b.de›
  have e4:=‹a.sym.1=b.sym.1∧_›
  have e5:=‹a.txt=b.txt›
  have e6:a.ps.length=b.ps.length:=by have:=‹(a.ps.length:Int)=_›;omega
  refine H2 (fun (i:Nat) vs bs=>∃ q1 q2,vs=[.ptr 0 0,.ptr 1 0,.int .i64 i]∧bs=[.opa q1 7,.opa q2 7]∧A6 a.g q1 0∧A6 b.g q2 0∧i≤a.ps.length∧∀ j,j < i→a.ps[j]?=b.ps[j]?) (fun i=>a.ps.length - i) 0
   ⟨_,_,rfl,rfl,by rw [a.g_eq];assumption,by rw [b.g_eq];assumption,Nat.zero_le _,fun _ h=>absurd h (Nat.not_lt_zero _)⟩ a.ps_fuel ?_
  rintro self i vs bs ⟨q1,q2,rfl,rfl,k1,k2,hi,hj⟩ ih
  rw [a.g_eq] at k1
  rw [b.g_eq] at k2
  (refine Zx ?_;with_reducible repeat' first|intro _|apply aI)
  ·refine j4 hr ⟨(a.ps[i],b.ps[i]),?_⟩ rfl l5 .nil fun _ _ _ _=>?_
   ·show (a.ps[i]).size < n
    have hn:a.size < n+1:=hn
    have:=a.ps_size a.ps[i] (List.getElem_mem _)
    omega
   ·(refine Zx ?_;with_reducible repeat' first|intro _|apply aI)
    ·refine ih (i+1) _ _ ⟨_,_,rfl,rfl,by rw [a.g_eq];assumption,by rw [b.g_eq];assumption,oM,fun j h=>?_⟩ oM
     by_cases h2:j=i
     ·subst h2
      have:=O.eqb_t.1 ‹O.eqb a.ps[j] b.ps[j]=true›
      rw [List.getElem?_eq_getElem oM,List.getElem?_eq_getElem oM,this]
     ·exact hj j oM
    ·exact j9 ⟨.ret _ _ (N7 (O.eqb_f.2 fun e=>by subst e;exact absurd (O.eqb_t.2 rfl:O.eqb a.ps[i] a.ps[i]=true) ‹_›)),.nil⟩
  ·exact j9 ⟨.ret _ _ (N7 (O.eqb_t.2 (O.ext e1 e2 e3 (Prod.ext e4.1 e4.2.1) e5 (List.ext_getElem? fun j=>by
    by_cases h:j < i
    ·exact hj j h
    ·rw [List.getElem?_eq_none oM,List.getElem?_eq_none oM])))),.nil⟩
end
end Go.Proofs.YtdldcfllnohkeaaGreatDoor
