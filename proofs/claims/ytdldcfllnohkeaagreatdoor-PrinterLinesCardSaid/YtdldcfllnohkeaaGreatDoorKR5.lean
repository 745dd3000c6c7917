/- The reference's numbers: quotients in lowest terms. -/
import Derived.Test.YtdldcfllnohkeaaGreatDoorKR4e
set_option linter.all false
namespace Go.Proofs.YtdldcfllnohkeaaGreatDoor
open Go.Abs LQ
set_option maxRecDepth 100000
set_option maxHeartbeats 4000000
noncomputable section
theorem a7k (n:Nat):(f8 n).length≤(i6 n).length+1:=by
 by_cases h:n=0
 ·subst h;decide
 ·rw [P2 n h];omega
theorem c79:j3 48 (sp2 fun a b=>.ret (.t [.c (.s (o7 a b).1),.c (.s (o7 a b).2)])):=k7 (fun fn h=>e96 h) [(77,_),(79,_),(80,_),(78,_)] (.cons b74 (.cons e1b (.cons e1c (.cons f8m .nil)))) fun U fn hfn ⟨(a,b),ha,hbl⟩ vs bs hv hb=>by
 have hd:=hfn 77 _ rfl
 have ho:=hfn 79 _ rfl
 have hx:=hfn 80 _ rfl
 have hg:=hfn 78 _ rfl
 have ha:a.length < 9000:=ha
 have hbl:b.length < 9000:=hbl
 have hv:j5 [.c (.s a),.c (.s b)] vs:=hv
 have hb:RBs [] bs:=hb
 show g7 U _ fun v bs'=>j6 (.ret (.t [.c (.s (o7 a b).1),.c (.s (o7 a b).2)])) v∧RBs [] bs'
 have la:=a0s a
 have lb:=a0s b
 unfold r48
 (refine Zx ?_;intros)
 refine f6 hd ⟨b,oM⟩ (r:=.t [.c (.b (decide (f7 b < 0))),.sl 1 ((i6 (f7 b).natAbs).map dg)]) rfl j4 .nil fun _ _ _ _=>?_
 (refine Zx ?_;with_reducible repeat' first|intro _|apply aI)
 ·have e0:f7 b=0:=by
   have h1:=B6 (f7 b).natAbs
   rw [List.length_eq_zero_iff.1 (by omega:(i6 (f7 b).natAbs).length=0)] at h1
   simp [val] at h1;omega
  have e:o7 a b=(x5,Q6):=by unfold o7;rw [if_pos e0]
  rw [e]
  exact g9 ⟨.ret _ _ j4,.nil⟩
 ·have e0:¬f7 b=0:=fun h=>‹¬((i6 (f7 b).natAbs).length:Int)=0› (by rw [h,Int.natAbs_zero,u9];rfl)
  refine f6 hd ⟨a,oM⟩ (r:=.t [.c (.b (decide (f7 a < 0))),.sl 1 ((i6 (f7 a).natAbs).map dg)]) rfl j4 .nil fun _ _ _ _=>?_
  (refine Zx ?_;intros)
  refine f6 hg ⟨(a,b),ha,hbl⟩ (r:=.c (.s (f8 (Nat.gcd (f7 a).natAbs (f7 b).natAbs)))) rfl j4 .nil fun _ _ _ _=>?_
  have e:o7 a b=(f9 ((if (f7 a < 0)=(f7 b < 0) then 1 else -1) * (((f7 a).natAbs / Nat.gcd (f7 a).natAbs (f7 b).natAbs:Nat):Int)),f8 ((f7 b).natAbs / Nat.gcd (f7 a).natAbs (f7 b).natAbs)):=by unfold o7;rw [if_neg e0]
  rw [e]
  have hgp:0 < Nat.gcd (f7 a).natAbs (f7 b).natAbs:=Nat.gcd_pos_of_pos_right _ oM
  have hgl:=O3 (Nat.gcd_le_right (f7 a).natAbs (by omega:0 < (f7 b).natAbs))
  generalize Nat.gcd (f7 a).natAbs (f7 b).natAbs=g at *
  have hsl:=a7k g
  (refine Zx ?_;intros)
  refine f6 hd ⟨f8 g,oM⟩ (r:=.t [.c (.b (decide ((g:Int) < 0))),.sl 1 ((i6 g).map dg)]) (by show n6.ret (.t [.c (.b (decide (f7 (f8 g) < 0))),.sl 1 ((i6 (f7 (f8 g)).natAbs).map dg)])=_;rw [A4];rfl) j4 .nil fun _ _ _ _=>?_
  (refine Zx ?_;intros)
  have l3:=O3 (Nat.div_le_self (f7 a).natAbs g)
  have l4:=O3 (Nat.div_le_self (f7 b).natAbs g)
  refine f6 ho ⟨((f7 a).natAbs,g),show (i6 (f7 a).natAbs).length < 80000 by omega,show (i6 g).length < 80000 by omega,hgp⟩ (r:=.t [.sl 1 ((i6 ((f7 a).natAbs / g)).map dg),.sl 1 ((i6 ((f7 a).natAbs % g)).map dg)]) rfl j4 .nil fun _ _ _ _=>?_
  (refine Zx ?_;intros)
  refine f6 ho ⟨((f7 b).natAbs,g),show (i6 (f7 b).natAbs).length < 80000 by omega,show (i6 g).length < 80000 by omega,hgp⟩ (r:=.t [.sl 1 ((i6 ((f7 b).natAbs / g)).map dg),.sl 1 ((i6 ((f7 b).natAbs % g)).map dg)]) rfl j4 .nil fun _ _ _ _=>?_
  (refine Zx ?_;intros)
  refine f6 hx ⟨(decide (f7 a < 0) != decide (f7 b < 0),i6 ((f7 a).natAbs / g)),show (i6 _).length < 90000 by omega,C2 _⟩ (r:=.c (.s (f9 ((if (f7 a < 0)=(f7 b < 0) then 1 else -1) * (((f7 a).natAbs / g:Nat):Int))))) ?_ j4 .nil fun _ _ _ _=>?_
  ·show n6.ret (.c (.s (sgn _ (val (i6 _)))))=_
   rw [B6,f2y]
   congr 4
   by_cases h1:f7 a < 0 <;> by_cases h2:f7 b < 0 <;> simp [h1,h2]
  ·(refine Zx ?_;intros)
   refine f6 hx ⟨(false,i6 ((f7 b).natAbs / g)),show (i6 _).length < 90000 by omega,C2 _⟩ (r:=.c (.s (f8 ((f7 b).natAbs / g)))) (by show n6.ret (.c (.s (sgn false (val (i6 _)))))=_;rw [B6,b1w]) j4 .nil fun _ _ _ _=>?_
   (refine Zx ?_;intros)
   exact g9 ⟨.ret _ _ j4,.nil⟩
def c9i:Sp where
 ι:=O × O
 A p:=[.a p.1.g,.a p.2.g]
 B _:=[]
 R p:=.ret (.c (.b (O.eqb p.1 p.2)))
 B' _:=[]
 inj i j vs bs h k _ _:=by obtain ⟨e1,e2⟩:=c19 h k;rw [Prod.ext e1 e2];exact ⟨rfl,rfl⟩
theorem d3r:j3 18 c9i:=R3 (fun p=>p.1.size) fun n ih=>k7 (fun fn h=>e8u h) [(18,c9i.lt _ n)] (.cons ih .nil) fun U fn hfn ⟨(a,b),hn⟩ vs bs hv hb=>by
 have hr:=hfn 18 _ rfl
 have hv:j5 [.a a.g,.a b.g] vs:=hv
 have hb:RBs [] bs:=hb
 rw [a.g_eq,b.g_eq] at hv
 show g7 U _ fun v bs'=>j6 (.ret (.c (.b (O.eqb a b)))) v∧RBs [] bs'
 have hl:=a.ps_le
 unfold r18
 (refine Zx ?_;with_reducible repeat' first|intro _|apply aI)
 all_goals first
  | exact g9 ⟨.ret _ _ (G2 (O.eqb_f.2 fun e=>by subst e;first | exact absurd rfl ‹_› | exact absurd (⟨rfl,rfl,trivial⟩:a.sym.1=a.sym.1∧a.sym.2=a.sym.2∧True) ‹_›)),.nil⟩
  | skip
 ·have e1:=‹a.k=b.k›
  have e2:=‹a.nu=b.nu›
  have e3:=‹a.de=b.de›
  have e4:=‹a.sym.1=b.sym.1∧_›
  have e5:=‹a.txt=b.txt›
  have e6:a.ps.length=b.ps.length:=by have:=‹(a.ps.length:Int)=_›;omega
  refine E1 (fun (i:Nat) vs bs=>∃ q1 q2,vs=[.ptr 0 0,.ptr 1 0,.int .i64 i]∧bs=[.opa q1 7,.opa q2 7]∧u6 a.g q1 0∧u6 b.g q2 0∧i≤a.ps.length∧∀ j,j < i→a.ps[j]?=b.ps[j]?) (fun i=>a.ps.length - i) 0
   ⟨_,_,rfl,rfl,by rw [a.g_eq];assumption,by rw [b.g_eq];assumption,Nat.zero_le _,fun _ h=>absurd h (Nat.not_lt_zero _)⟩ a.ps_fuel ?_
  rintro self i vs bs ⟨q1,q2,rfl,rfl,k1,k2,hi,hj⟩ ih
  rw [a.g_eq] at k1
  rw [b.g_eq] at k2
  (refine Zx ?_;with_reducible repeat' first|intro _|apply aI)
  ·refine f6 hr ⟨(a.ps[i],b.ps[i]),?_⟩ rfl j4 .nil fun _ _ _ _=>?_
   ·show (a.ps[i]).size < n
    have hn:a.size < n+1:=hn
    have:=a.ps_size a.ps[i] (List.getElem_mem _)
    omega
   ·(refine Zx ?_;with_reducible repeat' first|intro _|apply aI)
    ·refine ih (i+1) _ _ ⟨_,_,rfl,rfl,by rw [a.g_eq];assumption,by rw [b.g_eq];assumption,oM,fun j h=>?_⟩ oM
     by_cases h2:j=i
     ·subst h2
      have:=O.eqb_t.1 ‹O.eqb a.ps[j] b.ps[j]=true›
      rw [List.getElem?_eq_getElem oM,List.getElem?_eq_getElem oM,this]
     ·exact hj j oM
    ·exact g9 ⟨.ret _ _ (G2 (O.eqb_f.2 fun e=>by subst e;exact absurd (O.eqb_t.2 rfl:O.eqb a.ps[i] a.ps[i]=true) ‹_›)),.nil⟩
  ·exact g9 ⟨.ret _ _ (G2 (O.eqb_t.2 (O.ext e1 e2 e3 (Prod.ext e4.1 e4.2.1) e5 (List.ext_getElem? fun j=>by
    by_cases h:j < i
    ·exact hj j h
    ·rw [List.getElem?_eq_none oM,List.getElem?_eq_none oM])))),.nil⟩
end
end Go.Proofs.YtdldcfllnohkeaaGreatDoor
