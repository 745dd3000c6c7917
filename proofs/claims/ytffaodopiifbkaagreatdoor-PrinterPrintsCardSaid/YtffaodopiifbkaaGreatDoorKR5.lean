/- The reference's numbers: quotients in lowest terms. -/
import Derived.Test.YtffaodopiifbkaaGreatDoorKR4e
set_option linter.all false
namespace Go.Proofs.YtffaodopiifbkaaGreatDoor
open Go.Abs LQ
set_option maxRecDepth 100000
set_option maxHeartbeats 4000000
noncomputable section
theorem a6c (n:Nat):(f7 n).length≤(i7 n).length+1:=by
 by_cases h:n=0
 ·subst h;decide
 ·rw [N9 n h];omega
theorem c6l:j5 85 (sp2 fun a b=>.ret (.t [.c (.s (n9 a b).1),.c (.s (n9 a b).2)])):=k8 (fun fn h=>f1d h) [(124,_),(126,_),(127,_),(125,_)] (.cons b64 (.cons e0j (.cons e0b (.cons f6g .nil)))) fun U fn hfn ⟨(a,b),ha,hbl⟩ vs bs hv hb=>by
 have hd:=hfn 124 _ rfl
 have ho:=hfn 126 _ rfl
 have hx:=hfn 127 _ rfl
 have hg:=hfn 125 _ rfl
 have ha:a.length < 9000:=ha
 have hbl:b.length < 9000:=hbl
 have hv:j6 [.c (.s a),.c (.s b)] vs:=hv
 have hb:g9 [] bs:=hb
 show g8 U _ fun v bs'=>j7 (.ret (.t [.c (.s (n9 a b).1),.c (.s (n9 a b).2)])) v∧g9 [] bs'
 have la:=a0e a
 have lb:=a0e b
 unfold r85
 (refine Zx ?_;intros)
 refine f5 hd ⟨b,oM⟩ (r:=.t [.c (.b (decide (f6 b < 0))),.sl 1 ((i7 (f6 b).natAbs).map dg)]) rfl j4 .nil fun _ _ _ _=>?_
 (refine Zx ?_;with_reducible repeat' first|intro _|apply aI)
 ·have e0:f6 b=0:=by
   have h1:=A9 (f6 b).natAbs
   rw [List.length_eq_zero_iff.1 (by omega:(i7 (f6 b).natAbs).length=0)] at h1
   simp [val] at h1;omega
  have e:n9 a b=(u6,P5):=by unfold n9;rw [if_pos e0]
  rw [e]
  exact i6 ⟨.ret _ _ j4,.nil⟩
 ·have e0:¬f6 b=0:=fun h=>‹¬((i7 (f6 b).natAbs).length:Int)=0› (by rw [h,Int.natAbs_zero,u3];rfl)
  refine f5 hd ⟨a,oM⟩ (r:=.t [.c (.b (decide (f6 a < 0))),.sl 1 ((i7 (f6 a).natAbs).map dg)]) rfl j4 .nil fun _ _ _ _=>?_
  (refine Zx ?_;intros)
  refine f5 hg ⟨(a,b),ha,hbl⟩ (r:=.c (.s (f7 (Nat.gcd (f6 a).natAbs (f6 b).natAbs)))) rfl j4 .nil fun _ _ _ _=>?_
  have e:n9 a b=(f8 ((if (f6 a < 0)=(f6 b < 0) then 1 else -1) * (((f6 a).natAbs / Nat.gcd (f6 a).natAbs (f6 b).natAbs:Nat):Int)),f7 ((f6 b).natAbs / Nat.gcd (f6 a).natAbs (f6 b).natAbs)):=by unfold n9;rw [if_neg e0]
  rw [e]
  have hgp:0 < Nat.gcd (f6 a).natAbs (f6 b).natAbs:=Nat.gcd_pos_of_pos_right _ oM
  have hgl:=N1 (Nat.gcd_le_right (f6 a).natAbs (by omega:0 < (f6 b).natAbs))
  generalize Nat.gcd (f6 a).natAbs (f6 b).natAbs=g at *
  have hsl:=a6c g
  (refine Zx ?_;intros)
  refine f5 hd ⟨f7 g,oM⟩ (r:=.t [.c (.b (decide ((g:Int) < 0))),.sl 1 ((i7 g).map dg)]) (by show n5.ret (.t [.c (.b (decide (f6 (f7 g) < 0))),.sl 1 ((i7 (f6 (f7 g)).natAbs).map dg)])=_;rw [y9];rfl) j4 .nil fun _ _ _ _=>?_
  (refine Zx ?_;intros)
  have l3:=N1 (Nat.div_le_self (f6 a).natAbs g)
  have l4:=N1 (Nat.div_le_self (f6 b).natAbs g)
  refine f5 ho ⟨((f6 a).natAbs,g),show (i7 (f6 a).natAbs).length < 80000 by omega,show (i7 g).length < 80000 by omega,hgp⟩ (r:=.t [.sl 1 ((i7 ((f6 a).natAbs / g)).map dg),.sl 1 ((i7 ((f6 a).natAbs % g)).map dg)]) rfl j4 .nil fun _ _ _ _=>?_
  (refine Zx ?_;intros)
  refine f5 ho ⟨((f6 b).natAbs,g),show (i7 (f6 b).natAbs).length < 80000 by omega,show (i7 g).length < 80000 by omega,hgp⟩ (r:=.t [.sl 1 ((i7 ((f6 b).natAbs / g)).map dg),.sl 1 ((i7 ((f6 b).natAbs % g)).map dg)]) rfl j4 .nil fun _ _ _ _=>?_
  (refine Zx ?_;intros)
  refine f5 hx ⟨(decide (f6 a < 0) != decide (f6 b < 0),i7 ((f6 a).natAbs / g)),show (i7 _).length < 90000 by omega,B6 _⟩ (r:=.c (.s (f8 ((if (f6 a < 0)=(f6 b < 0) then 1 else -1) * (((f6 a).natAbs / g:Nat):Int))))) ?_ j4 .nil fun _ _ _ _=>?_
  ·show n5.ret (.c (.s (sgn _ (val (i7 _)))))=_
   rw [A9,e6g]
   congr 4
   by_cases h1:f6 a < 0 <;> by_cases h2:f6 b < 0 <;> simp [h1,h2]
  ·(refine Zx ?_;intros)
   refine f5 hx ⟨(false,i7 ((f6 b).natAbs / g)),show (i7 _).length < 90000 by omega,B6 _⟩ (r:=.c (.s (f7 ((f6 b).natAbs / g)))) (by show n5.ret (.c (.s (sgn false (val (i7 _)))))=_;rw [A9,b0t]) j4 .nil fun _ _ _ _=>?_
   (refine Zx ?_;intros)
   exact i6 ⟨.ret _ _ j4,.nil⟩
def c60:Sp where
 ι:=O × O
 A p:=[.a p.1.g,.a p.2.g]
 B _:=[]
 R p:=.ret (.c (.b (O.eqb p.1 p.2)))
 B' _:=[]
 inj i j vs bs h k _ _:=by obtain ⟨e1,e2⟩:=c28 h k;rw [Prod.ext e1 e2];exact ⟨rfl,rfl⟩
theorem d4l:j5 22 c60:=Q0 (fun p=>p.1.size) fun n ih=>k8 (fun fn h=>f0i h) [(22,c60.lt _ n)] (.cons ih .nil) fun U fn hfn ⟨(a,b),hn⟩ vs bs hv hb=>by
 have hr:=hfn 22 _ rfl
 have hv:j6 [.a a.g,.a b.g] vs:=hv
 have hb:g9 [] bs:=hb
 rw [a.g_eq,b.g_eq] at hv
 show g8 U _ fun v bs'=>j7 (.ret (.c (.b (O.eqb a b)))) v∧g9 [] bs'
 have hl:=a.ps_le
 unfold r22
 (refine Zx ?_;with_reducible repeat' first|intro _|apply aI)
 all_goals first
  | exact i6 ⟨.ret _ _ (F1 (O.eqb_f.2 fun e=>by subst e;first | exact absurd rfl ‹_› | exact absurd (⟨rfl,rfl,trivial⟩:a.sym.1=a.sym.1∧a.sym.2=a.sym.2∧True) ‹_›)),.nil⟩
  | skip
 ·have e1:=‹a.k=b.k›
  have e2:=‹a.nu=b.nu›
  have e3:=‹a.de=b.de›
  have e4:=‹a.sym.1=b.sym.1∧_›
  have e5:=‹a.txt=b.txt›
  have e6:a.ps.length=b.ps.length:=by have:=‹(a.ps.length:Int)=_›;omega
  refine D3 (fun (i:Nat) vs bs=>∃ q1 q2,vs=[.ptr 0 0,.ptr 1 0,.int .i64 i]∧bs=[.opa q1 7,.opa q2 7]∧u1 a.g q1 0∧u1 b.g q2 0∧i≤a.ps.length∧∀ j,j < i→a.ps[j]?=b.ps[j]?) (fun i=>a.ps.length - i) 0
   ⟨_,_,rfl,rfl,by rw [a.g_eq];assumption,by rw [b.g_eq];assumption,Nat.zero_le _,fun _ h=>absurd h (Nat.not_lt_zero _)⟩ a.ps_fuel ?_
  rintro self i vs bs ⟨q1,q2,rfl,rfl,k1,k2,hi,hj⟩ ih
  rw [a.g_eq] at k1
  rw [b.g_eq] at k2
  (refine Zx ?_;with_reducible repeat' first|intro _|apply aI)
  ·refine f5 hr ⟨(a.ps[i],b.ps[i]),?_⟩ rfl j4 .nil fun _ _ _ _=>?_
   ·show (a.ps[i]).size < n
    have hn:a.size < n+1:=hn
    have:=a.ps_size a.ps[i] (List.getElem_mem _)
    omega
   ·(refine Zx ?_;with_reducible repeat' first|intro _|apply aI)
    ·refine ih (i+1) _ _ ⟨_,_,rfl,rfl,by rw [a.g_eq];assumption,by rw [b.g_eq];assumption,oM,fun j h=>?_⟩ oM
     by_cases h2:j=i
     ·subst h2
      have:=O.eqb_t.1 ‹O.eqb a.ps[j] b.ps[j]=true›
      rw [List.getElem?_eq_getElem oM,List.getElem?_eq_getElem oM,this]
     ·exact hj j oM
    ·exact i6 ⟨.ret _ _ (F1 (O.eqb_f.2 fun e=>by subst e;exact absurd (O.eqb_t.2 rfl:O.eqb a.ps[i] a.ps[i]=true) ‹_›)),.nil⟩
  ·exact i6 ⟨.ret _ _ (F1 (O.eqb_t.2 (O.ext e1 e2 e3 (Prod.ext e4.1 e4.2.1) e5 (List.ext_getElem? fun j=>by
    by_cases h:j < i
    ·exact hj j h
    ·rw [List.getElem?_eq_none oM,List.getElem?_eq_none oM])))),.nil⟩
end
end Go.Proofs.YtffaodopiifbkaaGreatDoor
