/- The reference's numbers: quotients in lowest terms. -/
import Derived.Test.YtffaodopiifbkaaGreatDoorCR4e
import Derived.Test.YtffaodopiifbkaaGreatDoorCL0
import Derived.Test.YtffaodopiifbkaaGreatDoorCP
set_option linter.all false
namespace Go.Proofs.YtffaodopiifbkaaGreatDoor
open Go.Abs LQ
set_option maxRecDepth 100000
set_option maxHeartbeats 4000000
noncomputable section
theorem b23 (n:Nat):(j5 n).length≤(j7 n).length+1:=by
 by_cases h:n=0
 ·subst h;decide
 ·rw [P1 n h];omega
theorem c54:l5 85 (sp2 fun a b=>.ret (.t [.c (.s (u9 a b).1),.c (.s (u9 a b).2)])):=v7 (fun fn h=>e2z h) [(124,_),(126,_),(127,_),(125,_)] (.cons b65 (.cons d74 (.cons d6x (.cons f09 .nil)))) fun U fn hfn ⟨(a,b),ha,hbl⟩ vs bs hv hb=>by
 have hd:=hfn 124 _ rfl
 have ho:=hfn 126 _ rfl
 have hx:=hfn 127 _ rfl
 have hg:=hfn 125 _ rfl
 have ha:a.length < 9000:=ha
 have hbl:b.length < 9000:=hbl
 have hv:l9 [.c (.s a),.c (.s b)] vs:=hv
 have hb:RBs [] bs:=hb
 show j3 U _ fun v bs'=>m8 (.ret (.t [.c (.s (u9 a b).1),.c (.s (u9 a b).2)])) v∧RBs [] bs'
 have la:=a0q a
 have lb:=a0q b
 unfold r85
 (refine Zx ?_;with_reducible repeat' first|intro _|apply aI)
 refine j4 hd ⟨b,by omega⟩ (r:=.t [.c (.b (decide (i6 b < 0))),.sl 1 ((j7 (i6 b).natAbs).map dg)]) rfl j9 .nil fun _ _ _ _=>?_
 (refine Zx ?_;with_reducible repeat' first|intro _|apply aI)
 ·have e0:i6 b=0:=by
   have h1:=D3 (i6 b).natAbs
   rw [List.length_eq_zero_iff.1 (by omega:(j7 (i6 b).natAbs).length=0)] at h1
   simp [val] at h1;omega
  have e:u9 a b=(A5,R4):=by unfold u9;rw [if_pos e0]
  rw [e]
  exact l6 ⟨.ret _ _ j9,.nil⟩
 ·have e0:¬i6 b=0:=fun h=>‹¬((j7 (i6 b).natAbs).length:Int)=0› (by rw [h,Int.natAbs_zero,B4];rfl)
  refine j4 hd ⟨a,by omega⟩ (r:=.t [.c (.b (decide (i6 a < 0))),.sl 1 ((j7 (i6 a).natAbs).map dg)]) rfl j9 .nil fun _ _ _ _=>?_
  (refine Zx ?_;with_reducible repeat' first|intro _|apply aI)
  refine j4 hg ⟨(a,b),ha,hbl⟩ (r:=.c (.s (j5 (Nat.gcd (i6 a).natAbs (i6 b).natAbs)))) rfl j9 .nil fun _ _ _ _=>?_
  have e:u9 a b=(j6 ((if (i6 a < 0)=(i6 b < 0) then 1 else -1) * (((i6 a).natAbs / Nat.gcd (i6 a).natAbs (i6 b).natAbs:Nat):Int)),j5 ((i6 b).natAbs / Nat.gcd (i6 a).natAbs (i6 b).natAbs)):=by unfold u9;rw [if_neg e0]
  rw [e]
  have hgp:0 < Nat.gcd (i6 a).natAbs (i6 b).natAbs:=Nat.gcd_pos_of_pos_right _ (by omega)
  have hgl:=O3 (Nat.gcd_le_right (i6 a).natAbs (by omega:0 < (i6 b).natAbs))
  generalize Nat.gcd (i6 a).natAbs (i6 b).natAbs=g at *
  have hsl:=b23 g
  (refine Zx ?_;with_reducible repeat' first|intro _|apply aI)
  refine j4 hd ⟨j5 g,by omega⟩ (r:=.t [.c (.b (decide ((g:Int) < 0))),.sl 1 ((j7 g).map dg)]) (by show y4.ret (.t [.c (.b (decide (i6 (j5 g) < 0))),.sl 1 ((j7 (i6 (j5 g)).natAbs).map dg)])=_;rw [E5];rfl) j9 .nil fun _ _ _ _=>?_
  (refine Zx ?_;with_reducible repeat' first|intro _|apply aI)
  have l3:=O3 (Nat.div_le_self (i6 a).natAbs g)
  have l4:=O3 (Nat.div_le_self (i6 b).natAbs g)
  refine j4 ho ⟨((i6 a).natAbs,g),show (j7 (i6 a).natAbs).length < 80000 by omega,show (j7 g).length < 80000 by omega,hgp⟩ (r:=.t [.sl 1 ((j7 ((i6 a).natAbs / g)).map dg),.sl 1 ((j7 ((i6 a).natAbs % g)).map dg)]) rfl j9 .nil fun _ _ _ _=>?_
  (refine Zx ?_;with_reducible repeat' first|intro _|apply aI)
  refine j4 ho ⟨((i6 b).natAbs,g),show (j7 (i6 b).natAbs).length < 80000 by omega,show (j7 g).length < 80000 by omega,hgp⟩ (r:=.t [.sl 1 ((j7 ((i6 b).natAbs / g)).map dg),.sl 1 ((j7 ((i6 b).natAbs % g)).map dg)]) rfl j9 .nil fun _ _ _ _=>?_
  (refine Zx ?_;with_reducible repeat' first|intro _|apply aI)
  refine j4 hx ⟨(decide (i6 a < 0) != decide (i6 b < 0),j7 ((i6 a).natAbs / g)),show (j7 _).length < 90000 by omega,D8 _⟩ (r:=.c (.s (j6 ((if (i6 a < 0)=(i6 b < 0) then 1 else -1) * (((i6 a).natAbs / g:Nat):Int))))) ?_ j9 .nil fun _ _ _ _=>?_
  ·show y4.ret (.c (.s (sgn _ (val (j7 _)))))=_
   rw [D3,e44]
   congr 4
   by_cases h1:i6 a < 0 <;> by_cases h2:i6 b < 0 <;> simp [h1,h2]
  ·(refine Zx ?_;with_reducible repeat' first|intro _|apply aI)
   refine j4 hx ⟨(false,j7 ((i6 b).natAbs / g)),show (j7 _).length < 90000 by omega,D8 _⟩ (r:=.c (.s (j5 ((i6 b).natAbs / g)))) (by show y4.ret (.c (.s (sgn false (val (j7 _)))))=_;rw [D3,a97]) j9 .nil fun _ _ _ _=>?_
   (refine Zx ?_;with_reducible repeat' first|intro _|apply aI)
   exact l6 ⟨.ret _ _ j9,.nil⟩
end
end Go.Proofs.YtffaodopiifbkaaGreatDoor
namespace Go.Proofs.YtffaodopiifbkaaGreatDoor
open Go.Abs LQ
set_option maxRecDepth 100000
set_option maxHeartbeats 4000000
noncomputable section
def c6j:Sp where
 ι:=O × O
 A p:=[.a p.1.g,.a p.2.g]
 B _:=[]
 R p:=.ret (.c (.b (O.eqb p.1 p.2)))
 B' _:=[]
 inj i j vs bs h k _ _:=by obtain ⟨e1,e2⟩:=c9r h k;rw [Prod.ext e1 e2];exact ⟨rfl,rfl⟩
theorem e49:l5 22 c6j:=b4a (fun p=>p.1.size) fun n ih=>v7 (fun fn h=>e50 h) [(22,c6j.lt _ n)] (.cons ih .nil) fun U fn hfn ⟨(a,b),hn⟩ vs bs hv hb=>by
 have hr:=hfn 22 _ rfl
 have hv:l9 [.a a.g,.a b.g] vs:=hv
 have hb:RBs [] bs:=hb
 rw [a.g_eq,b.g_eq] at hv
 show j3 U _ fun v bs'=>m8 (.ret (.c (.b (O.eqb a b)))) v∧RBs [] bs'
 have hl:=a.ps_le
 unfold r22
 (refine Zx ?_;with_reducible repeat' first|intro _|apply aI)
 all_goals first
  | exact l6 ⟨.ret _ _ (M6 (O.eqb_f.2 fun e=>by subst e;first | exact absurd rfl ‹_› | exact absurd (⟨rfl,rfl,trivial⟩:a.sym.1=a.sym.1∧a.sym.2=a.sym.2∧True) ‹_›)),.nil⟩
  | skip
 ·have e1:=‹a.k=b.k›
  have e2:=‹a.nu=b.nu›
  have e3:=‹a.de=b.de›
  have e4:=‹a.sym.1=b.sym.1∧_›
  have e5:=‹a.txt=b.txt›
  have e6:a.ps.length=b.ps.length:=by have:=‹(a.ps.length:Int)=_›;omega
  refine F8 (fun (i:Nat) vs bs=>∃ q1 q2,vs=[.ptr 0 0,.ptr 1 0,.int .i64 i]∧bs=[.opa q1 7,.opa q2 7]∧B6 a.g q1 0∧B6 b.g q2 0∧i≤a.ps.length∧∀ j,j < i→a.ps[j]?=b.ps[j]?) (fun i=>a.ps.length - i) 0
   ⟨_,_,rfl,rfl,by rw [a.g_eq];assumption,by rw [b.g_eq];assumption,Nat.zero_le _,fun _ h=>absurd h (Nat.not_lt_zero _)⟩ a.ps_fuel ?_
  rintro self i vs bs ⟨q1,q2,rfl,rfl,k1,k2,hi,hj⟩ ih
  rw [a.g_eq] at k1
  rw [b.g_eq] at k2
  (refine Zx ?_;with_reducible repeat' first|intro _|apply aI)
  ·refine j4 hr ⟨(a.ps[i],b.ps[i]),?_⟩ rfl j9 .nil fun _ _ _ _=>?_
   ·show (a.ps[i]).size < n
    have hn:a.size < n+1:=hn
    have:=a.ps_size a.ps[i] (List.getElem_mem _)
    omega
   ·(refine Zx ?_;with_reducible repeat' first|intro _|apply aI)
    ·refine ih (i+1) _ _ ⟨_,_,rfl,rfl,by rw [a.g_eq];assumption,by rw [b.g_eq];assumption,by omega,fun j h=>?_⟩ (by omega)
     by_cases h2:j=i
     ·subst h2
      have:=O.eqb_t.1 ‹O.eqb a.ps[j] b.ps[j]=true›
      rw [List.getElem?_eq_getElem (by omega),List.getElem?_eq_getElem (by omega),this]
     ·exact hj j (by omega)
    ·exact l6 ⟨.ret _ _ (M6 (O.eqb_f.2 fun e=>by subst e;exact absurd (O.eqb_t.2 rfl:O.eqb a.ps[i] a.ps[i]=true) ‹_›)),.nil⟩
  ·exact l6 ⟨.ret _ _ (M6 (O.eqb_t.2 (O.ext e1 e2 e3 (Prod.ext e4.1 e4.2.1) e5 (List.ext_getElem? fun j=>by
    by_cases h:j < i
    ·exact hj j h
    ·rw [List.getElem?_eq_none (by omega),List.getElem?_eq_none (by omega)])))),.nil⟩
end
end Go.Proofs.YtffaodopiifbkaaGreatDoor
