/- The reference's objects. -/
import Derived.Test.YtgipbdffgfbedaaGreatDoorCL0
import Derived.Test.YtgipbdffgfbedaaGreatDoorCP
set_option linter.all false
namespace Go.Proofs.YtgipbdffgfbedaaGreatDoor
open Go.Abs LQ
set_option maxRecDepth 100000
set_option maxHeartbeats 4000000
noncomputable section
def c69:Sp where
 ι:=O × O
 A p:=[.a p.1.g,.a p.2.g]
 B _:=[]
 R p:=.ret (.c (.b (O.eqb p.1 p.2)))
 B' _:=[]
 inj i j vs bs h k _ _:=by obtain ⟨e1,e2⟩:=c0q h k;rw [Prod.ext e1 e2];exact ⟨rfl,rfl⟩
theorem d04:j4 64 c69:=Q1 (fun p=>p.1.size) fun n ih=>l9 (fun fn h=>e5p h) [(64,c69.lt _ n)] (.cons ih .nil) fun U fn hfn ⟨(a,b),hn⟩ vs bs hv hb=>by
 have hr:=hfn 64 _ rfl
 have hv:j6 [.a a.g,.a b.g] vs:=hv
 have hb:RBs [] bs:=hb
 rw [a.g_eq,b.g_eq] at hv
 show g8 U _ fun v bs'=>j7 (.ret (.c (.b (O.eqb a b)))) v∧RBs [] bs'
 have hl:=a.ps_le
 unfold r64
 (refine Zx ?_;with_reducible repeat' first|intro _|apply aI)
 all_goals first
  | exact i7 ⟨.ret _ _ (F2 (O.eqb_f.2 fun e=>by subst e;first | exact absurd rfl ‹_› | exact absurd (⟨rfl,rfl,trivial⟩:a.sym.1=a.sym.1∧a.sym.2=a.sym.2∧True) ‹_›)),.nil⟩
  | skip
 ·have e1:=‹a.k=b.k›
  have e2:=‹a.nu=b.nu›
  have e3:=‹a.de=b.de›
  have e4:=‹a.sym.1=b.sym.1∧_›
  have e5:=‹a.txt=b.txt›
  have e6:a.ps.length=b.ps.length:=by have:=‹(a.ps.length:Int)=_›;omega
  refine F3 (fun (i:Nat) vs bs=>∃ q1 q2,vs=[.ptr 0 0,.ptr 1 0,.int .i64 i]∧bs=[.opa q1 7,.opa q2 7]∧u3 a.g q1 0∧u3 b.g q2 0∧i≤a.ps.length∧∀ j,j < i→a.ps[j]?=b.ps[j]?) (fun i=>a.ps.length - i) 0
   ⟨_,_,rfl,rfl,by rw [a.g_eq];assumption,by rw [b.g_eq];assumption,Nat.zero_le _,fun _ h=>absurd h (Nat.not_lt_zero _)⟩ a.ps_fuel ?_
  rintro self i vs bs ⟨q1,q2,rfl,rfl,k1,k2,hi,hj⟩ ih
  rw [a.g_eq] at k1
  rw [b.g_eq] at k2
  (refine Zx ?_;with_reducible repeat' first|intro _|apply aI)
  ·refine f9 hr ⟨(a.ps[i],b.ps[i]),?_⟩ rfl j3 .nil fun _ _ _ _=>?_
   ·show (a.ps[i]).size < n
    have hn:a.size < n+1:=hn
    have:=a.ps_size a.ps[i] (List.getElem_mem _)
    omega
   ·(refine Zx ?_;with_reducible repeat' first|intro _|apply aI)
    ·refine ih (i+1) _ _ ⟨_,_,rfl,rfl,by rw [a.g_eq];assumption,by rw [b.g_eq];assumption,oM,fun j h=>?_⟩ oM
     by_cases h2:j=i
     ·subst h2
      have:=O.eqb_t.1 ‹O.eqb a.ps[j] b.ps[j]=true›
      rw [List.getElem?_eq_getElem oM,List.getElem?_eq_getElem oM,this]
     ·exact hj j oM
    ·exact i7 ⟨.ret _ _ (F2 (O.eqb_f.2 fun e=>by subst e;exact absurd (O.eqb_t.2 rfl:O.eqb a.ps[i] a.ps[i]=true) ‹_›)),.nil⟩
  ·exact i7 ⟨.ret _ _ (F2 (O.eqb_t.2 (O.ext e1 e2 e3 (Prod.ext e4.1 e4.2.1) e5 (List.ext_getElem? fun j=>by
    by_cases h:j < i
    ·exact hj j h
    ·rw [List.getElem?_eq_none oM,List.getElem?_eq_none oM])))),.nil⟩
def dg (d:Nat):List G:=[.i .i64 (d:Int)]
theorem e18 {a b:Nat} (h:dg a=dg b):a=b:=by simp only [dg,List.cons.injEq,G.i.injEq,and_true,true_and] at h;omega
theorem W0:∀ {l m:List Nat},l.map dg=m.map dg→l=m
 | [],[],_=>rfl
 | [],_ :: _,h=>by simp at h
 | _ :: _,[],h=>by simp at h
 | a :: l,b :: m,h=>by simp only [List.map_cons,List.cons.injEq] at h;exact congr (congrArg List.cons (e18 h.1)) (W0 h.2)
theorem F5 {a b:f6} {v:V} (h:RV (.c (.s a)) v) (k:RV (.c (.s b)) v):a=b:=by have:=h.c_inj k;injection this
theorem b9w {a b:Bool} {v:V} (h:RV (.c (.b a)) v) (k:RV (.c (.b b)) v):a=b:=by have:=h.c_inj k;injection this
theorem Z7 {c:IntKind} {a b:Int} {v:V} (h:RV (.c (.i c a)) v) (k:RV (.c (.i c b)) v):a=b:=by have:=h.c_inj k;injection this
theorem a4f {c:Int}:P3 c=true↔48≤c∧c≤57:=by simp [P3]
theorem c1e {s:f6} {i:Nat} (h:i < s.length) (h1:¬((s.getD i 0).toNat:Int) < 48) (h2:¬57 < ((s.getD i 0).toNat:Int)):j8 s i=j8 s (i+1):=by
 rw [j8,if_pos h,if_pos (a4f.2 (by unfold bt;omega))]
theorem b35 {s:f6} {i:Nat} (h:i < s.length) (h1:((s.getD i 0).toNat:Int) < 48∨57 < ((s.getD i 0).toNat:Int)):j8 s i=i:=by
 rw [j8,if_pos h,if_neg (mt a4f.1 (by unfold bt;omega))]
theorem b6f {s:f6} {i:Nat} (h:¬i < s.length):j8 s i=i:=by
 rw [j8,if_neg h]
theorem c0h {s:f6} (h:0 < (s.length:Int)) (h2:((s.getD 0 0).toNat:Int)=45):g9 s=1:=by unfold g9;rw [if_pos ⟨oM,h2⟩]
theorem c9i {s:f6} (h2:¬((s.getD 0 0).toNat:Int)=45):g9 s=0:=by unfold g9;rw [if_neg (fun h=>h2 h.2)]
theorem e61 {s:f6} (h:¬0 < (s.length:Int)):g9 s=0:=by unfold g9;rw [if_neg (fun k=>by omega)]
theorem d3g {s:f6} {k:Nat} (h0:¬s=n5 1 48) (h1:g9 s=k) (h:s.length≤k):x8 s=false:=by
 have h0:¬s=w9:=h0
 simp [x8,h0,h1];omega
theorem d3h {s:f6} {k:Nat} (h0:¬s=n5 1 48) (h1:g9 s=k) (h:((s.getD k 0).toNat:Int)=48):x8 s=false:=by
 have h0:¬s=w9:=h0
 have h:bt s k=48:=h
 simp [x8,h0,h1,h]
theorem d78 {s:f6} {k:Nat} (h0:¬s=n5 1 48) (h1:g9 s=k) (h2:k < s.length) (h:¬((s.getD k 0).toNat:Int)=48):x8 s=decide (j8 s k=s.length):=by
 have h0:¬s=w9:=h0
 have h:¬bt s k=48:=h
 have:k < s.length:=oM
 simp [x8,h0,h1,h,this]
def sp1 (R:f6→o8):Sp where
 ι:={ s:f6 // s.length < 21600000 }
 A s:=[.c (.s s.1)]
 B _:=[]
 R s:=R s.1
 B' _:=[]
 inj i j vs bs h k _ _:=by
  obtain ⟨_,_,h1,k1,h,k⟩:=h.two k
  rw [F5 h1 k1];exact ⟨rfl,rfl⟩
theorem d9c:j4 65 (sp1 fun s=>.ret (.c (.b (x8 s)))):=l9 (fun fn h=>e5q h) [] .nil fun U fn hfn ⟨s,hs⟩ vs bs hv hb=>by
 have hv:j6 [.c (.s s)] vs:=hv
 have hb:RBs [] bs:=hb
 show g8 U _ fun v bs'=>j7 (.ret (.c (.b (x8 s)))) v∧RBs [] bs'
 unfold r65
 (refine Zx ?_;with_reducible repeat' first|intro _|apply aI)
 all_goals try (exfalso;omega)
 ·exact i7 ⟨.ret _ _ (F2 (by subst_vars;rfl)),.nil⟩
 ·exact i7 ⟨.ret _ _ (F2 (d3g (k:=1) ‹_› (c0h ‹_› ‹_›) oM)),.nil⟩
 ·exact i7 ⟨.ret _ _ (F2 (d3h (k:=1) ‹_› (c0h ‹_› ‹_›) ‹_›)),.nil⟩
 ·have hd:=d78 (k:=1) ‹_› (c0h ‹_› ‹_›) oM ‹_›
  (refine F3 (fun (i:Nat) vs bs=>vs=[.str s.length (j9 s),.int .i64 i]∧bs=[]∧i≤s.length∧j8 s i=j8 s 1) (fun i=>s.length - i) 1 ⟨rfl,rfl,oM,rfl⟩ (by simp only [y8];omega) ?_;rintro self i vs bs ⟨rfl,rfl,hi,he⟩ ih;(refine Zx ?_;with_reducible repeat' first|intro _|apply aI);all_goals first | exact ih (i+1) _ _ ⟨rfl,rfl,oM,by rw [← he,c1e (i:=i) oM ‹_› ‹_›]⟩ oM | exact i7 ⟨.ret _ _ (F2 (by rw [hd,← he,b6f (i:=i) oM];exact decide_eq_true oM)),.nil⟩ | exact i7 ⟨.ret _ _ (F2 (by rw [hd,← he,b35 (i:=i) oM oM];exact decide_eq_false oM)),.nil⟩)
 ·exact i7 ⟨.ret _ _ (F2 (d3h (k:=0) ‹_› (c9i ‹_›) ‹_›)),.nil⟩
 ·have hd:=d78 (k:=0) ‹_› (c9i ‹_›) oM ‹_›
  (refine F3 (fun (i:Nat) vs bs=>vs=[.str s.length (j9 s),.int .i64 i]∧bs=[]∧i≤s.length∧j8 s i=j8 s 0) (fun i=>s.length - i) 0 ⟨rfl,rfl,oM,rfl⟩ (by simp only [y8];omega) ?_;rintro self i vs bs ⟨rfl,rfl,hi,he⟩ ih;(refine Zx ?_;with_reducible repeat' first|intro _|apply aI);all_goals first | exact ih (i+1) _ _ ⟨rfl,rfl,oM,by rw [← he,c1e (i:=i) oM ‹_› ‹_›]⟩ oM | exact i7 ⟨.ret _ _ (F2 (by rw [hd,← he,b6f (i:=i) oM];exact decide_eq_true oM)),.nil⟩ | exact i7 ⟨.ret _ _ (F2 (by rw [hd,← he,b35 (i:=i) oM oM];exact decide_eq_false oM)),.nil⟩)
 ·exact i7 ⟨.ret _ _ (F2 (d3g (k:=0) ‹_› (e61 ‹_›) oM)),.nil⟩
theorem d1s {s:f6} (h:x8 s=true) (h0:¬s=w9):∀ j,g9 s≤j→j < s.length→48≤bt s j∧bt s j≤57:=by
 intro j h1 h2
 simp [x8,h0] at h
 exact W9 s (g9 s) j h1 oM
theorem d4f:j4 43 (sp1 fun s=>.ret (.t [.c (.b (Y3 s).1),.sl 1 ((Y3 s).2.map dg)])):=l9 (fun fn h=>e46 h) [(65,_)] (.cons d9c .nil) fun U fn hfn ⟨s,hs⟩ vs bs hv hb=>by
 have hr:=hfn 65 _ rfl
 have hv:j6 [.c (.s s)] vs:=hv
 have hb:RBs [] bs:=hb
 show g8 U _ fun v bs'=>j7 (.ret (.t [.c (.b (Y3 s).1),.sl 1 ((Y3 s).2.map dg)])) v∧RBs [] bs'
 unfold r43
 (refine Zx ?_;intros)
 refine f9 hr ⟨s,hs⟩ (r:=.c (.b (x8 s))) rfl j3 .nil fun _ _ _ _=>?_
 (refine Zx ?_;with_reducible repeat' first|intro _|apply aI)
 ·have e:Y3 s=(false,[]):=by unfold Y3;rw [if_neg];exact fun h=>h.2 ‹s=n5 1 48›
  exact i7 ⟨.ret _ _ (by rw [e];(exact j3)),.nil⟩
 ·have h1:=‹x8 s=true›
  have h2:¬s=w9:=‹_›
  have hd:=d1s h1 h2
  have hpos:g9 s < s.length:=by simp [x8,h2] at h1;omega
  have e:Y3 s=(decide (g9 s=1),t8 s (g9 s) s.length []):=by unfold Y3;rw [if_pos ⟨h1,h2⟩]
  (refine Zx ?_;with_reducible repeat' first|intro _|apply aI)
  ·have es:=c0h (s:=s) oM ‹_›
   have h45:=‹((s.getD 0 0).toNat:Int)=45›
   rw [es] at hd e
   generalize hB:U.iEq _ _=B
   (refine F3 (fun (m:Nat) vs bs=>∃ (i:Int) (v:V) (acc:List Nat),vs=[.str s.length (j9 s),.bool B,.int .i64 1,.int .i64 i,v]∧bs=[.tok acc.length 1]∧a0w 0 1 (acc.map dg) v∧i=m - 1∧1≤m∧m≤s.length∧acc.length+m=s.length∧t8 s 1 m acc=t8 s 1 s.length []) (fun m=>m) s.length ⟨_,_,[],rfl,rfl,.b rfl,rfl,oM,oM,by simp,rfl⟩ (by simp only [y8];omega) ?_;rintro self m _ _ ⟨i,v,acc,rfl,rfl,ht,hi,hk,hm,ha,he⟩ ih;subst hi;(refine Zx ?_;with_reducible repeat' first|intro _|apply aI);(have h9:=hd (m - 1) oM oM;have hx:((s.getD ((m:Int) - 1).toNat 0).toNat:Int)=bt s (m - 1):=(by unfold bt;rw [show ((m:Int) - 1).toNat=m - 1 by omega]);refine d2m (m:=((bt s (m - 1) - 48).toNat:Int)) oM oM ?_;refine b0s (m:=((bt s (m - 1) - 48).toNat:Int)) rfl oM ?_;(refine Zx ?_;with_reducible repeat' first|intro _|apply aI);refine T4 aS (fun _=>E7 (by first | exact .i _ _ | exact .s _ _ _ rfl rfl | assumption)) (by rfl) (by simp) (by simp only [List.length_map];omega) fun _ _=>?_;(refine Zx ?_;with_reducible repeat' first|intro _|apply aI);refine ih (m - 1) _ _ ?_ oM;refine ⟨_,_,acc ++ [(bt s (m - 1) - 48).toNat],rfl,by simp,.a _ _ (by simp) (by rw [List.map_append];assumption),oM,oM,oM,by simp;omega,?_⟩;rw [← he];obtain ⟨m,rfl⟩:∃ n,m=n+1:=⟨m - 1,oM⟩;rw [t8,if_pos oM];rfl))
   have em:m=1:=oM
   subst em
   rw [show t8 s 1 1 acc=acc by simp [t8]] at he
   rw [e,← he]
   exact D5 fun eU=>by subst eU;exact ⟨.ret _ _ (.t _ _ (.k (M5 (by rw [← hB,a02];exact (decide_eq_true (rfl:1=1)).trans (decide_eq_true h45).symm)) (.k (.sl _ _ _ _ _ (by simp) aS) .nil))),.nil⟩
  ·have h45:=‹¬((s.getD 0 0).toNat:Int)=45›
   have es:=c9i h45
   rw [es] at hd e
   generalize hB:U.iEq _ _=B
   (refine F3 (fun (m:Nat) vs bs=>∃ (i:Int) (v:V) (acc:List Nat),vs=[.str s.length (j9 s),.bool B,.int .i64 0,.int .i64 i,v]∧bs=[.tok acc.length 1]∧a0w 0 1 (acc.map dg) v∧i=m - 1∧0≤m∧m≤s.length∧acc.length+m=s.length∧t8 s 0 m acc=t8 s 0 s.length []) (fun m=>m) s.length ⟨_,_,[],rfl,rfl,.b rfl,rfl,oM,oM,by simp,rfl⟩ (by simp only [y8];omega) ?_;rintro self m _ _ ⟨i,v,acc,rfl,rfl,ht,hi,hk,hm,ha,he⟩ ih;subst hi;(refine Zx ?_;with_reducible repeat' first|intro _|apply aI);(have h9:=hd (m - 1) oM oM;have hx:((s.getD ((m:Int) - 1).toNat 0).toNat:Int)=bt s (m - 1):=(by unfold bt;rw [show ((m:Int) - 1).toNat=m - 1 by omega]);refine d2m (m:=((bt s (m - 1) - 48).toNat:Int)) oM oM ?_;refine b0s (m:=((bt s (m - 1) - 48).toNat:Int)) rfl oM ?_;(refine Zx ?_;with_reducible repeat' first|intro _|apply aI);refine T4 aS (fun _=>E7 (by first | exact .i _ _ | exact .s _ _ _ rfl rfl | assumption)) (by rfl) (by simp) (by simp only [List.length_map];omega) fun _ _=>?_;(refine Zx ?_;with_reducible repeat' first|intro _|apply aI);refine ih (m - 1) _ _ ?_ oM;refine ⟨_,_,acc ++ [(bt s (m - 1) - 48).toNat],rfl,by simp,.a _ _ (by simp) (by rw [List.map_append];assumption),oM,oM,oM,by simp;omega,?_⟩;rw [← he];obtain ⟨m,rfl⟩:∃ n,m=n+1:=⟨m - 1,oM⟩;rw [t8,if_pos oM];rfl))
   have em:m=0:=oM
   subst em
   rw [show t8 s 0 0 acc=acc by simp [t8]] at he
   rw [e,← he]
   exact D5 fun eU=>by subst eU;exact ⟨.ret _ _ (.t _ _ (.k (M5 (by rw [← hB,a02];exact (decide_eq_false (by decide:¬0=1)).trans (decide_eq_false h45).symm)) (.k (.sl _ _ _ _ _ (by simp) aS) .nil))),.nil⟩
 ·have e:Y3 s=(false,[]):=by unfold Y3;rw [if_neg];exact fun h=>absurd h.1 ‹_›
  exact i7 ⟨.ret _ _ (by rw [e];(exact j3)),.nil⟩
section
variable {U:q7} {P:J0→List Bx→Prop}
theorem b0r {l:List Nat} {t:j0 Q} {off:Nat} {i:Int} (n:Nat) {K:Q→Om} (ht:n7 1 (l.map dg) t off) (hn:i=n) (hi:n < l.length) (h:∀ x,u3 (dg (l.getD n 0)) x 0→g8 U (K x) P):g8 U (U.fQ (U.tQ t (U.nAdd off (U.iNat i))) K) P:=by
 subst hn
 refine c9f (y:=l.getD n 0) ht ?_ h
 rw [Int.toNat_natCast,List.getElem?_eq_getElem hi]
 simp [List.getD,List.getElem?_eq_getElem hi]
end
def spL (R:List Nat→o8):Sp where
 ι:={ l:List Nat // l.length < 21600000 }
 A l:=[.sl 1 (l.1.map dg)]
 B _:=[]
 R l:=R l.1
 B' _:=[]
 inj i j vs bs h k _ _:=by
  obtain ⟨_,_,h1,k1,h,k⟩:=h.two k
  rw [W0 (h1.sl_inj k1)];exact ⟨rfl,rfl⟩
theorem c8c:j4 66 (spL fun l=>.ret (.sl 1 ((D6 l).map dg))):=l9 (fun fn h=>e5r h) [] .nil fun U fn hfn ⟨l,hs⟩ vs bs hv hb=>by
 have hv:j6 [.sl 1 (l.map dg)] vs:=hv
 have hb:RBs [] bs:=hb
 show g8 U _ fun v bs'=>j7 (.ret (.sl 1 ((D6 l).map dg))) v∧RBs [] bs'
 unfold r66
 (refine Zx ?_;intros)
 refine F3 (fun (m:Nat) vs bs=>∃ (t:j0 Q) (off:Nat),vs=[.slice t 1 off l.length .no,.int .i64 m]∧bs=[]∧n7 1 (l.map dg) t off∧m≤l.length∧R0 l m=R0 l l.length) (fun m=>m) l.length ⟨_,_,rfl,rfl,aS,oM,rfl⟩ (by simp only [y8];omega) ?_
 rintro self m _ _ ⟨t,off,rfl,rfl,ht,hm,he⟩ ih
 (refine Zx ?_;with_reducible repeat' first|intro _|apply aI)
 ·refine b0r (m - 1) aS oM oM fun _ _=>?_
  (refine Zx ?_;with_reducible repeat' first|intro _|apply aI)
  ·refine ih (m - 1) _ _ ⟨_,_,by rw [show ((m - 1:Nat):Int)=(m:Int) - 1 by omega],rfl,ht,oM,?_⟩ oM
   have h0:=‹((l.getD (m - 1) 0:Nat):Int)=0›
   obtain ⟨m,rfl⟩:∃ n,m=n+1:=⟨m - 1,oM⟩
   rw [← he,R0,if_pos (by simpa using h0)];rfl
  ·have h0:=‹¬((l.getD (m - 1) 0:Nat):Int)=0›
   have e:D6 l=l.take m:=by
    obtain ⟨m,rfl⟩:∃ n,m=n+1:=⟨m - 1,oM⟩
    unfold D6
    rw [← he,R0,if_neg (by simpa using h0)]
   rw [e,List.map_take]
   exact i7 ⟨.ret _ _ (.sl _ _ _ _ _ (by simp;omega) (ht.take m)),.nil⟩
 ·have em:m=0:=oM
  subst em
  have e:D6 l=l.take 0:=by unfold D6;rw [← he];rfl
  rw [e,List.map_take]
  exact i7 ⟨.ret _ _ (.sl _ _ _ _ _ (by simp) (ht.take 0)),.nil⟩
theorem b4f {l:List Nat} {i:Nat} (h:i < l.length):l[i]=l.getD i 0:=by simp [List.getD,List.getElem?_eq_getElem h]
theorem D9.at {l:List Nat} (h:D9 l) (i:Nat):l.getD i 0≤9:=by
 by_cases hi:i < l.length
 ·rw [← b4f hi];exact h _ (List.getElem_mem _)
 ·simp [List.getD,List.getElem?_eq_none (Nat.le_of_not_lt hi)]
def e7a (ok:List Nat→List Nat→Prop) (R:List Nat→List Nat→o8):Sp where
 ι:={ p:List Nat × List Nat // p.1.length < 21600000∧p.2.length < 21600000∧ok p.1 p.2 }
 A p:=[.sl 1 (p.1.1.map dg),.sl 1 (p.1.2.map dg)]
 B _:=[]
 R p:=R p.1.1 p.1.2
 B' _:=[]
 inj i j vs bs h k _ _:=by
  obtain ⟨_,_,h1,k1,h,k⟩:=h.two k
  obtain ⟨_,_,h2,k2,h,k⟩:=h.two k
  rw [W0 (h1.sl_inj k1),W0 (h2.sl_inj k2)];exact ⟨rfl,rfl⟩
theorem e2p:j4 67 (e7a (fun _ _=>True) fun a b=>.ret (.c (.i .i64 (O9 a b)))):=l9 (fun fn h=>e5s h) [] .nil fun U fn hfn ⟨(a,b),ha,hbl,_⟩ vs bs hv hb=>by
 have ha:a.length < 21600000:=ha
 have hbl:b.length < 21600000:=hbl
 have hv:j6 [.sl 1 (a.map dg),.sl 1 (b.map dg)] vs:=hv
 have hb:RBs [] bs:=hb
 show g8 U _ fun v bs'=>j7 (.ret (.c (.i .i64 (O9 a b)))) v∧RBs [] bs'
 unfold r67
 (refine Zx ?_;with_reducible repeat' first|intro _|apply aI)
 ·have hl:a.length=b.length:=oM
  have e:O9 a b=E9 a b a.length:=by unfold O9;rw [if_pos hl]
  rw [e]
  refine F3 (fun (m:Nat) vs bs=>∃ (t:j0 Q) (off:Nat) (t':j0 Q) (off':Nat) (i:Int),vs=[.slice t 1 off a.length .no,.slice t' 1 off' b.length .no,.int .i64 i]∧bs=[]∧i=m - 1∧n7 1 (a.map dg) t off∧n7 1 (b.map dg) t' off'∧m≤a.length∧E9 a b m=E9 a b a.length) (fun m=>m) a.length ⟨_,_,_,_,_,rfl,rfl,rfl,aS,aS,oM,rfl⟩ (by simp only [y8];omega) ?_
  rintro self m _ _ ⟨t,off,t',off',i,rfl,rfl,rfl,ht,ht',hm,he⟩ ih
  (refine Zx ?_;with_reducible repeat' first|intro _|apply aI)
  ·refine b0r (m - 1) aS oM oM fun _ _=>?_
   (refine Zx ?_;intros)
   refine b0r (m - 1) aS oM oM fun _ _=>?_
   (refine Zx ?_;with_reducible repeat' first|intro _|apply aI)
   ·obtain ⟨m,rfl⟩:∃ n,m=n+1:=⟨m - 1,oM⟩
    exact i7 ⟨.ret _ _ (Y1 (by rw [← he,E9,if_pos (by simp only [Nat.add_sub_cancel] at *;omega)])),.nil⟩
   ·refine b0r (m - 1) aS oM oM fun _ _=>?_
    (refine Zx ?_;intros)
    refine b0r (m - 1) aS oM oM fun _ _=>?_
    (refine Zx ?_;with_reducible repeat' first|intro _|apply aI)
    ·obtain ⟨m,rfl⟩:∃ n,m=n+1:=⟨m - 1,oM⟩
     exact i7 ⟨.ret _ _ (Y1 (by rw [← he,E9,if_neg (by simp only [Nat.add_sub_cancel] at *;omega),if_pos (by simp only [Nat.add_sub_cancel] at *;omega)])),.nil⟩
    ·refine ih (m - 1) _ _ ?_ oM
     obtain ⟨m,rfl⟩:∃ n,m=n+1:=⟨m - 1,oM⟩
     exact ⟨_,_,_,_,_,rfl,rfl,oM,ht,ht',oM,by rw [← he,Nat.add_sub_cancel];conv=>rhs;rw [E9,if_neg (by simp only [Nat.add_sub_cancel] at *;omega),if_neg (by simp only [Nat.add_sub_cancel] at *;omega)]⟩
  ·have em:m=0:=oM
   subst em
   exact i7 ⟨.ret _ _ (Y1 (by rw [← he];rfl)),.nil⟩
 ·exact i7 ⟨.ret _ _ (Y1 (by unfold O9;rw [if_neg oM,if_pos oM])),.nil⟩
 ·exact i7 ⟨.ret _ _ (Y1 (by unfold O9;rw [if_neg oM,if_neg oM])),.nil⟩
theorem a3l {acc:List Nat} {n:Int} {d:Nat} (h:n=d):acc.map dg ++ [[.i .i64 n]]=(acc ++ [d]).map dg:=by subst h;simp [dg]
theorem e2j:j4 68 (e7a (fun a b=>D9 a∧D9 b) fun a b=>.ret (.sl 1 ((b7h a b).map dg))):=l9 (fun fn h=>e5t h) [(66,_)] (.cons c8c .nil) fun U fn hfn ⟨(a,b),ha,hbl,h9a,h9b⟩ vs bs hv hb=>by
 have hr:=hfn 66 _ rfl
 have ha:a.length < 21600000:=ha
 have hbl:b.length < 21600000:=hbl
 have hv:j6 [.sl 1 (a.map dg),.sl 1 (b.map dg)] vs:=hv
 have hb:RBs [] bs:=hb
 show g8 U _ fun v bs'=>j7 (.ret (.sl 1 ((b7h a b).map dg))) v∧RBs [] bs'
 unfold r68
 (refine Zx ?_;intros)
 refine F3 (fun (i:Nat) vs bs=>∃ (t:j0 Q) (off:Nat) (t':j0 Q) (off':Nat) (bor:Nat) (v:V) (acc:List Nat),vs=[.slice t 1 off a.length .no,.slice t' 1 off' b.length .no,.int .i64 bor,.int .i64 i,v]∧bs=[.tok acc.length 1]∧a0w 0 1 (acc.map dg) v∧acc.length=i∧bor≤1 ∧
  n7 1 (a.map dg) t off∧n7 1 (b.map dg) t' off'∧i≤a.length∧N8 a b i bor acc=N8 a b 0 0 []) (fun i=>a.length - i) 0 ⟨_,_,_,_,0,_,[],rfl,rfl,.b rfl,rfl,oM,aS,aS,oM,rfl⟩ (by simp only [y8];omega) ?_
 rintro self i _ _ ⟨t,off,t',off',bor,v,acc,rfl,rfl,hv',hac,hbor,ht,ht',hi,he⟩ ih
 (refine Zx ?_;with_reducible repeat' first|intro _|apply aI)
 ·have q1:a[i]≤9:=h9a _ (List.getElem_mem _)
  have e1:=b4f (l:=a) (i:=i) oM
  (refine Zx ?_;with_reducible repeat' first|intro _|apply aI)
  ·have q2:b[i]≤9:=h9b _ (List.getElem_mem _)
   have e2:=b4f (l:=b) (i:=i) oM
   have hsd:H9 a b i bor=(a[i]:Int) - bor - b[i]:=by unfold H9;rw [if_pos oM,← e1,← e2]
   (refine Zx ?_;with_reducible repeat' first|intro _|apply aI)
   all_goals
    refine T4 aS (fun _=>E7 (by first | exact .i _ _ | exact .s _ _ _ rfl rfl | assumption)) (by rfl) (by simp) (by simp only [List.length_map];omega) fun _ _=>?_
    (refine Zx ?_;with_reducible repeat' first|intro _|apply aI)
   ·refine ih (i+1) _ _ ?_ oM
    exact ⟨_,_,_,_,1,_,acc ++ [(H9 a b i bor+10).toNat],rfl,by simp,.a _ _ (by simp) (by have hq:=‹n7 1 (acc.map dg ++ [_]) _ 0›;rw [a3l (d:=(H9 a b i bor+10).toNat) oM] at hq;exact hq),by simp;omega,oM,aS,aS,oM,by rw [← he];conv=>rhs;rw [N8,if_pos oM,if_pos oM]⟩
   ·refine ih (i+1) _ _ ?_ oM
    exact ⟨_,_,_,_,0,_,acc ++ [(H9 a b i bor).toNat],rfl,by simp,.a _ _ (by simp) (by have hq:=‹n7 1 (acc.map dg ++ [_]) _ 0›;rw [a3l (d:=(H9 a b i bor).toNat) oM] at hq;exact hq),by simp;omega,oM,aS,aS,oM,by rw [← he];conv=>rhs;rw [N8,if_pos oM,if_neg oM]⟩
  ·have hsd:H9 a b i bor=(a[i]:Int) - bor:=by unfold H9;rw [if_neg oM,← e1];omega
   refine T4 aS (fun _=>E7 (by first | exact .i _ _ | exact .s _ _ _ rfl rfl | assumption)) (by rfl) (by simp) (by simp only [List.length_map];omega) fun _ _=>?_
   (refine Zx ?_;intros)
   refine ih (i+1) _ _ ?_ oM
   exact ⟨_,_,_,_,1,_,acc ++ [(H9 a b i bor+10).toNat],rfl,by simp,.a _ _ (by simp) (by have hq:=‹n7 1 (acc.map dg ++ [_]) _ 0›;rw [a3l (d:=(H9 a b i bor+10).toNat) oM] at hq;exact hq),by simp;omega,oM,aS,aS,oM,by rw [← he];conv=>rhs;rw [N8,if_pos oM,if_pos oM]⟩
  ·have hsd:H9 a b i bor=(a[i]:Int) - bor:=by unfold H9;rw [if_neg oM,← e1];omega
   refine T4 aS (fun _=>E7 (by first | exact .i _ _ | exact .s _ _ _ rfl rfl | assumption)) (by rfl) (by simp) (by simp only [List.length_map];omega) fun _ _=>?_
   (refine Zx ?_;intros)
   refine ih (i+1) _ _ ?_ oM
   exact ⟨_,_,_,_,0,_,acc ++ [(H9 a b i bor).toNat],rfl,by simp,.a _ _ (by simp) (by have hq:=‹n7 1 (acc.map dg ++ [_]) _ 0›;rw [a3l (d:=(H9 a b i bor).toNat) oM] at hq;exact hq),by simp;omega,oM,aS,aS,oM,by rw [← he];conv=>rhs;rw [N8,if_pos oM,if_neg oM]⟩
 ·have e:acc=N8 a b 0 0 []:=by rw [← he,N8,if_neg oM]
  refine f9 hr ⟨acc,oM⟩ (r:=.sl 1 ((D6 acc).map dg)) rfl (.k (.sl _ _ _ _ _ (by simp) aS) .nil) .nil fun _ _ _ _=>?_
  (refine Zx ?_;intros)
  exact i7 ⟨.ret _ _ (by unfold b7h;rw [← e];exact .sl _ _ _ _ _ (by simp) aS),.nil⟩
theorem b6l {l:List Nat} {i:Nat} (h:i < l.length):l.getD i 0=l[i]:=(b4f h).symm
def db (d:Nat):UInt8:=UInt8.ofNat (48+d)
theorem d0k {d:Nat} (h:d≤9):(db d).toNat=48+d:=by unfold db;rw [UInt8.toNat_ofNat'];omega
theorem c3o {l:List Nat} {m:Nat} (h:m < l.length):(l.take (m+1)).reverse.map db=db (l.getD m 0) :: (l.take m).reverse.map db:=by
 rw [List.take_add_one,List.getElem?_eq_getElem h,b6l h]
 simp only [Option.toList_some,List.reverse_append,List.reverse_cons,List.reverse_nil,List.nil_append,List.map_cons,List.cons_append]
theorem b5u {n:Nat} (h:n ≠ 0):f7 n=(i6 n).reverse.map db:=by unfold f7;rw [if_neg h];rfl
theorem b4w {acc:f6} {n:Int} {d:UInt8} (h:n=d.toNat):acc.map bg ++ [[.i .u8 n]]=(acc ++ [d]).map bg:=by subst h;simp [bg]
def K0 (neg:Bool) (n:Nat):f6:=if n=0 then w9 else if neg then [45] ++ f7 n else f7 n
theorem e02 (n:Int):K0 (decide (n < 0)) n.natAbs=g7 n:=by
 unfold K0 g7
 by_cases h:n < 0
 ·rw [if_neg oM,if_pos h];simp [h]
 ·rw [if_neg h]
  by_cases h0:n.natAbs=0
  ·rw [if_pos h0,h0];rfl
  ·rw [if_neg h0];simp [h]
def e7h:Sp where
 ι:={ p:Bool × List Nat // p.2.length < 21600000∧D9 p.2 }
 A p:=[.c (.b p.1.1),.sl 1 (p.1.2.map dg)]
 B _:=[]
 R p:=.ret (.c (.s (K0 p.1.1 (val p.1.2))))
 B' _:=[]
 inj i j vs bs h k _ _:=by
  obtain ⟨_,_,h1,k1,h,k⟩:=h.two k
  obtain ⟨_,_,h2,k2,h,k⟩:=h.two k
  rw [b9w h1 k1,W0 (h2.sl_inj k2)];exact ⟨rfl,rfl⟩
theorem d66:j4 46 e7h:=l9 (fun fn h=>e49 h) [(66,_)] (.cons c8c .nil) fun U fn hfn ⟨(neg,l),hl,h9⟩ vs bs hv hb=>by
 have hr:=hfn 66 _ rfl
 have hl:l.length < 21600000:=hl
 have hv:j6 [.c (.b neg),.sl 1 (l.map dg)] vs:=hv
 have hb:RBs [] bs:=hb
 show g8 U _ fun v bs'=>j7 (.ret (.c (.s (K0 neg (val l))))) v∧RBs [] bs'
 have et:D6 l=i6 (val l):=a3z l h9
 have htl:(i6 (val l)).length < 21600000:=by rw [← et];unfold D6;simp;omega
 have h9:=C4 (val l)
 generalize val l=n at *
 generalize hd:i6 n=d at *
 unfold r46
 (refine Zx ?_;intros)
 refine f9 hr ⟨l,oM⟩ (r:=.sl 1 (d.map dg)) (by rw [← et];rfl) j3 .nil fun _ _ _ _=>?_
 (refine Zx ?_;with_reducible repeat' first|intro _|apply aI)
 ·have e0:d=[]:=List.length_eq_zero_iff.1 oM
  have en:n=0:=by rw [← B4 n,hd,e0];rfl
  exact i7 ⟨.ret _ _ (.s _ _ _ (by rw [en];rfl) (by rw [en];rfl)),.nil⟩
 all_goals
  have en:n ≠ 0:=fun e=>by rw [e,u7] at hd;subst hd;simp at *
 ·have ht:neg=true:=‹_›
  have es:K0 neg n=[45] ++ d.reverse.map db:=by unfold K0;rw [if_neg en,if_pos ht,b5u en,hd]
  refine T4 (n7.nil 1 .nil 0) (fun _=>E7 (.i _ _)) rfl rfl dE fun _ _=>?_
  (refine Zx ?_;intros)
  (have hA:([45]:f6).length≤1:=(by simp);refine F3 (fun (m:Nat) vs bs=>∃ (t:j0 Q) (off:Nat) (v:V) (acc:f6) (i:Int),vs=[.slice t 1 off d.length .no,v,.int .i64 i]∧bs=[.tok acc.length 1]∧a0w 0 1 (acc.map bg) v∧i=m - 1∧n7 1 (d.map dg) t off∧m≤d.length∧acc.length+m=([45]:f6).length+d.length∧acc ++ (d.take m).reverse.map db=([45]:f6) ++ d.reverse.map db) (fun m=>m) d.length ⟨_,_,_,[45],_,rfl,rfl,?_,rfl,aS,oM,rfl,by simp⟩ (by simp only [y8];omega) ?_;rotate_left;(rintro self m _ _ ⟨t,off,v,acc,i,rfl,rfl,hv',rfl,ht,hm,ha,he⟩ ih;(refine Zx ?_;with_reducible repeat' first|intro _|apply aI);(refine b0r (m - 1) aS oM oM fun _ _=>?_;have q9:=D9.at h9 (m - 1);(refine Zx ?_;with_reducible repeat' first|intro _|apply aI);refine d71 rfl oM ?_;(refine Zx ?_;with_reducible repeat' first|intro _|apply aI);refine T4 aS (fun _=>E7 (by first | exact .i _ _ | exact .s _ _ _ rfl rfl | assumption)) (by rfl) (by simp) (by simp only [List.length_map];omega) fun _ _=>?_;(refine Zx ?_;with_reducible repeat' first|intro _|apply aI);refine ih (m - 1) _ _ ?_ oM;refine ⟨_,_,_,acc ++ [db (d.getD (m - 1) 0)],_,rfl,by simp,.a _ _ (by simp) ?_,oM,aS,oM,by simp at *;omega,?_⟩;(have hq:=‹n7 1 (acc.map bg ++ [_]) _ 0›;rw [b4w (d:=db (d.getD (m - 1) 0)) (by rw [d0k q9];omega)] at hq;exact hq);(obtain ⟨m,rfl⟩:∃ n,m=n+1:=⟨m - 1,oM⟩;exact (by rw [← he,c3o (m:=m) oM] <;> simp)));(have em:m=0:=oM;subst em;simp only [List.take_zero,List.reverse_nil,List.map_nil,List.append_nil] at he;subst he;refine sBT (ys:=_) aS (by simp) ?_;exact i7 ⟨.ret _ _ (.s _ _ _ (by rw [es] <;> rfl) (by rw [es] <;> rfl)),.nil⟩)))
  ·exact .a _ _ rfl aS
 ·have ht:neg=false:=by simpa using ‹¬neg=true›
  have es:K0 neg n=[] ++ d.reverse.map db:=by unfold K0;rw [if_neg en,if_neg (by simp [ht]),b5u en,hd];rfl
  (have hA:([]:f6).length≤1:=(by simp);refine F3 (fun (m:Nat) vs bs=>∃ (t:j0 Q) (off:Nat) (v:V) (acc:f6) (i:Int),vs=[.slice t 1 off d.length .no,v,.int .i64 i]∧bs=[.tok acc.length 1]∧a0w 0 1 (acc.map bg) v∧i=m - 1∧n7 1 (d.map dg) t off∧m≤d.length∧acc.length+m=([]:f6).length+d.length∧acc ++ (d.take m).reverse.map db=([]:f6) ++ d.reverse.map db) (fun m=>m) d.length ⟨_,_,_,[],_,rfl,rfl,?_,rfl,aS,oM,rfl,by simp⟩ (by simp only [y8];omega) ?_;rotate_left;(rintro self m _ _ ⟨t,off,v,acc,i,rfl,rfl,hv',rfl,ht,hm,ha,he⟩ ih;(refine Zx ?_;with_reducible repeat' first|intro _|apply aI);(refine b0r (m - 1) aS oM oM fun _ _=>?_;have q9:=D9.at h9 (m - 1);(refine Zx ?_;with_reducible repeat' first|intro _|apply aI);refine d71 rfl oM ?_;(refine Zx ?_;with_reducible repeat' first|intro _|apply aI);refine T4 aS (fun _=>E7 (by first | exact .i _ _ | exact .s _ _ _ rfl rfl | assumption)) (by rfl) (by simp) (by simp only [List.length_map];omega) fun _ _=>?_;(refine Zx ?_;with_reducible repeat' first|intro _|apply aI);refine ih (m - 1) _ _ ?_ oM;refine ⟨_,_,_,acc ++ [db (d.getD (m - 1) 0)],_,rfl,by simp,.a _ _ (by simp) ?_,oM,aS,oM,by simp at *;omega,?_⟩;(have hq:=‹n7 1 (acc.map bg ++ [_]) _ 0›;rw [b4w (d:=db (d.getD (m - 1) 0)) (by rw [d0k q9];omega)] at hq;exact hq);(obtain ⟨m,rfl⟩:∃ n,m=n+1:=⟨m - 1,oM⟩;exact (by rw [← he,c3o (m:=m) oM] <;> simp)));(have em:m=0:=oM;subst em;simp only [List.take_zero,List.reverse_nil,List.map_nil,List.append_nil] at he;subst he;refine sBT (ys:=_) aS (by simp) ?_;exact i7 ⟨.ret _ _ (.s _ _ _ (by rw [es] <;> rfl) (by rw [es] <;> rfl)),.nil⟩)))
  ·exact .a _ _ rfl (.nil _ _ _)
theorem b12 (s:f6) (e:Nat):∀ (k:Nat) (acc:List Nat),(t8 s e k acc).length≤acc.length+k
 | 0,acc=>by simp [t8]
 | k+1,acc=>by
  rw [t8]
  split
  ·have:=b12 s e k (acc ++ [(bt s k - 48).toNat]);simp at this;omega
  ·omega
theorem N5 {a b:Nat} (h:a≤b):(i6 a).length≤(i6 b).length:=by
 by_cases ha:a=0
 ·rw [ha,u7];simp
 ·have h1:=b1d a ha
  have h2:=a1m (i6 b) (C4 b)
  rw [B4] at h2
  have h3:10 ^ ((i6 a).length - 1) < 10 ^ (i6 b).length:=oM
  have h4:=(Nat.pow_lt_pow_iff_right (by omega:1 < 10)).1 h3
  omega
theorem a0a (s:f6):(i6 (f8 s).natAbs).length≤s.length:=by
 have h:=b1c s
 have:(Y3 s).2=i6 (f8 s).natAbs:=by rw [h]
 rw [← this]
 unfold Y3
 split
 ·have:=b12 s (g9 s) s.length [];simpa using this
 ·simp
theorem f4g (n j:Nat):(List.replicate n 0).getD j 0=0:=by
 by_cases h:j < n
 ·rw [b6l (by simpa using h)];simp
 ·simp [List.getD,List.getElem?_replicate,h]
theorem d3y {l:List Nat} {k:Nat} (v:Nat) (h:k < l.length):(l.set k v).drop k=v :: l.drop (k+1):=by
 rw [List.drop_eq_getElem_cons (by simpa using h),List.getElem_set_self,List.drop_set_of_lt oM]
theorem d50 {l:List Nat} {k v:Nat} (h:l.getD k 0=v):l.set k v=l:=by
 by_cases hk:k < l.length
 ·rw [b6l hk] at h;subst h;exact List.set_getElem_self hk
 ·exact List.set_eq_of_length_le oM
theorem e1r {l:List Nat} (h:D9 l) (k:Nat) {v:Nat} (hv:v≤9):D9 (l.set k v):=fun d hd=>by
 rcases List.mem_or_eq_of_mem_set hd with h1 | h1
 ·exact h d h1
 ·omega
theorem b16 {l:List Nat} {k j v:Nat} (h:j ≠ k):(l.set k v).getD j 0=l.getD j 0:=by
 simp only [List.getD,List.getElem?_set_ne (Ne.symm h)]
theorem d1j (l:List Nat) (k v:Nat) {n:Int} (h:n=v):(l.map dg).set k [.i .i64 n]=(l.set k v).map dg:=by subst h;rw [List.map_set];rfl
def e7f:Sp where
 ι:={ p:Nat × Nat // (i6 p.1).length < 19200000∧(i6 p.2).length < 19200000∧0 < p.2 }
 A p:=[.sl 1 ((i6 p.1.1).map dg),.sl 1 ((i6 p.1.2).map dg)]
 B _:=[]
 R p:=.ret (.t [.sl 1 ((i6 (p.1.1 / p.1.2)).map dg),.sl 1 ((i6 (p.1.1 % p.1.2)).map dg)])
 B' _:=[]
 inj i j vs bs h k _ _:=by
  obtain ⟨_,_,h1,k1,h,k⟩:=h.two k
  obtain ⟨_,_,h2,k2,h,k⟩:=h.two k
  have e1:=congrArg val (W0 (h1.sl_inj k1))
  have e2:=congrArg val (W0 (h2.sl_inj k2))
  rw [B4,B4] at e1 e2
  rw [e1,e2];exact ⟨rfl,rfl⟩
theorem d65:j4 45 e7f:=l9 (fun fn h=>e48 h) [(66,_),(67,_),(68,_)] (.cons c8c (.cons e2p (.cons e2j .nil))) fun U fn hfn ⟨(x,y),hx,hy,hp⟩ vs bs hv hb=>by
 have hr:=hfn 66 _ rfl
 have ho:=hfn 67 _ rfl
 have hmi:=hfn 68 _ rfl
 have hx:(i6 x).length < 19200000:=hx
 have hy:(i6 y).length < 19200000:=hy
 have hp:0 < y:=hp
 have hv:j6 [.sl 1 ((i6 x).map dg),.sl 1 ((i6 y).map dg)] vs:=hv
 have hb:RBs [] bs:=hb
 show g8 U _ fun v bs'=>j7 (.ret (.t [.sl 1 ((i6 (x / y)).map dg),.sl 1 ((i6 (x % y)).map dg)])) v∧RBs [] bs'
 unfold r45
 (refine Zx ?_;intros)
 refine sZT (fun _=>E7 (.i _ _)) rfl (by simp;omega) fun t0 ht0=>?_
 have ht0:n7 1 ((List.replicate (i6 x).length 0).map dg) t0 0:=by have:=ht0;simpa [dg] using this
 have h9x:=C4 x
 have h9y:=C4 y
 (refine Zx ?_;intros)
 refine F3 (fun (m:Nat) vs bs=>∃ (t:j0 Q) (off:Nat) (t':j0 Q) (off':Nat) (v:V) (i:Int) (tq:j0 Q) (qs:List Nat),vs=[.slice t 1 off (i6 x).length .no,.slice t' 1 off' (i6 y).length .no,.bslice 0 (i6 x).length,v,.int .i64 i]∧bs=[.row tq (i6 x).length]∧i=m - 1∧m≤(i6 x).length∧n7 1 ((i6 x).map dg) t off∧n7 1 ((i6 y).map dg) t' off' ∧
  RV (.sl 1 ((i6 (val ((i6 x).drop m) % y)).map dg)) v∧n7 1 (qs.map dg) tq 0∧qs.length=(i6 x).length∧D9 qs∧(∀ j,j < m→qs.getD j 0=0)∧val (qs.drop m)=val ((i6 x).drop m) / y) (fun m=>m) (i6 x).length
  ⟨_,_,_,_,_,_,_,_,rfl,by simp,rfl,oM,aS,aS,by rw [List.drop_length];simp only [val,Nat.zero_mod,u7];exact .sl0 _ _ _,ht0,by simp,by intro d hd;simp at hd;omega,fun j _=>f4g _ j,by simp [val]⟩ (by simp only [y8];omega) ?_
 rintro self m _ _ ⟨t,off,t',off',v,i,tq,qs,rfl,rfl,rfl,hm,ht,ht',hv',hq,hql,hq9,hq0,hqv⟩ ih
 have hrl:(i6 (val ((i6 x).drop m) % y)).length≤(i6 y).length:=N5 (Nat.le_of_lt (Nat.mod_lt _ hp))
 (refine Zx ?_;with_reducible repeat' first|intro _|apply aI)
 ·refine b0r (m - 1) aS oM oM fun _ _=>?_
  have hd9:=D9.at h9x (m - 1)
  have hdr:=d0r x (m - 1) oM
  rw [show m - 1+1=m by omega] at hdr
  generalize hX:val ((i6 x).drop m)=X at *
  generalize hdd:(i6 x).getD (m - 1) 0=d at *
  have hml:=Nat.mod_lt X hp
  (refine Zx ?_;intros)
  refine sAT (xs:=[dg d]) (ys:=(i6 (X % y)).map dg) (n:=1) (.cons _ _ _ _ _ rfl (E7 aS).1 (E7 aS).2 (.nil _ _ _)) aS rfl (by simp) (by simp;omega) fun _ _=>?_
  (refine Zx ?_;intros)
  have htr:=b6g d (X % y) hd9
  refine f9 hr ⟨d :: i6 (X % y),by simp;omega⟩ (r:=.sl 1 ((i6 (d+10 * (X % y))).map dg)) (by rw [← htr];rfl) (.k (.sl _ _ _ _ _ (by simp;omega) aS) .nil) .nil fun _ _ _ _=>?_
  generalize hR:d+10 * (X % y)=R at *
  (refine Zx ?_;intros)
  have hRl:(i6 R).length < 21600000:=by rw [← htr];unfold D6;simp;omega
  have hRy:R < 10 * y:=oM
  refine F3 (fun (c:Nat) vs bs=>∃ (t:j0 Q) (off:Nat) (t':j0 Q) (off':Nat) (v:V) (i:Int) (tq:j0 Q),vs=[.slice t 1 off (i6 x).length .no,.slice t' 1 off' (i6 y).length .no,.bslice 0 (i6 x).length,v,.int .i64 i]∧bs=[.row tq (i6 x).length]∧i=m - 1∧n7 1 ((i6 x).map dg) t off∧n7 1 ((i6 y).map dg) t' off' ∧
   RV (.sl 1 ((i6 (R - c * y)).map dg)) v∧n7 1 ((qs.set (m - 1) c).map dg) tq 0∧c * y≤R) (fun c=>10 - c) 0
   ⟨_,_,_,_,_,_,_,rfl,rfl,rfl,aS,aS,by rw [Nat.zero_mul,Nat.sub_zero];exact .sl _ _ _ _ _ (by simp) aS,by rw [show qs.set (m - 1) 0=qs from d50 (hq0 _ oM)];exact hq,oM⟩ (by simp only [y8];omega) ?_
  rintro self2 c _ _ ⟨t,off,t',off',v,i,tq,rfl,rfl,rfl,ht,ht',hv',hq,hc⟩ ih2
  have hc9:c≤9:=by
   have:c * y < 10 * y:=oM
   have:=Nat.lt_of_mul_lt_mul_right this
   omega
  have hcl:(i6 (R - c * y)).length < 21600000:=by have:=N5 (Nat.sub_le R (c * y));omega
  (refine Zx ?_;intros)
  refine f9 ho ⟨(i6 (R - c * y),i6 y),hcl,show (i6 y).length < 21600000 by omega,trivial⟩ (r:=.c (.i .i64 (O9 (i6 (R - c * y)) (i6 y)))) rfl j3 .nil fun _ _ _ _=>?_
  have hord:=d1v (R - c * y) y
  generalize O9 (i6 (R - c * y)) (i6 y)=o at *
  (refine Zx ?_;with_reducible repeat' first|intro _|apply aI)
  ·have hge:y≤R - c * y:=by
    by_cases h:R - c * y < y
    ·rw [if_pos h] at hord;omega
    ·omega
   have hmul:(c+1) * y=c * y+y:=by rw [Nat.add_mul,Nat.one_mul]
   have hsub:b7h (i6 (R - c * y)) (i6 y)=i6 (R - (c+1) * y):=by rw [d2w _ _ hge];congr 1;omega
   refine f9 hmi ⟨(i6 (R - c * y),i6 y),hcl,show (i6 y).length < 21600000 by omega,C4 _,C4 _⟩ (r:=.sl 1 ((i6 (R - (c+1) * y)).map dg)) (by rw [← hsub];rfl) j3 .nil fun _ _ _ _=>?_
   (refine Zx ?_;intros)
   have hk:((m:Int) - 1).toNat * 1=m - 1:=oM
   rw [hk]
   refine e6v (g:=.i .i64 (c:Int)) hq (by rw [List.getElem?_map,List.getElem?_set_self oM];rfl) fun _ _=>?_
   (refine Zx ?_;intros)
   rw [hk]
   refine a8u hq (fun _=>E7 (.i _ _)) rfl (by simp;omega) oM fun _ hq2=>?_
   rw [d1j (n:=(c:Int)+1) _ _ (c+1) oM,List.set_set] at hq2
   exact ih2 (c+1) _ _ ⟨_,_,_,_,_,_,_,rfl,rfl,rfl,ht,ht',.sl _ _ _ _ _ (by simp) aS,hq2,oM⟩ oM
  ·have hlt:R - c * y < y:=by
    by_cases h:R - c * y < y
    ·exact h
    ·rw [if_neg h] at hord;split at hord <;> omega
   obtain ⟨o1,o2⟩:=c8w R c y hp hc hlt
   obtain ⟨s1,s2⟩:=d1w X d y hp
   have hdv:val ((i6 x).drop (m - 1))=d+10 * X:=hdr
   refine ih (m - 1) _ _ ⟨_,_,_,_,_,_,_,_,rfl,rfl,oM,oM,ht,ht',?_,hq,by simp;omega,e1r hq9 _ hc9,fun j hj=>by rw [b16 oM];exact hq0 j oM,?_⟩ oM
   ·rw [hdv,s2,hR,o2];exact .sl _ _ _ _ _ (by simp) aS
   ·rw [d3y c oM,val,show m - 1+1=m by omega,hqv,hdv,s1,hR,o1]
 ·have em:m=0:=oM
  subst em
  rw [List.drop_zero,List.drop_zero,B4] at hqv
  refine f9 hr ⟨qs,oM⟩ (r:=.sl 1 ((i6 (x / y)).map dg)) (by rw [← hqv,← a3z qs hq9];rfl) (.k (.sl _ _ _ _ _ (by simp;omega) hq) .nil) .nil fun _ _ _ _=>?_
  rw [List.drop_zero,B4] at *
  (refine Zx ?_;intros)
  exact i7 ⟨.ret _ _ (.t _ _ j3),.nil⟩
theorem b6p:j4 43 (sp1 fun s=>.ret (.t [.c (.b (decide (f8 s < 0))),.sl 1 ((i6 (f8 s).natAbs).map dg)])):=by
 have:=d4f
 simpa only [b1c] using this
theorem e6y (neg:Bool) (n:Nat):K0 neg n=g7 (if neg then -(n:Int) else n):=by
 unfold K0 g7
 by_cases h0:n=0
 ·subst h0;cases neg <;> rfl
 ·rw [if_neg h0]
  cases neg
  ·simp only [Bool.false_eq_true,if_false]
   rw [if_neg oM];simp
  ·simp only [if_true]
   rw [if_pos oM];simp
theorem b0t (n:Nat):K0 false n=f7 n:=by
 unfold K0
 split
 ·rename_i h;subst h;rfl
 ·rfl
def sp2 (R:f6→f6→o8):Sp where
 ι:={ p:f6 × f6 // p.1.length < 2160000∧p.2.length < 2160000 }
 A p:=[.c (.s p.1.1),.c (.s p.1.2)]
 B _:=[]
 R p:=R p.1.1 p.1.2
 B' _:=[]
 inj i j vs bs h k _ _:=by
  obtain ⟨_,_,h1,k1,h,k⟩:=h.two k
  obtain ⟨_,_,h2,k2,h,k⟩:=h.two k
  rw [F5 h1 k1,F5 h2 k2];exact ⟨rfl,rfl⟩
theorem c1y:j4 61 (sp1 fun s=>.ret (.c (.i .i64 (A6 s)))):=l9 (fun fn h=>e5m h) [(43,_)] (.cons b6p .nil) fun U fn hfn ⟨s,hs⟩ vs bs hv hb=>by
 have hr:=hfn 43 _ rfl
 have hv:j6 [.c (.s s)] vs:=hv
 have hb:RBs [] bs:=hb
 show g8 U _ fun v bs'=>j7 (.ret (.c (.i .i64 (A6 s)))) v∧RBs [] bs'
 unfold r61
 (refine Zx ?_;intros)
 refine f9 hr ⟨s,hs⟩ (r:=.t [.c (.b (decide (f8 s < 0))),.sl 1 ((i6 (f8 s).natAbs).map dg)]) rfl j3 .nil fun _ _ _ _=>?_
 (refine Zx ?_;intros)
 refine d2h a3a (fun h=>?_) (fun h=>?_)
 ·exact i7 ⟨.ret _ _ (Y1 (by unfold A6;omega)),.nil⟩
 ·exact i7 ⟨.ret _ _ (Y1 (by unfold A6;omega)),.nil⟩
def mu (m n:Nat):Nat:=if n=0 then 0 else 1+Nat.log2 (m * n)+(if m < n then 1 else 0)
theorem c6m {m n:Nat} (h:0 < n):mu n (m % n) < mu m n:=by
 have hlt:=Nat.mod_lt m h
 unfold mu
 rw [if_neg (by omega:¬n=0),if_neg (by omega:¬n < m % n)]
 split
 ·omega
 ·rename_i h0
  by_cases hmn:m < n
  ·rw [if_pos hmn,Nat.mod_eq_of_lt hmn,Nat.mul_comm];omega
  ·rw [if_neg hmn]
   have h1:n * (m % n) * 2≤m * n:=by
    have h2:n≤n * (m / n):=Nat.le_mul_of_pos_right _ (Nat.div_pos (Nat.le_of_not_lt hmn) h)
    have h3:=Nat.div_add_mod m n
    have h4:2 * (m % n)≤m:=oM
    calc n * (m % n) * 2=n * (2 * (m % n)):=by ac_rfl
     _≤n * m:=Nat.mul_le_mul_left _ h4
     _=m * n:=Nat.mul_comm _ _
   have h5:0 < n * (m % n):=Nat.mul_pos h oM
   have h6:=Nat.log2_self_le (by omega:n * (m % n) ≠ 0)
   have h7:2 ^ (Nat.log2 (n * (m % n))+1)≤m * n:=by rw [Nat.pow_succ];omega
   have h8:Nat.log2 (n * (m % n))+1≤Nat.log2 (m * n):=(Nat.le_log2 oM).2 h7
   omega
theorem d7c {m n:Nat} (hm:(i6 m).length < 2160000) (hn:(i6 n).length < 2160000):mu m n < y8:=by
 have h2:=a1m (i6 m) (C4 m)
 have h3:=a1m (i6 n) (C4 n)
 rw [B4] at h2 h3
 unfold mu
 simp only [y8]
 split
 ·omega
 ·by_cases h0:m * n=0
  ·rw [h0];simp;split <;> omega
  ·have h4:m * n < 10 ^ ((i6 m).length+(i6 n).length):=by rw [Nat.pow_add];exact Nat.mul_lt_mul'' h2 h3
   have h5:10 ^ ((i6 m).length+(i6 n).length)≤2 ^ (4 * ((i6 m).length+(i6 n).length)):=by rw [Nat.pow_mul];exact Nat.pow_le_pow_left dE _
   have h6:=(Nat.log2_lt h0).2 (Nat.lt_of_lt_of_le h4 h5)
   split <;> omega
theorem f4d:j4 44 (sp2 fun a b=>.ret (.c (.s (f7 (Nat.gcd (f8 a).natAbs (f8 b).natAbs))))):=l9 (fun fn h=>e47 h) [(43,_),(45,_),(46,_)] (.cons b6p (.cons d65 (.cons d66 .nil))) fun U fn hfn ⟨(a,b),ha,hbl⟩ vs bs hv hb=>by
 have hd:=hfn 43 _ rfl
 have ho:=hfn 45 _ rfl
 have hx:=hfn 46 _ rfl
 have ha:a.length < 2160000:=ha
 have hbl:b.length < 2160000:=hbl
 have hv:j6 [.c (.s a),.c (.s b)] vs:=hv
 have hb:RBs [] bs:=hb
 show g8 U _ fun v bs'=>j7 (.ret (.c (.s (f7 (Nat.gcd (f8 a).natAbs (f8 b).natAbs))))) v∧RBs [] bs'
 have la:=a0a a
 have lb:=a0a b
 unfold r44
 (refine Zx ?_;intros)
 refine f9 hd ⟨a,oM⟩ (r:=.t [.c (.b (decide (f8 a < 0))),.sl 1 ((i6 (f8 a).natAbs).map dg)]) rfl j3 .nil fun _ _ _ _=>?_
 (refine Zx ?_;intros)
 refine f9 hd ⟨b,oM⟩ (r:=.t [.c (.b (decide (f8 b < 0))),.sl 1 ((i6 (f8 b).natAbs).map dg)]) rfl j3 .nil fun _ _ _ _=>?_
 generalize (f8 a).natAbs=x at *
 generalize (f8 b).natAbs=y at *
 (refine Zx ?_;intros)
 refine F3 (fun (p:Nat × Nat) vs bs=>∃ (t:j0 Q) (off:Nat) (t':j0 Q) (off':Nat),vs=[.slice t 1 off (i6 p.1).length .no,.slice t' 1 off' (i6 p.2).length .no]∧bs=[]∧n7 1 ((i6 p.1).map dg) t off∧n7 1 ((i6 p.2).map dg) t' off'∧(i6 p.1).length < 2160000∧(i6 p.2).length < 2160000∧Nat.gcd p.1 p.2=Nat.gcd x y) (fun p=>mu p.1 p.2) (x,y)
  ⟨_,_,_,_,rfl,rfl,aS,aS,by simp only;omega,by simp only;omega,rfl⟩ (d7c (by simp only;omega) (by simp only;omega)) ?_
 rintro self ⟨m,n⟩ _ _ ⟨t,off,t',off',rfl,rfl,ht,ht',hm,hn,hg⟩ ih
 simp only at *
 (refine Zx ?_;with_reducible repeat' first|intro _|apply aI)
 ·have hn0:0 < n:=by
   by_cases h:n=0
   ·subst h;rw [u7] at *;simp at *
   ·omega
  have hml:=N5 (Nat.le_of_lt (Nat.mod_lt m hn0))
  refine f9 ho ⟨(m,n),show (i6 m).length < 19200000 by omega,show (i6 n).length < 19200000 by omega,hn0⟩ (r:=.t [.sl 1 ((i6 (m / n)).map dg),.sl 1 ((i6 (m % n)).map dg)]) rfl j3 .nil fun _ _ _ _=>?_
  (refine Zx ?_;intros)
  exact ih (n,m % n) _ _ ⟨_,_,_,_,rfl,rfl,aS,aS,hn,by simp only;omega,by rw [← hg,Nat.gcd_comm m n,Nat.gcd_rec n m,Nat.gcd_comm]⟩ (c6m hn0)
 ·have hn0:n=0:=by rw [← B4 n,List.length_eq_zero_iff.1 (by omega:(i6 n).length=0)];rfl
  subst hn0
  rw [Nat.gcd_zero_right] at hg
  refine f9 hx ⟨(false,i6 m),show (i6 m).length < 21600000 by omega,C4 _⟩ (r:=.c (.s (f7 m))) (by show o8.ret (.c (.s (K0 false (val (i6 m)))))=_;rw [B4,b0t]) j3 .nil fun _ _ _ _=>?_
  rw [← hg]
  (refine Zx ?_;intros)
  exact i7 ⟨.ret _ _ j3,.nil⟩
theorem b2k (n:Nat):(f7 n).length≤(i6 n).length+1:=by
 by_cases h:n=0
 ·subst h;decide
 ·rw [L2 n h];omega
theorem b6r:j4 24 (sp2 fun a b=>.ret (.t [.c (.s (m7 a b).1),.c (.s (m7 a b).2)])):=l9 (fun fn h=>e4q h) [(43,_),(45,_),(46,_),(44,_)] (.cons b6p (.cons d65 (.cons d66 (.cons f4d .nil)))) fun U fn hfn ⟨(a,b),ha,hbl⟩ vs bs hv hb=>by
 have hd:=hfn 43 _ rfl
 have ho:=hfn 45 _ rfl
 have hx:=hfn 46 _ rfl
 have hg:=hfn 44 _ rfl
 have ha:a.length < 2160000:=ha
 have hbl:b.length < 2160000:=hbl
 have hv:j6 [.c (.s a),.c (.s b)] vs:=hv
 have hb:RBs [] bs:=hb
 show g8 U _ fun v bs'=>j7 (.ret (.t [.c (.s (m7 a b).1),.c (.s (m7 a b).2)])) v∧RBs [] bs'
 have la:=a0a a
 have lb:=a0a b
 unfold r24
 (refine Zx ?_;intros)
 refine f9 hd ⟨b,oM⟩ (r:=.t [.c (.b (decide (f8 b < 0))),.sl 1 ((i6 (f8 b).natAbs).map dg)]) rfl j3 .nil fun _ _ _ _=>?_
 (refine Zx ?_;with_reducible repeat' first|intro _|apply aI)
 ·have e0:f8 b=0:=by
   have h1:=B4 (f8 b).natAbs
   rw [List.length_eq_zero_iff.1 (by omega:(i6 (f8 b).natAbs).length=0)] at h1
   simp [val] at h1;omega
  have e:m7 a b=(w9,R6):=by unfold m7;rw [if_pos e0]
  rw [e]
  exact i7 ⟨.ret _ _ j3,.nil⟩
 ·have e0:¬f8 b=0:=fun h=>‹¬((i6 (f8 b).natAbs).length:Int)=0› (by rw [h,Int.natAbs_zero,u7];rfl)
  refine f9 hd ⟨a,oM⟩ (r:=.t [.c (.b (decide (f8 a < 0))),.sl 1 ((i6 (f8 a).natAbs).map dg)]) rfl j3 .nil fun _ _ _ _=>?_
  (refine Zx ?_;intros)
  refine f9 hg ⟨(a,b),ha,hbl⟩ (r:=.c (.s (f7 (Nat.gcd (f8 a).natAbs (f8 b).natAbs)))) rfl j3 .nil fun _ _ _ _=>?_
  have e:m7 a b=(g7 ((if (f8 a < 0)=(f8 b < 0) then 1 else -1) * (((f8 a).natAbs / Nat.gcd (f8 a).natAbs (f8 b).natAbs:Nat):Int)),f7 ((f8 b).natAbs / Nat.gcd (f8 a).natAbs (f8 b).natAbs)):=by unfold m7;rw [if_neg e0]
  rw [e]
  have hgp:0 < Nat.gcd (f8 a).natAbs (f8 b).natAbs:=Nat.gcd_pos_of_pos_right _ oM
  have hgl:=N5 (Nat.gcd_le_right (f8 a).natAbs (by omega:0 < (f8 b).natAbs))
  generalize Nat.gcd (f8 a).natAbs (f8 b).natAbs=g at *
  have hsl:=b2k g
  (refine Zx ?_;intros)
  refine f9 hd ⟨f7 g,oM⟩ (r:=.t [.c (.b (decide ((g:Int) < 0))),.sl 1 ((i6 g).map dg)]) (by show o8.ret (.t [.c (.b (decide (f8 (f7 g) < 0))),.sl 1 ((i6 (f8 (f7 g)).natAbs).map dg)])=_;rw [D7];rfl) j3 .nil fun _ _ _ _=>?_
  (refine Zx ?_;intros)
  have l3:=N5 (Nat.div_le_self (f8 a).natAbs g)
  have l4:=N5 (Nat.div_le_self (f8 b).natAbs g)
  refine f9 ho ⟨((f8 a).natAbs,g),show (i6 (f8 a).natAbs).length < 19200000 by omega,show (i6 g).length < 19200000 by omega,hgp⟩ (r:=.t [.sl 1 ((i6 ((f8 a).natAbs / g)).map dg),.sl 1 ((i6 ((f8 a).natAbs % g)).map dg)]) rfl j3 .nil fun _ _ _ _=>?_
  (refine Zx ?_;intros)
  refine f9 ho ⟨((f8 b).natAbs,g),show (i6 (f8 b).natAbs).length < 19200000 by omega,show (i6 g).length < 19200000 by omega,hgp⟩ (r:=.t [.sl 1 ((i6 ((f8 b).natAbs / g)).map dg),.sl 1 ((i6 ((f8 b).natAbs % g)).map dg)]) rfl j3 .nil fun _ _ _ _=>?_
  (refine Zx ?_;intros)
  refine f9 hx ⟨(decide (f8 a < 0) != decide (f8 b < 0),i6 ((f8 a).natAbs / g)),show (i6 _).length < 21600000 by omega,C4 _⟩ (r:=.c (.s (g7 ((if (f8 a < 0)=(f8 b < 0) then 1 else -1) * (((f8 a).natAbs / g:Nat):Int))))) ?_ j3 .nil fun _ _ _ _=>?_
  ·show o8.ret (.c (.s (K0 _ (val (i6 _)))))=_
   rw [B4,e6y]
   congr 4
   by_cases h1:f8 a < 0 <;> by_cases h2:f8 b < 0 <;> simp [h1,h2]
  ·(refine Zx ?_;intros)
   refine f9 hx ⟨(false,i6 ((f8 b).natAbs / g)),show (i6 _).length < 21600000 by omega,C4 _⟩ (r:=.c (.s (f7 ((f8 b).natAbs / g)))) (by show o8.ret (.c (.s (K0 false (val (i6 _)))))=_;rw [B4,b0t]) j3 .nil fun _ _ _ _=>?_
   (refine Zx ?_;intros)
   exact i7 ⟨.ret _ _ j3,.nil⟩
theorem u3.at {gs:List G} {q:Q} {j:Nat} {g:G} (h:u3 gs q 0) (e:gs[j]?=some g):RG g (CU.celQ q j):=by
 have:=h.get e;rw [Nat.zero_add] at this;exact this
def sg (s:Sy):List G:=[.s s.1,.s s.2]
theorem a7k {a b:Sy} (h:sg a=sg b):a=b:=by simp only [sg,List.cons.injEq,G.s.injEq,and_true] at h;exact Prod.ext h.1 h.2
def x9:f6:=[108,105,115,112]
def A7:O:=.sy (x9,[110,105,108])
def sp0 (g:GV):Sp where
 ι:=Unit
 A _:=[]
 B _:=[]
 R _:=.ret g
 B' _:=[]
 inj _ _ _ _ _ _ _ _:=⟨rfl,rfl⟩
def e9i (g:f6→GV):Sp where
 ι:=f6
 A s:=[.c (.s s)]
 B _:=[]
 R s:=.ret (g s)
 B' _:=[]
 inj i j vs bs h k _ _:=by
  obtain ⟨_,_,h1,k1,h,k⟩:=h.two k
  rw [F5 h1 k1];exact ⟨rfl,rfl⟩
def e7g (g:Sy→GV):Sp where
 ι:=Sy
 A s:=[.a (sg s)]
 B _:=[]
 R s:=.ret (g s)
 B' _:=[]
 inj i j vs bs h k _ _:=by
  obtain ⟨_,_,h1,k1,h,k⟩:=h.two k
  rw [a7k (h1.a_inj k1)];exact ⟨rfl,rfl⟩
def spO (g:O→GV):Sp where
 ι:=O
 A o:=[.a o.g]
 B _:=[]
 R o:=.ret (g o)
 B' _:=[]
 inj i j vs bs h k _ _:=by rw [b3y h k];exact ⟨rfl,rfl⟩
def f4r (g:O→O→GV):Sp where
 ι:=O × O
 A o:=[.a o.1.g,.a o.2.g]
 B _:=[]
 R o:=.ret (g o.1 o.2)
 B' _:=[]
 inj i j vs bs h k _ _:=by obtain ⟨e1,e2⟩:=c0q h k;rw [e1,e2];exact ⟨rfl,rfl⟩
theorem b93:j4 11 (e9i fun s=>.a (sg (x9,s))):=l9 (fun fn h=>e3x h) [] .nil fun U fn hfn s vs bs hv hb=>by
 have hv:j6 [.c (.s s)] vs:=hv
 have hb:RBs [] bs:=hb
 show g8 U _ fun v bs'=>j7 (.ret (.a (sg (x9,s)))) v∧RBs [] bs'
 unfold r11
 (refine Zx ?_;intros)
 exact i7 ⟨.ret _ _ j3,.nil⟩
theorem b6t:j4 10 (e7g fun s=>.a (O.sy s).g):=l9 (fun fn h=>e3r h) [] .nil fun U fn hfn s vs bs hv hb=>by
 have hv:j6 [.a [.s s.1,.s s.2]] vs:=hv
 have hb:RBs [] bs:=hb
 show g8 U _ fun v bs'=>j7 (.ret (.a (O.sy s).g)) v∧RBs [] bs'
 unfold r10
 (refine Zx ?_;intros)
 exact D5 fun e=>by subst e;exact ⟨.ret _ _ (by (exact Zru)),.nil⟩
theorem e8n:j4 23 (f4r fun a d=>.a (O.co a d).g):=l9 (fun fn h=>e4p h) [] .nil fun U fn hfn ⟨a,d⟩ vs bs hv hb=>by
 have hv:j6 [.a a.g,.a d.g] vs:=hv
 have hb:RBs [] bs:=hb
 show g8 U _ fun v bs'=>j7 (.ret (.a (O.co a d).g)) v∧RBs [] bs'
 unfold r23
 refine W5 hv fun v l hv1 hv2=>?_
 refine S7 hv1 a.g_len fun qa ha=>?_
 refine W5 hv2 fun v l hv3 hv4=>?_
 refine S7 hv3 d.g_len fun qd hd=>?_
 refine b5m hv4 (a7i hb ?_)
 refine a7j ha fun xa ha=>?_
 refine a7j hd fun xd hd=>?_
 refine i7 ⟨.ret _ _ (.ag _ _ ?_),.nil⟩
 refine .k (.i _ _) (.k (.s _ _ _ rfl rfl) (.k (.s _ _ _ rfl rfl) (.k (.s _ _ _ rfl rfl) (.k (.s _ _ _ rfl rfl) (.k (.s _ _ _ rfl rfl) (.k (.cl _ _ _ _ _ rfl ?_) .nil))))))
 have r1:=a6l (by rw [O.g_len];decide) ha
 have r2:=a6l (by rw [O.g_len];decide) hd
 exact .cons _ _ _ _ _ a.g_len r1.1 r1.2 (.cons _ _ _ _ _ d.g_len r2.1 r2.2 (.nil _ _ _))
def O.isCo:O→Bool
 | .co _ _=>true
 | _=>false
theorem c58:j4 41 (spO fun a=>.c (.b a.isCo)):=l9 (fun fn h=>e44 h) [] .nil fun U fn hfn a vs bs hv hb=>by
 have hv:j6 [.a a.g] vs:=hv
 have hb:RBs [] bs:=hb
 show g8 U _ fun v bs'=>j7 (.ret (.c (.b a.isCo))) v∧RBs [] bs'
 unfold r41
 rw [a.g_eq] at hv
 cases a <;> simp only [O.k,O.nu,O.de,O.sym,O.txt,O.ps] at hv <;> (refine Zx ?_;with_reducible repeat' first|intro _|apply aI)
 all_goals try (exfalso;omega)
 all_goals first
  | exact i7 ⟨.ret _ _ (F2 rfl),.nil⟩
  | exact D5 fun e=>by subst e;exact ⟨.ret _ _ (M5 (by rw [a02];rfl)),.nil⟩
theorem a2h:f7 1=R6:=by unfold f7;rw [if_neg dE,E1 dE,show 1 / 10=0 from rfl,u7];rfl
theorem e2n:j4 22 (sp0 (.a A7.g)):=l9 (fun fn h=>e4o h) [(11,_),(10,_)] (.cons b93 (.cons b6t .nil)) fun U fn hfn _ vs bs hv hb=>by
 have hl:=hfn 11 _ rfl
 have hs:=hfn 10 _ rfl
 have hv:j6 [] vs:=hv
 have hb:RBs [] bs:=hb
 show g8 U _ fun v bs'=>j7 (.ret (.a A7.g)) v∧RBs [] bs'
 unfold r22
 (refine Zx ?_;intros)
 refine f9 hl ([110,105,108]:f6) (r:=.a (sg (x9,[110,105,108]))) rfl j3 .nil fun _ _ _ _=>?_
 (refine Zx ?_;intros)
 refine f9 hs (x9,([110,105,108]:f6)) (r:=.a A7.g) rfl j3 .nil fun _ _ _ _=>?_
 (refine Zx ?_;intros)
 exact i7 ⟨.ret _ _ j3,.nil⟩
theorem d06:j4 42 (spO fun a=>.c (.b (O.eqb a A7))):=l9 (fun fn h=>e45 h) [(22,_),(64,_)] (.cons e2n (.cons d04 .nil)) fun U fn hfn a vs bs hv hb=>by
 have hn:=hfn 22 _ rfl
 have he:=hfn 64 _ rfl
 have hv:j6 [.a a.g] vs:=hv
 have hb:RBs [] bs:=hb
 show g8 U _ fun v bs'=>j7 (.ret (.c (.b (O.eqb a A7)))) v∧RBs [] bs'
 unfold r42
 refine W5 hv fun v l hv1 hv2=>?_
 refine S7 hv1 a.g_len fun qa ha=>?_
 (refine Zx ?_;intros)
 refine f9 hn () (r:=.a A7.g) rfl .nil .nil fun _ _ _ _=>?_
 (refine Zx ?_;intros)
 refine f9 he (a,A7) (r:=.c (.b (O.eqb a A7))) rfl j3 .nil fun _ _ _ _=>?_
 (refine Zx ?_;intros)
 exact i7 ⟨.ret _ _ j3,.nil⟩
end
end Go.Proofs.YtgipbdffgfbedaaGreatDoor
