/- The reference's objects. -/
import Derived.Test.YtkojildpddaccaaGreatDoorCL0
import Derived.Test.YtkojildpddaccaaGreatDoorCL1
import Derived.Test.YtkojildpddaccaaGreatDoorCL2
import Derived.Test.YtkojildpddaccaaGreatDoorCP
set_option linter.all false
namespace Go.Proofs.YtkojildpddaccaaGreatDoor
open Go.Abs LQ
set_option maxRecDepth 100000
set_option maxHeartbeats 4000000
noncomputable section
def c92:Sp where
 ι:=O × O
 A p:=[.a p.1.g,.a p.2.g]
 B _:=[]
 R p:=.ret (.c (.b (O.eqb p.1 p.2)))
 B' _:=[]
 inj i j vs bs h k _ _:=by obtain ⟨e1,e2⟩:=b0v h k;rw [Prod.ext e1 e2];exact ⟨rfl,rfl⟩
theorem c3x:s9 15 c92:=J4 (fun p=>p.1.size) fun n ih=>u2 (fun fn h=>d59 h) [(15,c92.lt _ n)] (.cons ih .nil) fun U fn hfn ⟨(a,b),hn⟩ vs bs hv hb=>by
 have hr:=hfn 15 _ rfl
 have hv:t7 [.a a.g,.a b.g] vs:=hv
 have hb:s5 [] bs:=hb
 rw [a.g_eq,b.g_eq] at hv
 show s4 U _ fun v bs'=>u0 (.ret (.c (.b (O.eqb a b)))) v∧s5 [] bs'
 have hl:=a.ps_le
 unfold r15
 (refine Zx ?_;with_reducible repeat' first|intro _|apply aI)
 all_goals first
  | exact p9 ⟨.ret _ _ (H8 (O.eqb_f.2 fun e=>by subst e;first | exact absurd rfl ‹_› | exact absurd (⟨rfl,rfl,trivial⟩:a.sym.1=a.sym.1∧a.sym.2=a.sym.2∧True) ‹_›)),.nil⟩
  | skip
 ·have e1:=‹a.k=b.k›
  have e2:=‹a.nu=b.nu›
  have e3:=‹a.de=b.de›
  have e4:=‹a.sym.1=b.sym.1∧_›
  have e5:=‹a.txt=b.txt›
  have e6:a.ps.length=b.ps.length:=by have:=‹(a.ps.length:Int)=_›;omega
  refine F9 (fun (i:Nat) vs bs=>∃ q1 q2,vs=[.ptr 0 0,.ptr 1 0,.int .i64 i]∧bs=[.opa q1 7,.opa q2 7]∧u3 a.g q1 0∧u3 b.g q2 0∧i≤a.ps.length∧∀ j,j < i→a.ps[j]?=b.ps[j]?) (fun i=>a.ps.length - i) 0
   ⟨_,_,rfl,rfl,by rw [a.g_eq];assumption,by rw [b.g_eq];assumption,Nat.zero_le _,fun _ h=>absurd h (Nat.not_lt_zero _)⟩ a.ps_fuel ?_
  rintro self i vs bs ⟨q1,q2,rfl,rfl,k1,k2,hi,hj⟩ ih
  rw [a.g_eq] at k1
  rw [b.g_eq] at k2
  (refine Zx ?_;with_reducible repeat' first|intro _|apply aI)
  ·refine o7 hr ⟨(a.ps[i],b.ps[i]),?_⟩ rfl u5 .nil fun _ _ _ _=>?_
   ·show (a.ps[i]).size < n
    have hn:a.size < n+1:=hn
    have:=a.ps_size a.ps[i] (List.getElem_mem _)
    omega
   ·(refine Zx ?_;with_reducible repeat' first|intro _|apply aI)
    ·refine ih (i+1) _ _ ⟨_,_,rfl,rfl,by rw [a.g_eq];assumption,by rw [b.g_eq];assumption,oM,fun j h=>?_⟩ oM
     by_cases h2:j=i
     ·subst h2
      have:=O.eqb_t.1 ‹O.eqb a.ps[j] b.ps[j]=true›
      rw [List.getElem?_eq_getElem oM,List.getElem?_eq_getElem oM,this]
     ·exact hj j oM
    ·exact p9 ⟨.ret _ _ (H8 (O.eqb_f.2 fun e=>by subst e;exact absurd (O.eqb_t.2 rfl:O.eqb a.ps[i] a.ps[i]=true) ‹_›)),.nil⟩
  ·exact p9 ⟨.ret _ _ (H8 (O.eqb_t.2 (O.ext e1 e2 e3 (Prod.ext e4.1 e4.2.1) e5 (List.ext_getElem? fun j=>by
    by_cases h:j < i
    ·exact hj j h
    ·rw [List.getElem?_eq_none oM,List.getElem?_eq_none oM])))),.nil⟩
def dg (d:Nat):List G:=[.i .i64 (d:Int)]
theorem f45 {a b:Nat} (h:dg a=dg b):a=b:=by simp only [dg,List.cons.injEq,G.i.injEq,and_true,true_and] at h;omega
theorem S4:∀ {l m:List Nat},l.map dg=m.map dg→l=m
 | [],[],_=>rfl
 | [],_ :: _,h=>by simp at h
 | _ :: _,[],h=>by simp at h
 | a :: l,b :: m,h=>by simp only [List.map_cons,List.cons.injEq] at h;exact congr (congrArg List.cons (f45 h.1)) (S4 h.2)
theorem a4l {a b:u4} {v:V} (h:RV (.c (.s a)) v) (k:RV (.c (.s b)) v):a=b:=by have:=h.c_inj k;injection this
theorem e5b {a b:Bool} {v:V} (h:RV (.c (.b a)) v) (k:RV (.c (.b b)) v):a=b:=by have:=h.c_inj k;injection this
theorem d1b {c:IntKind} {a b:Int} {v:V} (h:RV (.c (.i c a)) v) (k:RV (.c (.i c b)) v):a=b:=by have:=h.c_inj k;injection this
theorem c7r {c:Int}:b6d c=true↔48≤c∧c≤57:=by simp [b6d]
theorem d47 {s:u4} {i:Nat} (h:i < s.length) (h1:¬((s.getD i 0).toNat:Int) < 48) (h2:¬57 < ((s.getD i 0).toNat:Int)):G4 s i=G4 s (i+1):=by
 rw [G4,if_pos h,if_pos (c7r.2 (by unfold bt;omega))]
theorem d48 {s:u4} {i:Nat} (h:i < s.length) (h1:((s.getD i 0).toNat:Int) < 48∨57 < ((s.getD i 0).toNat:Int)):G4 s i=i:=by
 rw [G4,if_pos h,if_neg (mt c7r.1 (by unfold bt;omega))]
theorem c7d {s:u4} {i:Nat} (h:¬i < s.length):G4 s i=i:=by
 rw [G4,if_neg h]
theorem c1x {s:u4} (h:0 < (s.length:Int)) (h2:((s.getD 0 0).toNat:Int)=45):A9 s=1:=by unfold A9;rw [if_pos ⟨oM,h2⟩]
theorem d3q {s:u4} (h2:¬((s.getD 0 0).toNat:Int)=45):A9 s=0:=by unfold A9;rw [if_neg (fun h=>h2 h.2)]
theorem f96 {s:u4} (h:¬0 < (s.length:Int)):A9 s=0:=by unfold A9;rw [if_neg (fun k=>by omega)]
theorem d8m {s:u4} {k:Nat} (h0:¬s=o8 1 48) (h1:A9 s=k) (h:s.length≤k):K4 s=false:=by
 have h0:¬s=I7:=h0
 simp [K4,h0,h1];omega
theorem d8n {s:u4} {k:Nat} (h0:¬s=o8 1 48) (h1:A9 s=k) (h:((s.getD k 0).toNat:Int)=48):K4 s=false:=by
 have h0:¬s=I7:=h0
 have h:bt s k=48:=h
 simp [K4,h0,h1,h]
theorem e70 {s:u4} {k:Nat} (h0:¬s=o8 1 48) (h1:A9 s=k) (h2:k < s.length) (h:¬((s.getD k 0).toNat:Int)=48):K4 s=decide (G4 s k=s.length):=by
 have h0:¬s=I7:=h0
 have h:¬bt s k=48:=h
 have:k < s.length:=oM
 simp [K4,h0,h1,h,this]
def sp1 (R:u4→u9):Sp where
 ι:={ s:u4 // s.length < 90000 }
 A s:=[.c (.s s.1)]
 B _:=[]
 R s:=R s.1
 B' _:=[]
 inj i j vs bs h k _ _:=by
  obtain ⟨_,_,h1,k1,h,k⟩:=h.two k
  rw [a4l h1 k1];exact ⟨rfl,rfl⟩
theorem e9n:s9 204 (sp1 fun s=>.ret (.c (.b (K4 s)))):=u2 (fun fn h=>c9f h) [] .nil fun U fn hfn ⟨s,hs⟩ vs bs hv hb=>by
 have hv:t7 [.c (.s s)] vs:=hv
 have hb:s5 [] bs:=hb
 show s4 U _ fun v bs'=>u0 (.ret (.c (.b (K4 s)))) v∧s5 [] bs'
 unfold d3b
 (refine Zx ?_;with_reducible repeat' first|intro _|apply aI)
 all_goals try (exfalso;omega)
 ·exact p9 ⟨.ret _ _ (H8 (by subst_vars;rfl)),.nil⟩
 ·exact p9 ⟨.ret _ _ (H8 (d8m (k:=1) ‹_› (c1x ‹_› ‹_›) oM)),.nil⟩
 ·exact p9 ⟨.ret _ _ (H8 (d8n (k:=1) ‹_› (c1x ‹_› ‹_›) ‹_›)),.nil⟩
 ·have hd:=e70 (k:=1) ‹_› (c1x ‹_› ‹_›) oM ‹_›
  (refine F9 (fun (i:Nat) vs bs=>vs=[.str s.length (C6 s),.int .i64 i]∧bs=[]∧i≤s.length∧G4 s i=G4 s 1) (fun i=>s.length - i) 1 ⟨rfl,rfl,oM,rfl⟩ (by simp only [C9];omega) ?_;rintro self i vs bs ⟨rfl,rfl,hi,he⟩ ih;(refine Zx ?_;with_reducible repeat' first|intro _|apply aI);all_goals first | exact ih (i+1) _ _ ⟨rfl,rfl,oM,by rw [← he,d47 (i:=i) oM ‹_› ‹_›]⟩ oM | exact p9 ⟨.ret _ _ (H8 (by rw [hd,← he,c7d (i:=i) oM];exact decide_eq_true oM)),.nil⟩ | exact p9 ⟨.ret _ _ (H8 (by rw [hd,← he,d48 (i:=i) oM oM];exact decide_eq_false oM)),.nil⟩)
 ·exact p9 ⟨.ret _ _ (H8 (d8n (k:=0) ‹_› (d3q ‹_›) ‹_›)),.nil⟩
 ·have hd:=e70 (k:=0) ‹_› (d3q ‹_›) oM ‹_›
  (refine F9 (fun (i:Nat) vs bs=>vs=[.str s.length (C6 s),.int .i64 i]∧bs=[]∧i≤s.length∧G4 s i=G4 s 0) (fun i=>s.length - i) 0 ⟨rfl,rfl,oM,rfl⟩ (by simp only [C9];omega) ?_;rintro self i vs bs ⟨rfl,rfl,hi,he⟩ ih;(refine Zx ?_;with_reducible repeat' first|intro _|apply aI);all_goals first | exact ih (i+1) _ _ ⟨rfl,rfl,oM,by rw [← he,d47 (i:=i) oM ‹_› ‹_›]⟩ oM | exact p9 ⟨.ret _ _ (H8 (by rw [hd,← he,c7d (i:=i) oM];exact decide_eq_true oM)),.nil⟩ | exact p9 ⟨.ret _ _ (H8 (by rw [hd,← he,d48 (i:=i) oM oM];exact decide_eq_false oM)),.nil⟩)
 ·exact p9 ⟨.ret _ _ (H8 (d8m (k:=0) ‹_› (f96 ‹_›) oM)),.nil⟩
theorem d50 {s:u4} (h:K4 s=true) (h0:¬s=I7):∀ j,A9 s≤j→j < s.length→48≤bt s j∧bt s j≤57:=by
 intro j h1 h2
 simp [K4,h0] at h
 exact b5y s (A9 s) j h1 oM
theorem e0k:s9 137 (sp1 fun s=>.ret (.t [.c (.b (a1q s).1),.sl 1 ((a1q s).2.map dg)])):=u2 (fun fn h=>c8y h) [(204,_)] (.cons e9n .nil) fun U fn hfn ⟨s,hs⟩ vs bs hv hb=>by
 have hr:=hfn 204 _ rfl
 have hv:t7 [.c (.s s)] vs:=hv
 have hb:s5 [] bs:=hb
 show s4 U _ fun v bs'=>u0 (.ret (.t [.c (.b (a1q s).1),.sl 1 ((a1q s).2.map dg)])) v∧s5 [] bs'
 unfold d2t
 (refine Zx ?_;intros)
 refine o7 hr ⟨s,hs⟩ (r:=.c (.b (K4 s))) rfl u5 .nil fun _ _ _ _=>?_
 (refine Zx ?_;with_reducible repeat' first|intro _|apply aI)
 ·have e:a1q s=(false,[]):=by unfold a1q;rw [if_neg];exact fun h=>h.2 ‹s=o8 1 48›
  exact p9 ⟨.ret _ _ (by rw [e];(exact u5)),.nil⟩
 ·have h1:=‹K4 s=true›
  have h2:¬s=I7:=‹_›
  have hd:=d50 h1 h2
  have hpos:A9 s < s.length:=by simp [K4,h2] at h1;omega
  have e:a1q s=(decide (A9 s=1),D4 s (A9 s) s.length []):=by unfold a1q;rw [if_pos ⟨h1,h2⟩]
  (refine Zx ?_;with_reducible repeat' first|intro _|apply aI)
  ·have es:=c1x (s:=s) oM ‹_›
   have h45:=‹((s.getD 0 0).toNat:Int)=45›
   rw [es] at hd e
   generalize hB:U.iEq _ _=B
   (refine F9 (fun (m:Nat) vs bs=>∃ (i:Int) (v:V) (acc:List Nat),vs=[.str s.length (C6 s),.bool B,.int .i64 1,.int .i64 i,v]∧bs=[.tok acc.length 1]∧R7 0 1 (acc.map dg) v∧i=m - 1∧1≤m∧m≤s.length∧acc.length+m=s.length∧D4 s 1 m acc=D4 s 1 s.length []) (fun m=>m) s.length ⟨_,_,[],rfl,rfl,.b rfl,rfl,oM,oM,by simp,rfl⟩ (by simp only [C9];omega) ?_;rintro self m _ _ ⟨i,v,acc,rfl,rfl,ht,hi,hk,hm,ha,he⟩ ih;subst hi;(refine Zx ?_;with_reducible repeat' first|intro _|apply aI);(have h9:=hd (m - 1) oM oM;have hx:((s.getD ((m:Int) - 1).toNat 0).toNat:Int)=bt s (m - 1):=(by unfold bt;rw [show ((m:Int) - 1).toNat=m - 1 by omega]);refine d73 (m:=((bt s (m - 1) - 48).toNat:Int)) oM oM ?_;refine c5g (m:=((bt s (m - 1) - 48).toNat:Int)) rfl oM ?_;(refine Zx ?_;with_reducible repeat' first|intro _|apply aI);refine N8 aS (fun _=>N6 (by first | exact .i _ _ | exact .s _ _ _ rfl rfl | assumption)) (by rfl) (by simp) (by simp only [List.length_map];omega) fun _ _=>?_;(refine Zx ?_;with_reducible repeat' first|intro _|apply aI);refine ih (m - 1) _ _ ?_ oM;refine ⟨_,_,acc ++ [(bt s (m - 1) - 48).toNat],rfl,by simp,.a _ _ (by simp) (by rw [List.map_append];assumption),oM,oM,oM,by simp;omega,?_⟩;rw [← he];obtain ⟨m,rfl⟩:∃ n,m=n+1:=⟨m - 1,oM⟩;rw [D4,if_pos oM];rfl))
   have em:m=1:=oM
   subst em
   rw [show D4 s 1 1 acc=acc by simp [D4]] at he
   rw [e,← he]
   exact E9 fun eU=>by subst eU;exact ⟨.ret _ _ (.t _ _ (.k (N7 (by rw [← hB,a5c];exact (decide_eq_true (rfl:1=1)).trans (decide_eq_true h45).symm)) (.k (.sl _ _ _ _ _ (by simp) aS) .nil))),.nil⟩
  ·have h45:=‹¬((s.getD 0 0).toNat:Int)=45›
   have es:=d3q h45
   rw [es] at hd e
   generalize hB:U.iEq _ _=B
   (refine F9 (fun (m:Nat) vs bs=>∃ (i:Int) (v:V) (acc:List Nat),vs=[.str s.length (C6 s),.bool B,.int .i64 0,.int .i64 i,v]∧bs=[.tok acc.length 1]∧R7 0 1 (acc.map dg) v∧i=m - 1∧0≤m∧m≤s.length∧acc.length+m=s.length∧D4 s 0 m acc=D4 s 0 s.length []) (fun m=>m) s.length ⟨_,_,[],rfl,rfl,.b rfl,rfl,oM,oM,by simp,rfl⟩ (by simp only [C9];omega) ?_;rintro self m _ _ ⟨i,v,acc,rfl,rfl,ht,hi,hk,hm,ha,he⟩ ih;subst hi;(refine Zx ?_;with_reducible repeat' first|intro _|apply aI);(have h9:=hd (m - 1) oM oM;have hx:((s.getD ((m:Int) - 1).toNat 0).toNat:Int)=bt s (m - 1):=(by unfold bt;rw [show ((m:Int) - 1).toNat=m - 1 by omega]);refine d73 (m:=((bt s (m - 1) - 48).toNat:Int)) oM oM ?_;refine c5g (m:=((bt s (m - 1) - 48).toNat:Int)) rfl oM ?_;(refine Zx ?_;with_reducible repeat' first|intro _|apply aI);refine N8 aS (fun _=>N6 (by first | exact .i _ _ | exact .s _ _ _ rfl rfl | assumption)) (by rfl) (by simp) (by simp only [List.length_map];omega) fun _ _=>?_;(refine Zx ?_;with_reducible repeat' first|intro _|apply aI);refine ih (m - 1) _ _ ?_ oM;refine ⟨_,_,acc ++ [(bt s (m - 1) - 48).toNat],rfl,by simp,.a _ _ (by simp) (by rw [List.map_append];assumption),oM,oM,oM,by simp;omega,?_⟩;rw [← he];obtain ⟨m,rfl⟩:∃ n,m=n+1:=⟨m - 1,oM⟩;rw [D4,if_pos oM];rfl))
   have em:m=0:=oM
   subst em
   rw [show D4 s 0 0 acc=acc by simp [D4]] at he
   rw [e,← he]
   exact E9 fun eU=>by subst eU;exact ⟨.ret _ _ (.t _ _ (.k (N7 (by rw [← hB,a5c];exact (decide_eq_false (by decide:¬0=1)).trans (decide_eq_false h45).symm)) (.k (.sl _ _ _ _ _ (by simp) aS) .nil))),.nil⟩
 ·have e:a1q s=(false,[]):=by unfold a1q;rw [if_neg];exact fun h=>absurd h.1 ‹_›
  exact p9 ⟨.ret _ _ (by rw [e];(exact u5)),.nil⟩
section
variable {U:B0} {P:H4→List Bx→Prop}
theorem a96 {l:List Nat} {t:s6 Q} {off:Nat} {i:Int} (n:Nat) {K:Q→Om} (ht:u6 1 (l.map dg) t off) (hn:i=n) (hi:n < l.length) (h:∀ x,u3 (dg (l.getD n 0)) x 0→s4 U (K x) P):s4 U (U.fQ (U.tQ t (U.nAdd off (U.iNat i))) K) P:=by
 subst hn
 refine e33 (y:=l.getD n 0) ht ?_ h
 rw [Int.toNat_natCast,List.getElem?_eq_getElem hi]
 simp [List.getD,List.getElem?_eq_getElem hi]
end
def spL (R:List Nat→u9):Sp where
 ι:={ l:List Nat // l.length < 90000 }
 A l:=[.sl 1 (l.1.map dg)]
 B _:=[]
 R l:=R l.1
 B' _:=[]
 inj i j vs bs h k _ _:=by
  obtain ⟨_,_,h1,k1,h,k⟩:=h.two k
  rw [S4 (h1.sl_inj k1)];exact ⟨rfl,rfl⟩
theorem c1s:s9 205 (spL fun l=>.ret (.sl 1 ((V8 l).map dg))):=u2 (fun fn h=>c9g h) [] .nil fun U fn hfn ⟨l,hs⟩ vs bs hv hb=>by
 have hv:t7 [.sl 1 (l.map dg)] vs:=hv
 have hb:s5 [] bs:=hb
 show s4 U _ fun v bs'=>u0 (.ret (.sl 1 ((V8 l).map dg))) v∧s5 [] bs'
 unfold d3c
 (refine Zx ?_;intros)
 refine F9 (fun (m:Nat) vs bs=>∃ (t:s6 Q) (off:Nat),vs=[.slice t 1 off l.length .no,.int .i64 m]∧bs=[]∧u6 1 (l.map dg) t off∧m≤l.length∧a4m l m=a4m l l.length) (fun m=>m) l.length ⟨_,_,rfl,rfl,aS,oM,rfl⟩ (by simp only [C9];omega) ?_
 rintro self m _ _ ⟨t,off,rfl,rfl,ht,hm,he⟩ ih
 (refine Zx ?_;with_reducible repeat' first|intro _|apply aI)
 ·refine a96 (m - 1) aS oM oM fun _ _=>?_
  (refine Zx ?_;with_reducible repeat' first|intro _|apply aI)
  ·refine ih (m - 1) _ _ ⟨_,_,by rw [show ((m - 1:Nat):Int)=(m:Int) - 1 by omega],rfl,ht,oM,?_⟩ oM
   have h0:=‹((l.getD (m - 1) 0:Nat):Int)=0›
   obtain ⟨m,rfl⟩:∃ n,m=n+1:=⟨m - 1,oM⟩
   rw [← he,a4m,if_pos (by simpa using h0)];rfl
  ·have h0:=‹¬((l.getD (m - 1) 0:Nat):Int)=0›
   have e:V8 l=l.take m:=by
    obtain ⟨m,rfl⟩:∃ n,m=n+1:=⟨m - 1,oM⟩
    unfold V8
    rw [← he,a4m,if_neg (by simpa using h0)]
   rw [e,List.map_take]
   exact p9 ⟨.ret _ _ (.sl _ _ _ _ _ (by simp;omega) (ht.take m)),.nil⟩
 ·have em:m=0:=oM
  subst em
  have e:V8 l=l.take 0:=by unfold V8;rw [← he];rfl
  rw [e,List.map_take]
  exact p9 ⟨.ret _ _ (.sl _ _ _ _ _ (by simp) (ht.take 0)),.nil⟩
theorem a5h {l:List Nat} {i:Nat} (h:i < l.length):l[i]=l.getD i 0:=by simp [List.getD,List.getElem?_eq_getElem h]
theorem D9.at {l:List Nat} (h:D9 l) (i:Nat):l.getD i 0≤9:=by
 by_cases hi:i < l.length
 ·rw [← a5h hi];exact h _ (List.getElem_mem _)
 ·simp [List.getD,List.getElem?_eq_none (Nat.le_of_not_lt hi)]
def e4b (ok:List Nat→List Nat→Prop) (R:List Nat→List Nat→u9):Sp where
 ι:={ p:List Nat × List Nat // p.1.length < 90000∧p.2.length < 90000∧ok p.1 p.2 }
 A p:=[.sl 1 (p.1.1.map dg),.sl 1 (p.1.2.map dg)]
 B _:=[]
 R p:=R p.1.1 p.1.2
 B' _:=[]
 inj i j vs bs h k _ _:=by
  obtain ⟨_,_,h1,k1,h,k⟩:=h.two k
  obtain ⟨_,_,h2,k2,h,k⟩:=h.two k
  rw [S4 (h1.sl_inj k1),S4 (h2.sl_inj k2)];exact ⟨rfl,rfl⟩
theorem c32:s9 206 (e4b (fun _ _=>True) fun a b=>.ret (.c (.i .i64 (a1x a b)))):=u2 (fun fn h=>c9h h) [] .nil fun U fn hfn ⟨(a,b),ha,hbl,_⟩ vs bs hv hb=>by
 have ha:a.length < 90000:=ha
 have hbl:b.length < 90000:=hbl
 have hv:t7 [.sl 1 (a.map dg),.sl 1 (b.map dg)] vs:=hv
 have hb:s5 [] bs:=hb
 show s4 U _ fun v bs'=>u0 (.ret (.c (.i .i64 (a1x a b)))) v∧s5 [] bs'
 unfold d3d
 (refine Zx ?_;with_reducible repeat' first|intro _|apply aI)
 ·have hl:a.length=b.length:=oM
  have e:a1x a b=U1 a b a.length:=by unfold a1x;rw [if_pos hl]
  rw [e]
  refine F9 (fun (m:Nat) vs bs=>∃ (t:s6 Q) (off:Nat) (t':s6 Q) (off':Nat) (i:Int),vs=[.slice t 1 off a.length .no,.slice t' 1 off' b.length .no,.int .i64 i]∧bs=[]∧i=m - 1∧u6 1 (a.map dg) t off∧u6 1 (b.map dg) t' off'∧m≤a.length∧U1 a b m=U1 a b a.length) (fun m=>m) a.length ⟨_,_,_,_,_,rfl,rfl,rfl,aS,aS,oM,rfl⟩ (by simp only [C9];omega) ?_
  rintro self m _ _ ⟨t,off,t',off',i,rfl,rfl,rfl,ht,ht',hm,he⟩ ih
  (refine Zx ?_;with_reducible repeat' first|intro _|apply aI)
  ·refine a96 (m - 1) aS oM oM fun _ _=>?_
   (refine Zx ?_;intros)
   refine a96 (m - 1) aS oM oM fun _ _=>?_
   (refine Zx ?_;with_reducible repeat' first|intro _|apply aI)
   ·obtain ⟨m,rfl⟩:∃ n,m=n+1:=⟨m - 1,oM⟩
    exact p9 ⟨.ret _ _ (R6 (by rw [← he,U1,if_pos (by simp only [Nat.add_sub_cancel] at *;omega)])),.nil⟩
   ·refine a96 (m - 1) aS oM oM fun _ _=>?_
    (refine Zx ?_;intros)
    refine a96 (m - 1) aS oM oM fun _ _=>?_
    (refine Zx ?_;with_reducible repeat' first|intro _|apply aI)
    ·obtain ⟨m,rfl⟩:∃ n,m=n+1:=⟨m - 1,oM⟩
     exact p9 ⟨.ret _ _ (R6 (by rw [← he,U1,if_neg (by simp only [Nat.add_sub_cancel] at *;omega),if_pos (by simp only [Nat.add_sub_cancel] at *;omega)])),.nil⟩
    ·refine ih (m - 1) _ _ ?_ oM
     obtain ⟨m,rfl⟩:∃ n,m=n+1:=⟨m - 1,oM⟩
     exact ⟨_,_,_,_,_,rfl,rfl,oM,ht,ht',oM,by rw [← he,Nat.add_sub_cancel];conv=>rhs;rw [U1,if_neg (by simp only [Nat.add_sub_cancel] at *;omega),if_neg (by simp only [Nat.add_sub_cancel] at *;omega)]⟩
  ·have em:m=0:=oM
   subst em
   exact p9 ⟨.ret _ _ (R6 (by rw [← he];rfl)),.nil⟩
 ·exact p9 ⟨.ret _ _ (R6 (by unfold a1x;rw [if_neg oM,if_pos oM])),.nil⟩
 ·exact p9 ⟨.ret _ _ (R6 (by unfold a1x;rw [if_neg oM,if_neg oM])),.nil⟩
theorem S5 {acc:List Nat} {n:Int} {d:Nat} (h:n=d):acc.map dg ++ [[.i .i64 n]]=(acc ++ [d]).map dg:=by subst h;simp [dg]
theorem c30:s9 207 (e4b (fun a b=>D9 a∧D9 b) fun a b=>.ret (.sl 1 ((b85 a b).map dg))):=u2 (fun fn h=>c9i h) [(205,_)] (.cons c1s .nil) fun U fn hfn ⟨(a,b),ha,hbl,h9a,h9b⟩ vs bs hv hb=>by
 have hr:=hfn 205 _ rfl
 have ha:a.length < 90000:=ha
 have hbl:b.length < 90000:=hbl
 have hv:t7 [.sl 1 (a.map dg),.sl 1 (b.map dg)] vs:=hv
 have hb:s5 [] bs:=hb
 show s4 U _ fun v bs'=>u0 (.ret (.sl 1 ((b85 a b).map dg))) v∧s5 [] bs'
 unfold d3e
 (refine Zx ?_;intros)
 refine F9 (fun (i:Nat) vs bs=>∃ (t:s6 Q) (off:Nat) (t':s6 Q) (off':Nat) (bor:Nat) (v:V) (acc:List Nat),vs=[.slice t 1 off a.length .no,.slice t' 1 off' b.length .no,.int .i64 bor,.int .i64 i,v]∧bs=[.tok acc.length 1]∧R7 0 1 (acc.map dg) v∧acc.length=i∧bor≤1 ∧
  u6 1 (a.map dg) t off∧u6 1 (b.map dg) t' off'∧i≤a.length∧Q0 a b i bor acc=Q0 a b 0 0 []) (fun i=>a.length - i) 0 ⟨_,_,_,_,0,_,[],rfl,rfl,.b rfl,rfl,oM,aS,aS,oM,rfl⟩ (by simp only [C9];omega) ?_
 rintro self i _ _ ⟨t,off,t',off',bor,v,acc,rfl,rfl,hv',hac,hbor,ht,ht',hi,he⟩ ih
 (refine Zx ?_;with_reducible repeat' first|intro _|apply aI)
 ·have q1:a[i]≤9:=h9a _ (List.getElem_mem _)
  have e1:=a5h (l:=a) (i:=i) oM
  (refine Zx ?_;with_reducible repeat' first|intro _|apply aI)
  ·have q2:b[i]≤9:=h9b _ (List.getElem_mem _)
   have e2:=a5h (l:=b) (i:=i) oM
   have hsd:K6 a b i bor=(a[i]:Int) - bor - b[i]:=by unfold K6;rw [if_pos oM,← e1,← e2]
   (refine Zx ?_;with_reducible repeat' first|intro _|apply aI)
   all_goals
    refine N8 aS (fun _=>N6 (by first | exact .i _ _ | exact .s _ _ _ rfl rfl | assumption)) (by rfl) (by simp) (by simp only [List.length_map];omega) fun _ _=>?_
    (refine Zx ?_;with_reducible repeat' first|intro _|apply aI)
   ·refine ih (i+1) _ _ ?_ oM
    exact ⟨_,_,_,_,1,_,acc ++ [(K6 a b i bor+10).toNat],rfl,by simp,.a _ _ (by simp) (by have hq:=‹u6 1 (acc.map dg ++ [_]) _ 0›;rw [S5 (d:=(K6 a b i bor+10).toNat) oM] at hq;exact hq),by simp;omega,oM,aS,aS,oM,by rw [← he];conv=>rhs;rw [Q0,if_pos oM,if_pos oM]⟩
   ·refine ih (i+1) _ _ ?_ oM
    exact ⟨_,_,_,_,0,_,acc ++ [(K6 a b i bor).toNat],rfl,by simp,.a _ _ (by simp) (by have hq:=‹u6 1 (acc.map dg ++ [_]) _ 0›;rw [S5 (d:=(K6 a b i bor).toNat) oM] at hq;exact hq),by simp;omega,oM,aS,aS,oM,by rw [← he];conv=>rhs;rw [Q0,if_pos oM,if_neg oM]⟩
  ·have hsd:K6 a b i bor=(a[i]:Int) - bor:=by unfold K6;rw [if_neg oM,← e1];omega
   refine N8 aS (fun _=>N6 (by first | exact .i _ _ | exact .s _ _ _ rfl rfl | assumption)) (by rfl) (by simp) (by simp only [List.length_map];omega) fun _ _=>?_
   (refine Zx ?_;intros)
   refine ih (i+1) _ _ ?_ oM
   exact ⟨_,_,_,_,1,_,acc ++ [(K6 a b i bor+10).toNat],rfl,by simp,.a _ _ (by simp) (by have hq:=‹u6 1 (acc.map dg ++ [_]) _ 0›;rw [S5 (d:=(K6 a b i bor+10).toNat) oM] at hq;exact hq),by simp;omega,oM,aS,aS,oM,by rw [← he];conv=>rhs;rw [Q0,if_pos oM,if_pos oM]⟩
  ·have hsd:K6 a b i bor=(a[i]:Int) - bor:=by unfold K6;rw [if_neg oM,← e1];omega
   refine N8 aS (fun _=>N6 (by first | exact .i _ _ | exact .s _ _ _ rfl rfl | assumption)) (by rfl) (by simp) (by simp only [List.length_map];omega) fun _ _=>?_
   (refine Zx ?_;intros)
   refine ih (i+1) _ _ ?_ oM
   exact ⟨_,_,_,_,0,_,acc ++ [(K6 a b i bor).toNat],rfl,by simp,.a _ _ (by simp) (by have hq:=‹u6 1 (acc.map dg ++ [_]) _ 0›;rw [S5 (d:=(K6 a b i bor).toNat) oM] at hq;exact hq),by simp;omega,oM,aS,aS,oM,by rw [← he];conv=>rhs;rw [Q0,if_pos oM,if_neg oM]⟩
 ·have e:acc=Q0 a b 0 0 []:=by rw [← he,Q0,if_neg oM]
  refine o7 hr ⟨acc,oM⟩ (r:=.sl 1 ((V8 acc).map dg)) rfl (.k (.sl _ _ _ _ _ (by simp) aS) .nil) .nil fun _ _ _ _=>?_
  (refine Zx ?_;intros)
  exact p9 ⟨.ret _ _ (by unfold b85;rw [← e];exact .sl _ _ _ _ _ (by simp) aS),.nil⟩
def G2:List Nat→List Nat→Nat→List Nat
 | [],[],c=>if c=0 then [] else [c]
 | a :: xs,[],c=>(c+a) % 10 :: G2 xs [] ((c+a) / 10)
 | [],b :: ys,c=>(c+b) % 10 :: G2 [] ys ((c+b) / 10)
 | a :: xs,b :: ys,c=>(c+a+b) % 10 :: G2 xs ys ((c+a+b) / 10)
theorem a45:∀ (a b:List Nat) (c:Nat),val (G2 a b c)=val a+val b+c
 | [],[],c=>by simp only [G2];split <;> simp [val];omega
 | a :: xs,[],c=>by simp only [G2,val,a45 xs [] _];omega
 | [],b :: ys,c=>by simp only [G2,val,a45 [] ys _];omega
 | a :: xs,b :: ys,c=>by simp only [G2,val,a45 xs ys _];omega
theorem a7w:∀ (a b:List Nat) (c:Nat),c≤1→D9 a→D9 b→D9 (G2 a b c)
 | [],[],c,hc,_,_=>by simp only [G2];split <;> intro d hd <;> simp at hd;omega
 | a :: xs,[],c,hc,ha,hb=>by
  have h1:=ha a List.mem_cons_self
  intro d hd
  simp only [G2,List.mem_cons] at hd
  rcases hd with rfl | hd
  ·omega
  ·exact a7w xs [] _ oM (fun x hx=>ha x (List.mem_cons_of_mem _ hx)) hb d hd
 | [],b :: ys,c,hc,ha,hb=>by
  have h1:=hb b List.mem_cons_self
  intro d hd
  simp only [G2,List.mem_cons] at hd
  rcases hd with rfl | hd
  ·omega
  ·exact a7w [] ys _ oM ha (fun x hx=>hb x (List.mem_cons_of_mem _ hx)) d hd
 | a :: xs,b :: ys,c,hc,ha,hb=>by
  have h1:=ha a List.mem_cons_self
  have h2:=hb b List.mem_cons_self
  intro d hd
  simp only [G2,List.mem_cons] at hd
  rcases hd with rfl | hd
  ·omega
  ·exact a7w xs ys _ oM (fun x hx=>ha x (List.mem_cons_of_mem _ hx)) (fun x hx=>hb x (List.mem_cons_of_mem _ hx)) d hd
theorem a43:∀ (a b:List Nat) (c:Nat),(G2 a b c).length≤a.length+b.length+1
 | [],[],c=>by simp only [G2];split <;> simp
 | a :: xs,[],c=>by have:=a43 xs [] ((c+a) / 10);simp only [G2,List.length_cons] at *;omega
 | [],b :: ys,c=>by have:=a43 [] ys ((c+b) / 10);simp only [G2,List.length_cons] at *;omega
 | a :: xs,b :: ys,c=>by have:=a43 xs ys ((c+a+b) / 10);simp only [G2,List.length_cons] at *;omega
theorem e8c {a b:List Nat} {i c:Nat} (h1:i < a.length) (h2:i < b.length):G2 (a.drop i) (b.drop i) c=(c+a[i]+b[i]) % 10 :: G2 (a.drop (i+1)) (b.drop (i+1)) ((c+a[i]+b[i]) / 10):=by
 rw [List.drop_eq_getElem_cons h1,List.drop_eq_getElem_cons h2,G2]
theorem f4g {a b:List Nat} {i c:Nat} (h1:i < a.length) (h2:¬i < b.length):G2 (a.drop i) (b.drop i) c=(c+a[i]) % 10 :: G2 (a.drop (i+1)) (b.drop (i+1)) ((c+a[i]) / 10):=by
 rw [List.drop_eq_getElem_cons h1,List.drop_eq_nil_of_le (Nat.le_of_not_lt h2),List.drop_eq_nil_of_le (by omega:b.length≤i+1),G2]
theorem f4h {a b:List Nat} {i c:Nat} (h1:¬i < a.length) (h2:i < b.length):G2 (a.drop i) (b.drop i) c=(c+b[i]) % 10 :: G2 (a.drop (i+1)) (b.drop (i+1)) ((c+b[i]) / 10):=by
 rw [List.drop_eq_getElem_cons h2,List.drop_eq_nil_of_le (Nat.le_of_not_lt h1),List.drop_eq_nil_of_le (by omega:a.length≤i+1),G2]
theorem c15 {a b:List Nat} {i c:Nat} (h1:¬i < a.length) (h2:¬i < b.length):G2 (a.drop i) (b.drop i) c=if c=0 then [] else [c]:=by
 rw [List.drop_eq_nil_of_le (Nat.le_of_not_lt h1),List.drop_eq_nil_of_le (Nat.le_of_not_lt h2),G2]
theorem e50:s9 238 (e4b (fun a b=>D9 a∧D9 b) fun a b=>.ret (.sl 1 ((G2 a b 0).map dg))):=u2 (fun fn h=>f1u h) [] .nil fun U fn hfn ⟨(a,b),ha,hbl,h9a,h9b⟩ vs bs hv hb=>by
 have ha:a.length < 90000:=ha
 have hbl:b.length < 90000:=hbl
 have hv:t7 [.sl 1 (a.map dg),.sl 1 (b.map dg)] vs:=hv
 have hb:s5 [] bs:=hb
 show s4 U _ fun v bs'=>u0 (.ret (.sl 1 ((G2 a b 0).map dg))) v∧s5 [] bs'
 unfold e2z
 (refine Zx ?_;intros)
 refine F9 (fun (i:Nat) vs bs=>∃ (t:s6 Q) (off:Nat) (t':s6 Q) (off':Nat) (c:Nat) (v:V) (acc:List Nat),vs=[.slice t 1 off a.length .no,.slice t' 1 off' b.length .no,.int .i64 c,.int .i64 i,v]∧bs=[.tok acc.length 1]∧R7 0 1 (acc.map dg) v∧acc.length=i∧c≤1 ∧
  u6 1 (a.map dg) t off∧u6 1 (b.map dg) t' off'∧i+c≤max a.length b.length+1∧acc ++ G2 (a.drop i) (b.drop i) c=G2 a b 0) (fun i=>max a.length b.length+2 - i) 0 ⟨_,_,_,_,0,_,[],rfl,rfl,.b rfl,rfl,oM,aS,aS,oM,rfl⟩ (by simp only [C9];omega) ?_
 rintro self i _ _ ⟨t,off,t',off',c,v,acc,rfl,rfl,hv',hac,hc,ht,ht',hi,he⟩ ih
 have q1:∀ h:i < a.length,a[i]≤9:=fun h=>h9a _ (List.getElem_mem _)
 have q2:∀ h:i < b.length,b[i]≤9:=fun h=>h9b _ (List.getElem_mem _)
 (refine Zx ?_;with_reducible repeat' first|intro _|apply aI)
 all_goals try (exfalso;omega)
 all_goals (try have z1:=q1 oM);(try have z2:=q2 oM);(refine Zx ?_;with_reducible repeat' first|intro _|apply aI)
 all_goals try (exfalso;omega)
 ·have z2:=q2 oM
  (refine Zx ?_;intros)
  (refine a8t (n:=c+a[i]+b[i]) (m:=10) oM rfl ?_;(refine Zx ?_;with_reducible repeat' first|intro _|apply aI);refine N8 aS (fun _=>N6 (by first | exact .i _ _ | exact .s _ _ _ rfl rfl | assumption)) (by rfl) (by simp) (by simp only [List.length_map];omega) fun _ _=>?_;(refine Zx ?_;with_reducible repeat' first|intro _|apply aI);refine a8v (n:=c+a[i]+b[i]) (m:=10) oM rfl oM ?_;(refine Zx ?_;with_reducible repeat' first|intro _|apply aI);refine ih (i+1) _ _ ?_ oM;exact ⟨_,_,_,_,(c+a[i]+b[i]) / 10,_,acc ++ [(c+a[i]+b[i]) % 10],rfl,by simp,.a _ _ (by simp) (by have hq:=‹u6 1 (acc.map dg ++ [_]) _ 0›;rw [S5 (d:=(c+a[i]+b[i]) % 10) oM] at hq;exact hq),by simp;omega,oM,aS,aS,oM,by rw [← he,e8c (i:=i) (c:=c) oM oM];simp⟩)
 ·(refine a8t (n:=c+a[i]) (m:=10) oM rfl ?_;(refine Zx ?_;with_reducible repeat' first|intro _|apply aI);refine N8 aS (fun _=>N6 (by first | exact .i _ _ | exact .s _ _ _ rfl rfl | assumption)) (by rfl) (by simp) (by simp only [List.length_map];omega) fun _ _=>?_;(refine Zx ?_;with_reducible repeat' first|intro _|apply aI);refine a8v (n:=c+a[i]) (m:=10) oM rfl oM ?_;(refine Zx ?_;with_reducible repeat' first|intro _|apply aI);refine ih (i+1) _ _ ?_ oM;exact ⟨_,_,_,_,(c+a[i]) / 10,_,acc ++ [(c+a[i]) % 10],rfl,by simp,.a _ _ (by simp) (by have hq:=‹u6 1 (acc.map dg ++ [_]) _ 0›;rw [S5 (d:=(c+a[i]) % 10) oM] at hq;exact hq),by simp;omega,oM,aS,aS,oM,by rw [← he,f4g (i:=i) (c:=c) oM oM];simp⟩)
 ·(refine a8t (n:=c+b[i]) (m:=10) oM rfl ?_;(refine Zx ?_;with_reducible repeat' first|intro _|apply aI);refine N8 aS (fun _=>N6 (by first | exact .i _ _ | exact .s _ _ _ rfl rfl | assumption)) (by rfl) (by simp) (by simp only [List.length_map];omega) fun _ _=>?_;(refine Zx ?_;with_reducible repeat' first|intro _|apply aI);refine a8v (n:=c+b[i]) (m:=10) oM rfl oM ?_;(refine Zx ?_;with_reducible repeat' first|intro _|apply aI);refine ih (i+1) _ _ ?_ oM;exact ⟨_,_,_,_,(c+b[i]) / 10,_,acc ++ [(c+b[i]) % 10],rfl,by simp,.a _ _ (by simp) (by have hq:=‹u6 1 (acc.map dg ++ [_]) _ 0›;rw [S5 (d:=(c+b[i]) % 10) oM] at hq;exact hq),by simp;omega,oM,aS,aS,oM,by rw [← he,f4h (i:=i) (c:=c) oM oM];simp⟩)
 ·refine a8t (n:=c) (m:=10) oM rfl ?_
  (refine Zx ?_;intros)
  refine N8 aS (fun _=>N6 (by first | exact .i _ _ | exact .s _ _ _ rfl rfl | assumption)) (by rfl) (by simp) (by simp only [List.length_map];omega) fun _ _=>?_
  (refine Zx ?_;intros)
  refine a8v (n:=c) (m:=10) oM rfl oM ?_
  (refine Zx ?_;intros)
  refine ih (i+1) _ _ ?_ oM
  exact ⟨_,_,_,_,c / 10,_,acc ++ [c % 10],rfl,by simp,.a _ _ (by simp) (by have hq:=‹u6 1 (acc.map dg ++ [_]) _ 0›;rw [S5 (d:=c % 10) oM] at hq;exact hq),by simp;omega,oM,aS,aS,oM,by rw [← he,c15 (i:=i+1) oM oM,c15 (i:=i) oM oM,if_pos oM,if_neg oM,show c % 10=c by omega];simp⟩
 ·have e:acc=G2 a b 0:=by rw [← he,c15 oM oM,if_pos oM];simp
  rw [← e]
  exact p9 ⟨.ret _ _ (.sl _ _ _ _ _ (by simp) aS),.nil⟩
theorem a4s {l:List Nat} {i:Nat} (h:i < l.length):l.getD i 0=l[i]:=(a5h h).symm
def db (d:Nat):UInt8:=UInt8.ofNat (48+d)
theorem d46 {d:Nat} (h:d≤9):(db d).toNat=48+d:=by unfold db;rw [UInt8.toNat_ofNat'];omega
theorem c5m {l:List Nat} {m:Nat} (h:m < l.length):(l.take (m+1)).reverse.map db=db (l.getD m 0) :: (l.take m).reverse.map db:=by
 rw [List.take_add_one,List.getElem?_eq_getElem h,a4s h]
 simp only [Option.toList_some,List.reverse_append,List.reverse_cons,List.reverse_nil,List.nil_append,List.map_cons,List.cons_append]
theorem b7e {n:Nat} (h:n ≠ 0):s3 n=(p7 n).reverse.map db:=by unfold s3;rw [if_neg h];rfl
theorem b6j {acc:u4} {n:Int} {d:UInt8} (h:n=d.toNat):acc.map bg ++ [[.i .u8 n]]=(acc ++ [d]).map bg:=by subst h;simp [bg]
def J0 (neg:Bool) (n:Nat):u4:=if n=0 then I7 else if neg then [45] ++ s3 n else s3 n
def g0l:Sp where
 ι:={ p:Bool × List Nat // p.2.length < 90000∧D9 p.2 }
 A p:=[.c (.b p.1.1),.sl 1 (p.1.2.map dg)]
 B _:=[]
 R p:=.ret (.c (.s (J0 p.1.1 (val p.1.2))))
 B' _:=[]
 inj i j vs bs h k _ _:=by
  obtain ⟨_,_,h1,k1,h,k⟩:=h.two k
  obtain ⟨_,_,h2,k2,h,k⟩:=h.two k
  rw [e5b h1 k1,S4 (h2.sl_inj k2)];exact ⟨rfl,rfl⟩
theorem b2w:s9 140 g0l:=u2 (fun fn h=>c81 h) [(205,_)] (.cons c1s .nil) fun U fn hfn ⟨(neg,l),hl,h9⟩ vs bs hv hb=>by
 have hr:=hfn 205 _ rfl
 have hl:l.length < 90000:=hl
 have hv:t7 [.c (.b neg),.sl 1 (l.map dg)] vs:=hv
 have hb:s5 [] bs:=hb
 show s4 U _ fun v bs'=>u0 (.ret (.c (.s (J0 neg (val l))))) v∧s5 [] bs'
 have et:V8 l=p7 (val l):=a13 l h9
 have htl:(p7 (val l)).length < 90000:=by rw [← et];unfold V8;simp;omega
 have h9:=B3 (val l)
 generalize val l=n at *
 generalize hd:p7 n=d at *
 unfold d2w
 (refine Zx ?_;intros)
 refine o7 hr ⟨l,oM⟩ (r:=.sl 1 (d.map dg)) (by rw [← et];rfl) u5 .nil fun _ _ _ _=>?_
 (refine Zx ?_;with_reducible repeat' first|intro _|apply aI)
 ·have e0:d=[]:=List.length_eq_zero_iff.1 oM
  have en:n=0:=by rw [← C0 n,hd,e0];rfl
  exact p9 ⟨.ret _ _ (.s _ _ _ (by rw [en];rfl) (by rw [en];rfl)),.nil⟩
 all_goals
  have en:n ≠ 0:=fun e=>by rw [e,C5] at hd;subst hd;simp at *
 ·have ht:neg=true:=‹_›
  have es:J0 neg n=[45] ++ d.reverse.map db:=by unfold J0;rw [if_neg en,if_pos ht,b7e en,hd]
  refine N8 (u6.nil 1 .nil 0) (fun _=>N6 (.i _ _)) rfl rfl dE fun _ _=>?_
  (refine Zx ?_;intros)
  (have hA:([45]:u4).length≤1:=(by simp);refine F9 (fun (m:Nat) vs bs=>∃ (t:s6 Q) (off:Nat) (v:V) (acc:u4) (i:Int),vs=[.slice t 1 off d.length .no,v,.int .i64 i]∧bs=[.tok acc.length 1]∧R7 0 1 (acc.map bg) v∧i=m - 1∧u6 1 (d.map dg) t off∧m≤d.length∧acc.length+m=([45]:u4).length+d.length∧acc ++ (d.take m).reverse.map db=([45]:u4) ++ d.reverse.map db) (fun m=>m) d.length ⟨_,_,_,[45],_,rfl,rfl,?_,rfl,aS,oM,rfl,by simp⟩ (by simp only [C9];omega) ?_;rotate_left;(rintro self m _ _ ⟨t,off,v,acc,i,rfl,rfl,hv',rfl,ht,hm,ha,he⟩ ih;(refine Zx ?_;with_reducible repeat' first|intro _|apply aI);(refine a96 (m - 1) aS oM oM fun _ _=>?_;have q9:=D9.at h9 (m - 1);(refine Zx ?_;with_reducible repeat' first|intro _|apply aI);refine d3p rfl oM ?_;(refine Zx ?_;with_reducible repeat' first|intro _|apply aI);refine N8 aS (fun _=>N6 (by first | exact .i _ _ | exact .s _ _ _ rfl rfl | assumption)) (by rfl) (by simp) (by simp only [List.length_map];omega) fun _ _=>?_;(refine Zx ?_;with_reducible repeat' first|intro _|apply aI);refine ih (m - 1) _ _ ?_ oM;refine ⟨_,_,_,acc ++ [db (d.getD (m - 1) 0)],_,rfl,by simp,.a _ _ (by simp) ?_,oM,aS,oM,by simp at *;omega,?_⟩;(have hq:=‹u6 1 (acc.map bg ++ [_]) _ 0›;rw [b6j (d:=db (d.getD (m - 1) 0)) (by rw [d46 q9];omega)] at hq;exact hq);(obtain ⟨m,rfl⟩:∃ n,m=n+1:=⟨m - 1,oM⟩;exact (by rw [← he,c5m (m:=m) oM] <;> simp)));(have em:m=0:=oM;subst em;simp only [List.take_zero,List.reverse_nil,List.map_nil,List.append_nil] at he;subst he;refine sBT (ys:=_) aS (by simp) ?_;exact p9 ⟨.ret _ _ (.s _ _ _ (by rw [es] <;> rfl) (by rw [es] <;> rfl)),.nil⟩)))
  ·exact .a _ _ rfl aS
 ·have ht:neg=false:=by simpa using ‹¬neg=true›
  have es:J0 neg n=[] ++ d.reverse.map db:=by unfold J0;rw [if_neg en,if_neg (by simp [ht]),b7e en,hd];rfl
  (have hA:([]:u4).length≤1:=(by simp);refine F9 (fun (m:Nat) vs bs=>∃ (t:s6 Q) (off:Nat) (v:V) (acc:u4) (i:Int),vs=[.slice t 1 off d.length .no,v,.int .i64 i]∧bs=[.tok acc.length 1]∧R7 0 1 (acc.map bg) v∧i=m - 1∧u6 1 (d.map dg) t off∧m≤d.length∧acc.length+m=([]:u4).length+d.length∧acc ++ (d.take m).reverse.map db=([]:u4) ++ d.reverse.map db) (fun m=>m) d.length ⟨_,_,_,[],_,rfl,rfl,?_,rfl,aS,oM,rfl,by simp⟩ (by simp only [C9];omega) ?_;rotate_left;(rintro self m _ _ ⟨t,off,v,acc,i,rfl,rfl,hv',rfl,ht,hm,ha,he⟩ ih;(refine Zx ?_;with_reducible repeat' first|intro _|apply aI);(refine a96 (m - 1) aS oM oM fun _ _=>?_;have q9:=D9.at h9 (m - 1);(refine Zx ?_;with_reducible repeat' first|intro _|apply aI);refine d3p rfl oM ?_;(refine Zx ?_;with_reducible repeat' first|intro _|apply aI);refine N8 aS (fun _=>N6 (by first | exact .i _ _ | exact .s _ _ _ rfl rfl | assumption)) (by rfl) (by simp) (by simp only [List.length_map];omega) fun _ _=>?_;(refine Zx ?_;with_reducible repeat' first|intro _|apply aI);refine ih (m - 1) _ _ ?_ oM;refine ⟨_,_,_,acc ++ [db (d.getD (m - 1) 0)],_,rfl,by simp,.a _ _ (by simp) ?_,oM,aS,oM,by simp at *;omega,?_⟩;(have hq:=‹u6 1 (acc.map bg ++ [_]) _ 0›;rw [b6j (d:=db (d.getD (m - 1) 0)) (by rw [d46 q9];omega)] at hq;exact hq);(obtain ⟨m,rfl⟩:∃ n,m=n+1:=⟨m - 1,oM⟩;exact (by rw [← he,c5m (m:=m) oM] <;> simp)));(have em:m=0:=oM;subst em;simp only [List.take_zero,List.reverse_nil,List.map_nil,List.append_nil] at he;subst he;refine sBT (ys:=_) aS (by simp) ?_;exact p9 ⟨.ret _ _ (.s _ _ _ (by rw [es] <;> rfl) (by rw [es] <;> rfl)),.nil⟩)))
  ·exact .a _ _ rfl (.nil _ _ _)
theorem b3p (s:u4) (e:Nat):∀ (k:Nat) (acc:List Nat),(D4 s e k acc).length≤acc.length+k
 | 0,acc=>by simp [D4]
 | k+1,acc=>by
  rw [D4]
  split
  ·have:=b3p s e k (acc ++ [(bt s k - 48).toNat]);simp at this;omega
  ·omega
theorem D3 {a b:Nat} (h:a≤b):(p7 a).length≤(p7 b).length:=by
 by_cases ha:a=0
 ·rw [ha,C5];simp
 ·have h1:=a76 a ha
  have h2:=Z6 (p7 b) (B3 b)
  rw [C0] at h2
  have h3:10 ^ ((p7 a).length - 1) < 10 ^ (p7 b).length:=oM
  have h4:=(Nat.pow_lt_pow_iff_right (by omega:1 < 10)).1 h3
  omega
theorem M6 (s:u4):(p7 (p8 s).natAbs).length≤s.length:=by
 have h:=c7c s
 have:(a1q s).2=p7 (p8 s).natAbs:=by rw [h]
 rw [← this]
 unfold a1q
 split
 ·have:=b3p s (A9 s) s.length [];simpa using this
 ·simp
theorem f9v (n j:Nat):(List.replicate n 0).getD j 0=0:=by
 by_cases h:j < n
 ·rw [a4s (by simpa using h)];simp
 ·simp [List.getD,List.getElem?_replicate,h]
theorem d9v {l:List Nat} {k:Nat} (v:Nat) (h:k < l.length):(l.set k v).drop k=v :: l.drop (k+1):=by
 rw [List.drop_eq_getElem_cons (by simpa using h),List.getElem_set_self,List.drop_set_of_lt oM]
theorem e3z {l:List Nat} {k v:Nat} (h:l.getD k 0=v):l.set k v=l:=by
 by_cases hk:k < l.length
 ·rw [a4s hk] at h;subst h;exact List.set_getElem_self hk
 ·exact List.set_eq_of_length_le oM
theorem c13 {l:List Nat} (h:D9 l) (k:Nat) {v:Nat} (hv:v≤9):D9 (l.set k v):=fun d hd=>by
 rcases List.mem_or_eq_of_mem_set hd with h1 | h1
 ·exact h d h1
 ·omega
theorem a26 {l:List Nat} {k j v:Nat} (h:j ≠ k):(l.set k v).getD j 0=l.getD j 0:=by
 simp only [List.getD,List.getElem?_set_ne (Ne.symm h)]
theorem b1o (l:List Nat) (k v:Nat) {n:Int} (h:n=v):(l.map dg).set k [.i .i64 n]=(l.set k v).map dg:=by subst h;rw [List.map_set];rfl
def g0i:Sp where
 ι:={ p:Nat × Nat // (p7 p.1).length < 80000∧(p7 p.2).length < 80000∧0 < p.2 }
 A p:=[.sl 1 ((p7 p.1.1).map dg),.sl 1 ((p7 p.1.2).map dg)]
 B _:=[]
 R p:=.ret (.t [.sl 1 ((p7 (p.1.1 / p.1.2)).map dg),.sl 1 ((p7 (p.1.1 % p.1.2)).map dg)])
 B' _:=[]
 inj i j vs bs h k _ _:=by
  obtain ⟨_,_,h1,k1,h,k⟩:=h.two k
  obtain ⟨_,_,h2,k2,h,k⟩:=h.two k
  have e1:=congrArg val (S4 (h1.sl_inj k1))
  have e2:=congrArg val (S4 (h2.sl_inj k2))
  rw [C0,C0] at e1 e2
  rw [e1,e2];exact ⟨rfl,rfl⟩
theorem d1f:s9 139 g0i:=u2 (fun fn h=>c80 h) [(205,_),(206,_),(207,_)] (.cons c1s (.cons c32 (.cons c30 .nil))) fun U fn hfn ⟨(x,y),hx,hy,hp⟩ vs bs hv hb=>by
 have hr:=hfn 205 _ rfl
 have ho:=hfn 206 _ rfl
 have hmi:=hfn 207 _ rfl
 have hx:(p7 x).length < 80000:=hx
 have hy:(p7 y).length < 80000:=hy
 have hp:0 < y:=hp
 have hv:t7 [.sl 1 ((p7 x).map dg),.sl 1 ((p7 y).map dg)] vs:=hv
 have hb:s5 [] bs:=hb
 show s4 U _ fun v bs'=>u0 (.ret (.t [.sl 1 ((p7 (x / y)).map dg),.sl 1 ((p7 (x % y)).map dg)])) v∧s5 [] bs'
 unfold d2v
 (refine Zx ?_;intros)
 refine sZT (fun _=>N6 (.i _ _)) rfl (by simp;omega) fun t0 ht0=>?_
 have ht0:u6 1 ((List.replicate (p7 x).length 0).map dg) t0 0:=by have:=ht0;simpa [dg] using this
 have h9x:=B3 x
 have h9y:=B3 y
 (refine Zx ?_;intros)
 refine F9 (fun (m:Nat) vs bs=>∃ (t:s6 Q) (off:Nat) (t':s6 Q) (off':Nat) (v:V) (i:Int) (tq:s6 Q) (qs:List Nat),vs=[.slice t 1 off (p7 x).length .no,.slice t' 1 off' (p7 y).length .no,.bslice 0 (p7 x).length,v,.int .i64 i]∧bs=[.row tq (p7 x).length]∧i=m - 1∧m≤(p7 x).length∧u6 1 ((p7 x).map dg) t off∧u6 1 ((p7 y).map dg) t' off' ∧
  RV (.sl 1 ((p7 (val ((p7 x).drop m) % y)).map dg)) v∧u6 1 (qs.map dg) tq 0∧qs.length=(p7 x).length∧D9 qs∧(∀ j,j < m→qs.getD j 0=0)∧val (qs.drop m)=val ((p7 x).drop m) / y) (fun m=>m) (p7 x).length
  ⟨_,_,_,_,_,_,_,_,rfl,by simp,rfl,oM,aS,aS,by rw [List.drop_length];simp only [val,Nat.zero_mod,C5];exact .sl0 _ _ _,ht0,by simp,by intro d hd;simp at hd;omega,fun j _=>f9v _ j,by simp [val]⟩ (by simp only [C9];omega) ?_
 rintro self m _ _ ⟨t,off,t',off',v,i,tq,qs,rfl,rfl,rfl,hm,ht,ht',hv',hq,hql,hq9,hq0,hqv⟩ ih
 have hrl:(p7 (val ((p7 x).drop m) % y)).length≤(p7 y).length:=D3 (Nat.le_of_lt (Nat.mod_lt _ hp))
 (refine Zx ?_;with_reducible repeat' first|intro _|apply aI)
 ·refine a96 (m - 1) aS oM oM fun _ _=>?_
  have hd9:=D9.at h9x (m - 1)
  have hdr:=d49 x (m - 1) oM
  rw [show m - 1+1=m by omega] at hdr
  generalize hX:val ((p7 x).drop m)=X at *
  generalize hdd:(p7 x).getD (m - 1) 0=d at *
  have hml:=Nat.mod_lt X hp
  (refine Zx ?_;intros)
  refine sAT (xs:=[dg d]) (ys:=(p7 (X % y)).map dg) (n:=1) (.cons _ _ _ _ _ rfl (N6 aS).1 (N6 aS).2 (.nil _ _ _)) aS rfl (by simp) (by simp;omega) fun _ _=>?_
  (refine Zx ?_;intros)
  have htr:=b76 d (X % y) hd9
  refine o7 hr ⟨d :: p7 (X % y),by simp;omega⟩ (r:=.sl 1 ((p7 (d+10 * (X % y))).map dg)) (by rw [← htr];rfl) (.k (.sl _ _ _ _ _ (by simp;omega) aS) .nil) .nil fun _ _ _ _=>?_
  generalize hR:d+10 * (X % y)=R at *
  (refine Zx ?_;intros)
  have hRl:(p7 R).length < 90000:=by rw [← htr];unfold V8;simp;omega
  have hRy:R < 10 * y:=oM
  refine F9 (fun (c:Nat) vs bs=>∃ (t:s6 Q) (off:Nat) (t':s6 Q) (off':Nat) (v:V) (i:Int) (tq:s6 Q),vs=[.slice t 1 off (p7 x).length .no,.slice t' 1 off' (p7 y).length .no,.bslice 0 (p7 x).length,v,.int .i64 i]∧bs=[.row tq (p7 x).length]∧i=m - 1∧u6 1 ((p7 x).map dg) t off∧u6 1 ((p7 y).map dg) t' off' ∧
   RV (.sl 1 ((p7 (R - c * y)).map dg)) v∧u6 1 ((qs.set (m - 1) c).map dg) tq 0∧c * y≤R) (fun c=>10 - c) 0
   ⟨_,_,_,_,_,_,_,rfl,rfl,rfl,aS,aS,by rw [Nat.zero_mul,Nat.sub_zero];exact .sl _ _ _ _ _ (by simp) aS,by rw [show qs.set (m - 1) 0=qs from e3z (hq0 _ oM)];exact hq,oM⟩ (by simp only [C9];omega) ?_
  rintro self2 c _ _ ⟨t,off,t',off',v,i,tq,rfl,rfl,rfl,ht,ht',hv',hq,hc⟩ ih2
  have hc9:c≤9:=by
   have:c * y < 10 * y:=oM
   have:=Nat.lt_of_mul_lt_mul_right this
   omega
  have hcl:(p7 (R - c * y)).length < 90000:=by have:=D3 (Nat.sub_le R (c * y));omega
  (refine Zx ?_;intros)
  refine o7 ho ⟨(p7 (R - c * y),p7 y),hcl,show (p7 y).length < 90000 by omega,trivial⟩ (r:=.c (.i .i64 (a1x (p7 (R - c * y)) (p7 y)))) rfl u5 .nil fun _ _ _ _=>?_
  have hord:=a6o (R - c * y) y
  generalize a1x (p7 (R - c * y)) (p7 y)=o at *
  (refine Zx ?_;with_reducible repeat' first|intro _|apply aI)
  ·have hge:y≤R - c * y:=by
    by_cases h:R - c * y < y
    ·rw [if_pos h] at hord;omega
    ·omega
   have hmul:(c+1) * y=c * y+y:=by rw [Nat.add_mul,Nat.one_mul]
   have hsub:b85 (p7 (R - c * y)) (p7 y)=p7 (R - (c+1) * y):=by rw [a6w _ _ hge];congr 1;omega
   refine o7 hmi ⟨(p7 (R - c * y),p7 y),hcl,show (p7 y).length < 90000 by omega,B3 _,B3 _⟩ (r:=.sl 1 ((p7 (R - (c+1) * y)).map dg)) (by rw [← hsub];rfl) u5 .nil fun _ _ _ _=>?_
   (refine Zx ?_;intros)
   have hk:((m:Int) - 1).toNat * 1=m - 1:=oM
   rw [hk]
   refine e30 (g:=.i .i64 (c:Int)) hq (by rw [List.getElem?_map,List.getElem?_set_self oM];rfl) fun _ _=>?_
   (refine Zx ?_;intros)
   rw [hk]
   refine e3x hq (fun _=>N6 (.i _ _)) rfl (by simp;omega) oM fun _ hq2=>?_
   rw [b1o (n:=(c:Int)+1) _ _ (c+1) oM,List.set_set] at hq2
   exact ih2 (c+1) _ _ ⟨_,_,_,_,_,_,_,rfl,rfl,rfl,ht,ht',.sl _ _ _ _ _ (by simp) aS,hq2,oM⟩ oM
  ·have hlt:R - c * y < y:=by
    by_cases h:R - c * y < y
    ·exact h
    ·rw [if_neg h] at hord;split at hord <;> omega
   obtain ⟨o1,o2⟩:=d1w R c y hp hc hlt
   obtain ⟨s1,s2⟩:=d53 X d y hp
   have hdv:val ((p7 x).drop (m - 1))=d+10 * X:=hdr
   refine ih (m - 1) _ _ ⟨_,_,_,_,_,_,_,_,rfl,rfl,oM,oM,ht,ht',?_,hq,by simp;omega,c13 hq9 _ hc9,fun j hj=>by rw [a26 oM];exact hq0 j oM,?_⟩ oM
   ·rw [hdv,s2,hR,o2];exact .sl _ _ _ _ _ (by simp) aS
   ·rw [d9v c oM,val,show m - 1+1=m by omega,hqv,hdv,s1,hR,o1]
 ·have em:m=0:=oM
  subst em
  rw [List.drop_zero,List.drop_zero,C0] at hqv
  refine o7 hr ⟨qs,oM⟩ (r:=.sl 1 ((p7 (x / y)).map dg)) (by rw [← hqv,← a13 qs hq9];rfl) (.k (.sl _ _ _ _ _ (by simp;omega) hq) .nil) .nil fun _ _ _ _=>?_
  rw [List.drop_zero,C0] at *
  (refine Zx ?_;intros)
  exact p9 ⟨.ret _ _ (.t _ _ u5),.nil⟩
theorem f93 {U:B0} {P:H4→List Bx→Prop} {a b:Nat} {K:Int→Om} (h1:a * b < 9223372036854775808) (h:s4 U (K ((a * b:Nat):Int)) P):s4 U (U.fI (U.wr .i64 (U.iMul (a:Int) (b:Int))) K) P:=by
 have e:((a * b:Nat):Int)=(a:Int) * b:=Int.natCast_mul a b
 exact e7k (by rw [← e];omega) (by rw [← e];exact h)
theorem b9b:∀ {l:List Nat} {k:Nat} (v:Nat),k < l.length→val (l.set k v)+l.getD k 0 * 10 ^ k=val l+v * 10 ^ k
 | [],k,v,h=>by simp at h
 | d :: t,0,v,h=>by simp [val];omega
 | d :: t,k+1,v,h=>by
  have:=b9b (l:=t) (k:=k) v (by simpa using h)
  have e1:(d :: t).getD (k+1) 0=t.getD k 0:=by simp [List.getD]
  rw [e1,List.set_cons_succ,val,val,Nat.pow_succ]
  have e2:t.getD k 0 * (10 ^ k * 10)=10 * (t.getD k 0 * 10 ^ k):=by rw [← Nat.mul_assoc,Nat.mul_comm]
  have e3:v * (10 ^ k * 10)=10 * (v * 10 ^ k):=by rw [← Nat.mul_assoc,Nat.mul_comm]
  rw [e2,e3];omega
theorem c5w {l:List Nat} {k:Nat} (h:k < l.length):val (l.take (k+1))=val (l.take k)+l.getD k 0 * 10 ^ k:=by
 rw [List.take_add_one,List.getElem?_eq_getElem h,a4s h]
 simp only [Option.toList_some]
 rw [a14,List.length_take,Nat.min_eq_left oM]
 simp [val,Nat.mul_comm]
theorem c4g {o c ab q r P V V':Nat} (hs:o+c+ab=10 * q+r) (hv:V'+o * P=V+r * P):V'+q * (10 * P)=V+c * P+ab * P:=by
 have h:=congrArg (· * P) hs
 simp only [Nat.add_mul] at h
 have e:q * (10 * P)=10 * q * P:=by rw [← Nat.mul_assoc,Nat.mul_comm q 10]
 omega
theorem e4o (n:Nat):val (List.replicate n 0)=0:=by
 induction n with
 | zero=>rfl
 | succ n ih=>rw [List.replicate_succ,val,ih]
def f3d:Sp where
 ι:={ p:Nat × Nat // (p7 p.1).length < 40000∧(p7 p.2).length < 40000 }
 A p:=[.sl 1 ((p7 p.1.1).map dg),.sl 1 ((p7 p.1.2).map dg)]
 B _:=[]
 R p:=.ret (.sl 1 ((p7 (p.1.1 * p.1.2)).map dg))
 B' _:=[]
 inj i j vs bs h k _ _:=by
  obtain ⟨_,_,h1,k1,h,k⟩:=h.two k
  obtain ⟨_,_,h2,k2,h,k⟩:=h.two k
  have e1:=congrArg val (S4 (h1.sl_inj k1))
  have e2:=congrArg val (S4 (h2.sl_inj k2))
  rw [C0,C0] at e1 e2
  rw [e1,e2];exact ⟨rfl,rfl⟩
theorem f6p:s9 269 f3d:=u2 (fun fn h=>f2h h) [(205,_)] (.cons c1s .nil) fun U fn hfn ⟨(x,y),hx,hy⟩ vs bs hv hb=>by
 have hr:=hfn 205 _ rfl
 have hx:(p7 x).length < 40000:=hx
 have hy:(p7 y).length < 40000:=hy
 have hv:t7 [.sl 1 ((p7 x).map dg),.sl 1 ((p7 y).map dg)] vs:=hv
 have hb:s5 [] bs:=hb
 show s4 U _ fun v bs'=>u0 (.ret (.sl 1 ((p7 (x * y)).map dg))) v∧s5 [] bs'
 have h9x:=B3 x
 have h9y:=B3 y
 have hvx:=C0 x
 have hvy:=C0 y
 obtain ⟨a,ea⟩:∃ a,a=p7 x:=⟨_,rfl⟩
 obtain ⟨b,eb⟩:∃ b,b=p7 y:=⟨_,rfl⟩
 rw [← ea] at hx hv h9x hvx
 rw [← eb] at hy hv h9y hvy
 unfold e3i
 (refine Zx ?_;intros)
 have hL:((a.length:Int)+b.length+1).toNat=a.length+b.length+1:=oM
 rw [hL]
 refine sZT (fun _=>N6 (.i _ _)) rfl oM fun t0 ht0=>?_
 have ht0:u6 1 ((List.replicate (a.length+b.length+1) 0).map dg) t0 0:=by have:=ht0;simpa [dg] using this
 generalize hLe:a.length+b.length+1=L at *
 (refine Zx ?_;intros)
 refine F9 (fun (i:Nat) vs bs=>∃ (t:s6 Q) (off:Nat) (t':s6 Q) (off':Nat) (to:s6 Q) (o:List Nat),vs=[.slice t 1 off a.length .no,.slice t' 1 off' b.length .no,.bslice 0 L,.int .i64 i]∧bs=[.row to L]∧i≤a.length∧u6 1 (a.map dg) t off∧u6 1 (b.map dg) t' off'∧u6 1 (o.map dg) to 0∧o.length=L∧D9 o ∧
  (∀ k,i+b.length≤k→o.getD k 0=0)∧val o=val (a.take i) * y) (fun i=>a.length - i) 0
  ⟨_,_,_,_,_,_,rfl,rfl,oM,aS,aS,ht0,by simp,by intro d hd;simp at hd;omega,fun k _=>f9v _ k,by rw [e4o];simp [val]⟩ (by simp only [C9];omega) ?_
 rintro self i _ _ ⟨t,off,t',off',to,o,rfl,rfl,hi,ht,ht',hto,hol,ho9,ho0,hov⟩ ih
 (refine Zx ?_;with_reducible repeat' first|intro _|apply aI)
 ·have ha9:=D9.at h9x i
  have hta:=c5w (l:=a) (k:=i) oM
  generalize hai:a.getD i 0=ai at *
  refine F9 (fun (j:Nat) vs bs=>∃ (t:s6 Q) (off:Nat) (t':s6 Q) (off':Nat) (to:s6 Q) (p:List Nat) (c:Nat),vs=[.slice t 1 off a.length .no,.slice t' 1 off' b.length .no,.bslice 0 L,.int .i64 i,.int .i64 c,.int .i64 j]∧bs=[.row to L]∧u6 1 (a.map dg) t off∧u6 1 (b.map dg) t' off'∧u6 1 (p.map dg) to 0∧p.length=L∧D9 p ∧
   c≤9∧j≤b.length+1∧(j=b.length+1→c=0)∧(∀ k,i+b.length+1≤k→p.getD k 0=0)∧(j≤b.length→p.getD (i+b.length) 0=0) ∧
   val p+c * 10 ^ (i+j)=val o+ai * val (b.take j) * 10 ^ i) (fun j=>b.length+2 - j) 0
   ⟨_,_,_,_,_,o,0,rfl,rfl,ht,ht',hto,hol,ho9,oM,oM,oM,fun k hk=>ho0 k oM,fun _=>ho0 _ oM,by simp [val]⟩ (by simp only [C9];omega) ?_
  rintro self2 j _ _ ⟨t,off,t',off',to,p,c,rfl,rfl,ht,ht',hto,hpl,hp9,hc,hj,hj1,hp0,hpb,hpv⟩ ih2
  (refine Zx ?_;with_reducible repeat' first|intro _|apply aI)
  ·have hk:((i:Int)+j).toNat * 1=i+j:=oM
   rw [hk]
   have hp9':=D9.at hp9 (i+j)
   have e1:a[i]=ai:=by rw [a5h oM];exact hai
   have e2:b[j]=b.getD j 0:=a5h oM
   have hb9':=D9.at h9y j
   have hm:a[i] * b[j]≤9 * 9:=Nat.mul_le_mul oM oM
   refine e30 (g:=.i .i64 (p.getD (i+j) 0:Nat)) hto (by rw [List.getElem?_map,List.getElem?_eq_getElem oM,a4s oM];rfl) fun _ _=>?_
   (refine Zx ?_;with_reducible repeat' first|intro _|apply aI)
   all_goals try (exfalso;omega)
   refine f93 oM ?_
   generalize hab:a[i] * b[j]=ab at *
   (refine Zx ?_;intros)
   generalize hS:p.getD (i+j) 0+c+ab=S at *
   refine a8t (n:=S) (m:=10) oM rfl ?_
   (refine Zx ?_;intros)
   rw [hk]
   refine e3x hto (fun _=>N6 (.i _ _)) rfl (by simp;omega) oM fun _ ht2=>?_
   rw [b1o _ _ _ rfl] at ht2
   (refine Zx ?_;intros)
   refine a8v (n:=S) (m:=10) oM rfl oM ?_
   (refine Zx ?_;intros)
   refine ih2 (j+1) _ _ ⟨_,_,_,_,_,p.set (i+j) (S % 10),S / 10,rfl,rfl,ht,ht',ht2,by simp;omega,c13 hp9 _ oM,oM,oM,oM,fun k hk=>by rw [a26 oM];exact hp0 k hk,fun h=>by rw [a26 oM];exact hpb oM,?_⟩ oM
   have hs:=b9b (l:=p) (k:=i+j) (S % 10) oM
   have ms:=c4g (q:=S / 10) (P:=10 ^ (i+j)) (c:=c) (ab:=ab) oM hs
   rw [show i+(j+1)=(i+j)+1 by omega,Nat.pow_succ,Nat.mul_comm (10 ^ (i+j)) 10,ms,hpv,c5w (l:=b) oM,← hab,e1,e2]
   simp only [Nat.mul_add,Nat.add_mul,Nat.pow_add]
   have:ai * (b.getD j 0 * 10 ^ j) * 10 ^ i=ai * b.getD j 0 * (10 ^ i * 10 ^ j):=by ac_rfl
   omega
  ·have hjl:j=b.length:=oM
   have hk:((i:Int)+j).toNat * 1=i+j:=oM
   rw [hk]
   have hp0':p.getD (i+j) 0=0:=by rw [hjl];exact hpb oM
   refine e30 (g:=.i .i64 (p.getD (i+j) 0:Nat)) hto (by rw [List.getElem?_map,List.getElem?_eq_getElem oM,a4s oM];rfl) fun _ _=>?_
   (refine Zx ?_;with_reducible repeat' first|intro _|apply aI)
   all_goals try (exfalso;omega)
   refine a8t (n:=c) (m:=10) oM rfl ?_
   (refine Zx ?_;intros)
   rw [hk]
   refine e3x hto (fun _=>N6 (.i _ _)) rfl (by simp;omega) oM fun _ ht2=>?_
   rw [b1o _ _ _ rfl] at ht2
   (refine Zx ?_;intros)
   refine a8v (n:=c) (m:=10) oM rfl oM ?_
   (refine Zx ?_;intros)
   refine ih2 (j+1) _ _ ⟨_,_,_,_,_,p.set (i+j) (c % 10),c / 10,rfl,rfl,ht,ht',ht2,by simp;omega,c13 hp9 _ oM,oM,oM,oM,fun k hk=>by rw [a26 oM];exact hp0 k hk,fun h=>by omega,?_⟩ oM
   have hs:=b9b (l:=p) (k:=i+j) (c % 10) oM
   have ms:=c4g (q:=c / 10) (P:=10 ^ (i+j)) (c:=c) (ab:=0) oM hs
   rw [show i+(j+1)=(i+j)+1 by omega,Nat.pow_succ,Nat.mul_comm (10 ^ (i+j)) 10,ms,hpv,List.take_of_length_le (by omega:b.length≤j),List.take_of_length_le (by omega:b.length≤j+1)]
   omega
  ·have hc0:c=0:=oM
   subst hc0
   refine ih (i+1) _ _ ⟨_,_,_,_,_,p,rfl,rfl,oM,ht,ht',hto,hpl,hp9,fun k hk=>hp0 k oM,?_⟩ oM
   rw [Nat.zero_mul,Nat.add_zero,List.take_of_length_le (by omega:b.length≤j),hvy] at hpv
   rw [hpv,hov,hta,Nat.add_mul]
   have:ai * y * 10 ^ i=ai * 10 ^ i * y:=by ac_rfl
   omega
 ·have e:V8 o=p7 (x * y):=by rw [a13 o ho9,hov,List.take_of_length_le oM,hvx]
  refine o7 hr ⟨o,oM⟩ (r:=.sl 1 ((p7 (x * y)).map dg)) (by rw [← e];rfl) (.k (.sl _ _ _ _ _ (by simp;omega) hto) .nil) .nil fun _ _ _ _=>?_
  (refine Zx ?_;intros)
  exact p9 ⟨.ret _ _ u5,.nil⟩
end
end Go.Proofs.YtkojildpddaccaaGreatDoor
