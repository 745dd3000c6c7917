/- The reference's objects. -/
import Derived.Test.YtkojildpddaccaaGreatDoorCL0
import Derived.Test.YtkojildpddaccaaGreatDoorCL1
import Derived.Test.YtkojildpddaccaaGreatDoorCP
set_option linter.all false
namespace Go.Proofs.YtkojildpddaccaaGreatDoor
open Go.Abs LQ
set_option maxRecDepth 100000
set_option maxHeartbeats 4000000
noncomputable section
def d2k:Sp where
 ι:=O × O
 A p:=[.a p.1.g,.a p.2.g]
 B _:=[]
 R p:=.ret (.c (.b (O.eqb p.1 p.2)))
 B' _:=[]
 inj i j vs bs h k _ _:=by obtain ⟨e1,e2⟩:=b7v h k;rw [Prod.ext e1 e2];exact ⟨rfl,rfl⟩
theorem f4r:v8 15 d2k:=Y2 (fun p=>p.1.size) fun n ih=>A8 (fun fn h=>d75 h) [(15,d2k.lt _ n)] (.cons ih .nil) fun U fn hfn ⟨(a,b),hn⟩ vs bs hv hb=>by
 have hv:z7 [.a a.g,.a b.g] vs:=hv;have hb:u0 [] bs:=hb;rw [a.g_eq,b.g_eq] at hv;show t6 U _ fun v bs'=>A3 (.ret (.c (.b (O.eqb a b)))) v∧u0 [] bs';have hl:=a.ps_le;unfold r15;(refine Zx ?_;with_reducible repeat' first|intro _|apply aI)
 all_goals first
  | exact s9 ⟨.ret _ _ (T6 (O.eqb_f.2 fun e=>by subst e;first | exact absurd rfl ‹_› | exact absurd (⟨rfl,rfl,trivial⟩:a.sym.1=a.sym.1∧a.sym.2=a.sym.2∧True) ‹_›)),.nil⟩
  | skip
 ·have e1:=‹a.k=b.k›;have e2:=‹a.nu=b.nu›;have e3:=‹a.de=b.de›;have e4:=‹a.sym.1=b.sym.1∧_›;have e5:=‹a.txt=b.txt›;have e6:a.ps.length=b.ps.length:=by have:=‹(a.ps.length:Int)=_›;omega
  refine I7 (fun (i:Nat) vs bs=>∃ q1 q2,vs=[.ptr 0 0,.ptr 1 0,.int .i64 i]∧bs=[.opa q1 7,.opa q2 7]∧A7 a.g q1 0∧A7 b.g q2 0∧i≤a.ps.length∧∀ j,j < i→a.ps[j]?=b.ps[j]?) (fun i=>a.ps.length - i) 0
   ⟨_,_,rfl,rfl,by rw [a.g_eq];assumption,by rw [b.g_eq];assumption,Nat.zero_le _,fun _ h=>absurd h (Nat.not_lt_zero _)⟩ a.ps_fuel ?_
  rintro self i vs bs ⟨q1,q2,rfl,rfl,k1,k2,hi,hj⟩ ih;rw [a.g_eq] at k1;rw [b.g_eq] at k2;(refine Zx ?_;with_reducible repeat' first|intro _|apply aI)
  ·refine s6 (hfn 15 _ rfl) ⟨(a.ps[i],b.ps[i]),?_⟩ rfl z6 .nil fun _ _ _ _=>?_
   ·show (a.ps[i]).size < n;have hn:a.size < n+1:=hn;have:=a.ps_size a.ps[i] (List.getElem_mem _);omega
   ·(refine Zx ?_;with_reducible repeat' first|intro _|apply aI)
    ·refine ih (i+1) _ _ ⟨_,_,rfl,rfl,by rw [a.g_eq];assumption,by rw [b.g_eq];assumption,oM,fun j h=>?_⟩ oM;by_cases h2:j=i
     ·subst h2;have:=O.eqb_t.1 ‹O.eqb a.ps[j] b.ps[j]=true›;rw [List.getElem?_eq_getElem oM,List.getElem?_eq_getElem oM,this]
     ·exact hj j oM
    ·exact s9 ⟨.ret _ _ (T6 (O.eqb_f.2 fun e=>by subst e;exact absurd (O.eqb_t.2 rfl:O.eqb a.ps[i] a.ps[i]=true) ‹_›)),.nil⟩
  ·exact s9 ⟨.ret _ _ (T6 (O.eqb_t.2 (O.ext e1 e2 e3 (Prod.ext e4.1 e4.2.1) e5 (List.ext_getElem? fun j=>by
    by_cases h:j < i
    ·exact hj j h
    ·rw [List.getElem?_eq_none oM,List.getElem?_eq_none oM])))),.nil⟩
def dg (d:Nat):List G:=[.i .i64 (d:Int)]
theorem f3a {a b:Nat} (h:dg a=dg b):a=b:=by simp only [dg,List.cons.injEq,G.i.injEq,and_true,true_and] at h;omega
theorem a0o:∀ {l m:List Nat},l.map dg=m.map dg→l=m
 | [],[],_=>rfl
 | [],_ :: _,h=>by simp at h
 | _ :: _,[],h=>by simp at h
 | a :: l,b :: m,h=>by simp only [List.map_cons,List.cons.injEq] at h;exact congr (congrArg List.cons (f3a h.1)) (a0o h.2)
theorem T2 {a b:u5} {v:V} (h:RV (.c (.s a)) v) (k:RV (.c (.s b)) v):a=b:=by have:=h.c_inj k;injection this
theorem b7w {a b:Bool} {v:V} (h:RV (.c (.b a)) v) (k:RV (.c (.b b)) v):a=b:=by have:=h.c_inj k;injection this
theorem b4l {c:IntKind} {a b:Int} {v:V} (h:RV (.c (.i c a)) v) (k:RV (.c (.i c b)) v):a=b:=by have:=h.c_inj k;injection this
theorem d0y {c:Int}:b4n c=true↔48≤c∧c≤57:=by simp [b4n]
theorem c6f {s:u5} {i:Nat} (h:i < s.length) (h1:¬((s.getD i 0).toNat:Int) < 48) (h2:¬57 < ((s.getD i 0).toNat:Int)):E7 s i=E7 s (i+1):=by
 rw [E7,if_pos h,if_pos (d0y.2 (by unfold bt;omega))]
theorem b8d {s:u5} {i:Nat} (h:i < s.length) (h1:((s.getD i 0).toNat:Int) < 48∨57 < ((s.getD i 0).toNat:Int)):E7 s i=i:=by
 rw [E7,if_pos h,if_neg (mt d0y.1 (by unfold bt;omega))]
theorem c0o {s:u5} {i:Nat} (h:¬i < s.length):E7 s i=i:=by
 rw [E7,if_neg h]
theorem c4w {s:u5} (h:0 < (s.length:Int)) (h2:((s.getD 0 0).toNat:Int)=45):u6 s=1:=by unfold u6;rw [if_pos ⟨oM,h2⟩]
theorem d4x {s:u5} (h2:¬((s.getD 0 0).toNat:Int)=45):u6 s=0:=by unfold u6;rw [if_neg (fun h=>h2 h.2)]
theorem g0v {s:u5} (h:¬0 < (s.length:Int)):u6 s=0:=by unfold u6;rw [if_neg (fun k=>by omega)]
theorem e0a {s:u5} {k:Nat} (h0:¬s=s5 1 48) (h1:u6 s=k) (h:s.length≤k):C2 s=false:=by
 have h0:¬s=E9:=h0;simp [C2,h0,h1];omega
theorem e0b {s:u5} {k:Nat} (h0:¬s=s5 1 48) (h1:u6 s=k) (h:((s.getD k 0).toNat:Int)=48):C2 s=false:=by
 have h0:¬s=E9:=h0;have h:bt s k=48:=h;simp [C2,h0,h1,h]
theorem e6j {s:u5} {k:Nat} (h0:¬s=s5 1 48) (h1:u6 s=k) (h2:k < s.length) (h:¬((s.getD k 0).toNat:Int)=48):C2 s=decide (E7 s k=s.length):=by
 have h0:¬s=E9:=h0;have h:¬bt s k=48:=h;have:k < s.length:=oM;simp [C2,h0,h1,h,this]
def sp1 (R:u5→z8):Sp where
 ι:={ s:u5 // s.length < 90000 }
 A s:=[.c (.s s.1)]
 B _:=[]
 R s:=R s.1
 B' _:=[]
 inj i j vs bs h k _ _:=by
  obtain ⟨_,_,h1,k1,h,k⟩:=h.two k;rw [T2 h1 k1];exact ⟨rfl,rfl⟩
theorem e72:v8 204 (sp1 fun s=>.ret (.c (.b (C2 s)))):=A8 (fun fn h=>d1y h) [] .nil fun U fn hfn ⟨s,hs⟩ vs bs hv hb=>by
 have hv:z7 [.c (.s s)] vs:=hv;have hb:u0 [] bs:=hb;show t6 U _ fun v bs'=>A3 (.ret (.c (.b (C2 s)))) v∧u0 [] bs';unfold e3k;(refine Zx ?_;with_reducible repeat' first|intro _|apply aI)
 all_goals try (exfalso;omega)
 ·exact s9 ⟨.ret _ _ (T6 (by subst_vars;rfl)),.nil⟩
 ·exact s9 ⟨.ret _ _ (T6 (e0a (k:=1) ‹_› (c4w ‹_› ‹_›) oM)),.nil⟩
 ·exact s9 ⟨.ret _ _ (T6 (e0b (k:=1) ‹_› (c4w ‹_› ‹_›) ‹_›)),.nil⟩
 ·have hd:=e6j (k:=1) ‹_› (c4w ‹_› ‹_›) oM ‹_›
  (refine I7 (fun (i:Nat) vs bs=>vs=[.str s.length (D0 s),.int .i64 i]∧bs=[]∧i≤s.length∧E7 s i=E7 s 1) (fun i=>s.length - i) 1 ⟨rfl,rfl,oM,rfl⟩ (by simp only [E3];omega) ?_;rintro self i vs bs ⟨rfl,rfl,hi,he⟩ ih;(refine Zx ?_;with_reducible repeat' first|intro _|apply aI);all_goals first | exact ih (i+1) _ _ ⟨rfl,rfl,oM,by rw [← he,c6f (i:=i) oM ‹_› ‹_›]⟩ oM | exact s9 ⟨.ret _ _ (T6 (by rw [hd,← he,c0o (i:=i) oM];exact decide_eq_true oM)),.nil⟩ | exact s9 ⟨.ret _ _ (T6 (by rw [hd,← he,b8d (i:=i) oM oM];exact decide_eq_false oM)),.nil⟩)
 ·exact s9 ⟨.ret _ _ (T6 (e0b (k:=0) ‹_› (d4x ‹_›) ‹_›)),.nil⟩
 ·have hd:=e6j (k:=0) ‹_› (d4x ‹_›) oM ‹_›
  (refine I7 (fun (i:Nat) vs bs=>vs=[.str s.length (D0 s),.int .i64 i]∧bs=[]∧i≤s.length∧E7 s i=E7 s 0) (fun i=>s.length - i) 0 ⟨rfl,rfl,oM,rfl⟩ (by simp only [E3];omega) ?_;rintro self i vs bs ⟨rfl,rfl,hi,he⟩ ih;(refine Zx ?_;with_reducible repeat' first|intro _|apply aI);all_goals first | exact ih (i+1) _ _ ⟨rfl,rfl,oM,by rw [← he,c6f (i:=i) oM ‹_› ‹_›]⟩ oM | exact s9 ⟨.ret _ _ (T6 (by rw [hd,← he,c0o (i:=i) oM];exact decide_eq_true oM)),.nil⟩ | exact s9 ⟨.ret _ _ (T6 (by rw [hd,← he,b8d (i:=i) oM oM];exact decide_eq_false oM)),.nil⟩)
 ·exact s9 ⟨.ret _ _ (T6 (e0a (k:=0) ‹_› (g0v ‹_›) oM)),.nil⟩
theorem d7q {s:u5} (h:C2 s=true) (h0:¬s=E9):∀ j,u6 s≤j→j < s.length→48≤bt s j∧bt s j≤57:=by
 intro j h1 h2;simp [C2,h0] at h;exact b0q s (u6 s) j h1 oM
theorem e2a:v8 137 (sp1 fun s=>.ret (.t [.c (.b (a1u s).1),.sl 1 ((a1u s).2.map dg)])):=A8 (fun fn h=>d1u h) [(204,_)] (.cons e72 .nil) fun U fn hfn ⟨s,hs⟩ vs bs hv hb=>by
 have hv:z7 [.c (.s s)] vs:=hv;have hb:u0 [] bs:=hb;show t6 U _ fun v bs'=>A3 (.ret (.t [.c (.b (a1u s).1),.sl 1 ((a1u s).2.map dg)])) v∧u0 [] bs';unfold e3g;refine Zx ?_;intros;refine s6 (hfn 204 _ rfl) ⟨s,hs⟩ (r:=.c (.b (C2 s))) rfl z6 .nil fun _ _ _ _=>?_;(refine Zx ?_;with_reducible repeat' first|intro _|apply aI)
 ·have e:a1u s=(false,[]):=by unfold a1u;rw [if_neg];exact fun h=>h.2 ‹s=s5 1 48›
  exact s9 ⟨.ret _ _ (by rw [e];(exact z6)),.nil⟩
 ·have h1:=‹C2 s=true›;have h2:¬s=E9:=‹_›;have hd:=d7q h1 h2;have hpos:u6 s < s.length:=by simp [C2,h2] at h1;omega
  have e:a1u s=(decide (u6 s=1),D5 s (u6 s) s.length []):=by unfold a1u;rw [if_pos ⟨h1,h2⟩]
  (refine Zx ?_;with_reducible repeat' first|intro _|apply aI)
  ·have es:=c4w (s:=s) oM ‹_›;have h45:=‹((s.getD 0 0).toNat:Int)=45›;rw [es] at hd e;generalize hB:U.iEq _ _=B
   (refine I7 (fun (m:Nat) vs bs=>∃ (i:Int) (v:V) (acc:List Nat),vs=[.str s.length (D0 s),.bool B,.int .i64 1,.int .i64 i,v]∧bs=[.tok acc.length 1]∧S4 0 1 (acc.map dg) v∧i=m - 1∧1≤m∧m≤s.length∧acc.length+m=s.length∧D5 s 1 m acc=D5 s 1 s.length []) (fun m=>m) s.length ⟨_,_,[],rfl,rfl,.b rfl,rfl,oM,oM,by simp,rfl⟩ (by simp only [E3];omega) ?_;rintro self m _ _ ⟨i,v,acc,rfl,rfl,ht,hi,hk,hm,ha,he⟩ ih;subst hi;(refine Zx ?_;with_reducible repeat' first|intro _|apply aI);(have h9:=hd (m - 1) oM oM;have hx:((s.getD ((m:Int) - 1).toNat 0).toNat:Int)=bt s (m - 1):=(by unfold bt;rw [show ((m:Int) - 1).toNat=m - 1 by omega]);refine d9k (m:=((bt s (m - 1) - 48).toNat:Int)) oM oM ?_;refine a94 (m:=((bt s (m - 1) - 48).toNat:Int)) rfl oM ?_;(refine Zx ?_;with_reducible repeat' first|intro _|apply aI);refine S7 aS (fun _=>L0 (by first | exact .i _ _ | exact .s _ _ _ rfl rfl | assumption)) (by rfl) (by simp) (by simp only [List.length_map];omega) fun _ _=>?_;(refine Zx ?_;with_reducible repeat' first|intro _|apply aI);refine ih (m - 1) _ _ ?_ oM;refine ⟨_,_,acc ++ [(bt s (m - 1) - 48).toNat],rfl,by simp,.a _ _ (by simp) (by rw [List.map_append];assumption),oM,oM,oM,by simp;omega,?_⟩;rw [← he];obtain ⟨m,rfl⟩:∃ n,m=n+1:=⟨m - 1,oM⟩;rw [D5,if_pos oM];rfl))
   have em:m=1:=oM;subst em;rw [show D5 s 1 1 acc=acc by simp [D5]] at he;rw [e,← he];exact P0 fun eU=>by subst eU;exact ⟨.ret _ _ (.t _ _ (.k (rvB (by rw [← hB,c0l];exact (decide_eq_true (rfl:1=1)).trans (decide_eq_true h45).symm)) (.k (.sl _ _ _ _ _ (by simp) aS) .nil))),.nil⟩
  ·have h45:=‹¬((s.getD 0 0).toNat:Int)=45›;have es:=d4x h45;rw [es] at hd e;generalize hB:U.iEq _ _=B
   (refine I7 (fun (m:Nat) vs bs=>∃ (i:Int) (v:V) (acc:List Nat),vs=[.str s.length (D0 s),.bool B,.int .i64 0,.int .i64 i,v]∧bs=[.tok acc.length 1]∧S4 0 1 (acc.map dg) v∧i=m - 1∧0≤m∧m≤s.length∧acc.length+m=s.length∧D5 s 0 m acc=D5 s 0 s.length []) (fun m=>m) s.length ⟨_,_,[],rfl,rfl,.b rfl,rfl,oM,oM,by simp,rfl⟩ (by simp only [E3];omega) ?_;rintro self m _ _ ⟨i,v,acc,rfl,rfl,ht,hi,hk,hm,ha,he⟩ ih;subst hi;(refine Zx ?_;with_reducible repeat' first|intro _|apply aI);(have h9:=hd (m - 1) oM oM;have hx:((s.getD ((m:Int) - 1).toNat 0).toNat:Int)=bt s (m - 1):=(by unfold bt;rw [show ((m:Int) - 1).toNat=m - 1 by omega]);refine d9k (m:=((bt s (m - 1) - 48).toNat:Int)) oM oM ?_;refine a94 (m:=((bt s (m - 1) - 48).toNat:Int)) rfl oM ?_;(refine Zx ?_;with_reducible repeat' first|intro _|apply aI);refine S7 aS (fun _=>L0 (by first | exact .i _ _ | exact .s _ _ _ rfl rfl | assumption)) (by rfl) (by simp) (by simp only [List.length_map];omega) fun _ _=>?_;(refine Zx ?_;with_reducible repeat' first|intro _|apply aI);refine ih (m - 1) _ _ ?_ oM;refine ⟨_,_,acc ++ [(bt s (m - 1) - 48).toNat],rfl,by simp,.a _ _ (by simp) (by rw [List.map_append];assumption),oM,oM,oM,by simp;omega,?_⟩;rw [← he];obtain ⟨m,rfl⟩:∃ n,m=n+1:=⟨m - 1,oM⟩;rw [D5,if_pos oM];rfl))
   have em:m=0:=oM;subst em;rw [show D5 s 0 0 acc=acc by simp [D5]] at he;rw [e,← he];exact P0 fun eU=>by subst eU;exact ⟨.ret _ _ (.t _ _ (.k (rvB (by rw [← hB,c0l];exact (decide_eq_false (by decide:¬0=1)).trans (decide_eq_false h45).symm)) (.k (.sl _ _ _ _ _ (by simp) aS) .nil))),.nil⟩
 ·have e:a1u s=(false,[]):=by unfold a1u;rw [if_neg];exact fun h=>absurd h.1 ‹_›
  exact s9 ⟨.ret _ _ (by rw [e];(exact z6)),.nil⟩
section
variable {U:C3} {P:K0→List Bx→Prop}
theorem b3t {l:List Nat} {t:u1 Q} {off:Nat} {i:Int} (n:Nat) {K:Q→Om} (ht:A5 1 (l.map dg) t off) (hn:i=n) (hi:n < l.length) (h:∀ x,A7 (dg (l.getD n 0)) x 0→t6 U (K x) P):t6 U (U.fQ (U.tQ t (U.nAdd off (U.iNat i))) K) P:=by
 subst hn;refine d4v (y:=l.getD n 0) ht ?_ h;rw [Int.toNat_natCast,List.getElem?_eq_getElem hi];simp [List.getD,List.getElem?_eq_getElem hi]
end
def spL (R:List Nat→z8):Sp where
 ι:={ l:List Nat // l.length < 90000 }
 A l:=[.sl 1 (l.1.map dg)]
 B _:=[]
 R l:=R l.1
 B' _:=[]
 inj i j vs bs h k _ _:=by
  obtain ⟨_,_,h1,k1,h,k⟩:=h.two k;rw [a0o (h1.sl_inj k1)];exact ⟨rfl,rfl⟩
theorem d3x:v8 205 (spL fun l=>.ret (.sl 1 ((H7 l).map dg))):=A8 (fun fn h=>d1z h) [] .nil fun U fn hfn ⟨l,hs⟩ vs bs hv hb=>by
 have hv:z7 [.sl 1 (l.map dg)] vs:=hv;have hb:u0 [] bs:=hb;show t6 U _ fun v bs'=>A3 (.ret (.sl 1 ((H7 l).map dg))) v∧u0 [] bs';unfold e3l;refine Zx ?_;intros;refine I7 (fun (m:Nat) vs bs=>∃ (t:u1 Q) (off:Nat),vs=[.slice t 1 off l.length .no,.int .i64 m]∧bs=[]∧A5 1 (l.map dg) t off∧m≤l.length∧W2 l m=W2 l l.length) (fun m=>m) l.length ⟨_,_,rfl,rfl,aS,oM,rfl⟩ (by simp only [E3];omega) ?_;rintro self m _ _ ⟨t,off,rfl,rfl,ht,hm,he⟩ ih;(refine Zx ?_;with_reducible repeat' first|intro _|apply aI)
 ·refine b3t (m - 1) aS oM oM fun _ _=>?_;(refine Zx ?_;with_reducible repeat' first|intro _|apply aI)
  ·refine ih (m - 1) _ _ ⟨_,_,by rw [show ((m - 1:Nat):Int)=(m:Int) - 1 by omega],rfl,ht,oM,?_⟩ oM;have h0:=‹((l.getD (m - 1) 0:Nat):Int)=0›;obtain ⟨m,rfl⟩:∃ n,m=n+1:=⟨m - 1,oM⟩;rw [← he,W2,if_pos (by simpa using h0)];rfl
  ·have h0:=‹¬((l.getD (m - 1) 0:Nat):Int)=0›;have e:H7 l=l.take m:=by
    obtain ⟨m,rfl⟩:∃ n,m=n+1:=⟨m - 1,oM⟩;unfold H7;rw [← he,W2,if_neg (by simpa using h0)]
   rw [e,List.map_take];exact s9 ⟨.ret _ _ (.sl _ _ _ _ _ (by simp;omega) (ht.take m)),.nil⟩
 ·have em:m=0:=oM;subst em;have e:H7 l=l.take 0:=by unfold H7;rw [← he];rfl
  rw [e,List.map_take];exact s9 ⟨.ret _ _ (.sl _ _ _ _ _ (by simp) (ht.take 0)),.nil⟩
theorem b8s {l:List Nat} {i:Nat} (h:i < l.length):l[i]=l.getD i 0:=by simp [List.getD,List.getElem?_eq_getElem h]
theorem D9.at {l:List Nat} (h:D9 l) (i:Nat):l.getD i 0≤9:=by
 by_cases hi:i < l.length
 ·rw [← b8s hi];exact h _ (List.getElem_mem _)
 ·simp [List.getD,List.getElem?_eq_none (Nat.le_of_not_lt hi)]
def g00 (ok:List Nat→List Nat→Prop) (R:List Nat→List Nat→z8):Sp where
 ι:={ p:List Nat × List Nat // p.1.length < 90000∧p.2.length < 90000∧ok p.1 p.2 }
 A p:=[.sl 1 (p.1.1.map dg),.sl 1 (p.1.2.map dg)]
 B _:=[]
 R p:=R p.1.1 p.1.2
 B' _:=[]
 inj i j vs bs h k _ _:=by
  obtain ⟨_,_,h1,k1,h,k⟩:=h.two k;obtain ⟨_,_,h2,k2,h,k⟩:=h.two k;rw [a0o (h1.sl_inj k1),a0o (h2.sl_inj k2)];exact ⟨rfl,rfl⟩
theorem f4y:v8 206 (g00 (fun _ _=>True) fun a b=>.ret (.c (.i .i64 (N1 a b)))):=A8 (fun fn h=>d10 h) [] .nil fun U fn hfn ⟨(a,b),ha,hbl,_⟩ vs bs hv hb=>by
 have ha:a.length < 90000:=ha;have hbl:b.length < 90000:=hbl;have hv:z7 [.sl 1 (a.map dg),.sl 1 (b.map dg)] vs:=hv;have hb:u0 [] bs:=hb;show t6 U _ fun v bs'=>A3 (.ret (.c (.i .i64 (N1 a b)))) v∧u0 [] bs';unfold e3m;(refine Zx ?_;with_reducible repeat' first|intro _|apply aI)
 ·have hl:a.length=b.length:=oM;have e:N1 a b=J1 a b a.length:=by unfold N1;rw [if_pos hl]
  rw [e];refine I7 (fun (m:Nat) vs bs=>∃ (t:u1 Q) (off:Nat) (t':u1 Q) (off':Nat) (i:Int),vs=[.slice t 1 off a.length .no,.slice t' 1 off' b.length .no,.int .i64 i]∧bs=[]∧i=m - 1∧A5 1 (a.map dg) t off∧A5 1 (b.map dg) t' off'∧m≤a.length∧J1 a b m=J1 a b a.length) (fun m=>m) a.length ⟨_,_,_,_,_,rfl,rfl,rfl,aS,aS,oM,rfl⟩ (by simp only [E3];omega) ?_;rintro self m _ _ ⟨t,off,t',off',i,rfl,rfl,rfl,ht,ht',hm,he⟩ ih;(refine Zx ?_;with_reducible repeat' first|intro _|apply aI)
  ·refine b3t (m - 1) aS oM oM fun _ _=>?_;refine Zx ?_;intros;refine b3t (m - 1) aS oM oM fun _ _=>?_;(refine Zx ?_;with_reducible repeat' first|intro _|apply aI)
   ·obtain ⟨m,rfl⟩:∃ n,m=n+1:=⟨m - 1,oM⟩;exact s9 ⟨.ret _ _ (rvI (by rw [← he,J1,if_pos (by simp only [Nat.add_sub_cancel] at *;omega)])),.nil⟩
   ·refine b3t (m - 1) aS oM oM fun _ _=>?_;refine Zx ?_;intros;refine b3t (m - 1) aS oM oM fun _ _=>?_;(refine Zx ?_;with_reducible repeat' first|intro _|apply aI)
    ·obtain ⟨m,rfl⟩:∃ n,m=n+1:=⟨m - 1,oM⟩;exact s9 ⟨.ret _ _ (rvI (by rw [← he,J1,if_neg (by simp only [Nat.add_sub_cancel] at *;omega),if_pos (by simp only [Nat.add_sub_cancel] at *;omega)])),.nil⟩
    ·refine ih (m - 1) _ _ ?_ oM;obtain ⟨m,rfl⟩:∃ n,m=n+1:=⟨m - 1,oM⟩;exact ⟨_,_,_,_,_,rfl,rfl,oM,ht,ht',oM,by rw [← he,Nat.add_sub_cancel];conv=>rhs;rw [J1,if_neg (by simp only [Nat.add_sub_cancel] at *;omega),if_neg (by simp only [Nat.add_sub_cancel] at *;omega)]⟩
  ·have em:m=0:=oM;subst em;exact s9 ⟨.ret _ _ (rvI (by rw [← he];rfl)),.nil⟩
 ·exact s9 ⟨.ret _ _ (rvI (by unfold N1;rw [if_neg oM,if_pos oM])),.nil⟩
 ·exact s9 ⟨.ret _ _ (rvI (by unfold N1;rw [if_neg oM,if_neg oM])),.nil⟩
theorem a5l {acc:List Nat} {n:Int} {d:Nat} (h:n=d):acc.map dg ++ [[.i .i64 n]]=(acc ++ [d]).map dg:=by subst h;simp [dg]
theorem f4w:v8 207 (g00 (fun a b=>D9 a∧D9 b) fun a b=>.ret (.sl 1 ((c1v a b).map dg))):=A8 (fun fn h=>d11 h) [(205,_)] (.cons d3x .nil) fun U fn hfn ⟨(a,b),ha,hbl,h9a,h9b⟩ vs bs hv hb=>by
 have ha:a.length < 90000:=ha;have hbl:b.length < 90000:=hbl;have hv:z7 [.sl 1 (a.map dg),.sl 1 (b.map dg)] vs:=hv;have hb:u0 [] bs:=hb;show t6 U _ fun v bs'=>A3 (.ret (.sl 1 ((c1v a b).map dg))) v∧u0 [] bs';unfold e3n;refine Zx ?_;intros;refine I7 (fun (i:Nat) vs bs=>∃ (t:u1 Q) (off:Nat) (t':u1 Q) (off':Nat) (bor:Nat) (v:V) (acc:List Nat),vs=[.slice t 1 off a.length .no,.slice t' 1 off' b.length .no,.int .i64 bor,.int .i64 i,v]∧bs=[.tok acc.length 1]∧S4 0 1 (acc.map dg) v∧acc.length=i∧bor≤1 ∧
  A5 1 (a.map dg) t off∧A5 1 (b.map dg) t' off'∧i≤a.length∧S3 a b i bor acc=S3 a b 0 0 []) (fun i=>a.length - i) 0 ⟨_,_,_,_,0,_,[],rfl,rfl,.b rfl,rfl,oM,aS,aS,oM,rfl⟩ (by simp only [E3];omega) ?_
 rintro self i _ _ ⟨t,off,t',off',bor,v,acc,rfl,rfl,hv',hac,hbor,ht,ht',hi,he⟩ ih;(refine Zx ?_;with_reducible repeat' first|intro _|apply aI)
 ·have q1:a[i]≤9:=h9a _ (List.getElem_mem _);have e1:=b8s (l:=a) (i:=i) oM;(refine Zx ?_;with_reducible repeat' first|intro _|apply aI)
  ·have q2:b[i]≤9:=h9b _ (List.getElem_mem _);have e2:=b8s (l:=b) (i:=i) oM;have hsd:M6 a b i bor=(a[i]:Int) - bor - b[i]:=by unfold M6;rw [if_pos oM,← e1,← e2]
   (refine Zx ?_;with_reducible repeat' first|intro _|apply aI)
   all_goals
    refine S7 aS (fun _=>L0 (by first | exact .i _ _ | exact .s _ _ _ rfl rfl | assumption)) (by rfl) (by simp) (by simp only [List.length_map];omega) fun _ _=>?_;(refine Zx ?_;with_reducible repeat' first|intro _|apply aI)
   ·refine ih (i+1) _ _ ?_ oM;exact ⟨_,_,_,_,1,_,acc ++ [(M6 a b i bor+10).toNat],rfl,by simp,.a _ _ (by simp) (by have hq:=‹A5 1 (acc.map dg ++ [_]) _ 0›;rw [a5l (d:=(M6 a b i bor+10).toNat) oM] at hq;exact hq),by simp;omega,oM,aS,aS,oM,by rw [← he];conv=>rhs;rw [S3,if_pos oM,if_pos oM]⟩
   ·refine ih (i+1) _ _ ?_ oM;exact ⟨_,_,_,_,0,_,acc ++ [(M6 a b i bor).toNat],rfl,by simp,.a _ _ (by simp) (by have hq:=‹A5 1 (acc.map dg ++ [_]) _ 0›;rw [a5l (d:=(M6 a b i bor).toNat) oM] at hq;exact hq),by simp;omega,oM,aS,aS,oM,by rw [← he];conv=>rhs;rw [S3,if_pos oM,if_neg oM]⟩
  ·have hsd:M6 a b i bor=(a[i]:Int) - bor:=by unfold M6;rw [if_neg oM,← e1];omega
   refine S7 aS (fun _=>L0 (by first | exact .i _ _ | exact .s _ _ _ rfl rfl | assumption)) (by rfl) (by simp) (by simp only [List.length_map];omega) fun _ _=>?_;refine Zx ?_;intros;refine ih (i+1) _ _ ?_ oM;exact ⟨_,_,_,_,1,_,acc ++ [(M6 a b i bor+10).toNat],rfl,by simp,.a _ _ (by simp) (by have hq:=‹A5 1 (acc.map dg ++ [_]) _ 0›;rw [a5l (d:=(M6 a b i bor+10).toNat) oM] at hq;exact hq),by simp;omega,oM,aS,aS,oM,by rw [← he];conv=>rhs;rw [S3,if_pos oM,if_pos oM]⟩
  ·have hsd:M6 a b i bor=(a[i]:Int) - bor:=by unfold M6;rw [if_neg oM,← e1];omega
   refine S7 aS (fun _=>L0 (by first | exact .i _ _ | exact .s _ _ _ rfl rfl | assumption)) (by rfl) (by simp) (by simp only [List.length_map];omega) fun _ _=>?_;refine Zx ?_;intros;refine ih (i+1) _ _ ?_ oM;exact ⟨_,_,_,_,0,_,acc ++ [(M6 a b i bor).toNat],rfl,by simp,.a _ _ (by simp) (by have hq:=‹A5 1 (acc.map dg ++ [_]) _ 0›;rw [a5l (d:=(M6 a b i bor).toNat) oM] at hq;exact hq),by simp;omega,oM,aS,aS,oM,by rw [← he];conv=>rhs;rw [S3,if_pos oM,if_neg oM]⟩
 ·have e:acc=S3 a b 0 0 []:=by rw [← he,S3,if_neg oM]
  refine s6 (hfn 205 _ rfl) ⟨acc,oM⟩ (r:=.sl 1 ((H7 acc).map dg)) rfl (.k (.sl _ _ _ _ _ (by simp) aS) .nil) .nil fun _ _ _ _=>?_;refine Zx ?_;intros;exact s9 ⟨.ret _ _ (by unfold c1v;rw [← e];exact .sl _ _ _ _ _ (by simp) aS),.nil⟩
theorem c0x {l:List Nat} {i:Nat} (h:i < l.length):l.getD i 0=l[i]:=(b8s h).symm
def db (d:Nat):UInt8:=UInt8.ofNat (48+d)
theorem d6l {d:Nat} (h:d≤9):(db d).toNat=48+d:=by unfold db;rw [UInt8.toNat_ofNat'];omega
theorem c8v {l:List Nat} {m:Nat} (h:m < l.length):(l.take (m+1)).reverse.map db=db (l.getD m 0) :: (l.take m).reverse.map db:=by
 rw [List.take_add_one,List.getElem?_eq_getElem h,c0x h];simp only [Option.toList_some,List.reverse_append,List.reverse_cons,List.reverse_nil,List.nil_append,List.map_cons,List.cons_append]
theorem b9u {n:Nat} (h:n ≠ 0):s8 n=(t8 n).reverse.map db:=by unfold s8;rw [if_neg h];rfl
theorem b82 {acc:u5} {n:Int} {d:UInt8} (h:n=d.toNat):acc.map bg ++ [[.i .u8 n]]=(acc ++ [d]).map bg:=by subst h;simp [bg]
def L1 (neg:Bool) (n:Nat):u5:=if n=0 then E9 else if neg then [45] ++ s8 n else s8 n
theorem f1l (n:Int):L1 (decide (n < 0)) n.natAbs=s4 n:=by
 unfold L1 s4;by_cases h:n < 0
 ·rw [if_neg oM,if_pos h];simp [h]
 ·rw [if_neg h];by_cases h0:n.natAbs=0
  ·rw [if_pos h0,h0];rfl
  ·rw [if_neg h0];simp [h]
def g05:Sp where
 ι:={ p:Bool × List Nat // p.2.length < 90000∧D9 p.2 }
 A p:=[.c (.b p.1.1),.sl 1 (p.1.2.map dg)]
 B _:=[]
 R p:=.ret (.c (.s (L1 p.1.1 (val p.1.2))))
 B' _:=[]
 inj i j vs bs h k _ _:=by
  obtain ⟨_,_,h1,k1,h,k⟩:=h.two k;obtain ⟨_,_,h2,k2,h,k⟩:=h.two k;rw [b7w h1 k1,a0o (h2.sl_inj k2)];exact ⟨rfl,rfl⟩
theorem e5q:v8 140 g05:=A8 (fun fn h=>d1x h) [(205,_)] (.cons d3x .nil) fun U fn hfn ⟨(neg,l),hl,h9⟩ vs bs hv hb=>by
 have hl:l.length < 90000:=hl;have hv:z7 [.c (.b neg),.sl 1 (l.map dg)] vs:=hv;have hb:u0 [] bs:=hb;show t6 U _ fun v bs'=>A3 (.ret (.c (.s (L1 neg (val l))))) v∧u0 [] bs';have et:H7 l=t8 (val l):=a5v l h9;have htl:(t8 (val l)).length < 90000:=by rw [← et];unfold H7;simp;omega
 have h9:=G3 (val l);generalize val l=n at *;generalize hd:t8 n=d at *;unfold e3j;refine Zx ?_;intros;refine s6 (hfn 205 _ rfl) ⟨l,oM⟩ (r:=.sl 1 (d.map dg)) (by rw [← et];rfl) z6 .nil fun _ _ _ _=>?_;(refine Zx ?_;with_reducible repeat' first|intro _|apply aI)
 ·have e0:d=[]:=List.length_eq_zero_iff.1 oM;have en:n=0:=by rw [← G1 n,hd,e0];rfl
  exact s9 ⟨.ret _ _ (.s _ _ _ (by rw [en];rfl) (by rw [en];rfl)),.nil⟩
 all_goals
  have en:n ≠ 0:=fun e=>by rw [e,C7] at hd;subst hd;simp at *
 ·have ht:neg=true:=‹_›;have es:L1 neg n=[45] ++ d.reverse.map db:=by unfold L1;rw [if_neg en,if_pos ht,b9u en,hd]
  refine S7 (A5.nil 1 .nil 0) (fun _=>L0 (.i _ _)) rfl rfl dE fun _ _=>?_;refine Zx ?_;intros
  (have hA:([45]:u5).length≤1:=(by simp);refine I7 (fun (m:Nat) vs bs=>∃ (t:u1 Q) (off:Nat) (v:V) (acc:u5) (i:Int),vs=[.slice t 1 off d.length .no,v,.int .i64 i]∧bs=[.tok acc.length 1]∧S4 0 1 (acc.map bg) v∧i=m - 1∧A5 1 (d.map dg) t off∧m≤d.length∧acc.length+m=([45]:u5).length+d.length∧acc ++ (d.take m).reverse.map db=([45]:u5) ++ d.reverse.map db) (fun m=>m) d.length ⟨_,_,_,[45],_,rfl,rfl,?_,rfl,aS,oM,rfl,by simp⟩ (by simp only [E3];omega) ?_;rotate_left;(rintro self m _ _ ⟨t,off,v,acc,i,rfl,rfl,hv',rfl,ht,hm,ha,he⟩ ih;(refine Zx ?_;with_reducible repeat' first|intro _|apply aI);(refine b3t (m - 1) aS oM oM fun _ _=>?_;have q9:=D9.at h9 (m - 1);(refine Zx ?_;with_reducible repeat' first|intro _|apply aI);refine e56 rfl oM ?_;(refine Zx ?_;with_reducible repeat' first|intro _|apply aI);refine S7 aS (fun _=>L0 (by first | exact .i _ _ | exact .s _ _ _ rfl rfl | assumption)) (by rfl) (by simp) (by simp only [List.length_map];omega) fun _ _=>?_;(refine Zx ?_;with_reducible repeat' first|intro _|apply aI);refine ih (m - 1) _ _ ?_ oM;refine ⟨_,_,_,acc ++ [db (d.getD (m - 1) 0)],_,rfl,by simp,.a _ _ (by simp) ?_,oM,aS,oM,by simp at *;omega,?_⟩;(have hq:=‹A5 1 (acc.map bg ++ [_]) _ 0›;rw [b82 (d:=db (d.getD (m - 1) 0)) (by rw [d6l q9];omega)] at hq;exact hq);(obtain ⟨m,rfl⟩:∃ n,m=n+1:=⟨m - 1,oM⟩;exact (by rw [← he,c8v (m:=m) oM] <;> simp)));(have em:m=0:=oM;subst em;simp only [List.take_zero,List.reverse_nil,List.map_nil,List.append_nil] at he;subst he;refine sBT (ys:=_) aS (by simp) ?_;exact s9 ⟨.ret _ _ (.s _ _ _ (by rw [es] <;> rfl) (by rw [es] <;> rfl)),.nil⟩)))
  ·exact .a _ _ rfl aS
 ·have ht:neg=false:=by simpa using ‹¬neg=true›
  have es:L1 neg n=[] ++ d.reverse.map db:=by unfold L1;rw [if_neg en,if_neg (by simp [ht]),b9u en,hd];rfl
  (have hA:([]:u5).length≤1:=(by simp);refine I7 (fun (m:Nat) vs bs=>∃ (t:u1 Q) (off:Nat) (v:V) (acc:u5) (i:Int),vs=[.slice t 1 off d.length .no,v,.int .i64 i]∧bs=[.tok acc.length 1]∧S4 0 1 (acc.map bg) v∧i=m - 1∧A5 1 (d.map dg) t off∧m≤d.length∧acc.length+m=([]:u5).length+d.length∧acc ++ (d.take m).reverse.map db=([]:u5) ++ d.reverse.map db) (fun m=>m) d.length ⟨_,_,_,[],_,rfl,rfl,?_,rfl,aS,oM,rfl,by simp⟩ (by simp only [E3];omega) ?_;rotate_left;(rintro self m _ _ ⟨t,off,v,acc,i,rfl,rfl,hv',rfl,ht,hm,ha,he⟩ ih;(refine Zx ?_;with_reducible repeat' first|intro _|apply aI);(refine b3t (m - 1) aS oM oM fun _ _=>?_;have q9:=D9.at h9 (m - 1);(refine Zx ?_;with_reducible repeat' first|intro _|apply aI);refine e56 rfl oM ?_;(refine Zx ?_;with_reducible repeat' first|intro _|apply aI);refine S7 aS (fun _=>L0 (by first | exact .i _ _ | exact .s _ _ _ rfl rfl | assumption)) (by rfl) (by simp) (by simp only [List.length_map];omega) fun _ _=>?_;(refine Zx ?_;with_reducible repeat' first|intro _|apply aI);refine ih (m - 1) _ _ ?_ oM;refine ⟨_,_,_,acc ++ [db (d.getD (m - 1) 0)],_,rfl,by simp,.a _ _ (by simp) ?_,oM,aS,oM,by simp at *;omega,?_⟩;(have hq:=‹A5 1 (acc.map bg ++ [_]) _ 0›;rw [b82 (d:=db (d.getD (m - 1) 0)) (by rw [d6l q9];omega)] at hq;exact hq);(obtain ⟨m,rfl⟩:∃ n,m=n+1:=⟨m - 1,oM⟩;exact (by rw [← he,c8v (m:=m) oM] <;> simp)));(have em:m=0:=oM;subst em;simp only [List.take_zero,List.reverse_nil,List.map_nil,List.append_nil] at he;subst he;refine sBT (ys:=_) aS (by simp) ?_;exact s9 ⟨.ret _ _ (.s _ _ _ (by rw [es] <;> rfl) (by rw [es] <;> rfl)),.nil⟩)))
  ·exact .a _ _ rfl (.nil _ _ _)
theorem b5i (s:u5) (e:Nat):∀ (k:Nat) (acc:List Nat),(D5 s e k acc).length≤acc.length+k
 | 0,acc=>by simp [D5]
 | k+1,acc=>by
  rw [D5];split
  ·have:=b5i s e k (acc ++ [(bt s k - 48).toNat]);simp at this;omega
  ·omega
theorem D8 {a b:Nat} (h:a≤b):(t8 a).length≤(t8 b).length:=by
 by_cases ha:a=0
 ·rw [ha,C7];simp
 ·have h1:=a9i a ha;have h2:=a1n (t8 b) (G3 b);rw [G1] at h2;have h3:10 ^ ((t8 a).length - 1) < 10 ^ (t8 b).length:=oM;have h4:=(Nat.pow_lt_pow_iff_right (by omega:1 < 10)).1 h3;omega
theorem a1v (s:u5):(t8 (s3 s).natAbs).length≤s.length:=by
 have h:=c0n s;have:(a1u s).2=t8 (s3 s).natAbs:=by rw [h]
 rw [← this];unfold a1u;split
 ·have:=b5i s (u6 s) s.length [];simpa using this
 ·simp
theorem g9p (n j:Nat):(List.replicate n 0).getD j 0=0:=by
 by_cases h:j < n
 ·rw [c0x (by simpa using h)];simp
 ·simp [List.getD,List.getElem?_replicate,h]
theorem e1j {l:List Nat} {k:Nat} (v:Nat) (h:k < l.length):(l.set k v).drop k=v :: l.drop (k+1):=by
 rw [List.drop_eq_getElem_cons (by simpa using h),List.getElem_set_self,List.drop_set_of_lt oM]
theorem e33 {l:List Nat} {k v:Nat} (h:l.getD k 0=v):l.set k v=l:=by
 by_cases hk:k < l.length
 ·rw [c0x hk] at h;subst h;exact List.set_getElem_self hk
 ·exact List.set_eq_of_length_le oM
theorem f2k {l:List Nat} (h:D9 l) (k:Nat) {v:Nat} (hv:v≤9):D9 (l.set k v):=fun d hd=>by
 rcases List.mem_or_eq_of_mem_set hd with h1 | h1
 ·exact h d h1
 ·omega
theorem b5o {l:List Nat} {k j v:Nat} (h:j ≠ k):(l.set k v).getD j 0=l.getD j 0:=by
 simp only [List.getD,List.getElem?_set_ne (Ne.symm h)]
theorem d7f (l:List Nat) (k v:Nat) {n:Int} (h:n=v):(l.map dg).set k [.i .i64 n]=(l.set k v).map dg:=by subst h;rw [List.map_set];rfl
def g03:Sp where
 ι:={ p:Nat × Nat // (t8 p.1).length < 80000∧(t8 p.2).length < 80000∧0 < p.2 }
 A p:=[.sl 1 ((t8 p.1.1).map dg),.sl 1 ((t8 p.1.2).map dg)]
 B _:=[]
 R p:=.ret (.t [.sl 1 ((t8 (p.1.1 / p.1.2)).map dg),.sl 1 ((t8 (p.1.1 % p.1.2)).map dg)])
 B' _:=[]
 inj i j vs bs h k _ _:=by
  obtain ⟨_,_,h1,k1,h,k⟩:=h.two k;obtain ⟨_,_,h2,k2,h,k⟩:=h.two k;have e1:=congrArg val (a0o (h1.sl_inj k1));have e2:=congrArg val (a0o (h2.sl_inj k2));rw [G1,G1] at e1 e2;rw [e1,e2];exact ⟨rfl,rfl⟩
theorem e5n:v8 139 g03:=A8 (fun fn h=>d1w h) [(205,_),(206,_),(207,_)] (.cons d3x (.cons f4y (.cons f4w .nil))) fun U fn hfn ⟨(x,y),hx,hy,hp⟩ vs bs hv hb=>by
 have hr:=hfn 205 _ rfl;have hx:(t8 x).length < 80000:=hx;have hy:(t8 y).length < 80000:=hy;have hp:0 < y:=hp;have hv:z7 [.sl 1 ((t8 x).map dg),.sl 1 ((t8 y).map dg)] vs:=hv;have hb:u0 [] bs:=hb;show t6 U _ fun v bs'=>A3 (.ret (.t [.sl 1 ((t8 (x / y)).map dg),.sl 1 ((t8 (x % y)).map dg)])) v∧u0 [] bs';unfold e3i;refine Zx ?_;intros;refine sZT (fun _=>L0 (.i _ _)) rfl (by simp;omega) fun t0 ht0=>?_;have ht0:A5 1 ((List.replicate (t8 x).length 0).map dg) t0 0:=by have:=ht0;simpa [dg] using this
 have h9x:=G3 x;have h9y:=G3 y;refine Zx ?_;intros;refine I7 (fun (m:Nat) vs bs=>∃ (t:u1 Q) (off:Nat) (t':u1 Q) (off':Nat) (v:V) (i:Int) (tq:u1 Q) (qs:List Nat),vs=[.slice t 1 off (t8 x).length .no,.slice t' 1 off' (t8 y).length .no,.bslice 0 (t8 x).length,v,.int .i64 i]∧bs=[.row tq (t8 x).length]∧i=m - 1∧m≤(t8 x).length∧A5 1 ((t8 x).map dg) t off∧A5 1 ((t8 y).map dg) t' off' ∧
  RV (.sl 1 ((t8 (val ((t8 x).drop m) % y)).map dg)) v∧A5 1 (qs.map dg) tq 0∧qs.length=(t8 x).length∧D9 qs∧(∀ j,j < m→qs.getD j 0=0)∧val (qs.drop m)=val ((t8 x).drop m) / y) (fun m=>m) (t8 x).length
  ⟨_,_,_,_,_,_,_,_,rfl,by simp,rfl,oM,aS,aS,by rw [List.drop_length];simp only [val,Nat.zero_mod,C7];exact .sl0 _ _ _,ht0,by simp,by intro d hd;simp at hd;omega,fun j _=>g9p _ j,by simp [val]⟩ (by simp only [E3];omega) ?_
 rintro self m _ _ ⟨t,off,t',off',v,i,tq,qs,rfl,rfl,rfl,hm,ht,ht',hv',hq,hql,hq9,hq0,hqv⟩ ih;have hrl:(t8 (val ((t8 x).drop m) % y)).length≤(t8 y).length:=D8 (Nat.le_of_lt (Nat.mod_lt _ hp));(refine Zx ?_;with_reducible repeat' first|intro _|apply aI)
 ·refine b3t (m - 1) aS oM oM fun _ _=>?_;have hd9:=D9.at h9x (m - 1);have hdr:=d6n x (m - 1) oM;rw [show m - 1+1=m by omega] at hdr;generalize hX:val ((t8 x).drop m)=X at *;generalize hdd:(t8 x).getD (m - 1) 0=d at *;have hml:=Nat.mod_lt X hp;refine Zx ?_;intros;refine sAT (xs:=[dg d]) (ys:=(t8 (X % y)).map dg) (n:=1) (.cons _ _ _ _ _ rfl (L0 aS).1 (L0 aS).2 (.nil _ _ _)) aS rfl (by simp) (by simp;omega) fun _ _=>?_;refine Zx ?_;intros;have htr:=c0p d (X % y) hd9;refine s6 hr ⟨d :: t8 (X % y),by simp;omega⟩ (r:=.sl 1 ((t8 (d+10 * (X % y))).map dg)) (by rw [← htr];rfl) (.k (.sl _ _ _ _ _ (by simp;omega) aS) .nil) .nil fun _ _ _ _=>?_;generalize hR:d+10 * (X % y)=R at *;refine Zx ?_;intros;have hRl:(t8 R).length < 90000:=by rw [← htr];unfold H7;simp;omega
  have hRy:R < 10 * y:=oM;refine I7 (fun (c:Nat) vs bs=>∃ (t:u1 Q) (off:Nat) (t':u1 Q) (off':Nat) (v:V) (i:Int) (tq:u1 Q),vs=[.slice t 1 off (t8 x).length .no,.slice t' 1 off' (t8 y).length .no,.bslice 0 (t8 x).length,v,.int .i64 i]∧bs=[.row tq (t8 x).length]∧i=m - 1∧A5 1 ((t8 x).map dg) t off∧A5 1 ((t8 y).map dg) t' off' ∧
   RV (.sl 1 ((t8 (R - c * y)).map dg)) v∧A5 1 ((qs.set (m - 1) c).map dg) tq 0∧c * y≤R) (fun c=>10 - c) 0
   ⟨_,_,_,_,_,_,_,rfl,rfl,rfl,aS,aS,by rw [Nat.zero_mul,Nat.sub_zero];exact .sl _ _ _ _ _ (by simp) aS,by rw [show qs.set (m - 1) 0=qs from e33 (hq0 _ oM)];exact hq,oM⟩ (by simp only [E3];omega) ?_
  rintro self2 c _ _ ⟨t,off,t',off',v,i,tq,rfl,rfl,rfl,ht,ht',hv',hq,hc⟩ ih2;have hc9:c≤9:=by
   have:c * y < 10 * y:=oM;have:=Nat.lt_of_mul_lt_mul_right this;omega
  have hcl:(t8 (R - c * y)).length < 90000:=by have:=D8 (Nat.sub_le R (c * y));omega
  refine Zx ?_;intros;refine s6 (hfn 206 _ rfl) ⟨(t8 (R - c * y),t8 y),hcl,show (t8 y).length < 90000 by omega,trivial⟩ (r:=.c (.i .i64 (N1 (t8 (R - c * y)) (t8 y)))) rfl z6 .nil fun _ _ _ _=>?_;have hord:=d7u (R - c * y) y;generalize N1 (t8 (R - c * y)) (t8 y)=o at *;(refine Zx ?_;with_reducible repeat' first|intro _|apply aI)
  ·have hge:y≤R - c * y:=by
    by_cases h:R - c * y < y
    ·rw [if_pos h] at hord;omega
    ·omega
   have hmul:(c+1) * y=c * y+y:=by rw [Nat.add_mul,Nat.one_mul]
   have hsub:c1v (t8 (R - c * y)) (t8 y)=t8 (R - (c+1) * y):=by rw [d9w _ _ hge];congr 1;omega
   refine s6 (hfn 207 _ rfl) ⟨(t8 (R - c * y),t8 y),hcl,show (t8 y).length < 90000 by omega,G3 _,G3 _⟩ (r:=.sl 1 ((t8 (R - (c+1) * y)).map dg)) (by rw [← hsub];rfl) z6 .nil fun _ _ _ _=>?_;refine Zx ?_;intros;have hk:((m:Int) - 1).toNat * 1=m - 1:=oM;rw [hk];refine g0p (g:=.i .i64 (c:Int)) hq (by rw [List.getElem?_map,List.getElem?_set_self oM];rfl) fun _ _=>?_;refine Zx ?_;intros;rw [hk];refine b1h hq (fun _=>L0 (.i _ _)) rfl (by simp;omega) oM fun _ hq2=>?_;rw [d7f (n:=(c:Int)+1) _ _ (c+1) oM,List.set_set] at hq2;exact ih2 (c+1) _ _ ⟨_,_,_,_,_,_,_,rfl,rfl,rfl,ht,ht',.sl _ _ _ _ _ (by simp) aS,hq2,oM⟩ oM
  ·have hlt:R - c * y < y:=by
    by_cases h:R - c * y < y
    ·exact h
    ·rw [if_neg h] at hord;split at hord <;> omega
   obtain ⟨o1,o2⟩:=d4l R c y hp hc hlt;obtain ⟨s1,s2⟩:=d7v X d y hp;have hdv:val ((t8 x).drop (m - 1))=d+10 * X:=hdr;refine ih (m - 1) _ _ ⟨_,_,_,_,_,_,_,_,rfl,rfl,oM,oM,ht,ht',?_,hq,by simp;omega,f2k hq9 _ hc9,fun j hj=>by rw [b5o oM];exact hq0 j oM,?_⟩ oM
   ·rw [hdv,s2,hR,o2];exact .sl _ _ _ _ _ (by simp) aS
   ·rw [e1j c oM,val,show m - 1+1=m by omega,hqv,hdv,s1,hR,o1]
 ·have em:m=0:=oM;subst em;rw [List.drop_zero,List.drop_zero,G1] at hqv;refine s6 hr ⟨qs,oM⟩ (r:=.sl 1 ((t8 (x / y)).map dg)) (by rw [← hqv,← a5v qs hq9];rfl) (.k (.sl _ _ _ _ _ (by simp;omega) hq) .nil) .nil fun _ _ _ _=>?_;rw [List.drop_zero,G1] at *;refine Zx ?_;intros;exact s9 ⟨.ret _ _ (.t _ _ z6),.nil⟩
end
end Go.Proofs.YtkojildpddaccaaGreatDoor
