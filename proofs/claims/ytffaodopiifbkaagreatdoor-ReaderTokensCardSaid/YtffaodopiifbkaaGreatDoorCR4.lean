/- The reference's numbers: decimal strings. -/
import Derived.Test.YtffaodopiifbkaaGreatDoorCL0
import Derived.Test.YtffaodopiifbkaaGreatDoorCP
set_option linter.all false
namespace Go.Proofs.YtffaodopiifbkaaGreatDoor
open Go.Abs LQ
set_option maxRecDepth 100000
set_option maxHeartbeats 4000000
noncomputable section
def dg (d:Nat):List G:=[.i .i64 (d:Int)]
theorem e6v {a b:Nat} (h:dg a=dg b):a=b:=by simp only [dg,List.cons.injEq,G.i.injEq,and_true,true_and] at h;omega
theorem W9:∀ {l m:List Nat},l.map dg=m.map dg→l=m
 | [],[],_=>rfl
 | [],_ :: _,h=>by simp at h
 | _ :: _,[],h=>by simp at h
 | a :: l,b :: m,h=>by simp only [List.map_cons,List.cons.injEq] at h;exact congr (congrArg List.cons (e6v h.1)) (W9 h.2)
theorem H3 {a b:i7} {v:V} (h:RV (.c (.s a)) v) (k:RV (.c (.s b)) v):a=b:=by have:=h.c_inj k;injection this
theorem c0q {a b:Bool} {v:V} (h:RV (.c (.b a)) v) (k:RV (.c (.b b)) v):a=b:=by have:=h.c_inj k;injection this
theorem M7 {c:IntKind} {a b:Int} {v:V} (h:RV (.c (.i c a)) v) (k:RV (.c (.i c b)) v):a=b:=by have:=h.c_inj k;injection this
theorem a4z {c:Int}:Q2 c=true↔48≤c∧c≤57:=by simp [Q2]
theorem c1q {s:i7} {i:Nat} (h:i < s.length) (h1:¬((s.getD i 0).toNat:Int) < 48) (h2:¬57 < ((s.getD i 0).toNat:Int)):m6 s i=m6 s (i+1):=by
 rw [m6,if_pos h,if_pos (a4z.2 (by unfold bt;omega))]
theorem b5k {s:i7} {i:Nat} (h:i < s.length) (h1:((s.getD i 0).toNat:Int) < 48∨57 < ((s.getD i 0).toNat:Int)):m6 s i=i:=by
 rw [m6,if_pos h,if_neg (mt a4z.1 (by unfold bt;omega))]
theorem b7w {s:i7} {i:Nat} (h:¬i < s.length):m6 s i=i:=by
 rw [m6,if_neg h]
theorem c0k {s:i7} (h:0 < (s.length:Int)) (h2:((s.getD 0 0).toNat:Int)=45):j0 s=1:=by unfold j0;rw [if_pos ⟨by omega,h2⟩]
theorem c7h {s:i7} (h2:¬((s.getD 0 0).toNat:Int)=45):j0 s=0:=by unfold j0;rw [if_neg (fun h=>h2 h.2)]
theorem e6w {s:i7} (h:¬0 < (s.length:Int)):j0 s=0:=by unfold j0;rw [if_neg (fun k=>by omega)]
theorem c9n {s:i7} {k:Nat} (h0:¬s=u7 1 48) (h1:j0 s=k) (h:s.length≤k):C0 s=false:=by
 have h0:¬s=A5:=h0
 simp [C0,h0,h1];omega
theorem d1v {s:i7} {k:Nat} (h0:¬s=u7 1 48) (h1:j0 s=k) (h:((s.getD k 0).toNat:Int)=48):C0 s=false:=by
 have h0:¬s=A5:=h0
 have h:bt s k=48:=h
 simp [C0,h0,h1,h]
theorem d7u {s:i7} {k:Nat} (h0:¬s=u7 1 48) (h1:j0 s=k) (h2:k < s.length) (h:¬((s.getD k 0).toNat:Int)=48):C0 s=decide (m6 s k=s.length):=by
 have h0:¬s=A5:=h0
 have h:¬bt s k=48:=h
 have:k < s.length:=by omega
 simp [C0,h0,h1,h,this]
def sp1 (R:i7→y4):Sp where
 ι:={ s:i7 // s.length < 90000 }
 A s:=[.c (.s s.1)]
 B _:=[]
 R s:=R s.1
 B' _:=[]
 inj i j vs bs h k _ _:=by
  obtain ⟨_,_,h1,k1,h,k⟩:=h.two k
  rw [H3 h1 k1];exact ⟨rfl,rfl⟩
theorem d9h:l5 151 (sp1 fun s=>.ret (.c (.b (C0 s)))):=v7 (fun fn h=>d83 h) [] .nil fun U fn hfn ⟨s,hs⟩ vs bs hv hb=>by
 have hv:l9 [.c (.s s)] vs:=hv
 have hb:RBs [] bs:=hb
 show j3 U _ fun v bs'=>m8 (.ret (.c (.b (C0 s)))) v∧RBs [] bs'
 unfold d2v
 (refine Zx ?_;with_reducible repeat' first|intro _|apply aI)
 all_goals try (exfalso;omega)
 ·exact l6 ⟨.ret _ _ (M6 (by subst_vars;rfl)),.nil⟩
 ·exact l6 ⟨.ret _ _ (M6 (c9n (k:=1) ‹_› (c0k ‹_› ‹_›) (by omega))),.nil⟩
 ·exact l6 ⟨.ret _ _ (M6 (d1v (k:=1) ‹_› (c0k ‹_› ‹_›) ‹_›)),.nil⟩
 ·have hd:=d7u (k:=1) ‹_› (c0k ‹_› ‹_›) (by omega) ‹_›
  (refine F8 (fun (i:Nat) vs bs=>vs=[.str s.length (n6 s),.int .i64 i]∧bs=[]∧i≤s.length∧m6 s i=m6 s 1) (fun i=>s.length - i) 1 ⟨rfl,rfl,by omega,rfl⟩ (by simp only [B8];omega) ?_;rintro self i vs bs ⟨rfl,rfl,hi,he⟩ ih;(refine Zx ?_;with_reducible repeat' first|intro _|apply aI);all_goals first | exact ih (i+1) _ _ ⟨rfl,rfl,by omega,by rw [← he,c1q (i:=i) (by omega) ‹_› ‹_›]⟩ (by omega) | exact l6 ⟨.ret _ _ (M6 (by rw [hd,← he,b7w (i:=i) (by omega)];exact decide_eq_true (by omega))),.nil⟩ | exact l6 ⟨.ret _ _ (M6 (by rw [hd,← he,b5k (i:=i) (by omega) (by omega)];exact decide_eq_false (by omega))),.nil⟩)
 ·exact l6 ⟨.ret _ _ (M6 (d1v (k:=0) ‹_› (c7h ‹_›) ‹_›)),.nil⟩
 ·have hd:=d7u (k:=0) ‹_› (c7h ‹_›) (by omega) ‹_›
  (refine F8 (fun (i:Nat) vs bs=>vs=[.str s.length (n6 s),.int .i64 i]∧bs=[]∧i≤s.length∧m6 s i=m6 s 0) (fun i=>s.length - i) 0 ⟨rfl,rfl,by omega,rfl⟩ (by simp only [B8];omega) ?_;rintro self i vs bs ⟨rfl,rfl,hi,he⟩ ih;(refine Zx ?_;with_reducible repeat' first|intro _|apply aI);all_goals first | exact ih (i+1) _ _ ⟨rfl,rfl,by omega,by rw [← he,c1q (i:=i) (by omega) ‹_› ‹_›]⟩ (by omega) | exact l6 ⟨.ret _ _ (M6 (by rw [hd,← he,b7w (i:=i) (by omega)];exact decide_eq_true (by omega))),.nil⟩ | exact l6 ⟨.ret _ _ (M6 (by rw [hd,← he,b5k (i:=i) (by omega) (by omega)];exact decide_eq_false (by omega))),.nil⟩)
 ·exact l6 ⟨.ret _ _ (M6 (c9n (k:=0) ‹_› (e6w ‹_›) (by omega))),.nil⟩
theorem c92 {s:i7} (h:C0 s=true) (h0:¬s=A5):∀ j,j0 s≤j→j < s.length→48≤bt s j∧bt s j≤57:=by
 intro j h1 h2
 simp [C0,h0] at h
 exact Y3 s (j0 s) j h1 (by omega)
theorem d4o:l5 124 (sp1 fun s=>.ret (.t [.c (.b (Z2 s).1),.sl 1 ((Z2 s).2.map dg)])):=v7 (fun fn h=>e1i h) [(151,_)] (.cons d9h .nil) fun U fn hfn ⟨s,hs⟩ vs bs hv hb=>by
 have hr:=hfn 151 _ rfl
 have hv:l9 [.c (.s s)] vs:=hv
 have hb:RBs [] bs:=hb
 show j3 U _ fun v bs'=>m8 (.ret (.t [.c (.b (Z2 s).1),.sl 1 ((Z2 s).2.map dg)])) v∧RBs [] bs'
 unfold d3r
 (refine Zx ?_;with_reducible repeat' first|intro _|apply aI)
 refine j4 hr ⟨s,hs⟩ (r:=.c (.b (C0 s))) rfl j9 .nil fun _ _ _ _=>?_
 (refine Zx ?_;with_reducible repeat' first|intro _|apply aI)
 ·have e:Z2 s=(false,[]):=by unfold Z2;rw [if_neg];exact fun h=>h.2 ‹s=u7 1 48›
  exact l6 ⟨.ret _ _ (by rw [e];(exact j9)),.nil⟩
 ·have h1:=‹C0 s=true›
  have h2:¬s=A5:=‹_›
  have hd:=c92 h1 h2
  have hpos:j0 s < s.length:=by simp [C0,h2] at h1;omega
  have e:Z2 s=(decide (j0 s=1),y9 s (j0 s) s.length []):=by unfold Z2;rw [if_pos ⟨h1,h2⟩]
  (refine Zx ?_;with_reducible repeat' first|intro _|apply aI)
  ·have es:=c0k (s:=s) (by omega) ‹_›
   have h45:=‹((s.getD 0 0).toNat:Int)=45›
   rw [es] at hd e
   generalize hB:U.iEq _ _=B
   (refine F8 (fun (m:Nat) vs bs=>∃ (i:Int) (v:V) (acc:List Nat),vs=[.str s.length (n6 s),.bool B,.int .i64 1,.int .i64 i,v]∧bs=[.tok acc.length 1]∧Z4 0 1 (acc.map dg) v∧i=m - 1∧1≤m∧m≤s.length∧acc.length+m=s.length∧y9 s 1 m acc=y9 s 1 s.length []) (fun m=>m) s.length ⟨_,_,[],rfl,rfl,.b rfl,rfl,by omega,by omega,by simp,rfl⟩ (by simp only [B8];omega) ?_;rintro self m _ _ ⟨i,v,acc,rfl,rfl,ht,hi,hk,hm,ha,he⟩ ih;subst hi;(refine Zx ?_;with_reducible repeat' first|intro _|apply aI);(have h9:=hd (m - 1) (by omega) (by omega);have hx:((s.getD ((m:Int) - 1).toNat 0).toNat:Int)=bt s (m - 1):=(by unfold bt;rw [show ((m:Int) - 1).toNat=m - 1 by omega]);refine d1j (m:=((bt s (m - 1) - 48).toNat:Int)) (by omega) (by omega) ?_;refine b1a (m:=((bt s (m - 1) - 48).toNat:Int)) rfl (by omega) ?_;(refine Zx ?_;with_reducible repeat' first|intro _|apply aI);refine Z5 (by assumption) (fun _=>I9 (by first | exact .i _ _ | exact .s _ _ _ rfl rfl | assumption)) (by rfl) (by simp) (by simp only [List.length_map];omega) fun _ _=>?_;(refine Zx ?_;with_reducible repeat' first|intro _|apply aI);refine ih (m - 1) _ _ ?_ (by omega);refine ⟨_,_,acc ++ [(bt s (m - 1) - 48).toNat],rfl,by simp,.a _ _ (by simp) (by rw [List.map_append];assumption),by omega,by omega,by omega,by simp;omega,?_⟩;rw [← he];obtain ⟨m,rfl⟩:∃ n,m=n+1:=⟨m - 1,by omega⟩;rw [y9,if_pos (by omega)];rfl))
   have em:m=1:=by omega
   subst em
   rw [show y9 s 1 1 acc=acc by simp [y9]] at he
   rw [e,← he]
   exact N5 fun eU=>by subst eU;exact ⟨.ret _ _ (.t _ _ (.cons _ _ _ _ (Q1 (by rw [← hB,a0r];exact (decide_eq_true (rfl:1=1)).trans (decide_eq_true h45).symm)) (.cons _ _ _ _ (.sl _ _ _ _ _ (by simp) (by assumption)) .nil))),.nil⟩
  ·have h45:=‹¬((s.getD 0 0).toNat:Int)=45›
   have es:=c7h h45
   rw [es] at hd e
   generalize hB:U.iEq _ _=B
   (refine F8 (fun (m:Nat) vs bs=>∃ (i:Int) (v:V) (acc:List Nat),vs=[.str s.length (n6 s),.bool B,.int .i64 0,.int .i64 i,v]∧bs=[.tok acc.length 1]∧Z4 0 1 (acc.map dg) v∧i=m - 1∧0≤m∧m≤s.length∧acc.length+m=s.length∧y9 s 0 m acc=y9 s 0 s.length []) (fun m=>m) s.length ⟨_,_,[],rfl,rfl,.b rfl,rfl,by omega,by omega,by simp,rfl⟩ (by simp only [B8];omega) ?_;rintro self m _ _ ⟨i,v,acc,rfl,rfl,ht,hi,hk,hm,ha,he⟩ ih;subst hi;(refine Zx ?_;with_reducible repeat' first|intro _|apply aI);(have h9:=hd (m - 1) (by omega) (by omega);have hx:((s.getD ((m:Int) - 1).toNat 0).toNat:Int)=bt s (m - 1):=(by unfold bt;rw [show ((m:Int) - 1).toNat=m - 1 by omega]);refine d1j (m:=((bt s (m - 1) - 48).toNat:Int)) (by omega) (by omega) ?_;refine b1a (m:=((bt s (m - 1) - 48).toNat:Int)) rfl (by omega) ?_;(refine Zx ?_;with_reducible repeat' first|intro _|apply aI);refine Z5 (by assumption) (fun _=>I9 (by first | exact .i _ _ | exact .s _ _ _ rfl rfl | assumption)) (by rfl) (by simp) (by simp only [List.length_map];omega) fun _ _=>?_;(refine Zx ?_;with_reducible repeat' first|intro _|apply aI);refine ih (m - 1) _ _ ?_ (by omega);refine ⟨_,_,acc ++ [(bt s (m - 1) - 48).toNat],rfl,by simp,.a _ _ (by simp) (by rw [List.map_append];assumption),by omega,by omega,by omega,by simp;omega,?_⟩;rw [← he];obtain ⟨m,rfl⟩:∃ n,m=n+1:=⟨m - 1,by omega⟩;rw [y9,if_pos (by omega)];rfl))
   have em:m=0:=by omega
   subst em
   rw [show y9 s 0 0 acc=acc by simp [y9]] at he
   rw [e,← he]
   exact N5 fun eU=>by subst eU;exact ⟨.ret _ _ (.t _ _ (.cons _ _ _ _ (Q1 (by rw [← hB,a0r];exact (decide_eq_false (by decide:¬0=1)).trans (decide_eq_false h45).symm)) (.cons _ _ _ _ (.sl _ _ _ _ _ (by simp) (by assumption)) .nil))),.nil⟩
 ·have e:Z2 s=(false,[]):=by unfold Z2;rw [if_neg];exact fun h=>absurd h.1 ‹_›
  exact l6 ⟨.ret _ _ (by rw [e];(exact j9)),.nil⟩
section
variable {U:w7} {P:G3→List Bx→Prop}
theorem a94 {l:List Nat} {t:j8 Q} {off:Nat} {i:Int} (n:Nat) {K:Q→Om} (ht:u6 1 (l.map dg) t off) (hn:i=n) (hi:n < l.length) (h:∀ x,B6 (dg (l.getD n 0)) x 0→j3 U (K x) P):j3 U (U.fQ (U.tQ t (U.nAdd off (U.iNat i))) K) P:=by
 subst hn
 refine b3i (y:=l.getD n 0) ht ?_ h
 rw [Int.toNat_natCast,List.getElem?_eq_getElem hi]
 simp [List.getD,List.getElem?_eq_getElem hi]
end
def spL (R:List Nat→y4):Sp where
 ι:={ l:List Nat // l.length < 90000 }
 A l:=[.sl 1 (l.1.map dg)]
 B _:=[]
 R l:=R l.1
 B' _:=[]
 inj i j vs bs h k _ _:=by
  obtain ⟨_,_,h1,k1,h,k⟩:=h.two k
  rw [W9 (h1.sl_inj k1)];exact ⟨rfl,rfl⟩
theorem c7a:l5 152 (spL fun l=>.ret (.sl 1 ((F2 l).map dg))):=v7 (fun fn h=>d79 h) [] .nil fun U fn hfn ⟨l,hs⟩ vs bs hv hb=>by
 have hv:l9 [.sl 1 (l.map dg)] vs:=hv
 have hb:RBs [] bs:=hb
 show j3 U _ fun v bs'=>m8 (.ret (.sl 1 ((F2 l).map dg))) v∧RBs [] bs'
 unfold d3q
 (refine Zx ?_;with_reducible repeat' first|intro _|apply aI)
 refine F8 (fun (m:Nat) vs bs=>∃ (t:j8 Q) (off:Nat),vs=[.slice t 1 off l.length .no,.int .i64 m]∧bs=[]∧u6 1 (l.map dg) t off∧m≤l.length∧R1 l m=R1 l l.length) (fun m=>m) l.length ⟨_,_,rfl,rfl,by assumption,by omega,rfl⟩ (by simp only [B8];omega) ?_
 rintro self m _ _ ⟨t,off,rfl,rfl,ht,hm,he⟩ ih
 (refine Zx ?_;with_reducible repeat' first|intro _|apply aI)
 ·refine a94 (m - 1) (by assumption) (by omega) (by omega) fun _ _=>?_
  (refine Zx ?_;with_reducible repeat' first|intro _|apply aI)
  ·refine ih (m - 1) _ _ ⟨_,_,by rw [show ((m - 1:Nat):Int)=(m:Int) - 1 by omega],rfl,ht,by omega,?_⟩ (by omega)
   have h0:=‹((l.getD (m - 1) 0:Nat):Int)=0›
   obtain ⟨m,rfl⟩:∃ n,m=n+1:=⟨m - 1,by omega⟩
   rw [← he,R1,if_pos (by simpa using h0)];rfl
  ·have h0:=‹¬((l.getD (m - 1) 0:Nat):Int)=0›
   have e:F2 l=l.take m:=by
    obtain ⟨m,rfl⟩:∃ n,m=n+1:=⟨m - 1,by omega⟩
    unfold F2
    rw [← he,R1,if_neg (by simpa using h0)]
   rw [e,List.map_take]
   exact l6 ⟨.ret _ _ (.sl _ _ _ _ _ (by simp;omega) (ht.take m)),.nil⟩
 ·have em:m=0:=by omega
  subst em
  have e:F2 l=l.take 0:=by unfold F2;rw [← he];rfl
  rw [e,List.map_take]
  exact l6 ⟨.ret _ _ (.sl _ _ _ _ _ (by simp) (ht.take 0)),.nil⟩
theorem b5q {l:List Nat} {i:Nat} (h:i < l.length):l[i]=l.getD i 0:=by simp [List.getD,List.getElem?_eq_getElem h]
theorem D9.at {l:List Nat} (h:D9 l) (i:Nat):l.getD i 0≤9:=by
 by_cases hi:i < l.length
 ·rw [← b5q hi];exact h _ (List.getElem_mem _)
 ·simp [List.getD,List.getElem?_eq_none (Nat.le_of_not_lt hi)]
def e3x (ok:List Nat→List Nat→Prop) (R:List Nat→List Nat→y4):Sp where
 ι:={ p:List Nat × List Nat // p.1.length < 90000∧p.2.length < 90000∧ok p.1 p.2 }
 A p:=[.sl 1 (p.1.1.map dg),.sl 1 (p.1.2.map dg)]
 B _:=[]
 R p:=R p.1.1 p.1.2
 B' _:=[]
 inj i j vs bs h k _ _:=by
  obtain ⟨_,_,h1,k1,h,k⟩:=h.two k
  obtain ⟨_,_,h2,k2,h,k⟩:=h.two k
  rw [W9 (h1.sl_inj k1),W9 (h2.sl_inj k2)];exact ⟨rfl,rfl⟩
theorem e6x:l5 153 (e3x (fun _ _=>True) fun a b=>.ret (.c (.i .i64 (P8 a b)))):=v7 (fun fn h=>d9v h) [] .nil fun U fn hfn ⟨(a,b),ha,hbl,_⟩ vs bs hv hb=>by
 have ha:a.length < 90000:=ha
 have hbl:b.length < 90000:=hbl
 have hv:l9 [.sl 1 (a.map dg),.sl 1 (b.map dg)] vs:=hv
 have hb:RBs [] bs:=hb
 show j3 U _ fun v bs'=>m8 (.ret (.c (.i .i64 (P8 a b)))) v∧RBs [] bs'
 unfold d5a
 (refine Zx ?_;with_reducible repeat' first|intro _|apply aI)
 ·have hl:a.length=b.length:=by omega
  have e:P8 a b=G6 a b a.length:=by unfold P8;rw [if_pos hl]
  rw [e]
  refine F8 (fun (m:Nat) vs bs=>∃ (t:j8 Q) (off:Nat) (t':j8 Q) (off':Nat) (i:Int),vs=[.slice t 1 off a.length .no,.slice t' 1 off' b.length .no,.int .i64 i]∧bs=[]∧i=m - 1∧u6 1 (a.map dg) t off∧u6 1 (b.map dg) t' off'∧m≤a.length∧G6 a b m=G6 a b a.length) (fun m=>m) a.length ⟨_,_,_,_,_,rfl,rfl,rfl,by assumption,by assumption,by omega,rfl⟩ (by simp only [B8];omega) ?_
  rintro self m _ _ ⟨t,off,t',off',i,rfl,rfl,rfl,ht,ht',hm,he⟩ ih
  (refine Zx ?_;with_reducible repeat' first|intro _|apply aI)
  ·refine a94 (m - 1) (by assumption) (by omega) (by omega) fun _ _=>?_
   (refine Zx ?_;with_reducible repeat' first|intro _|apply aI)
   refine a94 (m - 1) (by assumption) (by omega) (by omega) fun _ _=>?_
   (refine Zx ?_;with_reducible repeat' first|intro _|apply aI)
   ·obtain ⟨m,rfl⟩:∃ n,m=n+1:=⟨m - 1,by omega⟩
    exact l6 ⟨.ret _ _ (rvI (by rw [← he,G6,if_pos (by simp only [Nat.add_sub_cancel] at *;omega)])),.nil⟩
   ·refine a94 (m - 1) (by assumption) (by omega) (by omega) fun _ _=>?_
    (refine Zx ?_;with_reducible repeat' first|intro _|apply aI)
    refine a94 (m - 1) (by assumption) (by omega) (by omega) fun _ _=>?_
    (refine Zx ?_;with_reducible repeat' first|intro _|apply aI)
    ·obtain ⟨m,rfl⟩:∃ n,m=n+1:=⟨m - 1,by omega⟩
     exact l6 ⟨.ret _ _ (rvI (by rw [← he,G6,if_neg (by simp only [Nat.add_sub_cancel] at *;omega),if_pos (by simp only [Nat.add_sub_cancel] at *;omega)])),.nil⟩
    ·refine ih (m - 1) _ _ ?_ (by omega)
     obtain ⟨m,rfl⟩:∃ n,m=n+1:=⟨m - 1,by omega⟩
     exact ⟨_,_,_,_,_,rfl,rfl,by omega,ht,ht',by omega,by rw [← he,Nat.add_sub_cancel];conv=>rhs;rw [G6,if_neg (by simp only [Nat.add_sub_cancel] at *;omega),if_neg (by simp only [Nat.add_sub_cancel] at *;omega)]⟩
  ·have em:m=0:=by omega
   subst em
   exact l6 ⟨.ret _ _ (rvI (by rw [← he];rfl)),.nil⟩
 ·exact l6 ⟨.ret _ _ (rvI (by unfold P8;rw [if_neg (by omega),if_pos (by omega)])),.nil⟩
 ·exact l6 ⟨.ret _ _ (rvI (by unfold P8;rw [if_neg (by omega),if_neg (by omega)])),.nil⟩
end
end Go.Proofs.YtffaodopiifbkaaGreatDoor
