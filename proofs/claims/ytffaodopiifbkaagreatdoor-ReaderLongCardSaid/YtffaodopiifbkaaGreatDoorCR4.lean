/- The reference's numbers: decimal strings. -/
import Derived.Test.YtffaodopiifbkaaGreatDoorCL0
import Derived.Test.YtffaodopiifbkaaGreatDoorCL1
import Derived.Test.YtffaodopiifbkaaGreatDoorCP
set_option linter.all false
namespace Go.Proofs.YtffaodopiifbkaaGreatDoor
open Go.Abs LQ
set_option maxRecDepth 100000
set_option maxHeartbeats 4000000
noncomputable section
def dg (d:Nat):List G:=[.i .i64 (d:Int)]
theorem e58 {a b:Nat} (h:dg a=dg b):a=b:=by simp only [dg,List.cons.injEq,G.i.injEq,and_true,true_and] at h;omega
theorem X2:∀ {l m:List Nat},l.map dg=m.map dg→l=m
 | [],[],_=>rfl
 | [],_ :: _,h=>by simp at h
 | _ :: _,[],h=>by simp at h
 | a :: l,b :: m,h=>by simp only [List.map_cons,List.cons.injEq] at h;exact congr (congrArg List.cons (e58 h.1)) (X2 h.2)
theorem F1 {a b:j0} {v:V} (h:RV (.c (.s a)) v) (k:RV (.c (.s b)) v):a=b:=by have:=h.c_inj k;injection this
theorem c02 {a b:Bool} {v:V} (h:RV (.c (.b a)) v) (k:RV (.c (.b b)) v):a=b:=by have:=h.c_inj k;injection this
theorem K7 {c:IntKind} {a b:Int} {v:V} (h:RV (.c (.i c a)) v) (k:RV (.c (.i c b)) v):a=b:=by have:=h.c_inj k;injection this
theorem a4w {c:Int}:P5 c=true↔48≤c∧c≤57:=by simp [P5]
theorem c2k {s:j0} {i:Nat} (h:i < s.length) (h1:¬((s.getD i 0).toNat:Int) < 48) (h2:¬57 < ((s.getD i 0).toNat:Int)):m7 s i=m7 s (i+1):=by
 rw [m7,if_pos h,if_pos (a4w.2 (by unfold bt;omega))]
theorem b60 {s:j0} {i:Nat} (h:i < s.length) (h1:((s.getD i 0).toNat:Int) < 48∨57 < ((s.getD i 0).toNat:Int)):m7 s i=i:=by
 rw [m7,if_pos h,if_neg (mt a4w.1 (by unfold bt;omega))]
theorem b7d {s:j0} {i:Nat} (h:¬i < s.length):m7 s i=i:=by
 rw [m7,if_neg h]
theorem c1m {s:j0} (h:0 < (s.length:Int)) (h2:((s.getD 0 0).toNat:Int)=45):j4 s=1:=by unfold j4;rw [if_pos ⟨oM,h2⟩]
theorem c8e {s:j0} (h2:¬((s.getD 0 0).toNat:Int)=45):j4 s=0:=by unfold j4;rw [if_neg (fun h=>h2 h.2)]
theorem e5x {s:j0} (h:¬0 < (s.length:Int)):j4 s=0:=by unfold j4;rw [if_neg (fun k=>by omega)]
theorem d12 {s:j0} {k:Nat} (h0:¬s=q8 1 48) (h1:j4 s=k) (h:s.length≤k):z6 s=false:=by
 have h0:¬s=x6:=h0
 simp [z6,h0,h1];omega
theorem d1k {s:j0} {k:Nat} (h0:¬s=q8 1 48) (h1:j4 s=k) (h:((s.getD k 0).toNat:Int)=48):z6 s=false:=by
 have h0:¬s=x6:=h0
 have h:bt s k=48:=h
 simp [z6,h0,h1,h]
theorem d8r {s:j0} {k:Nat} (h0:¬s=q8 1 48) (h1:j4 s=k) (h2:k < s.length) (h:¬((s.getD k 0).toNat:Int)=48):z6 s=decide (m7 s k=s.length):=by
 have h0:¬s=x6:=h0
 have h:¬bt s k=48:=h
 have:k < s.length:=oM
 simp [z6,h0,h1,h,this]
def sp1 (R:j0→t7):Sp where
 ι:={ s:j0 // s.length < 90000 }
 A s:=[.c (.s s.1)]
 B _:=[]
 R s:=R s.1
 B' _:=[]
 inj i j vs bs h k _ _:=by
  obtain ⟨_,_,h1,k1,h,k⟩:=h.two k
  rw [F1 h1 k1];exact ⟨rfl,rfl⟩
theorem e01:l6 151 (sp1 fun s=>.ret (.c (.b (z6 s)))):=o7 (fun fn h=>e1o h) [] .nil fun U fn hfn ⟨s,hs⟩ vs bs hv hb=>by
 have hv:l8 [.c (.s s)] vs:=hv
 have hb:RBs [] bs:=hb
 show j3 U _ fun v bs'=>l7 (.ret (.c (.b (z6 s)))) v∧RBs [] bs'
 unfold d5q
 (refine Zx ?_;with_reducible repeat' first|intro _|apply aI)
 all_goals try (exfalso;omega)
 ·exact k9 ⟨.ret _ _ (I8 (by subst_vars;rfl)),.nil⟩
 ·exact k9 ⟨.ret _ _ (I8 (d12 (k:=1) ‹_› (c1m ‹_› ‹_›) oM)),.nil⟩
 ·exact k9 ⟨.ret _ _ (I8 (d1k (k:=1) ‹_› (c1m ‹_› ‹_›) ‹_›)),.nil⟩
 ·have hd:=d8r (k:=1) ‹_› (c1m ‹_› ‹_›) oM ‹_›
  (refine C7 (fun (i:Nat) vs bs=>vs=[.str s.length (m8 s),.int .i64 i]∧bs=[]∧i≤s.length∧m7 s i=m7 s 1) (fun i=>s.length - i) 1 ⟨rfl,rfl,oM,rfl⟩ (by simp only [x8];omega) ?_;rintro self i vs bs ⟨rfl,rfl,hi,he⟩ ih;(refine Zx ?_;with_reducible repeat' first|intro _|apply aI);all_goals first | exact ih (i+1) _ _ ⟨rfl,rfl,oM,by rw [← he,c2k (i:=i) oM ‹_› ‹_›]⟩ oM | exact k9 ⟨.ret _ _ (I8 (by rw [hd,← he,b7d (i:=i) oM];exact decide_eq_true oM)),.nil⟩ | exact k9 ⟨.ret _ _ (I8 (by rw [hd,← he,b60 (i:=i) oM oM];exact decide_eq_false oM)),.nil⟩)
 ·exact k9 ⟨.ret _ _ (I8 (d1k (k:=0) ‹_› (c8e ‹_›) ‹_›)),.nil⟩
 ·have hd:=d8r (k:=0) ‹_› (c8e ‹_›) oM ‹_›
  (refine C7 (fun (i:Nat) vs bs=>vs=[.str s.length (m8 s),.int .i64 i]∧bs=[]∧i≤s.length∧m7 s i=m7 s 0) (fun i=>s.length - i) 0 ⟨rfl,rfl,oM,rfl⟩ (by simp only [x8];omega) ?_;rintro self i vs bs ⟨rfl,rfl,hi,he⟩ ih;(refine Zx ?_;with_reducible repeat' first|intro _|apply aI);all_goals first | exact ih (i+1) _ _ ⟨rfl,rfl,oM,by rw [← he,c2k (i:=i) oM ‹_› ‹_›]⟩ oM | exact k9 ⟨.ret _ _ (I8 (by rw [hd,← he,b7d (i:=i) oM];exact decide_eq_true oM)),.nil⟩ | exact k9 ⟨.ret _ _ (I8 (by rw [hd,← he,b60 (i:=i) oM oM];exact decide_eq_false oM)),.nil⟩)
 ·exact k9 ⟨.ret _ _ (I8 (d12 (k:=0) ‹_› (e5x ‹_›) oM)),.nil⟩
theorem d3i {s:j0} (h:z6 s=true) (h0:¬s=x6):∀ j,j4 s≤j→j < s.length→48≤bt s j∧bt s j≤57:=by
 intro j h1 h2
 simp [z6,h0] at h
 exact Y7 s (j4 s) j h1 oM
theorem d4g:l6 124 (sp1 fun s=>.ret (.t [.c (.b (Z7 s).1),.sl 1 ((Z7 s).2.map dg)])):=o7 (fun fn h=>e3c h) [(151,_)] (.cons e01 .nil) fun U fn hfn ⟨s,hs⟩ vs bs hv hb=>by
 have hr:=hfn 151 _ rfl
 have hv:l8 [.c (.s s)] vs:=hv
 have hb:RBs [] bs:=hb
 show j3 U _ fun v bs'=>l7 (.ret (.t [.c (.b (Z7 s).1),.sl 1 ((Z7 s).2.map dg)])) v∧RBs [] bs'
 unfold d6y
 (refine Zx ?_;intros)
 refine i6 hr ⟨s,hs⟩ (r:=.c (.b (z6 s))) rfl j7 .nil fun _ _ _ _=>?_
 (refine Zx ?_;with_reducible repeat' first|intro _|apply aI)
 ·have e:Z7 s=(false,[]):=by unfold Z7;rw [if_neg];exact fun h=>h.2 ‹s=q8 1 48›
  exact k9 ⟨.ret _ _ (by rw [e];(exact j7)),.nil⟩
 ·have h1:=‹z6 s=true›
  have h2:¬s=x6:=‹_›
  have hd:=d3i h1 h2
  have hpos:j4 s < s.length:=by simp [z6,h2] at h1;omega
  have e:Z7 s=(decide (j4 s=1),w6 s (j4 s) s.length []):=by unfold Z7;rw [if_pos ⟨h1,h2⟩]
  (refine Zx ?_;with_reducible repeat' first|intro _|apply aI)
  ·have es:=c1m (s:=s) oM ‹_›
   have h45:=‹((s.getD 0 0).toNat:Int)=45›
   rw [es] at hd e
   generalize hB:U.iEq _ _=B
   (refine C7 (fun (m:Nat) vs bs=>∃ (i:Int) (v:V) (acc:List Nat),vs=[.str s.length (m8 s),.bool B,.int .i64 1,.int .i64 i,v]∧bs=[.tok acc.length 1]∧V4 0 1 (acc.map dg) v∧i=m - 1∧1≤m∧m≤s.length∧acc.length+m=s.length∧w6 s 1 m acc=w6 s 1 s.length []) (fun m=>m) s.length ⟨_,_,[],rfl,rfl,.b rfl,rfl,oM,oM,by simp,rfl⟩ (by simp only [x8];omega) ?_;rintro self m _ _ ⟨i,v,acc,rfl,rfl,ht,hi,hk,hm,ha,he⟩ ih;subst hi;(refine Zx ?_;with_reducible repeat' first|intro _|apply aI);(have h9:=hd (m - 1) oM oM;have hx:((s.getD ((m:Int) - 1).toNat 0).toNat:Int)=bt s (m - 1):=(by unfold bt;rw [show ((m:Int) - 1).toNat=m - 1 by omega]);refine d27 (m:=((bt s (m - 1) - 48).toNat:Int)) oM oM ?_;refine b0q (m:=((bt s (m - 1) - 48).toNat:Int)) rfl oM ?_;(refine Zx ?_;with_reducible repeat' first|intro _|apply aI);refine V8 aS (fun _=>G7 (by first | exact .i _ _ | exact .s _ _ _ rfl rfl | assumption)) (by rfl) (by simp) (by simp only [List.length_map];omega) fun _ _=>?_;(refine Zx ?_;with_reducible repeat' first|intro _|apply aI);refine ih (m - 1) _ _ ?_ oM;refine ⟨_,_,acc ++ [(bt s (m - 1) - 48).toNat],rfl,by simp,.a _ _ (by simp) (by rw [List.map_append];assumption),oM,oM,oM,by simp;omega,?_⟩;rw [← he];obtain ⟨m,rfl⟩:∃ n,m=n+1:=⟨m - 1,oM⟩;rw [w6,if_pos oM];rfl))
   have em:m=1:=oM
   subst em
   rw [show w6 s 1 1 acc=acc by simp [w6]] at he
   rw [e,← he]
   exact I7 fun eU=>by subst eU;exact ⟨.ret _ _ (.t _ _ (.k (J3 (by rw [← hB,T8];exact (decide_eq_true (rfl:1=1)).trans (decide_eq_true h45).symm)) (.k (.sl _ _ _ _ _ (by simp) aS) .nil))),.nil⟩
  ·have h45:=‹¬((s.getD 0 0).toNat:Int)=45›
   have es:=c8e h45
   rw [es] at hd e
   generalize hB:U.iEq _ _=B
   (refine C7 (fun (m:Nat) vs bs=>∃ (i:Int) (v:V) (acc:List Nat),vs=[.str s.length (m8 s),.bool B,.int .i64 0,.int .i64 i,v]∧bs=[.tok acc.length 1]∧V4 0 1 (acc.map dg) v∧i=m - 1∧0≤m∧m≤s.length∧acc.length+m=s.length∧w6 s 0 m acc=w6 s 0 s.length []) (fun m=>m) s.length ⟨_,_,[],rfl,rfl,.b rfl,rfl,oM,oM,by simp,rfl⟩ (by simp only [x8];omega) ?_;rintro self m _ _ ⟨i,v,acc,rfl,rfl,ht,hi,hk,hm,ha,he⟩ ih;subst hi;(refine Zx ?_;with_reducible repeat' first|intro _|apply aI);(have h9:=hd (m - 1) oM oM;have hx:((s.getD ((m:Int) - 1).toNat 0).toNat:Int)=bt s (m - 1):=(by unfold bt;rw [show ((m:Int) - 1).toNat=m - 1 by omega]);refine d27 (m:=((bt s (m - 1) - 48).toNat:Int)) oM oM ?_;refine b0q (m:=((bt s (m - 1) - 48).toNat:Int)) rfl oM ?_;(refine Zx ?_;with_reducible repeat' first|intro _|apply aI);refine V8 aS (fun _=>G7 (by first | exact .i _ _ | exact .s _ _ _ rfl rfl | assumption)) (by rfl) (by simp) (by simp only [List.length_map];omega) fun _ _=>?_;(refine Zx ?_;with_reducible repeat' first|intro _|apply aI);refine ih (m - 1) _ _ ?_ oM;refine ⟨_,_,acc ++ [(bt s (m - 1) - 48).toNat],rfl,by simp,.a _ _ (by simp) (by rw [List.map_append];assumption),oM,oM,oM,by simp;omega,?_⟩;rw [← he];obtain ⟨m,rfl⟩:∃ n,m=n+1:=⟨m - 1,oM⟩;rw [w6,if_pos oM];rfl))
   have em:m=0:=oM
   subst em
   rw [show w6 s 0 0 acc=acc by simp [w6]] at he
   rw [e,← he]
   exact I7 fun eU=>by subst eU;exact ⟨.ret _ _ (.t _ _ (.k (J3 (by rw [← hB,T8];exact (decide_eq_false (by decide:¬0=1)).trans (decide_eq_false h45).symm)) (.k (.sl _ _ _ _ _ (by simp) aS) .nil))),.nil⟩
 ·have e:Z7 s=(false,[]):=by unfold Z7;rw [if_neg];exact fun h=>absurd h.1 ‹_›
  exact k9 ⟨.ret _ _ (by rw [e];(exact j7)),.nil⟩
section
variable {U:t6} {P:E6→List Bx→Prop}
theorem b0o {l:List Nat} {t:j9 Q} {off:Nat} {i:Int} (n:Nat) {K:Q→Om} (ht:p5 1 (l.map dg) t off) (hn:i=n) (hi:n < l.length) (h:∀ x,x4 (dg (l.getD n 0)) x 0→j3 U (K x) P):j3 U (U.fQ (U.tQ t (U.nAdd off (U.iNat i))) K) P:=by
 subst hn
 refine b1r (y:=l.getD n 0) ht ?_ h
 rw [Int.toNat_natCast,List.getElem?_eq_getElem hi]
 simp [List.getD,List.getElem?_eq_getElem hi]
end
def spL (R:List Nat→t7):Sp where
 ι:={ l:List Nat // l.length < 90000 }
 A l:=[.sl 1 (l.1.map dg)]
 B _:=[]
 R l:=R l.1
 B' _:=[]
 inj i j vs bs h k _ _:=by
  obtain ⟨_,_,h1,k1,h,k⟩:=h.two k
  rw [X2 (h1.sl_inj k1)];exact ⟨rfl,rfl⟩
theorem d0e:l6 152 (spL fun l=>.ret (.sl 1 ((E0 l).map dg))):=o7 (fun fn h=>e14 h) [] .nil fun U fn hfn ⟨l,hs⟩ vs bs hv hb=>by
 have hv:l8 [.sl 1 (l.map dg)] vs:=hv
 have hb:RBs [] bs:=hb
 show j3 U _ fun v bs'=>l7 (.ret (.sl 1 ((E0 l).map dg))) v∧RBs [] bs'
 unfold d6k
 (refine Zx ?_;intros)
 refine C7 (fun (m:Nat) vs bs=>∃ (t:j9 Q) (off:Nat),vs=[.slice t 1 off l.length .no,.int .i64 m]∧bs=[]∧p5 1 (l.map dg) t off∧m≤l.length∧Q4 l m=Q4 l l.length) (fun m=>m) l.length ⟨_,_,rfl,rfl,aS,oM,rfl⟩ (by simp only [x8];omega) ?_
 rintro self m _ _ ⟨t,off,rfl,rfl,ht,hm,he⟩ ih
 (refine Zx ?_;with_reducible repeat' first|intro _|apply aI)
 ·refine b0o (m - 1) aS oM oM fun _ _=>?_
  (refine Zx ?_;with_reducible repeat' first|intro _|apply aI)
  ·refine ih (m - 1) _ _ ⟨_,_,by rw [show ((m - 1:Nat):Int)=(m:Int) - 1 by omega],rfl,ht,oM,?_⟩ oM
   have h0:=‹((l.getD (m - 1) 0:Nat):Int)=0›
   obtain ⟨m,rfl⟩:∃ n,m=n+1:=⟨m - 1,oM⟩
   rw [← he,Q4,if_pos (by simpa using h0)];rfl
  ·have h0:=‹¬((l.getD (m - 1) 0:Nat):Int)=0›
   have e:E0 l=l.take m:=by
    obtain ⟨m,rfl⟩:∃ n,m=n+1:=⟨m - 1,oM⟩
    unfold E0
    rw [← he,Q4,if_neg (by simpa using h0)]
   rw [e,List.map_take]
   exact k9 ⟨.ret _ _ (.sl _ _ _ _ _ (by simp;omega) (ht.take m)),.nil⟩
 ·have em:m=0:=oM
  subst em
  have e:E0 l=l.take 0:=by unfold E0;rw [← he];rfl
  rw [e,List.map_take]
  exact k9 ⟨.ret _ _ (.sl _ _ _ _ _ (by simp) (ht.take 0)),.nil⟩
theorem b5u {l:List Nat} {i:Nat} (h:i < l.length):l[i]=l.getD i 0:=by simp [List.getD,List.getElem?_eq_getElem h]
theorem D9.at {l:List Nat} (h:D9 l) (i:Nat):l.getD i 0≤9:=by
 by_cases hi:i < l.length
 ·rw [← b5u hi];exact h _ (List.getElem_mem _)
 ·simp [List.getD,List.getElem?_eq_none (Nat.le_of_not_lt hi)]
def f0a (ok:List Nat→List Nat→Prop) (R:List Nat→List Nat→t7):Sp where
 ι:={ p:List Nat × List Nat // p.1.length < 90000∧p.2.length < 90000∧ok p.1 p.2 }
 A p:=[.sl 1 (p.1.1.map dg),.sl 1 (p.1.2.map dg)]
 B _:=[]
 R p:=R p.1.1 p.1.2
 B' _:=[]
 inj i j vs bs h k _ _:=by
  obtain ⟨_,_,h1,k1,h,k⟩:=h.two k
  obtain ⟨_,_,h2,k2,h,k⟩:=h.two k
  rw [X2 (h1.sl_inj k1),X2 (h2.sl_inj k2)];exact ⟨rfl,rfl⟩
theorem e45:l6 153 (f0a (fun _ _=>True) fun a b=>.ret (.c (.i .i64 (P0 a b)))):=o7 (fun fn h=>e1j h) [] .nil fun U fn hfn ⟨(a,b),ha,hbl,_⟩ vs bs hv hb=>by
 have ha:a.length < 90000:=ha
 have hbl:b.length < 90000:=hbl
 have hv:l8 [.sl 1 (a.map dg),.sl 1 (b.map dg)] vs:=hv
 have hb:RBs [] bs:=hb
 show j3 U _ fun v bs'=>l7 (.ret (.c (.i .i64 (P0 a b)))) v∧RBs [] bs'
 unfold d6i
 (refine Zx ?_;with_reducible repeat' first|intro _|apply aI)
 ·have hl:a.length=b.length:=oM
  have e:P0 a b=F0 a b a.length:=by unfold P0;rw [if_pos hl]
  rw [e]
  refine C7 (fun (m:Nat) vs bs=>∃ (t:j9 Q) (off:Nat) (t':j9 Q) (off':Nat) (i:Int),vs=[.slice t 1 off a.length .no,.slice t' 1 off' b.length .no,.int .i64 i]∧bs=[]∧i=m - 1∧p5 1 (a.map dg) t off∧p5 1 (b.map dg) t' off'∧m≤a.length∧F0 a b m=F0 a b a.length) (fun m=>m) a.length ⟨_,_,_,_,_,rfl,rfl,rfl,aS,aS,oM,rfl⟩ (by simp only [x8];omega) ?_
  rintro self m _ _ ⟨t,off,t',off',i,rfl,rfl,rfl,ht,ht',hm,he⟩ ih
  (refine Zx ?_;with_reducible repeat' first|intro _|apply aI)
  ·refine b0o (m - 1) aS oM oM fun _ _=>?_
   (refine Zx ?_;intros)
   refine b0o (m - 1) aS oM oM fun _ _=>?_
   (refine Zx ?_;with_reducible repeat' first|intro _|apply aI)
   ·obtain ⟨m,rfl⟩:∃ n,m=n+1:=⟨m - 1,oM⟩
    exact k9 ⟨.ret _ _ (S7 (by rw [← he,F0,if_pos (by simp only [Nat.add_sub_cancel] at *;omega)])),.nil⟩
   ·refine b0o (m - 1) aS oM oM fun _ _=>?_
    (refine Zx ?_;intros)
    refine b0o (m - 1) aS oM oM fun _ _=>?_
    (refine Zx ?_;with_reducible repeat' first|intro _|apply aI)
    ·obtain ⟨m,rfl⟩:∃ n,m=n+1:=⟨m - 1,oM⟩
     exact k9 ⟨.ret _ _ (S7 (by rw [← he,F0,if_neg (by simp only [Nat.add_sub_cancel] at *;omega),if_pos (by simp only [Nat.add_sub_cancel] at *;omega)])),.nil⟩
    ·refine ih (m - 1) _ _ ?_ oM
     obtain ⟨m,rfl⟩:∃ n,m=n+1:=⟨m - 1,oM⟩
     exact ⟨_,_,_,_,_,rfl,rfl,oM,ht,ht',oM,by rw [← he,Nat.add_sub_cancel];conv=>rhs;rw [F0,if_neg (by simp only [Nat.add_sub_cancel] at *;omega),if_neg (by simp only [Nat.add_sub_cancel] at *;omega)]⟩
  ·have em:m=0:=oM
   subst em
   exact k9 ⟨.ret _ _ (S7 (by rw [← he];rfl)),.nil⟩
 ·exact k9 ⟨.ret _ _ (S7 (by unfold P0;rw [if_neg oM,if_pos oM])),.nil⟩
 ·exact k9 ⟨.ret _ _ (S7 (by unfold P0;rw [if_neg oM,if_neg oM])),.nil⟩
end
end Go.Proofs.YtffaodopiifbkaaGreatDoor
