/- The reference's numbers: decimal strings. -/
import Derived.Test.YtdldcfllnohkeaaGreatDoorCL0
import Derived.Test.YtdldcfllnohkeaaGreatDoorCP
set_option linter.all false
namespace Go.Proofs.YtdldcfllnohkeaaGreatDoor
open Go.Abs LQ
set_option maxRecDepth 100000
set_option maxHeartbeats 4000000
noncomputable section
def dg (d:Nat):List G:=[.i .i64 (d:Int)]
theorem f0n {a b:Nat} (h:dg a=dg b):a=b:=by simp only [dg,List.cons.injEq,G.i.injEq,and_true,true_and] at h;omega
theorem a0s:∀ {l m:List Nat},l.map dg=m.map dg→l=m
 | [],[],_=>rfl
 | [],_ :: _,h=>by simp at h
 | _ :: _,[],h=>by simp at h
 | a :: l,b :: m,h=>by simp only [List.map_cons,List.cons.injEq] at h;exact congr (congrArg List.cons (f0n h.1)) (a0s h.2)
theorem H3 {a b:i6} {v:V} (h:RV (.c (.s a)) v) (k:RV (.c (.s b)) v):a=b:=by have:=h.c_inj k;injection this
theorem c4b {a b:Bool} {v:V} (h:RV (.c (.b a)) v) (k:RV (.c (.b b)) v):a=b:=by have:=h.c_inj k;injection this
theorem a2v {c:IntKind} {a b:Int} {v:V} (h:RV (.c (.i c a)) v) (k:RV (.c (.i c b)) v):a=b:=by have:=h.c_inj k;injection this
theorem d1c {c:Int}:a02 c=true↔48≤c∧c≤57:=by simp [a02]
theorem c5r {s:i6} {i:Nat} (h:i < s.length) (h1:¬((s.getD i 0).toNat:Int) < 48) (h2:¬57 < ((s.getD i 0).toNat:Int)):s8 s i=s8 s (i+1):=by
 rw [s8,if_pos h,if_pos (d1c.2 (by unfold bt;omega))]
theorem b7g {s:i6} {i:Nat} (h:i < s.length) (h1:((s.getD i 0).toNat:Int) < 48∨57 < ((s.getD i 0).toNat:Int)):s8 s i=i:=by
 rw [s8,if_pos h,if_neg (mt d1c.1 (by unfold bt;omega))]
theorem b95 {s:i6} {i:Nat} (h:¬i < s.length):s8 s i=i:=by
 rw [s8,if_neg h]
theorem c4u {s:i6} (h:0 < (s.length:Int)) (h2:((s.getD 0 0).toNat:Int)=45):j6 s=1:=by unfold j6;rw [if_pos ⟨oM,h2⟩]
theorem d44 {s:i6} (h2:¬((s.getD 0 0).toNat:Int)=45):j6 s=0:=by unfold j6;rw [if_neg (fun h=>h2 h.2)]
theorem f6q {s:i6} (h:¬0 < (s.length:Int)):j6 s=0:=by unfold j6;rw [if_neg (fun k=>by omega)]
theorem d9c {s:i6} {k:Nat} (h0:¬s=m8 1 48) (h1:j6 s=k) (h:s.length≤k):C1 s=false:=by
 have h0:¬s=B5:=h0
 simp [C1,h0,h1];omega
theorem d9d {s:i6} {k:Nat} (h0:¬s=m8 1 48) (h1:j6 s=k) (h:((s.getD k 0).toNat:Int)=48):C1 s=false:=by
 have h0:¬s=B5:=h0
 have h:bt s k=48:=h
 simp [C1,h0,h1,h]
theorem e5r {s:i6} {k:Nat} (h0:¬s=m8 1 48) (h1:j6 s=k) (h2:k < s.length) (h:¬((s.getD k 0).toNat:Int)=48):C1 s=decide (s8 s k=s.length):=by
 have h0:¬s=B5:=h0
 have h:¬bt s k=48:=h
 have:k < s.length:=oM
 simp [C1,h0,h1,h,this]
def sp1 (R:i6→r7):Sp where
 ι:={ s:i6 // s.length < 90000 }
 A s:=[.c (.s s.1)]
 B _:=[]
 R s:=R s.1
 B' _:=[]
 inj i j vs bs h k _ _:=by
  obtain ⟨_,_,h1,k1,h,k⟩:=h.two k
  rw [H3 h1 k1];exact ⟨rfl,rfl⟩
theorem e6x:k9 114 (sp1 fun s=>.ret (.c (.b (C1 s)))):=n9 (fun fn h=>e71 h) [] .nil fun U fn hfn ⟨s,hs⟩ vs bs hv hb=>by
 have hv:l7 [.c (.s s)] vs:=hv
 have hb:RBs [] bs:=hb
 show j5 U _ fun v bs'=>l8 (.ret (.c (.b (C1 s)))) v∧RBs [] bs'
 unfold e1x
 (refine Zx ?_;with_reducible repeat' first|intro _|apply aI)
 all_goals try (exfalso;omega)
 ·exact j9 ⟨.ret _ _ (N7 (by subst_vars;rfl)),.nil⟩
 ·exact j9 ⟨.ret _ _ (N7 (d9c (k:=1) ‹_› (c4u ‹_› ‹_›) oM)),.nil⟩
 ·exact j9 ⟨.ret _ _ (N7 (d9d (k:=1) ‹_› (c4u ‹_› ‹_›) ‹_›)),.nil⟩
 ·have hd:=e5r (k:=1) ‹_› (c4u ‹_› ‹_›) oM ‹_›
  (refine H2 (fun (i:Nat) vs bs=>vs=[.str s.length (n7 s),.int .i64 i]∧bs=[]∧i≤s.length∧s8 s i=s8 s 1) (fun i=>s.length - i) 1 ⟨rfl,rfl,oM,rfl⟩ (by simp only [C4];omega) ?_;rintro self i vs bs ⟨rfl,rfl,hi,he⟩ ih;(refine Zx ?_;with_reducible repeat' first|intro _|apply aI);all_goals first | exact ih (i+1) _ _ ⟨rfl,rfl,oM,by rw [← he,c5r (i:=i) oM ‹_› ‹_›]⟩ oM | exact j9 ⟨.ret _ _ (N7 (by rw [hd,← he,b95 (i:=i) oM];exact decide_eq_true oM)),.nil⟩ | exact j9 ⟨.ret _ _ (N7 (by rw [hd,← he,b7g (i:=i) oM oM];exact decide_eq_false oM)),.nil⟩)
 ·exact j9 ⟨.ret _ _ (N7 (d9d (k:=0) ‹_› (d44 ‹_›) ‹_›)),.nil⟩
 ·have hd:=e5r (k:=0) ‹_› (d44 ‹_›) oM ‹_›
  (refine H2 (fun (i:Nat) vs bs=>vs=[.str s.length (n7 s),.int .i64 i]∧bs=[]∧i≤s.length∧s8 s i=s8 s 0) (fun i=>s.length - i) 0 ⟨rfl,rfl,oM,rfl⟩ (by simp only [C4];omega) ?_;rintro self i vs bs ⟨rfl,rfl,hi,he⟩ ih;(refine Zx ?_;with_reducible repeat' first|intro _|apply aI);all_goals first | exact ih (i+1) _ _ ⟨rfl,rfl,oM,by rw [← he,c5r (i:=i) oM ‹_› ‹_›]⟩ oM | exact j9 ⟨.ret _ _ (N7 (by rw [hd,← he,b95 (i:=i) oM];exact decide_eq_true oM)),.nil⟩ | exact j9 ⟨.ret _ _ (N7 (by rw [hd,← he,b7g (i:=i) oM oM];exact decide_eq_false oM)),.nil⟩)
 ·exact j9 ⟨.ret _ _ (N7 (d9c (k:=0) ‹_› (f6q ‹_›) oM)),.nil⟩
theorem d7n {s:i6} (h:C1 s=true) (h0:¬s=B5):∀ j,j6 s≤j→j < s.length→48≤bt s j∧bt s j≤57:=by
 intro j h1 h2
 simp [C1,h0] at h
 exact a01 s (j6 s) j h1 oM
theorem e0h:k9 77 (sp1 fun s=>.ret (.t [.c (.b (a1g s).1),.sl 1 ((a1g s).2.map dg)])):=n9 (fun fn h=>f5b h) [(114,_)] (.cons e6x .nil) fun U fn hfn ⟨s,hs⟩ vs bs hv hb=>by
 have hr:=hfn 114 _ rfl
 have hv:l7 [.c (.s s)] vs:=hv
 have hb:RBs [] bs:=hb
 show j5 U _ fun v bs'=>l8 (.ret (.t [.c (.b (a1g s).1),.sl 1 ((a1g s).2.map dg)])) v∧RBs [] bs'
 unfold r77
 (refine Zx ?_;intros)
 refine j4 hr ⟨s,hs⟩ (r:=.c (.b (C1 s))) rfl l5 .nil fun _ _ _ _=>?_
 (refine Zx ?_;with_reducible repeat' first|intro _|apply aI)
 ·have e:a1g s=(false,[]):=by unfold a1g;rw [if_neg];exact fun h=>h.2 ‹s=m8 1 48›
  exact j9 ⟨.ret _ _ (by rw [e];(exact l5)),.nil⟩
 ·have h1:=‹C1 s=true›
  have h2:¬s=B5:=‹_›
  have hd:=d7n h1 h2
  have hpos:j6 s < s.length:=by simp [C1,h2] at h1;omega
  have e:a1g s=(decide (j6 s=1),y7 s (j6 s) s.length []):=by unfold a1g;rw [if_pos ⟨h1,h2⟩]
  (refine Zx ?_;with_reducible repeat' first|intro _|apply aI)
  ·have es:=c4u (s:=s) oM ‹_›
   have h45:=‹((s.getD 0 0).toNat:Int)=45›
   rw [es] at hd e
   generalize hB:U.iEq _ _=B
   (refine H2 (fun (m:Nat) vs bs=>∃ (i:Int) (v:V) (acc:List Nat),vs=[.str s.length (n7 s),.bool B,.int .i64 1,.int .i64 i,v]∧bs=[.tok acc.length 1]∧a1e 0 1 (acc.map dg) v∧i=m - 1∧1≤m∧m≤s.length∧acc.length+m=s.length∧y7 s 1 m acc=y7 s 1 s.length []) (fun m=>m) s.length ⟨_,_,[],rfl,rfl,.b rfl,rfl,oM,oM,by simp,rfl⟩ (by simp only [C4];omega) ?_;rintro self m _ _ ⟨i,v,acc,rfl,rfl,ht,hi,hk,hm,ha,he⟩ ih;subst hi;(refine Zx ?_;with_reducible repeat' first|intro _|apply aI);(have h9:=hd (m - 1) oM oM;have hx:((s.getD ((m:Int) - 1).toNat 0).toNat:Int)=bt s (m - 1):=(by unfold bt;rw [show ((m:Int) - 1).toNat=m - 1 by omega]);refine d8g (m:=((bt s (m - 1) - 48).toNat:Int)) oM oM ?_;refine b3g (m:=((bt s (m - 1) - 48).toNat:Int)) rfl oM ?_;(refine Zx ?_;with_reducible repeat' first|intro _|apply aI);refine a2b aS (fun _=>L4 (by first | exact .i _ _ | exact .s _ _ _ rfl rfl | assumption)) (by rfl) (by simp) (by simp only [List.length_map];omega) fun _ _=>?_;(refine Zx ?_;with_reducible repeat' first|intro _|apply aI);refine ih (m - 1) _ _ ?_ oM;refine ⟨_,_,acc ++ [(bt s (m - 1) - 48).toNat],rfl,by simp,.a _ _ (by simp) (by rw [List.map_append];assumption),oM,oM,oM,by simp;omega,?_⟩;rw [← he];obtain ⟨m,rfl⟩:∃ n,m=n+1:=⟨m - 1,oM⟩;rw [y7,if_pos oM];rfl))
   have em:m=1:=oM
   subst em
   rw [show y7 s 1 1 acc=acc by simp [y7]] at he
   rw [e,← he]
   exact J3 fun eU=>by subst eU;exact ⟨.ret _ _ (.t _ _ (.k (U6 (by rw [← hB,a62];exact (decide_eq_true (rfl:1=1)).trans (decide_eq_true h45).symm)) (.k (.sl _ _ _ _ _ (by simp) aS) .nil))),.nil⟩
  ·have h45:=‹¬((s.getD 0 0).toNat:Int)=45›
   have es:=d44 h45
   rw [es] at hd e
   generalize hB:U.iEq _ _=B
   (refine H2 (fun (m:Nat) vs bs=>∃ (i:Int) (v:V) (acc:List Nat),vs=[.str s.length (n7 s),.bool B,.int .i64 0,.int .i64 i,v]∧bs=[.tok acc.length 1]∧a1e 0 1 (acc.map dg) v∧i=m - 1∧0≤m∧m≤s.length∧acc.length+m=s.length∧y7 s 0 m acc=y7 s 0 s.length []) (fun m=>m) s.length ⟨_,_,[],rfl,rfl,.b rfl,rfl,oM,oM,by simp,rfl⟩ (by simp only [C4];omega) ?_;rintro self m _ _ ⟨i,v,acc,rfl,rfl,ht,hi,hk,hm,ha,he⟩ ih;subst hi;(refine Zx ?_;with_reducible repeat' first|intro _|apply aI);(have h9:=hd (m - 1) oM oM;have hx:((s.getD ((m:Int) - 1).toNat 0).toNat:Int)=bt s (m - 1):=(by unfold bt;rw [show ((m:Int) - 1).toNat=m - 1 by omega]);refine d8g (m:=((bt s (m - 1) - 48).toNat:Int)) oM oM ?_;refine b3g (m:=((bt s (m - 1) - 48).toNat:Int)) rfl oM ?_;(refine Zx ?_;with_reducible repeat' first|intro _|apply aI);refine a2b aS (fun _=>L4 (by first | exact .i _ _ | exact .s _ _ _ rfl rfl | assumption)) (by rfl) (by simp) (by simp only [List.length_map];omega) fun _ _=>?_;(refine Zx ?_;with_reducible repeat' first|intro _|apply aI);refine ih (m - 1) _ _ ?_ oM;refine ⟨_,_,acc ++ [(bt s (m - 1) - 48).toNat],rfl,by simp,.a _ _ (by simp) (by rw [List.map_append];assumption),oM,oM,oM,by simp;omega,?_⟩;rw [← he];obtain ⟨m,rfl⟩:∃ n,m=n+1:=⟨m - 1,oM⟩;rw [y7,if_pos oM];rfl))
   have em:m=0:=oM
   subst em
   rw [show y7 s 0 0 acc=acc by simp [y7]] at he
   rw [e,← he]
   exact J3 fun eU=>by subst eU;exact ⟨.ret _ _ (.t _ _ (.k (U6 (by rw [← hB,a62];exact (decide_eq_false (by decide:¬0=1)).trans (decide_eq_false h45).symm)) (.k (.sl _ _ _ _ _ (by simp) aS) .nil))),.nil⟩
 ·have e:a1g s=(false,[]):=by unfold a1g;rw [if_neg];exact fun h=>absurd h.1 ‹_›
  exact j9 ⟨.ret _ _ (by rw [e];(exact l5)),.nil⟩
section
variable {U:v8} {P:L6→List Bx→Prop}
theorem b3f {l:List Nat} {t:j8 Q} {off:Nat} {i:Int} (n:Nat) {K:Q→Om} (ht:p9 1 (l.map dg) t off) (hn:i=n) (hi:n < l.length) (h:∀ x,A6 (dg (l.getD n 0)) x 0→j5 U (K x) P):j5 U (U.fQ (U.tQ t (U.nAdd off (U.iNat i))) K) P:=by
 subst hn
 refine c1e (y:=l.getD n 0) ht ?_ h
 rw [Int.toNat_natCast,List.getElem?_eq_getElem hi]
 simp [List.getD,List.getElem?_eq_getElem hi]
end
def spL (R:List Nat→r7):Sp where
 ι:={ l:List Nat // l.length < 90000 }
 A l:=[.sl 1 (l.1.map dg)]
 B _:=[]
 R l:=R l.1
 B' _:=[]
 inj i j vs bs h k _ _:=by
  obtain ⟨_,_,h1,k1,h,k⟩:=h.two k
  rw [a0s (h1.sl_inj k1)];exact ⟨rfl,rfl⟩
theorem d30:k9 115 (spL fun l=>.ret (.sl 1 ((G0 l).map dg))):=n9 (fun fn h=>e72 h) [] .nil fun U fn hfn ⟨l,hs⟩ vs bs hv hb=>by
 have hv:l7 [.sl 1 (l.map dg)] vs:=hv
 have hb:RBs [] bs:=hb
 show j5 U _ fun v bs'=>l8 (.ret (.sl 1 ((G0 l).map dg))) v∧RBs [] bs'
 unfold e1y
 (refine Zx ?_;intros)
 refine H2 (fun (m:Nat) vs bs=>∃ (t:j8 Q) (off:Nat),vs=[.slice t 1 off l.length .no,.int .i64 m]∧bs=[]∧p9 1 (l.map dg) t off∧m≤l.length∧V9 l m=V9 l l.length) (fun m=>m) l.length ⟨_,_,rfl,rfl,aS,oM,rfl⟩ (by simp only [C4];omega) ?_
 rintro self m _ _ ⟨t,off,rfl,rfl,ht,hm,he⟩ ih
 (refine Zx ?_;with_reducible repeat' first|intro _|apply aI)
 ·refine b3f (m - 1) aS oM oM fun _ _=>?_
  (refine Zx ?_;with_reducible repeat' first|intro _|apply aI)
  ·refine ih (m - 1) _ _ ⟨_,_,by rw [show ((m - 1:Nat):Int)=(m:Int) - 1 by omega],rfl,ht,oM,?_⟩ oM
   have h0:=‹((l.getD (m - 1) 0:Nat):Int)=0›
   obtain ⟨m,rfl⟩:∃ n,m=n+1:=⟨m - 1,oM⟩
   rw [← he,V9,if_pos (by simpa using h0)];rfl
  ·have h0:=‹¬((l.getD (m - 1) 0:Nat):Int)=0›
   have e:G0 l=l.take m:=by
    obtain ⟨m,rfl⟩:∃ n,m=n+1:=⟨m - 1,oM⟩
    unfold G0
    rw [← he,V9,if_neg (by simpa using h0)]
   rw [e,List.map_take]
   exact j9 ⟨.ret _ _ (.sl _ _ _ _ _ (by simp;omega) (ht.take m)),.nil⟩
 ·have em:m=0:=oM
  subst em
  have e:G0 l=l.take 0:=by unfold G0;rw [← he];rfl
  rw [e,List.map_take]
  exact j9 ⟨.ret _ _ (.sl _ _ _ _ _ (by simp) (ht.take 0)),.nil⟩
theorem b7s {l:List Nat} {i:Nat} (h:i < l.length):l[i]=l.getD i 0:=by simp [List.getD,List.getElem?_eq_getElem h]
theorem D9.at {l:List Nat} (h:D9 l) (i:Nat):l.getD i 0≤9:=by
 by_cases hi:i < l.length
 ·rw [← b7s hi];exact h _ (List.getElem_mem _)
 ·simp [List.getD,List.getElem?_eq_none (Nat.le_of_not_lt hi)]
def f6v (ok:List Nat→List Nat→Prop) (R:List Nat→List Nat→r7):Sp where
 ι:={ p:List Nat × List Nat // p.1.length < 90000∧p.2.length < 90000∧ok p.1 p.2 }
 A p:=[.sl 1 (p.1.1.map dg),.sl 1 (p.1.2.map dg)]
 B _:=[]
 R p:=R p.1.1 p.1.2
 B' _:=[]
 inj i j vs bs h k _ _:=by
  obtain ⟨_,_,h1,k1,h,k⟩:=h.two k
  obtain ⟨_,_,h2,k2,h,k⟩:=h.two k
  rw [a0s (h1.sl_inj k1),a0s (h2.sl_inj k2)];exact ⟨rfl,rfl⟩
theorem f03:k9 116 (f6v (fun _ _=>True) fun a b=>.ret (.c (.i .i64 (T7 a b)))):=n9 (fun fn h=>e73 h) [] .nil fun U fn hfn ⟨(a,b),ha,hbl,_⟩ vs bs hv hb=>by
 have ha:a.length < 90000:=ha
 have hbl:b.length < 90000:=hbl
 have hv:l7 [.sl 1 (a.map dg),.sl 1 (b.map dg)] vs:=hv
 have hb:RBs [] bs:=hb
 show j5 U _ fun v bs'=>l8 (.ret (.c (.i .i64 (T7 a b)))) v∧RBs [] bs'
 unfold e1z
 (refine Zx ?_;with_reducible repeat' first|intro _|apply aI)
 ·have hl:a.length=b.length:=oM
  have e:T7 a b=H0 a b a.length:=by unfold T7;rw [if_pos hl]
  rw [e]
  refine H2 (fun (m:Nat) vs bs=>∃ (t:j8 Q) (off:Nat) (t':j8 Q) (off':Nat) (i:Int),vs=[.slice t 1 off a.length .no,.slice t' 1 off' b.length .no,.int .i64 i]∧bs=[]∧i=m - 1∧p9 1 (a.map dg) t off∧p9 1 (b.map dg) t' off'∧m≤a.length∧H0 a b m=H0 a b a.length) (fun m=>m) a.length ⟨_,_,_,_,_,rfl,rfl,rfl,aS,aS,oM,rfl⟩ (by simp only [C4];omega) ?_
  rintro self m _ _ ⟨t,off,t',off',i,rfl,rfl,rfl,ht,ht',hm,he⟩ ih
  (refine Zx ?_;with_reducible repeat' first|intro _|apply aI)
  ·refine b3f (m - 1) aS oM oM fun _ _=>?_
   (refine Zx ?_;intros)
   refine b3f (m - 1) aS oM oM fun _ _=>?_
   (refine Zx ?_;with_reducible repeat' first|intro _|apply aI)
   ·obtain ⟨m,rfl⟩:∃ n,m=n+1:=⟨m - 1,oM⟩
    exact j9 ⟨.ret _ _ (rvI (by rw [← he,H0,if_pos (by simp only [Nat.add_sub_cancel] at *;omega)])),.nil⟩
   ·refine b3f (m - 1) aS oM oM fun _ _=>?_
    (refine Zx ?_;intros)
    refine b3f (m - 1) aS oM oM fun _ _=>?_
    (refine Zx ?_;with_reducible repeat' first|intro _|apply aI)
    ·obtain ⟨m,rfl⟩:∃ n,m=n+1:=⟨m - 1,oM⟩
     exact j9 ⟨.ret _ _ (rvI (by rw [← he,H0,if_neg (by simp only [Nat.add_sub_cancel] at *;omega),if_pos (by simp only [Nat.add_sub_cancel] at *;omega)])),.nil⟩
    ·refine ih (m - 1) _ _ ?_ oM
     obtain ⟨m,rfl⟩:∃ n,m=n+1:=⟨m - 1,oM⟩
     exact ⟨_,_,_,_,_,rfl,rfl,oM,ht,ht',oM,by rw [← he,Nat.add_sub_cancel];conv=>rhs;rw [H0,if_neg (by simp only [Nat.add_sub_cancel] at *;omega),if_neg (by simp only [Nat.add_sub_cancel] at *;omega)]⟩
  ·have em:m=0:=oM
   subst em
   exact j9 ⟨.ret _ _ (rvI (by rw [← he];rfl)),.nil⟩
 ·exact j9 ⟨.ret _ _ (rvI (by unfold T7;rw [if_neg oM,if_pos oM])),.nil⟩
 ·exact j9 ⟨.ret _ _ (rvI (by unfold T7;rw [if_neg oM,if_neg oM])),.nil⟩
end
end Go.Proofs.YtdldcfllnohkeaaGreatDoor
