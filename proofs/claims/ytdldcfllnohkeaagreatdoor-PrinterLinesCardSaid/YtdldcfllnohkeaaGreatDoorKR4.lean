/- The reference's numbers: decimal strings. -/
import Derived.Test.YtdldcfllnohkeaaGreatDoorKL0
import Derived.Test.YtdldcfllnohkeaaGreatDoorKP
set_option linter.all false
namespace Go.Proofs.YtdldcfllnohkeaaGreatDoor
open Go.Abs LQ
set_option maxRecDepth 100000
set_option maxHeartbeats 4000000
noncomputable section
def dg (d:Nat):List G:=[.i .i64 (d:Int)]
theorem e66 {a b:Nat} (h:dg a=dg b):a=b:=by simp only [dg,List.cons.injEq,G.i.injEq,and_true,true_and] at h;omega
theorem X5:∀ {l m:List Nat},l.map dg=m.map dg→l=m
 | [],[],_=>rfl
 | [],_ :: _,h=>by simp at h
 | _ :: _,[],h=>by simp at h
 | a :: l,b :: m,h=>by simp only [List.map_cons,List.cons.injEq] at h;exact congr (congrArg List.cons (e66 h.1)) (X5 h.2)
theorem F7 {a b:f5} {v:V} (h:RV (.c (.s a)) v) (k:RV (.c (.s b)) v):a=b:=by have:=h.c_inj k;injection this
theorem c1j {a b:Bool} {v:V} (h:RV (.c (.b a)) v) (k:RV (.c (.b b)) v):a=b:=by have:=h.c_inj k;injection this
theorem a0l {c:IntKind} {a b:Int} {v:V} (h:RV (.c (.i c a)) v) (k:RV (.c (.i c b)) v):a=b:=by have:=h.c_inj k;injection this
theorem a4x {c:Int}:Q4 c=true↔48≤c∧c≤57:=by simp [Q4]
theorem c2w {s:f5} {i:Nat} (h:i < s.length) (h1:¬((s.getD i 0).toNat:Int) < 48) (h2:¬57 < ((s.getD i 0).toNat:Int)):j7 s i=j7 s (i+1):=by
 rw [j7,if_pos h,if_pos (a4x.2 (by unfold bt;omega))]
theorem b5d {s:f5} {i:Nat} (h:i < s.length) (h1:((s.getD i 0).toNat:Int) < 48∨57 < ((s.getD i 0).toNat:Int)):j7 s i=i:=by
 rw [j7,if_pos h,if_neg (mt a4x.1 (by unfold bt;omega))]
theorem b7t {s:f5} {i:Nat} (h:¬i < s.length):j7 s i=i:=by
 rw [j7,if_neg h]
theorem c10 {s:f5} (h:0 < (s.length:Int)) (h2:((s.getD 0 0).toNat:Int)=45):g8 s=1:=by unfold g8;rw [if_pos ⟨oM,h2⟩]
theorem d1y {s:f5} (h2:¬((s.getD 0 0).toNat:Int)=45):g8 s=0:=by unfold g8;rw [if_neg (fun h=>h2 h.2)]
theorem f3b {s:f5} (h:¬0 < (s.length:Int)):g8 s=0:=by unfold g8;rw [if_neg (fun k=>by omega)]
theorem d57 {s:f5} {k:Nat} (h0:¬s=k6 1 48) (h1:g8 s=k) (h:s.length≤k):x9 s=false:=by
 have h0:¬s=x5:=h0
 simp [x9,h0,h1];omega
theorem d58 {s:f5} {k:Nat} (h0:¬s=k6 1 48) (h1:g8 s=k) (h:((s.getD k 0).toNat:Int)=48):x9 s=false:=by
 have h0:¬s=x5:=h0
 have h:bt s k=48:=h
 simp [x9,h0,h1,h]
theorem e2h {s:f5} {k:Nat} (h0:¬s=k6 1 48) (h1:g8 s=k) (h2:k < s.length) (h:¬((s.getD k 0).toNat:Int)=48):x9 s=decide (j7 s k=s.length):=by
 have h0:¬s=x5:=h0
 have h:¬bt s k=48:=h
 have:k < s.length:=oM
 simp [x9,h0,h1,h,this]
def sp1 (R:f5→n6):Sp where
 ι:={ s:f5 // s.length < 90000 }
 A s:=[.c (.s s.1)]
 B _:=[]
 R s:=R s.1
 B' _:=[]
 inj i j vs bs h k _ _:=by
  obtain ⟨_,_,h1,k1,h,k⟩:=h.two k
  rw [F7 h1 k1];exact ⟨rfl,rfl⟩
theorem e3r:j3 114 (sp1 fun s=>.ret (.c (.b (x9 s)))):=k7 (fun fn h=>e4q h) [] .nil fun U fn hfn ⟨s,hs⟩ vs bs hv hb=>by
 have hv:j5 [.c (.s s)] vs:=hv
 have hb:RBs [] bs:=hb
 show g7 U _ fun v bs'=>j6 (.ret (.c (.b (x9 s)))) v∧RBs [] bs'
 unfold d8w
 (refine Zx ?_;with_reducible repeat' first|intro _|apply aI)
 all_goals try (exfalso;omega)
 ·exact g9 ⟨.ret _ _ (G2 (by subst_vars;rfl)),.nil⟩
 ·exact g9 ⟨.ret _ _ (G2 (d57 (k:=1) ‹_› (c10 ‹_› ‹_›) oM)),.nil⟩
 ·exact g9 ⟨.ret _ _ (G2 (d58 (k:=1) ‹_› (c10 ‹_› ‹_›) ‹_›)),.nil⟩
 ·have hd:=e2h (k:=1) ‹_› (c10 ‹_› ‹_›) oM ‹_›
  (refine E1 (fun (i:Nat) vs bs=>vs=[.str s.length (j9 s),.int .i64 i]∧bs=[]∧i≤s.length∧j7 s i=j7 s 1) (fun i=>s.length - i) 1 ⟨rfl,rfl,oM,rfl⟩ (by simp only [x8];omega) ?_;rintro self i vs bs ⟨rfl,rfl,hi,he⟩ ih;(refine Zx ?_;with_reducible repeat' first|intro _|apply aI);all_goals first | exact ih (i+1) _ _ ⟨rfl,rfl,oM,by rw [← he,c2w (i:=i) oM ‹_› ‹_›]⟩ oM | exact g9 ⟨.ret _ _ (G2 (by rw [hd,← he,b7t (i:=i) oM];exact decide_eq_true oM)),.nil⟩ | exact g9 ⟨.ret _ _ (G2 (by rw [hd,← he,b5d (i:=i) oM oM];exact decide_eq_false oM)),.nil⟩)
 ·exact g9 ⟨.ret _ _ (G2 (d58 (k:=0) ‹_› (d1y ‹_›) ‹_›)),.nil⟩
 ·have hd:=e2h (k:=0) ‹_› (d1y ‹_›) oM ‹_›
  (refine E1 (fun (i:Nat) vs bs=>vs=[.str s.length (j9 s),.int .i64 i]∧bs=[]∧i≤s.length∧j7 s i=j7 s 0) (fun i=>s.length - i) 0 ⟨rfl,rfl,oM,rfl⟩ (by simp only [x8];omega) ?_;rintro self i vs bs ⟨rfl,rfl,hi,he⟩ ih;(refine Zx ?_;with_reducible repeat' first|intro _|apply aI);all_goals first | exact ih (i+1) _ _ ⟨rfl,rfl,oM,by rw [← he,c2w (i:=i) oM ‹_› ‹_›]⟩ oM | exact g9 ⟨.ret _ _ (G2 (by rw [hd,← he,b7t (i:=i) oM];exact decide_eq_true oM)),.nil⟩ | exact g9 ⟨.ret _ _ (G2 (by rw [hd,← he,b5d (i:=i) oM oM];exact decide_eq_false oM)),.nil⟩)
 ·exact g9 ⟨.ret _ _ (G2 (d57 (k:=0) ‹_› (f3b ‹_›) oM)),.nil⟩
theorem d4l {s:f5} (h:x9 s=true) (h0:¬s=x5):∀ j,g8 s≤j→j < s.length→48≤bt s j∧bt s j≤57:=by
 intro j h1 h2
 simp [x9,h0] at h
 exact Y2 s (g8 s) j h1 oM
theorem d7f:j3 77 (sp1 fun s=>.ret (.t [.c (.b (Z4 s).1),.sl 1 ((Z4 s).2.map dg)])):=k7 (fun fn h=>f1c h) [(114,_)] (.cons e3r .nil) fun U fn hfn ⟨s,hs⟩ vs bs hv hb=>by
 have hr:=hfn 114 _ rfl
 have hv:j5 [.c (.s s)] vs:=hv
 have hb:RBs [] bs:=hb
 show g7 U _ fun v bs'=>j6 (.ret (.t [.c (.b (Z4 s).1),.sl 1 ((Z4 s).2.map dg)])) v∧RBs [] bs'
 unfold r77
 (refine Zx ?_;intros)
 refine f6 hr ⟨s,hs⟩ (r:=.c (.b (x9 s))) rfl j4 .nil fun _ _ _ _=>?_
 (refine Zx ?_;with_reducible repeat' first|intro _|apply aI)
 ·have e:Z4 s=(false,[]):=by unfold Z4;rw [if_neg];exact fun h=>h.2 ‹s=k6 1 48›
  exact g9 ⟨.ret _ _ (by rw [e];(exact j4)),.nil⟩
 ·have h1:=‹x9 s=true›
  have h2:¬s=x5:=‹_›
  have hd:=d4l h1 h2
  have hpos:g8 s < s.length:=by simp [x9,h2] at h1;omega
  have e:Z4 s=(decide (g8 s=1),u1 s (g8 s) s.length []):=by unfold Z4;rw [if_pos ⟨h1,h2⟩]
  (refine Zx ?_;with_reducible repeat' first|intro _|apply aI)
  ·have es:=c10 (s:=s) oM ‹_›
   have h45:=‹((s.getD 0 0).toNat:Int)=45›
   rw [es] at hd e
   generalize hB:U.iEq _ _=B
   (refine E1 (fun (m:Nat) vs bs=>∃ (i:Int) (v:V) (acc:List Nat),vs=[.str s.length (j9 s),.bool B,.int .i64 1,.int .i64 i,v]∧bs=[.tok acc.length 1]∧a0o 0 1 (acc.map dg) v∧i=m - 1∧1≤m∧m≤s.length∧acc.length+m=s.length∧u1 s 1 m acc=u1 s 1 s.length []) (fun m=>m) s.length ⟨_,_,[],rfl,rfl,.b rfl,rfl,oM,oM,by simp,rfl⟩ (by simp only [x8];omega) ?_;rintro self m _ _ ⟨i,v,acc,rfl,rfl,ht,hi,hk,hm,ha,he⟩ ih;subst hi;(refine Zx ?_;with_reducible repeat' first|intro _|apply aI);(have h9:=hd (m - 1) oM oM;have hx:((s.getD ((m:Int) - 1).toNat 0).toNat:Int)=bt s (m - 1):=(by unfold bt;rw [show ((m:Int) - 1).toNat=m - 1 by omega]);refine d5c (m:=((bt s (m - 1) - 48).toNat:Int)) oM oM ?_;refine b1v (m:=((bt s (m - 1) - 48).toNat:Int)) rfl oM ?_;(refine Zx ?_;with_reducible repeat' first|intro _|apply aI);refine T6 aS (fun _=>E7 (by first | exact .i _ _ | exact .s _ _ _ rfl rfl | assumption)) (by rfl) (by simp) (by simp only [List.length_map];omega) fun _ _=>?_;(refine Zx ?_;with_reducible repeat' first|intro _|apply aI);refine ih (m - 1) _ _ ?_ oM;refine ⟨_,_,acc ++ [(bt s (m - 1) - 48).toNat],rfl,by simp,.a _ _ (by simp) (by rw [List.map_append];assumption),oM,oM,oM,by simp;omega,?_⟩;rw [← he];obtain ⟨m,rfl⟩:∃ n,m=n+1:=⟨m - 1,oM⟩;rw [u1,if_pos oM];rfl))
   have em:m=1:=oM
   subst em
   rw [show u1 s 1 1 acc=acc by simp [u1]] at he
   rw [e,← he]
   exact G7 fun eU=>by subst eU;exact ⟨.ret _ _ (.t _ _ (.k (P9 (by rw [← hB,a5a];exact (decide_eq_true (rfl:1=1)).trans (decide_eq_true h45).symm)) (.k (.sl _ _ _ _ _ (by simp) aS) .nil))),.nil⟩
  ·have h45:=‹¬((s.getD 0 0).toNat:Int)=45›
   have es:=d1y h45
   rw [es] at hd e
   generalize hB:U.iEq _ _=B
   (refine E1 (fun (m:Nat) vs bs=>∃ (i:Int) (v:V) (acc:List Nat),vs=[.str s.length (j9 s),.bool B,.int .i64 0,.int .i64 i,v]∧bs=[.tok acc.length 1]∧a0o 0 1 (acc.map dg) v∧i=m - 1∧0≤m∧m≤s.length∧acc.length+m=s.length∧u1 s 0 m acc=u1 s 0 s.length []) (fun m=>m) s.length ⟨_,_,[],rfl,rfl,.b rfl,rfl,oM,oM,by simp,rfl⟩ (by simp only [x8];omega) ?_;rintro self m _ _ ⟨i,v,acc,rfl,rfl,ht,hi,hk,hm,ha,he⟩ ih;subst hi;(refine Zx ?_;with_reducible repeat' first|intro _|apply aI);(have h9:=hd (m - 1) oM oM;have hx:((s.getD ((m:Int) - 1).toNat 0).toNat:Int)=bt s (m - 1):=(by unfold bt;rw [show ((m:Int) - 1).toNat=m - 1 by omega]);refine d5c (m:=((bt s (m - 1) - 48).toNat:Int)) oM oM ?_;refine b1v (m:=((bt s (m - 1) - 48).toNat:Int)) rfl oM ?_;(refine Zx ?_;with_reducible repeat' first|intro _|apply aI);refine T6 aS (fun _=>E7 (by first | exact .i _ _ | exact .s _ _ _ rfl rfl | assumption)) (by rfl) (by simp) (by simp only [List.length_map];omega) fun _ _=>?_;(refine Zx ?_;with_reducible repeat' first|intro _|apply aI);refine ih (m - 1) _ _ ?_ oM;refine ⟨_,_,acc ++ [(bt s (m - 1) - 48).toNat],rfl,by simp,.a _ _ (by simp) (by rw [List.map_append];assumption),oM,oM,oM,by simp;omega,?_⟩;rw [← he];obtain ⟨m,rfl⟩:∃ n,m=n+1:=⟨m - 1,oM⟩;rw [u1,if_pos oM];rfl))
   have em:m=0:=oM
   subst em
   rw [show u1 s 0 0 acc=acc by simp [u1]] at he
   rw [e,← he]
   exact G7 fun eU=>by subst eU;exact ⟨.ret _ _ (.t _ _ (.k (P9 (by rw [← hB,a5a];exact (decide_eq_false (by decide:¬0=1)).trans (decide_eq_false h45).symm)) (.k (.sl _ _ _ _ _ (by simp) aS) .nil))),.nil⟩
 ·have e:Z4 s=(false,[]):=by unfold Z4;rw [if_neg];exact fun h=>absurd h.1 ‹_›
  exact g9 ⟨.ret _ _ (by rw [e];(exact j4)),.nil⟩
section
variable {U:s7} {P:J7→List Bx→Prop}
theorem b1u {l:List Nat} {t:i7 Q} {off:Nat} {i:Int} (n:Nat) {K:Q→Om} (ht:m7 1 (l.map dg) t off) (hn:i=n) (hi:n < l.length) (h:∀ x,u6 (dg (l.getD n 0)) x 0→g7 U (K x) P):g7 U (U.fQ (U.tQ t (U.nAdd off (U.iNat i))) K) P:=by
 subst hn
 refine d1v (y:=l.getD n 0) ht ?_ h
 rw [Int.toNat_natCast,List.getElem?_eq_getElem hi]
 simp [List.getD,List.getElem?_eq_getElem hi]
end
def spL (R:List Nat→n6):Sp where
 ι:={ l:List Nat // l.length < 90000 }
 A l:=[.sl 1 (l.1.map dg)]
 B _:=[]
 R l:=R l.1
 B' _:=[]
 inj i j vs bs h k _ _:=by
  obtain ⟨_,_,h1,k1,h,k⟩:=h.two k
  rw [X5 (h1.sl_inj k1)];exact ⟨rfl,rfl⟩
theorem d0p:j3 115 (spL fun l=>.ret (.sl 1 ((E3 l).map dg))):=k7 (fun fn h=>e4r h) [] .nil fun U fn hfn ⟨l,hs⟩ vs bs hv hb=>by
 have hv:j5 [.sl 1 (l.map dg)] vs:=hv
 have hb:RBs [] bs:=hb
 show g7 U _ fun v bs'=>j6 (.ret (.sl 1 ((E3 l).map dg))) v∧RBs [] bs'
 unfold d8x
 (refine Zx ?_;intros)
 refine E1 (fun (m:Nat) vs bs=>∃ (t:i7 Q) (off:Nat),vs=[.slice t 1 off l.length .no,.int .i64 m]∧bs=[]∧m7 1 (l.map dg) t off∧m≤l.length∧S7 l m=S7 l l.length) (fun m=>m) l.length ⟨_,_,rfl,rfl,aS,oM,rfl⟩ (by simp only [x8];omega) ?_
 rintro self m _ _ ⟨t,off,rfl,rfl,ht,hm,he⟩ ih
 (refine Zx ?_;with_reducible repeat' first|intro _|apply aI)
 ·refine b1u (m - 1) aS oM oM fun _ _=>?_
  (refine Zx ?_;with_reducible repeat' first|intro _|apply aI)
  ·refine ih (m - 1) _ _ ⟨_,_,by rw [show ((m - 1:Nat):Int)=(m:Int) - 1 by omega],rfl,ht,oM,?_⟩ oM
   have h0:=‹((l.getD (m - 1) 0:Nat):Int)=0›
   obtain ⟨m,rfl⟩:∃ n,m=n+1:=⟨m - 1,oM⟩
   rw [← he,S7,if_pos (by simpa using h0)];rfl
  ·have h0:=‹¬((l.getD (m - 1) 0:Nat):Int)=0›
   have e:E3 l=l.take m:=by
    obtain ⟨m,rfl⟩:∃ n,m=n+1:=⟨m - 1,oM⟩
    unfold E3
    rw [← he,S7,if_neg (by simpa using h0)]
   rw [e,List.map_take]
   exact g9 ⟨.ret _ _ (.sl _ _ _ _ _ (by simp;omega) (ht.take m)),.nil⟩
 ·have em:m=0:=oM
  subst em
  have e:E3 l=l.take 0:=by unfold E3;rw [← he];rfl
  rw [e,List.map_take]
  exact g9 ⟨.ret _ _ (.sl _ _ _ _ _ (by simp) (ht.take 0)),.nil⟩
theorem b5p {l:List Nat} {i:Nat} (h:i < l.length):l[i]=l.getD i 0:=by simp [List.getD,List.getElem?_eq_getElem h]
theorem D9.at {l:List Nat} (h:D9 l) (i:Nat):l.getD i 0≤9:=by
 by_cases hi:i < l.length
 ·rw [← b5p hi];exact h _ (List.getElem_mem _)
 ·simp [List.getD,List.getElem?_eq_none (Nat.le_of_not_lt hi)]
def f3i (ok:List Nat→List Nat→Prop) (R:List Nat→List Nat→n6):Sp where
 ι:={ p:List Nat × List Nat // p.1.length < 90000∧p.2.length < 90000∧ok p.1 p.2 }
 A p:=[.sl 1 (p.1.1.map dg),.sl 1 (p.1.2.map dg)]
 B _:=[]
 R p:=R p.1.1 p.1.2
 B' _:=[]
 inj i j vs bs h k _ _:=by
  obtain ⟨_,_,h1,k1,h,k⟩:=h.two k
  obtain ⟨_,_,h2,k2,h,k⟩:=h.two k
  rw [X5 (h1.sl_inj k1),X5 (h2.sl_inj k2)];exact ⟨rfl,rfl⟩
theorem e7m:j3 116 (f3i (fun _ _=>True) fun a b=>.ret (.c (.i .i64 (Q0 a b)))):=k7 (fun fn h=>e4s h) [] .nil fun U fn hfn ⟨(a,b),ha,hbl,_⟩ vs bs hv hb=>by
 have ha:a.length < 90000:=ha
 have hbl:b.length < 90000:=hbl
 have hv:j5 [.sl 1 (a.map dg),.sl 1 (b.map dg)] vs:=hv
 have hb:RBs [] bs:=hb
 show g7 U _ fun v bs'=>j6 (.ret (.c (.i .i64 (Q0 a b)))) v∧RBs [] bs'
 unfold d8y
 (refine Zx ?_;with_reducible repeat' first|intro _|apply aI)
 ·have hl:a.length=b.length:=oM
  have e:Q0 a b=F3 a b a.length:=by unfold Q0;rw [if_pos hl]
  rw [e]
  refine E1 (fun (m:Nat) vs bs=>∃ (t:i7 Q) (off:Nat) (t':i7 Q) (off':Nat) (i:Int),vs=[.slice t 1 off a.length .no,.slice t' 1 off' b.length .no,.int .i64 i]∧bs=[]∧i=m - 1∧m7 1 (a.map dg) t off∧m7 1 (b.map dg) t' off'∧m≤a.length∧F3 a b m=F3 a b a.length) (fun m=>m) a.length ⟨_,_,_,_,_,rfl,rfl,rfl,aS,aS,oM,rfl⟩ (by simp only [x8];omega) ?_
  rintro self m _ _ ⟨t,off,t',off',i,rfl,rfl,rfl,ht,ht',hm,he⟩ ih
  (refine Zx ?_;with_reducible repeat' first|intro _|apply aI)
  ·refine b1u (m - 1) aS oM oM fun _ _=>?_
   (refine Zx ?_;intros)
   refine b1u (m - 1) aS oM oM fun _ _=>?_
   (refine Zx ?_;with_reducible repeat' first|intro _|apply aI)
   ·obtain ⟨m,rfl⟩:∃ n,m=n+1:=⟨m - 1,oM⟩
    exact g9 ⟨.ret _ _ (rvI (by rw [← he,F3,if_pos (by simp only [Nat.add_sub_cancel] at *;omega)])),.nil⟩
   ·refine b1u (m - 1) aS oM oM fun _ _=>?_
    (refine Zx ?_;intros)
    refine b1u (m - 1) aS oM oM fun _ _=>?_
    (refine Zx ?_;with_reducible repeat' first|intro _|apply aI)
    ·obtain ⟨m,rfl⟩:∃ n,m=n+1:=⟨m - 1,oM⟩
     exact g9 ⟨.ret _ _ (rvI (by rw [← he,F3,if_neg (by simp only [Nat.add_sub_cancel] at *;omega),if_pos (by simp only [Nat.add_sub_cancel] at *;omega)])),.nil⟩
    ·refine ih (m - 1) _ _ ?_ oM
     obtain ⟨m,rfl⟩:∃ n,m=n+1:=⟨m - 1,oM⟩
     exact ⟨_,_,_,_,_,rfl,rfl,oM,ht,ht',oM,by rw [← he,Nat.add_sub_cancel];conv=>rhs;rw [F3,if_neg (by simp only [Nat.add_sub_cancel] at *;omega),if_neg (by simp only [Nat.add_sub_cancel] at *;omega)]⟩
  ·have em:m=0:=oM
   subst em
   exact g9 ⟨.ret _ _ (rvI (by rw [← he];rfl)),.nil⟩
 ·exact g9 ⟨.ret _ _ (rvI (by unfold Q0;rw [if_neg oM,if_pos oM])),.nil⟩
 ·exact g9 ⟨.ret _ _ (rvI (by unfold Q0;rw [if_neg oM,if_neg oM])),.nil⟩
end
end Go.Proofs.YtdldcfllnohkeaaGreatDoor
