/- The program's reader: the token that begins with a word. -/
import Derived.Test.YtdldcfllnohkeaaGreatDoorCEG
set_option linter.all false
namespace Go.Proofs.YtdldcfllnohkeaaGreatDoor
open Go.Abs LQ
set_option maxRecDepth 100000
set_option maxHeartbeats 8000000
noncomputable section
def pT0 (i:Nat):x5:=⟨0,i,[],[],[]⟩
def g2f:Sp where
 ι:={ q:i6 × Nat × i6 × Nat // q.2.2.2≤q.1.length∧q.1.length < 8000∧0 < q.2.2.1.length∧q.2.2.1.length < 8000 }
 A q:=[.p 0 0,.a (A7 (pT0 q.1.2.1)),.c (.s q.1.2.2.1)]
 B q:=[J4 q.1.1 q.1.2.2.2]
 R q:=a5k (wdS q.1.1 q.1.2.1 q.1.2.2.1 q.1.2.2.2)
 B' q:=[J4 q.1.1 (tokB q.1.2.2.2 (wdS q.1.1 q.1.2.1 q.1.2.2.1 q.1.2.2.2))]
 inj i j vs bs hv kv h k:=by
  have e1:=a6t (RBs.one_inj h k)
  obtain ⟨_,_,_,_,hv,kv⟩:=hv.two kv
  obtain ⟨_,_,h2,k2,hv,kv⟩:=hv.two kv
  obtain ⟨_,_,h3,k3,_,_⟩:=hv.two kv
  have e2:=congrArg x5.pos (b4q (h2.a_inj k2))
  have e2:i.1.2.1=j.1.2.1:=e2
  rw [e1.1,e1.2,e2,H3 h3 k3];exact ⟨rfl,rfl⟩
theorem b44 {t p:i6} (h:0 < t.length):u1 t p true=u1 t p false:=by
 unfold u1
 have:((true=true∧t.length=0)∨(p.length ≠ 0∧t6 p=false))↔((false=true∧t.length=0)∨(p.length ≠ 0∧t6 p=false)):=⟨fun h=>h.elim (fun h=>by omega) .inr,fun h=>h.elim (fun h=>by cases h.1) .inr⟩
 by_cases h1:40 < t.length
 ·rw [if_pos h1,if_pos h1]
 ·rw [if_neg h1,if_neg h1]
  by_cases h2:(true=true∧t.length=0)∨(p.length ≠ 0∧t6 p=false)
  ·rw [if_pos h2,if_pos (this.1 h2)]
  ·rw [if_neg h2,if_neg (fun h=>h2 (this.2 h))]
theorem c3p {s:i6} {i:Nat} (h:i < s.length) (hc:A5 (bt s i)=true):0 < (K0 s i).length:=by
 have h1:=e5s h hc
 have h2:=I9 s (i+1) oM
 unfold K0;simp;omega
theorem e0z (w:i6):(A8 w).1.length≤w.length∧(A8 w).2.length≤max 1 w.length:=by
 unfold A8 K6
 split <;> simp [Q3] <;> omega
theorem e9z {s:i6} {i k:Nat} {w:i6} (h:has s k 58 58=true):wdS s i w k=L0 s i w k:=by unfold wdS;rw [if_pos h]
theorem e90 {s:i6} {i k:Nat} {w:i6} (h:¬has s k 58 58=true):wdS s i w k=F6 i w k:=by unfold wdS;rw [if_neg h]
theorem e7o {s p:i6} {i k:Nat} (h:k+2 < s.length):L0 s i p k=if bt s (k+2)=124 then (match J5 s 124 (k+2+1) [] with
  | .error e=>.error e
  | .ok (l,j)=>if u1 (G3 l) p true=0 then .ok (⟨6,i,p,G3 l,u7⟩,j) else .error (u1 (G3 l) p true,i))
 else if A5 (bt s (k+2)) then (if u1 (K0 s (k+2)) p false=0 then .ok (⟨6,i,p,K0 s (k+2),u7⟩,n5 s (k+2)) else .error (u1 (K0 s (k+2)) p false,i))
 else .error (12,k+2):=by rw [L0,if_pos h];rfl
theorem e60 (hst:k9 179 Y2) (hdl:k9 109 b9b):k9 112 g2f:=n9 (fun fn h=>e7z h) [(134,_),(108,_),(45,_),(109,_),(111,_),(113,_),(110,_),(138,_),(139,_),(140,_),(129,_),(141,_)] (.cons c0j (.cons b71 (.cons b39 (.cons hdl (.cons b57 (.cons e4s (.cons (d1g hst) (.cons e0k (.cons d64 (.cons f06 (.cons (b58 hst) (.cons c56 .nil)))))))))))) fun U fn hfn ⟨(s,pos,w,k),hk,hsl,hw0,hwl⟩ vs bs hv hb=>by
 have hs:=hfn 134 _ rfl
 have hm:=hfn 108 _ rfl
 have hf:=hfn 45 _ rfl
 have hd:=hfn 109 _ rfl
 have hc:=hfn 111 _ rfl
 have hwd:=hfn 113 _ rfl
 have hnm:=hfn 110 _ rfl
 have hnu:=hfn 138 _ rfl
 have htr:=hfn 139 _ rfl
 have hpl:=hfn 140 _ rfl
 have hre:=hfn 129 _ rfl
 have hdg:=hfn 141 _ rfl
 have hk:k≤s.length:=hk
 have hsl:s.length < 8000:=hsl
 have hw0:0 < w.length:=hw0
 have hwl:w.length < 8000:=hwl
 have hv:l7 [.p 0 0,.a [.i .i64 0,.i .i64 (pos:Int),.s [],.s [],.s []],.c (.s w)] vs:=hv
 have hb:RBs [[.s s,.i .i64 (k:Int)]] bs:=hb
 show j5 U _ fun v bs'=>l8 (a5k (wdS s pos w k)) v∧RBs [J4 s (tokB k (wdS s pos w k))] bs'
 unfold e1v
 -- a failure
 have bad:∀ {e:Int} {p:Nat} {vs:List V} {bs:List Bx} {K:V→List Bx→Om},wdS s pos w k=.error (e,p)→l7 [.c (.i .i64 e),.c (.i .i64 (p:Int))] vs→RBs [] bs→j5 U (U.bind (fn 45 vs bs) K fun v=>some (.pan (U.rn0 v),[.cells [.str s.length (n7 s),.int .i64 k]])) fun v bs'=>l8 (a5k (wdS s pos w k)) v∧RBs [J4 s (tokB k (wdS s pos w k))] bs':=fun {e p vs bs K} he hv hb=>by
  rw [he]
  exact G6 hf (e,(p:Int)) (r:=.fl 107 e p) rfl hv hb fun _ hv=>R0 hv (scC rfl)
 have badN:∀ {t:x5} {vs:List V} {bs:List Bx} {K:V→List Bx→Om},t.pkg.length < 90000→u1 t.text t.pkg true ≠ 0→wdS s pos w k=.error (u1 t.text t.pkg true,t.pos)→l7 [.a (A7 t)] vs→RBs [] bs→j5 U (U.bind (fn 110 vs bs) K fun v=>some (.pan (U.rn0 v),[.cells [.str s.length (n7 s),.int .i64 k]])) fun v bs'=>l8 (a5k (wdS s pos w k)) v∧RBs [J4 s (tokB k (wdS s pos w k))] bs':=fun {t vs bs K} hl h0 he hv hb=>by
  rw [he]
  exact G6 hnm ⟨t,hl⟩ (r:=.fl 107 (u1 t.text t.pkg true) t.pos) (by show N4 t=_;unfold N4;rw [if_neg h0]) hv hb fun _ hv=>R0 hv (scC rfl)
 (refine Zq ?_;intros)
 refine j4 hs ⟨⟨(s,k),hk,by show s.length < 90000;omega⟩,m8 2 14906⟩ (r:=.c (.b (has s k 58 58))) (by show r7.ret (.c (.b (V1 (s.drop k) (m8 2 14906))))=_;rw [f0m,d4q hk];rfl) l5 (scC rfl) fun _ _ _ hb1=>?_
 have hb1:RBs [[.s s,.i .i64 (k:Int)]] _:=hb1
 (refine Zy ?_;with_reducible repeat' first|intro _|apply aI)
 ·have hq:has s k 58 58=true:=‹_›
  have hk2:=a0p hq
  have ewd:=e9z (i:=pos) (w:=w) hq
  refine S4 (fun vs bs=>∃ (text:i6) (j:Nat),l7 [.p 1 0,.p 2 0] vs∧RBs [[.s s,.i .i64 (j:Int)],A7 ⟨6,pos,w,text,[]⟩,z5] bs∧j≤s.length∧L0 s pos w k=if u1 text w true=0 then .ok (⟨6,pos,w,text,[]⟩,j) else .error (u1 text w true,pos)) ?_ ?_
  ·rintro vs' bs' ⟨text,j,hv',hb',hj,he⟩
   have hb':RBs [[.s s,.i .i64 (j:Int)],[.i .i64 6,.i .i64 (pos:Int),.s w,.s text,.s []],[.i .i64 0,.i .i64 0,.s [],.s [],.s []]] bs':=hb'
   (refine Zq ?_;intros)
   by_cases h0:u1 text w true=0
   ·rw [if_pos h0] at he
    refine j4 hnm ⟨⟨6,pos,w,text,[]⟩,by show w.length < 90000;omega⟩ (r:=.t []) (by show N4 _=_;unfold N4;rw [if_pos h0]) (.k (.a _ _ _ rfl aS) .nil) .nil fun _ _ _ _=>?_
    (refine Zq ?_;intros)
    rw [ewd,he]
    exact j9 ⟨.ret _ _ (.a _ _ _ rfl aS),RB.bx aS rfl⟩
   ·rw [if_neg h0] at he
    exact badN (t:=⟨6,pos,w,text,[]⟩) (by show w.length < 90000;omega) h0 (ewd.trans he) (.k (.a _ _ _ rfl aS) .nil) .nil
  ·intro c hcc
   (refine Zq ?_;intros)
   refine j4 hm ⟨(s,k+2),by show k+2≤s.length;omega,by show s.length < 90000;omega⟩ (r:=.c (.b (decide (k+2 < s.length)))) rfl l5 (scC (show (k:Int)+2=((k+2:Nat):Int) by omega)) fun _ _ _ hb2=>?_
   have hb2:RBs [[.s s,.i .i64 ((k+2:Nat):Int)]] _:=hb2
   (refine Zq ?_;with_reducible repeat' first|intro _|apply aI)
   ·have hlt:k+2 < s.length:=of_decide_eq_true ‹_›
    have hbt:((s.getD (k+2) 0).toNat:Int)=bt s (k+2):=rfl
    have hb0:=a74 s (k+2)
    have hb9:=c4c s (k+2)
    have e0:=e7o (i:=pos) (p:=w) hlt
    (refine Zq ?_;with_reducible repeat' first|intro _|apply aI)
    ·have h124:bt s (k+2)=124:=‹_›
     rw [if_pos h124] at e0
     have hds:W2 s (k+2) 124=J5 s 124 (k+2+1) []:=rfl
     rw [← hds] at e0
     cases hde:W2 s (k+2) 124 with
     | error er =>
      obtain ⟨er,p⟩:=er
      rw [hde] at e0
      rw [ewd,e0]
      exact G6 hd ⟨(⟨(s,k+2),by show k+2≤s.length;omega,by show s.length < 90000;omega⟩,124),.inr rfl,hlt,hsl⟩ (r:=.fl 107 er p) (by show b2f (W2 s (k+2) 124)=_;rw [hde];rfl) l5 (scC rfl) fun _ hv=>R0 hv (scC rfl)
     | ok lj =>
      obtain ⟨l,j⟩:=lj
      rw [hde] at e0
      have hj:=a9r hde
      refine j4 hd ⟨(⟨(s,k+2),by show k+2≤s.length;omega,by show s.length < 90000;omega⟩,124),.inr rfl,hlt,hsl⟩ (r:=.c (.s (G3 l))) (by show b2f (W2 s (k+2) 124)=_;rw [hde];rfl) l5 (scC rfl) fun _ _ _ hb3=>?_
      have hb3:RBs [J4 s (c5l (k+2) (W2 s (k+2) 124))] _:=hb3
      rw [hde] at hb3
      have hb3:RBs [[.s s,.i .i64 (j:Int)]] _:=hb3
      (refine Zq ?_;intros)
      exact fun e=>hcc _ _ ⟨G3 l,j,by (exact l5),.k (scB rfl) (.k (.cells _ _ (by subst e;(exact Zru))) (.k z5B .nil)),hj.2,e0⟩ e
    ·have h124:¬bt s (k+2)=124:=‹_›
     rw [if_neg h124] at e0
     refine j4 hc ⟨bt s (k+2),hb0,hb9⟩ (r:=.c (.b (A5 (bt s (k+2))))) rfl l5 .nil fun _ _ _ _=>?_
     (refine Zq ?_;with_reducible repeat' first|intro _|apply aI)
     ·have hcs:A5 (bt s (k+2))=true:=‹_›
      rw [if_pos hcs] at e0
      have hwe:=I9 s (k+2) oM
      have hwp:=c3p hlt hcs
      refine j4 hwd ⟨(s,k+2),by show k+2≤s.length;omega,by show s.length < 90000;omega⟩ (r:=.c (.s (K0 s (k+2)))) rfl l5 (scC rfl) fun _ _ _ hb3=>?_
      have hb3:RBs [[.s s,.i .i64 ((n5 s (k+2):Nat):Int)]] _:=hb3
      (refine Zq ?_;intros)
      refine fun e=>hcc _ _ ⟨K0 s (k+2),n5 s (k+2),by (exact l5),.k (scB rfl) (.k (.cells _ _ (by subst e;(exact Zru))) (.k z5B .nil)),hwe.2,?_⟩ e
      rw [b44 hwp];exact e0
     ·have hcs:¬A5 (bt s (k+2))=true:=‹_›
      rw [if_neg hcs] at e0
      exact bad (ewd.trans e0) l5 .nil
   ·have hlt:¬k+2 < s.length:=fun h=>‹¬decide (k+2 < s.length)=true› (decide_eq_true h)
    exact bad (ewd.trans (by rw [L0,if_neg hlt])) l5 .nil
 ·have hq:¬has s k 58 58=true:=‹_›
  have ewd:=e90 (i:=pos) (w:=w) hq
  obtain ⟨nl1,nl2⟩:=e0z w
  refine j4 hnu ⟨w,by show w.length < 90000;omega⟩ (r:=.t [.c (.s (A8 w).1),.c (.s (A8 w).2),.c (.b (x9 w).2.2)]) rfl l5 .nil fun _ _ _ _=>?_
  (refine Zy ?_;intros)
  refine S4 (fun vs bs=>∃ t:x5,l7 [.p 1 0,.p 2 0] vs∧RBs [[.s s,.i .i64 (k:Int)],A7 t,z5] bs∧F6 pos w k=.ok (t,k)) ?_ ?_
  ·rintro vs' bs' ⟨t,hv',hb',he⟩
   have hb':RBs [[.s s,.i .i64 (k:Int)],[.i .i64 t.kind,.i .i64 (t.pos:Int),.s t.pkg,.s t.text,.s t.den],[.i .i64 0,.i .i64 0,.s [],.s [],.s []]] bs':=hb'
   (refine Zq ?_;intros)
   rw [ewd,he]
   exact j9 ⟨.ret _ _ (.a _ _ _ rfl aS),RB.bx aS rfl⟩
  ·intro c hcc
   (refine Zy ?_;with_reducible repeat' first|intro _|apply aI)
   ·have hdot:w=m8 1 46:=‹_›
    refine fun e=>hcc _ _ ⟨⟨3,pos,[],[],[]⟩,by (exact l5),.k (scB rfl) (.k (.cells _ _ (by subst e;(exact Zru))) (.k z5B .nil)),?_⟩ e
    rw [F6,if_pos (by rw [hdot];rfl)];rfl
   ·have hdot:¬w=[46]:=‹_›
    refine S4 (fun vs bs=>∃ z:Bool,l7 [.c (.s w),.p 1 0,.p 2 0,.c (.s (A8 w).1),.c (.s (A8 w).2),.c (.b (x9 w).2.2),.c (.b z)] vs∧RBs [[.s s,.i .i64 (k:Int)],A7 (pT0 pos),z5] bs∧(z=true↔(x9 w).2.2=true∧Lib.trimS (A8 w).2 [48]=[])) ?_ ?_
    ·rintro vs' bs' ⟨z,hv',hb',hz⟩
     have hb':RBs [[.s s,.i .i64 (k:Int)],[.i .i64 0,.i .i64 (pos:Int),.s [],.s [],.s []],[.i .i64 0,.i .i64 0,.s [],.s [],.s []]] bs':=hb'
     (refine Zy ?_;with_reducible repeat' first|intro _|apply aI)
     ·obtain ⟨z1,z2⟩:=hz.1 ‹_›
      obtain ⟨c1,c2,c3⟩:=a9z z1
      exact bad (ewd.trans (by rw [F6,if_neg hdot,if_pos z1,if_pos (by rw [c2];exact (b8o c3).1 z2)])) (.k (.i _ _) (.k (.q _ _ aS) .nil)) .nil
     ·have z1:(x9 w).2.2=true:=‹_›
      have z0:¬z=true:=‹_›
      obtain ⟨c1,c2,c3⟩:=a9z z1
      have e9:F6 pos w k=if 100 < G8 (u4 (plain (A8 w).1) (plain (A8 w).2)).1∨100 < G8 (u4 (plain (A8 w).1) (plain (A8 w).2)).2 then .error (2,pos) else .ok (⟨5,pos,[],(u4 (plain (A8 w).1) (plain (A8 w).2)).1,(u4 (plain (A8 w).1) (plain (A8 w).2)).2⟩,k):=by
       rw [F6,if_neg hdot,if_pos z1,c1,c2,if_neg (fun h=>z0 (hz.2 ⟨z1,(b8o c3).2 h⟩))];rfl
      have p1:=a8i (A8 w).1
      have p2:=a8i (A8 w).2
      refine j4 hpl ⟨(A8 w).1,oM⟩ (r:=.c (.s (plain (A8 w).1))) rfl l5 .nil fun _ _ _ _=>?_
      (refine Zy ?_;intros)
      refine j4 hpl ⟨(A8 w).2,oM⟩ (r:=.c (.s (plain (A8 w).2))) rfl l5 .nil fun _ _ _ _=>?_
      (refine Zy ?_;intros)
      obtain ⟨rn,rd,er,_,_,l1,l2⟩:=b24 (plain (A8 w).1) (plain (A8 w).2)
      have l3:(j3 rn).length≤1+(i7 rn.natAbs).length:=by
       rw [I8,List.length_append]
       have:(LQ.sgn rn).length≤1:=by unfold LQ.sgn;split <;> simp
       omega
      rw [er] at e9
      simp only [] at e9
      rw [a2s,a2s] at e9
      refine j4 hre ⟨(plain (A8 w).1,plain (A8 w).2),by show (plain (A8 w).1).length < 8000;omega,by show (plain (A8 w).2).length < 8000;omega⟩ (r:=.t [.c (.s (j3 rn)),.c (.s (i7 rd))]) (by show r7.ret (.t [.c (.s (u4 (plain (A8 w).1) (plain (A8 w).2)).1),.c (.s (u4 (plain (A8 w).1) (plain (A8 w).2)).2)])=_;rw [er]) l5 .nil fun _ _ _ _=>?_
      (refine Zy ?_;intros)
      refine S4 (fun vs bs=>∃ y:Bool,l7 [.p 1 0,.p 2 0,.c (.b y)] vs∧RBs [[.s s,.i .i64 (k:Int)],A7 ⟨5,pos,[],j3 rn,i7 rd⟩,z5] bs∧(y=true↔100 < W4 (j3 rn)∨100 < W4 (i7 rd))) ?_ ?_
      ·rintro vs' bs' ⟨y,hv',hb',hy⟩
       have hb':RBs [[.s s,.i .i64 (k:Int)],[.i .i64 5,.i .i64 (pos:Int),.s [],.s (j3 rn),.s (i7 rd)],[.i .i64 0,.i .i64 0,.s [],.s [],.s []]] bs':=hb'
       (refine Zq ?_;with_reducible repeat' first|intro _|apply aI)
       ·rw [if_pos (hy.1 ‹_›)] at e9
        exact bad (ewd.trans e9) (.k (.i _ _) (.k (.q _ _ aS) .nil)) .nil
       ·rw [if_neg (fun h=>‹¬y=true› (hy.2 h))] at e9
        exact hcc _ _ ⟨_,by (exact l5),.k (.opa _ _ _ rfl aS) (.k (.opa _ _ _ rfl aS) (.k (.opa _ _ _ rfl aS) .nil)),e9⟩
      ·intro c2 hc2
       refine j4 hdg ⟨j3 rn,oM⟩ (r:=.c (.i .i64 (W4 (j3 rn):Nat))) rfl l5 .nil fun _ _ _ _=>?_
       (refine Zq ?_;with_reducible repeat' first|intro _|apply aI)
       ·exact fun e=>hc2 _ _ ⟨true,by (exact l5),.k (.opa _ _ _ rfl aS) (.k (.cells _ _ (by subst e;(exact Zru))) (.k (.opa _ _ _ rfl aS) .nil)),by simp;omega⟩ e
       ·refine j4 hdg ⟨i7 rd,oM⟩ (r:=.c (.i .i64 (W4 (i7 rd):Nat))) rfl l5 .nil fun _ _ _ _=>?_
        (refine Zq ?_;intros)
        exact fun e=>hc2 _ _ ⟨decide (100 < W4 (i7 rd)),.k (.p _ _) (.k (.p _ _) (.k (U6 (by subst e;rw [b92,decide_eq_decide];omega)) .nil)),.k (.opa _ _ _ rfl aS) (.k (.cells _ _ (by subst e;(exact Zru))) (.k (.opa _ _ _ rfl aS) .nil)),decide_eq_true_iff.trans ⟨fun h=>.inr h,fun h=>h.resolve_left (fun h=>‹¬100 < ((W4 (j3 rn):Nat):Int)› oM)⟩⟩ e
     ·have z1:¬(x9 w).2.2=true:=‹_›
      have e9:F6 pos w k=if u1 w [] false=0 then .ok (⟨6,pos,[],w,[]⟩,k) else .error (u1 w [] false,pos):=by
       rw [F6,if_neg hdot,if_neg z1];rfl
      rw [← b44 hw0] at e9
      by_cases h0:u1 w [] true=0
      ·rw [if_pos h0] at e9
       refine fun e=>j4 hnm ⟨⟨6,pos,[],w,[]⟩,by show 0 < 90000;omega⟩ (r:=.t []) (by show N4 _=_;unfold N4;rw [if_pos h0]) (.k (.ag _ _ (by subst e;(exact Zru))) .nil) .nil (fun _ _ _ _=>?_) e
       (refine Zq ?_;intros)
       exact fun e=>hcc _ _ ⟨_,by (exact l5),.k (.opa _ _ _ rfl aS) (.k (.cells _ _ (by subst e;(exact Zru))) (.k (.opa _ _ _ rfl aS) .nil)),e9⟩ e
      ·rw [if_neg h0] at e9
       exact fun e=>badN (t:=⟨6,pos,[],w,[]⟩) (by show 0 < 90000;omega) h0 (ewd.trans e9) (.k (.ag _ _ (by subst e;(exact Zru))) .nil) .nil e
    ·intro c2 hc2
     (refine Zy ?_;with_reducible repeat' first|intro _|apply aI)
     ·have z1:(x9 w).2.2=true:=‹_›
      refine j4 htr ⟨((A8 w).2,[48]),by show (A8 w).2.length < 4294967281;omega,by show 1 < 4294967281;omega,by simp⟩ (r:=.c (.s (Lib.trimS (A8 w).2 [48]))) rfl l5 .nil fun _ _ _ _=>?_
      (refine Zy ?_;intros)
      exact fun e=>hc2 _ _ ⟨decide (Lib.trimS (A8 w).2 [48]=[]),.k (.s _ _ _ rfl rfl) (.k (.p _ _) (.k (.p _ _) (.k (.s _ _ _ rfl rfl) (.k (.s _ _ _ rfl rfl) (.k (.b _) (.k (U6 (by subst e;rw [b5z];rfl)) .nil)))))),.k (scB rfl) (.k (.opa _ _ _ rfl aS) (.k z5B .nil)),by simp [z1]⟩ e
     ·have z1:¬(x9 w).2.2=true:=‹_›
      exact hc2 _ _ ⟨false,by (exact l5),.k (scB rfl) (.k (.opa _ _ _ rfl aS) (.k z5B .nil)),by simp [z1]⟩
end
end Go.Proofs.YtdldcfllnohkeaaGreatDoor
namespace Go.Abs
theorem g13 {U:v8} {P:L6→List Bx→Prop} {b x:Int} {K:Int→Om} (hb:U=CU→b=x) (h:j5 U (K x) P):j5 U (U.fI b K) P:=fun e=>by
 have:=h e;rw [← hb e] at this;subst e;rw [a0c];exact this
theorem d55 (c:Bool) (a b:Int):CU.isel c a b=cond c a b:=by cases c <;> rfl
end Go.Abs
namespace Go.Proofs.YtdldcfllnohkeaaGreatDoor
open Go.Abs LQ
set_option maxRecDepth 100000
set_option maxHeartbeats 8000000
noncomputable section
def N2 (s:i6) (i:Nat):Except (Int × Nat) (x5 × Nat):=match LQ.skip s i with
 | none=>.error (11,s.length)
 | some j=>if j < s.length then B7 s j else .ok (⟨0,j,[],[],[]⟩,j)
def g2a:Sp where
 ι:={ p:i6 × Nat // p.2≤p.1.length∧p.1.length < 8000 }
 A _:=[.p 0 0]
 B p:=[J4 p.1.1 p.1.2]
 R p:=a5k (N2 p.1.1 p.1.2)
 B' p:=[J4 p.1.1 (tokB p.1.2 (N2 p.1.1 p.1.2))]
 inj i j vs bs _ _ h k:=by
  have:=a6t (RBs.one_inj h k)
  rw [this.1,this.2];exact ⟨rfl,rfl⟩
theorem d8x {s:i6} {j:Nat} (h1:bt s j ≠ 40) (h2:bt s j ≠ 41) (h3:bt s j ≠ 39) (h4:bt s j ≠ 34) (h5:bt s j ≠ 124) (hc:A5 (bt s j)=true):B7 s j=wdS s j (K0 s j) (n5 s j):=by
 rw [B7,if_neg h1,if_neg h2,if_neg h3,if_neg h4,if_neg h5,if_pos hc];rfl
theorem f84 (hst:k9 179 Y2) (hdl:k9 109 b9b) (hcr:k9 132 c8h):k9 76 g2a:=n9 (fun fn h=>f49 h) [(107,_),(108,_),(45,_),(109,_),(111,_),(113,_),(110,_),(112,_)] (.cons (f9a hcr) (.cons b71 (.cons b39 (.cons hdl (.cons b57 (.cons e4s (.cons (d1g hst) (.cons (e60 hst hdl) .nil)))))))) fun U fn hfn ⟨(s,i),hi,hsl⟩ vs bs hv hb=>by
 have hs:=hfn 107 _ rfl
 have hm:=hfn 108 _ rfl
 have hf:=hfn 45 _ rfl
 have hd:=hfn 109 _ rfl
 have hc:=hfn 111 _ rfl
 have hwd:=hfn 113 _ rfl
 have hnm:=hfn 110 _ rfl
 have hwo:=hfn 112 _ rfl
 have hi:i≤s.length:=hi
 have hsl:s.length < 8000:=hsl
 have hv:l7 [.p 0 0] vs:=hv
 have hb:RBs [[.s s,.i .i64 (i:Int)]] bs:=hb
 show j5 U _ fun v bs'=>l8 (a5k (N2 s i)) v∧RBs [J4 s (tokB i (N2 s i))] bs'
 unfold r76
 have bad:∀ {e:Int} {p:Nat} {vs:List V} {bs:List Bx} {K:V→List Bx→Om},N2 s i=.error (e,p)→l7 [.c (.i .i64 e),.c (.i .i64 (p:Int))] vs→RBs [] bs→j5 U (U.bind (fn 45 vs bs) K fun v=>some (.pan (U.rn0 v),[.cells [.str s.length (n7 s),.int .i64 i]])) fun v bs'=>l8 (a5k (N2 s i)) v∧RBs [J4 s (tokB i (N2 s i))] bs':=fun {e p vs bs K} he hv hb=>by
  rw [he]
  exact G6 hf (e,(p:Int)) (r:=.fl 107 e p) rfl hv hb fun _ hv=>R0 hv (scC rfl)
 have badN:∀ {t:x5} {vs:List V} {bs:List Bx} {K:V→List Bx→Om},t.pkg.length < 90000→u1 t.text t.pkg true ≠ 0→N2 s i=.error (u1 t.text t.pkg true,t.pos)→l7 [.a (A7 t)] vs→RBs [] bs→j5 U (U.bind (fn 110 vs bs) K fun v=>some (.pan (U.rn0 v),[.cells [.str s.length (n7 s),.int .i64 i]])) fun v bs'=>l8 (a5k (N2 s i)) v∧RBs [J4 s (tokB i (N2 s i))] bs':=fun {t vs bs K} hl h0 he hv hb=>by
  rw [he]
  exact G6 hnm ⟨t,hl⟩ (r:=.fl 107 (u1 t.text t.pkg true) t.pos) (by show N4 t=_;unfold N4;rw [if_neg h0]) hv hb fun _ hv=>R0 hv (scC rfl)
 (refine Zq ?_;with_reducible repeat' first|intro _|apply aI)
 cases hsk:LQ.skip s i with
 | none =>
  have en:N2 s i=.error (11,s.length):=by unfold N2;rw [hsk]
  rw [en]
  exact G6 hs ⟨(s,i),hi,by show s.length < 90000;omega⟩ (r:=.fl 107 11 s.length) (by show a3c s i=_;unfold a3c;rw [hsk]) l5 (scC rfl) fun _ hv=>R0 hv (scC rfl)
 | some j =>
  have hj:=a38 hi hsk
  have en:N2 s i=if j < s.length then B7 s j else .ok (⟨0,j,[],[],[]⟩,j):=by unfold N2;rw [hsk]
  refine j4 hs ⟨(s,i),hi,by show s.length < 90000;omega⟩ (r:=.t []) (by show a3c s i=_;unfold a3c;rw [hsk]) l5 (scC rfl) fun _ _ _ hb1=>?_
  have eb:a4n s i=j:=by unfold a4n;rw [hsk];rfl
  have hb1:RBs [J4 s (a4n s i)] _:=hb1
  rw [eb] at hb1
  have hb1:RBs [[.s s,.i .i64 (j:Int)]] _:=hb1
  (refine Zq ?_;intros)
  refine j4 hm ⟨(s,j),hj.2,by show s.length < 90000;omega⟩ (r:=.c (.b (decide (j < s.length)))) rfl l5 (scC rfl) fun _ _ _ hb2=>?_
  have hb2:RBs [[.s s,.i .i64 (j:Int)]] _:=hb2
  (refine Zy ?_;with_reducible repeat' first|intro _|apply aI)
  ·have hlt:j < s.length:=of_decide_eq_true ‹_›
   rw [if_pos hlt] at en
   have hbt:((s.getD j 0).toNat:Int)=bt s j:=rfl
   have hb0:=a74 s j
   have hb9:=c4c s j
   refine S4 (fun vs bs=>∃ (t:x5) (k:Nat),l7 [.p 1 0,.p 2 0] vs∧RBs [[.s s,.i .i64 (k:Int)],z5,A7 t] bs∧B7 s j=.ok (t,k)) ?_ ?_
   ·rintro vs' bs' ⟨t,k,hv',hb',he⟩
    have hb':RBs [[.s s,.i .i64 (k:Int)],[.i .i64 0,.i .i64 0,.s [],.s [],.s []],[.i .i64 t.kind,.i .i64 (t.pos:Int),.s t.pkg,.s t.text,.s t.den]] bs':=hb'
    (refine Zq ?_;intros)
    rw [en,he]
    exact j9 ⟨.ret _ _ (.a _ _ _ rfl aS),RB.bx aS rfl⟩
   ·intro c hcc
    (refine Zy ?_;intros)
    refine S4 (fun vs bs=>∃ z:Bool,l7 [.p 0 0,.p 1 0,.p 2 0,.c (.i .u8 (bt s j)),.c (.b z)] vs∧RBs [[.s s,.i .i64 (j:Int)],z5,A7 (pT0 j)] bs∧(z=true↔bt s j=40∨bt s j=41∨bt s j=39)) ?_ ?_
    ·rintro vs' bs' ⟨z,hv',hb',hz⟩
     have hb':RBs [[.s s,.i .i64 (j:Int)],[.i .i64 0,.i .i64 0,.s [],.s [],.s []],[.i .i64 0,.i .i64 (j:Int),.s [],.s [],.s []]] bs':=hb'
     (refine Zy ?_;with_reducible repeat' first|intro _|apply aI)
     ·have hz1:=hz.1 ‹_›
      refine f6e (p:=¬(¬bt s j=40∧¬bt s j=41∧¬bt s j=39)) (by (repeat' (first | exact trT | exact trF | apply a6c | apply a58 | exact a6b | exact a6a | exact a5l | exact a7u | exact a7t | exact a3h | exact a3i | exact a3g | exact a3f | exact a3e | exact a6e | exact b1i | exact b1h | exact trS | exact trV))) oM ?_
      refine g13 (x:=if bt s j=40 then 1 else if bt s j=41 then 2 else 4) (fun e=>by
       subst e
       rw [d55,d55,a62,a62]
       by_cases h1:bt s j=40
       ·simp [h1]
       ·by_cases h2:bt s j=41 <;> simp [h1,h2]) ?_
      (refine Zy ?_;intros)
      refine fun e=>hcc _ _ ⟨⟨if bt s j=40 then 1 else if bt s j=41 then 2 else 4,j,[],[],[]⟩,j+1,by (exact l5),.k (.cells _ _ (by subst e;(exact Zru))) (.k (.opa _ _ _ rfl aS) (.k (.cells _ _ (by subst e;(exact Zru))) .nil)),?_⟩ e
      rcases hz1 with h | h | h
      ·rw [B7,if_pos h,if_pos h];rfl
      ·rw [B7,if_neg oM,if_pos h,if_neg oM,if_pos h];rfl
      ·rw [B7,if_neg oM,if_neg oM,if_pos h,if_neg oM,if_neg oM];rfl
     ·have hz0:¬(bt s j=40∨bt s j=41∨bt s j=39):=fun h=>‹¬z=true› (hz.2 h)
      have h34:bt s j=34:=‹_›
      have e0:B7 s j=match W2 s j 34 with
       | .error e=>.error e
       | .ok (l,k)=>if 200 < l.length then .error (2,j) else .ok (⟨7,j,u7,G3 l,u7⟩,k):=by
       rw [B7,if_neg oM,if_neg oM,if_neg oM,if_pos h34];rfl
      cases hde:W2 s j 34 with
      | error er =>
       obtain ⟨er,p⟩:=er
       rw [hde] at e0
       rw [en,e0]
       exact G6 hd ⟨(⟨(s,j),hj.2,by show s.length < 90000;omega⟩,34),.inl rfl,hlt,hsl⟩ (r:=.fl 107 er p) (by show b2f (W2 s j 34)=_;rw [hde];rfl) l5 (RB.bx aS rfl) fun _ hv=>R0 hv (scC rfl)
      | ok lj =>
       obtain ⟨l,k⟩:=lj
       rw [hde] at e0
       refine j4 hd ⟨(⟨(s,j),hj.2,by show s.length < 90000;omega⟩,34),.inl rfl,hlt,hsl⟩ (r:=.c (.s (G3 l))) (by show b2f (W2 s j 34)=_;rw [hde];rfl) l5 (RB.bx aS rfl) fun _ _ _ hb3=>?_
       have hb3:RBs [J4 s (c5l j (W2 s j 34))] _:=hb3
       rw [hde] at hb3
       have hb3:RBs [[.s s,.i .i64 (k:Int)]] _:=hb3
       have hll:=a13 l
       (refine Zy ?_;with_reducible repeat' first|intro _|apply aI)
       ·exact fun e=>bad (en.trans (e0.trans (if_pos oM))) (.k (.i _ _) (.k (.q _ _ (by subst e;exact A6.at aS (by rfl))) .nil)) .nil e
       ·exact fun e=>hcc _ _ ⟨⟨7,j,[],G3 l,[]⟩,k,by (exact l5),.k (.opa _ _ _ rfl aS) (.k (.opa _ _ _ rfl aS) (.k (.cells _ _ (by subst e;(exact Zru))) .nil)),e0.trans (if_neg oM)⟩ e
     ·have hz0:¬(bt s j=40∨bt s j=41∨bt s j=39):=fun h=>‹¬z=true› (hz.2 h)
      have h34:¬bt s j=34:=‹_›
      have h124:bt s j=124:=‹_›
      have e0:B7 s j=match W2 s j 124 with
       | .error e=>.error e
       | .ok (l,k)=>if u1 (G3 l) u7 true=0 then .ok (⟨6,j,u7,G3 l,u7⟩,k) else .error (u1 (G3 l) u7 true,j):=by
       rw [B7,if_neg oM,if_neg oM,if_neg oM,if_neg h34,if_pos h124];rfl
      cases hde:W2 s j 124 with
      | error er =>
       obtain ⟨er,p⟩:=er
       rw [hde] at e0
       rw [en,e0]
       exact G6 hd ⟨(⟨(s,j),hj.2,by show s.length < 90000;omega⟩,124),.inr rfl,hlt,hsl⟩ (r:=.fl 107 er p) (by show b2f (W2 s j 124)=_;rw [hde];rfl) l5 (RB.bx aS rfl) fun _ hv=>R0 hv (scC rfl)
      | ok lj =>
       obtain ⟨l,k⟩:=lj
       rw [hde] at e0
       have e0:B7 s j=if u1 (G3 l) [] true=0 then .ok (⟨6,j,[],G3 l,[]⟩,k) else .error (u1 (G3 l) [] true,j):=e0
       refine j4 hd ⟨(⟨(s,j),hj.2,by show s.length < 90000;omega⟩,124),.inr rfl,hlt,hsl⟩ (r:=.c (.s (G3 l))) (by show b2f (W2 s j 124)=_;rw [hde];rfl) l5 (RB.bx aS rfl) fun _ _ _ hb3=>?_
       have hb3:RBs [J4 s (c5l j (W2 s j 124))] _:=hb3
       rw [hde] at hb3
       have hb3:RBs [[.s s,.i .i64 (k:Int)]] _:=hb3
       (refine Zy ?_;intros)
       by_cases h0:u1 (G3 l) [] true=0
       ·rw [if_pos h0] at e0
        refine fun e=>j4 hnm ⟨⟨6,j,[],G3 l,[]⟩,by show 0 < 90000;omega⟩ (r:=.t []) (by show N4 _=_;unfold N4;rw [if_pos h0]) (.k (.ag _ _ (by subst e;(exact Zru))) .nil) .nil (fun _ _ _ _=>?_) e
        (refine Zy ?_;intros)
        exact fun e=>hcc _ _ ⟨_,k,by (exact l5),.k (.opa _ _ _ rfl aS) (.k (.opa _ _ _ rfl aS) (.k (.cells _ _ (by subst e;(exact Zru))) .nil)),e0⟩ e
       ·rw [if_neg h0] at e0
        exact fun e=>badN (t:=⟨6,j,[],G3 l,[]⟩) (by show 0 < 90000;omega) h0 (en.trans e0) (.k (.ag _ _ (by subst e;(exact Zru))) .nil) .nil e
     ·have hz0:¬(bt s j=40∨bt s j=41∨bt s j=39):=fun h=>‹¬z=true› (hz.2 h)
      have h34:¬bt s j=34:=‹_›
      have h124:¬bt s j=124:=‹_›
      refine j4 hc ⟨bt s j,hb0,hb9⟩ (r:=.c (.b (A5 (bt s j)))) rfl l5 .nil fun _ _ _ _=>?_
      (refine Zy ?_;with_reducible repeat' first|intro _|apply aI)
      ·have hcs:A5 (bt s j)=true:=‹_›
       have hwe:=I9 s j oM
       have hwp:=c3p hlt hcs
       have hwl:(K0 s j).length≤s.length:=by unfold K0;simp;omega
       have e0:=d8x (fun h=>hz0 (.inl h)) (fun h=>hz0 (.inr (.inl h))) (fun h=>hz0 (.inr (.inr h))) h34 h124 hcs
       refine j4 hwd ⟨(s,j),hj.2,by show s.length < 90000;omega⟩ (r:=.c (.s (K0 s j))) rfl l5 (RB.bx aS rfl) fun _ _ _ hb3=>?_
       have hb3:RBs [[.s s,.i .i64 ((n5 s j:Nat):Int)]] _:=hb3
       (refine Zy ?_;with_reducible repeat' first|intro _|apply aI)
       cases hw:wdS s j (K0 s j) (n5 s j) with
       | error er =>
        obtain ⟨er,p⟩:=er
        rw [en,e0,hw]
        exact G6 hwo ⟨(s,j,K0 s j,n5 s j),hwe.2,hsl,hwp,by show (K0 s j).length < 8000;omega⟩ (r:=.fl 107 er p) (by show a5k (wdS s j (K0 s j) (n5 s j))=_;rw [hw];rfl) (.k (.p _ _) (.k (.a _ _ _ rfl aS) (.k (.s _ _ _ rfl rfl) .nil))) (RB.bx aS rfl) fun _ hv=>R0 hv (scC rfl)
       | ok tk =>
        obtain ⟨t,k⟩:=tk
        rw [hw] at e0
        refine j4 hwo ⟨(s,j,K0 s j,n5 s j),hwe.2,hsl,hwp,by show (K0 s j).length < 8000;omega⟩ (r:=.a (A7 t)) (by show a5k (wdS s j (K0 s j) (n5 s j))=_;rw [hw];rfl) (.k (.p _ _) (.k (.a _ _ _ rfl aS) (.k (.s _ _ _ rfl rfl) .nil))) (RB.bx aS rfl) fun _ _ _ hb4=>?_
        have hb4:RBs [J4 s (tokB (n5 s j) (wdS s j (K0 s j) (n5 s j)))] _:=hb4
        rw [hw] at hb4
        have hb4:RBs [[.s s,.i .i64 (k:Int)]] _:=hb4
        (refine Zy ?_;intros)
        exact hcc _ _ ⟨t,k,by (exact l5),.k (.opa _ _ _ rfl aS) (.k (.opa _ _ _ rfl aS) (.k (.opa _ _ _ rfl aS) .nil)),e0⟩
      ·have hcs:¬A5 (bt s j)=true:=‹_›
       exact bad (en.trans (by rw [B7,if_neg (fun h=>hz0 (.inl h)),if_neg (fun h=>hz0 (.inr (.inl h))),if_neg (fun h=>hz0 (.inr (.inr h))),if_neg h34,if_neg h124,if_neg hcs])) (.k (.i _ _) (.k (.q _ _ aS) .nil)) .nil
    ·intro c2 hc2
     (refine Zy ?_;with_reducible repeat' first|intro _|apply aI)
     ·exact hc2 _ _ ⟨true,by (exact l5),.k (scB rfl) (.k z5B (.k (.cells _ _ l5) .nil)),by simp;omega⟩
     ·exact hc2 _ _ ⟨true,by (exact l5),.k (scB rfl) (.k z5B (.k (.cells _ _ l5) .nil)),by simp;omega⟩
     ·exact fun e=>hc2 _ _ ⟨decide (bt s j=39),.k (.p _ _) (.k (.p _ _) (.k (.p _ _) (.k (.i _ _) (.k (U6 (by subst e;rw [a62,decide_eq_decide];omega)) .nil)))),.k (scB rfl) (.k z5B (.k (.cells _ _ l5) .nil)),by rw [decide_eq_true_iff];omega⟩ e
  ·have hlt:¬j < s.length:=fun h=>‹¬decide (j < s.length)=true› (decide_eq_true h)
   rw [if_neg hlt] at en
   rw [en]
   exact j9 ⟨.ret _ _ (.ag _ _ l5),scC rfl⟩
theorem d0a {s:i6} {i k:Nat} {t:x5} (h:B7 s i=.ok (t,k)):t.kind ≠ 0:=by
 have fin:∀ {x:x5} {y:Nat},x.kind ≠ 0→(Except.ok (x,y):Except (Int × Nat) (x5 × Nat))=.ok (t,k)→t.kind ≠ 0:=by
  intro x y hx h;injection h with h;injection h with h1 h2;rw [← h1];exact hx
 unfold B7 at h
 repeat' split at h
 all_goals try (cases h;done)
 all_goals try exact fin dE h
 all_goals try exact fin (show ¬(6:Int)=0 by decide) h
 all_goals try exact fin (show ¬(7:Int)=0 by decide) h
 all_goals try exact fin (show ¬(1:Int)=0 by decide) h
 all_goals try exact fin (show ¬(2:Int)=0 by decide) h
 all_goals try exact fin (show ¬(4:Int)=0 by decide) h
 ·unfold L0 at h
  simp only [] at h
  repeat' split at h
  all_goals try (cases h;done)
  all_goals exact fin (show ¬(6:Int)=0 by decide) h
 ·unfold F6 at h
  simp only [] at h
  repeat' split at h
  all_goals try (cases h;done)
  all_goals first | exact fin (show ¬(3:Int)=0 by decide) h | exact fin (show ¬(5:Int)=0 by decide) h | exact fin (show ¬(6:Int)=0 by decide) h
theorem c3m {s:i6} {i:Nat} {acc:List x5} (hi:i≤s.length):p8 s i acc=match N2 s i with
  | .error e=>.error e
  | .ok (t,k)=>if t.kind=0 then .ok (acc ++ [t]) else p8 s k (acc ++ [t]):=by
 rw [a08 hi]
 unfold N2
 cases hs:LQ.skip s i with
 | none=>rfl
 | some j =>
  have hj:=a38 hi hs
  simp only []
  by_cases hlt:j < s.length
  ·rw [if_pos hlt,if_pos hlt]
   cases ht:B7 s j with
   | error e=>rfl
   | ok p=>simp only [];rw [if_neg (d0a (t:=p.1) (k:=p.2) ht)]
  ·rw [if_neg hlt,if_neg hlt]
   simp only []
   rw [if_pos trivial,show j=s.length by omega];rfl
theorem e7a {s:i6} {i k:Nat} {t:x5} (hi:i≤s.length) (h:N2 s i=.ok (t,k)) (h0:t.kind ≠ 0):i < k∧k≤s.length:=by
 unfold N2 at h
 cases hs:LQ.skip s i with
 | none=>rw [hs] at h;cases h
 | some j =>
  have hj:=a38 hi hs
  rw [hs] at h
  simp only [] at h
  by_cases hlt:j < s.length
  ·rw [if_pos hlt] at h;have:=a49 hlt h;omega
  ·rw [if_neg hlt] at h;injection h with h;injection h with h1 h2;rw [← h1] at h0;exact absurd rfl h0
def b9m:Except (Int × Nat) (List x5)→r7
 | .ok T=>.ret (.sl 5 (T.map A7))
 | .error (e,p)=>T3 e p
def c8j:Sp where
 ι:={ s:i6 // s.length < 8000 }
 A s:=[.c (.s s.1)]
 B _:=[]
 R s:=b9m (C7 s.1)
 B' _:=[]
 inj i j vs bs h k _ _:=by
  obtain ⟨_,_,h1,k1,h,k⟩:=h.two k
  rw [H3 h1 k1];exact ⟨rfl,rfl⟩
theorem e4p (hst:k9 179 Y2) (hdl:k9 109 b9b) (hcr:k9 132 c8h):k9 46 c8j:=n9 (fun fn h=>f3y h) [(45,_),(76,_)] (.cons b39 (.cons (f84 hst hdl hcr) .nil)) fun U fn hfn ⟨s,hsl⟩ vs bs hv hb=>by
 have hf:=hfn 45 _ rfl
 have hn:=hfn 76 _ rfl
 have hsl:s.length < 8000:=hsl
 have hv:l7 [.c (.s s)] vs:=hv
 have hb:RBs [] bs:=hb
 show j5 U _ fun v bs'=>l8 (b9m (C7 s)) v∧RBs [] bs'
 unfold r46
 (refine Zy ?_;intros)
 refine S4 (fun vs bs=>vs=[.str s.length (n7 s)]∧bs=[]∧s.length≤6000) ?_ ?_
 ·rintro _ _ ⟨rfl,rfl,hs6⟩
  (refine Zq ?_;intros)
  have et:C7 s=p8 s 0 []:=by unfold C7;rw [if_neg oM]
  refine H2 (fun (i:Nat) vs bs=>∃ (acc:List x5) (v:V) (b0:Bx),vs=[.ptr 0 0,v]∧bs=[b0,.tok acc.length 5]∧RB (J4 s i) b0∧a1e 1 5 (acc.map A7) v∧i≤s.length∧acc.length≤i∧C7 s=p8 s i acc) (fun i=>s.length - i) 0 ⟨[],_,_,rfl,rfl,scB rfl,.b rfl,Nat.zero_le _,Nat.le_refl _,et⟩ (by simp only [C4];omega) ?_
  rintro self i _ _ ⟨acc,v,b0,rfl,rfl,hb0,htk,hi,ha,he⟩ ih
  have hb0:RB [.s s,.i .i64 (i:Int)] b0:=hb0
  rw [he,c3m hi]
  (refine Zq ?_;with_reducible repeat' first|intro _|apply aI)
  cases hne:N2 s i with
  | error er =>
   obtain ⟨er,p⟩:=er
   exact G6 hn ⟨(s,i),hi,hsl⟩ (r:=.fl 107 er p) (by show a5k (N2 s i)=_;rw [hne];rfl) l5 (RB.bx aS rfl) fun _ hv=>R0 hv .nil
  | ok tk =>
   obtain ⟨t,k⟩:=tk
   simp only []
   refine j4 hn ⟨(s,i),hi,hsl⟩ (r:=.a (A7 t)) (by show a5k (N2 s i)=_;rw [hne];rfl) l5 (RB.bx aS rfl) fun _ _ hv1 hb1=>?_
   have hb1:RBs [J4 s (tokB i (N2 s i))] _:=hb1
   rw [hne] at hb1
   have hb1:RBs [[.s s,.i .i64 (k:Int)]] _:=hb1
   have hv1:RV (.a [.i .i64 t.kind,.i .i64 (t.pos:Int),.s t.pkg,.s t.text,.s t.den]) _:=hv1
   (refine Zq ?_;intros)
   refine a2b (xs:=acc.map A7) (r:=A7 t) (n:=5) (off:=0) aS (fun _=>a1h (by rw [a6v];decide) aS) (a6v _) (by simp) (by simp;omega) fun _ ht'=>?_
   rw [show acc.map A7 ++ [A7 t]=(acc ++ [t]).map A7 by simp] at ht'
   (refine Zq ?_;with_reducible repeat' first|intro _|apply aI)
   ·rw [if_pos ‹_›]
    exact j9 ⟨.ret _ _ (.sl _ _ _ _ _ (by simp) ht'),.nil⟩
   ·have h0:¬t.kind=0:=‹_›
    rw [if_neg h0]
    have hg:=e7a hi hne h0
    have et2:C7 s=p8 s k (acc ++ [t]):=by rw [he,c3m hi,hne];simp only [];rw [if_neg h0]
    rw [← et2]
    exact ih k _ _ ⟨acc ++ [t],_,_,rfl,by rw [List.length_append];rfl,.opa _ _ _ rfl aS,.a _ _ (by simp) ht',hg.2,by simp;omega,et2⟩ oM
 ·intro c hc
  (refine Zy ?_;with_reducible repeat' first|intro _|apply aI)
  ·have e:C7 s=.error (2,0):=by unfold C7;rw [if_pos oM]
   rw [e]
   exact G6 hf (2,0) (r:=.fl 107 2 0) rfl l5 .nil fun _ hv=>R0 hv .nil
  ·exact hc _ _ ⟨rfl,rfl,oM⟩
end
end Go.Proofs.YtdldcfllnohkeaaGreatDoor
