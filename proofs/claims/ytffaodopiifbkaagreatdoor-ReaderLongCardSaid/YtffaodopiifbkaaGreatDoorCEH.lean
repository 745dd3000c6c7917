/- The program's reader: the token that begins with a word. -/
import Derived.Test.YtffaodopiifbkaaGreatDoorCEG
set_option linter.all false
namespace Go.Proofs.YtffaodopiifbkaaGreatDoor
open Go.Abs LQ
set_option maxRecDepth 100000
set_option maxHeartbeats 8000000
noncomputable section
def pT0 (i:Nat):y3:=⟨0,i,[],[],[]⟩
def f5t:Sp where
 ι:={ q:j0 × Nat × j0 × Nat // q.2.2.2≤q.1.length∧q.1.length < 8000∧0 < q.2.2.1.length∧q.2.2.1.length < 8000 }
 A q:=[.p 0 0,.a (p9 (pT0 q.1.2.1)),.c (.s q.1.2.2.1)]
 B q:=[G0 q.1.1 q.1.2.2.2]
 R q:=a3o (wdS q.1.1 q.1.2.1 q.1.2.2.1 q.1.2.2.2)
 B' q:=[G0 q.1.1 (tokB q.1.2.2.2 (wdS q.1.1 q.1.2.1 q.1.2.2.1 q.1.2.2.2))]
 inj i j vs bs hv kv h k:=by
  have e1:=a45 (RBs.one_inj h k)
  obtain ⟨_,_,_,_,hv,kv⟩:=hv.two kv
  obtain ⟨_,_,h2,k2,hv,kv⟩:=hv.two kv
  obtain ⟨_,_,h3,k3,_,_⟩:=hv.two kv
  have e2:=congrArg y3.pos (a5c (h2.a_inj k2))
  have e2:i.1.2.1=j.1.2.1:=e2
  rw [e1.1,e1.2,e2,F1 h3 k3];exact ⟨rfl,rfl⟩
theorem b22 {t p:j0} (h:0 < t.length):q7 t p true=q7 t p false:=by
 unfold q7
 have:((true=true∧t.length=0)∨(p.length ≠ 0∧u5 p=false))↔((false=true∧t.length=0)∨(p.length ≠ 0∧u5 p=false)):=⟨fun h=>h.elim (fun h=>by omega) .inr,fun h=>h.elim (fun h=>by cases h.1) .inr⟩
 by_cases h1:40 < t.length
 ·rw [if_pos h1,if_pos h1]
 ·rw [if_neg h1,if_neg h1]
  by_cases h2:(true=true∧t.length=0)∨(p.length ≠ 0∧u5 p=false)
  ·rw [if_pos h2,if_pos (this.1 h2)]
  ·rw [if_neg h2,if_neg (fun h=>h2 (this.2 h))]
theorem b99 {s:j0} {i:Nat} (h:i < s.length) (hc:x5 (bt s i)=true):0 < (G3 s i).length:=by
 have h1:=c8j h hc
 have h2:=E5 s (i+1) oM
 unfold G3;simp;omega
theorem d4n (w:j0):(x9 w).1.length≤w.length∧(x9 w).2.length≤max 1 w.length:=by
 unfold x9 G8
 split <;> simp [S5] <;> omega
theorem d98 {s:j0} {i k:Nat} {w:j0} (h:has s k 58 58=true):wdS s i w k=K4 s i w k:=by unfold wdS;rw [if_pos h]
theorem e13 {s:j0} {i k:Nat} {w:j0} (h:¬has s k 58 58=true):wdS s i w k=G1 i w k:=by unfold wdS;rw [if_neg h]
theorem e19 {s p:j0} {i k:Nat} (h:k+2 < s.length):K4 s i p k=if bt s (k+2)=124 then (match C1 s 124 (k+2+1) [] with
  | .error e=>.error e
  | .ok (l,j)=>if q7 (D5 l) p true=0 then .ok (⟨6,i,p,D5 l,u4⟩,j) else .error (q7 (D5 l) p true,i))
 else if x5 (bt s (k+2)) then (if q7 (G3 s (k+2)) p false=0 then .ok (⟨6,i,p,G3 s (k+2),u4⟩,n7 s (k+2)) else .error (q7 (G3 s (k+2)) p false,i))
 else .error (12,k+2):=by rw [K4,if_pos h];rfl
theorem e3p (hst:l6 203 T6) (hdl:l6 136 b5a):l6 139 f5t:=o7 (fun fn h=>e3t h) [(160,_),(135,_),(51,_),(136,_),(138,_),(140,_),(137,_),(164,_),(165,_),(166,_),(155,_),(167,_)] (.cons b7l (.cons b51 (.cons b2a (.cons hdl (.cons b30 (.cons d8q (.cons (c6r hst) (.cons d5v (.cons d20 (.cons e4p (.cons (b3x hst) (.cons c4h .nil)))))))))))) fun U fn hfn ⟨(s,pos,w,k),hk,hsl,hw0,hwl⟩ vs bs hv hb=>by
 have hs:=hfn 160 _ rfl
 have hm:=hfn 135 _ rfl
 have hf:=hfn 51 _ rfl
 have hd:=hfn 136 _ rfl
 have hc:=hfn 138 _ rfl
 have hwd:=hfn 140 _ rfl
 have hnm:=hfn 137 _ rfl
 have hnu:=hfn 164 _ rfl
 have htr:=hfn 165 _ rfl
 have hpl:=hfn 166 _ rfl
 have hre:=hfn 155 _ rfl
 have hdg:=hfn 167 _ rfl
 have hk:k≤s.length:=hk
 have hsl:s.length < 8000:=hsl
 have hw0:0 < w.length:=hw0
 have hwl:w.length < 8000:=hwl
 have hv:l8 [.p 0 0,.a [.i .i64 0,.i .i64 (pos:Int),.s [],.s [],.s []],.c (.s w)] vs:=hv
 have hb:RBs [[.s s,.i .i64 (k:Int)]] bs:=hb
 show j3 U _ fun v bs'=>l7 (a3o (wdS s pos w k)) v∧RBs [G0 s (tokB k (wdS s pos w k))] bs'
 unfold d36
 -- a failure
 have bad:∀ {e:Int} {p:Nat} {vs:List V} {bs:List Bx} {K:V→List Bx→Om},wdS s pos w k=.error (e,p)→l8 [.c (.i .i64 e),.c (.i .i64 (p:Int))] vs→RBs [] bs→j3 U (U.bind (fn 51 vs bs) K fun v=>some (.pan (U.rn0 v),[.cells [.str s.length (m8 s),.int .i64 k]])) fun v bs'=>l7 (a3o (wdS s pos w k)) v∧RBs [G0 s (tokB k (wdS s pos w k))] bs':=fun {e p vs bs K} he hv hb=>by
  rw [he]
  exact E4 hf (e,(p:Int)) (r:=.fl 122 e p) rfl hv hb fun _ hv=>M6 hv (Z2 rfl)
 have badN:∀ {t:y3} {vs:List V} {bs:List Bx} {K:V→List Bx→Om},t.pkg.length < 90000→q7 t.text t.pkg true ≠ 0→wdS s pos w k=.error (q7 t.text t.pkg true,t.pos)→l8 [.a (p9 t)] vs→RBs [] bs→j3 U (U.bind (fn 137 vs bs) K fun v=>some (.pan (U.rn0 v),[.cells [.str s.length (m8 s),.int .i64 k]])) fun v bs'=>l7 (a3o (wdS s pos w k)) v∧RBs [G0 s (tokB k (wdS s pos w k))] bs':=fun {t vs bs K} hl h0 he hv hb=>by
  rw [he]
  exact E4 hnm ⟨t,hl⟩ (r:=.fl 122 (q7 t.text t.pkg true) t.pos) (by show J4 t=_;unfold J4;rw [if_neg h0]) hv hb fun _ hv=>M6 hv (Z2 rfl)
 (refine Zq ?_;intros)
 refine i6 hs ⟨⟨(s,k),hk,by show s.length < 90000;omega⟩,q8 2 14906⟩ (r:=.c (.b (has s k 58 58))) (by show t7.ret (.c (.b (Q1 (s.drop k) (q8 2 14906))))=_;rw [e70,c9w hk];rfl) j7 (Z2 rfl) fun _ _ _ hb1=>?_
 have hb1:RBs [[.s s,.i .i64 (k:Int)]] _:=hb1
 (refine Zy ?_;with_reducible repeat' first|intro _|apply aI)
 ·have hq:has s k 58 58=true:=‹_›
  have hk2:=P9 hq
  have ewd:=d98 (i:=pos) (w:=w) hq
  refine C9 (fun vs bs=>∃ (text:j0) (j:Nat),l8 [.p 1 0,.p 2 0] vs∧RBs [[.s s,.i .i64 (j:Int)],p9 ⟨6,pos,w,text,[]⟩,z5] bs∧j≤s.length∧K4 s pos w k=if q7 text w true=0 then .ok (⟨6,pos,w,text,[]⟩,j) else .error (q7 text w true,pos)) ?_ ?_
  ·rintro vs' bs' ⟨text,j,hv',hb',hj,he⟩
   have hb':RBs [[.s s,.i .i64 (j:Int)],[.i .i64 6,.i .i64 (pos:Int),.s w,.s text,.s []],[.i .i64 0,.i .i64 0,.s [],.s [],.s []]] bs':=hb'
   (refine Zq ?_;intros)
   by_cases h0:q7 text w true=0
   ·rw [if_pos h0] at he
    refine i6 hnm ⟨⟨6,pos,w,text,[]⟩,by show w.length < 90000;omega⟩ (r:=.t []) (by show J4 _=_;unfold J4;rw [if_pos h0]) (.k (.a _ _ _ rfl aS) .nil) .nil fun _ _ _ _=>?_
    (refine Zq ?_;intros)
    rw [ewd,he]
    exact k9 ⟨.ret _ _ (.a _ _ _ rfl aS),RB.bx aS rfl⟩
   ·rw [if_neg h0] at he
    exact badN (t:=⟨6,pos,w,text,[]⟩) (by show w.length < 90000;omega) h0 (ewd.trans he) (.k (.a _ _ _ rfl aS) .nil) .nil
  ·intro c hcc
   (refine Zq ?_;intros)
   refine i6 hm ⟨(s,k+2),by show k+2≤s.length;omega,by show s.length < 90000;omega⟩ (r:=.c (.b (decide (k+2 < s.length)))) rfl j7 (Z2 (show (k:Int)+2=((k+2:Nat):Int) by omega)) fun _ _ _ hb2=>?_
   have hb2:RBs [[.s s,.i .i64 ((k+2:Nat):Int)]] _:=hb2
   (refine Zq ?_;with_reducible repeat' first|intro _|apply aI)
   ·have hlt:k+2 < s.length:=of_decide_eq_true ‹_›
    have hbt:((s.getD (k+2) 0).toNat:Int)=bt s (k+2):=rfl
    have hb0:=a6q s (k+2)
    have hb9:=c03 s (k+2)
    have e0:=e19 (i:=pos) (p:=w) hlt
    (refine Zq ?_;with_reducible repeat' first|intro _|apply aI)
    ·have h124:bt s (k+2)=124:=‹_›
     rw [if_pos h124] at e0
     have hds:R0 s (k+2) 124=C1 s 124 (k+2+1) []:=rfl
     rw [← hds] at e0
     cases hde:R0 s (k+2) 124 with
     | error er =>
      obtain ⟨er,p⟩:=er
      rw [hde] at e0
      rw [ewd,e0]
      exact E4 hd ⟨(⟨(s,k+2),by show k+2≤s.length;omega,by show s.length < 90000;omega⟩,124),.inr rfl,hlt,hsl⟩ (r:=.fl 122 er p) (by show b1k (R0 s (k+2) 124)=_;rw [hde];rfl) j7 (Z2 rfl) fun _ hv=>M6 hv (Z2 rfl)
     | ok lj =>
      obtain ⟨l,j⟩:=lj
      rw [hde] at e0
      have hj:=b7g hde
      refine i6 hd ⟨(⟨(s,k+2),by show k+2≤s.length;omega,by show s.length < 90000;omega⟩,124),.inr rfl,hlt,hsl⟩ (r:=.c (.s (D5 l))) (by show b1k (R0 s (k+2) 124)=_;rw [hde];rfl) j7 (Z2 rfl) fun _ _ _ hb3=>?_
      have hb3:RBs [G0 s (c1y (k+2) (R0 s (k+2) 124))] _:=hb3
      rw [hde] at hb3
      have hb3:RBs [[.s s,.i .i64 (j:Int)]] _:=hb3
      (refine Zq ?_;intros)
      exact fun e=>hcc _ _ ⟨D5 l,j,by (exact j7),.k (scB rfl) (.k (.cells _ _ (by subst e;(exact W8))) (.k z5B .nil)),hj.2,e0⟩ e
    ·have h124:¬bt s (k+2)=124:=‹_›
     rw [if_neg h124] at e0
     refine i6 hc ⟨bt s (k+2),hb0,hb9⟩ (r:=.c (.b (x5 (bt s (k+2))))) rfl j7 .nil fun _ _ _ _=>?_
     (refine Zq ?_;with_reducible repeat' first|intro _|apply aI)
     ·have hcs:x5 (bt s (k+2))=true:=‹_›
      rw [if_pos hcs] at e0
      have hwe:=E5 s (k+2) oM
      have hwp:=b99 hlt hcs
      refine i6 hwd ⟨(s,k+2),by show k+2≤s.length;omega,by show s.length < 90000;omega⟩ (r:=.c (.s (G3 s (k+2)))) rfl j7 (Z2 rfl) fun _ _ _ hb3=>?_
      have hb3:RBs [[.s s,.i .i64 ((n7 s (k+2):Nat):Int)]] _:=hb3
      (refine Zq ?_;intros)
      refine fun e=>hcc _ _ ⟨G3 s (k+2),n7 s (k+2),by (exact j7),.k (scB rfl) (.k (.cells _ _ (by subst e;(exact W8))) (.k z5B .nil)),hwe.2,?_⟩ e
      rw [b22 hwp];exact e0
     ·have hcs:¬x5 (bt s (k+2))=true:=‹_›
      rw [if_neg hcs] at e0
      exact bad (ewd.trans e0) j7 .nil
   ·have hlt:¬k+2 < s.length:=fun h=>‹¬decide (k+2 < s.length)=true› (decide_eq_true h)
    exact bad (ewd.trans (by rw [K4,if_neg hlt])) j7 .nil
 ·have hq:¬has s k 58 58=true:=‹_›
  have ewd:=e13 (i:=pos) (w:=w) hq
  obtain ⟨nl1,nl2⟩:=d4n w
  refine i6 hnu ⟨w,by show w.length < 90000;omega⟩ (r:=.t [.c (.s (x9 w).1),.c (.s (x9 w).2),.c (.b (m6 w).2.2)]) rfl j7 .nil fun _ _ _ _=>?_
  (refine Zy ?_;intros)
  refine C9 (fun vs bs=>∃ t:y3,l8 [.p 1 0,.p 2 0] vs∧RBs [[.s s,.i .i64 (k:Int)],p9 t,z5] bs∧G1 pos w k=.ok (t,k)) ?_ ?_
  ·rintro vs' bs' ⟨t,hv',hb',he⟩
   have hb':RBs [[.s s,.i .i64 (k:Int)],[.i .i64 t.kind,.i .i64 (t.pos:Int),.s t.pkg,.s t.text,.s t.den],[.i .i64 0,.i .i64 0,.s [],.s [],.s []]] bs':=hb'
   (refine Zq ?_;intros)
   rw [ewd,he]
   exact k9 ⟨.ret _ _ (.a _ _ _ rfl aS),RB.bx aS rfl⟩
  ·intro c hcc
   (refine Zy ?_;with_reducible repeat' first|intro _|apply aI)
   ·have hdot:w=q8 1 46:=‹_›
    refine fun e=>hcc _ _ ⟨⟨3,pos,[],[],[]⟩,by (exact j7),.k (scB rfl) (.k (.cells _ _ (by subst e;(exact W8))) (.k z5B .nil)),?_⟩ e
    rw [G1,if_pos (by rw [hdot];rfl)];rfl
   ·have hdot:¬w=[46]:=‹_›
    refine C9 (fun vs bs=>∃ z:Bool,l8 [.c (.s w),.p 1 0,.p 2 0,.c (.s (x9 w).1),.c (.s (x9 w).2),.c (.b (m6 w).2.2),.c (.b z)] vs∧RBs [[.s s,.i .i64 (k:Int)],p9 (pT0 pos),z5] bs∧(z=true↔(m6 w).2.2=true∧Lib.trimS (x9 w).2 [48]=[])) ?_ ?_
    ·rintro vs' bs' ⟨z,hv',hb',hz⟩
     have hb':RBs [[.s s,.i .i64 (k:Int)],[.i .i64 0,.i .i64 (pos:Int),.s [],.s [],.s []],[.i .i64 0,.i .i64 0,.s [],.s [],.s []]] bs':=hb'
     (refine Zy ?_;with_reducible repeat' first|intro _|apply aI)
     ·obtain ⟨z1,z2⟩:=hz.1 ‹_›
      obtain ⟨c1,c2,c3⟩:=a8d z1
      exact bad (ewd.trans (by rw [G1,if_neg hdot,if_pos z1,if_pos (by rw [c2];exact (b5e c3).1 z2)])) (.k (.i _ _) (.k (.q _ _ aS) .nil)) .nil
     ·have z1:(m6 w).2.2=true:=‹_›
      have z0:¬z=true:=‹_›
      obtain ⟨c1,c2,c3⟩:=a8d z1
      have e9:G1 pos w k=if 100 < E8 (s7 (plain (x9 w).1) (plain (x9 w).2)).1∨100 < E8 (s7 (plain (x9 w).1) (plain (x9 w).2)).2 then .error (2,pos) else .ok (⟨5,pos,[],(s7 (plain (x9 w).1) (plain (x9 w).2)).1,(s7 (plain (x9 w).1) (plain (x9 w).2)).2⟩,k):=by
       rw [G1,if_neg hdot,if_pos z1,c1,c2,if_neg (fun h=>z0 (hz.2 ⟨z1,(b5e c3).2 h⟩))];rfl
      have p1:=a04 (x9 w).1
      have p2:=a04 (x9 w).2
      refine i6 hpl ⟨(x9 w).1,oM⟩ (r:=.c (.s (plain (x9 w).1))) rfl j7 .nil fun _ _ _ _=>?_
      (refine Zy ?_;intros)
      refine i6 hpl ⟨(x9 w).2,oM⟩ (r:=.c (.s (plain (x9 w).2))) rfl j7 .nil fun _ _ _ _=>?_
      (refine Zy ?_;intros)
      obtain ⟨rn,rd,er,_,_,l1,l2⟩:=a6b (plain (x9 w).1) (plain (x9 w).2)
      have l3:(j6 rn).length≤1+(j5 rn.natAbs).length:=by
       rw [a32,List.length_append]
       have:(LQ.sgn rn).length≤1:=by unfold LQ.sgn;split <;> simp
       omega
      rw [er] at e9
      simp only [] at e9
      rw [a96,a96] at e9
      refine i6 hre ⟨(plain (x9 w).1,plain (x9 w).2),by show (plain (x9 w).1).length < 8000;omega,by show (plain (x9 w).2).length < 8000;omega⟩ (r:=.t [.c (.s (j6 rn)),.c (.s (j5 rd))]) (by show t7.ret (.t [.c (.s (s7 (plain (x9 w).1) (plain (x9 w).2)).1),.c (.s (s7 (plain (x9 w).1) (plain (x9 w).2)).2)])=_;rw [er]) j7 .nil fun _ _ _ _=>?_
      (refine Zy ?_;intros)
      refine C9 (fun vs bs=>∃ y:Bool,l8 [.p 1 0,.p 2 0,.c (.b y)] vs∧RBs [[.s s,.i .i64 (k:Int)],p9 ⟨5,pos,[],j6 rn,j5 rd⟩,z5] bs∧(y=true↔100 < R2 (j6 rn)∨100 < R2 (j5 rd))) ?_ ?_
      ·rintro vs' bs' ⟨y,hv',hb',hy⟩
       have hb':RBs [[.s s,.i .i64 (k:Int)],[.i .i64 5,.i .i64 (pos:Int),.s [],.s (j6 rn),.s (j5 rd)],[.i .i64 0,.i .i64 0,.s [],.s [],.s []]] bs':=hb'
       (refine Zq ?_;with_reducible repeat' first|intro _|apply aI)
       ·rw [if_pos (hy.1 ‹_›)] at e9
        exact bad (ewd.trans e9) (.k (.i _ _) (.k (.q _ _ aS) .nil)) .nil
       ·rw [if_neg (fun h=>‹¬y=true› (hy.2 h))] at e9
        exact hcc _ _ ⟨_,by (exact j7),.k (.opa _ _ _ rfl aS) (.k (.opa _ _ _ rfl aS) (.k (.opa _ _ _ rfl aS) .nil)),e9⟩
      ·intro c2 hc2
       refine i6 hdg ⟨j6 rn,oM⟩ (r:=.c (.i .i64 (R2 (j6 rn):Nat))) rfl j7 .nil fun _ _ _ _=>?_
       (refine Zq ?_;with_reducible repeat' first|intro _|apply aI)
       ·exact fun e=>hc2 _ _ ⟨true,by (exact j7),.k (.opa _ _ _ rfl aS) (.k (.cells _ _ (by subst e;(exact W8))) (.k (.opa _ _ _ rfl aS) .nil)),by simp;omega⟩ e
       ·refine i6 hdg ⟨j5 rd,oM⟩ (r:=.c (.i .i64 (R2 (j5 rd):Nat))) rfl j7 .nil fun _ _ _ _=>?_
        (refine Zq ?_;intros)
        exact fun e=>hc2 _ _ ⟨decide (100 < R2 (j5 rd)),.k (.p _ _) (.k (.p _ _) (.k (J3 (by subst e;rw [b0s,decide_eq_decide];omega)) .nil)),.k (.opa _ _ _ rfl aS) (.k (.cells _ _ (by subst e;(exact W8))) (.k (.opa _ _ _ rfl aS) .nil)),decide_eq_true_iff.trans ⟨fun h=>.inr h,fun h=>h.resolve_left (fun h=>‹¬100 < ((R2 (j6 rn):Nat):Int)› oM)⟩⟩ e
     ·have z1:¬(m6 w).2.2=true:=‹_›
      have e9:G1 pos w k=if q7 w [] false=0 then .ok (⟨6,pos,[],w,[]⟩,k) else .error (q7 w [] false,pos):=by
       rw [G1,if_neg hdot,if_neg z1];rfl
      rw [← b22 hw0] at e9
      by_cases h0:q7 w [] true=0
      ·rw [if_pos h0] at e9
       refine fun e=>i6 hnm ⟨⟨6,pos,[],w,[]⟩,by show 0 < 90000;omega⟩ (r:=.t []) (by show J4 _=_;unfold J4;rw [if_pos h0]) (.k (.ag _ _ (by subst e;(exact W8))) .nil) .nil (fun _ _ _ _=>?_) e
       (refine Zq ?_;intros)
       exact fun e=>hcc _ _ ⟨_,by (exact j7),.k (.opa _ _ _ rfl aS) (.k (.cells _ _ (by subst e;(exact W8))) (.k (.opa _ _ _ rfl aS) .nil)),e9⟩ e
      ·rw [if_neg h0] at e9
       exact fun e=>badN (t:=⟨6,pos,[],w,[]⟩) (by show 0 < 90000;omega) h0 (ewd.trans e9) (.k (.ag _ _ (by subst e;(exact W8))) .nil) .nil e
    ·intro c2 hc2
     (refine Zy ?_;with_reducible repeat' first|intro _|apply aI)
     ·have z1:(m6 w).2.2=true:=‹_›
      refine i6 htr ⟨((x9 w).2,[48]),by show (x9 w).2.length < 4294967281;omega,by show 1 < 4294967281;omega,by simp⟩ (r:=.c (.s (Lib.trimS (x9 w).2 [48]))) rfl j7 .nil fun _ _ _ _=>?_
      (refine Zy ?_;intros)
      exact fun e=>hc2 _ _ ⟨decide (Lib.trimS (x9 w).2 [48]=[]),.k (.s _ _ _ rfl rfl) (.k (.p _ _) (.k (.p _ _) (.k (.s _ _ _ rfl rfl) (.k (.s _ _ _ rfl rfl) (.k (.b _) (.k (J3 (by subst e;rw [c2m];rfl)) .nil)))))),.k (scB rfl) (.k (.opa _ _ _ rfl aS) (.k z5B .nil)),by simp [z1]⟩ e
     ·have z1:¬(m6 w).2.2=true:=‹_›
      exact hc2 _ _ ⟨false,by (exact j7),.k (scB rfl) (.k (.opa _ _ _ rfl aS) (.k z5B .nil)),by simp [z1]⟩
end
end Go.Proofs.YtffaodopiifbkaaGreatDoor
namespace Go.Abs
theorem f4s {U:t6} {P:E6→List Bx→Prop} {b x:Int} {K:Int→Om} (hb:U=CU→b=x) (h:j3 U (K x) P):j3 U (U.fI b K) P:=fun e=>by
 have:=h e;rw [← hb e] at this;subst e;rw [V7];exact this
theorem d1e (c:Bool) (a b:Int):CU.isel c a b=cond c a b:=by cases c <;> rfl
end Go.Abs
namespace Go.Proofs.YtffaodopiifbkaaGreatDoor
open Go.Abs LQ
set_option maxRecDepth 100000
set_option maxHeartbeats 8000000
noncomputable section
def J1 (s:j0) (i:Nat):Except (Int × Nat) (y3 × Nat):=match LQ.skip s i with
 | none=>.error (11,s.length)
 | some j=>if j < s.length then B3 s j else .ok (⟨0,j,[],[],[]⟩,j)
def f5v:Sp where
 ι:={ p:j0 × Nat // p.2≤p.1.length∧p.1.length < 8000 }
 A _:=[.p 0 0]
 B p:=[G0 p.1.1 p.1.2]
 R p:=a3o (J1 p.1.1 p.1.2)
 B' p:=[G0 p.1.1 (tokB p.1.2 (J1 p.1.1 p.1.2))]
 inj i j vs bs _ _ h k:=by
  have:=a45 (RBs.one_inj h k)
  rw [this.1,this.2];exact ⟨rfl,rfl⟩
theorem d2w {s:j0} {j:Nat} (h1:bt s j ≠ 40) (h2:bt s j ≠ 41) (h3:bt s j ≠ 39) (h4:bt s j ≠ 34) (h5:bt s j ≠ 124) (hc:x5 (bt s j)=true):B3 s j=wdS s j (G3 s j) (n7 s j):=by
 rw [B3,if_neg h1,if_neg h2,if_neg h3,if_neg h4,if_neg h5,if_pos hc];rfl
theorem f2v (hst:l6 203 T6) (hdl:l6 136 b5a) (hcr:l6 158 c10):l6 93 f5v:=o7 (fun fn h=>e68 h) [(134,_),(135,_),(51,_),(136,_),(138,_),(140,_),(137,_),(139,_)] (.cons (f1t hcr) (.cons b51 (.cons b2a (.cons hdl (.cons b30 (.cons d8q (.cons (c6r hst) (.cons (e3p hst hdl) .nil)))))))) fun U fn hfn ⟨(s,i),hi,hsl⟩ vs bs hv hb=>by
 have hs:=hfn 134 _ rfl
 have hm:=hfn 135 _ rfl
 have hf:=hfn 51 _ rfl
 have hd:=hfn 136 _ rfl
 have hc:=hfn 138 _ rfl
 have hwd:=hfn 140 _ rfl
 have hnm:=hfn 137 _ rfl
 have hwo:=hfn 139 _ rfl
 have hi:i≤s.length:=hi
 have hsl:s.length < 8000:=hsl
 have hv:l8 [.p 0 0] vs:=hv
 have hb:RBs [[.s s,.i .i64 (i:Int)]] bs:=hb
 show j3 U _ fun v bs'=>l7 (a3o (J1 s i)) v∧RBs [G0 s (tokB i (J1 s i))] bs'
 unfold r93
 have bad:∀ {e:Int} {p:Nat} {vs:List V} {bs:List Bx} {K:V→List Bx→Om},J1 s i=.error (e,p)→l8 [.c (.i .i64 e),.c (.i .i64 (p:Int))] vs→RBs [] bs→j3 U (U.bind (fn 51 vs bs) K fun v=>some (.pan (U.rn0 v),[.cells [.str s.length (m8 s),.int .i64 i]])) fun v bs'=>l7 (a3o (J1 s i)) v∧RBs [G0 s (tokB i (J1 s i))] bs':=fun {e p vs bs K} he hv hb=>by
  rw [he]
  exact E4 hf (e,(p:Int)) (r:=.fl 122 e p) rfl hv hb fun _ hv=>M6 hv (Z2 rfl)
 have badN:∀ {t:y3} {vs:List V} {bs:List Bx} {K:V→List Bx→Om},t.pkg.length < 90000→q7 t.text t.pkg true ≠ 0→J1 s i=.error (q7 t.text t.pkg true,t.pos)→l8 [.a (p9 t)] vs→RBs [] bs→j3 U (U.bind (fn 137 vs bs) K fun v=>some (.pan (U.rn0 v),[.cells [.str s.length (m8 s),.int .i64 i]])) fun v bs'=>l7 (a3o (J1 s i)) v∧RBs [G0 s (tokB i (J1 s i))] bs':=fun {t vs bs K} hl h0 he hv hb=>by
  rw [he]
  exact E4 hnm ⟨t,hl⟩ (r:=.fl 122 (q7 t.text t.pkg true) t.pos) (by show J4 t=_;unfold J4;rw [if_neg h0]) hv hb fun _ hv=>M6 hv (Z2 rfl)
 (refine Zq ?_;with_reducible repeat' first|intro _|apply aI)
 cases hsk:LQ.skip s i with
 | none =>
  have en:J1 s i=.error (11,s.length):=by unfold J1;rw [hsk]
  rw [en]
  exact E4 hs ⟨(s,i),hi,by show s.length < 90000;omega⟩ (r:=.fl 122 11 s.length) (by show a1g s i=_;unfold a1g;rw [hsk]) j7 (Z2 rfl) fun _ hv=>M6 hv (Z2 rfl)
 | some j =>
  have hj:=R5 hi hsk
  have en:J1 s i=if j < s.length then B3 s j else .ok (⟨0,j,[],[],[]⟩,j):=by unfold J1;rw [hsk]
  refine i6 hs ⟨(s,i),hi,by show s.length < 90000;omega⟩ (r:=.t []) (by show a1g s i=_;unfold a1g;rw [hsk]) j7 (Z2 rfl) fun _ _ _ hb1=>?_
  have eb:a2u s i=j:=by unfold a2u;rw [hsk];rfl
  have hb1:RBs [G0 s (a2u s i)] _:=hb1
  rw [eb] at hb1
  have hb1:RBs [[.s s,.i .i64 (j:Int)]] _:=hb1
  (refine Zq ?_;intros)
  refine i6 hm ⟨(s,j),hj.2,by show s.length < 90000;omega⟩ (r:=.c (.b (decide (j < s.length)))) rfl j7 (Z2 rfl) fun _ _ _ hb2=>?_
  have hb2:RBs [[.s s,.i .i64 (j:Int)]] _:=hb2
  (refine Zy ?_;with_reducible repeat' first|intro _|apply aI)
  ·have hlt:j < s.length:=of_decide_eq_true ‹_›
   rw [if_pos hlt] at en
   have hbt:((s.getD j 0).toNat:Int)=bt s j:=rfl
   have hb0:=a6q s j
   have hb9:=c03 s j
   refine C9 (fun vs bs=>∃ (t:y3) (k:Nat),l8 [.p 1 0,.p 2 0] vs∧RBs [[.s s,.i .i64 (k:Int)],z5,p9 t] bs∧B3 s j=.ok (t,k)) ?_ ?_
   ·rintro vs' bs' ⟨t,k,hv',hb',he⟩
    have hb':RBs [[.s s,.i .i64 (k:Int)],[.i .i64 0,.i .i64 0,.s [],.s [],.s []],[.i .i64 t.kind,.i .i64 (t.pos:Int),.s t.pkg,.s t.text,.s t.den]] bs':=hb'
    (refine Zq ?_;intros)
    rw [en,he]
    exact k9 ⟨.ret _ _ (.a _ _ _ rfl aS),RB.bx aS rfl⟩
   ·intro c hcc
    (refine Zy ?_;intros)
    refine C9 (fun vs bs=>∃ z:Bool,l8 [.p 0 0,.p 1 0,.p 2 0,.c (.i .u8 (bt s j)),.c (.b z)] vs∧RBs [[.s s,.i .i64 (j:Int)],z5,p9 (pT0 j)] bs∧(z=true↔bt s j=40∨bt s j=41∨bt s j=39)) ?_ ?_
    ·rintro vs' bs' ⟨z,hv',hb',hz⟩
     have hb':RBs [[.s s,.i .i64 (j:Int)],[.i .i64 0,.i .i64 0,.s [],.s [],.s []],[.i .i64 0,.i .i64 (j:Int),.s [],.s [],.s []]] bs':=hb'
     (refine Zy ?_;with_reducible repeat' first|intro _|apply aI)
     ·have hz1:=hz.1 ‹_›
      refine d0p (p:=¬(¬bt s j=40∧¬bt s j=41∧¬bt s j=39)) (by (repeat' (first | exact trT | exact trF | apply a4r | apply a33 | exact a3z | exact a4o | exact a3p | exact a5t | exact a9b | exact a11 | exact a1t | exact a1c | exact a1o | exact a0j | exact a4p | exact a9u | exact a9k | exact trS | exact trV))) oM ?_
      refine f4s (x:=if bt s j=40 then 1 else if bt s j=41 then 2 else 4) (fun e=>by
       subst e
       rw [d1e,d1e,T8,T8]
       by_cases h1:bt s j=40
       ·simp [h1]
       ·by_cases h2:bt s j=41 <;> simp [h1,h2]) ?_
      (refine Zy ?_;intros)
      refine fun e=>hcc _ _ ⟨⟨if bt s j=40 then 1 else if bt s j=41 then 2 else 4,j,[],[],[]⟩,j+1,by (exact j7),.k (.cells _ _ (by subst e;(exact W8))) (.k (.opa _ _ _ rfl aS) (.k (.cells _ _ (by subst e;(exact W8))) .nil)),?_⟩ e
      rcases hz1 with h | h | h
      ·rw [B3,if_pos h,if_pos h];rfl
      ·rw [B3,if_neg oM,if_pos h,if_neg oM,if_pos h];rfl
      ·rw [B3,if_neg oM,if_neg oM,if_pos h,if_neg oM,if_neg oM];rfl
     ·have hz0:¬(bt s j=40∨bt s j=41∨bt s j=39):=fun h=>‹¬z=true› (hz.2 h)
      have h34:bt s j=34:=‹_›
      have e0:B3 s j=match R0 s j 34 with
       | .error e=>.error e
       | .ok (l,k)=>if 200 < l.length then .error (2,j) else .ok (⟨7,j,u4,D5 l,u4⟩,k):=by
       rw [B3,if_neg oM,if_neg oM,if_neg oM,if_pos h34];rfl
      cases hde:R0 s j 34 with
      | error er =>
       obtain ⟨er,p⟩:=er
       rw [hde] at e0
       rw [en,e0]
       exact E4 hd ⟨(⟨(s,j),hj.2,by show s.length < 90000;omega⟩,34),.inl rfl,hlt,hsl⟩ (r:=.fl 122 er p) (by show b1k (R0 s j 34)=_;rw [hde];rfl) j7 (RB.bx aS rfl) fun _ hv=>M6 hv (Z2 rfl)
      | ok lj =>
       obtain ⟨l,k⟩:=lj
       rw [hde] at e0
       refine i6 hd ⟨(⟨(s,j),hj.2,by show s.length < 90000;omega⟩,34),.inl rfl,hlt,hsl⟩ (r:=.c (.s (D5 l))) (by show b1k (R0 s j 34)=_;rw [hde];rfl) j7 (RB.bx aS rfl) fun _ _ _ hb3=>?_
       have hb3:RBs [G0 s (c1y j (R0 s j 34))] _:=hb3
       rw [hde] at hb3
       have hb3:RBs [[.s s,.i .i64 (k:Int)]] _:=hb3
       have hll:=a5n l
       (refine Zy ?_;with_reducible repeat' first|intro _|apply aI)
       ·exact fun e=>bad (en.trans (e0.trans (if_pos oM))) (.k (.i _ _) (.k (.q _ _ (by subst e;exact x4.at aS (by rfl))) .nil)) .nil e
       ·exact fun e=>hcc _ _ ⟨⟨7,j,[],D5 l,[]⟩,k,by (exact j7),.k (.opa _ _ _ rfl aS) (.k (.opa _ _ _ rfl aS) (.k (.cells _ _ (by subst e;(exact W8))) .nil)),e0.trans (if_neg oM)⟩ e
     ·have hz0:¬(bt s j=40∨bt s j=41∨bt s j=39):=fun h=>‹¬z=true› (hz.2 h)
      have h34:¬bt s j=34:=‹_›
      have h124:bt s j=124:=‹_›
      have e0:B3 s j=match R0 s j 124 with
       | .error e=>.error e
       | .ok (l,k)=>if q7 (D5 l) u4 true=0 then .ok (⟨6,j,u4,D5 l,u4⟩,k) else .error (q7 (D5 l) u4 true,j):=by
       rw [B3,if_neg oM,if_neg oM,if_neg oM,if_neg h34,if_pos h124];rfl
      cases hde:R0 s j 124 with
      | error er =>
       obtain ⟨er,p⟩:=er
       rw [hde] at e0
       rw [en,e0]
       exact E4 hd ⟨(⟨(s,j),hj.2,by show s.length < 90000;omega⟩,124),.inr rfl,hlt,hsl⟩ (r:=.fl 122 er p) (by show b1k (R0 s j 124)=_;rw [hde];rfl) j7 (RB.bx aS rfl) fun _ hv=>M6 hv (Z2 rfl)
      | ok lj =>
       obtain ⟨l,k⟩:=lj
       rw [hde] at e0
       have e0:B3 s j=if q7 (D5 l) [] true=0 then .ok (⟨6,j,[],D5 l,[]⟩,k) else .error (q7 (D5 l) [] true,j):=e0
       refine i6 hd ⟨(⟨(s,j),hj.2,by show s.length < 90000;omega⟩,124),.inr rfl,hlt,hsl⟩ (r:=.c (.s (D5 l))) (by show b1k (R0 s j 124)=_;rw [hde];rfl) j7 (RB.bx aS rfl) fun _ _ _ hb3=>?_
       have hb3:RBs [G0 s (c1y j (R0 s j 124))] _:=hb3
       rw [hde] at hb3
       have hb3:RBs [[.s s,.i .i64 (k:Int)]] _:=hb3
       (refine Zy ?_;intros)
       by_cases h0:q7 (D5 l) [] true=0
       ·rw [if_pos h0] at e0
        refine fun e=>i6 hnm ⟨⟨6,j,[],D5 l,[]⟩,by show 0 < 90000;omega⟩ (r:=.t []) (by show J4 _=_;unfold J4;rw [if_pos h0]) (.k (.ag _ _ (by subst e;(exact W8))) .nil) .nil (fun _ _ _ _=>?_) e
        (refine Zy ?_;intros)
        exact fun e=>hcc _ _ ⟨_,k,by (exact j7),.k (.opa _ _ _ rfl aS) (.k (.opa _ _ _ rfl aS) (.k (.cells _ _ (by subst e;(exact W8))) .nil)),e0⟩ e
       ·rw [if_neg h0] at e0
        exact fun e=>badN (t:=⟨6,j,[],D5 l,[]⟩) (by show 0 < 90000;omega) h0 (en.trans e0) (.k (.ag _ _ (by subst e;(exact W8))) .nil) .nil e
     ·have hz0:¬(bt s j=40∨bt s j=41∨bt s j=39):=fun h=>‹¬z=true› (hz.2 h)
      have h34:¬bt s j=34:=‹_›
      have h124:¬bt s j=124:=‹_›
      refine i6 hc ⟨bt s j,hb0,hb9⟩ (r:=.c (.b (x5 (bt s j)))) rfl j7 .nil fun _ _ _ _=>?_
      (refine Zy ?_;with_reducible repeat' first|intro _|apply aI)
      ·have hcs:x5 (bt s j)=true:=‹_›
       have hwe:=E5 s j oM
       have hwp:=b99 hlt hcs
       have hwl:(G3 s j).length≤s.length:=by unfold G3;simp;omega
       have e0:=d2w (fun h=>hz0 (.inl h)) (fun h=>hz0 (.inr (.inl h))) (fun h=>hz0 (.inr (.inr h))) h34 h124 hcs
       refine i6 hwd ⟨(s,j),hj.2,by show s.length < 90000;omega⟩ (r:=.c (.s (G3 s j))) rfl j7 (RB.bx aS rfl) fun _ _ _ hb3=>?_
       have hb3:RBs [[.s s,.i .i64 ((n7 s j:Nat):Int)]] _:=hb3
       (refine Zy ?_;with_reducible repeat' first|intro _|apply aI)
       cases hw:wdS s j (G3 s j) (n7 s j) with
       | error er =>
        obtain ⟨er,p⟩:=er
        rw [en,e0,hw]
        exact E4 hwo ⟨(s,j,G3 s j,n7 s j),hwe.2,hsl,hwp,by show (G3 s j).length < 8000;omega⟩ (r:=.fl 122 er p) (by show a3o (wdS s j (G3 s j) (n7 s j))=_;rw [hw];rfl) (.k (.p _ _) (.k (.a _ _ _ rfl aS) (.k (.s _ _ _ rfl rfl) .nil))) (RB.bx aS rfl) fun _ hv=>M6 hv (Z2 rfl)
       | ok tk =>
        obtain ⟨t,k⟩:=tk
        rw [hw] at e0
        refine i6 hwo ⟨(s,j,G3 s j,n7 s j),hwe.2,hsl,hwp,by show (G3 s j).length < 8000;omega⟩ (r:=.a (p9 t)) (by show a3o (wdS s j (G3 s j) (n7 s j))=_;rw [hw];rfl) (.k (.p _ _) (.k (.a _ _ _ rfl aS) (.k (.s _ _ _ rfl rfl) .nil))) (RB.bx aS rfl) fun _ _ _ hb4=>?_
        have hb4:RBs [G0 s (tokB (n7 s j) (wdS s j (G3 s j) (n7 s j)))] _:=hb4
        rw [hw] at hb4
        have hb4:RBs [[.s s,.i .i64 (k:Int)]] _:=hb4
        (refine Zy ?_;intros)
        exact hcc _ _ ⟨t,k,by (exact j7),.k (.opa _ _ _ rfl aS) (.k (.opa _ _ _ rfl aS) (.k (.opa _ _ _ rfl aS) .nil)),e0⟩
      ·have hcs:¬x5 (bt s j)=true:=‹_›
       exact bad (en.trans (by rw [B3,if_neg (fun h=>hz0 (.inl h)),if_neg (fun h=>hz0 (.inr (.inl h))),if_neg (fun h=>hz0 (.inr (.inr h))),if_neg h34,if_neg h124,if_neg hcs])) (.k (.i _ _) (.k (.q _ _ aS) .nil)) .nil
    ·intro c2 hc2
     (refine Zy ?_;with_reducible repeat' first|intro _|apply aI)
     ·exact hc2 _ _ ⟨true,by (exact j7),.k (scB rfl) (.k z5B (.k (.cells _ _ j7) .nil)),by simp;omega⟩
     ·exact hc2 _ _ ⟨true,by (exact j7),.k (scB rfl) (.k z5B (.k (.cells _ _ j7) .nil)),by simp;omega⟩
     ·exact fun e=>hc2 _ _ ⟨decide (bt s j=39),.k (.p _ _) (.k (.p _ _) (.k (.p _ _) (.k (.i _ _) (.k (J3 (by subst e;rw [T8,decide_eq_decide];omega)) .nil)))),.k (scB rfl) (.k z5B (.k (.cells _ _ j7) .nil)),by rw [decide_eq_true_iff];omega⟩ e
  ·have hlt:¬j < s.length:=fun h=>‹¬decide (j < s.length)=true› (decide_eq_true h)
   rw [if_neg hlt] at en
   rw [en]
   exact k9 ⟨.ret _ _ (.ag _ _ j7),Z2 rfl⟩
theorem c5v {s:j0} {i k:Nat} {t:y3} (h:B3 s i=.ok (t,k)):t.kind ≠ 0:=by
 have fin:∀ {x:y3} {y:Nat},x.kind ≠ 0→(Except.ok (x,y):Except (Int × Nat) (y3 × Nat))=.ok (t,k)→t.kind ≠ 0:=by
  intro x y hx h;injection h with h;injection h with h1 h2;rw [← h1];exact hx
 unfold B3 at h
 repeat' split at h
 all_goals try (cases h;done)
 all_goals try exact fin dE h
 all_goals try exact fin (show ¬(6:Int)=0 by decide) h
 all_goals try exact fin (show ¬(7:Int)=0 by decide) h
 all_goals try exact fin (show ¬(1:Int)=0 by decide) h
 all_goals try exact fin (show ¬(2:Int)=0 by decide) h
 all_goals try exact fin (show ¬(4:Int)=0 by decide) h
 ·unfold K4 at h
  simp only [] at h
  repeat' split at h
  all_goals try (cases h;done)
  all_goals exact fin (show ¬(6:Int)=0 by decide) h
 ·unfold G1 at h
  simp only [] at h
  repeat' split at h
  all_goals try (cases h;done)
  all_goals first | exact fin (show ¬(3:Int)=0 by decide) h | exact fin (show ¬(5:Int)=0 by decide) h | exact fin (show ¬(6:Int)=0 by decide) h
theorem c0a {s:j0} {i:Nat} {acc:List y3} (hi:i≤s.length):D7 s i acc=match J1 s i with
  | .error e=>.error e
  | .ok (t,k)=>if t.kind=0 then .ok (acc ++ [t]) else D7 s k (acc ++ [t]):=by
 rw [Y5 hi]
 unfold J1
 cases hs:LQ.skip s i with
 | none=>rfl
 | some j =>
  have hj:=R5 hi hs
  simp only []
  by_cases hlt:j < s.length
  ·rw [if_pos hlt,if_pos hlt]
   cases ht:B3 s j with
   | error e=>rfl
   | ok p=>simp only [];rw [if_neg (c5v (t:=p.1) (k:=p.2) ht)]
  ·rw [if_neg hlt,if_neg hlt]
   simp only []
   rw [if_pos trivial,show j=s.length by omega];rfl
theorem e1c {s:j0} {i k:Nat} {t:y3} (hi:i≤s.length) (h:J1 s i=.ok (t,k)) (h0:t.kind ≠ 0):i < k∧k≤s.length:=by
 unfold J1 at h
 cases hs:LQ.skip s i with
 | none=>rw [hs] at h;cases h
 | some j =>
  have hj:=R5 hi hs
  rw [hs] at h
  simp only [] at h
  by_cases hlt:j < s.length
  ·rw [if_pos hlt] at h;have:=X5 hlt h;omega
  ·rw [if_neg hlt] at h;injection h with h;injection h with h1 h2;rw [← h1] at h0;exact absurd rfl h0
def c1o:Except (Int × Nat) (List y3)→t7
 | .ok T=>.ret (.sl 5 (T.map p9))
 | .error (e,p)=>O7 e p
def e9g:Sp where
 ι:={ s:j0 // s.length < 8000 }
 A s:=[.c (.s s.1)]
 B _:=[]
 R s:=c1o (A7 s.1)
 B' _:=[]
 inj i j vs bs h k _ _:=by
  obtain ⟨_,_,h1,k1,h,k⟩:=h.two k
  rw [F1 h1 k1];exact ⟨rfl,rfl⟩
theorem f2b (hst:l6 203 T6) (hdl:l6 136 b5a) (hcr:l6 158 c10):l6 55 e9g:=o7 (fun fn h=>e7u h) [(51,_),(93,_)] (.cons b2a (.cons (f2v hst hdl hcr) .nil)) fun U fn hfn ⟨s,hsl⟩ vs bs hv hb=>by
 have hf:=hfn 51 _ rfl
 have hn:=hfn 93 _ rfl
 have hsl:s.length < 8000:=hsl
 have hv:l8 [.c (.s s)] vs:=hv
 have hb:RBs [] bs:=hb
 show j3 U _ fun v bs'=>l7 (c1o (A7 s)) v∧RBs [] bs'
 unfold r55
 (refine Zy ?_;intros)
 refine C9 (fun vs bs=>vs=[.str s.length (m8 s)]∧bs=[]∧s.length≤6000) ?_ ?_
 ·rintro _ _ ⟨rfl,rfl,hs6⟩
  (refine Zq ?_;intros)
  have et:A7 s=D7 s 0 []:=by unfold A7;rw [if_neg oM]
  refine C7 (fun (i:Nat) vs bs=>∃ (acc:List y3) (v:V) (b0:Bx),vs=[.ptr 0 0,v]∧bs=[b0,.tok acc.length 5]∧RB (G0 s i) b0∧V4 1 5 (acc.map p9) v∧i≤s.length∧acc.length≤i∧A7 s=D7 s i acc) (fun i=>s.length - i) 0 ⟨[],_,_,rfl,rfl,scB rfl,.b rfl,Nat.zero_le _,Nat.le_refl _,et⟩ (by simp only [x8];omega) ?_
  rintro self i _ _ ⟨acc,v,b0,rfl,rfl,hb0,htk,hi,ha,he⟩ ih
  have hb0:RB [.s s,.i .i64 (i:Int)] b0:=hb0
  rw [he,c0a hi]
  (refine Zq ?_;with_reducible repeat' first|intro _|apply aI)
  cases hne:J1 s i with
  | error er =>
   obtain ⟨er,p⟩:=er
   exact E4 hn ⟨(s,i),hi,hsl⟩ (r:=.fl 122 er p) (by show a3o (J1 s i)=_;rw [hne];rfl) j7 (RB.bx aS rfl) fun _ hv=>M6 hv .nil
  | ok tk =>
   obtain ⟨t,k⟩:=tk
   simp only []
   refine i6 hn ⟨(s,i),hi,hsl⟩ (r:=.a (p9 t)) (by show a3o (J1 s i)=_;rw [hne];rfl) j7 (RB.bx aS rfl) fun _ _ hv1 hb1=>?_
   have hb1:RBs [G0 s (tokB i (J1 s i))] _:=hb1
   rw [hne] at hb1
   have hb1:RBs [[.s s,.i .i64 (k:Int)]] _:=hb1
   have hv1:RV (.a [.i .i64 t.kind,.i .i64 (t.pos:Int),.s t.pkg,.s t.text,.s t.den]) _:=hv1
   (refine Zq ?_;intros)
   refine V8 (xs:=acc.map p9) (r:=p9 t) (n:=5) (off:=0) aS (fun _=>T0 (by rw [F7];decide) aS) (F7 _) (by simp) (by simp;omega) fun _ ht'=>?_
   rw [show acc.map p9 ++ [p9 t]=(acc ++ [t]).map p9 by simp] at ht'
   (refine Zq ?_;with_reducible repeat' first|intro _|apply aI)
   ·rw [if_pos ‹_›]
    exact k9 ⟨.ret _ _ (.sl _ _ _ _ _ (by simp) ht'),.nil⟩
   ·have h0:¬t.kind=0:=‹_›
    rw [if_neg h0]
    have hg:=e1c hi hne h0
    have et2:A7 s=D7 s k (acc ++ [t]):=by rw [he,c0a hi,hne];simp only [];rw [if_neg h0]
    rw [← et2]
    exact ih k _ _ ⟨acc ++ [t],_,_,rfl,by rw [List.length_append];rfl,.opa _ _ _ rfl aS,.a _ _ (by simp) ht',hg.2,by simp;omega,et2⟩ oM
 ·intro c hc
  (refine Zy ?_;with_reducible repeat' first|intro _|apply aI)
  ·have e:A7 s=.error (2,0):=by unfold A7;rw [if_pos oM]
   rw [e]
   exact E4 hf (2,0) (r:=.fl 122 2 0) rfl j7 .nil fun _ hv=>M6 hv .nil
  ·exact hc _ _ ⟨rfl,rfl,oM⟩
end
end Go.Proofs.YtffaodopiifbkaaGreatDoor
