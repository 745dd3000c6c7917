/- The program's reader: the token that begins with a word. -/
import Derived.Test.YtgipbdffgfbedaaGreatDoorCJ7
set_option linter.all false
namespace Go.Proofs.YtgipbdffgfbedaaGreatDoor
open Go.Abs LQ
set_option maxRecDepth 100000
set_option maxHeartbeats 8000000
noncomputable section
def pT0 (i:Nat):A8:=⟨0,i,[],[],[]⟩
def f4w:Sp where
 ι:={ q:f6 × Nat × f6 × Nat // q.2.2.2≤q.1.length∧q.1.length < 1920000∧0 < q.2.2.1.length∧q.2.2.1.length < 1920000 }
 A q:=[.p 0 0,.a (R8 (pT0 q.1.2.1)),.c (.s q.1.2.2.1)]
 B q:=[G6 q.1.1 q.1.2.2.2]
 R q:=a29 (wdS q.1.1 q.1.2.1 q.1.2.2.1 q.1.2.2.2)
 B' q:=[G6 q.1.1 (tokB q.1.2.2.2 (wdS q.1.1 q.1.2.1 q.1.2.2.1 q.1.2.2.2))]
 inj i j vs bs hv kv h k:=by
  have e1:=a4h (RBs.one_inj h k)
  obtain ⟨_,_,_,_,hv,kv⟩:=hv.two kv
  obtain ⟨_,_,h2,k2,hv,kv⟩:=hv.two kv
  obtain ⟨_,_,h3,k3,_,_⟩:=hv.two kv
  have e2:=congrArg A8.pos (c7d (h2.a_inj k2))
  have e2:i.1.2.1=j.1.2.1:=e2
  rw [e1.1,e1.2,e2,F5 h3 k3];exact ⟨rfl,rfl⟩
theorem b2b {t p:f6} (h:0 < t.length):o7 t p true=o7 t p false:=by
 unfold o7
 have:((true=true∧t.length=0)∨(p.length ≠ 0∧p8 p=false))↔((false=true∧t.length=0)∨(p.length ≠ 0∧p8 p=false)):=⟨fun h=>h.elim (fun h=>by omega) .inr,fun h=>h.elim (fun h=>by cases h.1) .inr⟩
 by_cases h1:40 < t.length
 ·rw [if_pos h1,if_pos h1]
 ·rw [if_neg h1,if_neg h1]
  by_cases h2:(true=true∧t.length=0)∨(p.length ≠ 0∧p8 p=false)
  ·rw [if_pos h2,if_pos (this.1 h2)]
  ·rw [if_neg h2,if_neg (fun h=>h2 (this.2 h))]
theorem b9e {s:f6} {i:Nat} (h:i < s.length) (hc:s7 (bt s i)=true):0 < (G8 s i).length:=by
 have h1:=d79 h hc
 have h2:=G3 s (i+1) oM
 unfold G8;simp;omega
theorem d43 (w:f6):(u4 w).1.length≤w.length∧(u4 w).2.length≤max 1 w.length:=by
 unfold u4 H0
 split <;> simp [R6] <;> omega
theorem e1k {s:f6} {i k:Nat} {w:f6} (h:has s k 58 58=true):wdS s i w k=I7 s i w k:=by unfold wdS;rw [if_pos h]
theorem e1l {s:f6} {i k:Nat} {w:f6} (h:¬has s k 58 58=true):wdS s i w k=G4 i w k:=by unfold wdS;rw [if_neg h]
theorem d90 {s p:f6} {i k:Nat} (h:k+2 < s.length):I7 s i p k=if bt s (k+2)=124 then (match H1 s 124 (k+2+1) [] with
  | .error e=>.error e
  | .ok (l,j)=>if o7 (E2 l) p true=0 then .ok (⟨6,i,p,E2 l,q8⟩,j) else .error (o7 (E2 l) p true,i))
 else if s7 (bt s (k+2)) then (if o7 (G8 s (k+2)) p false=0 then .ok (⟨6,i,p,G8 s (k+2),q8⟩,l7 s (k+2)) else .error (o7 (G8 s (k+2)) p false,i))
 else .error (12,k+2):=by rw [I7,if_pos h];rfl
theorem d9g (hst:j4 106 a1g) (hdl:j4 116 c0j):j4 119 f4w:=l9 (fun fn h=>e0b h) [(134,_),(115,_),(101,_),(116,_),(118,_),(120,_),(117,_),(137,_),(138,_),(139,_),(83,_),(82,_)] (.cons b6s (.cons b4q (.cons b4o (.cons hdl (.cons b25 (.cons d69 (.cons (c6a hst) (.cons d4m (.cons d1c (.cons e2s (.cons (c10 hst) (.cons c1t .nil)))))))))))) fun U fn hfn ⟨(s,pos,w,k),hk,hsl,hw0,hwl⟩ vs bs hv hb=>by
 have hs:=hfn 134 _ rfl
 have hm:=hfn 115 _ rfl
 have hf:=hfn 101 _ rfl
 have hd:=hfn 116 _ rfl
 have hc:=hfn 118 _ rfl
 have hwd:=hfn 120 _ rfl
 have hnm:=hfn 117 _ rfl
 have hnu:=hfn 137 _ rfl
 have htr:=hfn 138 _ rfl
 have hpl:=hfn 139 _ rfl
 have hre:=hfn 83 _ rfl
 have hdg:=hfn 82 _ rfl
 have hk:k≤s.length:=hk
 have hsl:s.length < 1920000:=hsl
 have hw0:0 < w.length:=hw0
 have hwl:w.length < 1920000:=hwl
 have hv:j6 [.p 0 0,.a [.i .i64 0,.i .i64 (pos:Int),.s [],.s [],.s []],.c (.s w)] vs:=hv
 have hb:RBs [[.s s,.i .i64 (k:Int)]] bs:=hb
 show g8 U _ fun v bs'=>j7 (a29 (wdS s pos w k)) v∧RBs [G6 s (tokB k (wdS s pos w k))] bs'
 unfold e3w
 -- a failure
 have bad:∀ {e:Int} {p:Nat} {vs:List V} {bs:List Bx} {K:V→List Bx→Om},wdS s pos w k=.error (e,p)→j6 [.c (.i .i64 e),.c (.i .i64 (p:Int))] vs→RBs [] bs→g8 U (U.bind (fn 101 vs bs) K fun v=>some (.pan (U.rn0 v),[.cells [.str s.length (j9 s),.int .i64 k]])) fun v bs'=>j7 (a29 (wdS s pos w k)) v∧RBs [G6 s (tokB k (wdS s pos w k))] bs':=fun {e p vs bs K} he hv hb=>by
  rw [he]
  exact P6 hf (e,(p:Int)) (r:=.fl 117 e p) rfl hv hb fun _ hv=>a09 hv (Y2 rfl)
 have badN:∀ {t:A8} {vs:List V} {bs:List Bx} {K:V→List Bx→Om},t.pkg.length < 21600000→o7 t.text t.pkg true ≠ 0→wdS s pos w k=.error (o7 t.text t.pkg true,t.pos)→j6 [.a (R8 t)] vs→RBs [] bs→g8 U (U.bind (fn 117 vs bs) K fun v=>some (.pan (U.rn0 v),[.cells [.str s.length (j9 s),.int .i64 k]])) fun v bs'=>j7 (a29 (wdS s pos w k)) v∧RBs [G6 s (tokB k (wdS s pos w k))] bs':=fun {t vs bs K} hl h0 he hv hb=>by
  rw [he]
  exact P6 hnm ⟨t,hl⟩ (r:=.fl 117 (o7 t.text t.pkg true) t.pos) (by show J4 t=_;unfold J4;rw [if_neg h0]) hv hb fun _ hv=>a09 hv (Y2 rfl)
 (refine Zq ?_;intros)
 refine f9 hs ⟨⟨(s,k),hk,by show s.length < 21600000;omega⟩,n5 2 14906⟩ (r:=.c (.b (has s k 58 58))) (by show o8.ret (.c (.b (Q3 (s.drop k) (n5 2 14906))))=_;rw [e17,c82 hk];rfl) j3 (Y2 rfl) fun _ _ _ hb1=>?_
 have hb1:RBs [[.s s,.i .i64 (k:Int)]] _:=hb1
 (refine Zy ?_;with_reducible repeat' first|intro _|apply aI)
 ·have hq:has s k 58 58=true:=‹_›
  have hk2:=V8 hq
  have ewd:=e1k (i:=pos) (w:=w) hq
  refine Q4 (fun vs bs=>∃ (text:f6) (j:Nat),j6 [.p 1 0,.p 2 0] vs∧RBs [[.s s,.i .i64 (j:Int)],R8 ⟨6,pos,w,text,[]⟩,z5] bs∧j≤s.length∧I7 s pos w k=if o7 text w true=0 then .ok (⟨6,pos,w,text,[]⟩,j) else .error (o7 text w true,pos)) ?_ ?_
  ·rintro vs' bs' ⟨text,j,hv',hb',hj,he⟩
   have hb':RBs [[.s s,.i .i64 (j:Int)],[.i .i64 6,.i .i64 (pos:Int),.s w,.s text,.s []],[.i .i64 0,.i .i64 0,.s [],.s [],.s []]] bs':=hb'
   (refine Zq ?_;intros)
   by_cases h0:o7 text w true=0
   ·rw [if_pos h0] at he
    refine f9 hnm ⟨⟨6,pos,w,text,[]⟩,by show w.length < 21600000;omega⟩ (r:=.t []) (by show J4 _=_;unfold J4;rw [if_pos h0]) (.k (.a _ _ _ rfl aS) .nil) .nil fun _ _ _ _=>?_
    (refine Zq ?_;intros)
    rw [ewd,he]
    exact i7 ⟨.ret _ _ (.a _ _ _ rfl aS),RB.bx aS rfl⟩
   ·rw [if_neg h0] at he
    exact badN (t:=⟨6,pos,w,text,[]⟩) (by show w.length < 21600000;omega) h0 (ewd.trans he) (.k (.a _ _ _ rfl aS) .nil) .nil
  ·intro c hcc
   (refine Zq ?_;intros)
   refine f9 hm ⟨(s,k+2),by show k+2≤s.length;omega,by show s.length < 21600000;omega⟩ (r:=.c (.b (decide (k+2 < s.length)))) rfl j3 (Y2 (show (k:Int)+2=((k+2:Nat):Int) by omega)) fun _ _ _ hb2=>?_
   have hb2:RBs [[.s s,.i .i64 ((k+2:Nat):Int)]] _:=hb2
   (refine Zq ?_;with_reducible repeat' first|intro _|apply aI)
   ·have hlt:k+2 < s.length:=of_decide_eq_true ‹_›
    have hbt:((s.getD (k+2) 0).toNat:Int)=bt s (k+2):=rfl
    have hb0:=a5f s (k+2)
    have hb9:=b9x s (k+2)
    have e0:=d90 (i:=pos) (p:=w) hlt
    (refine Zq ?_;with_reducible repeat' first|intro _|apply aI)
    ·have h124:bt s (k+2)=124:=‹_›
     rw [if_pos h124] at e0
     have hds:R2 s (k+2) 124=H1 s 124 (k+2+1) []:=rfl
     rw [← hds] at e0
     cases hde:R2 s (k+2) 124 with
     | error er =>
      obtain ⟨er,p⟩:=er
      rw [hde] at e0
      rw [ewd,e0]
      exact P6 hd ⟨(⟨(s,k+2),by show k+2≤s.length;omega,by show s.length < 21600000;omega⟩,124),.inr rfl,hlt,hsl⟩ (r:=.fl 117 er p) (by show a9w (R2 s (k+2) 124)=_;rw [hde];rfl) j3 (Y2 rfl) fun _ hv=>a09 hv (Y2 rfl)
     | ok lj =>
      obtain ⟨l,j⟩:=lj
      rw [hde] at e0
      have hj:=a6y hde
      refine f9 hd ⟨(⟨(s,k+2),by show k+2≤s.length;omega,by show s.length < 21600000;omega⟩,124),.inr rfl,hlt,hsl⟩ (r:=.c (.s (E2 l))) (by show a9w (R2 s (k+2) 124)=_;rw [hde];rfl) j3 (Y2 rfl) fun _ _ _ hb3=>?_
      have hb3:RBs [G6 s (c08 (k+2) (R2 s (k+2) 124))] _:=hb3
      rw [hde] at hb3
      have hb3:RBs [[.s s,.i .i64 (j:Int)]] _:=hb3
      (refine Zq ?_;intros)
      exact fun e=>hcc _ _ ⟨E2 l,j,by (exact j3),.k (scB rfl) (.k (.cells _ _ (by subst e;(exact Zru))) (.k z5B .nil)),hj.2,e0⟩ e
    ·have h124:¬bt s (k+2)=124:=‹_›
     rw [if_neg h124] at e0
     refine f9 hc ⟨bt s (k+2),hb0,hb9⟩ (r:=.c (.b (s7 (bt s (k+2))))) rfl j3 .nil fun _ _ _ _=>?_
     (refine Zq ?_;with_reducible repeat' first|intro _|apply aI)
     ·have hcs:s7 (bt s (k+2))=true:=‹_›
      rw [if_pos hcs] at e0
      have hwe:=G3 s (k+2) oM
      have hwp:=b9e hlt hcs
      refine f9 hwd ⟨(s,k+2),by show k+2≤s.length;omega,by show s.length < 21600000;omega⟩ (r:=.c (.s (G8 s (k+2)))) rfl j3 (Y2 rfl) fun _ _ _ hb3=>?_
      have hb3:RBs [[.s s,.i .i64 ((l7 s (k+2):Nat):Int)]] _:=hb3
      (refine Zq ?_;intros)
      refine fun e=>hcc _ _ ⟨G8 s (k+2),l7 s (k+2),by (exact j3),.k (scB rfl) (.k (.cells _ _ (by subst e;(exact Zru))) (.k z5B .nil)),hwe.2,?_⟩ e
      rw [b2b hwp];exact e0
     ·have hcs:¬s7 (bt s (k+2))=true:=‹_›
      rw [if_neg hcs] at e0
      exact bad (ewd.trans e0) j3 .nil
   ·have hlt:¬k+2 < s.length:=fun h=>‹¬decide (k+2 < s.length)=true› (decide_eq_true h)
    exact bad (ewd.trans (by rw [I7,if_neg hlt])) j3 .nil
 ·have hq:¬has s k 58 58=true:=‹_›
  have ewd:=e1l (i:=pos) (w:=w) hq
  obtain ⟨nl1,nl2⟩:=d43 w
  refine f9 hnu ⟨w,by show w.length < 21600000;omega⟩ (r:=.t [.c (.s (u4 w).1),.c (.s (u4 w).2),.c (.b (n6 w).2.2)]) rfl j3 .nil fun _ _ _ _=>?_
  (refine Zy ?_;intros)
  refine Q4 (fun vs bs=>∃ t:A8,j6 [.p 1 0,.p 2 0] vs∧RBs [[.s s,.i .i64 (k:Int)],R8 t,z5] bs∧G4 pos w k=.ok (t,k)) ?_ ?_
  ·rintro vs' bs' ⟨t,hv',hb',he⟩
   have hb':RBs [[.s s,.i .i64 (k:Int)],[.i .i64 t.kind,.i .i64 (t.pos:Int),.s t.pkg,.s t.text,.s t.den],[.i .i64 0,.i .i64 0,.s [],.s [],.s []]] bs':=hb'
   (refine Zq ?_;intros)
   rw [ewd,he]
   exact i7 ⟨.ret _ _ (.a _ _ _ rfl aS),RB.bx aS rfl⟩
  ·intro c hcc
   (refine Zy ?_;with_reducible repeat' first|intro _|apply aI)
   ·have hdot:w=n5 1 46:=‹_›
    refine fun e=>hcc _ _ ⟨⟨3,pos,[],[],[]⟩,by (exact j3),.k (scB rfl) (.k (.cells _ _ (by subst e;(exact Zru))) (.k z5B .nil)),?_⟩ e
    rw [G4,if_pos (by rw [hdot];rfl)];rfl
   ·have hdot:¬w=[46]:=‹_›
    refine Q4 (fun vs bs=>∃ z:Bool,j6 [.c (.s w),.p 1 0,.p 2 0,.c (.s (u4 w).1),.c (.s (u4 w).2),.c (.b (n6 w).2.2),.c (.b z)] vs∧RBs [[.s s,.i .i64 (k:Int)],R8 (pT0 pos),z5] bs∧(z=true↔(n6 w).2.2=true∧Lib.trimS (u4 w).2 [48]=[])) ?_ ?_
    ·rintro vs' bs' ⟨z,hv',hb',hz⟩
     have hb':RBs [[.s s,.i .i64 (k:Int)],[.i .i64 0,.i .i64 (pos:Int),.s [],.s [],.s []],[.i .i64 0,.i .i64 0,.s [],.s [],.s []]] bs':=hb'
     (refine Zy ?_;with_reducible repeat' first|intro _|apply aI)
     ·obtain ⟨z1,z2⟩:=hz.1 ‹_›
      obtain ⟨c1,c2,c3⟩:=a69 z1
      exact bad (ewd.trans (by rw [G4,if_neg hdot,if_pos z1,if_pos (by rw [c2];exact (b5a c3).1 z2)])) (.k (.i _ _) (.k (.q _ _ aS) .nil)) .nil
     ·have z1:(n6 w).2.2=true:=‹_›
      have z0:¬z=true:=‹_›
      obtain ⟨c1,c2,c3⟩:=a69 z1
      have e9:G4 pos w k=if 100 < A6 (m7 (plain (u4 w).1) (plain (u4 w).2)).1∨100 < A6 (m7 (plain (u4 w).1) (plain (u4 w).2)).2 then .error (2,pos) else .ok (⟨5,pos,[],(m7 (plain (u4 w).1) (plain (u4 w).2)).1,(m7 (plain (u4 w).1) (plain (u4 w).2)).2⟩,k):=by
       rw [G4,if_neg hdot,if_pos z1,c1,c2,if_neg (fun h=>z0 (hz.2 ⟨z1,(b5a c3).2 h⟩))];rfl
      have p1:=a5n (u4 w).1
      have p2:=a5n (u4 w).2
      refine f9 hpl ⟨(u4 w).1,oM⟩ (r:=.c (.s (plain (u4 w).1))) rfl j3 .nil fun _ _ _ _=>?_
      (refine Zy ?_;intros)
      refine f9 hpl ⟨(u4 w).2,oM⟩ (r:=.c (.s (plain (u4 w).2))) rfl j3 .nil fun _ _ _ _=>?_
      (refine Zy ?_;intros)
      obtain ⟨rn,rd,er,_,_,l1,l2⟩:=b0g (plain (u4 w).1) (plain (u4 w).2)
      have l3:(g7 rn).length≤1+(f7 rn.natAbs).length:=by
       rw [a1c,List.length_append]
       have:(LQ.sgn rn).length≤1:=by unfold LQ.sgn;split <;> simp
       omega
      rw [er] at e9
      simp only [] at e9
      rw [a03,a03] at e9
      refine f9 hre ⟨(plain (u4 w).1,plain (u4 w).2),by show (plain (u4 w).1).length < 1920000;omega,by show (plain (u4 w).2).length < 1920000;omega⟩ (r:=.t [.c (.s (g7 rn)),.c (.s (f7 rd))]) (by show o8.ret (.t [.c (.s (m7 (plain (u4 w).1) (plain (u4 w).2)).1),.c (.s (m7 (plain (u4 w).1) (plain (u4 w).2)).2)])=_;rw [er]) j3 .nil fun _ _ _ _=>?_
      (refine Zy ?_;intros)
      refine Q4 (fun vs bs=>∃ y:Bool,j6 [.p 1 0,.p 2 0,.c (.b y)] vs∧RBs [[.s s,.i .i64 (k:Int)],R8 ⟨5,pos,[],g7 rn,f7 rd⟩,z5] bs∧(y=true↔100 < O8 (g7 rn)∨100 < O8 (f7 rd))) ?_ ?_
      ·rintro vs' bs' ⟨y,hv',hb',hy⟩
       have hb':RBs [[.s s,.i .i64 (k:Int)],[.i .i64 5,.i .i64 (pos:Int),.s [],.s (g7 rn),.s (f7 rd)],[.i .i64 0,.i .i64 0,.s [],.s [],.s []]] bs':=hb'
       (refine Zq ?_;with_reducible repeat' first|intro _|apply aI)
       ·rw [if_pos (hy.1 ‹_›)] at e9
        exact bad (ewd.trans e9) (.k (.i _ _) (.k (.q _ _ aS) .nil)) .nil
       ·rw [if_neg (fun h=>‹¬y=true› (hy.2 h))] at e9
        exact hcc _ _ ⟨_,by (exact j3),.k (.opa _ _ _ rfl aS) (.k (.opa _ _ _ rfl aS) (.k (.opa _ _ _ rfl aS) .nil)),e9⟩
      ·intro c2 hc2
       refine f9 hdg ⟨g7 rn,oM⟩ (r:=.c (.i .i64 (O8 (g7 rn):Nat))) rfl j3 .nil fun _ _ _ _=>?_
       (refine Zq ?_;with_reducible repeat' first|intro _|apply aI)
       ·exact fun e=>hc2 _ _ ⟨true,by (exact j3),.k (.opa _ _ _ rfl aS) (.k (.cells _ _ (by subst e;(exact Zru))) (.k (.opa _ _ _ rfl aS) .nil)),by simp;omega⟩ e
       ·refine f9 hdg ⟨f7 rd,oM⟩ (r:=.c (.i .i64 (O8 (f7 rd):Nat))) rfl j3 .nil fun _ _ _ _=>?_
        (refine Zq ?_;intros)
        exact fun e=>hc2 _ _ ⟨decide (100 < O8 (f7 rd)),.k (.p _ _) (.k (.p _ _) (.k (M5 (by subst e;rw [b2x,decide_eq_decide];omega)) .nil)),.k (.opa _ _ _ rfl aS) (.k (.cells _ _ (by subst e;(exact Zru))) (.k (.opa _ _ _ rfl aS) .nil)),decide_eq_true_iff.trans ⟨fun h=>.inr h,fun h=>h.resolve_left (fun h=>‹¬100 < ((O8 (g7 rn):Nat):Int)› oM)⟩⟩ e
     ·have z1:¬(n6 w).2.2=true:=‹_›
      have e9:G4 pos w k=if o7 w [] false=0 then .ok (⟨6,pos,[],w,[]⟩,k) else .error (o7 w [] false,pos):=by
       rw [G4,if_neg hdot,if_neg z1];rfl
      rw [← b2b hw0] at e9
      by_cases h0:o7 w [] true=0
      ·rw [if_pos h0] at e9
       refine fun e=>f9 hnm ⟨⟨6,pos,[],w,[]⟩,by show 0 < 21600000;omega⟩ (r:=.t []) (by show J4 _=_;unfold J4;rw [if_pos h0]) (.k (.ag _ _ (by subst e;(exact Zru))) .nil) .nil (fun _ _ _ _=>?_) e
       (refine Zq ?_;intros)
       exact fun e=>hcc _ _ ⟨_,by (exact j3),.k (.opa _ _ _ rfl aS) (.k (.cells _ _ (by subst e;(exact Zru))) (.k (.opa _ _ _ rfl aS) .nil)),e9⟩ e
      ·rw [if_neg h0] at e9
       exact fun e=>badN (t:=⟨6,pos,[],w,[]⟩) (by show 0 < 21600000;omega) h0 (ewd.trans e9) (.k (.ag _ _ (by subst e;(exact Zru))) .nil) .nil e
    ·intro c2 hc2
     (refine Zy ?_;with_reducible repeat' first|intro _|apply aI)
     ·have z1:(n6 w).2.2=true:=‹_›
      refine f9 htr ⟨((u4 w).2,[48]),by show (u4 w).2.length < 4294967281;omega,by show 1 < 4294967281;omega,by simp⟩ (r:=.c (.s (Lib.trimS (u4 w).2 [48]))) rfl j3 .nil fun _ _ _ _=>?_
      (refine Zy ?_;intros)
      exact fun e=>hc2 _ _ ⟨decide (Lib.trimS (u4 w).2 [48]=[]),.k (.s _ _ _ rfl rfl) (.k (.p _ _) (.k (.p _ _) (.k (.s _ _ _ rfl rfl) (.k (.s _ _ _ rfl rfl) (.k (.b _) (.k (M5 (by subst e;rw [a9u];rfl)) .nil)))))),.k (scB rfl) (.k (.opa _ _ _ rfl aS) (.k z5B .nil)),by simp [z1]⟩ e
     ·have z1:¬(n6 w).2.2=true:=‹_›
      exact hc2 _ _ ⟨false,by (exact j3),.k (scB rfl) (.k (.opa _ _ _ rfl aS) (.k z5B .nil)),by simp [z1]⟩
end
end Go.Proofs.YtgipbdffgfbedaaGreatDoor
namespace Go.Abs
theorem f4n {U:q7} {P:J0→List Bx→Prop} {b x:Int} {K:Int→Om} (hb:U=CU→b=x) (h:g8 U (K x) P):g8 U (U.fI b K) P:=fun e=>by
 have:=h e;rw [← hb e] at this;subst e;rw [U9];exact this
theorem d0g (c:Bool) (a b:Int):CU.isel c a b=cond c a b:=by cases c <;> rfl
end Go.Abs
namespace Go.Proofs.YtgipbdffgfbedaaGreatDoor
open Go.Abs LQ
set_option maxRecDepth 100000
set_option maxHeartbeats 8000000
noncomputable section
def J2 (s:f6) (i:Nat):Except (Int × Nat) (A8 × Nat):=match LQ.skip s i with
 | none=>.error (11,s.length)
 | some j=>if j < s.length then A4 s j else .ok (⟨0,j,[],[],[]⟩,j)
def f4q:Sp where
 ι:={ p:f6 × Nat // p.2≤p.1.length∧p.1.length < 1920000 }
 A _:=[.p 0 0]
 B p:=[G6 p.1.1 p.1.2]
 R p:=a29 (J2 p.1.1 p.1.2)
 B' p:=[G6 p.1.1 (tokB p.1.2 (J2 p.1.1 p.1.2))]
 inj i j vs bs _ _ h k:=by
  have:=a4h (RBs.one_inj h k)
  rw [this.1,this.2];exact ⟨rfl,rfl⟩
theorem d21 {s:f6} {j:Nat} (h1:bt s j ≠ 40) (h2:bt s j ≠ 41) (h3:bt s j ≠ 39) (h4:bt s j ≠ 34) (h5:bt s j ≠ 124) (hc:s7 (bt s j)=true):A4 s j=wdS s j (G8 s j) (l7 s j):=by
 rw [A4,if_neg h1,if_neg h2,if_neg h3,if_neg h4,if_neg h5,if_pos hc];rfl
theorem e8r (hst:j4 106 a1g) (hdl:j4 116 c0j) (hcr:j4 132 c9k):j4 102 f4q:=l9 (fun fn h=>d92 h) [(114,_),(115,_),(101,_),(116,_),(118,_),(120,_),(117,_),(119,_)] (.cons (e8u hcr) (.cons b4q (.cons b4o (.cons hdl (.cons b25 (.cons d69 (.cons (c6a hst) (.cons (d9g hst hdl) .nil)))))))) fun U fn hfn ⟨(s,i),hi,hsl⟩ vs bs hv hb=>by
 have hs:=hfn 114 _ rfl
 have hm:=hfn 115 _ rfl
 have hf:=hfn 101 _ rfl
 have hd:=hfn 116 _ rfl
 have hc:=hfn 118 _ rfl
 have hwd:=hfn 120 _ rfl
 have hnm:=hfn 117 _ rfl
 have hwo:=hfn 119 _ rfl
 have hi:i≤s.length:=hi
 have hsl:s.length < 1920000:=hsl
 have hv:j6 [.p 0 0] vs:=hv
 have hb:RBs [[.s s,.i .i64 (i:Int)]] bs:=hb
 show g8 U _ fun v bs'=>j7 (a29 (J2 s i)) v∧RBs [G6 s (tokB i (J2 s i))] bs'
 unfold e3n
 have bad:∀ {e:Int} {p:Nat} {vs:List V} {bs:List Bx} {K:V→List Bx→Om},J2 s i=.error (e,p)→j6 [.c (.i .i64 e),.c (.i .i64 (p:Int))] vs→RBs [] bs→g8 U (U.bind (fn 101 vs bs) K fun v=>some (.pan (U.rn0 v),[.cells [.str s.length (j9 s),.int .i64 i]])) fun v bs'=>j7 (a29 (J2 s i)) v∧RBs [G6 s (tokB i (J2 s i))] bs':=fun {e p vs bs K} he hv hb=>by
  rw [he]
  exact P6 hf (e,(p:Int)) (r:=.fl 117 e p) rfl hv hb fun _ hv=>a09 hv (Y2 rfl)
 have badN:∀ {t:A8} {vs:List V} {bs:List Bx} {K:V→List Bx→Om},t.pkg.length < 21600000→o7 t.text t.pkg true ≠ 0→J2 s i=.error (o7 t.text t.pkg true,t.pos)→j6 [.a (R8 t)] vs→RBs [] bs→g8 U (U.bind (fn 117 vs bs) K fun v=>some (.pan (U.rn0 v),[.cells [.str s.length (j9 s),.int .i64 i]])) fun v bs'=>j7 (a29 (J2 s i)) v∧RBs [G6 s (tokB i (J2 s i))] bs':=fun {t vs bs K} hl h0 he hv hb=>by
  rw [he]
  exact P6 hnm ⟨t,hl⟩ (r:=.fl 117 (o7 t.text t.pkg true) t.pos) (by show J4 t=_;unfold J4;rw [if_neg h0]) hv hb fun _ hv=>a09 hv (Y2 rfl)
 (refine Zq ?_;with_reducible repeat' first|intro _|apply aI)
 cases hsk:LQ.skip s i with
 | none =>
  have en:J2 s i=.error (11,s.length):=by unfold J2;rw [hsk]
  rw [en]
  exact P6 hs ⟨(s,i),hi,by show s.length < 21600000;omega⟩ (r:=.fl 117 11 s.length) (by show a1f s i=_;unfold a1f;rw [hsk]) j3 (Y2 rfl) fun _ hv=>a09 hv (Y2 rfl)
 | some j =>
  have hj:=a7l hi hsk
  have en:J2 s i=if j < s.length then A4 s j else .ok (⟨0,j,[],[],[]⟩,j):=by unfold J2;rw [hsk]
  refine f9 hs ⟨(s,i),hi,by show s.length < 21600000;omega⟩ (r:=.t []) (by show a1f s i=_;unfold a1f;rw [hsk]) j3 (Y2 rfl) fun _ _ _ hb1=>?_
  have eb:a2i s i=j:=by unfold a2i;rw [hsk];rfl
  have hb1:RBs [G6 s (a2i s i)] _:=hb1
  rw [eb] at hb1
  have hb1:RBs [[.s s,.i .i64 (j:Int)]] _:=hb1
  (refine Zq ?_;intros)
  refine f9 hm ⟨(s,j),hj.2,by show s.length < 21600000;omega⟩ (r:=.c (.b (decide (j < s.length)))) rfl j3 (Y2 rfl) fun _ _ _ hb2=>?_
  have hb2:RBs [[.s s,.i .i64 (j:Int)]] _:=hb2
  (refine Zy ?_;with_reducible repeat' first|intro _|apply aI)
  ·have hlt:j < s.length:=of_decide_eq_true ‹_›
   rw [if_pos hlt] at en
   have hbt:((s.getD j 0).toNat:Int)=bt s j:=rfl
   have hb0:=a5f s j
   have hb9:=b9x s j
   refine Q4 (fun vs bs=>∃ (t:A8) (k:Nat),j6 [.p 1 0,.p 2 0] vs∧RBs [[.s s,.i .i64 (k:Int)],z5,R8 t] bs∧A4 s j=.ok (t,k)) ?_ ?_
   ·rintro vs' bs' ⟨t,k,hv',hb',he⟩
    have hb':RBs [[.s s,.i .i64 (k:Int)],[.i .i64 0,.i .i64 0,.s [],.s [],.s []],[.i .i64 t.kind,.i .i64 (t.pos:Int),.s t.pkg,.s t.text,.s t.den]] bs':=hb'
    (refine Zq ?_;intros)
    rw [en,he]
    exact i7 ⟨.ret _ _ (.a _ _ _ rfl aS),RB.bx aS rfl⟩
   ·intro c hcc
    (refine Zy ?_;intros)
    refine Q4 (fun vs bs=>∃ z:Bool,j6 [.p 0 0,.p 1 0,.p 2 0,.c (.i .u8 (bt s j)),.c (.b z)] vs∧RBs [[.s s,.i .i64 (j:Int)],z5,R8 (pT0 j)] bs∧(z=true↔bt s j=40∨bt s j=41∨bt s j=39)) ?_ ?_
    ·rintro vs' bs' ⟨z,hv',hb',hz⟩
     have hb':RBs [[.s s,.i .i64 (j:Int)],[.i .i64 0,.i .i64 0,.s [],.s [],.s []],[.i .i64 0,.i .i64 (j:Int),.s [],.s [],.s []]] bs':=hb'
     (refine Zy ?_;with_reducible repeat' first|intro _|apply aI)
     ·have hz1:=hz.1 ‹_›
      refine e6p (p:=¬(¬bt s j=40∧¬bt s j=41∧¬bt s j=39)) (by (repeat' (first | exact trT | exact trF | apply a3y | apply a3v | exact a3x | exact a3w | exact a3a | exact a5a | exact a49 | exact a1k | exact a1l | exact a1j | exact a1i | exact a1h | exact a30 | exact a81 | exact a6o | exact trS | exact trV))) oM ?_
      refine f4n (x:=if bt s j=40 then 1 else if bt s j=41 then 2 else 4) (fun e=>by
       subst e
       rw [d0g,d0g,a02,a02]
       by_cases h1:bt s j=40
       ·simp [h1]
       ·by_cases h2:bt s j=41 <;> simp [h1,h2]) ?_
      (refine Zy ?_;intros)
      refine fun e=>hcc _ _ ⟨⟨if bt s j=40 then 1 else if bt s j=41 then 2 else 4,j,[],[],[]⟩,j+1,by (exact j3),.k (.cells _ _ (by subst e;(exact Zru))) (.k (.opa _ _ _ rfl aS) (.k (.cells _ _ (by subst e;(exact Zru))) .nil)),?_⟩ e
      rcases hz1 with h | h | h
      ·rw [A4,if_pos h,if_pos h];rfl
      ·rw [A4,if_neg oM,if_pos h,if_neg oM,if_pos h];rfl
      ·rw [A4,if_neg oM,if_neg oM,if_pos h,if_neg oM,if_neg oM];rfl
     ·have hz0:¬(bt s j=40∨bt s j=41∨bt s j=39):=fun h=>‹¬z=true› (hz.2 h)
      have h34:bt s j=34:=‹_›
      have e0:A4 s j=match R2 s j 34 with
       | .error e=>.error e
       | .ok (l,k)=>if 200 < l.length then .error (2,j) else .ok (⟨7,j,q8,E2 l,q8⟩,k):=by
       rw [A4,if_neg oM,if_neg oM,if_neg oM,if_pos h34];rfl
      cases hde:R2 s j 34 with
      | error er =>
       obtain ⟨er,p⟩:=er
       rw [hde] at e0
       rw [en,e0]
       exact P6 hd ⟨(⟨(s,j),hj.2,by show s.length < 21600000;omega⟩,34),.inl rfl,hlt,hsl⟩ (r:=.fl 117 er p) (by show a9w (R2 s j 34)=_;rw [hde];rfl) j3 (RB.bx aS rfl) fun _ hv=>a09 hv (Y2 rfl)
      | ok lj =>
       obtain ⟨l,k⟩:=lj
       rw [hde] at e0
       refine f9 hd ⟨(⟨(s,j),hj.2,by show s.length < 21600000;omega⟩,34),.inl rfl,hlt,hsl⟩ (r:=.c (.s (E2 l))) (by show a9w (R2 s j 34)=_;rw [hde];rfl) j3 (RB.bx aS rfl) fun _ _ _ hb3=>?_
       have hb3:RBs [G6 s (c08 j (R2 s j 34))] _:=hb3
       rw [hde] at hb3
       have hb3:RBs [[.s s,.i .i64 (k:Int)]] _:=hb3
       have hll:=a0e l
       (refine Zy ?_;with_reducible repeat' first|intro _|apply aI)
       ·exact fun e=>bad (en.trans (e0.trans (if_pos oM))) (.k (.i _ _) (.k (.q _ _ (by subst e;exact u3.at aS (by rfl))) .nil)) .nil e
       ·exact fun e=>hcc _ _ ⟨⟨7,j,[],E2 l,[]⟩,k,by (exact j3),.k (.opa _ _ _ rfl aS) (.k (.opa _ _ _ rfl aS) (.k (.cells _ _ (by subst e;(exact Zru))) .nil)),e0.trans (if_neg oM)⟩ e
     ·have hz0:¬(bt s j=40∨bt s j=41∨bt s j=39):=fun h=>‹¬z=true› (hz.2 h)
      have h34:¬bt s j=34:=‹_›
      have h124:bt s j=124:=‹_›
      have e0:A4 s j=match R2 s j 124 with
       | .error e=>.error e
       | .ok (l,k)=>if o7 (E2 l) q8 true=0 then .ok (⟨6,j,q8,E2 l,q8⟩,k) else .error (o7 (E2 l) q8 true,j):=by
       rw [A4,if_neg oM,if_neg oM,if_neg oM,if_neg h34,if_pos h124];rfl
      cases hde:R2 s j 124 with
      | error er =>
       obtain ⟨er,p⟩:=er
       rw [hde] at e0
       rw [en,e0]
       exact P6 hd ⟨(⟨(s,j),hj.2,by show s.length < 21600000;omega⟩,124),.inr rfl,hlt,hsl⟩ (r:=.fl 117 er p) (by show a9w (R2 s j 124)=_;rw [hde];rfl) j3 (RB.bx aS rfl) fun _ hv=>a09 hv (Y2 rfl)
      | ok lj =>
       obtain ⟨l,k⟩:=lj
       rw [hde] at e0
       have e0:A4 s j=if o7 (E2 l) [] true=0 then .ok (⟨6,j,[],E2 l,[]⟩,k) else .error (o7 (E2 l) [] true,j):=e0
       refine f9 hd ⟨(⟨(s,j),hj.2,by show s.length < 21600000;omega⟩,124),.inr rfl,hlt,hsl⟩ (r:=.c (.s (E2 l))) (by show a9w (R2 s j 124)=_;rw [hde];rfl) j3 (RB.bx aS rfl) fun _ _ _ hb3=>?_
       have hb3:RBs [G6 s (c08 j (R2 s j 124))] _:=hb3
       rw [hde] at hb3
       have hb3:RBs [[.s s,.i .i64 (k:Int)]] _:=hb3
       (refine Zy ?_;intros)
       by_cases h0:o7 (E2 l) [] true=0
       ·rw [if_pos h0] at e0
        refine fun e=>f9 hnm ⟨⟨6,j,[],E2 l,[]⟩,by show 0 < 21600000;omega⟩ (r:=.t []) (by show J4 _=_;unfold J4;rw [if_pos h0]) (.k (.ag _ _ (by subst e;(exact Zru))) .nil) .nil (fun _ _ _ _=>?_) e
        (refine Zy ?_;intros)
        exact fun e=>hcc _ _ ⟨_,k,by (exact j3),.k (.opa _ _ _ rfl aS) (.k (.opa _ _ _ rfl aS) (.k (.cells _ _ (by subst e;(exact Zru))) .nil)),e0⟩ e
       ·rw [if_neg h0] at e0
        exact fun e=>badN (t:=⟨6,j,[],E2 l,[]⟩) (by show 0 < 21600000;omega) h0 (en.trans e0) (.k (.ag _ _ (by subst e;(exact Zru))) .nil) .nil e
     ·have hz0:¬(bt s j=40∨bt s j=41∨bt s j=39):=fun h=>‹¬z=true› (hz.2 h)
      have h34:¬bt s j=34:=‹_›
      have h124:¬bt s j=124:=‹_›
      refine f9 hc ⟨bt s j,hb0,hb9⟩ (r:=.c (.b (s7 (bt s j)))) rfl j3 .nil fun _ _ _ _=>?_
      (refine Zy ?_;with_reducible repeat' first|intro _|apply aI)
      ·have hcs:s7 (bt s j)=true:=‹_›
       have hwe:=G3 s j oM
       have hwp:=b9e hlt hcs
       have hwl:(G8 s j).length≤s.length:=by unfold G8;simp;omega
       have e0:=d21 (fun h=>hz0 (.inl h)) (fun h=>hz0 (.inr (.inl h))) (fun h=>hz0 (.inr (.inr h))) h34 h124 hcs
       refine f9 hwd ⟨(s,j),hj.2,by show s.length < 21600000;omega⟩ (r:=.c (.s (G8 s j))) rfl j3 (RB.bx aS rfl) fun _ _ _ hb3=>?_
       have hb3:RBs [[.s s,.i .i64 ((l7 s j:Nat):Int)]] _:=hb3
       (refine Zy ?_;with_reducible repeat' first|intro _|apply aI)
       cases hw:wdS s j (G8 s j) (l7 s j) with
       | error er =>
        obtain ⟨er,p⟩:=er
        rw [en,e0,hw]
        exact P6 hwo ⟨(s,j,G8 s j,l7 s j),hwe.2,hsl,hwp,by show (G8 s j).length < 1920000;omega⟩ (r:=.fl 117 er p) (by show a29 (wdS s j (G8 s j) (l7 s j))=_;rw [hw];rfl) (.k (.p _ _) (.k (.a _ _ _ rfl aS) (.k (.s _ _ _ rfl rfl) .nil))) (RB.bx aS rfl) fun _ hv=>a09 hv (Y2 rfl)
       | ok tk =>
        obtain ⟨t,k⟩:=tk
        rw [hw] at e0
        refine f9 hwo ⟨(s,j,G8 s j,l7 s j),hwe.2,hsl,hwp,by show (G8 s j).length < 1920000;omega⟩ (r:=.a (R8 t)) (by show a29 (wdS s j (G8 s j) (l7 s j))=_;rw [hw];rfl) (.k (.p _ _) (.k (.a _ _ _ rfl aS) (.k (.s _ _ _ rfl rfl) .nil))) (RB.bx aS rfl) fun _ _ _ hb4=>?_
        have hb4:RBs [G6 s (tokB (l7 s j) (wdS s j (G8 s j) (l7 s j)))] _:=hb4
        rw [hw] at hb4
        have hb4:RBs [[.s s,.i .i64 (k:Int)]] _:=hb4
        (refine Zy ?_;intros)
        exact hcc _ _ ⟨t,k,by (exact j3),.k (.opa _ _ _ rfl aS) (.k (.opa _ _ _ rfl aS) (.k (.opa _ _ _ rfl aS) .nil)),e0⟩
      ·have hcs:¬s7 (bt s j)=true:=‹_›
       exact bad (en.trans (by rw [A4,if_neg (fun h=>hz0 (.inl h)),if_neg (fun h=>hz0 (.inr (.inl h))),if_neg (fun h=>hz0 (.inr (.inr h))),if_neg h34,if_neg h124,if_neg hcs])) (.k (.i _ _) (.k (.q _ _ aS) .nil)) .nil
    ·intro c2 hc2
     (refine Zy ?_;with_reducible repeat' first|intro _|apply aI)
     ·exact hc2 _ _ ⟨true,by (exact j3),.k (scB rfl) (.k z5B (.k (.cells _ _ j3) .nil)),by simp;omega⟩
     ·exact hc2 _ _ ⟨true,by (exact j3),.k (scB rfl) (.k z5B (.k (.cells _ _ j3) .nil)),by simp;omega⟩
     ·exact fun e=>hc2 _ _ ⟨decide (bt s j=39),.k (.p _ _) (.k (.p _ _) (.k (.p _ _) (.k (.i _ _) (.k (M5 (by subst e;rw [a02,decide_eq_decide];omega)) .nil)))),.k (scB rfl) (.k z5B (.k (.cells _ _ j3) .nil)),by rw [decide_eq_true_iff];omega⟩ e
  ·have hlt:¬j < s.length:=fun h=>‹¬decide (j < s.length)=true› (decide_eq_true h)
   rw [if_neg hlt] at en
   rw [en]
   exact i7 ⟨.ret _ _ (.ag _ _ j3),Y2 rfl⟩
theorem c48 {s:f6} {i k:Nat} {t:A8} (h:A4 s i=.ok (t,k)):t.kind ≠ 0:=by
 have fin:∀ {x:A8} {y:Nat},x.kind ≠ 0→(Except.ok (x,y):Except (Int × Nat) (A8 × Nat))=.ok (t,k)→t.kind ≠ 0:=by
  intro x y hx h;injection h with h;injection h with h1 h2;rw [← h1];exact hx
 unfold A4 at h
 repeat' split at h
 all_goals try (cases h;done)
 all_goals try exact fin dE h
 all_goals try exact fin (show ¬(6:Int)=0 by decide) h
 all_goals try exact fin (show ¬(7:Int)=0 by decide) h
 all_goals try exact fin (show ¬(1:Int)=0 by decide) h
 all_goals try exact fin (show ¬(2:Int)=0 by decide) h
 all_goals try exact fin (show ¬(4:Int)=0 by decide) h
 ·unfold I7 at h
  simp only [] at h
  repeat' split at h
  all_goals try (cases h;done)
  all_goals exact fin (show ¬(6:Int)=0 by decide) h
 ·unfold G4 at h
  simp only [] at h
  repeat' split at h
  all_goals try (cases h;done)
  all_goals first | exact fin (show ¬(3:Int)=0 by decide) h | exact fin (show ¬(5:Int)=0 by decide) h | exact fin (show ¬(6:Int)=0 by decide) h
theorem b9d {s:f6} {i:Nat} {acc:List A8} (hi:i≤s.length):y7 s i acc=match J2 s i with
  | .error e=>.error e
  | .ok (t,k)=>if t.kind=0 then .ok (acc ++ [t]) else y7 s k (acc ++ [t]):=by
 rw [a7m hi]
 unfold J2
 cases hs:LQ.skip s i with
 | none=>rfl
 | some j =>
  have hj:=a7l hi hs
  simp only []
  by_cases hlt:j < s.length
  ·rw [if_pos hlt,if_pos hlt]
   cases ht:A4 s j with
   | error e=>rfl
   | ok p=>simp only [];rw [if_neg (c48 (t:=p.1) (k:=p.2) ht)]
  ·rw [if_neg hlt,if_neg hlt]
   simp only []
   rw [if_pos trivial,show j=s.length by omega];rfl
theorem d9m {s:f6} {i k:Nat} {t:A8} (hi:i≤s.length) (h:J2 s i=.ok (t,k)) (h0:t.kind ≠ 0):i < k∧k≤s.length:=by
 unfold J2 at h
 cases hs:LQ.skip s i with
 | none=>rw [hs] at h;cases h
 | some j =>
  have hj:=a7l hi hs
  rw [hs] at h
  simp only [] at h
  by_cases hlt:j < s.length
  ·rw [if_pos hlt] at h;have:=a5v hlt h;omega
  ·rw [if_neg hlt] at h;injection h with h;injection h with h1 h2;rw [← h1] at h0;exact absurd rfl h0
def c9v:Except (Int × Nat) (List A8)→o8
 | .ok T=>.ret (.sl 5 (T.map R8))
 | .error (e,p)=>a05 e p
def c3k:Sp where
 ι:={ s:f6 // s.length < 1920000 }
 A s:=[.c (.s s.1)]
 B _:=[]
 R s:=c9v (E6 s.1)
 B' _:=[]
 inj i j vs bs h k _ _:=by
  obtain ⟨_,_,h1,k1,h,k⟩:=h.two k
  rw [F5 h1 k1];exact ⟨rfl,rfl⟩
theorem e8t (hst:j4 106 a1g) (hdl:j4 116 c0j) (hcr:j4 132 c9k):j4 89 c3k:=l9 (fun fn h=>e56 h) [(101,_),(102,_)] (.cons b4o (.cons (e8r hst hdl hcr) .nil)) fun U fn hfn ⟨s,hsl⟩ vs bs hv hb=>by
 have hf:=hfn 101 _ rfl
 have hn:=hfn 102 _ rfl
 have hsl:s.length < 1920000:=hsl
 have hv:j6 [.c (.s s)] vs:=hv
 have hb:RBs [] bs:=hb
 show g8 U _ fun v bs'=>j7 (c9v (E6 s)) v∧RBs [] bs'
 unfold r89
 (refine Zy ?_;intros)
 refine Q4 (fun vs bs=>vs=[.str s.length (j9 s)]∧bs=[]∧s.length≤6000) ?_ ?_
 ·rintro _ _ ⟨rfl,rfl,hs6⟩
  (refine Zq ?_;intros)
  have et:E6 s=y7 s 0 []:=by unfold E6;rw [if_neg oM]
  refine F3 (fun (i:Nat) vs bs=>∃ (acc:List A8) (v:V) (b0:Bx),vs=[.ptr 0 0,v]∧bs=[b0,.tok acc.length 5]∧RB (G6 s i) b0∧a0w 1 5 (acc.map R8) v∧i≤s.length∧acc.length≤i∧E6 s=y7 s i acc) (fun i=>s.length - i) 0 ⟨[],_,_,rfl,rfl,scB rfl,.b rfl,Nat.zero_le _,Nat.le_refl _,et⟩ (by simp only [y8];omega) ?_
  rintro self i _ _ ⟨acc,v,b0,rfl,rfl,hb0,htk,hi,ha,he⟩ ih
  have hb0:RB [.s s,.i .i64 (i:Int)] b0:=hb0
  rw [he,b9d hi]
  (refine Zq ?_;with_reducible repeat' first|intro _|apply aI)
  cases hne:J2 s i with
  | error er =>
   obtain ⟨er,p⟩:=er
   exact P6 hn ⟨(s,i),hi,hsl⟩ (r:=.fl 117 er p) (by show a29 (J2 s i)=_;rw [hne];rfl) j3 (RB.bx aS rfl) fun _ hv=>a09 hv .nil
  | ok tk =>
   obtain ⟨t,k⟩:=tk
   simp only []
   refine f9 hn ⟨(s,i),hi,hsl⟩ (r:=.a (R8 t)) (by show a29 (J2 s i)=_;rw [hne];rfl) j3 (RB.bx aS rfl) fun _ _ hv1 hb1=>?_
   have hb1:RBs [G6 s (tokB i (J2 s i))] _:=hb1
   rw [hne] at hb1
   have hb1:RBs [[.s s,.i .i64 (k:Int)]] _:=hb1
   have hv1:RV (.a [.i .i64 t.kind,.i .i64 (t.pos:Int),.s t.pkg,.s t.text,.s t.den]) _:=hv1
   (refine Zq ?_;intros)
   refine T4 (xs:=acc.map R8) (r:=R8 t) (n:=5) (off:=0) aS (fun _=>a6l (by rw [c7e];decide) aS) (c7e _) (by simp) (by simp;omega) fun _ ht'=>?_
   rw [show acc.map R8 ++ [R8 t]=(acc ++ [t]).map R8 by simp] at ht'
   (refine Zq ?_;with_reducible repeat' first|intro _|apply aI)
   ·rw [if_pos ‹_›]
    exact i7 ⟨.ret _ _ (.sl _ _ _ _ _ (by simp) ht'),.nil⟩
   ·have h0:¬t.kind=0:=‹_›
    rw [if_neg h0]
    have hg:=d9m hi hne h0
    have et2:E6 s=y7 s k (acc ++ [t]):=by rw [he,b9d hi,hne];simp only [];rw [if_neg h0]
    rw [← et2]
    exact ih k _ _ ⟨acc ++ [t],_,_,rfl,by rw [List.length_append];rfl,.opa _ _ _ rfl aS,.a _ _ (by simp) ht',hg.2,by simp;omega,et2⟩ oM
 ·intro c hc
  (refine Zy ?_;with_reducible repeat' first|intro _|apply aI)
  ·have e:E6 s=.error (2,0):=by unfold E6;rw [if_pos oM]
   rw [e]
   exact P6 hf (2,0) (r:=.fl 117 2 0) rfl j3 .nil fun _ hv=>a09 hv .nil
  ·exact hc _ _ ⟨rfl,rfl,oM⟩
open Classical
section
variable {L:List Pk} {cur:f6} {T:List A8}
def e26 (L:List Pk) (cur:f6) (T:List A8) (d i:Nat):Except (Int × Nat) (O × Nat):=c8o L cur T (2 * T.length+2) d i
end
end
end Go.Proofs.YtgipbdffgfbedaaGreatDoor
namespace Go.Abs
end Go.Abs
namespace Go.Proofs.YtgipbdffgfbedaaGreatDoor
open Go.Abs LQ
set_option maxRecDepth 100000
set_option maxHeartbeats 8000000
noncomputable section
set_option maxHeartbeats 16000000
section
variable (hst:j4 106 a1g)
end
theorem j4.via {g:FuncId} {sp sp':Sp} (h:j4 g sp) (f:sp'.ι→sp.ι) (e:∀ i,sp'.A i=sp.A (f i)∧sp'.B i=sp.B (f i)∧sp'.R i=sp.R (f i)∧sp'.B' i=sp.B' (f i)):j4 g sp':=fun i vs bs hv hb=>by
 obtain ⟨e1,e2,e3,e4⟩:=e i
 rw [e1] at hv
 rw [e2] at hb
 rw [e3,e4]
 exact h (f i) vs bs hv hb
def L6:O→Ob
 | .num n d=>⟨1,g7 n,f7 d,([],[]),[],.nil⟩
 | .sy s=>⟨2,[],[],s,[],.nil⟩
 | .tx t=>⟨3,[],[],([],[]),t,.nil⟩
 | .co a d=>⟨4,[],[],([],[]),[],.node (L6 a).k (L6 a).nu (L6 a).de (L6 a).s (L6 a).t (L6 a).ps (.node (L6 d).k (L6 d).nu (L6 d).de (L6 d).s (L6 d).t (L6 d).ps .nil)⟩
 | .no=>⟨0,[],[],([],[]),[],.nil⟩
theorem b61 (a d:O):(L6 (.co a d)).ps.obs=[L6 a,L6 d]:=rfl
theorem b96:∀ o:O,(L6 o).g=o.g
 | .num _ _=>rfl
 | .sy _=>rfl
 | .tx _=>rfl
 | .no=>rfl
 | .co a d=>by
  rw [Ob.g_eq,b61,List.map_cons,List.map_cons,b96 a,b96 d];rfl
theorem b40:∀ o:O,(L6 o).nd=o.size
 | .num _ _=>rfl
 | .sy _=>rfl
 | .tx _=>rfl
 | .no=>rfl
 | .co a d=>by rw [Ob.nd_eq,b61];simp only [];rw [b40 a,b40 d];rfl
end
end Go.Proofs.YtgipbdffgfbedaaGreatDoor
