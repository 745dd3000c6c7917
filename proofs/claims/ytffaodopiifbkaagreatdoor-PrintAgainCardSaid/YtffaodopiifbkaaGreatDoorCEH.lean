/- The program's reader: the token that begins with a word. -/
import Derived.Test.YtffaodopiifbkaaGreatDoorCEG
set_option linter.all false
namespace Go.Proofs.YtffaodopiifbkaaGreatDoor
open Go.Abs LQ
set_option maxRecDepth 100000
set_option maxHeartbeats 8000000
noncomputable section
def pT0 (i:Nat):u5:=⟨0,i,[],[],[]⟩
def g10:Sp where
 ι:={ q:i6 × Nat × i6 × Nat // q.2.2.2≤q.1.length∧q.1.length < 8000∧0 < q.2.2.1.length∧q.2.2.1.length < 8000 }
 A q:=[.p 0 0,.a (B5 (pT0 q.1.2.1)),.c (.s q.1.2.2.1)]
 B q:=[J4 q.1.1 q.1.2.2.2]
 R q:=a5a (wdS q.1.1 q.1.2.1 q.1.2.2.1 q.1.2.2.2)
 B' q:=[J4 q.1.1 (tokB q.1.2.2.2 (wdS q.1.1 q.1.2.1 q.1.2.2.1 q.1.2.2.2))]
 inj i j vs bs hv kv h k:=by
  have e1:=a6g (j5.one_inj h k)
  obtain ⟨_,_,_,_,hv,kv⟩:=hv.two kv
  obtain ⟨_,_,h2,k2,hv,kv⟩:=hv.two kv
  obtain ⟨_,_,h3,k3,_,_⟩:=hv.two kv
  have e2:=congrArg u5.pos (b3t (h2.a_inj k2))
  have e2:i.1.2.1=j.1.2.1:=e2
  rw [e1.1,e1.2,e2,I7 h3 k3];exact ⟨rfl,rfl⟩
theorem b5f {t p:i6} (h:0 < t.length):s7 t p true=s7 t p false:=by
 unfold s7
 have:((true=true∧t.length=0)∨(p.length ≠ 0∧r9 p=false))↔((false=true∧t.length=0)∨(p.length ≠ 0∧r9 p=false)):=⟨fun h=>h.elim (fun h=>by omega) .inr,fun h=>h.elim (fun h=>by cases h.1) .inr⟩
 by_cases h1:40 < t.length
 ·rw [if_pos h1,if_pos h1]
 ·rw [if_neg h1,if_neg h1]
  by_cases h2:(true=true∧t.length=0)∨(p.length ≠ 0∧r9 p=false)
  ·rw [if_pos h2,if_pos (this.1 h2)]
  ·rw [if_neg h2,if_neg (fun h=>h2 (this.2 h))]
theorem c2d {s:i6} {i:Nat} (h:i < s.length) (hc:y8 (bt s i)=true):0 < (J7 s i).length:=by
 have h1:=e42 h hc
 have h2:=G3 s (i+1) oM
 unfold J7;simp;omega
theorem e27 (w:i6):(B0 w).1.length≤w.length∧(B0 w).2.length≤max 1 w.length:=by
 unfold B0 K4
 split <;> simp [P2] <;> omega
theorem e68 {s:i6} {i k:Nat} {w:i6} (h:has s k 58 58=true):wdS s i w k=H1 s i w k:=by unfold wdS;rw [if_pos h]
theorem e73 {s:i6} {i k:Nat} {w:i6} (h:¬has s k 58 58=true):wdS s i w k=D4 i w k:=by unfold wdS;rw [if_neg h]
theorem e8g {s p:i6} {i k:Nat} (h:k+2 < s.length):H1 s i p k=if bt s (k+2)=124 then (match E3 s 124 (k+2+1) [] with
  | .error e=>.error e
  | .ok (l,j)=>if s7 (F2 l) p true=0 then .ok (⟨6,i,p,F2 l,w9⟩,j) else .error (s7 (F2 l) p true,i))
 else if y8 (bt s (k+2)) then (if s7 (J7 s (k+2)) p false=0 then .ok (⟨6,i,p,J7 s (k+2),w9⟩,m6 s (k+2)) else .error (s7 (J7 s (k+2)) p false,i))
 else .error (12,k+2):=by rw [H1,if_pos h];rfl
theorem e7a (hst:l5 203 W7) (hdl:l5 136 b8d):l5 139 g10:=n6 (fun fn h=>e7t h) [(160,_),(135,_),(51,_),(136,_),(138,_),(140,_),(137,_),(164,_),(165,_),(166,_),(155,_),(167,_)] (.cons c0j (.cons b7d (.cons b3w (.cons hdl (.cons b65 (.cons e5p (.cons (d1k hst) (.cons d91 (.cons d6s (.cons f3l (.cons (b58 hst) (.cons c5q .nil)))))))))))) fun U fn hfn ⟨(s,pos,w,k),hk,hsl,hw0,hwl⟩ vs bs hv hb=>by
 have hs:=hfn 160 _ rfl
 have hm:=hfn 135 _ rfl
 have hf:=hfn 51 _ rfl
 have hd:=hfn 136 _ rfl
 have hc:=hfn 138 _ rfl
 have hwd:=hfn 140 _ rfl
 have hnm:=hfn 137 _ rfl
 have hnu:=hfn 164 _ rfl
 have htr:=hfn 165 _ rfl
 have hpl:=hfn 166 _ rfl
 have hre:=hfn 155 _ rfl
 have hdg:=hfn 167 _ rfl
 have hk:k≤s.length:=hk
 have hsl:s.length < 8000:=hsl
 have hw0:0 < w.length:=hw0
 have hwl:w.length < 8000:=hwl
 have hv:l8 [.p 0 0,.a [.i .i64 0,.i .i64 (pos:Int),.s [],.s [],.s []],.c (.s w)] vs:=hv
 have hb:j5 [[.s s,.i .i64 (k:Int)]] bs:=hb
 show j6 U _ fun v bs'=>l9 (a5a (wdS s pos w k)) v∧j5 [J4 s (tokB k (wdS s pos w k))] bs'
 unfold e0x
 -- a failure
 have bad:∀ {e:Int} {p:Nat} {vs:List V} {bs:List Bx} {K:V→List Bx→Om},wdS s pos w k=.error (e,p)→l8 [.c (.i .i64 e),.c (.i .i64 (p:Int))] vs→j5 [] bs→j6 U (U.bind (fn 51 vs bs) K fun v=>some (.pan (U.rn0 v),[.cells [.str s.length (p9 s),.int .i64 k]])) fun v bs'=>l9 (a5a (wdS s pos w k)) v∧j5 [J4 s (tokB k (wdS s pos w k))] bs':=fun {e p vs bs K} he hv hb=>by
  rw [he]
  exact G6 hf (e,(p:Int)) (r:=.fl 122 e p) rfl hv hb fun _ hv=>Q2 hv (scC rfl)
 have badN:∀ {t:u5} {vs:List V} {bs:List Bx} {K:V→List Bx→Om},t.pkg.length < 90000→s7 t.text t.pkg true ≠ 0→wdS s pos w k=.error (s7 t.text t.pkg true,t.pos)→l8 [.a (B5 t)] vs→j5 [] bs→j6 U (U.bind (fn 137 vs bs) K fun v=>some (.pan (U.rn0 v),[.cells [.str s.length (p9 s),.int .i64 k]])) fun v bs'=>l9 (a5a (wdS s pos w k)) v∧j5 [J4 s (tokB k (wdS s pos w k))] bs':=fun {t vs bs K} hl h0 he hv hb=>by
  rw [he]
  exact G6 hnm ⟨t,hl⟩ (r:=.fl 122 (s7 t.text t.pkg true) t.pos) (by show N1 t=_;unfold N1;rw [if_neg h0]) hv hb fun _ hv=>Q2 hv (scC rfl)
 (refine Zq ?_;intros)
 refine j3 hs ⟨⟨(s,k),hk,by show s.length < 90000;omega⟩,n5 2 14906⟩ (r:=.c (.b (has s k 58 58))) (by show s8.ret (.c (.b (U0 (s.drop k) (n5 2 14906))))=_;rw [f05,d44 hk];rfl) l6 (scC rfl) fun _ _ _ hb1=>?_
 have hb1:j5 [[.s s,.i .i64 (k:Int)]] _:=hb1
 (refine Zy ?_;with_reducible repeat' first|intro _|apply aI)
 ·have hq:has s k 58 58=true:=‹_›
  have hk2:=a0q hq
  have ewd:=e68 (i:=pos) (w:=w) hq
  refine O1 (fun vs bs=>∃ (text:i6) (j:Nat),l8 [.p 1 0,.p 2 0] vs∧j5 [[.s s,.i .i64 (j:Int)],B5 ⟨6,pos,w,text,[]⟩,z5] bs∧j≤s.length∧H1 s pos w k=if s7 text w true=0 then .ok (⟨6,pos,w,text,[]⟩,j) else .error (s7 text w true,pos)) ?_ ?_
  ·rintro vs' bs' ⟨text,j,hv',hb',hj,he⟩
   have hb':j5 [[.s s,.i .i64 (j:Int)],[.i .i64 6,.i .i64 (pos:Int),.s w,.s text,.s []],[.i .i64 0,.i .i64 0,.s [],.s [],.s []]] bs':=hb'
   (refine Zq ?_;intros)
   by_cases h0:s7 text w true=0
   ·rw [if_pos h0] at he
    refine j3 hnm ⟨⟨6,pos,w,text,[]⟩,by show w.length < 90000;omega⟩ (r:=.t []) (by show N1 _=_;unfold N1;rw [if_pos h0]) (.k (.a _ _ _ rfl aS) .nil) .nil fun _ _ _ _=>?_
    (refine Zq ?_;intros)
    rw [ewd,he]
    exact k9 ⟨.ret _ _ (.a _ _ _ rfl aS),RB.bx aS rfl⟩
   ·rw [if_neg h0] at he
    exact badN (t:=⟨6,pos,w,text,[]⟩) (by show w.length < 90000;omega) h0 (ewd.trans he) (.k (.a _ _ _ rfl aS) .nil) .nil
  ·intro c hcc
   (refine Zq ?_;intros)
   refine j3 hm ⟨(s,k+2),by show k+2≤s.length;omega,by show s.length < 90000;omega⟩ (r:=.c (.b (decide (k+2 < s.length)))) rfl l6 (scC (show (k:Int)+2=((k+2:Nat):Int) by omega)) fun _ _ _ hb2=>?_
   have hb2:j5 [[.s s,.i .i64 ((k+2:Nat):Int)]] _:=hb2
   (refine Zq ?_;with_reducible repeat' first|intro _|apply aI)
   ·have hlt:k+2 < s.length:=of_decide_eq_true ‹_›
    have hbt:((s.getD (k+2) 0).toNat:Int)=bt s (k+2):=rfl
    have hb0:=a7w s (k+2)
    have hb9:=c4b s (k+2)
    have e0:=e8g (i:=pos) (p:=w) hlt
    (refine Zq ?_;with_reducible repeat' first|intro _|apply aI)
    ·have h124:bt s (k+2)=124:=‹_›
     rw [if_pos h124] at e0
     have hds:V0 s (k+2) 124=E3 s 124 (k+2+1) []:=rfl
     rw [← hds] at e0
     cases hde:V0 s (k+2) 124 with
     | error er =>
      obtain ⟨er,p⟩:=er
      rw [hde] at e0
      rw [ewd,e0]
      exact G6 hd ⟨(⟨(s,k+2),by show k+2≤s.length;omega,by show s.length < 90000;omega⟩,124),.inr rfl,hlt,hsl⟩ (r:=.fl 122 er p) (by show b3l (V0 s (k+2) 124)=_;rw [hde];rfl) l6 (scC rfl) fun _ hv=>Q2 hv (scC rfl)
     | ok lj =>
      obtain ⟨l,j⟩:=lj
      rw [hde] at e0
      have hj:=a90 hde
      refine j3 hd ⟨(⟨(s,k+2),by show k+2≤s.length;omega,by show s.length < 90000;omega⟩,124),.inr rfl,hlt,hsl⟩ (r:=.c (.s (F2 l))) (by show b3l (V0 s (k+2) 124)=_;rw [hde];rfl) l6 (scC rfl) fun _ _ _ hb3=>?_
      have hb3:j5 [J4 s (c5o (k+2) (V0 s (k+2) 124))] _:=hb3
      rw [hde] at hb3
      have hb3:j5 [[.s s,.i .i64 (j:Int)]] _:=hb3
      (refine Zq ?_;intros)
      exact fun e=>hcc _ _ ⟨F2 l,j,by (exact l6),.k (scB rfl) (.k (.cells _ _ (by subst e;(exact Zru))) (.k z5B .nil)),hj.2,e0⟩ e
    ·have h124:¬bt s (k+2)=124:=‹_›
     rw [if_neg h124] at e0
     refine j3 hc ⟨bt s (k+2),hb0,hb9⟩ (r:=.c (.b (y8 (bt s (k+2))))) rfl l6 .nil fun _ _ _ _=>?_
     (refine Zq ?_;with_reducible repeat' first|intro _|apply aI)
     ·have hcs:y8 (bt s (k+2))=true:=‹_›
      rw [if_pos hcs] at e0
      have hwe:=G3 s (k+2) oM
      have hwp:=c2d hlt hcs
      refine j3 hwd ⟨(s,k+2),by show k+2≤s.length;omega,by show s.length < 90000;omega⟩ (r:=.c (.s (J7 s (k+2)))) rfl l6 (scC rfl) fun _ _ _ hb3=>?_
      have hb3:j5 [[.s s,.i .i64 ((m6 s (k+2):Nat):Int)]] _:=hb3
      (refine Zq ?_;intros)
      refine fun e=>hcc _ _ ⟨J7 s (k+2),m6 s (k+2),by (exact l6),.k (scB rfl) (.k (.cells _ _ (by subst e;(exact Zru))) (.k z5B .nil)),hwe.2,?_⟩ e
      rw [b5f hwp];exact e0
     ·have hcs:¬y8 (bt s (k+2))=true:=‹_›
      rw [if_neg hcs] at e0
      exact bad (ewd.trans e0) l6 .nil
   ·have hlt:¬k+2 < s.length:=fun h=>‹¬decide (k+2 < s.length)=true› (decide_eq_true h)
    exact bad (ewd.trans (by rw [H1,if_neg hlt])) l6 .nil
 ·have hq:¬has s k 58 58=true:=‹_›
  have ewd:=e73 (i:=pos) (w:=w) hq
  obtain ⟨nl1,nl2⟩:=e27 w
  refine j3 hnu ⟨w,by show w.length < 90000;omega⟩ (r:=.t [.c (.s (B0 w).1),.c (.s (B0 w).2),.c (.b (p8 w).2.2)]) rfl l6 .nil fun _ _ _ _=>?_
  (refine Zy ?_;intros)
  refine O1 (fun vs bs=>∃ t:u5,l8 [.p 1 0,.p 2 0] vs∧j5 [[.s s,.i .i64 (k:Int)],B5 t,z5] bs∧D4 pos w k=.ok (t,k)) ?_ ?_
  ·rintro vs' bs' ⟨t,hv',hb',he⟩
   have hb':j5 [[.s s,.i .i64 (k:Int)],[.i .i64 t.kind,.i .i64 (t.pos:Int),.s t.pkg,.s t.text,.s t.den],[.i .i64 0,.i .i64 0,.s [],.s [],.s []]] bs':=hb'
   (refine Zq ?_;intros)
   rw [ewd,he]
   exact k9 ⟨.ret _ _ (.a _ _ _ rfl aS),RB.bx aS rfl⟩
  ·intro c hcc
   (refine Zy ?_;with_reducible repeat' first|intro _|apply aI)
   ·have hdot:w=n5 1 46:=‹_›
    refine fun e=>hcc _ _ ⟨⟨3,pos,[],[],[]⟩,by (exact l6),.k (scB rfl) (.k (.cells _ _ (by subst e;(exact Zru))) (.k z5B .nil)),?_⟩ e
    rw [D4,if_pos (by rw [hdot];rfl)];rfl
   ·have hdot:¬w=[46]:=‹_›
    refine O1 (fun vs bs=>∃ z:Bool,l8 [.c (.s w),.p 1 0,.p 2 0,.c (.s (B0 w).1),.c (.s (B0 w).2),.c (.b (p8 w).2.2),.c (.b z)] vs∧j5 [[.s s,.i .i64 (k:Int)],B5 (pT0 pos),z5] bs∧(z=true↔(p8 w).2.2=true∧Lib.trimS (B0 w).2 [48]=[])) ?_ ?_
    ·rintro vs' bs' ⟨z,hv',hb',hz⟩
     have hb':j5 [[.s s,.i .i64 (k:Int)],[.i .i64 0,.i .i64 (pos:Int),.s [],.s [],.s []],[.i .i64 0,.i .i64 0,.s [],.s [],.s []]] bs':=hb'
     (refine Zy ?_;with_reducible repeat' first|intro _|apply aI)
     ·obtain ⟨z1,z2⟩:=hz.1 ‹_›
      obtain ⟨c1,c2,c3⟩:=a98 z1
      exact bad (ewd.trans (by rw [D4,if_neg hdot,if_pos z1,if_pos (by rw [c2];exact (b8f c3).1 z2)])) (.k (.i _ _) (.k (.q _ _ aS) .nil)) .nil
     ·have z1:(p8 w).2.2=true:=‹_›
      have z0:¬z=true:=‹_›
      obtain ⟨c1,c2,c3⟩:=a98 z1
      have e9:D4 pos w k=if 100 < E6 (t7 (plain (B0 w).1) (plain (B0 w).2)).1∨100 < E6 (t7 (plain (B0 w).1) (plain (B0 w).2)).2 then .error (2,pos) else .ok (⟨5,pos,[],(t7 (plain (B0 w).1) (plain (B0 w).2)).1,(t7 (plain (B0 w).1) (plain (B0 w).2)).2⟩,k):=by
       rw [D4,if_neg hdot,if_pos z1,c1,c2,if_neg (fun h=>z0 (hz.2 ⟨z1,(b8f c3).2 h⟩))];rfl
      have p1:=a8h (B0 w).1
      have p2:=a8h (B0 w).2
      refine j3 hpl ⟨(B0 w).1,oM⟩ (r:=.c (.s (plain (B0 w).1))) rfl l6 .nil fun _ _ _ _=>?_
      (refine Zy ?_;intros)
      refine j3 hpl ⟨(B0 w).2,oM⟩ (r:=.c (.s (plain (B0 w).2))) rfl l6 .nil fun _ _ _ _=>?_
      (refine Zy ?_;intros)
      obtain ⟨rn,rd,er,_,_,l1,l2⟩:=b24 (plain (B0 w).1) (plain (B0 w).2)
      have l3:(j4 rn).length≤1+(i7 rn.natAbs).length:=by
       rw [I8,List.length_append]
       have:(LQ.sgn rn).length≤1:=by unfold LQ.sgn;split <;> simp
       omega
      rw [er] at e9
      simp only [] at e9
      rw [a3a,a3a] at e9
      refine j3 hre ⟨(plain (B0 w).1,plain (B0 w).2),by show (plain (B0 w).1).length < 8000;omega,by show (plain (B0 w).2).length < 8000;omega⟩ (r:=.t [.c (.s (j4 rn)),.c (.s (i7 rd))]) (by show s8.ret (.t [.c (.s (t7 (plain (B0 w).1) (plain (B0 w).2)).1),.c (.s (t7 (plain (B0 w).1) (plain (B0 w).2)).2)])=_;rw [er]) l6 .nil fun _ _ _ _=>?_
      (refine Zy ?_;intros)
      refine O1 (fun vs bs=>∃ y:Bool,l8 [.p 1 0,.p 2 0,.c (.b y)] vs∧j5 [[.s s,.i .i64 (k:Int)],B5 ⟨5,pos,[],j4 rn,i7 rd⟩,z5] bs∧(y=true↔100 < V7 (j4 rn)∨100 < V7 (i7 rd))) ?_ ?_
      ·rintro vs' bs' ⟨y,hv',hb',hy⟩
       have hb':j5 [[.s s,.i .i64 (k:Int)],[.i .i64 5,.i .i64 (pos:Int),.s [],.s (j4 rn),.s (i7 rd)],[.i .i64 0,.i .i64 0,.s [],.s [],.s []]] bs':=hb'
       (refine Zq ?_;with_reducible repeat' first|intro _|apply aI)
       ·rw [if_pos (hy.1 ‹_›)] at e9
        exact bad (ewd.trans e9) (.k (.i _ _) (.k (.q _ _ aS) .nil)) .nil
       ·rw [if_neg (fun h=>‹¬y=true› (hy.2 h))] at e9
        exact hcc _ _ ⟨_,by (exact l6),.k (.opa _ _ _ rfl aS) (.k (.opa _ _ _ rfl aS) (.k (.opa _ _ _ rfl aS) .nil)),e9⟩
      ·intro c2 hc2
       refine j3 hdg ⟨j4 rn,oM⟩ (r:=.c (.i .i64 (V7 (j4 rn):Nat))) rfl l6 .nil fun _ _ _ _=>?_
       (refine Zq ?_;with_reducible repeat' first|intro _|apply aI)
       ·exact fun e=>hc2 _ _ ⟨true,by (exact l6),.k (.opa _ _ _ rfl aS) (.k (.cells _ _ (by subst e;(exact Zru))) (.k (.opa _ _ _ rfl aS) .nil)),by simp;omega⟩ e
       ·refine j3 hdg ⟨i7 rd,oM⟩ (r:=.c (.i .i64 (V7 (i7 rd):Nat))) rfl l6 .nil fun _ _ _ _=>?_
        (refine Zq ?_;intros)
        exact fun e=>hc2 _ _ ⟨decide (100 < V7 (i7 rd)),.k (.p _ _) (.k (.p _ _) (.k (V9 (by subst e;rw [b5w,decide_eq_decide];omega)) .nil)),.k (.opa _ _ _ rfl aS) (.k (.cells _ _ (by subst e;(exact Zru))) (.k (.opa _ _ _ rfl aS) .nil)),decide_eq_true_iff.trans ⟨fun h=>.inr h,fun h=>h.resolve_left (fun h=>‹¬100 < ((V7 (j4 rn):Nat):Int)› oM)⟩⟩ e
     ·have z1:¬(p8 w).2.2=true:=‹_›
      have e9:D4 pos w k=if s7 w [] false=0 then .ok (⟨6,pos,[],w,[]⟩,k) else .error (s7 w [] false,pos):=by
       rw [D4,if_neg hdot,if_neg z1];rfl
      rw [← b5f hw0] at e9
      by_cases h0:s7 w [] true=0
      ·rw [if_pos h0] at e9
       refine fun e=>j3 hnm ⟨⟨6,pos,[],w,[]⟩,by show 0 < 90000;omega⟩ (r:=.t []) (by show N1 _=_;unfold N1;rw [if_pos h0]) (.k (.ag _ _ (by subst e;(exact Zru))) .nil) .nil (fun _ _ _ _=>?_) e
       (refine Zq ?_;intros)
       exact fun e=>hcc _ _ ⟨_,by (exact l6),.k (.opa _ _ _ rfl aS) (.k (.cells _ _ (by subst e;(exact Zru))) (.k (.opa _ _ _ rfl aS) .nil)),e9⟩ e
      ·rw [if_neg h0] at e9
       exact fun e=>badN (t:=⟨6,pos,[],w,[]⟩) (by show 0 < 90000;omega) h0 (ewd.trans e9) (.k (.ag _ _ (by subst e;(exact Zru))) .nil) .nil e
    ·intro c2 hc2
     (refine Zy ?_;with_reducible repeat' first|intro _|apply aI)
     ·have z1:(p8 w).2.2=true:=‹_›
      refine j3 htr ⟨((B0 w).2,[48]),by show (B0 w).2.length < 4294967281;omega,by show 1 < 4294967281;omega,by simp⟩ (r:=.c (.s (Lib.trimS (B0 w).2 [48]))) rfl l6 .nil fun _ _ _ _=>?_
      (refine Zy ?_;intros)
      exact fun e=>hc2 _ _ ⟨decide (Lib.trimS (B0 w).2 [48]=[]),.k (.s _ _ _ rfl rfl) (.k (.p _ _) (.k (.p _ _) (.k (.s _ _ _ rfl rfl) (.k (.s _ _ _ rfl rfl) (.k (.b _) (.k (V9 (by subst e;rw [b55];rfl)) .nil)))))),.k (scB rfl) (.k (.opa _ _ _ rfl aS) (.k z5B .nil)),by simp [z1]⟩ e
     ·have z1:¬(p8 w).2.2=true:=‹_›
      exact hc2 _ _ ⟨false,by (exact l6),.k (scB rfl) (.k (.opa _ _ _ rfl aS) (.k z5B .nil)),by simp [z1]⟩
end
end Go.Proofs.YtffaodopiifbkaaGreatDoor
namespace Go.Abs
theorem g1y {U:x5} {P:L3→List Bx→Prop} {b x:Int} {K:Int→Om} (hb:U=CU→b=x) (h:j6 U (K x) P):j6 U (U.fI b K) P:=fun e=>by
 have:=h e;rw [← hb e] at this;subst e;rw [Z6];exact this
theorem d78 (c:Bool) (a b:Int):CU.isel c a b=cond c a b:=by cases c <;> rfl
end Go.Abs
namespace Go.Proofs.YtffaodopiifbkaaGreatDoor
open Go.Abs LQ
set_option maxRecDepth 100000
set_option maxHeartbeats 8000000
noncomputable section
def M3 (s:i6) (i:Nat):Except (Int × Nat) (u5 × Nat):=match LQ.skip s i with
 | none=>.error (11,s.length)
 | some j=>if j < s.length then A0 s j else .ok (⟨0,j,[],[],[]⟩,j)
def g1p:Sp where
 ι:={ p:i6 × Nat // p.2≤p.1.length∧p.1.length < 8000 }
 A _:=[.p 0 0]
 B p:=[J4 p.1.1 p.1.2]
 R p:=a5a (M3 p.1.1 p.1.2)
 B' p:=[J4 p.1.1 (tokB p.1.2 (M3 p.1.1 p.1.2))]
 inj i j vs bs _ _ h k:=by
  have:=a6g (j5.one_inj h k)
  rw [this.1,this.2];exact ⟨rfl,rfl⟩
theorem d8f {s:i6} {j:Nat} (h1:bt s j ≠ 40) (h2:bt s j ≠ 41) (h3:bt s j ≠ 39) (h4:bt s j ≠ 34) (h5:bt s j ≠ 124) (hc:y8 (bt s j)=true):A0 s j=wdS s j (J7 s j) (m6 s j):=by
 rw [A0,if_neg h1,if_neg h2,if_neg h3,if_neg h4,if_neg h5,if_pos hc];rfl
theorem g0i (hst:l5 203 W7) (hdl:l5 136 b8d) (hcr:l5 158 c7r):l5 93 g1p:=n6 (fun fn h=>f6r h) [(134,_),(135,_),(51,_),(136,_),(138,_),(140,_),(137,_),(139,_)] (.cons (f9a hcr) (.cons b7d (.cons b3w (.cons hdl (.cons b65 (.cons e5p (.cons (d1k hst) (.cons (e7a hst hdl) .nil)))))))) fun U fn hfn ⟨(s,i),hi,hsl⟩ vs bs hv hb=>by
 have hs:=hfn 134 _ rfl
 have hm:=hfn 135 _ rfl
 have hf:=hfn 51 _ rfl
 have hd:=hfn 136 _ rfl
 have hc:=hfn 138 _ rfl
 have hwd:=hfn 140 _ rfl
 have hnm:=hfn 137 _ rfl
 have hwo:=hfn 139 _ rfl
 have hi:i≤s.length:=hi
 have hsl:s.length < 8000:=hsl
 have hv:l8 [.p 0 0] vs:=hv
 have hb:j5 [[.s s,.i .i64 (i:Int)]] bs:=hb
 show j6 U _ fun v bs'=>l9 (a5a (M3 s i)) v∧j5 [J4 s (tokB i (M3 s i))] bs'
 unfold r93
 have bad:∀ {e:Int} {p:Nat} {vs:List V} {bs:List Bx} {K:V→List Bx→Om},M3 s i=.error (e,p)→l8 [.c (.i .i64 e),.c (.i .i64 (p:Int))] vs→j5 [] bs→j6 U (U.bind (fn 51 vs bs) K fun v=>some (.pan (U.rn0 v),[.cells [.str s.length (p9 s),.int .i64 i]])) fun v bs'=>l9 (a5a (M3 s i)) v∧j5 [J4 s (tokB i (M3 s i))] bs':=fun {e p vs bs K} he hv hb=>by
  rw [he]
  exact G6 hf (e,(p:Int)) (r:=.fl 122 e p) rfl hv hb fun _ hv=>Q2 hv (scC rfl)
 have badN:∀ {t:u5} {vs:List V} {bs:List Bx} {K:V→List Bx→Om},t.pkg.length < 90000→s7 t.text t.pkg true ≠ 0→M3 s i=.error (s7 t.text t.pkg true,t.pos)→l8 [.a (B5 t)] vs→j5 [] bs→j6 U (U.bind (fn 137 vs bs) K fun v=>some (.pan (U.rn0 v),[.cells [.str s.length (p9 s),.int .i64 i]])) fun v bs'=>l9 (a5a (M3 s i)) v∧j5 [J4 s (tokB i (M3 s i))] bs':=fun {t vs bs K} hl h0 he hv hb=>by
  rw [he]
  exact G6 hnm ⟨t,hl⟩ (r:=.fl 122 (s7 t.text t.pkg true) t.pos) (by show N1 t=_;unfold N1;rw [if_neg h0]) hv hb fun _ hv=>Q2 hv (scC rfl)
 (refine Zq ?_;with_reducible repeat' first|intro _|apply aI)
 cases hsk:LQ.skip s i with
 | none =>
  have en:M3 s i=.error (11,s.length):=by unfold M3;rw [hsk]
  rw [en]
  exact G6 hs ⟨(s,i),hi,by show s.length < 90000;omega⟩ (r:=.fl 122 11 s.length) (by show a2w s i=_;unfold a2w;rw [hsk]) l6 (scC rfl) fun _ hv=>Q2 hv (scC rfl)
 | some j =>
  have hj:=Y0 hi hsk
  have en:M3 s i=if j < s.length then A0 s j else .ok (⟨0,j,[],[],[]⟩,j):=by unfold M3;rw [hsk]
  refine j3 hs ⟨(s,i),hi,by show s.length < 90000;omega⟩ (r:=.t []) (by show a2w s i=_;unfold a2w;rw [hsk]) l6 (scC rfl) fun _ _ _ hb1=>?_
  have eb:a4j s i=j:=by unfold a4j;rw [hsk];rfl
  have hb1:j5 [J4 s (a4j s i)] _:=hb1
  rw [eb] at hb1
  have hb1:j5 [[.s s,.i .i64 (j:Int)]] _:=hb1
  (refine Zq ?_;intros)
  refine j3 hm ⟨(s,j),hj.2,by show s.length < 90000;omega⟩ (r:=.c (.b (decide (j < s.length)))) rfl l6 (scC rfl) fun _ _ _ hb2=>?_
  have hb2:j5 [[.s s,.i .i64 (j:Int)]] _:=hb2
  (refine Zy ?_;with_reducible repeat' first|intro _|apply aI)
  ·have hlt:j < s.length:=of_decide_eq_true ‹_›
   rw [if_pos hlt] at en
   have hbt:((s.getD j 0).toNat:Int)=bt s j:=rfl
   have hb0:=a7w s j
   have hb9:=c4b s j
   refine O1 (fun vs bs=>∃ (t:u5) (k:Nat),l8 [.p 1 0,.p 2 0] vs∧j5 [[.s s,.i .i64 (k:Int)],z5,B5 t] bs∧A0 s j=.ok (t,k)) ?_ ?_
   ·rintro vs' bs' ⟨t,k,hv',hb',he⟩
    have hb':j5 [[.s s,.i .i64 (k:Int)],[.i .i64 0,.i .i64 0,.s [],.s [],.s []],[.i .i64 t.kind,.i .i64 (t.pos:Int),.s t.pkg,.s t.text,.s t.den]] bs':=hb'
    (refine Zq ?_;intros)
    rw [en,he]
    exact k9 ⟨.ret _ _ (.a _ _ _ rfl aS),RB.bx aS rfl⟩
   ·intro c hcc
    (refine Zy ?_;intros)
    refine O1 (fun vs bs=>∃ z:Bool,l8 [.p 0 0,.p 1 0,.p 2 0,.c (.i .u8 (bt s j)),.c (.b z)] vs∧j5 [[.s s,.i .i64 (j:Int)],z5,B5 (pT0 j)] bs∧(z=true↔bt s j=40∨bt s j=41∨bt s j=39)) ?_ ?_
    ·rintro vs' bs' ⟨z,hv',hb',hz⟩
     have hb':j5 [[.s s,.i .i64 (j:Int)],[.i .i64 0,.i .i64 0,.s [],.s [],.s []],[.i .i64 0,.i .i64 (j:Int),.s [],.s [],.s []]] bs':=hb'
     (refine Zy ?_;with_reducible repeat' first|intro _|apply aI)
     ·have hz1:=hz.1 ‹_›
      refine f4a (p:=¬(¬bt s j=40∧¬bt s j=41∧¬bt s j=39)) (by (repeat' (first | exact trT | exact trF | apply a5u | apply a6b | exact a5n | exact a5w | exact a7p | exact a68 | exact a7r | exact a2m | exact a2z | exact a2y | exact a2k | exact a2o | exact a5s | exact b1c | exact b0u | exact trS | exact trV))) oM ?_
      refine g1y (x:=if bt s j=40 then 1 else if bt s j=41 then 2 else 4) (fun e=>by
       subst e
       rw [d78,d78,b3m,b3m]
       by_cases h1:bt s j=40
       ·simp [h1]
       ·by_cases h2:bt s j=41 <;> simp [h1,h2]) ?_
      (refine Zy ?_;intros)
      refine fun e=>hcc _ _ ⟨⟨if bt s j=40 then 1 else if bt s j=41 then 2 else 4,j,[],[],[]⟩,j+1,by (exact l6),.k (.cells _ _ (by subst e;(exact Zru))) (.k (.opa _ _ _ rfl aS) (.k (.cells _ _ (by subst e;(exact Zru))) .nil)),?_⟩ e
      rcases hz1 with h | h | h
      ·rw [A0,if_pos h,if_pos h];rfl
      ·rw [A0,if_neg oM,if_pos h,if_neg oM,if_pos h];rfl
      ·rw [A0,if_neg oM,if_neg oM,if_pos h,if_neg oM,if_neg oM];rfl
     ·have hz0:¬(bt s j=40∨bt s j=41∨bt s j=39):=fun h=>‹¬z=true› (hz.2 h)
      have h34:bt s j=34:=‹_›
      have e0:A0 s j=match V0 s j 34 with
       | .error e=>.error e
       | .ok (l,k)=>if 200 < l.length then .error (2,j) else .ok (⟨7,j,w9,F2 l,w9⟩,k):=by
       rw [A0,if_neg oM,if_neg oM,if_neg oM,if_pos h34];rfl
      cases hde:V0 s j 34 with
      | error er =>
       obtain ⟨er,p⟩:=er
       rw [hde] at e0
       rw [en,e0]
       exact G6 hd ⟨(⟨(s,j),hj.2,by show s.length < 90000;omega⟩,34),.inl rfl,hlt,hsl⟩ (r:=.fl 122 er p) (by show b3l (V0 s j 34)=_;rw [hde];rfl) l6 (RB.bx aS rfl) fun _ hv=>Q2 hv (scC rfl)
      | ok lj =>
       obtain ⟨l,k⟩:=lj
       rw [hde] at e0
       refine j3 hd ⟨(⟨(s,j),hj.2,by show s.length < 90000;omega⟩,34),.inl rfl,hlt,hsl⟩ (r:=.c (.s (F2 l))) (by show b3l (V0 s j 34)=_;rw [hde];rfl) l6 (RB.bx aS rfl) fun _ _ _ hb3=>?_
       have hb3:j5 [J4 s (c5o j (V0 s j 34))] _:=hb3
       rw [hde] at hb3
       have hb3:j5 [[.s s,.i .i64 (k:Int)]] _:=hb3
       have hll:=a18 l
       (refine Zy ?_;with_reducible repeat' first|intro _|apply aI)
       ·exact fun e=>bad (en.trans (e0.trans (if_pos oM))) (.k (.i _ _) (.k (.q _ _ (by subst e;exact A8.at aS (by rfl))) .nil)) .nil e
       ·exact fun e=>hcc _ _ ⟨⟨7,j,[],F2 l,[]⟩,k,by (exact l6),.k (.opa _ _ _ rfl aS) (.k (.opa _ _ _ rfl aS) (.k (.cells _ _ (by subst e;(exact Zru))) .nil)),e0.trans (if_neg oM)⟩ e
     ·have hz0:¬(bt s j=40∨bt s j=41∨bt s j=39):=fun h=>‹¬z=true› (hz.2 h)
      have h34:¬bt s j=34:=‹_›
      have h124:bt s j=124:=‹_›
      have e0:A0 s j=match V0 s j 124 with
       | .error e=>.error e
       | .ok (l,k)=>if s7 (F2 l) w9 true=0 then .ok (⟨6,j,w9,F2 l,w9⟩,k) else .error (s7 (F2 l) w9 true,j):=by
       rw [A0,if_neg oM,if_neg oM,if_neg oM,if_neg h34,if_pos h124];rfl
      cases hde:V0 s j 124 with
      | error er =>
       obtain ⟨er,p⟩:=er
       rw [hde] at e0
       rw [en,e0]
       exact G6 hd ⟨(⟨(s,j),hj.2,by show s.length < 90000;omega⟩,124),.inr rfl,hlt,hsl⟩ (r:=.fl 122 er p) (by show b3l (V0 s j 124)=_;rw [hde];rfl) l6 (RB.bx aS rfl) fun _ hv=>Q2 hv (scC rfl)
      | ok lj =>
       obtain ⟨l,k⟩:=lj
       rw [hde] at e0
       have e0:A0 s j=if s7 (F2 l) [] true=0 then .ok (⟨6,j,[],F2 l,[]⟩,k) else .error (s7 (F2 l) [] true,j):=e0
       refine j3 hd ⟨(⟨(s,j),hj.2,by show s.length < 90000;omega⟩,124),.inr rfl,hlt,hsl⟩ (r:=.c (.s (F2 l))) (by show b3l (V0 s j 124)=_;rw [hde];rfl) l6 (RB.bx aS rfl) fun _ _ _ hb3=>?_
       have hb3:j5 [J4 s (c5o j (V0 s j 124))] _:=hb3
       rw [hde] at hb3
       have hb3:j5 [[.s s,.i .i64 (k:Int)]] _:=hb3
       (refine Zy ?_;intros)
       by_cases h0:s7 (F2 l) [] true=0
       ·rw [if_pos h0] at e0
        refine fun e=>j3 hnm ⟨⟨6,j,[],F2 l,[]⟩,by show 0 < 90000;omega⟩ (r:=.t []) (by show N1 _=_;unfold N1;rw [if_pos h0]) (.k (.ag _ _ (by subst e;(exact Zru))) .nil) .nil (fun _ _ _ _=>?_) e
        (refine Zy ?_;intros)
        exact fun e=>hcc _ _ ⟨_,k,by (exact l6),.k (.opa _ _ _ rfl aS) (.k (.opa _ _ _ rfl aS) (.k (.cells _ _ (by subst e;(exact Zru))) .nil)),e0⟩ e
       ·rw [if_neg h0] at e0
        exact fun e=>badN (t:=⟨6,j,[],F2 l,[]⟩) (by show 0 < 90000;omega) h0 (en.trans e0) (.k (.ag _ _ (by subst e;(exact Zru))) .nil) .nil e
     ·have hz0:¬(bt s j=40∨bt s j=41∨bt s j=39):=fun h=>‹¬z=true› (hz.2 h)
      have h34:¬bt s j=34:=‹_›
      have h124:¬bt s j=124:=‹_›
      refine j3 hc ⟨bt s j,hb0,hb9⟩ (r:=.c (.b (y8 (bt s j)))) rfl l6 .nil fun _ _ _ _=>?_
      (refine Zy ?_;with_reducible repeat' first|intro _|apply aI)
      ·have hcs:y8 (bt s j)=true:=‹_›
       have hwe:=G3 s j oM
       have hwp:=c2d hlt hcs
       have hwl:(J7 s j).length≤s.length:=by unfold J7;simp;omega
       have e0:=d8f (fun h=>hz0 (.inl h)) (fun h=>hz0 (.inr (.inl h))) (fun h=>hz0 (.inr (.inr h))) h34 h124 hcs
       refine j3 hwd ⟨(s,j),hj.2,by show s.length < 90000;omega⟩ (r:=.c (.s (J7 s j))) rfl l6 (RB.bx aS rfl) fun _ _ _ hb3=>?_
       have hb3:j5 [[.s s,.i .i64 ((m6 s j:Nat):Int)]] _:=hb3
       (refine Zy ?_;with_reducible repeat' first|intro _|apply aI)
       cases hw:wdS s j (J7 s j) (m6 s j) with
       | error er =>
        obtain ⟨er,p⟩:=er
        rw [en,e0,hw]
        exact G6 hwo ⟨(s,j,J7 s j,m6 s j),hwe.2,hsl,hwp,by show (J7 s j).length < 8000;omega⟩ (r:=.fl 122 er p) (by show a5a (wdS s j (J7 s j) (m6 s j))=_;rw [hw];rfl) (.k (.p _ _) (.k (.a _ _ _ rfl aS) (.k (.s _ _ _ rfl rfl) .nil))) (RB.bx aS rfl) fun _ hv=>Q2 hv (scC rfl)
       | ok tk =>
        obtain ⟨t,k⟩:=tk
        rw [hw] at e0
        refine j3 hwo ⟨(s,j,J7 s j,m6 s j),hwe.2,hsl,hwp,by show (J7 s j).length < 8000;omega⟩ (r:=.a (B5 t)) (by show a5a (wdS s j (J7 s j) (m6 s j))=_;rw [hw];rfl) (.k (.p _ _) (.k (.a _ _ _ rfl aS) (.k (.s _ _ _ rfl rfl) .nil))) (RB.bx aS rfl) fun _ _ _ hb4=>?_
        have hb4:j5 [J4 s (tokB (m6 s j) (wdS s j (J7 s j) (m6 s j)))] _:=hb4
        rw [hw] at hb4
        have hb4:j5 [[.s s,.i .i64 (k:Int)]] _:=hb4
        (refine Zy ?_;intros)
        exact hcc _ _ ⟨t,k,by (exact l6),.k (.opa _ _ _ rfl aS) (.k (.opa _ _ _ rfl aS) (.k (.opa _ _ _ rfl aS) .nil)),e0⟩
      ·have hcs:¬y8 (bt s j)=true:=‹_›
       exact bad (en.trans (by rw [A0,if_neg (fun h=>hz0 (.inl h)),if_neg (fun h=>hz0 (.inr (.inl h))),if_neg (fun h=>hz0 (.inr (.inr h))),if_neg h34,if_neg h124,if_neg hcs])) (.k (.i _ _) (.k (.q _ _ aS) .nil)) .nil
    ·intro c2 hc2
     (refine Zy ?_;with_reducible repeat' first|intro _|apply aI)
     ·exact hc2 _ _ ⟨true,by (exact l6),.k (scB rfl) (.k z5B (.k (.cells _ _ l6) .nil)),by simp;omega⟩
     ·exact hc2 _ _ ⟨true,by (exact l6),.k (scB rfl) (.k z5B (.k (.cells _ _ l6) .nil)),by simp;omega⟩
     ·exact fun e=>hc2 _ _ ⟨decide (bt s j=39),.k (.p _ _) (.k (.p _ _) (.k (.p _ _) (.k (.i _ _) (.k (V9 (by subst e;rw [b3m,decide_eq_decide];omega)) .nil)))),.k (scB rfl) (.k z5B (.k (.cells _ _ l6) .nil)),by rw [decide_eq_true_iff];omega⟩ e
  ·have hlt:¬j < s.length:=fun h=>‹¬decide (j < s.length)=true› (decide_eq_true h)
   rw [if_neg hlt] at en
   rw [en]
   exact k9 ⟨.ret _ _ (.ag _ _ l6),scC rfl⟩
theorem c9e {s:i6} {i k:Nat} {t:u5} (h:A0 s i=.ok (t,k)):t.kind ≠ 0:=by
 have fin:∀ {x:u5} {y:Nat},x.kind ≠ 0→(Except.ok (x,y):Except (Int × Nat) (u5 × Nat))=.ok (t,k)→t.kind ≠ 0:=by
  intro x y hx h;injection h with h;injection h with h1 h2;rw [← h1];exact hx
 unfold A0 at h
 repeat' split at h
 all_goals try (cases h;done)
 all_goals try exact fin dE h
 all_goals try exact fin (show ¬(6:Int)=0 by decide) h
 all_goals try exact fin (show ¬(7:Int)=0 by decide) h
 all_goals try exact fin (show ¬(1:Int)=0 by decide) h
 all_goals try exact fin (show ¬(2:Int)=0 by decide) h
 all_goals try exact fin (show ¬(4:Int)=0 by decide) h
 ·unfold H1 at h
  simp only [] at h
  repeat' split at h
  all_goals try (cases h;done)
  all_goals exact fin (show ¬(6:Int)=0 by decide) h
 ·unfold D4 at h
  simp only [] at h
  repeat' split at h
  all_goals try (cases h;done)
  all_goals first | exact fin (show ¬(3:Int)=0 by decide) h | exact fin (show ¬(5:Int)=0 by decide) h | exact fin (show ¬(6:Int)=0 by decide) h
theorem c2o {s:i6} {i:Nat} {acc:List u5} (hi:i≤s.length):o9 s i acc=match M3 s i with
  | .error e=>.error e
  | .ok (t,k)=>if t.kind=0 then .ok (acc ++ [t]) else o9 s k (acc ++ [t]):=by
 rw [S6 hi]
 unfold M3
 cases hs:LQ.skip s i with
 | none=>rfl
 | some j =>
  have hj:=Y0 hi hs
  simp only []
  by_cases hlt:j < s.length
  ·rw [if_pos hlt,if_pos hlt]
   cases ht:A0 s j with
   | error e=>rfl
   | ok p=>simp only [];rw [if_neg (c9e (t:=p.1) (k:=p.2) ht)]
  ·rw [if_neg hlt,if_neg hlt]
   simp only []
   rw [if_pos trivial,show j=s.length by omega];rfl
theorem e7r {s:i6} {i k:Nat} {t:u5} (hi:i≤s.length) (h:M3 s i=.ok (t,k)) (h0:t.kind ≠ 0):i < k∧k≤s.length:=by
 unfold M3 at h
 cases hs:LQ.skip s i with
 | none=>rw [hs] at h;cases h
 | some j =>
  have hj:=Y0 hi hs
  rw [hs] at h
  simp only [] at h
  by_cases hlt:j < s.length
  ·rw [if_pos hlt] at h;have:=a0g hlt h;omega
  ·rw [if_neg hlt] at h;injection h with h;injection h with h1 h2;rw [← h1] at h0;exact absurd rfl h0
def b8l:Except (Int × Nat) (List u5)→s8
 | .ok T=>.ret (.sl 5 (T.map B5))
 | .error (e,p)=>S3 e p
def c6p:Sp where
 ι:={ s:i6 // s.length < 8000 }
 A s:=[.c (.s s.1)]
 B _:=[]
 R s:=b8l (C5 s.1)
 B' _:=[]
 inj i j vs bs h k _ _:=by
  obtain ⟨_,_,h1,k1,h,k⟩:=h.two k
  rw [I7 h1 k1];exact ⟨rfl,rfl⟩
theorem e54 (hst:l5 203 W7) (hdl:l5 136 b8d) (hcr:l5 158 c7r):l5 55 c6p:=n6 (fun fn h=>f2k h) [(51,_),(93,_)] (.cons b3w (.cons (g0i hst hdl hcr) .nil)) fun U fn hfn ⟨s,hsl⟩ vs bs hv hb=>by
 have hf:=hfn 51 _ rfl
 have hn:=hfn 93 _ rfl
 have hsl:s.length < 8000:=hsl
 have hv:l8 [.c (.s s)] vs:=hv
 have hb:j5 [] bs:=hb
 show j6 U _ fun v bs'=>l9 (b8l (C5 s)) v∧j5 [] bs'
 unfold r55
 (refine Zy ?_;intros)
 refine O1 (fun vs bs=>vs=[.str s.length (p9 s)]∧bs=[]∧s.length≤6000) ?_ ?_
 ·rintro _ _ ⟨rfl,rfl,hs6⟩
  (refine Zq ?_;intros)
  have et:C5 s=o9 s 0 []:=by unfold C5;rw [if_neg oM]
  refine H0 (fun (i:Nat) vs bs=>∃ (acc:List u5) (v:V) (b0:Bx),vs=[.ptr 0 0,v]∧bs=[b0,.tok acc.length 5]∧RB (J4 s i) b0∧a1c 1 5 (acc.map B5) v∧i≤s.length∧acc.length≤i∧C5 s=o9 s i acc) (fun i=>s.length - i) 0 ⟨[],_,_,rfl,rfl,scB rfl,.b rfl,Nat.zero_le _,Nat.le_refl _,et⟩ (by simp only [C2];omega) ?_
  rintro self i _ _ ⟨acc,v,b0,rfl,rfl,hb0,htk,hi,ha,he⟩ ih
  have hb0:RB [.s s,.i .i64 (i:Int)] b0:=hb0
  rw [he,c2o hi]
  (refine Zq ?_;with_reducible repeat' first|intro _|apply aI)
  cases hne:M3 s i with
  | error er =>
   obtain ⟨er,p⟩:=er
   exact G6 hn ⟨(s,i),hi,hsl⟩ (r:=.fl 122 er p) (by show a5a (M3 s i)=_;rw [hne];rfl) l6 (RB.bx aS rfl) fun _ hv=>Q2 hv .nil
  | ok tk =>
   obtain ⟨t,k⟩:=tk
   simp only []
   refine j3 hn ⟨(s,i),hi,hsl⟩ (r:=.a (B5 t)) (by show a5a (M3 s i)=_;rw [hne];rfl) l6 (RB.bx aS rfl) fun _ _ hv1 hb1=>?_
   have hb1:j5 [J4 s (tokB i (M3 s i))] _:=hb1
   rw [hne] at hb1
   have hb1:j5 [[.s s,.i .i64 (k:Int)]] _:=hb1
   have hv1:RV (.a [.i .i64 t.kind,.i .i64 (t.pos:Int),.s t.pkg,.s t.text,.s t.den]) _:=hv1
   (refine Zq ?_;intros)
   refine a12 (xs:=acc.map B5) (r:=B5 t) (n:=5) (off:=0) aS (fun _=>a1a (by rw [a6f];decide) aS) (a6f _) (by simp) (by simp;omega) fun _ ht'=>?_
   rw [show acc.map B5 ++ [B5 t]=(acc ++ [t]).map B5 by simp] at ht'
   (refine Zq ?_;with_reducible repeat' first|intro _|apply aI)
   ·rw [if_pos ‹_›]
    exact k9 ⟨.ret _ _ (.sl _ _ _ _ _ (by simp) ht'),.nil⟩
   ·have h0:¬t.kind=0:=‹_›
    rw [if_neg h0]
    have hg:=e7r hi hne h0
    have et2:C5 s=o9 s k (acc ++ [t]):=by rw [he,c2o hi,hne];simp only [];rw [if_neg h0]
    rw [← et2]
    exact ih k _ _ ⟨acc ++ [t],_,_,rfl,by rw [List.length_append];rfl,.opa _ _ _ rfl aS,.a _ _ (by simp) ht',hg.2,by simp;omega,et2⟩ oM
 ·intro c hc
  (refine Zy ?_;with_reducible repeat' first|intro _|apply aI)
  ·have e:C5 s=.error (2,0):=by unfold C5;rw [if_pos oM]
   rw [e]
   exact G6 hf (2,0) (r:=.fl 122 2 0) rfl l6 .nil fun _ hv=>Q2 hv .nil
  ·exact hc _ _ ⟨rfl,rfl,oM⟩
end
end Go.Proofs.YtffaodopiifbkaaGreatDoor
