/- The program's reader: the token that begins with a word. -/
import Derived.Test.YtdldcfllnohkeaaGreatDoorKEG
set_option linter.all false
namespace Go.Proofs.YtdldcfllnohkeaaGreatDoor
open Go.Abs LQ
set_option maxRecDepth 100000
set_option maxHeartbeats 8000000
noncomputable section
def pT0 (i:Nat):A6:=⟨0,i,[],[],[]⟩
def f89:Sp where
 ι:={ q:f5 × Nat × f5 × Nat // q.2.2.2≤q.1.length∧q.1.length < 8000∧0 < q.2.2.1.length∧q.2.2.1.length < 8000 }
 A q:=[.p 0 0,.a (T8 (pT0 q.1.2.1)),.c (.s q.1.2.2.1)]
 B q:=[H3 q.1.1 q.1.2.2.2]
 R q:=a3u (wdS q.1.1 q.1.2.1 q.1.2.2.1 q.1.2.2.2)
 B' q:=[H3 q.1.1 (tokB q.1.2.2.2 (wdS q.1.1 q.1.2.1 q.1.2.2.1 q.1.2.2.2))]
 inj i j vs bs hv kv h k:=by
  have e1:=a4z (RBs.one_inj h k)
  obtain ⟨_,_,_,_,hv,kv⟩:=hv.two kv
  obtain ⟨_,_,h2,k2,hv,kv⟩:=hv.two kv
  obtain ⟨_,_,h3,k3,_,_⟩:=hv.two kv
  have e2:=congrArg A6.pos (c9m (h2.a_inj k2))
  have e2:i.1.2.1=j.1.2.1:=e2
  rw [e1.1,e1.2,e2,F7 h3 k3];exact ⟨rfl,rfl⟩
theorem b3h {t p:f5} (h:0 < t.length):n8 t p true=n8 t p false:=by
 unfold n8
 have:((true=true∧t.length=0)∨(p.length ≠ 0∧n5 p=false))↔((false=true∧t.length=0)∨(p.length ≠ 0∧n5 p=false)):=⟨fun h=>h.elim (fun h=>by omega) .inr,fun h=>h.elim (fun h=>by cases h.1) .inr⟩
 by_cases h1:40 < t.length
 ·rw [if_pos h1,if_pos h1]
 ·rw [if_neg h1,if_neg h1]
  by_cases h2:(true=true∧t.length=0)∨(p.length ≠ 0∧n5 p=false)
  ·rw [if_pos h2,if_pos (this.1 h2)]
  ·rw [if_neg h2,if_neg (fun h=>h2 (this.2 h))]
theorem c0y {s:f5} {i:Nat} (h:i < s.length) (hc:t6 (bt s i)=true):0 < (H4 s i).length:=by
 have h1:=e2i h hc
 have h2:=G9 s (i+1) oM
 unfold H4;simp;omega
theorem d7y (w:f5):(v8 w).1.length≤w.length∧(v8 w).2.length≤max 1 w.length:=by
 unfold v8 H6
 split <;> simp [Q6] <;> omega
theorem e6k {s:f5} {i k:Nat} {w:f5} (h:has s k 58 58=true):wdS s i w k=J5 s i w k:=by unfold wdS;rw [if_pos h]
theorem e6l {s:f5} {i k:Nat} {w:f5} (h:¬has s k 58 58=true):wdS s i w k=H0 i w k:=by unfold wdS;rw [if_neg h]
theorem e4h {s p:f5} {i k:Nat} (h:k+2 < s.length):J5 s i p k=if bt s (k+2)=124 then (match H7 s 124 (k+2+1) [] with
  | .error e=>.error e
  | .ok (l,j)=>if n8 (E6 l) p true=0 then .ok (⟨6,i,p,E6 l,s8⟩,j) else .error (n8 (E6 l) p true,i))
 else if t6 (bt s (k+2)) then (if n8 (H4 s (k+2)) p false=0 then .ok (⟨6,i,p,H4 s (k+2),s8⟩,k9 s (k+2)) else .error (n8 (H4 s (k+2)) p false,i))
 else .error (12,k+2):=by rw [J5,if_pos h];rfl
theorem e3v (hst:j3 179 a1w) (hdl:j3 109 c11):j3 112 f89:=k7 (fun fn h=>e4o h) [(134,_),(108,_),(45,_),(109,_),(111,_),(113,_),(110,_),(138,_),(139,_),(140,_),(129,_),(141,_)] (.cons b75 (.cons b51 (.cons b5y (.cons hdl (.cons b4b (.cons e1f (.cons (c78 hst) (.cons d7k (.cons d3z (.cons e7p (.cons (c3k hst) (.cons c3c .nil)))))))))))) fun U fn hfn ⟨(s,pos,w,k),hk,hsl,hw0,hwl⟩ vs bs hv hb=>by
 have hs:=hfn 134 _ rfl
 have hm:=hfn 108 _ rfl
 have hf:=hfn 45 _ rfl
 have hd:=hfn 109 _ rfl
 have hc:=hfn 111 _ rfl
 have hwd:=hfn 113 _ rfl
 have hnm:=hfn 110 _ rfl
 have hnu:=hfn 138 _ rfl
 have htr:=hfn 139 _ rfl
 have hpl:=hfn 140 _ rfl
 have hre:=hfn 129 _ rfl
 have hdg:=hfn 141 _ rfl
 have hk:k≤s.length:=hk
 have hsl:s.length < 8000:=hsl
 have hw0:0 < w.length:=hw0
 have hwl:w.length < 8000:=hwl
 have hv:j5 [.p 0 0,.a [.i .i64 0,.i .i64 (pos:Int),.s [],.s [],.s []],.c (.s w)] vs:=hv
 have hb:RBs [[.s s,.i .i64 (k:Int)]] bs:=hb
 show g7 U _ fun v bs'=>j6 (a3u (wdS s pos w k)) v∧RBs [H3 s (tokB k (wdS s pos w k))] bs'
 unfold d8u
 -- a failure
 have bad:∀ {e:Int} {p:Nat} {vs:List V} {bs:List Bx} {K:V→List Bx→Om},wdS s pos w k=.error (e,p)→j5 [.c (.i .i64 e),.c (.i .i64 (p:Int))] vs→RBs [] bs→g7 U (U.bind (fn 45 vs bs) K fun v=>some (.pan (U.rn0 v),[.cells [.str s.length (j9 s),.int .i64 k]])) fun v bs'=>j6 (a3u (wdS s pos w k)) v∧RBs [H3 s (tokB k (wdS s pos w k))] bs':=fun {e p vs bs K} he hv hb=>by
  rw [he]
  exact Q9 hf (e,(p:Int)) (r:=.fl 107 e p) rfl hv hb fun _ hv=>a1p hv (Z3 rfl)
 have badN:∀ {t:A6} {vs:List V} {bs:List Bx} {K:V→List Bx→Om},t.pkg.length < 90000→n8 t.text t.pkg true ≠ 0→wdS s pos w k=.error (n8 t.text t.pkg true,t.pos)→j5 [.a (T8 t)] vs→RBs [] bs→g7 U (U.bind (fn 110 vs bs) K fun v=>some (.pan (U.rn0 v),[.cells [.str s.length (j9 s),.int .i64 k]])) fun v bs'=>j6 (a3u (wdS s pos w k)) v∧RBs [H3 s (tokB k (wdS s pos w k))] bs':=fun {t vs bs K} hl h0 he hv hb=>by
  rw [he]
  exact Q9 hnm ⟨t,hl⟩ (r:=.fl 107 (n8 t.text t.pkg true) t.pos) (by show K4 t=_;unfold K4;rw [if_neg h0]) hv hb fun _ hv=>a1p hv (Z3 rfl)
 (refine Zq ?_;intros)
 refine f6 hs ⟨⟨(s,k),hk,by show s.length < 90000;omega⟩,k6 2 14906⟩ (r:=.c (.b (has s k 58 58))) (by show n6.ret (.c (.b (R5 (s.drop k) (k6 2 14906))))=_;rw [e65,d1h hk];rfl) j4 (Z3 rfl) fun _ _ _ hb1=>?_
 have hb1:RBs [[.s s,.i .i64 (k:Int)]] _:=hb1
 (refine Zy ?_;with_reducible repeat' first|intro _|apply aI)
 ·have hq:has s k 58 58=true:=‹_›
  have hk2:=X3 hq
  have ewd:=e6k (i:=pos) (w:=w) hq
  refine R6 (fun vs bs=>∃ (text:f5) (j:Nat),j5 [.p 1 0,.p 2 0] vs∧RBs [[.s s,.i .i64 (j:Int)],T8 ⟨6,pos,w,text,[]⟩,z5] bs∧j≤s.length∧J5 s pos w k=if n8 text w true=0 then .ok (⟨6,pos,w,text,[]⟩,j) else .error (n8 text w true,pos)) ?_ ?_
  ·rintro vs' bs' ⟨text,j,hv',hb',hj,he⟩
   have hb':RBs [[.s s,.i .i64 (j:Int)],[.i .i64 6,.i .i64 (pos:Int),.s w,.s text,.s []],[.i .i64 0,.i .i64 0,.s [],.s [],.s []]] bs':=hb'
   (refine Zq ?_;intros)
   by_cases h0:n8 text w true=0
   ·rw [if_pos h0] at he
    refine f6 hnm ⟨⟨6,pos,w,text,[]⟩,by show w.length < 90000;omega⟩ (r:=.t []) (by show K4 _=_;unfold K4;rw [if_pos h0]) (.k (.a _ _ _ rfl aS) .nil) .nil fun _ _ _ _=>?_
    (refine Zq ?_;intros)
    rw [ewd,he]
    exact g9 ⟨.ret _ _ (.a _ _ _ rfl aS),RB.bx aS rfl⟩
   ·rw [if_neg h0] at he
    exact badN (t:=⟨6,pos,w,text,[]⟩) (by show w.length < 90000;omega) h0 (ewd.trans he) (.k (.a _ _ _ rfl aS) .nil) .nil
  ·intro c hcc
   (refine Zq ?_;intros)
   refine f6 hm ⟨(s,k+2),by show k+2≤s.length;omega,by show s.length < 90000;omega⟩ (r:=.c (.b (decide (k+2 < s.length)))) rfl j4 (Z3 (show (k:Int)+2=((k+2:Nat):Int) by omega)) fun _ _ _ hb2=>?_
   have hb2:RBs [[.s s,.i .i64 ((k+2:Nat):Int)]] _:=hb2
   (refine Zq ?_;with_reducible repeat' first|intro _|apply aI)
   ·have hlt:k+2 < s.length:=of_decide_eq_true ‹_›
    have hbt:((s.getD (k+2) 0).toNat:Int)=bt s (k+2):=rfl
    have hb0:=a57 s (k+2)
    have hb9:=c1k s (k+2)
    have e0:=e4h (i:=pos) (p:=w) hlt
    (refine Zq ?_;with_reducible repeat' first|intro _|apply aI)
    ·have h124:bt s (k+2)=124:=‹_›
     rw [if_pos h124] at e0
     have hds:T0 s (k+2) 124=H7 s 124 (k+2+1) []:=rfl
     rw [← hds] at e0
     cases hde:T0 s (k+2) 124 with
     | error er =>
      obtain ⟨er,p⟩:=er
      rw [hde] at e0
      rw [ewd,e0]
      exact Q9 hd ⟨(⟨(s,k+2),by show k+2≤s.length;omega,by show s.length < 90000;omega⟩,124),.inr rfl,hlt,hsl⟩ (r:=.fl 107 er p) (by show b0y (T0 s (k+2) 124)=_;rw [hde];rfl) j4 (Z3 rfl) fun _ hv=>a1p hv (Z3 rfl)
     | ok lj =>
      obtain ⟨l,j⟩:=lj
      rw [hde] at e0
      have hj:=a7w hde
      refine f6 hd ⟨(⟨(s,k+2),by show k+2≤s.length;omega,by show s.length < 90000;omega⟩,124),.inr rfl,hlt,hsl⟩ (r:=.c (.s (E6 l))) (by show b0y (T0 s (k+2) 124)=_;rw [hde];rfl) j4 (Z3 rfl) fun _ _ _ hb3=>?_
      have hb3:RBs [H3 s (c2q (k+2) (T0 s (k+2) 124))] _:=hb3
      rw [hde] at hb3
      have hb3:RBs [[.s s,.i .i64 (j:Int)]] _:=hb3
      (refine Zq ?_;intros)
      exact fun e=>hcc _ _ ⟨E6 l,j,by (exact j4),.k (scB rfl) (.k (.cells _ _ (by subst e;(exact Zru))) (.k z5B .nil)),hj.2,e0⟩ e
    ·have h124:¬bt s (k+2)=124:=‹_›
     rw [if_neg h124] at e0
     refine f6 hc ⟨bt s (k+2),hb0,hb9⟩ (r:=.c (.b (t6 (bt s (k+2))))) rfl j4 .nil fun _ _ _ _=>?_
     (refine Zq ?_;with_reducible repeat' first|intro _|apply aI)
     ·have hcs:t6 (bt s (k+2))=true:=‹_›
      rw [if_pos hcs] at e0
      have hwe:=G9 s (k+2) oM
      have hwp:=c0y hlt hcs
      refine f6 hwd ⟨(s,k+2),by show k+2≤s.length;omega,by show s.length < 90000;omega⟩ (r:=.c (.s (H4 s (k+2)))) rfl j4 (Z3 rfl) fun _ _ _ hb3=>?_
      have hb3:RBs [[.s s,.i .i64 ((k9 s (k+2):Nat):Int)]] _:=hb3
      (refine Zq ?_;intros)
      refine fun e=>hcc _ _ ⟨H4 s (k+2),k9 s (k+2),by (exact j4),.k (scB rfl) (.k (.cells _ _ (by subst e;(exact Zru))) (.k z5B .nil)),hwe.2,?_⟩ e
      rw [b3h hwp];exact e0
     ·have hcs:¬t6 (bt s (k+2))=true:=‹_›
      rw [if_neg hcs] at e0
      exact bad (ewd.trans e0) j4 .nil
   ·have hlt:¬k+2 < s.length:=fun h=>‹¬decide (k+2 < s.length)=true› (decide_eq_true h)
    exact bad (ewd.trans (by rw [J5,if_neg hlt])) j4 .nil
 ·have hq:¬has s k 58 58=true:=‹_›
  have ewd:=e6l (i:=pos) (w:=w) hq
  obtain ⟨nl1,nl2⟩:=d7y w
  refine f6 hnu ⟨w,by show w.length < 90000;omega⟩ (r:=.t [.c (.s (v8 w).1),.c (.s (v8 w).2),.c (.b (m6 w).2.2)]) rfl j4 .nil fun _ _ _ _=>?_
  (refine Zy ?_;intros)
  refine R6 (fun vs bs=>∃ t:A6,j5 [.p 1 0,.p 2 0] vs∧RBs [[.s s,.i .i64 (k:Int)],T8 t,z5] bs∧H0 pos w k=.ok (t,k)) ?_ ?_
  ·rintro vs' bs' ⟨t,hv',hb',he⟩
   have hb':RBs [[.s s,.i .i64 (k:Int)],[.i .i64 t.kind,.i .i64 (t.pos:Int),.s t.pkg,.s t.text,.s t.den],[.i .i64 0,.i .i64 0,.s [],.s [],.s []]] bs':=hb'
   (refine Zq ?_;intros)
   rw [ewd,he]
   exact g9 ⟨.ret _ _ (.a _ _ _ rfl aS),RB.bx aS rfl⟩
  ·intro c hcc
   (refine Zy ?_;with_reducible repeat' first|intro _|apply aI)
   ·have hdot:w=k6 1 46:=‹_›
    refine fun e=>hcc _ _ ⟨⟨3,pos,[],[],[]⟩,by (exact j4),.k (scB rfl) (.k (.cells _ _ (by subst e;(exact Zru))) (.k z5B .nil)),?_⟩ e
    rw [H0,if_pos (by rw [hdot];rfl)];rfl
   ·have hdot:¬w=[46]:=‹_›
    refine R6 (fun vs bs=>∃ z:Bool,j5 [.c (.s w),.p 1 0,.p 2 0,.c (.s (v8 w).1),.c (.s (v8 w).2),.c (.b (m6 w).2.2),.c (.b z)] vs∧RBs [[.s s,.i .i64 (k:Int)],T8 (pT0 pos),z5] bs∧(z=true↔(m6 w).2.2=true∧Lib.trimS (v8 w).2 [48]=[])) ?_ ?_
    ·rintro vs' bs' ⟨z,hv',hb',hz⟩
     have hb':RBs [[.s s,.i .i64 (k:Int)],[.i .i64 0,.i .i64 (pos:Int),.s [],.s [],.s []],[.i .i64 0,.i .i64 0,.s [],.s [],.s []]] bs':=hb'
     (refine Zy ?_;with_reducible repeat' first|intro _|apply aI)
     ·obtain ⟨z1,z2⟩:=hz.1 ‹_›
      obtain ⟨c1,c2,c3⟩:=a74 z1
      exact bad (ewd.trans (by rw [H0,if_neg hdot,if_pos z1,if_pos (by rw [c2];exact (b6m c3).1 z2)])) (.k (.i _ _) (.k (.q _ _ aS) .nil)) .nil
     ·have z1:(m6 w).2.2=true:=‹_›
      have z0:¬z=true:=‹_›
      obtain ⟨c1,c2,c3⟩:=a74 z1
      have e9:H0 pos w k=if 100 < A8 (o7 (plain (v8 w).1) (plain (v8 w).2)).1∨100 < A8 (o7 (plain (v8 w).1) (plain (v8 w).2)).2 then .error (2,pos) else .ok (⟨5,pos,[],(o7 (plain (v8 w).1) (plain (v8 w).2)).1,(o7 (plain (v8 w).1) (plain (v8 w).2)).2⟩,k):=by
       rw [H0,if_neg hdot,if_pos z1,c1,c2,if_neg (fun h=>z0 (hz.2 ⟨z1,(b6m c3).2 h⟩))];rfl
      have p1:=a6i (v8 w).1
      have p2:=a6i (v8 w).2
      refine f6 hpl ⟨(v8 w).1,oM⟩ (r:=.c (.s (plain (v8 w).1))) rfl j4 .nil fun _ _ _ _=>?_
      (refine Zy ?_;intros)
      refine f6 hpl ⟨(v8 w).2,oM⟩ (r:=.c (.s (plain (v8 w).2))) rfl j4 .nil fun _ _ _ _=>?_
      (refine Zy ?_;intros)
      obtain ⟨rn,rd,er,_,_,l1,l2⟩:=b1i (plain (v8 w).1) (plain (v8 w).2)
      have l3:(f9 rn).length≤1+(f8 rn.natAbs).length:=by
       rw [a1s,List.length_append]
       have:(LQ.sgn rn).length≤1:=by unfold LQ.sgn;split <;> simp
       omega
      rw [er] at e9
      simp only [] at e9
      rw [a1j,a1j] at e9
      refine f6 hre ⟨(plain (v8 w).1,plain (v8 w).2),by show (plain (v8 w).1).length < 8000;omega,by show (plain (v8 w).2).length < 8000;omega⟩ (r:=.t [.c (.s (f9 rn)),.c (.s (f8 rd))]) (by show n6.ret (.t [.c (.s (o7 (plain (v8 w).1) (plain (v8 w).2)).1),.c (.s (o7 (plain (v8 w).1) (plain (v8 w).2)).2)])=_;rw [er]) j4 .nil fun _ _ _ _=>?_
      (refine Zy ?_;intros)
      refine R6 (fun vs bs=>∃ y:Bool,j5 [.p 1 0,.p 2 0,.c (.b y)] vs∧RBs [[.s s,.i .i64 (k:Int)],T8 ⟨5,pos,[],f9 rn,f8 rd⟩,z5] bs∧(y=true↔100 < T2 (f9 rn)∨100 < T2 (f8 rd))) ?_ ?_
      ·rintro vs' bs' ⟨y,hv',hb',hy⟩
       have hb':RBs [[.s s,.i .i64 (k:Int)],[.i .i64 5,.i .i64 (pos:Int),.s [],.s (f9 rn),.s (f8 rd)],[.i .i64 0,.i .i64 0,.s [],.s [],.s []]] bs':=hb'
       (refine Zq ?_;with_reducible repeat' first|intro _|apply aI)
       ·rw [if_pos (hy.1 ‹_›)] at e9
        exact bad (ewd.trans e9) (.k (.i _ _) (.k (.q _ _ aS) .nil)) .nil
       ·rw [if_neg (fun h=>‹¬y=true› (hy.2 h))] at e9
        exact hcc _ _ ⟨_,by (exact j4),.k (.opa _ _ _ rfl aS) (.k (.opa _ _ _ rfl aS) (.k (.opa _ _ _ rfl aS) .nil)),e9⟩
      ·intro c2 hc2
       refine f6 hdg ⟨f9 rn,oM⟩ (r:=.c (.i .i64 (T2 (f9 rn):Nat))) rfl j4 .nil fun _ _ _ _=>?_
       (refine Zq ?_;with_reducible repeat' first|intro _|apply aI)
       ·exact fun e=>hc2 _ _ ⟨true,by (exact j4),.k (.opa _ _ _ rfl aS) (.k (.cells _ _ (by subst e;(exact Zru))) (.k (.opa _ _ _ rfl aS) .nil)),by simp;omega⟩ e
       ·refine f6 hdg ⟨f8 rd,oM⟩ (r:=.c (.i .i64 (T2 (f8 rd):Nat))) rfl j4 .nil fun _ _ _ _=>?_
        (refine Zq ?_;intros)
        exact fun e=>hc2 _ _ ⟨decide (100 < T2 (f8 rd)),.k (.p _ _) (.k (.p _ _) (.k (P9 (by subst e;rw [b33,decide_eq_decide];omega)) .nil)),.k (.opa _ _ _ rfl aS) (.k (.cells _ _ (by subst e;(exact Zru))) (.k (.opa _ _ _ rfl aS) .nil)),decide_eq_true_iff.trans ⟨fun h=>.inr h,fun h=>h.resolve_left (fun h=>‹¬100 < ((T2 (f9 rn):Nat):Int)› oM)⟩⟩ e
     ·have z1:¬(m6 w).2.2=true:=‹_›
      have e9:H0 pos w k=if n8 w [] false=0 then .ok (⟨6,pos,[],w,[]⟩,k) else .error (n8 w [] false,pos):=by
       rw [H0,if_neg hdot,if_neg z1];rfl
      rw [← b3h hw0] at e9
      by_cases h0:n8 w [] true=0
      ·rw [if_pos h0] at e9
       refine fun e=>f6 hnm ⟨⟨6,pos,[],w,[]⟩,by show 0 < 90000;omega⟩ (r:=.t []) (by show K4 _=_;unfold K4;rw [if_pos h0]) (.k (.ag _ _ (by subst e;(exact Zru))) .nil) .nil (fun _ _ _ _=>?_) e
       (refine Zq ?_;intros)
       exact fun e=>hcc _ _ ⟨_,by (exact j4),.k (.opa _ _ _ rfl aS) (.k (.cells _ _ (by subst e;(exact Zru))) (.k (.opa _ _ _ rfl aS) .nil)),e9⟩ e
      ·rw [if_neg h0] at e9
       exact fun e=>badN (t:=⟨6,pos,[],w,[]⟩) (by show 0 < 90000;omega) h0 (ewd.trans e9) (.k (.ag _ _ (by subst e;(exact Zru))) .nil) .nil e
    ·intro c2 hc2
     (refine Zy ?_;with_reducible repeat' first|intro _|apply aI)
     ·have z1:(m6 w).2.2=true:=‹_›
      refine f6 htr ⟨((v8 w).2,[48]),by show (v8 w).2.length < 4294967281;omega,by show 1 < 4294967281;omega,by simp⟩ (r:=.c (.s (Lib.trimS (v8 w).2 [48]))) rfl j4 .nil fun _ _ _ _=>?_
      (refine Zy ?_;intros)
      exact fun e=>hc2 _ _ ⟨decide (Lib.trimS (v8 w).2 [48]=[]),.k (.s _ _ _ rfl rfl) (.k (.p _ _) (.k (.p _ _) (.k (.s _ _ _ rfl rfl) (.k (.s _ _ _ rfl rfl) (.k (.b _) (.k (P9 (by subst e;rw [b0w];rfl)) .nil)))))),.k (scB rfl) (.k (.opa _ _ _ rfl aS) (.k z5B .nil)),by simp [z1]⟩ e
     ·have z1:¬(m6 w).2.2=true:=‹_›
      exact hc2 _ _ ⟨false,by (exact j4),.k (scB rfl) (.k (.opa _ _ _ rfl aS) (.k z5B .nil)),by simp [z1]⟩
end
end Go.Proofs.YtdldcfllnohkeaaGreatDoor
namespace Go.Abs
theorem f8z {U:s7} {P:J7→List Bx→Prop} {b x:Int} {K:Int→Om} (hb:U=CU→b=x) (h:g7 U (K x) P):g7 U (U.fI b K) P:=fun e=>by
 have:=h e;rw [← hb e] at this;subst e;rw [W2];exact this
theorem d21 (c:Bool) (a b:Int):CU.isel c a b=cond c a b:=by cases c <;> rfl
end Go.Abs
namespace Go.Proofs.YtdldcfllnohkeaaGreatDoor
open Go.Abs LQ
set_option maxRecDepth 100000
set_option maxHeartbeats 8000000
noncomputable section
def J9 (s:f5) (i:Nat):Except (Int × Nat) (A6 × Nat):=match LQ.skip s i with
 | none=>.error (11,s.length)
 | some j=>if j < s.length then A0 s j else .ok (⟨0,j,[],[],[]⟩,j)
def f84:Sp where
 ι:={ p:f5 × Nat // p.2≤p.1.length∧p.1.length < 8000 }
 A _:=[.p 0 0]
 B p:=[H3 p.1.1 p.1.2]
 R p:=a3u (J9 p.1.1 p.1.2)
 B' p:=[H3 p.1.1 (tokB p.1.2 (J9 p.1.1 p.1.2))]
 inj i j vs bs _ _ h k:=by
  have:=a4z (RBs.one_inj h k)
  rw [this.1,this.2];exact ⟨rfl,rfl⟩
theorem d5t {s:f5} {j:Nat} (h1:bt s j ≠ 40) (h2:bt s j ≠ 41) (h3:bt s j ≠ 39) (h4:bt s j ≠ 34) (h5:bt s j ≠ 124) (hc:t6 (bt s j)=true):A0 s j=wdS s j (H4 s j) (k9 s j):=by
 rw [A0,if_neg h1,if_neg h2,if_neg h3,if_neg h4,if_neg h5,if_pos hc];rfl
theorem f5x (hst:j3 179 a1w) (hdl:j3 109 c11) (hcr:j3 132 d10):j3 76 f84:=k7 (fun fn h=>f1a h) [(107,_),(108,_),(45,_),(109,_),(111,_),(113,_),(110,_),(112,_)] (.cons (f51 hcr) (.cons b51 (.cons b5y (.cons hdl (.cons b4b (.cons e1f (.cons (c78 hst) (.cons (e3v hst hdl) .nil)))))))) fun U fn hfn ⟨(s,i),hi,hsl⟩ vs bs hv hb=>by
 have hs:=hfn 107 _ rfl
 have hm:=hfn 108 _ rfl
 have hf:=hfn 45 _ rfl
 have hd:=hfn 109 _ rfl
 have hc:=hfn 111 _ rfl
 have hwd:=hfn 113 _ rfl
 have hnm:=hfn 110 _ rfl
 have hwo:=hfn 112 _ rfl
 have hi:i≤s.length:=hi
 have hsl:s.length < 8000:=hsl
 have hv:j5 [.p 0 0] vs:=hv
 have hb:RBs [[.s s,.i .i64 (i:Int)]] bs:=hb
 show g7 U _ fun v bs'=>j6 (a3u (J9 s i)) v∧RBs [H3 s (tokB i (J9 s i))] bs'
 unfold r76
 have bad:∀ {e:Int} {p:Nat} {vs:List V} {bs:List Bx} {K:V→List Bx→Om},J9 s i=.error (e,p)→j5 [.c (.i .i64 e),.c (.i .i64 (p:Int))] vs→RBs [] bs→g7 U (U.bind (fn 45 vs bs) K fun v=>some (.pan (U.rn0 v),[.cells [.str s.length (j9 s),.int .i64 i]])) fun v bs'=>j6 (a3u (J9 s i)) v∧RBs [H3 s (tokB i (J9 s i))] bs':=fun {e p vs bs K} he hv hb=>by
  rw [he]
  exact Q9 hf (e,(p:Int)) (r:=.fl 107 e p) rfl hv hb fun _ hv=>a1p hv (Z3 rfl)
 have badN:∀ {t:A6} {vs:List V} {bs:List Bx} {K:V→List Bx→Om},t.pkg.length < 90000→n8 t.text t.pkg true ≠ 0→J9 s i=.error (n8 t.text t.pkg true,t.pos)→j5 [.a (T8 t)] vs→RBs [] bs→g7 U (U.bind (fn 110 vs bs) K fun v=>some (.pan (U.rn0 v),[.cells [.str s.length (j9 s),.int .i64 i]])) fun v bs'=>j6 (a3u (J9 s i)) v∧RBs [H3 s (tokB i (J9 s i))] bs':=fun {t vs bs K} hl h0 he hv hb=>by
  rw [he]
  exact Q9 hnm ⟨t,hl⟩ (r:=.fl 107 (n8 t.text t.pkg true) t.pos) (by show K4 t=_;unfold K4;rw [if_neg h0]) hv hb fun _ hv=>a1p hv (Z3 rfl)
 (refine Zq ?_;with_reducible repeat' first|intro _|apply aI)
 cases hsk:LQ.skip s i with
 | none =>
  have en:J9 s i=.error (11,s.length):=by unfold J9;rw [hsk]
  rw [en]
  exact Q9 hs ⟨(s,i),hi,by show s.length < 90000;omega⟩ (r:=.fl 107 11 s.length) (by show a1v s i=_;unfold a1v;rw [hsk]) j4 (Z3 rfl) fun _ hv=>a1p hv (Z3 rfl)
 | some j =>
  have hj:=a8i hi hsk
  have en:J9 s i=if j < s.length then A0 s j else .ok (⟨0,j,[],[],[]⟩,j):=by unfold J9;rw [hsk]
  refine f6 hs ⟨(s,i),hi,by show s.length < 90000;omega⟩ (r:=.t []) (by show a1v s i=_;unfold a1v;rw [hsk]) j4 (Z3 rfl) fun _ _ _ hb1=>?_
  have eb:a26 s i=j:=by unfold a26;rw [hsk];rfl
  have hb1:RBs [H3 s (a26 s i)] _:=hb1
  rw [eb] at hb1
  have hb1:RBs [[.s s,.i .i64 (j:Int)]] _:=hb1
  (refine Zq ?_;intros)
  refine f6 hm ⟨(s,j),hj.2,by show s.length < 90000;omega⟩ (r:=.c (.b (decide (j < s.length)))) rfl j4 (Z3 rfl) fun _ _ _ hb2=>?_
  have hb2:RBs [[.s s,.i .i64 (j:Int)]] _:=hb2
  (refine Zy ?_;with_reducible repeat' first|intro _|apply aI)
  ·have hlt:j < s.length:=of_decide_eq_true ‹_›
   rw [if_pos hlt] at en
   have hbt:((s.getD j 0).toNat:Int)=bt s j:=rfl
   have hb0:=a57 s j
   have hb9:=c1k s j
   refine R6 (fun vs bs=>∃ (t:A6) (k:Nat),j5 [.p 1 0,.p 2 0] vs∧RBs [[.s s,.i .i64 (k:Int)],z5,T8 t] bs∧A0 s j=.ok (t,k)) ?_ ?_
   ·rintro vs' bs' ⟨t,k,hv',hb',he⟩
    have hb':RBs [[.s s,.i .i64 (k:Int)],[.i .i64 0,.i .i64 0,.s [],.s [],.s []],[.i .i64 t.kind,.i .i64 (t.pos:Int),.s t.pkg,.s t.text,.s t.den]] bs':=hb'
    (refine Zq ?_;intros)
    rw [en,he]
    exact g9 ⟨.ret _ _ (.a _ _ _ rfl aS),RB.bx aS rfl⟩
   ·intro c hcc
    (refine Zy ?_;intros)
    refine R6 (fun vs bs=>∃ z:Bool,j5 [.p 0 0,.p 1 0,.p 2 0,.c (.i .u8 (bt s j)),.c (.b z)] vs∧RBs [[.s s,.i .i64 (j:Int)],z5,T8 (pT0 j)] bs∧(z=true↔bt s j=40∨bt s j=41∨bt s j=39)) ?_ ?_
    ·rintro vs' bs' ⟨z,hv',hb',hz⟩
     have hb':RBs [[.s s,.i .i64 (j:Int)],[.i .i64 0,.i .i64 0,.s [],.s [],.s []],[.i .i64 0,.i .i64 (j:Int),.s [],.s [],.s []]] bs':=hb'
     (refine Zy ?_;with_reducible repeat' first|intro _|apply aI)
     ·have hz1:=hz.1 ‹_›
      refine f2p (p:=¬(¬bt s j=40∧¬bt s j=41∧¬bt s j=39)) (by (repeat' (first | exact trT | exact trF | apply a4i | apply a4f | exact a4h | exact a4g | exact a1x | exact a5u | exact a5t | exact a11 | exact a12 | exact a10 | exact a1z | exact a1y | exact a4k | exact a91 | exact a7n | exact trS | exact trV))) oM ?_
      refine f8z (x:=if bt s j=40 then 1 else if bt s j=41 then 2 else 4) (fun e=>by
       subst e
       rw [d21,d21,a5a,a5a]
       by_cases h1:bt s j=40
       ·simp [h1]
       ·by_cases h2:bt s j=41 <;> simp [h1,h2]) ?_
      (refine Zy ?_;intros)
      refine fun e=>hcc _ _ ⟨⟨if bt s j=40 then 1 else if bt s j=41 then 2 else 4,j,[],[],[]⟩,j+1,by (exact j4),.k (.cells _ _ (by subst e;(exact Zru))) (.k (.opa _ _ _ rfl aS) (.k (.cells _ _ (by subst e;(exact Zru))) .nil)),?_⟩ e
      rcases hz1 with h | h | h
      ·rw [A0,if_pos h,if_pos h];rfl
      ·rw [A0,if_neg oM,if_pos h,if_neg oM,if_pos h];rfl
      ·rw [A0,if_neg oM,if_neg oM,if_pos h,if_neg oM,if_neg oM];rfl
     ·have hz0:¬(bt s j=40∨bt s j=41∨bt s j=39):=fun h=>‹¬z=true› (hz.2 h)
      have h34:bt s j=34:=‹_›
      have e0:A0 s j=match T0 s j 34 with
       | .error e=>.error e
       | .ok (l,k)=>if 200 < l.length then .error (2,j) else .ok (⟨7,j,s8,E6 l,s8⟩,k):=by
       rw [A0,if_neg oM,if_neg oM,if_neg oM,if_pos h34];rfl
      cases hde:T0 s j 34 with
      | error er =>
       obtain ⟨er,p⟩:=er
       rw [hde] at e0
       rw [en,e0]
       exact Q9 hd ⟨(⟨(s,j),hj.2,by show s.length < 90000;omega⟩,34),.inl rfl,hlt,hsl⟩ (r:=.fl 107 er p) (by show b0y (T0 s j 34)=_;rw [hde];rfl) j4 (RB.bx aS rfl) fun _ hv=>a1p hv (Z3 rfl)
      | ok lj =>
       obtain ⟨l,k⟩:=lj
       rw [hde] at e0
       refine f6 hd ⟨(⟨(s,j),hj.2,by show s.length < 90000;omega⟩,34),.inl rfl,hlt,hsl⟩ (r:=.c (.s (E6 l))) (by show b0y (T0 s j 34)=_;rw [hde];rfl) j4 (RB.bx aS rfl) fun _ _ _ hb3=>?_
       have hb3:RBs [H3 s (c2q j (T0 s j 34))] _:=hb3
       rw [hde] at hb3
       have hb3:RBs [[.s s,.i .i64 (k:Int)]] _:=hb3
       have hll:=a0w l
       (refine Zy ?_;with_reducible repeat' first|intro _|apply aI)
       ·exact fun e=>bad (en.trans (e0.trans (if_pos oM))) (.k (.i _ _) (.k (.q _ _ (by subst e;exact u6.at aS (by rfl))) .nil)) .nil e
       ·exact fun e=>hcc _ _ ⟨⟨7,j,[],E6 l,[]⟩,k,by (exact j4),.k (.opa _ _ _ rfl aS) (.k (.opa _ _ _ rfl aS) (.k (.cells _ _ (by subst e;(exact Zru))) .nil)),e0.trans (if_neg oM)⟩ e
     ·have hz0:¬(bt s j=40∨bt s j=41∨bt s j=39):=fun h=>‹¬z=true› (hz.2 h)
      have h34:¬bt s j=34:=‹_›
      have h124:bt s j=124:=‹_›
      have e0:A0 s j=match T0 s j 124 with
       | .error e=>.error e
       | .ok (l,k)=>if n8 (E6 l) s8 true=0 then .ok (⟨6,j,s8,E6 l,s8⟩,k) else .error (n8 (E6 l) s8 true,j):=by
       rw [A0,if_neg oM,if_neg oM,if_neg oM,if_neg h34,if_pos h124];rfl
      cases hde:T0 s j 124 with
      | error er =>
       obtain ⟨er,p⟩:=er
       rw [hde] at e0
       rw [en,e0]
       exact Q9 hd ⟨(⟨(s,j),hj.2,by show s.length < 90000;omega⟩,124),.inr rfl,hlt,hsl⟩ (r:=.fl 107 er p) (by show b0y (T0 s j 124)=_;rw [hde];rfl) j4 (RB.bx aS rfl) fun _ hv=>a1p hv (Z3 rfl)
      | ok lj =>
       obtain ⟨l,k⟩:=lj
       rw [hde] at e0
       have e0:A0 s j=if n8 (E6 l) [] true=0 then .ok (⟨6,j,[],E6 l,[]⟩,k) else .error (n8 (E6 l) [] true,j):=e0
       refine f6 hd ⟨(⟨(s,j),hj.2,by show s.length < 90000;omega⟩,124),.inr rfl,hlt,hsl⟩ (r:=.c (.s (E6 l))) (by show b0y (T0 s j 124)=_;rw [hde];rfl) j4 (RB.bx aS rfl) fun _ _ _ hb3=>?_
       have hb3:RBs [H3 s (c2q j (T0 s j 124))] _:=hb3
       rw [hde] at hb3
       have hb3:RBs [[.s s,.i .i64 (k:Int)]] _:=hb3
       (refine Zy ?_;intros)
       by_cases h0:n8 (E6 l) [] true=0
       ·rw [if_pos h0] at e0
        refine fun e=>f6 hnm ⟨⟨6,j,[],E6 l,[]⟩,by show 0 < 90000;omega⟩ (r:=.t []) (by show K4 _=_;unfold K4;rw [if_pos h0]) (.k (.ag _ _ (by subst e;(exact Zru))) .nil) .nil (fun _ _ _ _=>?_) e
        (refine Zy ?_;intros)
        exact fun e=>hcc _ _ ⟨_,k,by (exact j4),.k (.opa _ _ _ rfl aS) (.k (.opa _ _ _ rfl aS) (.k (.cells _ _ (by subst e;(exact Zru))) .nil)),e0⟩ e
       ·rw [if_neg h0] at e0
        exact fun e=>badN (t:=⟨6,j,[],E6 l,[]⟩) (by show 0 < 90000;omega) h0 (en.trans e0) (.k (.ag _ _ (by subst e;(exact Zru))) .nil) .nil e
     ·have hz0:¬(bt s j=40∨bt s j=41∨bt s j=39):=fun h=>‹¬z=true› (hz.2 h)
      have h34:¬bt s j=34:=‹_›
      have h124:¬bt s j=124:=‹_›
      refine f6 hc ⟨bt s j,hb0,hb9⟩ (r:=.c (.b (t6 (bt s j)))) rfl j4 .nil fun _ _ _ _=>?_
      (refine Zy ?_;with_reducible repeat' first|intro _|apply aI)
      ·have hcs:t6 (bt s j)=true:=‹_›
       have hwe:=G9 s j oM
       have hwp:=c0y hlt hcs
       have hwl:(H4 s j).length≤s.length:=by unfold H4;simp;omega
       have e0:=d5t (fun h=>hz0 (.inl h)) (fun h=>hz0 (.inr (.inl h))) (fun h=>hz0 (.inr (.inr h))) h34 h124 hcs
       refine f6 hwd ⟨(s,j),hj.2,by show s.length < 90000;omega⟩ (r:=.c (.s (H4 s j))) rfl j4 (RB.bx aS rfl) fun _ _ _ hb3=>?_
       have hb3:RBs [[.s s,.i .i64 ((k9 s j:Nat):Int)]] _:=hb3
       (refine Zy ?_;with_reducible repeat' first|intro _|apply aI)
       cases hw:wdS s j (H4 s j) (k9 s j) with
       | error er =>
        obtain ⟨er,p⟩:=er
        rw [en,e0,hw]
        exact Q9 hwo ⟨(s,j,H4 s j,k9 s j),hwe.2,hsl,hwp,by show (H4 s j).length < 8000;omega⟩ (r:=.fl 107 er p) (by show a3u (wdS s j (H4 s j) (k9 s j))=_;rw [hw];rfl) (.k (.p _ _) (.k (.a _ _ _ rfl aS) (.k (.s _ _ _ rfl rfl) .nil))) (RB.bx aS rfl) fun _ hv=>a1p hv (Z3 rfl)
       | ok tk =>
        obtain ⟨t,k⟩:=tk
        rw [hw] at e0
        refine f6 hwo ⟨(s,j,H4 s j,k9 s j),hwe.2,hsl,hwp,by show (H4 s j).length < 8000;omega⟩ (r:=.a (T8 t)) (by show a3u (wdS s j (H4 s j) (k9 s j))=_;rw [hw];rfl) (.k (.p _ _) (.k (.a _ _ _ rfl aS) (.k (.s _ _ _ rfl rfl) .nil))) (RB.bx aS rfl) fun _ _ _ hb4=>?_
        have hb4:RBs [H3 s (tokB (k9 s j) (wdS s j (H4 s j) (k9 s j)))] _:=hb4
        rw [hw] at hb4
        have hb4:RBs [[.s s,.i .i64 (k:Int)]] _:=hb4
        (refine Zy ?_;intros)
        exact hcc _ _ ⟨t,k,by (exact j4),.k (.opa _ _ _ rfl aS) (.k (.opa _ _ _ rfl aS) (.k (.opa _ _ _ rfl aS) .nil)),e0⟩
      ·have hcs:¬t6 (bt s j)=true:=‹_›
       exact bad (en.trans (by rw [A0,if_neg (fun h=>hz0 (.inl h)),if_neg (fun h=>hz0 (.inr (.inl h))),if_neg (fun h=>hz0 (.inr (.inr h))),if_neg h34,if_neg h124,if_neg hcs])) (.k (.i _ _) (.k (.q _ _ aS) .nil)) .nil
    ·intro c2 hc2
     (refine Zy ?_;with_reducible repeat' first|intro _|apply aI)
     ·exact hc2 _ _ ⟨true,by (exact j4),.k (scB rfl) (.k z5B (.k (.cells _ _ j4) .nil)),by simp;omega⟩
     ·exact hc2 _ _ ⟨true,by (exact j4),.k (scB rfl) (.k z5B (.k (.cells _ _ j4) .nil)),by simp;omega⟩
     ·exact fun e=>hc2 _ _ ⟨decide (bt s j=39),.k (.p _ _) (.k (.p _ _) (.k (.p _ _) (.k (.i _ _) (.k (P9 (by subst e;rw [a5a,decide_eq_decide];omega)) .nil)))),.k (scB rfl) (.k z5B (.k (.cells _ _ j4) .nil)),by rw [decide_eq_true_iff];omega⟩ e
  ·have hlt:¬j < s.length:=fun h=>‹¬decide (j < s.length)=true› (decide_eq_true h)
   rw [if_neg hlt] at en
   rw [en]
   exact g9 ⟨.ret _ _ (.ag _ _ j4),Z3 rfl⟩
theorem c63 {s:f5} {i k:Nat} {t:A6} (h:A0 s i=.ok (t,k)):t.kind ≠ 0:=by
 have fin:∀ {x:A6} {y:Nat},x.kind ≠ 0→(Except.ok (x,y):Except (Int × Nat) (A6 × Nat))=.ok (t,k)→t.kind ≠ 0:=by
  intro x y hx h;injection h with h;injection h with h1 h2;rw [← h1];exact hx
 unfold A0 at h
 repeat' split at h
 all_goals try (cases h;done)
 all_goals try exact fin dE h
 all_goals try exact fin (show ¬(6:Int)=0 by decide) h
 all_goals try exact fin (show ¬(7:Int)=0 by decide) h
 all_goals try exact fin (show ¬(1:Int)=0 by decide) h
 all_goals try exact fin (show ¬(2:Int)=0 by decide) h
 all_goals try exact fin (show ¬(4:Int)=0 by decide) h
 ·unfold J5 at h
  simp only [] at h
  repeat' split at h
  all_goals try (cases h;done)
  all_goals exact fin (show ¬(6:Int)=0 by decide) h
 ·unfold H0 at h
  simp only [] at h
  repeat' split at h
  all_goals try (cases h;done)
  all_goals first | exact fin (show ¬(3:Int)=0 by decide) h | exact fin (show ¬(5:Int)=0 by decide) h | exact fin (show ¬(6:Int)=0 by decide) h
theorem c0w {s:f5} {i:Nat} {acc:List A6} (hi:i≤s.length):y8 s i acc=match J9 s i with
  | .error e=>.error e
  | .ok (t,k)=>if t.kind=0 then .ok (acc ++ [t]) else y8 s k (acc ++ [t]):=by
 rw [a8k hi]
 unfold J9
 cases hs:LQ.skip s i with
 | none=>rfl
 | some j =>
  have hj:=a8i hi hs
  simp only []
  by_cases hlt:j < s.length
  ·rw [if_pos hlt,if_pos hlt]
   cases ht:A0 s j with
   | error e=>rfl
   | ok p=>simp only [];rw [if_neg (c63 (t:=p.1) (k:=p.2) ht)]
  ·rw [if_neg hlt,if_neg hlt]
   simp only []
   rw [if_pos trivial,show j=s.length by omega];rfl
theorem e30 {s:f5} {i k:Nat} {t:A6} (hi:i≤s.length) (h:J9 s i=.ok (t,k)) (h0:t.kind ≠ 0):i < k∧k≤s.length:=by
 unfold J9 at h
 cases hs:LQ.skip s i with
 | none=>rw [hs] at h;cases h
 | some j =>
  have hj:=a8i hi hs
  rw [hs] at h
  simp only [] at h
  by_cases hlt:j < s.length
  ·rw [if_pos hlt] at h;have:=a6s hlt h;omega
  ·rw [if_neg hlt] at h;injection h with h;injection h with h1 h2;rw [← h1] at h0;exact absurd rfl h0
def d2d:Except (Int × Nat) (List A6)→n6
 | .ok T=>.ret (.sl 5 (T.map T8))
 | .error (e,p)=>a1m e p
def c5d:Sp where
 ι:={ s:f5 // s.length < 8000 }
 A s:=[.c (.s s.1)]
 B _:=[]
 R s:=d2d (D5 s.1)
 B' _:=[]
 inj i j vs bs h k _ _:=by
  obtain ⟨_,_,h1,k1,h,k⟩:=h.two k
  rw [F7 h1 k1];exact ⟨rfl,rfl⟩
theorem f50 (hst:j3 179 a1w) (hdl:j3 109 c11) (hcr:j3 132 d10):j3 46 c5d:=k7 (fun fn h=>e92 h) [(45,_),(76,_)] (.cons b5y (.cons (f5x hst hdl hcr) .nil)) fun U fn hfn ⟨s,hsl⟩ vs bs hv hb=>by
 have hf:=hfn 45 _ rfl
 have hn:=hfn 76 _ rfl
 have hsl:s.length < 8000:=hsl
 have hv:j5 [.c (.s s)] vs:=hv
 have hb:RBs [] bs:=hb
 show g7 U _ fun v bs'=>j6 (d2d (D5 s)) v∧RBs [] bs'
 unfold r46
 (refine Zy ?_;intros)
 refine R6 (fun vs bs=>vs=[.str s.length (j9 s)]∧bs=[]∧s.length≤6000) ?_ ?_
 ·rintro _ _ ⟨rfl,rfl,hs6⟩
  (refine Zq ?_;intros)
  have et:D5 s=y8 s 0 []:=by unfold D5;rw [if_neg oM]
  refine E1 (fun (i:Nat) vs bs=>∃ (acc:List A6) (v:V) (b0:Bx),vs=[.ptr 0 0,v]∧bs=[b0,.tok acc.length 5]∧RB (H3 s i) b0∧a0o 1 5 (acc.map T8) v∧i≤s.length∧acc.length≤i∧D5 s=y8 s i acc) (fun i=>s.length - i) 0 ⟨[],_,_,rfl,rfl,scB rfl,.b rfl,Nat.zero_le _,Nat.le_refl _,et⟩ (by simp only [x8];omega) ?_
  rintro self i _ _ ⟨acc,v,b0,rfl,rfl,hb0,htk,hi,ha,he⟩ ih
  have hb0:RB [.s s,.i .i64 (i:Int)] b0:=hb0
  rw [he,c0w hi]
  (refine Zq ?_;with_reducible repeat' first|intro _|apply aI)
  cases hne:J9 s i with
  | error er =>
   obtain ⟨er,p⟩:=er
   exact Q9 hn ⟨(s,i),hi,hsl⟩ (r:=.fl 107 er p) (by show a3u (J9 s i)=_;rw [hne];rfl) j4 (RB.bx aS rfl) fun _ hv=>a1p hv .nil
  | ok tk =>
   obtain ⟨t,k⟩:=tk
   simp only []
   refine f6 hn ⟨(s,i),hi,hsl⟩ (r:=.a (T8 t)) (by show a3u (J9 s i)=_;rw [hne];rfl) j4 (RB.bx aS rfl) fun _ _ hv1 hb1=>?_
   have hb1:RBs [H3 s (tokB i (J9 s i))] _:=hb1
   rw [hne] at hb1
   have hb1:RBs [[.s s,.i .i64 (k:Int)]] _:=hb1
   have hv1:RV (.a [.i .i64 t.kind,.i .i64 (t.pos:Int),.s t.pkg,.s t.text,.s t.den]) _:=hv1
   (refine Zq ?_;intros)
   refine T6 (xs:=acc.map T8) (r:=T8 t) (n:=5) (off:=0) aS (fun _=>a5r (by rw [c9n];decide) aS) (c9n _) (by simp) (by simp;omega) fun _ ht'=>?_
   rw [show acc.map T8 ++ [T8 t]=(acc ++ [t]).map T8 by simp] at ht'
   (refine Zq ?_;with_reducible repeat' first|intro _|apply aI)
   ·rw [if_pos ‹_›]
    exact g9 ⟨.ret _ _ (.sl _ _ _ _ _ (by simp) ht'),.nil⟩
   ·have h0:¬t.kind=0:=‹_›
    rw [if_neg h0]
    have hg:=e30 hi hne h0
    have et2:D5 s=y8 s k (acc ++ [t]):=by rw [he,c0w hi,hne];simp only [];rw [if_neg h0]
    rw [← et2]
    exact ih k _ _ ⟨acc ++ [t],_,_,rfl,by rw [List.length_append];rfl,.opa _ _ _ rfl aS,.a _ _ (by simp) ht',hg.2,by simp;omega,et2⟩ oM
 ·intro c hc
  (refine Zy ?_;with_reducible repeat' first|intro _|apply aI)
  ·have e:D5 s=.error (2,0):=by unfold D5;rw [if_pos oM]
   rw [e]
   exact Q9 hf (2,0) (r:=.fl 107 2 0) rfl j4 .nil fun _ hv=>a1p hv .nil
  ·exact hc _ _ ⟨rfl,rfl,oM⟩
end
end Go.Proofs.YtdldcfllnohkeaaGreatDoor
