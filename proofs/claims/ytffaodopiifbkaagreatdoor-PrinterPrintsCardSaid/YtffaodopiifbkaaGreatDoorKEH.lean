/- The program's reader: the token that begins with a word. -/
import Derived.Test.YtffaodopiifbkaaGreatDoorKEG
set_option linter.all false
namespace Go.Proofs.YtffaodopiifbkaaGreatDoor
open Go.Abs LQ
set_option maxRecDepth 100000
set_option maxHeartbeats 8000000
noncomputable section
def pT0 (i:Nat):A0:=⟨0,i,[],[],[]⟩
def f7y:Sp where
 ι:={ q:f4 × Nat × f4 × Nat // q.2.2.2≤q.1.length∧q.1.length < 8000∧0 < q.2.2.1.length∧q.2.2.1.length < 8000 }
 A q:=[.p 0 0,.a (R8 (pT0 q.1.2.1)),.c (.s q.1.2.2.1)]
 B q:=[G1 q.1.1 q.1.2.2.2]
 R q:=a3f (wdS q.1.1 q.1.2.1 q.1.2.2.1 q.1.2.2.2)
 B' q:=[G1 q.1.1 (tokB q.1.2.2.2 (wdS q.1.1 q.1.2.1 q.1.2.2.1 q.1.2.2.2))]
 inj i j vs bs hv kv h k:=by
  have e1:=a4k (g9.one_inj h k)
  obtain ⟨_,_,_,_,hv,kv⟩:=hv.two kv
  obtain ⟨_,_,h2,k2,hv,kv⟩:=hv.two kv
  obtain ⟨_,_,h3,k3,_,_⟩:=hv.two kv
  have e2:=congrArg A0.pos (c59 (h2.a_inj k2))
  have e2:i.1.2.1=j.1.2.1:=e2
  rw [e1.1,e1.2,e2,F2 h3 k3];exact ⟨rfl,rfl⟩
theorem b23 {t p:f4} (h:0 < t.length):n7 t p true=n7 t p false:=by
 unfold n7
 have:((true=true∧t.length=0)∨(p.length ≠ 0∧m7 p=false))↔((false=true∧t.length=0)∨(p.length ≠ 0∧m7 p=false)):=⟨fun h=>h.elim (fun h=>by omega) .inr,fun h=>h.elim (fun h=>by cases h.1) .inr⟩
 by_cases h1:40 < t.length
 ·rw [if_pos h1,if_pos h1]
 ·rw [if_neg h1,if_neg h1]
  by_cases h2:(true=true∧t.length=0)∨(p.length ≠ 0∧m7 p=false)
  ·rw [if_pos h2,if_pos (this.1 h2)]
  ·rw [if_neg h2,if_neg (fun h=>h2 (this.2 h))]
theorem b88 {s:f4} {i:Nat} (h:i < s.length) (hc:r8 (bt s i)=true):0 < (G3 s i).length:=by
 have h1:=e0h h hc
 have h2:=F3 s (i+1) oM
 unfold G3;simp;omega
theorem d56 (w:f4):(u4 w).1.length≤w.length∧(u4 w).2.length≤max 1 w.length:=by
 unfold u4 G6
 split <;> simp [P5] <;> omega
theorem e2p {s:f4} {i k:Nat} {w:f4} (h:has s k 58 58=true):wdS s i w k=H5 s i w k:=by unfold wdS;rw [if_pos h]
theorem e5h {s:f4} {i k:Nat} {w:f4} (h:¬has s k 58 58=true):wdS s i w k=F7 i w k:=by unfold wdS;rw [if_neg h]
theorem e28 {s p:f4} {i k:Nat} (h:k+2 < s.length):H5 s i p k=if bt s (k+2)=124 then (match G5 s 124 (k+2+1) [] with
  | .error e=>.error e
  | .ok (l,j)=>if n7 (D7 l) p true=0 then .ok (⟨6,i,p,D7 l,q7⟩,j) else .error (n7 (D7 l) p true,i))
 else if r8 (bt s (k+2)) then (if n7 (G3 s (k+2)) p false=0 then .ok (⟨6,i,p,G3 s (k+2),q7⟩,l5 s (k+2)) else .error (n7 (G3 s (k+2)) p false,i))
 else .error (12,k+2):=by rw [H5,if_pos h];rfl
theorem e1q (hst:j5 203 a1e) (hdl:j5 136 c0o):j5 139 f7y:=k8 (fun fn h=>e4v h) [(160,_),(135,_),(51,_),(136,_),(138,_),(140,_),(137,_),(164,_),(165,_),(166,_),(155,_),(167,_)] (.cons b7m (.cons b5a (.cons b6b (.cons hdl (.cons b3e (.cons e1h (.cons (c7u hst) (.cons d76 (.cons d1l (.cons e7o (.cons (c4w hst) (.cons c3h .nil)))))))))))) fun U fn hfn ⟨(s,pos,w,k),hk,hsl,hw0,hwl⟩ vs bs hv hb=>by
 have hs:=hfn 160 _ rfl
 have hm:=hfn 135 _ rfl
 have hf:=hfn 51 _ rfl
 have hd:=hfn 136 _ rfl
 have hc:=hfn 138 _ rfl
 have hwd:=hfn 140 _ rfl
 have hnm:=hfn 137 _ rfl
 have hnu:=hfn 164 _ rfl
 have htr:=hfn 165 _ rfl
 have hpl:=hfn 166 _ rfl
 have hre:=hfn 155 _ rfl
 have hdg:=hfn 167 _ rfl
 have hk:k≤s.length:=hk
 have hsl:s.length < 8000:=hsl
 have hw0:0 < w.length:=hw0
 have hwl:w.length < 8000:=hwl
 have hv:j6 [.p 0 0,.a [.i .i64 0,.i .i64 (pos:Int),.s [],.s [],.s []],.c (.s w)] vs:=hv
 have hb:g9 [[.s s,.i .i64 (k:Int)]] bs:=hb
 show g8 U _ fun v bs'=>j7 (a3f (wdS s pos w k)) v∧g9 [G1 s (tokB k (wdS s pos w k))] bs'
 unfold d8q
 -- a failure
 have bad:∀ {e:Int} {p:Nat} {vs:List V} {bs:List Bx} {K:V→List Bx→Om},wdS s pos w k=.error (e,p)→j6 [.c (.i .i64 e),.c (.i .i64 (p:Int))] vs→g9 [] bs→g8 U (U.bind (fn 51 vs bs) K fun v=>some (.pan (U.rn0 v),[.cells [.str s.length (j9 s),.int .i64 k]])) fun v bs'=>j7 (a3f (wdS s pos w k)) v∧g9 [G1 s (tokB k (wdS s pos w k))] bs':=fun {e p vs bs K} he hv hb=>by
  rw [he]
  exact P7 hf (e,(p:Int)) (r:=.fl 122 e p) rfl hv hb fun _ hv=>a1k hv (Y1 rfl)
 have badN:∀ {t:A0} {vs:List V} {bs:List Bx} {K:V→List Bx→Om},t.pkg.length < 90000→n7 t.text t.pkg true ≠ 0→wdS s pos w k=.error (n7 t.text t.pkg true,t.pos)→j6 [.a (R8 t)] vs→g9 [] bs→g8 U (U.bind (fn 137 vs bs) K fun v=>some (.pan (U.rn0 v),[.cells [.str s.length (j9 s),.int .i64 k]])) fun v bs'=>j7 (a3f (wdS s pos w k)) v∧g9 [G1 s (tokB k (wdS s pos w k))] bs':=fun {t vs bs K} hl h0 he hv hb=>by
  rw [he]
  exact P7 hnm ⟨t,hl⟩ (r:=.fl 122 (n7 t.text t.pkg true) t.pos) (by show I7 t=_;unfold I7;rw [if_neg h0]) hv hb fun _ hv=>a1k hv (Y1 rfl)
 (refine Zq ?_;intros)
 refine f5 hs ⟨⟨(s,k),hk,by show s.length < 90000;omega⟩,k7 2 14906⟩ (r:=.c (.b (has s k 58 58))) (by show n5.ret (.c (.b (Q2 (s.drop k) (k7 2 14906))))=_;rw [f2k,d0x hk];rfl) j4 (Y1 rfl) fun _ _ _ hb1=>?_
 have hb1:g9 [[.s s,.i .i64 (k:Int)]] _:=hb1
 (refine Zy ?_;with_reducible repeat' first|intro _|apply aI)
 ·have hq:has s k 58 58=true:=‹_›
  have hk2:=W6 hq
  have ewd:=e2p (i:=pos) (w:=w) hq
  refine L2 (fun vs bs=>∃ (text:f4) (j:Nat),j6 [.p 1 0,.p 2 0] vs∧g9 [[.s s,.i .i64 (j:Int)],R8 ⟨6,pos,w,text,[]⟩,z5] bs∧j≤s.length∧H5 s pos w k=if n7 text w true=0 then .ok (⟨6,pos,w,text,[]⟩,j) else .error (n7 text w true,pos)) ?_ ?_
  ·rintro vs' bs' ⟨text,j,hv',hb',hj,he⟩
   have hb':g9 [[.s s,.i .i64 (j:Int)],[.i .i64 6,.i .i64 (pos:Int),.s w,.s text,.s []],[.i .i64 0,.i .i64 0,.s [],.s [],.s []]] bs':=hb'
   (refine Zq ?_;intros)
   by_cases h0:n7 text w true=0
   ·rw [if_pos h0] at he
    refine f5 hnm ⟨⟨6,pos,w,text,[]⟩,by show w.length < 90000;omega⟩ (r:=.t []) (by show I7 _=_;unfold I7;rw [if_pos h0]) (.k (.a _ _ _ rfl aS) .nil) .nil fun _ _ _ _=>?_
    (refine Zq ?_;intros)
    rw [ewd,he]
    exact i6 ⟨.ret _ _ (.a _ _ _ rfl aS),RB.bx aS rfl⟩
   ·rw [if_neg h0] at he
    exact badN (t:=⟨6,pos,w,text,[]⟩) (by show w.length < 90000;omega) h0 (ewd.trans he) (.k (.a _ _ _ rfl aS) .nil) .nil
  ·intro c hcc
   (refine Zq ?_;intros)
   refine f5 hm ⟨(s,k+2),by show k+2≤s.length;omega,by show s.length < 90000;omega⟩ (r:=.c (.b (decide (k+2 < s.length)))) rfl j4 (Y1 (show (k:Int)+2=((k+2:Nat):Int) by omega)) fun _ _ _ hb2=>?_
   have hb2:g9 [[.s s,.i .i64 ((k+2:Nat):Int)]] _:=hb2
   (refine Zq ?_;with_reducible repeat' first|intro _|apply aI)
   ·have hlt:k+2 < s.length:=of_decide_eq_true ‹_›
    have hbt:((s.getD (k+2) 0).toNat:Int)=bt s (k+2):=rfl
    have hb0:=a5u s (k+2)
    have hb9:=c0n s (k+2)
    have e0:=e28 (i:=pos) (p:=w) hlt
    (refine Zq ?_;with_reducible repeat' first|intro _|apply aI)
    ·have h124:bt s (k+2)=124:=‹_›
     rw [if_pos h124] at e0
     have hds:S4 s (k+2) 124=G5 s 124 (k+2+1) []:=rfl
     rw [← hds] at e0
     cases hde:S4 s (k+2) 124 with
     | error er =>
      obtain ⟨er,p⟩:=er
      rw [hde] at e0
      rw [ewd,e0]
      exact P7 hd ⟨(⟨(s,k+2),by show k+2≤s.length;omega,by show s.length < 90000;omega⟩,124),.inr rfl,hlt,hsl⟩ (r:=.fl 122 er p) (by show b0l (S4 s (k+2) 124)=_;rw [hde];rfl) j4 (Y1 rfl) fun _ hv=>a1k hv (Y1 rfl)
     | ok lj =>
      obtain ⟨l,j⟩:=lj
      rw [hde] at e0
      have hj:=a7w hde
      refine f5 hd ⟨(⟨(s,k+2),by show k+2≤s.length;omega,by show s.length < 90000;omega⟩,124),.inr rfl,hlt,hsl⟩ (r:=.c (.s (D7 l))) (by show b0l (S4 s (k+2) 124)=_;rw [hde];rfl) j4 (Y1 rfl) fun _ _ _ hb3=>?_
      have hb3:g9 [G1 s (c1j (k+2) (S4 s (k+2) 124))] _:=hb3
      rw [hde] at hb3
      have hb3:g9 [[.s s,.i .i64 (j:Int)]] _:=hb3
      (refine Zq ?_;intros)
      exact fun e=>hcc _ _ ⟨D7 l,j,by (exact j4),.k (scB rfl) (.k (.cells _ _ (by subst e;(exact Zru))) (.k z5B .nil)),hj.2,e0⟩ e
    ·have h124:¬bt s (k+2)=124:=‹_›
     rw [if_neg h124] at e0
     refine f5 hc ⟨bt s (k+2),hb0,hb9⟩ (r:=.c (.b (r8 (bt s (k+2))))) rfl j4 .nil fun _ _ _ _=>?_
     (refine Zq ?_;with_reducible repeat' first|intro _|apply aI)
     ·have hcs:r8 (bt s (k+2))=true:=‹_›
      rw [if_pos hcs] at e0
      have hwe:=F3 s (k+2) oM
      have hwp:=b88 hlt hcs
      refine f5 hwd ⟨(s,k+2),by show k+2≤s.length;omega,by show s.length < 90000;omega⟩ (r:=.c (.s (G3 s (k+2)))) rfl j4 (Y1 rfl) fun _ _ _ hb3=>?_
      have hb3:g9 [[.s s,.i .i64 ((l5 s (k+2):Nat):Int)]] _:=hb3
      (refine Zq ?_;intros)
      refine fun e=>hcc _ _ ⟨G3 s (k+2),l5 s (k+2),by (exact j4),.k (scB rfl) (.k (.cells _ _ (by subst e;(exact Zru))) (.k z5B .nil)),hwe.2,?_⟩ e
      rw [b23 hwp];exact e0
     ·have hcs:¬r8 (bt s (k+2))=true:=‹_›
      rw [if_neg hcs] at e0
      exact bad (ewd.trans e0) j4 .nil
   ·have hlt:¬k+2 < s.length:=fun h=>‹¬decide (k+2 < s.length)=true› (decide_eq_true h)
    exact bad (ewd.trans (by rw [H5,if_neg hlt])) j4 .nil
 ·have hq:¬has s k 58 58=true:=‹_›
  have ewd:=e5h (i:=pos) (w:=w) hq
  obtain ⟨nl1,nl2⟩:=d56 w
  refine f5 hnu ⟨w,by show w.length < 90000;omega⟩ (r:=.t [.c (.s (u4 w).1),.c (.s (u4 w).2),.c (.b (m6 w).2.2)]) rfl j4 .nil fun _ _ _ _=>?_
  (refine Zy ?_;intros)
  refine L2 (fun vs bs=>∃ t:A0,j6 [.p 1 0,.p 2 0] vs∧g9 [[.s s,.i .i64 (k:Int)],R8 t,z5] bs∧F7 pos w k=.ok (t,k)) ?_ ?_
  ·rintro vs' bs' ⟨t,hv',hb',he⟩
   have hb':g9 [[.s s,.i .i64 (k:Int)],[.i .i64 t.kind,.i .i64 (t.pos:Int),.s t.pkg,.s t.text,.s t.den],[.i .i64 0,.i .i64 0,.s [],.s [],.s []]] bs':=hb'
   (refine Zq ?_;intros)
   rw [ewd,he]
   exact i6 ⟨.ret _ _ (.a _ _ _ rfl aS),RB.bx aS rfl⟩
  ·intro c hcc
   (refine Zy ?_;with_reducible repeat' first|intro _|apply aI)
   ·have hdot:w=k7 1 46:=‹_›
    refine fun e=>hcc _ _ ⟨⟨3,pos,[],[],[]⟩,by (exact j4),.k (scB rfl) (.k (.cells _ _ (by subst e;(exact Zru))) (.k z5B .nil)),?_⟩ e
    rw [F7,if_pos (by rw [hdot];rfl)];rfl
   ·have hdot:¬w=[46]:=‹_›
    refine L2 (fun vs bs=>∃ z:Bool,j6 [.c (.s w),.p 1 0,.p 2 0,.c (.s (u4 w).1),.c (.s (u4 w).2),.c (.b (m6 w).2.2),.c (.b z)] vs∧g9 [[.s s,.i .i64 (k:Int)],R8 (pT0 pos),z5] bs∧(z=true↔(m6 w).2.2=true∧Lib.trimS (u4 w).2 [48]=[])) ?_ ?_
    ·rintro vs' bs' ⟨z,hv',hb',hz⟩
     have hb':g9 [[.s s,.i .i64 (k:Int)],[.i .i64 0,.i .i64 (pos:Int),.s [],.s [],.s []],[.i .i64 0,.i .i64 0,.s [],.s [],.s []]] bs':=hb'
     (refine Zy ?_;with_reducible repeat' first|intro _|apply aI)
     ·obtain ⟨z1,z2⟩:=hz.1 ‹_›
      obtain ⟨c1,c2,c3⟩:=a69 z1
      exact bad (ewd.trans (by rw [F7,if_neg hdot,if_pos z1,if_pos (by rw [c2];exact (b6j c3).1 z2)])) (.k (.i _ _) (.k (.q _ _ aS) .nil)) .nil
     ·have z1:(m6 w).2.2=true:=‹_›
      have z0:¬z=true:=‹_›
      obtain ⟨c1,c2,c3⟩:=a69 z1
      have e9:F7 pos w k=if 100 < A5 (n9 (plain (u4 w).1) (plain (u4 w).2)).1∨100 < A5 (n9 (plain (u4 w).1) (plain (u4 w).2)).2 then .error (2,pos) else .ok (⟨5,pos,[],(n9 (plain (u4 w).1) (plain (u4 w).2)).1,(n9 (plain (u4 w).1) (plain (u4 w).2)).2⟩,k):=by
       rw [F7,if_neg hdot,if_pos z1,c1,c2,if_neg (fun h=>z0 (hz.2 ⟨z1,(b6j c3).2 h⟩))];rfl
      have p1:=a5t (u4 w).1
      have p2:=a5t (u4 w).2
      refine f5 hpl ⟨(u4 w).1,oM⟩ (r:=.c (.s (plain (u4 w).1))) rfl j4 .nil fun _ _ _ _=>?_
      (refine Zy ?_;intros)
      refine f5 hpl ⟨(u4 w).2,oM⟩ (r:=.c (.s (plain (u4 w).2))) rfl j4 .nil fun _ _ _ _=>?_
      (refine Zy ?_;intros)
      obtain ⟨rn,rd,er,_,_,l1,l2⟩:=a92 (plain (u4 w).1) (plain (u4 w).2)
      have l3:(f8 rn).length≤1+(f7 rn.natAbs).length:=by
       rw [a1l,List.length_append]
       have:(LQ.sgn rn).length≤1:=by unfold LQ.sgn;split <;> simp
       omega
      rw [er] at e9
      simp only [] at e9
      rw [a09,a09] at e9
      refine f5 hre ⟨(plain (u4 w).1,plain (u4 w).2),by show (plain (u4 w).1).length < 8000;omega,by show (plain (u4 w).2).length < 8000;omega⟩ (r:=.t [.c (.s (f8 rn)),.c (.s (f7 rd))]) (by show n5.ret (.t [.c (.s (n9 (plain (u4 w).1) (plain (u4 w).2)).1),.c (.s (n9 (plain (u4 w).1) (plain (u4 w).2)).2)])=_;rw [er]) j4 .nil fun _ _ _ _=>?_
      (refine Zy ?_;intros)
      refine L2 (fun vs bs=>∃ y:Bool,j6 [.p 1 0,.p 2 0,.c (.b y)] vs∧g9 [[.s s,.i .i64 (k:Int)],R8 ⟨5,pos,[],f8 rn,f7 rd⟩,z5] bs∧(y=true↔100 < R6 (f8 rn)∨100 < R6 (f7 rd))) ?_ ?_
      ·rintro vs' bs' ⟨y,hv',hb',hy⟩
       have hb':g9 [[.s s,.i .i64 (k:Int)],[.i .i64 5,.i .i64 (pos:Int),.s [],.s (f8 rn),.s (f7 rd)],[.i .i64 0,.i .i64 0,.s [],.s [],.s []]] bs':=hb'
       (refine Zq ?_;with_reducible repeat' first|intro _|apply aI)
       ·rw [if_pos (hy.1 ‹_›)] at e9
        exact bad (ewd.trans e9) (.k (.i _ _) (.k (.q _ _ aS) .nil)) .nil
       ·rw [if_neg (fun h=>‹¬y=true› (hy.2 h))] at e9
        exact hcc _ _ ⟨_,by (exact j4),.k (.opa _ _ _ rfl aS) (.k (.opa _ _ _ rfl aS) (.k (.opa _ _ _ rfl aS) .nil)),e9⟩
      ·intro c2 hc2
       refine f5 hdg ⟨f8 rn,oM⟩ (r:=.c (.i .i64 (R6 (f8 rn):Nat))) rfl j4 .nil fun _ _ _ _=>?_
       (refine Zq ?_;with_reducible repeat' first|intro _|apply aI)
       ·exact fun e=>hc2 _ _ ⟨true,by (exact j4),.k (.opa _ _ _ rfl aS) (.k (.cells _ _ (by subst e;(exact Zru))) (.k (.opa _ _ _ rfl aS) .nil)),by simp;omega⟩ e
       ·refine f5 hdg ⟨f7 rd,oM⟩ (r:=.c (.i .i64 (R6 (f7 rd):Nat))) rfl j4 .nil fun _ _ _ _=>?_
        (refine Zq ?_;intros)
        exact fun e=>hc2 _ _ ⟨decide (100 < R6 (f7 rd)),.k (.p _ _) (.k (.p _ _) (.k (K9 (by subst e;rw [b0w,decide_eq_decide];omega)) .nil)),.k (.opa _ _ _ rfl aS) (.k (.cells _ _ (by subst e;(exact Zru))) (.k (.opa _ _ _ rfl aS) .nil)),decide_eq_true_iff.trans ⟨fun h=>.inr h,fun h=>h.resolve_left (fun h=>‹¬100 < ((R6 (f8 rn):Nat):Int)› oM)⟩⟩ e
     ·have z1:¬(m6 w).2.2=true:=‹_›
      have e9:F7 pos w k=if n7 w [] false=0 then .ok (⟨6,pos,[],w,[]⟩,k) else .error (n7 w [] false,pos):=by
       rw [F7,if_neg hdot,if_neg z1];rfl
      rw [← b23 hw0] at e9
      by_cases h0:n7 w [] true=0
      ·rw [if_pos h0] at e9
       refine fun e=>f5 hnm ⟨⟨6,pos,[],w,[]⟩,by show 0 < 90000;omega⟩ (r:=.t []) (by show I7 _=_;unfold I7;rw [if_pos h0]) (.k (.ag _ _ (by subst e;(exact Zru))) .nil) .nil (fun _ _ _ _=>?_) e
       (refine Zq ?_;intros)
       exact fun e=>hcc _ _ ⟨_,by (exact j4),.k (.opa _ _ _ rfl aS) (.k (.cells _ _ (by subst e;(exact Zru))) (.k (.opa _ _ _ rfl aS) .nil)),e9⟩ e
      ·rw [if_neg h0] at e9
       exact fun e=>badN (t:=⟨6,pos,[],w,[]⟩) (by show 0 < 90000;omega) h0 (ewd.trans e9) (.k (.ag _ _ (by subst e;(exact Zru))) .nil) .nil e
    ·intro c2 hc2
     (refine Zy ?_;with_reducible repeat' first|intro _|apply aI)
     ·have z1:(m6 w).2.2=true:=‹_›
      refine f5 htr ⟨((u4 w).2,[48]),by show (u4 w).2.length < 4294967281;omega,by show 1 < 4294967281;omega,by simp⟩ (r:=.c (.s (Lib.trimS (u4 w).2 [48]))) rfl j4 .nil fun _ _ _ _=>?_
      (refine Zy ?_;intros)
      exact fun e=>hc2 _ _ ⟨decide (Lib.trimS (u4 w).2 [48]=[]),.k (.s _ _ _ rfl rfl) (.k (.p _ _) (.k (.p _ _) (.k (.s _ _ _ rfl rfl) (.k (.s _ _ _ rfl rfl) (.k (.b _) (.k (K9 (by subst e;rw [b0j];rfl)) .nil)))))),.k (scB rfl) (.k (.opa _ _ _ rfl aS) (.k z5B .nil)),by simp [z1]⟩ e
     ·have z1:¬(m6 w).2.2=true:=‹_›
      exact hc2 _ _ ⟨false,by (exact j4),.k (scB rfl) (.k (.opa _ _ _ rfl aS) (.k z5B .nil)),by simp [z1]⟩
end
end Go.Proofs.YtffaodopiifbkaaGreatDoor
namespace Go.Abs
theorem f7d {U:q8} {P:H6→List Bx→Prop} {b x:Int} {K:Int→Om} (hb:U=CU→b=x) (h:g8 U (K x) P):g8 U (U.fI b K) P:=fun e=>by
 have:=h e;rw [← hb e] at this;subst e;rw [U7];exact this
theorem d4b (c:Bool) (a b:Int):CU.isel c a b=cond c a b:=by cases c <;> rfl
end Go.Abs
namespace Go.Proofs.YtffaodopiifbkaaGreatDoor
open Go.Abs LQ
set_option maxRecDepth 100000
set_option maxHeartbeats 8000000
noncomputable section
def H9 (s:f4) (i:Nat):Except (Int × Nat) (A0 × Nat):=match LQ.skip s i with
 | none=>.error (11,s.length)
 | some j=>if j < s.length then y7 s j else .ok (⟨0,j,[],[],[]⟩,j)
def f6l:Sp where
 ι:={ p:f4 × Nat // p.2≤p.1.length∧p.1.length < 8000 }
 A _:=[.p 0 0]
 B p:=[G1 p.1.1 p.1.2]
 R p:=a3f (H9 p.1.1 p.1.2)
 B' p:=[G1 p.1.1 (tokB p.1.2 (H9 p.1.1 p.1.2))]
 inj i j vs bs _ _ h k:=by
  have:=a4k (g9.one_inj h k)
  rw [this.1,this.2];exact ⟨rfl,rfl⟩
theorem d10 {s:f4} {j:Nat} (h1:bt s j ≠ 40) (h2:bt s j ≠ 41) (h3:bt s j ≠ 39) (h4:bt s j ≠ 34) (h5:bt s j ≠ 124) (hc:r8 (bt s j)=true):y7 s j=wdS s j (G3 s j) (l5 s j):=by
 rw [y7,if_neg h1,if_neg h2,if_neg h3,if_neg h4,if_neg h5,if_pos hc];rfl
theorem f3n (hst:j5 203 a1e) (hdl:j5 136 c0o) (hcr:j5 158 c9c):j5 93 f6l:=k8 (fun fn h=>e82 h) [(134,_),(135,_),(51,_),(136,_),(138,_),(140,_),(137,_),(139,_)] (.cons (f50 hcr) (.cons b5a (.cons b6b (.cons hdl (.cons b3e (.cons e1h (.cons (c7u hst) (.cons (e1q hst hdl) .nil)))))))) fun U fn hfn ⟨(s,i),hi,hsl⟩ vs bs hv hb=>by
 have hs:=hfn 134 _ rfl
 have hm:=hfn 135 _ rfl
 have hf:=hfn 51 _ rfl
 have hd:=hfn 136 _ rfl
 have hc:=hfn 138 _ rfl
 have hwd:=hfn 140 _ rfl
 have hnm:=hfn 137 _ rfl
 have hwo:=hfn 139 _ rfl
 have hi:i≤s.length:=hi
 have hsl:s.length < 8000:=hsl
 have hv:j6 [.p 0 0] vs:=hv
 have hb:g9 [[.s s,.i .i64 (i:Int)]] bs:=hb
 show g8 U _ fun v bs'=>j7 (a3f (H9 s i)) v∧g9 [G1 s (tokB i (H9 s i))] bs'
 unfold r93
 have bad:∀ {e:Int} {p:Nat} {vs:List V} {bs:List Bx} {K:V→List Bx→Om},H9 s i=.error (e,p)→j6 [.c (.i .i64 e),.c (.i .i64 (p:Int))] vs→g9 [] bs→g8 U (U.bind (fn 51 vs bs) K fun v=>some (.pan (U.rn0 v),[.cells [.str s.length (j9 s),.int .i64 i]])) fun v bs'=>j7 (a3f (H9 s i)) v∧g9 [G1 s (tokB i (H9 s i))] bs':=fun {e p vs bs K} he hv hb=>by
  rw [he]
  exact P7 hf (e,(p:Int)) (r:=.fl 122 e p) rfl hv hb fun _ hv=>a1k hv (Y1 rfl)
 have badN:∀ {t:A0} {vs:List V} {bs:List Bx} {K:V→List Bx→Om},t.pkg.length < 90000→n7 t.text t.pkg true ≠ 0→H9 s i=.error (n7 t.text t.pkg true,t.pos)→j6 [.a (R8 t)] vs→g9 [] bs→g8 U (U.bind (fn 137 vs bs) K fun v=>some (.pan (U.rn0 v),[.cells [.str s.length (j9 s),.int .i64 i]])) fun v bs'=>j7 (a3f (H9 s i)) v∧g9 [G1 s (tokB i (H9 s i))] bs':=fun {t vs bs K} hl h0 he hv hb=>by
  rw [he]
  exact P7 hnm ⟨t,hl⟩ (r:=.fl 122 (n7 t.text t.pkg true) t.pos) (by show I7 t=_;unfold I7;rw [if_neg h0]) hv hb fun _ hv=>a1k hv (Y1 rfl)
 (refine Zq ?_;with_reducible repeat' first|intro _|apply aI)
 cases hsk:LQ.skip s i with
 | none =>
  have en:H9 s i=.error (11,s.length):=by unfold H9;rw [hsk]
  rw [en]
  exact P7 hs ⟨(s,i),hi,by show s.length < 90000;omega⟩ (r:=.fl 122 11 s.length) (by show a01 s i=_;unfold a01;rw [hsk]) j4 (Y1 rfl) fun _ hv=>a1k hv (Y1 rfl)
 | some j =>
  have hj:=a7b hi hsk
  have en:H9 s i=if j < s.length then y7 s j else .ok (⟨0,j,[],[],[]⟩,j):=by unfold H9;rw [hsk]
  refine f5 hs ⟨(s,i),hi,by show s.length < 90000;omega⟩ (r:=.t []) (by show a01 s i=_;unfold a01;rw [hsk]) j4 (Y1 rfl) fun _ _ _ hb1=>?_
  have eb:a2f s i=j:=by unfold a2f;rw [hsk];rfl
  have hb1:g9 [G1 s (a2f s i)] _:=hb1
  rw [eb] at hb1
  have hb1:g9 [[.s s,.i .i64 (j:Int)]] _:=hb1
  (refine Zq ?_;intros)
  refine f5 hm ⟨(s,j),hj.2,by show s.length < 90000;omega⟩ (r:=.c (.b (decide (j < s.length)))) rfl j4 (Y1 rfl) fun _ _ _ hb2=>?_
  have hb2:g9 [[.s s,.i .i64 (j:Int)]] _:=hb2
  (refine Zy ?_;with_reducible repeat' first|intro _|apply aI)
  ·have hlt:j < s.length:=of_decide_eq_true ‹_›
   rw [if_pos hlt] at en
   have hbt:((s.getD j 0).toNat:Int)=bt s j:=rfl
   have hb0:=a5u s j
   have hb9:=c0n s j
   refine L2 (fun vs bs=>∃ (t:A0) (k:Nat),j6 [.p 1 0,.p 2 0] vs∧g9 [[.s s,.i .i64 (k:Int)],z5,R8 t] bs∧y7 s j=.ok (t,k)) ?_ ?_
   ·rintro vs' bs' ⟨t,k,hv',hb',he⟩
    have hb':g9 [[.s s,.i .i64 (k:Int)],[.i .i64 0,.i .i64 0,.s [],.s [],.s []],[.i .i64 t.kind,.i .i64 (t.pos:Int),.s t.pkg,.s t.text,.s t.den]] bs':=hb'
    (refine Zq ?_;intros)
    rw [en,he]
    exact i6 ⟨.ret _ _ (.a _ _ _ rfl aS),RB.bx aS rfl⟩
   ·intro c hcc
    (refine Zy ?_;intros)
    refine L2 (fun vs bs=>∃ z:Bool,j6 [.p 0 0,.p 1 0,.p 2 0,.c (.i .u8 (bt s j)),.c (.b z)] vs∧g9 [[.s s,.i .i64 (j:Int)],z5,R8 (pT0 j)] bs∧(z=true↔bt s j=40∨bt s j=41∨bt s j=39)) ?_ ?_
    ·rintro vs' bs' ⟨z,hv',hb',hz⟩
     have hb':g9 [[.s s,.i .i64 (j:Int)],[.i .i64 0,.i .i64 0,.s [],.s [],.s []],[.i .i64 0,.i .i64 (j:Int),.s [],.s [],.s []]] bs':=hb'
     (refine Zy ?_;with_reducible repeat' first|intro _|apply aI)
     ·have hz1:=hz.1 ‹_›
      refine d9u (p:=¬(¬bt s j=40∧¬bt s j=41∧¬bt s j=39)) (by (repeat' (first | exact trT | exact trF | apply a3l | apply a4b | exact a33 | exact a3o | exact a3e | exact a49 | exact a5c | exact a06 | exact a07 | exact a08 | exact a03 | exact Z7 | exact a4c | exact a8k | exact a6x | exact trS | exact trV))) oM ?_
      refine f7d (x:=if bt s j=40 then 1 else if bt s j=41 then 2 else 4) (fun e=>by
       subst e
       rw [d4b,d4b,a0c,a0c]
       by_cases h1:bt s j=40
       ·simp [h1]
       ·by_cases h2:bt s j=41 <;> simp [h1,h2]) ?_
      (refine Zy ?_;intros)
      refine fun e=>hcc _ _ ⟨⟨if bt s j=40 then 1 else if bt s j=41 then 2 else 4,j,[],[],[]⟩,j+1,by (exact j4),.k (.cells _ _ (by subst e;(exact Zru))) (.k (.opa _ _ _ rfl aS) (.k (.cells _ _ (by subst e;(exact Zru))) .nil)),?_⟩ e
      rcases hz1 with h | h | h
      ·rw [y7,if_pos h,if_pos h];rfl
      ·rw [y7,if_neg oM,if_pos h,if_neg oM,if_pos h];rfl
      ·rw [y7,if_neg oM,if_neg oM,if_pos h,if_neg oM,if_neg oM];rfl
     ·have hz0:¬(bt s j=40∨bt s j=41∨bt s j=39):=fun h=>‹¬z=true› (hz.2 h)
      have h34:bt s j=34:=‹_›
      have e0:y7 s j=match S4 s j 34 with
       | .error e=>.error e
       | .ok (l,k)=>if 200 < l.length then .error (2,j) else .ok (⟨7,j,q7,D7 l,q7⟩,k):=by
       rw [y7,if_neg oM,if_neg oM,if_neg oM,if_pos h34];rfl
      cases hde:S4 s j 34 with
      | error er =>
       obtain ⟨er,p⟩:=er
       rw [hde] at e0
       rw [en,e0]
       exact P7 hd ⟨(⟨(s,j),hj.2,by show s.length < 90000;omega⟩,34),.inl rfl,hlt,hsl⟩ (r:=.fl 122 er p) (by show b0l (S4 s j 34)=_;rw [hde];rfl) j4 (RB.bx aS rfl) fun _ hv=>a1k hv (Y1 rfl)
      | ok lj =>
       obtain ⟨l,k⟩:=lj
       rw [hde] at e0
       refine f5 hd ⟨(⟨(s,j),hj.2,by show s.length < 90000;omega⟩,34),.inl rfl,hlt,hsl⟩ (r:=.c (.s (D7 l))) (by show b0l (S4 s j 34)=_;rw [hde];rfl) j4 (RB.bx aS rfl) fun _ _ _ hb3=>?_
       have hb3:g9 [G1 s (c1j j (S4 s j 34))] _:=hb3
       rw [hde] at hb3
       have hb3:g9 [[.s s,.i .i64 (k:Int)]] _:=hb3
       have hll:=a0d l
       (refine Zy ?_;with_reducible repeat' first|intro _|apply aI)
       ·exact fun e=>bad (en.trans (e0.trans (if_pos oM))) (.k (.i _ _) (.k (.q _ _ (by subst e;exact u1.at aS (by rfl))) .nil)) .nil e
       ·exact fun e=>hcc _ _ ⟨⟨7,j,[],D7 l,[]⟩,k,by (exact j4),.k (.opa _ _ _ rfl aS) (.k (.opa _ _ _ rfl aS) (.k (.cells _ _ (by subst e;(exact Zru))) .nil)),e0.trans (if_neg oM)⟩ e
     ·have hz0:¬(bt s j=40∨bt s j=41∨bt s j=39):=fun h=>‹¬z=true› (hz.2 h)
      have h34:¬bt s j=34:=‹_›
      have h124:bt s j=124:=‹_›
      have e0:y7 s j=match S4 s j 124 with
       | .error e=>.error e
       | .ok (l,k)=>if n7 (D7 l) q7 true=0 then .ok (⟨6,j,q7,D7 l,q7⟩,k) else .error (n7 (D7 l) q7 true,j):=by
       rw [y7,if_neg oM,if_neg oM,if_neg oM,if_neg h34,if_pos h124];rfl
      cases hde:S4 s j 124 with
      | error er =>
       obtain ⟨er,p⟩:=er
       rw [hde] at e0
       rw [en,e0]
       exact P7 hd ⟨(⟨(s,j),hj.2,by show s.length < 90000;omega⟩,124),.inr rfl,hlt,hsl⟩ (r:=.fl 122 er p) (by show b0l (S4 s j 124)=_;rw [hde];rfl) j4 (RB.bx aS rfl) fun _ hv=>a1k hv (Y1 rfl)
      | ok lj =>
       obtain ⟨l,k⟩:=lj
       rw [hde] at e0
       have e0:y7 s j=if n7 (D7 l) [] true=0 then .ok (⟨6,j,[],D7 l,[]⟩,k) else .error (n7 (D7 l) [] true,j):=e0
       refine f5 hd ⟨(⟨(s,j),hj.2,by show s.length < 90000;omega⟩,124),.inr rfl,hlt,hsl⟩ (r:=.c (.s (D7 l))) (by show b0l (S4 s j 124)=_;rw [hde];rfl) j4 (RB.bx aS rfl) fun _ _ _ hb3=>?_
       have hb3:g9 [G1 s (c1j j (S4 s j 124))] _:=hb3
       rw [hde] at hb3
       have hb3:g9 [[.s s,.i .i64 (k:Int)]] _:=hb3
       (refine Zy ?_;intros)
       by_cases h0:n7 (D7 l) [] true=0
       ·rw [if_pos h0] at e0
        refine fun e=>f5 hnm ⟨⟨6,j,[],D7 l,[]⟩,by show 0 < 90000;omega⟩ (r:=.t []) (by show I7 _=_;unfold I7;rw [if_pos h0]) (.k (.ag _ _ (by subst e;(exact Zru))) .nil) .nil (fun _ _ _ _=>?_) e
        (refine Zy ?_;intros)
        exact fun e=>hcc _ _ ⟨_,k,by (exact j4),.k (.opa _ _ _ rfl aS) (.k (.opa _ _ _ rfl aS) (.k (.cells _ _ (by subst e;(exact Zru))) .nil)),e0⟩ e
       ·rw [if_neg h0] at e0
        exact fun e=>badN (t:=⟨6,j,[],D7 l,[]⟩) (by show 0 < 90000;omega) h0 (en.trans e0) (.k (.ag _ _ (by subst e;(exact Zru))) .nil) .nil e
     ·have hz0:¬(bt s j=40∨bt s j=41∨bt s j=39):=fun h=>‹¬z=true› (hz.2 h)
      have h34:¬bt s j=34:=‹_›
      have h124:¬bt s j=124:=‹_›
      refine f5 hc ⟨bt s j,hb0,hb9⟩ (r:=.c (.b (r8 (bt s j)))) rfl j4 .nil fun _ _ _ _=>?_
      (refine Zy ?_;with_reducible repeat' first|intro _|apply aI)
      ·have hcs:r8 (bt s j)=true:=‹_›
       have hwe:=F3 s j oM
       have hwp:=b88 hlt hcs
       have hwl:(G3 s j).length≤s.length:=by unfold G3;simp;omega
       have e0:=d10 (fun h=>hz0 (.inl h)) (fun h=>hz0 (.inr (.inl h))) (fun h=>hz0 (.inr (.inr h))) h34 h124 hcs
       refine f5 hwd ⟨(s,j),hj.2,by show s.length < 90000;omega⟩ (r:=.c (.s (G3 s j))) rfl j4 (RB.bx aS rfl) fun _ _ _ hb3=>?_
       have hb3:g9 [[.s s,.i .i64 ((l5 s j:Nat):Int)]] _:=hb3
       (refine Zy ?_;with_reducible repeat' first|intro _|apply aI)
       cases hw:wdS s j (G3 s j) (l5 s j) with
       | error er =>
        obtain ⟨er,p⟩:=er
        rw [en,e0,hw]
        exact P7 hwo ⟨(s,j,G3 s j,l5 s j),hwe.2,hsl,hwp,by show (G3 s j).length < 8000;omega⟩ (r:=.fl 122 er p) (by show a3f (wdS s j (G3 s j) (l5 s j))=_;rw [hw];rfl) (.k (.p _ _) (.k (.a _ _ _ rfl aS) (.k (.s _ _ _ rfl rfl) .nil))) (RB.bx aS rfl) fun _ hv=>a1k hv (Y1 rfl)
       | ok tk =>
        obtain ⟨t,k⟩:=tk
        rw [hw] at e0
        refine f5 hwo ⟨(s,j,G3 s j,l5 s j),hwe.2,hsl,hwp,by show (G3 s j).length < 8000;omega⟩ (r:=.a (R8 t)) (by show a3f (wdS s j (G3 s j) (l5 s j))=_;rw [hw];rfl) (.k (.p _ _) (.k (.a _ _ _ rfl aS) (.k (.s _ _ _ rfl rfl) .nil))) (RB.bx aS rfl) fun _ _ _ hb4=>?_
        have hb4:g9 [G1 s (tokB (l5 s j) (wdS s j (G3 s j) (l5 s j)))] _:=hb4
        rw [hw] at hb4
        have hb4:g9 [[.s s,.i .i64 (k:Int)]] _:=hb4
        (refine Zy ?_;intros)
        exact hcc _ _ ⟨t,k,by (exact j4),.k (.opa _ _ _ rfl aS) (.k (.opa _ _ _ rfl aS) (.k (.opa _ _ _ rfl aS) .nil)),e0⟩
      ·have hcs:¬r8 (bt s j)=true:=‹_›
       exact bad (en.trans (by rw [y7,if_neg (fun h=>hz0 (.inl h)),if_neg (fun h=>hz0 (.inr (.inl h))),if_neg (fun h=>hz0 (.inr (.inr h))),if_neg h34,if_neg h124,if_neg hcs])) (.k (.i _ _) (.k (.q _ _ aS) .nil)) .nil
    ·intro c2 hc2
     (refine Zy ?_;with_reducible repeat' first|intro _|apply aI)
     ·exact hc2 _ _ ⟨true,by (exact j4),.k (scB rfl) (.k z5B (.k (.cells _ _ j4) .nil)),by simp;omega⟩
     ·exact hc2 _ _ ⟨true,by (exact j4),.k (scB rfl) (.k z5B (.k (.cells _ _ j4) .nil)),by simp;omega⟩
     ·exact fun e=>hc2 _ _ ⟨decide (bt s j=39),.k (.p _ _) (.k (.p _ _) (.k (.p _ _) (.k (.i _ _) (.k (K9 (by subst e;rw [a0c,decide_eq_decide];omega)) .nil)))),.k (scB rfl) (.k z5B (.k (.cells _ _ j4) .nil)),by rw [decide_eq_true_iff];omega⟩ e
  ·have hlt:¬j < s.length:=fun h=>‹¬decide (j < s.length)=true› (decide_eq_true h)
   rw [if_neg hlt] at en
   rw [en]
   exact i6 ⟨.ret _ _ (.ag _ _ j4),Y1 rfl⟩
theorem c5t {s:f4} {i k:Nat} {t:A0} (h:y7 s i=.ok (t,k)):t.kind ≠ 0:=by
 have fin:∀ {x:A0} {y:Nat},x.kind ≠ 0→(Except.ok (x,y):Except (Int × Nat) (A0 × Nat))=.ok (t,k)→t.kind ≠ 0:=by
  intro x y hx h;injection h with h;injection h with h1 h2;rw [← h1];exact hx
 unfold y7 at h
 repeat' split at h
 all_goals try (cases h;done)
 all_goals try exact fin dE h
 all_goals try exact fin (show ¬(6:Int)=0 by decide) h
 all_goals try exact fin (show ¬(7:Int)=0 by decide) h
 all_goals try exact fin (show ¬(1:Int)=0 by decide) h
 all_goals try exact fin (show ¬(2:Int)=0 by decide) h
 all_goals try exact fin (show ¬(4:Int)=0 by decide) h
 ·unfold H5 at h
  simp only [] at h
  repeat' split at h
  all_goals try (cases h;done)
  all_goals exact fin (show ¬(6:Int)=0 by decide) h
 ·unfold F7 at h
  simp only [] at h
  repeat' split at h
  all_goals try (cases h;done)
  all_goals first | exact fin (show ¬(3:Int)=0 by decide) h | exact fin (show ¬(5:Int)=0 by decide) h | exact fin (show ¬(6:Int)=0 by decide) h
theorem b83 {s:f4} {i:Nat} {acc:List A0} (hi:i≤s.length):x4 s i acc=match H9 s i with
  | .error e=>.error e
  | .ok (t,k)=>if t.kind=0 then .ok (acc ++ [t]) else x4 s k (acc ++ [t]):=by
 rw [a7v hi]
 unfold H9
 cases hs:LQ.skip s i with
 | none=>rfl
 | some j =>
  have hj:=a7b hi hs
  simp only []
  by_cases hlt:j < s.length
  ·rw [if_pos hlt,if_pos hlt]
   cases ht:y7 s j with
   | error e=>rfl
   | ok p=>simp only [];rw [if_neg (c5t (t:=p.1) (k:=p.2) ht)]
  ·rw [if_neg hlt,if_neg hlt]
   simp only []
   rw [if_pos trivial,show j=s.length by omega];rfl
theorem e2q {s:f4} {i k:Nat} {t:A0} (hi:i≤s.length) (h:H9 s i=.ok (t,k)) (h0:t.kind ≠ 0):i < k∧k≤s.length:=by
 unfold H9 at h
 cases hs:LQ.skip s i with
 | none=>rw [hs] at h;cases h
 | some j =>
  have hj:=a7b hi hs
  rw [hs] at h
  simp only [] at h
  by_cases hlt:j < s.length
  ·rw [if_pos hlt] at h;have:=a5w hlt h;omega
  ·rw [if_neg hlt] at h;injection h with h;injection h with h1 h2;rw [← h1] at h0;exact absurd rfl h0
def d0b:Except (Int × Nat) (List A0)→n5
 | .ok T=>.ret (.sl 5 (T.map R8))
 | .error (e,p)=>a1c e p
def c2f:Sp where
 ι:={ s:f4 // s.length < 8000 }
 A s:=[.c (.s s.1)]
 B _:=[]
 R s:=d0b (C6 s.1)
 B' _:=[]
 inj i j vs bs h k _ _:=by
  obtain ⟨_,_,h1,k1,h,k⟩:=h.two k
  rw [F2 h1 k1];exact ⟨rfl,rfl⟩
theorem f5n (hst:j5 203 a1e) (hdl:j5 136 c0o) (hcr:j5 158 c9c):j5 55 c2f:=k8 (fun fn h=>f0e h) [(51,_),(93,_)] (.cons b6b (.cons (f3n hst hdl hcr) .nil)) fun U fn hfn ⟨s,hsl⟩ vs bs hv hb=>by
 have hf:=hfn 51 _ rfl
 have hn:=hfn 93 _ rfl
 have hsl:s.length < 8000:=hsl
 have hv:j6 [.c (.s s)] vs:=hv
 have hb:g9 [] bs:=hb
 show g8 U _ fun v bs'=>j7 (d0b (C6 s)) v∧g9 [] bs'
 unfold r55
 (refine Zy ?_;intros)
 refine L2 (fun vs bs=>vs=[.str s.length (j9 s)]∧bs=[]∧s.length≤6000) ?_ ?_
 ·rintro _ _ ⟨rfl,rfl,hs6⟩
  (refine Zq ?_;intros)
  have et:C6 s=x4 s 0 []:=by unfold C6;rw [if_neg oM]
  refine D3 (fun (i:Nat) vs bs=>∃ (acc:List A0) (v:V) (b0:Bx),vs=[.ptr 0 0,v]∧bs=[b0,.tok acc.length 5]∧RB (G1 s i) b0∧a0m 1 5 (acc.map R8) v∧i≤s.length∧acc.length≤i∧C6 s=x4 s i acc) (fun i=>s.length - i) 0 ⟨[],_,_,rfl,rfl,scB rfl,.b rfl,Nat.zero_le _,Nat.le_refl _,et⟩ (by simp only [v8];omega) ?_
  rintro self i _ _ ⟨acc,v,b0,rfl,rfl,hb0,htk,hi,ha,he⟩ ih
  have hb0:RB [.s s,.i .i64 (i:Int)] b0:=hb0
  rw [he,b83 hi]
  (refine Zq ?_;with_reducible repeat' first|intro _|apply aI)
  cases hne:H9 s i with
  | error er =>
   obtain ⟨er,p⟩:=er
   exact P7 hn ⟨(s,i),hi,hsl⟩ (r:=.fl 122 er p) (by show a3f (H9 s i)=_;rw [hne];rfl) j4 (RB.bx aS rfl) fun _ hv=>a1k hv .nil
  | ok tk =>
   obtain ⟨t,k⟩:=tk
   simp only []
   refine f5 hn ⟨(s,i),hi,hsl⟩ (r:=.a (R8 t)) (by show a3f (H9 s i)=_;rw [hne];rfl) j4 (RB.bx aS rfl) fun _ _ hv1 hb1=>?_
   have hb1:g9 [G1 s (tokB i (H9 s i))] _:=hb1
   rw [hne] at hb1
   have hb1:g9 [[.s s,.i .i64 (k:Int)]] _:=hb1
   have hv1:RV (.a [.i .i64 t.kind,.i .i64 (t.pos:Int),.s t.pkg,.s t.text,.s t.den]) _:=hv1
   (refine Zq ?_;intros)
   refine S3 (xs:=acc.map R8) (r:=R8 t) (n:=5) (off:=0) aS (fun _=>a4r (by rw [c6j];decide) aS) (c6j _) (by simp) (by simp;omega) fun _ ht'=>?_
   rw [show acc.map R8 ++ [R8 t]=(acc ++ [t]).map R8 by simp] at ht'
   (refine Zq ?_;with_reducible repeat' first|intro _|apply aI)
   ·rw [if_pos ‹_›]
    exact i6 ⟨.ret _ _ (.sl _ _ _ _ _ (by simp) ht'),.nil⟩
   ·have h0:¬t.kind=0:=‹_›
    rw [if_neg h0]
    have hg:=e2q hi hne h0
    have et2:C6 s=x4 s k (acc ++ [t]):=by rw [he,b83 hi,hne];simp only [];rw [if_neg h0]
    rw [← et2]
    exact ih k _ _ ⟨acc ++ [t],_,_,rfl,by rw [List.length_append];rfl,.opa _ _ _ rfl aS,.a _ _ (by simp) ht',hg.2,by simp;omega,et2⟩ oM
 ·intro c hc
  (refine Zy ?_;with_reducible repeat' first|intro _|apply aI)
  ·have e:C6 s=.error (2,0):=by unfold C6;rw [if_pos oM]
   rw [e]
   exact P7 hf (2,0) (r:=.fl 122 2 0) rfl j4 .nil fun _ hv=>a1k hv .nil
  ·exact hc _ _ ⟨rfl,rfl,oM⟩
end
end Go.Proofs.YtffaodopiifbkaaGreatDoor
