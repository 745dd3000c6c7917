/- The program's reader: the token that begins with a word. -/
import Derived.Test.YtffaodopiifbkaaGreatDoorCEG
import Derived.Test.YtffaodopiifbkaaGreatDoorCV
set_option linter.all false
namespace Go.Proofs.YtffaodopiifbkaaGreatDoor
open Go.Abs LQ
set_option maxRecDepth 100000
set_option maxHeartbeats 8000000
noncomputable section
def pT0 (i:Nat):B5:=⟨0,i,[],[],[]⟩
def f2n:Sp where
 ι:={ q:i7 × Nat × i7 × Nat // q.2.2.2≤q.1.length∧q.1.length < 8000∧0 < q.2.2.1.length∧q.2.2.1.length < 8000 }
 A q:=[.p 0 0,.a (x3 (pT0 q.1.2.1)),.c (.s q.1.2.2.1)]
 B q:=[H7 q.1.1 q.1.2.2.2]
 R q:=a3i (wdS q.1.1 q.1.2.1 q.1.2.2.1 q.1.2.2.2)
 B' q:=[H7 q.1.1 (tokB q.1.2.2.2 (wdS q.1.1 q.1.2.1 q.1.2.2.1 q.1.2.2.2))]
 inj i j vs bs hv kv h k:=by
  have e1:=a4p (RBs.one_inj h k)
  obtain ⟨_,_,_,_,hv,kv⟩:=hv.two kv
  obtain ⟨_,_,h2,k2,hv,kv⟩:=hv.two kv
  obtain ⟨_,_,h3,k3,_,_⟩:=hv.two kv
  have e2:=congrArg B5.pos (a4r (h2.a_inj k2))
  have e2:i.1.2.1=j.1.2.1:=e2
  rw [e1.1,e1.2,e2,H3 h3 k3];exact ⟨rfl,rfl⟩
theorem b2u {t p:i7} (h:0 < t.length):p9 t p true=p9 t p false:=by
 unfold p9
 have:((true=true∧t.length=0)∨(p.length ≠ 0∧A4 p=false))↔((false=true∧t.length=0)∨(p.length ≠ 0∧A4 p=false)):=⟨fun h=>h.elim (fun h=>by omega) .inr,fun h=>h.elim (fun h=>by cases h.1) .inr⟩
 by_cases h1:40 < t.length
 ·rw [if_pos h1,if_pos h1]
 ·rw [if_neg h1,if_neg h1]
  by_cases h2:(true=true∧t.length=0)∨(p.length ≠ 0∧A4 p=false)
  ·rw [if_pos h2,if_pos (this.1 h2)]
  ·rw [if_neg h2,if_neg (fun h=>h2 (this.2 h))]
theorem b85 {s:i7} {i:Nat} (h:i < s.length) (hc:y8 (bt s i)=true):0 < (I6 s i).length:=by
 have h1:=c87 h hc
 have h2:=F9 s (i+1) (by omega)
 unfold I6;simp;omega
theorem d2l (w:i7):(A8 w).1.length≤w.length∧(A8 w).2.length≤max 1 w.length:=by
 unfold A8 I8
 split <;> simp [R4] <;> omega
theorem d9x {s:i7} {i k:Nat} {w:i7} (h:has s k 58 58=true):wdS s i w k=H4 s i w k:=by unfold wdS;rw [if_pos h]
theorem d8u {s:i7} {i k:Nat} {w:i7} (h:¬has s k 58 58=true):wdS s i w k=F4 i w k:=by unfold wdS;rw [if_neg h]
theorem d9j {s p:i7} {i k:Nat} (h:k+2 < s.length):H4 s i p k=if bt s (k+2)=124 then (match encl s 124 (k+2+1) [] with
  | .error e=>.error e
  | .ok (l,j)=>if p9 (F1 l) p true=0 then .ok (⟨6,i,p,F1 l,y3⟩,j) else .error (p9 (F1 l) p true,i))
 else if y8 (bt s (k+2)) then (if p9 (I6 s (k+2)) p false=0 then .ok (⟨6,i,p,I6 s (k+2),y3⟩,l7 s (k+2)) else .error (p9 (I6 s (k+2)) p false,i))
 else .error (12,k+2):=by rw [H4,if_pos h];rfl
theorem e04 (hst:l5 203 T7) (hdl:l5 136 b47):l5 139 f2n:=v7 (fun fn h=>d76 h) [(160,_),(135,_),(51,_),(136,_),(138,_),(140,_),(137,_),(164,_),(165,_),(166,_),(155,_),(167,_)] (.cons b6x (.cons b5s (.cons b1s (.cons hdl (.cons b39 (.cons d7a (.cons (c5f hst) (.cons d5o (.cons d1d (.cons e4u (.cons (b3s hst) (.cons c1i .nil)))))))))))) fun U fn hfn ⟨(s,pos,w,k),hk,hsl,hw0,hwl⟩ vs bs hv hb=>by
 have hs:=hfn 160 _ rfl
 have hm:=hfn 135 _ rfl
 have hf:=hfn 51 _ rfl
 have hd:=hfn 136 _ rfl
 have hc:=hfn 138 _ rfl
 have hwd:=hfn 140 _ rfl
 have hnm:=hfn 137 _ rfl
 have hnu:=hfn 164 _ rfl
 have htr:=hfn 165 _ rfl
 have hpl:=hfn 166 _ rfl
 have hre:=hfn 155 _ rfl
 have hdg:=hfn 167 _ rfl
 have hk:k≤s.length:=hk
 have hsl:s.length < 8000:=hsl
 have hw0:0 < w.length:=hw0
 have hwl:w.length < 8000:=hwl
 have hv:l9 [.p 0 0,.a [.i .i64 0,.i .i64 (pos:Int),.s [],.s [],.s []],.c (.s w)] vs:=hv
 have hb:RBs [[.s s,.i .i64 (k:Int)]] bs:=hb
 show j3 U _ fun v bs'=>m8 (a3i (wdS s pos w k)) v∧RBs [H7 s (tokB k (wdS s pos w k))] bs'
 unfold d21
 -- a failure
 have bad:∀ {e:Int} {p:Nat} {vs:List V} {bs:List Bx} {K:V→List Bx→Om},wdS s pos w k=.error (e,p)→l9 [.c (.i .i64 e),.c (.i .i64 (p:Int))] vs→RBs [] bs→j3 U (U.bind (fn 51 vs bs) K fun v=>some (.pan (U.rn0 v),[.cells [.str s.length (n6 s),.int .i64 k]])) fun v bs'=>m8 (a3i (wdS s pos w k)) v∧RBs [H7 s (tokB k (wdS s pos w k))] bs':=fun {e p vs bs K} he hv hb=>by
  rw [he]
  exact G1 hf (e,(p:Int)) (r:=.fl 122 e p) rfl hv hb fun _ hv=>N6 hv (Z0 rfl)
 have badN:∀ {t:B5} {vs:List V} {bs:List Bx} {K:V→List Bx→Om},t.pkg.length < 90000→p9 t.text t.pkg true ≠ 0→wdS s pos w k=.error (p9 t.text t.pkg true,t.pos)→l9 [.a (x3 t)] vs→RBs [] bs→j3 U (U.bind (fn 137 vs bs) K fun v=>some (.pan (U.rn0 v),[.cells [.str s.length (n6 s),.int .i64 k]])) fun v bs'=>m8 (a3i (wdS s pos w k)) v∧RBs [H7 s (tokB k (wdS s pos w k))] bs':=fun {t vs bs K} hl h0 he hv hb=>by
  rw [he]
  exact G1 hnm ⟨t,hl⟩ (r:=.fl 122 (p9 t.text t.pkg true) t.pos) (by show K9 t=_;unfold K9;rw [if_neg h0]) hv hb fun _ hv=>N6 hv (Z0 rfl)
 (refine Zq ?_;with_reducible repeat' first|intro _|apply aI)
 refine j4 hs ⟨⟨(s,k),hk,by show s.length < 90000;omega⟩,u7 2 14906⟩ (r:=.c (.b (has s k 58 58))) (by show y4.ret (.c (.b (Q7 (s.drop k) (u7 2 14906))))=_;rw [e60,c7n hk];rfl) j9 (Z0 rfl) fun _ _ _ hb1=>?_
 have hb1:RBs [[.s s,.i .i64 (k:Int)]] _:=hb1
 (refine Zy ?_;with_reducible repeat' first|intro _|apply aI)
 ·have hq:has s k 58 58=true:=‹_›
  have hk2:=K5 hq
  have ewd:=d9x (i:=pos) (w:=w) hq
  refine H6 (fun vs bs=>∃ (text:i7) (j:Nat),l9 [.p 1 0,.p 2 0] vs∧RBs [[.s s,.i .i64 (j:Int)],x3 ⟨6,pos,w,text,[]⟩,z5] bs∧j≤s.length∧H4 s pos w k=if p9 text w true=0 then .ok (⟨6,pos,w,text,[]⟩,j) else .error (p9 text w true,pos)) ?_ ?_
  ·rintro vs' bs' ⟨text,j,hv',hb',hj,he⟩
   have hb':RBs [[.s s,.i .i64 (j:Int)],[.i .i64 6,.i .i64 (pos:Int),.s w,.s text,.s []],[.i .i64 0,.i .i64 0,.s [],.s [],.s []]] bs':=hb'
   (refine Zq ?_;with_reducible repeat' first|intro _|apply aI)
   by_cases h0:p9 text w true=0
   ·rw [if_pos h0] at he
    refine j4 hnm ⟨⟨6,pos,w,text,[]⟩,by show w.length < 90000;omega⟩ (r:=.t []) (by show K9 _=_;unfold K9;rw [if_pos h0]) (.cons _ _ _ _ (.a _ _ _ rfl (by assumption)) .nil) .nil fun _ _ _ _=>?_
    (refine Zq ?_;with_reducible repeat' first|intro _|apply aI)
    rw [ewd,he]
    exact l6 ⟨.ret _ _ (.a _ _ _ rfl (by assumption)),RB.bx (by assumption) rfl⟩
   ·rw [if_neg h0] at he
    exact badN (t:=⟨6,pos,w,text,[]⟩) (by show w.length < 90000;omega) h0 (ewd.trans he) (.cons _ _ _ _ (.a _ _ _ rfl (by assumption)) .nil) .nil
  ·intro c hcc
   (refine Zq ?_;with_reducible repeat' first|intro _|apply aI)
   refine j4 hm ⟨(s,k+2),by show k+2≤s.length;omega,by show s.length < 90000;omega⟩ (r:=.c (.b (decide (k+2 < s.length)))) rfl j9 (Z0 (show (k:Int)+2=((k+2:Nat):Int) by omega)) fun _ _ _ hb2=>?_
   have hb2:RBs [[.s s,.i .i64 ((k+2:Nat):Int)]] _:=hb2
   (refine Zq ?_;with_reducible repeat' first|intro _|apply aI)
   ·have hlt:k+2 < s.length:=of_decide_eq_true ‹_›
    have hbt:((s.getD (k+2) 0).toNat:Int)=bt s (k+2):=rfl
    have hb0:=a6n s (k+2)
    have hb9:=c0d s (k+2)
    have e0:=d9j (i:=pos) (p:=w) hlt
    (refine Zq ?_;with_reducible repeat' first|intro _|apply aI)
    ·have h124:bt s (k+2)=124:=‹_›
     rw [if_pos h124] at e0
     have hds:S4 s (k+2) 124=encl s 124 (k+2+1) []:=rfl
     rw [← hds] at e0
     cases hde:S4 s (k+2) 124 with
     | error er =>
      obtain ⟨er,p⟩:=er
      rw [hde] at e0
      rw [ewd,e0]
      exact G1 hd ⟨(⟨(s,k+2),by show k+2≤s.length;omega,by show s.length < 90000;omega⟩,124),.inr rfl,hlt,hsl⟩ (r:=.fl 122 er p) (by show b0z (S4 s (k+2) 124)=_;rw [hde];rfl) j9 (Z0 rfl) fun _ hv=>N6 hv (Z0 rfl)
     | ok lj =>
      obtain ⟨l,j⟩:=lj
      rw [hde] at e0
      have hj:=b7r hde
      refine j4 hd ⟨(⟨(s,k+2),by show k+2≤s.length;omega,by show s.length < 90000;omega⟩,124),.inr rfl,hlt,hsl⟩ (r:=.c (.s (F1 l))) (by show b0z (S4 s (k+2) 124)=_;rw [hde];rfl) j9 (Z0 rfl) fun _ _ _ hb3=>?_
      have hb3:RBs [H7 s (c2s (k+2) (S4 s (k+2) 124))] _:=hb3
      rw [hde] at hb3
      have hb3:RBs [[.s s,.i .i64 (j:Int)]] _:=hb3
      (refine Zq ?_;with_reducible repeat' first|intro _|apply aI)
      exact fun e=>hcc _ _ ⟨F1 l,j,by (exact j9),.cons _ _ _ _ (scB rfl) (.cons _ _ _ _ (.cells _ _ (by subst e;(exact W6))) (.cons _ _ _ _ z5B .nil)),hj.2,e0⟩ e
    ·have h124:¬bt s (k+2)=124:=‹_›
     rw [if_neg h124] at e0
     refine j4 hc ⟨bt s (k+2),hb0,hb9⟩ (r:=.c (.b (y8 (bt s (k+2))))) rfl j9 .nil fun _ _ _ _=>?_
     (refine Zq ?_;with_reducible repeat' first|intro _|apply aI)
     ·have hcs:y8 (bt s (k+2))=true:=‹_›
      rw [if_pos hcs] at e0
      have hwe:=F9 s (k+2) (by omega)
      have hwp:=b85 hlt hcs
      refine j4 hwd ⟨(s,k+2),by show k+2≤s.length;omega,by show s.length < 90000;omega⟩ (r:=.c (.s (I6 s (k+2)))) rfl j9 (Z0 rfl) fun _ _ _ hb3=>?_
      have hb3:RBs [[.s s,.i .i64 ((l7 s (k+2):Nat):Int)]] _:=hb3
      (refine Zq ?_;with_reducible repeat' first|intro _|apply aI)
      refine fun e=>hcc _ _ ⟨I6 s (k+2),l7 s (k+2),by (exact j9),.cons _ _ _ _ (scB rfl) (.cons _ _ _ _ (.cells _ _ (by subst e;(exact W6))) (.cons _ _ _ _ z5B .nil)),hwe.2,?_⟩ e
      rw [b2u hwp];exact e0
     ·have hcs:¬y8 (bt s (k+2))=true:=‹_›
      rw [if_neg hcs] at e0
      exact bad (ewd.trans e0) j9 .nil
   ·have hlt:¬k+2 < s.length:=fun h=>‹¬decide (k+2 < s.length)=true› (decide_eq_true h)
    exact bad (ewd.trans (by rw [H4,if_neg hlt])) j9 .nil
 ·have hq:¬has s k 58 58=true:=‹_›
  have ewd:=d8u (i:=pos) (w:=w) hq
  obtain ⟨nl1,nl2⟩:=d2l w
  refine j4 hnu ⟨w,by show w.length < 90000;omega⟩ (r:=.t [.c (.s (A8 w).1),.c (.s (A8 w).2),.c (.b (l8 w).2.2)]) rfl j9 .nil fun _ _ _ _=>?_
  (refine Zy ?_;with_reducible repeat' first|intro _|apply aI)
  refine H6 (fun vs bs=>∃ t:B5,l9 [.p 1 0,.p 2 0] vs∧RBs [[.s s,.i .i64 (k:Int)],x3 t,z5] bs∧F4 pos w k=.ok (t,k)) ?_ ?_
  ·rintro vs' bs' ⟨t,hv',hb',he⟩
   have hb':RBs [[.s s,.i .i64 (k:Int)],[.i .i64 t.kind,.i .i64 (t.pos:Int),.s t.pkg,.s t.text,.s t.den],[.i .i64 0,.i .i64 0,.s [],.s [],.s []]] bs':=hb'
   (refine Zq ?_;with_reducible repeat' first|intro _|apply aI)
   rw [ewd,he]
   exact l6 ⟨.ret _ _ (.a _ _ _ rfl (by assumption)),RB.bx (by assumption) rfl⟩
  ·intro c hcc
   (refine Zy ?_;with_reducible repeat' first|intro _|apply aI)
   ·have hdot:w=u7 1 46:=‹_›
    refine fun e=>hcc _ _ ⟨⟨3,pos,[],[],[]⟩,by (exact j9),.cons _ _ _ _ (scB rfl) (.cons _ _ _ _ (.cells _ _ (by subst e;(exact W6))) (.cons _ _ _ _ z5B .nil)),?_⟩ e
    rw [F4,if_pos (by rw [hdot];rfl)];rfl
   ·have hdot:¬w=[46]:=‹_›
    refine H6 (fun vs bs=>∃ z:Bool,l9 [.c (.s w),.p 1 0,.p 2 0,.c (.s (A8 w).1),.c (.s (A8 w).2),.c (.b (l8 w).2.2),.c (.b z)] vs∧RBs [[.s s,.i .i64 (k:Int)],x3 (pT0 pos),z5] bs∧(z=true↔(l8 w).2.2=true∧Lib.trimS (A8 w).2 [48]=[])) ?_ ?_
    ·rintro vs' bs' ⟨z,hv',hb',hz⟩
     have hb':RBs [[.s s,.i .i64 (k:Int)],[.i .i64 0,.i .i64 (pos:Int),.s [],.s [],.s []],[.i .i64 0,.i .i64 0,.s [],.s [],.s []]] bs':=hb'
     (refine Zy ?_;with_reducible repeat' first|intro _|apply aI)
     ·obtain ⟨z1,z2⟩:=hz.1 ‹_›
      obtain ⟨c1,c2,c3⟩:=a74 z1
      exact bad (ewd.trans (by rw [F4,if_neg hdot,if_pos z1,if_pos (by rw [c2];exact (b5y c3).1 z2)])) (.cons _ _ _ _ (.i _ _) (.cons _ _ _ _ (.q _ _ (by assumption)) .nil)) .nil
     ·have z1:(l8 w).2.2=true:=‹_›
      have z0:¬z=true:=‹_›
      obtain ⟨c1,c2,c3⟩:=a74 z1
      have e9:F4 pos w k=if 100 < G4 (u9 (plain (A8 w).1) (plain (A8 w).2)).1∨100 < G4 (u9 (plain (A8 w).1) (plain (A8 w).2)).2 then .error (2,pos) else .ok (⟨5,pos,[],(u9 (plain (A8 w).1) (plain (A8 w).2)).1,(u9 (plain (A8 w).1) (plain (A8 w).2)).2⟩,k):=by
       rw [F4,if_neg hdot,if_pos z1,c1,c2,if_neg (fun h=>z0 (hz.2 ⟨z1,(b5y c3).2 h⟩))];rfl
      have p1:=a00 (A8 w).1
      have p2:=a00 (A8 w).2
      refine j4 hpl ⟨(A8 w).1,by omega⟩ (r:=.c (.s (plain (A8 w).1))) rfl j9 .nil fun _ _ _ _=>?_
      (refine Zy ?_;with_reducible repeat' first|intro _|apply aI)
      refine j4 hpl ⟨(A8 w).2,by omega⟩ (r:=.c (.s (plain (A8 w).2))) rfl j9 .nil fun _ _ _ _=>?_
      (refine Zy ?_;with_reducible repeat' first|intro _|apply aI)
      obtain ⟨rn,rd,er,_,_,l1,l2⟩:=a5x (plain (A8 w).1) (plain (A8 w).2)
      have l3:(j6 rn).length≤1+(j5 rn.natAbs).length:=by
       rw [a3z,List.length_append]
       have:(LQ.sgn rn).length≤1:=by unfold LQ.sgn;split <;> simp
       omega
      rw [er] at e9
      simp only [] at e9
      rw [b0b,b0b] at e9
      refine j4 hre ⟨(plain (A8 w).1,plain (A8 w).2),by show (plain (A8 w).1).length < 8000;omega,by show (plain (A8 w).2).length < 8000;omega⟩ (r:=.t [.c (.s (j6 rn)),.c (.s (j5 rd))]) (by show y4.ret (.t [.c (.s (u9 (plain (A8 w).1) (plain (A8 w).2)).1),.c (.s (u9 (plain (A8 w).1) (plain (A8 w).2)).2)])=_;rw [er]) j9 .nil fun _ _ _ _=>?_
      (refine Zy ?_;with_reducible repeat' first|intro _|apply aI)
      refine H6 (fun vs bs=>∃ y:Bool,l9 [.p 1 0,.p 2 0,.c (.b y)] vs∧RBs [[.s s,.i .i64 (k:Int)],x3 ⟨5,pos,[],j6 rn,j5 rd⟩,z5] bs∧(y=true↔100 < S3 (j6 rn)∨100 < S3 (j5 rd))) ?_ ?_
      ·rintro vs' bs' ⟨y,hv',hb',hy⟩
       have hb':RBs [[.s s,.i .i64 (k:Int)],[.i .i64 5,.i .i64 (pos:Int),.s [],.s (j6 rn),.s (j5 rd)],[.i .i64 0,.i .i64 0,.s [],.s [],.s []]] bs':=hb'
       (refine Zq ?_;with_reducible repeat' first|intro _|apply aI)
       ·rw [if_pos (hy.1 ‹_›)] at e9
        exact bad (ewd.trans e9) (.cons _ _ _ _ (.i _ _) (.cons _ _ _ _ (.q _ _ (by assumption)) .nil)) .nil
       ·rw [if_neg (fun h=>‹¬y=true› (hy.2 h))] at e9
        exact hcc _ _ ⟨_,by (exact j9),.cons _ _ _ _ (.opa _ _ _ rfl (by assumption)) (.cons _ _ _ _ (.opa _ _ _ rfl (by assumption)) (.cons _ _ _ _ (.opa _ _ _ rfl (by assumption)) .nil)),e9⟩
      ·intro c2 hc2
       refine j4 hdg ⟨j6 rn,by omega⟩ (r:=.c (.i .i64 (S3 (j6 rn):Nat))) rfl j9 .nil fun _ _ _ _=>?_
       (refine Zq ?_;with_reducible repeat' first|intro _|apply aI)
       ·exact fun e=>hc2 _ _ ⟨true,by (exact j9),.cons _ _ _ _ (.opa _ _ _ rfl (by assumption)) (.cons _ _ _ _ (.cells _ _ (by subst e;(exact W6))) (.cons _ _ _ _ (.opa _ _ _ rfl (by assumption)) .nil)),by simp;omega⟩ e
       ·refine j4 hdg ⟨j5 rd,by omega⟩ (r:=.c (.i .i64 (S3 (j5 rd):Nat))) rfl j9 .nil fun _ _ _ _=>?_
        (refine Zq ?_;with_reducible repeat' first|intro _|apply aI)
        exact fun e=>hc2 _ _ ⟨decide (100 < S3 (j5 rd)),.cons _ _ _ _ (.p _ _) (.cons _ _ _ _ (.p _ _) (.cons _ _ _ _ (Q1 (by subst e;rw [b4b,decide_eq_decide];omega)) .nil)),.cons _ _ _ _ (.opa _ _ _ rfl (by assumption)) (.cons _ _ _ _ (.cells _ _ (by subst e;(exact W6))) (.cons _ _ _ _ (.opa _ _ _ rfl (by assumption)) .nil)),decide_eq_true_iff.trans ⟨fun h=>.inr h,fun h=>h.resolve_left (fun h=>‹¬100 < ((S3 (j6 rn):Nat):Int)› (by omega))⟩⟩ e
     ·have z1:¬(l8 w).2.2=true:=‹_›
      have e9:F4 pos w k=if p9 w [] false=0 then .ok (⟨6,pos,[],w,[]⟩,k) else .error (p9 w [] false,pos):=by
       rw [F4,if_neg hdot,if_neg z1];rfl
      rw [← b2u hw0] at e9
      by_cases h0:p9 w [] true=0
      ·rw [if_pos h0] at e9
       refine fun e=>j4 hnm ⟨⟨6,pos,[],w,[]⟩,by show 0 < 90000;omega⟩ (r:=.t []) (by show K9 _=_;unfold K9;rw [if_pos h0]) (.cons _ _ _ _ (.ag _ _ (by subst e;(exact W6))) .nil) .nil (fun _ _ _ _=>?_) e
       (refine Zq ?_;with_reducible repeat' first|intro _|apply aI)
       exact fun e=>hcc _ _ ⟨_,by (exact j9),.cons _ _ _ _ (.opa _ _ _ rfl (by assumption)) (.cons _ _ _ _ (.cells _ _ (by subst e;(exact W6))) (.cons _ _ _ _ (.opa _ _ _ rfl (by assumption)) .nil)),e9⟩ e
      ·rw [if_neg h0] at e9
       exact fun e=>badN (t:=⟨6,pos,[],w,[]⟩) (by show 0 < 90000;omega) h0 (ewd.trans e9) (.cons _ _ _ _ (.ag _ _ (by subst e;(exact W6))) .nil) .nil e
    ·intro c2 hc2
     (refine Zy ?_;with_reducible repeat' first|intro _|apply aI)
     ·have z1:(l8 w).2.2=true:=‹_›
      refine j4 htr ⟨((A8 w).2,[48]),by show (A8 w).2.length < 4294967281;omega,by show 1 < 4294967281;omega,by simp⟩ (r:=.c (.s (Lib.trimS (A8 w).2 [48]))) rfl j9 .nil fun _ _ _ _=>?_
      (refine Zy ?_;with_reducible repeat' first|intro _|apply aI)
      exact fun e=>hc2 _ _ ⟨decide (Lib.trimS (A8 w).2 [48]=[]),.cons _ _ _ _ (.s _ _ _ rfl rfl) (.cons _ _ _ _ (.p _ _) (.cons _ _ _ _ (.p _ _) (.cons _ _ _ _ (.s _ _ _ rfl rfl) (.cons _ _ _ _ (.s _ _ _ rfl rfl) (.cons _ _ _ _ (.b _) (.cons _ _ _ _ (Q1 (by subst e;rw [c3v];rfl)) .nil)))))),.cons _ _ _ _ (scB rfl) (.cons _ _ _ _ (.opa _ _ _ rfl (by assumption)) (.cons _ _ _ _ z5B .nil)),by simp [z1]⟩ e
     ·have z1:¬(l8 w).2.2=true:=‹_›
      exact hc2 _ _ ⟨false,by (exact j9),.cons _ _ _ _ (scB rfl) (.cons _ _ _ _ (.opa _ _ _ rfl (by assumption)) (.cons _ _ _ _ z5B .nil)),by simp [z1]⟩
end
end Go.Proofs.YtffaodopiifbkaaGreatDoor
namespace Go.Abs
theorem f2p {U:w7} {P:G3→List Bx→Prop} {b x:Int} {K:Int→Om} (hb:U=CU→b=x) (h:j3 U (K x) P):j3 U (U.fI b K) P:=fun e=>by
 have:=h e;rw [← hb e] at this;subst e;rw [V8];exact this
theorem d1i (c:Bool) (a b:Int):CU.isel c a b=cond c a b:=by cases c <;> rfl
end Go.Abs
namespace Go.Proofs.YtffaodopiifbkaaGreatDoor
open Go.Abs LQ
set_option maxRecDepth 100000
set_option maxHeartbeats 8000000
noncomputable section
def K0 (s:i7) (i:Nat):Except (Int × Nat) (B5 × Nat):=match LQ.skip s i with
 | none=>.error (11,s.length)
 | some j=>if j < s.length then B7 s j else .ok (⟨0,j,[],[],[]⟩,j)
def f2h:Sp where
 ι:={ p:i7 × Nat // p.2≤p.1.length∧p.1.length < 8000 }
 A _:=[.p 0 0]
 B p:=[H7 p.1.1 p.1.2]
 R p:=a3i (K0 p.1.1 p.1.2)
 B' p:=[H7 p.1.1 (tokB p.1.2 (K0 p.1.1 p.1.2))]
 inj i j vs bs _ _ h k:=by
  have:=a4p (RBs.one_inj h k)
  rw [this.1,this.2];exact ⟨rfl,rfl⟩
theorem d0d {s:i7} {j:Nat} (h1:bt s j ≠ 40) (h2:bt s j ≠ 41) (h3:bt s j ≠ 39) (h4:bt s j ≠ 34) (h5:bt s j ≠ 124) (hc:y8 (bt s j)=true):B7 s j=wdS s j (I6 s j) (l7 s j):=by
 rw [B7,if_neg h1,if_neg h2,if_neg h3,if_neg h4,if_neg h5,if_pos hc];rfl
theorem e71 (hst:l5 203 T7) (hdl:l5 136 b47) (hcr:l5 158 c3h):l5 93 f2h:=v7 (fun fn h=>e2o h) [(134,_),(135,_),(51,_),(136,_),(138,_),(140,_),(137,_),(139,_)] (.cons (e9b hcr) (.cons b5s (.cons b1s (.cons hdl (.cons b39 (.cons d7a (.cons (c5f hst) (.cons (e04 hst hdl) .nil)))))))) fun U fn hfn ⟨(s,i),hi,hsl⟩ vs bs hv hb=>by
 have hs:=hfn 134 _ rfl
 have hm:=hfn 135 _ rfl
 have hf:=hfn 51 _ rfl
 have hd:=hfn 136 _ rfl
 have hc:=hfn 138 _ rfl
 have hwd:=hfn 140 _ rfl
 have hnm:=hfn 137 _ rfl
 have hwo:=hfn 139 _ rfl
 have hi:i≤s.length:=hi
 have hsl:s.length < 8000:=hsl
 have hv:l9 [.p 0 0] vs:=hv
 have hb:RBs [[.s s,.i .i64 (i:Int)]] bs:=hb
 show j3 U _ fun v bs'=>m8 (a3i (K0 s i)) v∧RBs [H7 s (tokB i (K0 s i))] bs'
 unfold r93
 have bad:∀ {e:Int} {p:Nat} {vs:List V} {bs:List Bx} {K:V→List Bx→Om},K0 s i=.error (e,p)→l9 [.c (.i .i64 e),.c (.i .i64 (p:Int))] vs→RBs [] bs→j3 U (U.bind (fn 51 vs bs) K fun v=>some (.pan (U.rn0 v),[.cells [.str s.length (n6 s),.int .i64 i]])) fun v bs'=>m8 (a3i (K0 s i)) v∧RBs [H7 s (tokB i (K0 s i))] bs':=fun {e p vs bs K} he hv hb=>by
  rw [he]
  exact G1 hf (e,(p:Int)) (r:=.fl 122 e p) rfl hv hb fun _ hv=>N6 hv (Z0 rfl)
 have badN:∀ {t:B5} {vs:List V} {bs:List Bx} {K:V→List Bx→Om},t.pkg.length < 90000→p9 t.text t.pkg true ≠ 0→K0 s i=.error (p9 t.text t.pkg true,t.pos)→l9 [.a (x3 t)] vs→RBs [] bs→j3 U (U.bind (fn 137 vs bs) K fun v=>some (.pan (U.rn0 v),[.cells [.str s.length (n6 s),.int .i64 i]])) fun v bs'=>m8 (a3i (K0 s i)) v∧RBs [H7 s (tokB i (K0 s i))] bs':=fun {t vs bs K} hl h0 he hv hb=>by
  rw [he]
  exact G1 hnm ⟨t,hl⟩ (r:=.fl 122 (p9 t.text t.pkg true) t.pos) (by show K9 t=_;unfold K9;rw [if_neg h0]) hv hb fun _ hv=>N6 hv (Z0 rfl)
 (refine Zq ?_;with_reducible repeat' first|intro _|apply aI)
 cases hsk:LQ.skip s i with
 | none =>
  have en:K0 s i=.error (11,s.length):=by unfold K0;rw [hsk]
  rw [en]
  exact G1 hs ⟨(s,i),hi,by show s.length < 90000;omega⟩ (r:=.fl 122 11 s.length) (by show a1c s i=_;unfold a1c;rw [hsk]) j9 (Z0 rfl) fun _ hv=>N6 hv (Z0 rfl)
 | some j =>
  have hj:=V3 hi hsk
  have en:K0 s i=if j < s.length then B7 s j else .ok (⟨0,j,[],[],[]⟩,j):=by unfold K0;rw [hsk]
  refine j4 hs ⟨(s,i),hi,by show s.length < 90000;omega⟩ (r:=.t []) (by show a1c s i=_;unfold a1c;rw [hsk]) j9 (Z0 rfl) fun _ _ _ hb1=>?_
  have eb:a2i s i=j:=by unfold a2i;rw [hsk];rfl
  have hb1:RBs [H7 s (a2i s i)] _:=hb1
  rw [eb] at hb1
  have hb1:RBs [[.s s,.i .i64 (j:Int)]] _:=hb1
  (refine Zq ?_;with_reducible repeat' first|intro _|apply aI)
  refine j4 hm ⟨(s,j),hj.2,by show s.length < 90000;omega⟩ (r:=.c (.b (decide (j < s.length)))) rfl j9 (Z0 rfl) fun _ _ _ hb2=>?_
  have hb2:RBs [[.s s,.i .i64 (j:Int)]] _:=hb2
  (refine Zy ?_;with_reducible repeat' first|intro _|apply aI)
  ·have hlt:j < s.length:=of_decide_eq_true ‹_›
   rw [if_pos hlt] at en
   have hbt:((s.getD j 0).toNat:Int)=bt s j:=rfl
   have hb0:=a6n s j
   have hb9:=c0d s j
   refine H6 (fun vs bs=>∃ (t:B5) (k:Nat),l9 [.p 1 0,.p 2 0] vs∧RBs [[.s s,.i .i64 (k:Int)],z5,x3 t] bs∧B7 s j=.ok (t,k)) ?_ ?_
   ·rintro vs' bs' ⟨t,k,hv',hb',he⟩
    have hb':RBs [[.s s,.i .i64 (k:Int)],[.i .i64 0,.i .i64 0,.s [],.s [],.s []],[.i .i64 t.kind,.i .i64 (t.pos:Int),.s t.pkg,.s t.text,.s t.den]] bs':=hb'
    (refine Zq ?_;with_reducible repeat' first|intro _|apply aI)
    rw [en,he]
    exact l6 ⟨.ret _ _ (.a _ _ _ rfl (by assumption)),RB.bx (by assumption) rfl⟩
   ·intro c hcc
    (refine Zy ?_;with_reducible repeat' first|intro _|apply aI)
    refine H6 (fun vs bs=>∃ z:Bool,l9 [.p 0 0,.p 1 0,.p 2 0,.c (.i .u8 (bt s j)),.c (.b z)] vs∧RBs [[.s s,.i .i64 (j:Int)],z5,x3 (pT0 j)] bs∧(z=true↔bt s j=40∨bt s j=41∨bt s j=39)) ?_ ?_
    ·rintro vs' bs' ⟨z,hv',hb',hz⟩
     have hb':RBs [[.s s,.i .i64 (j:Int)],[.i .i64 0,.i .i64 0,.s [],.s [],.s []],[.i .i64 0,.i .i64 (j:Int),.s [],.s [],.s []]] bs':=hb'
     (refine Zy ?_;with_reducible repeat' first|intro _|apply aI)
     ·have hz1:=hz.1 ‹_›
      refine c8p (p:=¬(¬bt s j=40∧¬bt s j=41∧¬bt s j=39)) (by (repeat' (first | exact trT | exact trF | apply a3w | apply a3t | exact a3y | exact a32 | exact a3p | exact a5l | exact a8h | exact a1r | exact a1x | exact a1g | exact a1z | exact a0m | exact a4b | exact a9d | exact a8y | exact trS | exact trV))) (by omega) ?_
      refine f2p (x:=if bt s j=40 then 1 else if bt s j=41 then 2 else 4) (fun e=>by
       subst e
       rw [d1i,d1i,a0r,a0r]
       by_cases h1:bt s j=40
       ·simp [h1]
       ·by_cases h2:bt s j=41 <;> simp [h1,h2]) ?_
      (refine Zy ?_;with_reducible repeat' first|intro _|apply aI)
      refine fun e=>hcc _ _ ⟨⟨if bt s j=40 then 1 else if bt s j=41 then 2 else 4,j,[],[],[]⟩,j+1,by (exact j9),.cons _ _ _ _ (.cells _ _ (by subst e;(exact W6))) (.cons _ _ _ _ (.opa _ _ _ rfl (by assumption)) (.cons _ _ _ _ (.cells _ _ (by subst e;(exact W6))) .nil)),?_⟩ e
      rcases hz1 with h | h | h
      ·rw [B7,if_pos h,if_pos h];rfl
      ·rw [B7,if_neg (by omega),if_pos h,if_neg (by omega),if_pos h];rfl
      ·rw [B7,if_neg (by omega),if_neg (by omega),if_pos h,if_neg (by omega),if_neg (by omega)];rfl
     ·have hz0:¬(bt s j=40∨bt s j=41∨bt s j=39):=fun h=>‹¬z=true› (hz.2 h)
      have h34:bt s j=34:=‹_›
      have e0:B7 s j=match S4 s j 34 with
       | .error e=>.error e
       | .ok (l,k)=>if 200 < l.length then .error (2,j) else .ok (⟨7,j,y3,F1 l,y3⟩,k):=by
       rw [B7,if_neg (by omega),if_neg (by omega),if_neg (by omega),if_pos h34];rfl
      cases hde:S4 s j 34 with
      | error er =>
       obtain ⟨er,p⟩:=er
       rw [hde] at e0
       rw [en,e0]
       exact G1 hd ⟨(⟨(s,j),hj.2,by show s.length < 90000;omega⟩,34),.inl rfl,hlt,hsl⟩ (r:=.fl 122 er p) (by show b0z (S4 s j 34)=_;rw [hde];rfl) j9 (RB.bx (by assumption) rfl) fun _ hv=>N6 hv (Z0 rfl)
      | ok lj =>
       obtain ⟨l,k⟩:=lj
       rw [hde] at e0
       refine j4 hd ⟨(⟨(s,j),hj.2,by show s.length < 90000;omega⟩,34),.inl rfl,hlt,hsl⟩ (r:=.c (.s (F1 l))) (by show b0z (S4 s j 34)=_;rw [hde];rfl) j9 (RB.bx (by assumption) rfl) fun _ _ _ hb3=>?_
       have hb3:RBs [H7 s (c2s j (S4 s j 34))] _:=hb3
       rw [hde] at hb3
       have hb3:RBs [[.s s,.i .i64 (k:Int)]] _:=hb3
       have hll:=a5u l
       (refine Zy ?_;with_reducible repeat' first|intro _|apply aI)
       ·exact fun e=>bad (en.trans (e0.trans (if_pos (by omega)))) (.cons _ _ _ _ (.i _ _) (.cons _ _ _ _ (.q _ _ (by subst e;exact B6.at (by assumption) (by rfl))) .nil)) .nil e
       ·exact fun e=>hcc _ _ ⟨⟨7,j,[],F1 l,[]⟩,k,by (exact j9),.cons _ _ _ _ (.opa _ _ _ rfl (by assumption)) (.cons _ _ _ _ (.opa _ _ _ rfl (by assumption)) (.cons _ _ _ _ (.cells _ _ (by subst e;(exact W6))) .nil)),e0.trans (if_neg (by omega))⟩ e
     ·have hz0:¬(bt s j=40∨bt s j=41∨bt s j=39):=fun h=>‹¬z=true› (hz.2 h)
      have h34:¬bt s j=34:=‹_›
      have h124:bt s j=124:=‹_›
      have e0:B7 s j=match S4 s j 124 with
       | .error e=>.error e
       | .ok (l,k)=>if p9 (F1 l) y3 true=0 then .ok (⟨6,j,y3,F1 l,y3⟩,k) else .error (p9 (F1 l) y3 true,j):=by
       rw [B7,if_neg (by omega),if_neg (by omega),if_neg (by omega),if_neg h34,if_pos h124];rfl
      cases hde:S4 s j 124 with
      | error er =>
       obtain ⟨er,p⟩:=er
       rw [hde] at e0
       rw [en,e0]
       exact G1 hd ⟨(⟨(s,j),hj.2,by show s.length < 90000;omega⟩,124),.inr rfl,hlt,hsl⟩ (r:=.fl 122 er p) (by show b0z (S4 s j 124)=_;rw [hde];rfl) j9 (RB.bx (by assumption) rfl) fun _ hv=>N6 hv (Z0 rfl)
      | ok lj =>
       obtain ⟨l,k⟩:=lj
       rw [hde] at e0
       have e0:B7 s j=if p9 (F1 l) [] true=0 then .ok (⟨6,j,[],F1 l,[]⟩,k) else .error (p9 (F1 l) [] true,j):=e0
       refine j4 hd ⟨(⟨(s,j),hj.2,by show s.length < 90000;omega⟩,124),.inr rfl,hlt,hsl⟩ (r:=.c (.s (F1 l))) (by show b0z (S4 s j 124)=_;rw [hde];rfl) j9 (RB.bx (by assumption) rfl) fun _ _ _ hb3=>?_
       have hb3:RBs [H7 s (c2s j (S4 s j 124))] _:=hb3
       rw [hde] at hb3
       have hb3:RBs [[.s s,.i .i64 (k:Int)]] _:=hb3
       (refine Zy ?_;with_reducible repeat' first|intro _|apply aI)
       by_cases h0:p9 (F1 l) [] true=0
       ·rw [if_pos h0] at e0
        refine fun e=>j4 hnm ⟨⟨6,j,[],F1 l,[]⟩,by show 0 < 90000;omega⟩ (r:=.t []) (by show K9 _=_;unfold K9;rw [if_pos h0]) (.cons _ _ _ _ (.ag _ _ (by subst e;(exact W6))) .nil) .nil (fun _ _ _ _=>?_) e
        (refine Zy ?_;with_reducible repeat' first|intro _|apply aI)
        exact fun e=>hcc _ _ ⟨_,k,by (exact j9),.cons _ _ _ _ (.opa _ _ _ rfl (by assumption)) (.cons _ _ _ _ (.opa _ _ _ rfl (by assumption)) (.cons _ _ _ _ (.cells _ _ (by subst e;(exact W6))) .nil)),e0⟩ e
       ·rw [if_neg h0] at e0
        exact fun e=>badN (t:=⟨6,j,[],F1 l,[]⟩) (by show 0 < 90000;omega) h0 (en.trans e0) (.cons _ _ _ _ (.ag _ _ (by subst e;(exact W6))) .nil) .nil e
     ·have hz0:¬(bt s j=40∨bt s j=41∨bt s j=39):=fun h=>‹¬z=true› (hz.2 h)
      have h34:¬bt s j=34:=‹_›
      have h124:¬bt s j=124:=‹_›
      refine j4 hc ⟨bt s j,hb0,hb9⟩ (r:=.c (.b (y8 (bt s j)))) rfl j9 .nil fun _ _ _ _=>?_
      (refine Zy ?_;with_reducible repeat' first|intro _|apply aI)
      ·have hcs:y8 (bt s j)=true:=‹_›
       have hwe:=F9 s j (by omega)
       have hwp:=b85 hlt hcs
       have hwl:(I6 s j).length≤s.length:=by unfold I6;simp;omega
       have e0:=d0d (fun h=>hz0 (.inl h)) (fun h=>hz0 (.inr (.inl h))) (fun h=>hz0 (.inr (.inr h))) h34 h124 hcs
       refine j4 hwd ⟨(s,j),hj.2,by show s.length < 90000;omega⟩ (r:=.c (.s (I6 s j))) rfl j9 (RB.bx (by assumption) rfl) fun _ _ _ hb3=>?_
       have hb3:RBs [[.s s,.i .i64 ((l7 s j:Nat):Int)]] _:=hb3
       (refine Zy ?_;with_reducible repeat' first|intro _|apply aI)
       cases hw:wdS s j (I6 s j) (l7 s j) with
       | error er =>
        obtain ⟨er,p⟩:=er
        rw [en,e0,hw]
        exact G1 hwo ⟨(s,j,I6 s j,l7 s j),hwe.2,hsl,hwp,by show (I6 s j).length < 8000;omega⟩ (r:=.fl 122 er p) (by show a3i (wdS s j (I6 s j) (l7 s j))=_;rw [hw];rfl) (.cons _ _ _ _ (.p _ _) (.cons _ _ _ _ (.a _ _ _ rfl (by assumption)) (.cons _ _ _ _ (.s _ _ _ rfl rfl) .nil))) (RB.bx (by assumption) rfl) fun _ hv=>N6 hv (Z0 rfl)
       | ok tk =>
        obtain ⟨t,k⟩:=tk
        rw [hw] at e0
        refine j4 hwo ⟨(s,j,I6 s j,l7 s j),hwe.2,hsl,hwp,by show (I6 s j).length < 8000;omega⟩ (r:=.a (x3 t)) (by show a3i (wdS s j (I6 s j) (l7 s j))=_;rw [hw];rfl) (.cons _ _ _ _ (.p _ _) (.cons _ _ _ _ (.a _ _ _ rfl (by assumption)) (.cons _ _ _ _ (.s _ _ _ rfl rfl) .nil))) (RB.bx (by assumption) rfl) fun _ _ _ hb4=>?_
        have hb4:RBs [H7 s (tokB (l7 s j) (wdS s j (I6 s j) (l7 s j)))] _:=hb4
        rw [hw] at hb4
        have hb4:RBs [[.s s,.i .i64 (k:Int)]] _:=hb4
        (refine Zy ?_;with_reducible repeat' first|intro _|apply aI)
        exact hcc _ _ ⟨t,k,by (exact j9),.cons _ _ _ _ (.opa _ _ _ rfl (by assumption)) (.cons _ _ _ _ (.opa _ _ _ rfl (by assumption)) (.cons _ _ _ _ (.opa _ _ _ rfl (by assumption)) .nil)),e0⟩
      ·have hcs:¬y8 (bt s j)=true:=‹_›
       exact bad (en.trans (by rw [B7,if_neg (fun h=>hz0 (.inl h)),if_neg (fun h=>hz0 (.inr (.inl h))),if_neg (fun h=>hz0 (.inr (.inr h))),if_neg h34,if_neg h124,if_neg hcs])) (.cons _ _ _ _ (.i _ _) (.cons _ _ _ _ (.q _ _ (by assumption)) .nil)) .nil
    ·intro c2 hc2
     (refine Zy ?_;with_reducible repeat' first|intro _|apply aI)
     ·exact hc2 _ _ ⟨true,by (exact j9),.cons _ _ _ _ (scB rfl) (.cons _ _ _ _ z5B (.cons _ _ _ _ (.cells _ _ j9) .nil)),by simp;omega⟩
     ·exact hc2 _ _ ⟨true,by (exact j9),.cons _ _ _ _ (scB rfl) (.cons _ _ _ _ z5B (.cons _ _ _ _ (.cells _ _ j9) .nil)),by simp;omega⟩
     ·exact fun e=>hc2 _ _ ⟨decide (bt s j=39),.cons _ _ _ _ (.p _ _) (.cons _ _ _ _ (.p _ _) (.cons _ _ _ _ (.p _ _) (.cons _ _ _ _ (.i _ _) (.cons _ _ _ _ (Q1 (by subst e;rw [a0r,decide_eq_decide];omega)) .nil)))),.cons _ _ _ _ (scB rfl) (.cons _ _ _ _ z5B (.cons _ _ _ _ (.cells _ _ j9) .nil)),by rw [decide_eq_true_iff];omega⟩ e
  ·have hlt:¬j < s.length:=fun h=>‹¬decide (j < s.length)=true› (decide_eq_true h)
   rw [if_neg hlt] at en
   rw [en]
   exact l6 ⟨.ret _ _ (.ag _ _ j9),Z0 rfl⟩
end
end Go.Proofs.YtffaodopiifbkaaGreatDoor
namespace Go.Proofs.YtffaodopiifbkaaGreatDoor
open Go.Abs LQ
set_option maxRecDepth 100000
set_option maxHeartbeats 8000000
noncomputable section
theorem c45 {s:i7} {i k:Nat} {t:B5} (h:B7 s i=.ok (t,k)):t.kind ≠ 0:=by
 have fin:∀ {x:B5} {y:Nat},x.kind ≠ 0→(Except.ok (x,y):Except (Int × Nat) (B5 × Nat))=.ok (t,k)→t.kind ≠ 0:=by
  intro x y hx h;injection h with h;injection h with h1 h2;rw [← h1];exact hx
 unfold B7 at h
 repeat' split at h
 all_goals try (cases h;done)
 all_goals try exact fin (by decide) h
 all_goals try exact fin (show ¬(6:Int)=0 by decide) h
 all_goals try exact fin (show ¬(7:Int)=0 by decide) h
 all_goals try exact fin (show ¬(1:Int)=0 by decide) h
 all_goals try exact fin (show ¬(2:Int)=0 by decide) h
 all_goals try exact fin (show ¬(4:Int)=0 by decide) h
 ·unfold H4 at h
  simp only [] at h
  repeat' split at h
  all_goals try (cases h;done)
  all_goals exact fin (show ¬(6:Int)=0 by decide) h
 ·unfold F4 at h
  simp only [] at h
  repeat' split at h
  all_goals try (cases h;done)
  all_goals first | exact fin (show ¬(3:Int)=0 by decide) h | exact fin (show ¬(5:Int)=0 by decide) h | exact fin (show ¬(6:Int)=0 by decide) h
theorem b8u {s:i7} {i:Nat} {acc:List B5} (hi:i≤s.length):E8 s i acc=match K0 s i with
  | .error e=>.error e
  | .ok (t,k)=>if t.kind=0 then .ok (acc ++ [t]) else E8 s k (acc ++ [t]):=by
 rw [X9 hi]
 unfold K0
 cases hs:LQ.skip s i with
 | none=>rfl
 | some j =>
  have hj:=V3 hi hs
  simp only []
  by_cases hlt:j < s.length
  ·rw [if_pos hlt,if_pos hlt]
   cases ht:B7 s j with
   | error e=>rfl
   | ok p=>simp only [];rw [if_neg (c45 (t:=p.1) (k:=p.2) ht)]
  ·rw [if_neg hlt,if_neg hlt]
   simp only []
   rw [if_pos trivial,show j=s.length by omega];rfl
theorem d9y {s:i7} {i k:Nat} {t:B5} (hi:i≤s.length) (h:K0 s i=.ok (t,k)) (h0:t.kind ≠ 0):i < k∧k≤s.length:=by
 unfold K0 at h
 cases hs:LQ.skip s i with
 | none=>rw [hs] at h;cases h
 | some j =>
  have hj:=V3 hi hs
  rw [hs] at h
  simp only [] at h
  by_cases hlt:j < s.length
  ·rw [if_pos hlt] at h;have:=W5 hlt h;omega
  ·rw [if_neg hlt] at h;injection h with h;injection h with h1 h2;rw [← h1] at h0;exact absurd rfl h0
def b6i:Except (Int × Nat) (List B5)→y4
 | .ok T=>.ret (.sl 5 (T.map x3))
 | .error (e,p)=>P4 e p
def c19:Sp where
 ι:={ s:i7 // s.length < 8000 }
 A s:=[.c (.s s.1)]
 B _:=[]
 R s:=b6i (C4 s.1)
 B' _:=[]
 inj i j vs bs h k _ _:=by
  obtain ⟨_,_,h1,k1,h,k⟩:=h.two k
  rw [H3 h1 k1];exact ⟨rfl,rfl⟩
theorem d7c (hst:l5 203 T7) (hdl:l5 136 b47) (hcr:l5 158 c3h):l5 55 c19:=v7 (fun fn h=>e4o h) [(51,_),(93,_)] (.cons b1s (.cons (e71 hst hdl hcr) .nil)) fun U fn hfn ⟨s,hsl⟩ vs bs hv hb=>by
 have hf:=hfn 51 _ rfl
 have hn:=hfn 93 _ rfl
 have hsl:s.length < 8000:=hsl
 have hv:l9 [.c (.s s)] vs:=hv
 have hb:RBs [] bs:=hb
 show j3 U _ fun v bs'=>m8 (b6i (C4 s)) v∧RBs [] bs'
 unfold r55
 (refine Zy ?_;with_reducible repeat' first|intro _|apply aI)
 refine H6 (fun vs bs=>vs=[.str s.length (n6 s)]∧bs=[]∧s.length≤6000) ?_ ?_
 ·rintro _ _ ⟨rfl,rfl,hs6⟩
  (refine Zq ?_;with_reducible repeat' first|intro _|apply aI)
  have et:C4 s=E8 s 0 []:=by unfold C4;rw [if_neg (by omega)]
  refine F8 (fun (i:Nat) vs bs=>∃ (acc:List B5) (v:V) (b0:Bx),vs=[.ptr 0 0,v]∧bs=[b0,.tok acc.length 5]∧RB (H7 s i) b0∧Z4 1 5 (acc.map x3) v∧i≤s.length∧acc.length≤i∧C4 s=E8 s i acc) (fun i=>s.length - i) 0 ⟨[],_,_,rfl,rfl,scB rfl,.b rfl,Nat.zero_le _,Nat.le_refl _,et⟩ (by simp only [B8];omega) ?_
  rintro self i _ _ ⟨acc,v,b0,rfl,rfl,hb0,htk,hi,ha,he⟩ ih
  have hb0:RB [.s s,.i .i64 (i:Int)] b0:=hb0
  rw [he,b8u hi]
  (refine Zq ?_;with_reducible repeat' first|intro _|apply aI)
  cases hne:K0 s i with
  | error er =>
   obtain ⟨er,p⟩:=er
   exact G1 hn ⟨(s,i),hi,hsl⟩ (r:=.fl 122 er p) (by show a3i (K0 s i)=_;rw [hne];rfl) j9 (RB.bx (by assumption) rfl) fun _ hv=>N6 hv .nil
  | ok tk =>
   obtain ⟨t,k⟩:=tk
   simp only []
   refine j4 hn ⟨(s,i),hi,hsl⟩ (r:=.a (x3 t)) (by show a3i (K0 s i)=_;rw [hne];rfl) j9 (RB.bx (by assumption) rfl) fun _ _ hv1 hb1=>?_
   have hb1:RBs [H7 s (tokB i (K0 s i))] _:=hb1
   rw [hne] at hb1
   have hb1:RBs [[.s s,.i .i64 (k:Int)]] _:=hb1
   have hv1:RV (.a [.i .i64 t.kind,.i .i64 (t.pos:Int),.s t.pkg,.s t.text,.s t.den]) _:=hv1
   (refine Zq ?_;with_reducible repeat' first|intro _|apply aI)
   refine Z5 (xs:=acc.map x3) (r:=x3 t) (n:=5) (off:=0) (by assumption) (fun _=>a45 (by rw [V5];decide) (by assumption)) (V5 _) (by simp) (by simp;omega) fun _ ht'=>?_
   rw [show acc.map x3 ++ [x3 t]=(acc ++ [t]).map x3 by simp] at ht'
   (refine Zq ?_;with_reducible repeat' first|intro _|apply aI)
   ·rw [if_pos ‹_›]
    exact l6 ⟨.ret _ _ (.sl _ _ _ _ _ (by simp) ht'),.nil⟩
   ·have h0:¬t.kind=0:=‹_›
    rw [if_neg h0]
    have hg:=d9y hi hne h0
    have et2:C4 s=E8 s k (acc ++ [t]):=by rw [he,b8u hi,hne];simp only [];rw [if_neg h0]
    rw [← et2]
    exact ih k _ _ ⟨acc ++ [t],_,_,rfl,by rw [List.length_append];rfl,.opa _ _ _ rfl (by assumption),.a _ _ (by simp) ht',hg.2,by simp;omega,et2⟩ (by omega)
 ·intro c hc
  (refine Zy ?_;with_reducible repeat' first|intro _|apply aI)
  ·have e:C4 s=.error (2,0):=by unfold C4;rw [if_pos (by omega)]
   rw [e]
   exact G1 hf (2,0) (r:=.fl 122 2 0) rfl j9 .nil fun _ hv=>N6 hv .nil
  ·exact hc _ _ ⟨rfl,rfl,by omega⟩
end
end Go.Proofs.YtffaodopiifbkaaGreatDoor
