/- The built-in functions of two arguments. -/
import Derived.Test.YtkojildpddaccaaGreatDoorCJ4
set_option linter.all false
namespace Go.Proofs.YtkojildpddaccaaGreatDoor
open Go.Abs LQ
set_option maxRecDepth 100000
set_option maxHeartbeats 4000000
noncomputable section
theorem f90 {U:B0} {P:H4→List Bx→Prop} {x y:List UInt8} {l c1 c2:Nat} {K:Nat→Om} (h1:l=x.length) (e1:c1=C6 x) (e2:c2=C6 y) (k:s4 U (K (C6 (x ++ y))) P):s4 U (U.fN (U.sCat l c1 c2) K) P:=fun e=>by
 subst h1 e1 e2
 have:=k e
 subst e
 rw [a83]
 show ∃ v bs,K (sCat x.length (C6 x) (C6 y))=some (v,bs)∧P v bs
 rw [d7t];exact this
theorem O.k_tx (a:O):a.k=3↔a.isTx=true:=by cases a <;> simp [O.k,O.isTx]
theorem f5x (a b:O) (h:(T0 a b).2=true):0≤(T0 a b).1∧(T0 a b).1 < a.strT.length∧a.txt=a.strT:=by
 cases a with
 | tx t =>
  rw [a8c] at *
  split at h
  ·rename_i k;rw [if_pos k];exact ⟨k.2.2.1,k.2.2.2,rfl⟩
  ·cases h
 | _=>exact absurd h (by simp [T0])
def P1 (s:u4) (a b:O):O :=
 if s=o8 5 465491554661 then G0 (O.eqb a b) else
 if s=o8 4 1936617315 then O.co a b else
 if s=o8 8 3111276449750739298 then b48 a b else
 if s=o8 8 3039218855712811362 then b24 a b else
 if s=o8 1 60 then G0 (a6j a b) else
 if s=o8 6 121437607456361 then (if a.isTx=true∧b.isTx=true∧named (b.strT,a.strT)=true then O.sy (b.strT,a.strT) else C8) else
 if s=o8 13 7956982234992646578836044149875 then O.tx (a.strT ++ b.strT) else
 if s=o8 11 122651541423547657927947379 then (if (T0 a b).2=true then O.num ((a.strT.getD (T0 a b).1.toNat 0).toNat:Int) 1 else C8) else
 .no
def g0n (f:u4→O→O→O):Sp where
 ι:={ p:u4 × O × O // p.2.1.ok∧p.2.2.ok }
 A p:=[.c (.s p.1.1),.a p.1.2.1.g,.a p.1.2.2.g]
 B _:=[]
 R p:=.ret (.a (f p.1.1 p.1.2.1 p.1.2.2).g)
 B' _:=[]
 inj i j vs bs h k _ _:=by
  obtain ⟨_,_,h1,k1,h,k⟩:=h.two k
  obtain ⟨_,_,h2,k2,h,k⟩:=h.two k
  obtain ⟨_,_,h3,k3,h,k⟩:=h.two k
  have e1:i.1.1=j.1.1:=G.s.inj (h1.c_inj k1)
  have e2:=O.g_inj (h2.a_inj k2)
  have e3:=O.g_inj (h3.a_inj k3)
  rw [e1,e2,e3];exact ⟨rfl,rfl⟩
theorem g4h (hItoa:a0j):s9 135 (g0n P1):=u2 (fun fn h=>f0j h) [(15,_),(192,_),(44,_),(199,_),(200,_),(201,_),(197,_),(69,_),(35,_),(18,_),(63,_),(202,_),(27,_)] (.cons c3x (.cons d5p (.cons c1q (.cons (g82 hItoa) (.cons (e0r hItoa) (.cons (g38 hItoa) (.cons e52 (.cons c7w (.cons b8g (.cons a2k (.cons c33 (.cons f6d (.cons (c3z hItoa) .nil))))))))))))) fun U fn hfn ⟨(s,a,b),ho⟩ vs bs hv hb=>by
 have hE:=hfn 15 _ rfl
 have hT:=hfn 192 _ rfl
 have hC:=hfn 44 _ rfl
 have hS:=hfn 199 _ rfl
 have hP:=hfn 200 _ rfl
 have hL:=hfn 201 _ rfl
 have hSt:=hfn 197 _ rfl
 have hV:=hfn 69 _ rfl
 have hN:=hfn 35 _ rfl
 have hSy:=hfn 18 _ rfl
 have hX:=hfn 63 _ rfl
 have hIx:=hfn 202 _ rfl
 have hIn:=hfn 27 _ rfl
 change t7 [.c (.s s),.a a.g,.a b.g] vs at hv
 change s5 [] bs at hb
 have ha:a.ok:=ho.1
 have hbo:b.ok:=ho.2
 have hla:=ha.sl
 have hlb:=hbo.sl
 show s4 U _ fun v bs'=>u0 (.ret (.a (P1 s a b).g)) v∧s5 [] bs'
 unfold e1m
 (refine Zw ?_;intros)
 refine oR fun _ _=>?_
 (refine Zw ?_;intros)
 refine oR fun _ _=>?_
 (refine Zw ?_;intros)
 by_cases hs:s=o8 5 465491554661
 ·have eo:P1 s a b=G0 (O.eqb a b):=by unfold P1;(repeat rw [if_neg (by rw [hs];decide)]);exact if_pos hs
  rw [eo]
  repeat (refine G5 (by rw [hs];decide) ?_;(refine Zw ?_;with_reducible repeat' first|intro _|apply aI))
  refine G7 hs ?_
  (refine Zw ?_;intros)
  refine o7 hE (a,b) (r:=.c (.b (O.eqb a b))) rfl (.k (.a a.g _ _ (O.g_len a).symm aS) (.k (.a b.g _ _ (O.g_len b).symm aS) .nil)) .nil fun _ _ _ _=>?_
  (refine Zw ?_;intros)
  refine o7 hT (O.eqb a b) (r:=.a (G0 (O.eqb a b)).g) rfl u5 .nil fun _ _ _ _=>?_
  (refine Zw ?_;intros)
  first
   | (refine oR fun _ _=>?_;(refine Zw ?_;with_reducible repeat' first|intro _|apply aI);exact p9 ⟨.ret _ _ oV,.nil⟩)
   | exact p9 ⟨.ret _ _ oV,.nil⟩
 by_cases hs:s=o8 4 1936617315
 ·have eo:P1 s a b=O.co a b:=by unfold P1;(repeat rw [if_neg (by rw [hs];decide)]);exact if_pos hs
  rw [eo]
  repeat (refine G5 (by rw [hs];decide) ?_;(refine Zw ?_;with_reducible repeat' first|intro _|apply aI))
  refine G7 hs ?_
  (refine Zw ?_;intros)
  refine o7 hC (a,b) (r:=.a (O.co a b).g) rfl (.k (.a a.g _ _ (O.g_len a).symm aS) (.k (.a b.g _ _ (O.g_len b).symm aS) .nil)) .nil fun _ _ _ _=>?_
  (refine Zw ?_;intros)
  first
   | (refine oR fun _ _=>?_;(refine Zw ?_;with_reducible repeat' first|intro _|apply aI);exact p9 ⟨.ret _ _ oV,.nil⟩)
   | exact p9 ⟨.ret _ _ oV,.nil⟩
 by_cases hs:s=o8 8 3111276449750739298
 ·have eo:P1 s a b=b48 a b:=by unfold P1;(repeat rw [if_neg (by rw [hs];decide)]);exact if_pos hs
  rw [eo]
  repeat (refine G5 (by rw [hs];decide) ?_;(refine Zw ?_;with_reducible repeat' first|intro _|apply aI))
  refine G7 hs ?_
  (refine Zw ?_;intros)
  refine o7 hS ⟨(a,b),ha.1,hbo.1⟩ (r:=.a (b48 a b).g) rfl (.k (.a a.g _ _ (O.g_len a).symm aS) (.k (.a b.g _ _ (O.g_len b).symm aS) .nil)) .nil fun _ _ _ _=>?_
  (refine Zw ?_;intros)
  first
   | (refine oR fun _ _=>?_;(refine Zw ?_;with_reducible repeat' first|intro _|apply aI);exact p9 ⟨.ret _ _ oV,.nil⟩)
   | exact p9 ⟨.ret _ _ oV,.nil⟩
 by_cases hs:s=o8 8 3039218855712811362
 ·have eo:P1 s a b=b24 a b:=by unfold P1;(repeat rw [if_neg (by rw [hs];decide)]);exact if_pos hs
  rw [eo]
  repeat (refine G5 (by rw [hs];decide) ?_;(refine Zw ?_;with_reducible repeat' first|intro _|apply aI))
  refine G7 hs ?_
  (refine Zw ?_;intros)
  refine o7 hP ⟨(a,b),ha.1,hbo.1⟩ (r:=.a (b24 a b).g) rfl (.k (.a a.g _ _ (O.g_len a).symm aS) (.k (.a b.g _ _ (O.g_len b).symm aS) .nil)) .nil fun _ _ _ _=>?_
  (refine Zw ?_;intros)
  first
   | (refine oR fun _ _=>?_;(refine Zw ?_;with_reducible repeat' first|intro _|apply aI);exact p9 ⟨.ret _ _ oV,.nil⟩)
   | exact p9 ⟨.ret _ _ oV,.nil⟩
 by_cases hs:s=o8 1 60
 ·have eo:P1 s a b=G0 (a6j a b):=by unfold P1;(repeat rw [if_neg (by rw [hs];decide)]);exact if_pos hs
  rw [eo]
  repeat (refine G5 (by rw [hs];decide) ?_;(refine Zw ?_;with_reducible repeat' first|intro _|apply aI))
  refine G7 hs ?_
  (refine Zw ?_;intros)
  refine o7 hL ⟨(a,b),ha.1,hbo.1⟩ (r:=.c (.b (a6j a b))) rfl (.k (.a a.g _ _ (O.g_len a).symm aS) (.k (.a b.g _ _ (O.g_len b).symm aS) .nil)) .nil fun _ _ _ _=>?_
  (refine Zw ?_;intros)
  refine o7 hT (a6j a b) (r:=.a (G0 (a6j a b)).g) rfl u5 .nil fun _ _ _ _=>?_
  (refine Zw ?_;intros)
  first
   | (refine oR fun _ _=>?_;(refine Zw ?_;with_reducible repeat' first|intro _|apply aI);exact p9 ⟨.ret _ _ oV,.nil⟩)
   | exact p9 ⟨.ret _ _ oV,.nil⟩
 by_cases hs:s=o8 6 121437607456361
 ·have eo:P1 s a b=(if a.isTx=true∧b.isTx=true∧named (b.strT,a.strT)=true then O.sy (b.strT,a.strT) else C8):=by unfold P1;(repeat rw [if_neg (by rw [hs];decide)]);exact if_pos hs
  rw [eo]
  repeat (refine G5 (by rw [hs];decide) ?_;(refine Zw ?_;with_reducible repeat' first|intro _|apply aI))
  refine G7 hs ?_
  (refine Zw ?_;intros)
  refine o7 hSt b (r:=.c (.s b.strT)) rfl (.k (.a b.g _ _ (O.g_len b).symm aS) .nil) .nil fun _ _ _ _=>?_
  (refine Zw ?_;intros)
  refine o7 hSt a (r:=.c (.s a.strT)) rfl (.k (.a a.g _ _ (O.g_len a).symm aS) .nil) .nil fun _ _ _ _=>?_
  (refine Zw ?_;intros)
  refine Y1 (gs:=a.g) (g:=.i .i64 a.k) aS (by rw [O.g_eq];rfl) fun _ _=>?_
  (refine Zw ?_;with_reducible repeat' first|intro _|apply aI)
  ((apply a93;(case ht=>(repeat' (first | exact trT | exact trF | apply a0f | apply V7 | exact a0e | exact Y2 | exact a1b | exact a0l | exact a1a | exact U6 | exact U7 | exact U5 | exact U4 | exact V9 | exact a0g | exact a2t | exact a1c | exact trS | exact trV)));all_goals intro _))
  ·have h3:a.k=3:=aS
   refine Y1 (gs:=b.g) (g:=.i .i64 b.k) aS (by rw [O.g_eq];rfl) fun _ _=>?_
   (refine Zw ?_;with_reducible repeat' first|intro _|apply aI)
   ((apply a93;(case ht=>(repeat' (first | exact trT | exact trF | apply a0f | apply V7 | exact a0e | exact Y2 | exact a1b | exact a0l | exact a1a | exact U6 | exact U7 | exact U5 | exact U4 | exact V9 | exact a0g | exact a2t | exact a1c | exact trS | exact trV)));all_goals intro _))
   ·have h4:b.k=3:=aS
    have h5:=(O.k_tx a).1 h3
    have h6:=(O.k_tx b).1 h4
    cases hn:named (b.strT,a.strT) with
    | true =>
     rw [if_pos ⟨h5,h6,rfl⟩]
     refine o7 hV ⟨(b.strT,a.strT),by show b.strT.length < 90000;omega,by show a.strT.length < 90000;omega⟩ (r:=.c (.b true)) (by show u9.ret (.c (.b (named (b.strT,a.strT))))=_;rw [hn]) (.k (.ag _ _ (by (exact Zru))) .nil) .nil fun _ _ _ _=>?_
     (refine Zw ?_;intros)
     refine a32 (gs:=sg (b.strT,a.strT)) (.cells _ _ (.k (.s _ _ _ rfl rfl) (.k (.s _ _ _ rfl rfl) .nil))) rfl fun _ _=>?_
     (refine Zw ?_;intros)
     refine o7 hSy (b.strT,a.strT) (r:=.a (O.sy (b.strT,a.strT)).g) rfl (.k (.a _ _ _ rfl aS) .nil) .nil fun _ _ _ _=>?_
     (refine Zw ?_;intros)
     exact p9 ⟨.ret _ _ oV,.nil⟩
    | false =>
     rw [if_neg (by simp)]
     refine o7 hV ⟨(b.strT,a.strT),by show b.strT.length < 90000;omega,by show a.strT.length < 90000;omega⟩ (r:=.c (.b false)) (by show u9.ret (.c (.b (named (b.strT,a.strT))))=_;rw [hn]) (.k (.ag _ _ (by (exact Zru))) .nil) .nil fun _ _ _ _=>?_
     (refine Zw ?_;intros)
     refine a32 (gs:=sg (b.strT,a.strT)) (.cells _ _ (.k (.s _ _ _ rfl rfl) (.k (.s _ _ _ rfl rfl) .nil))) rfl fun _ _=>?_
     (refine Zw ?_;intros)
     refine o7 hN () (r:=.a C8.g) rfl .nil .nil fun _ _ _ _=>?_
     (refine Zw ?_;intros)
     exact p9 ⟨.ret _ _ oV,.nil⟩
   ·have h4:¬b.k=3:=aS
    rw [if_neg (fun h=>h4 ((O.k_tx b).2 h.2.1))]
    (refine Zw ?_;intros)
    refine a32 (gs:=sg (b.strT,a.strT)) (.cells _ _ (.k (.s _ _ _ rfl rfl) (.k (.s _ _ _ rfl rfl) .nil))) rfl fun _ _=>?_
    (refine Zw ?_;intros)
    refine o7 hN () (r:=.a C8.g) rfl .nil .nil fun _ _ _ _=>?_
    (refine Zw ?_;intros)
    exact p9 ⟨.ret _ _ oV,.nil⟩
  ·have h3:¬a.k=3:=aS
   rw [if_neg (fun h=>h3 ((O.k_tx a).2 h.1))]
   (refine Zw ?_;intros)
   refine a32 (gs:=sg (b.strT,a.strT)) (.cells _ _ (.k (.s _ _ _ rfl rfl) (.k (.s _ _ _ rfl rfl) .nil))) rfl fun _ _=>?_
   (refine Zw ?_;intros)
   refine o7 hN () (r:=.a C8.g) rfl .nil .nil fun _ _ _ _=>?_
   (refine Zw ?_;intros)
   exact p9 ⟨.ret _ _ oV,.nil⟩
 by_cases hs:s=o8 13 7956982234992646578836044149875
 ·have eo:P1 s a b=O.tx (a.strT ++ b.strT):=by unfold P1;(repeat rw [if_neg (by rw [hs];decide)]);exact if_pos hs
  rw [eo]
  repeat (refine G5 (by rw [hs];decide) ?_;(refine Zw ?_;with_reducible repeat' first|intro _|apply aI))
  refine G7 hs ?_
  (refine Zw ?_;intros)
  refine o7 hSt a (r:=.c (.s a.strT)) rfl (.k (.a a.g _ _ (O.g_len a).symm aS) .nil) .nil fun _ _ _ _=>?_
  (refine Zw ?_;intros)
  refine o7 hSt b (r:=.c (.s b.strT)) rfl (.k (.a b.g _ _ (O.g_len b).symm aS) .nil) .nil fun _ _ _ _=>?_
  (refine Zw ?_;intros)
  refine f90 rfl rfl rfl ?_
  refine o7 hX (a.strT ++ b.strT) (r:=.a (O.tx (a.strT ++ b.strT)).g) rfl (.k (.s _ _ _ (by simp) rfl) .nil) .nil fun _ _ _ _=>?_
  (refine Zw ?_;intros)
  first
   | (refine oR fun _ _=>?_;(refine Zw ?_;with_reducible repeat' first|intro _|apply aI);exact p9 ⟨.ret _ _ oV,.nil⟩)
   | exact p9 ⟨.ret _ _ oV,.nil⟩
 by_cases hs:s=o8 11 122651541423547657927947379
 ·have eo:P1 s a b=(if (T0 a b).2=true then O.num ((a.strT.getD (T0 a b).1.toNat 0).toNat:Int) 1 else C8):=by unfold P1;(repeat rw [if_neg (by rw [hs];decide)]);exact if_pos hs
  rw [eo]
  repeat (refine G5 (by rw [hs];decide) ?_;(refine Zw ?_;with_reducible repeat' first|intro _|apply aI))
  refine G7 hs ?_
  (refine Zw ?_;intros)
  have hix:=f5x a b
  refine o7 hIx ⟨(a,b),hbo.2.1⟩ (r:=.t [.c (.i .i64 (T0 a b).1),.c (.b (T0 a b).2)]) rfl (.k (.a a.g _ _ (O.g_len a).symm aS) (.k (.a b.g _ _ (O.g_len b).symm aS) .nil)) .nil fun _ _ _ _=>?_
  generalize T0 a b=ix at *
  obtain ⟨m,o⟩:=ix
  cases o with
  | false =>
   rw [if_neg (by simp)]
   (refine Zw ?_;intros)
   refine o7 hN () (r:=.a C8.g) rfl .nil .nil fun _ _ _ _=>?_
   (refine Zw ?_;intros)
   exact p9 ⟨.ret _ _ oV,.nil⟩
  | true =>
   rw [if_pos rfl]
   obtain ⟨hm0,hm1,hm2⟩:=hix rfl
   (refine Zw ?_;intros)
   dsimp only at hm0 hm1 hm2 ⊢
   refine Y1 (gs:=a.g) (g:=.s a.strT) aS (by rw [O.g_eq,hm2];rfl) fun _ _=>?_
   (refine Zw ?_;intros)
   have hbt:=(a.strT.getD m.toNat 0).toNat_lt
   refine c5g rfl oM ?_
   refine o7 hIn ⟨((a.strT.getD m.toNat 0).toNat:Int),oM,oM⟩ (r:=.a (O.num ((a.strT.getD m.toNat 0).toNat:Int) 1).g) rfl u5 .nil fun _ _ _ _=>?_
   (refine Zw ?_;intros)
   exact p9 ⟨.ret _ _ oV,.nil⟩
 have eo:P1 s a b=.no:=by unfold P1;(repeat rw [if_neg aS])
 rw [eo]
 repeat (refine G5 aS ?_;(refine Zw ?_;with_reducible repeat' first|intro _|apply aI))
 exact p9 ⟨.ret _ _ u5,.nil⟩
open Classical in
def apV (o:O):Option (O × Int):=if o.sm then some (if decide (o.size≤3000) && o.fm then (o,0) else (.no,2)) else none
def apO:Ap:=fun f os=>match D5 f with
 | none=>some (.no,7)
 | some n=>if (os.length:Int)=n then (match os with
  | [a]=>(g85 f.2 a).bind apV
  | [a,b]=>(h0s f.2 a b).bind apV
  | [a,b,c]=>apV (if O.eqb a C8 then c else b)
  | _=>none) else some (.no,5)
theorem a86 {o:O} {r:O × Int} (h:apV o=some r):o.sm∧r=(if decide (o.size≤3000) && o.fm then (o,0) else (.no,2)):=by
 unfold apV at h
 split at h
 ·injection h with h;exact ⟨aS,h.symm⟩
 ·cases h
open Classical in
def apT:Ap:=fun f os=>match D5 f with
 | none=>some (.no,7)
 | some n=>if (os.length:Int)=n then (match os with
  | [a]=>if a.ok then apV (G6 f.2 a) else none
  | [a,b]=>if a.ok∧b.ok then apV (P1 f.2 a b) else none
  | [a,b,c]=>apV (if O.eqb a C8 then c else b)
  | _=>none) else some (.no,5)
theorem e83 (hItoa:a0j):s9 91 (e34 apT):=u2 (fun fn h=>f9k h) [(87,_),(134,_),(135,_),(97,_),(136,_)] (.cons b8e (.cons (g4c hItoa) (.cons (g4h hItoa) (.cons f6e (.cons e9o .nil))))) fun U fn hfn ⟨((f,os),r),hr⟩ vs bs hv hb=>by
 have hY:=hfn 87 _ rfl
 have h1:=hfn 134 _ rfl
 have h2:=hfn 135 _ rfl
 have hN:=hfn 97 _ rfl
 have hV:=hfn 136 _ rfl
 change t7 [.a [.s f.1,.s f.2],.sl 7 (os.map O.g)] vs at hv
 change s5 [] bs at hb
 have hr:apT f os=some r:=hr
 show s4 U _ fun v bs'=>u0 (.ret (.t [.a r.1.g,.c (.i .i64 r.2)])) v∧s5 [] bs'
 unfold r91
 unfold apT at hr
 (refine Zz ?_;with_reducible repeat' first|intro _|apply aI)
 cases ep:D5 f with
 | none =>
  rw [ep] at hr
  injection hr with hr
  subst hr
  refine o7 hY f (r:=.t [.c (.i .i64 0),.c (.b false)]) (by show u9.ret (V0 (D5 f))=_;rw [ep];rfl) u5 .nil fun _ _ _ _=>?_
  (refine Zz ?_;intros)
  exact p9 ⟨a2q _,.nil⟩
 | some n =>
  rw [ep] at hr
  simp only at hr
  refine o7 hY f (r:=.t [.c (.i .i64 n),.c (.b true)]) (by show u9.ret (V0 (D5 f))=_;rw [ep];rfl) u5 .nil fun _ _ _ _=>?_
  by_cases hn:(os.length:Int)=n
  ·rw [if_pos hn] at hr
   (refine Zz ?_;with_reducible repeat' first|intro _|apply aI)
   ·
    have h1n:n=1:=aS
    have hl:os.length=1:=oM
    obtain ⟨a,rfl⟩:∃ a,os=[a]:=by
     match os,hl with
     | [a],_=>exact ⟨a,rfl⟩
    by_cases e1:a.ok
    case neg=>simp only [if_neg e1] at hr;cases hr
    simp only [if_pos e1] at hr
    generalize eo:G6 f.2 a=o at hr
    obtain ⟨hs,hrr⟩:=a86 hr
    refine o7 h1 ⟨(f.2,a),e1⟩ (r:=.a o.g) (by rw [← eo];rfl) (.k u5 oA) .nil fun _ _ _ _=>?_
    (refine Zz ?_;intros)
    refine oR fun _ _=>?_
    (refine Zz ?_;with_reducible repeat' first|intro _|apply aI)
    cases eb:(decide ((o).size≤3000) && (o).fm) with
    | true =>
     rw [eb] at hrr
     simp only [if_true,Bool.false_eq_true,if_false] at hrr
     subst hrr
     refine o7 hV ⟨o,hs⟩ (r:=.c (.b true)) (by show u9.ret (.c (.b (decide ((o).size≤3000) && (o).fm)))=_;rw [eb]) oA .nil fun _ _ _ _=>?_
     (refine Zz ?_;intros)
     exact p9 ⟨rrA aS _,.nil⟩
    | false =>
     rw [eb] at hrr
     simp only [if_true,Bool.false_eq_true,if_false] at hrr
     subst hrr
     refine o7 hV ⟨o,hs⟩ (r:=.c (.b false)) (by show u9.ret (.c (.b (decide ((o).size≤3000) && (o).fm)))=_;rw [eb]) oA .nil fun _ _ _ _=>?_
     (refine Zz ?_;intros)
     exact p9 ⟨a2q _,.nil⟩
   ·
    have h1n:n=2:=aS
    have hl:os.length=2:=oM
    obtain ⟨a,b,rfl⟩:∃ a b,os=[a,b]:=by
     match os,hl with
     | [a,b],_=>exact ⟨a,b,rfl⟩
    by_cases e1:a.ok∧b.ok
    case neg=>simp only [if_neg e1] at hr;cases hr
    simp only [if_pos e1] at hr
    generalize eo:P1 f.2 a b=o at hr
    obtain ⟨hs,hrr⟩:=a86 hr
    refine o7 h2 ⟨(f.2,a,b),e1⟩ (r:=.a o.g) (by rw [← eo];rfl) (.k u5 (.k oV oA)) .nil fun _ _ _ _=>?_
    (refine Zz ?_;intros)
    refine oR fun _ _=>?_
    (refine Zz ?_;with_reducible repeat' first|intro _|apply aI)
    cases eb:(decide ((o).size≤3000) && (o).fm) with
    | true =>
     rw [eb] at hrr
     simp only [if_true,Bool.false_eq_true,if_false] at hrr
     subst hrr
     refine o7 hV ⟨o,hs⟩ (r:=.c (.b true)) (by show u9.ret (.c (.b (decide ((o).size≤3000) && (o).fm)))=_;rw [eb]) oA .nil fun _ _ _ _=>?_
     (refine Zz ?_;intros)
     exact p9 ⟨rrA aS _,.nil⟩
    | false =>
     rw [eb] at hrr
     simp only [if_true,Bool.false_eq_true,if_false] at hrr
     subst hrr
     refine o7 hV ⟨o,hs⟩ (r:=.c (.b false)) (by show u9.ret (.c (.b (decide ((o).size≤3000) && (o).fm)))=_;rw [eb]) oA .nil fun _ _ _ _=>?_
     (refine Zz ?_;intros)
     exact p9 ⟨a2q _,.nil⟩
   have key:∃ _:os.length=3,apV (if O.eqb os[0] C8 then os[2] else os[1])=some r:=by
    have n1:¬n=1:=aS
    have n2:¬n=2:=aS
    clear hv
    match os,hr,hn with
    | [],hr,_=>cases hr
    | [a],_,hn=>exact absurd (by rw [← hn];rfl) n1
    | [a,b],_,hn=>exact absurd (by rw [← hn];rfl) n2
    | [a,b,c],hr,_=>exact ⟨rfl,hr⟩
    | _ :: _ :: _ :: _ :: _,hr,_=>cases hr
   obtain ⟨hl,key⟩:=key
   (refine Zz ?_;with_reducible repeat' first|intro _|apply aI)
   cases en:O.eqb os[0] C8 with
   | true =>
    rw [en] at key
    simp only [if_true,Bool.false_eq_true,if_false] at key
    obtain ⟨hs,hrr⟩:=a86 key
    refine o7 hN os[0] (r:=.c (.b true)) (by show u9.ret (.c (.b (O.eqb os[0] C8)))=_;rw [en]) oA .nil fun _ _ _ _=>?_
    (refine Zz ?_;with_reducible repeat' first|intro _|apply aI)
    cases eb:(decide ((os[2]).size≤3000) && (os[2]).fm) with
    | true =>
     rw [eb] at hrr
     simp only [if_true,Bool.false_eq_true,if_false] at hrr
     subst hrr
     refine o7 hV ⟨os[2],hs⟩ (r:=.c (.b true)) (by show u9.ret (.c (.b (decide ((os[2]).size≤3000) && (os[2]).fm)))=_;rw [eb]) oA .nil fun _ _ _ _=>?_
     (refine Zz ?_;intros)
     exact p9 ⟨rrA aS _,.nil⟩
    | false =>
     rw [eb] at hrr
     simp only [if_true,Bool.false_eq_true,if_false] at hrr
     subst hrr
     refine o7 hV ⟨os[2],hs⟩ (r:=.c (.b false)) (by show u9.ret (.c (.b (decide ((os[2]).size≤3000) && (os[2]).fm)))=_;rw [eb]) oA .nil fun _ _ _ _=>?_
     (refine Zz ?_;intros)
     exact p9 ⟨a2q _,.nil⟩
   | false =>
    rw [en] at key
    simp only [if_true,Bool.false_eq_true,if_false] at key
    obtain ⟨hs,hrr⟩:=a86 key
    refine o7 hN os[0] (r:=.c (.b false)) (by show u9.ret (.c (.b (O.eqb os[0] C8)))=_;rw [en]) oA .nil fun _ _ _ _=>?_
    (refine Zz ?_;with_reducible repeat' first|intro _|apply aI)
    cases eb:(decide ((os[1]).size≤3000) && (os[1]).fm) with
    | true =>
     rw [eb] at hrr
     simp only [if_true,Bool.false_eq_true,if_false] at hrr
     subst hrr
     refine o7 hV ⟨os[1],hs⟩ (r:=.c (.b true)) (by show u9.ret (.c (.b (decide ((os[1]).size≤3000) && (os[1]).fm)))=_;rw [eb]) oA .nil fun _ _ _ _=>?_
     (refine Zz ?_;intros)
     exact p9 ⟨rrA aS _,.nil⟩
    | false =>
     rw [eb] at hrr
     simp only [if_true,Bool.false_eq_true,if_false] at hrr
     subst hrr
     refine o7 hV ⟨os[1],hs⟩ (r:=.c (.b false)) (by show u9.ret (.c (.b (decide ((os[1]).size≤3000) && (os[1]).fm)))=_;rw [eb]) oA .nil fun _ _ _ _=>?_
     (refine Zz ?_;intros)
     exact p9 ⟨a2q _,.nil⟩
   exact absurd hn aS
  ·rw [if_neg hn] at hr
   injection hr with hr
   subst hr
   (refine Zz ?_;with_reducible repeat' first|intro _|apply aI)
   all_goals first
    | exact absurd aS hn
    | exact p9 ⟨a2q _,.nil⟩
def W (L:List (List F)) (E:Prop) (t:T) (env:Q1) (l:Nat) (Q:O→Nat→Prop):Prop :=
 ∃ n r,H0 apO L n t env l=some r∧(r.2.1=0∧Q r.1 r.2.2∨r.2.1 ≠ 0∧E)
variable {L:List (List F)} {E:Prop}
abbrev y0:Sy:=(s8,(o8 3 7630702))
abbrev y1:Sy:=(s8,(o8 1 112))
abbrev y2:Sy:=(s8,(o8 1 116))
abbrev y3:Sy:=(s8,(o8 2 26217))
abbrev y4:Sy:=(s8,(o8 3 7104878))
def zf0:Fin 11→G:=fun i=>([.i .i64 0,.s (o8 0 0),.s (o8 0 0),.i .i64 0,.s (o8 0 0),.s (o8 0 0),.s (o8 0 0),.s (o8 0 0),.s (o8 0 0),.l [],.l []]:List G).getD i.1 (.b false)
def T4:Fin 17→G:=fun i=>([.s (o8 0 0),.l [],.s (o8 0 0),.s (o8 0 0),.l [],.b false,.i .i64 0,.s (o8 0 0),.s (o8 0 0),.i .i64 0,.s (o8 0 0),.s (o8 0 0),.s (o8 0 0),.s (o8 0 0),.s (o8 0 0),.l [],.l []]:List G).getD i.1 (.b false)
def S9:Fin 11→G:=fun i=>([.l [],.l [],.l [],.s (o8 0 0),.s (o8 0 0),.l [],.l [],.l [],.l [],.s (o8 0 0),.i .u64 0]:List G).getD i.1 (.b false)
abbrev y5:Sy:=(s8,(o8 7 32481125787004265))
abbrev y6:Sy:=(s8,(o8 1 113))
abbrev y7:Sy:=(s8,(o8 3 6710889))
abbrev y8:Sy:=(s8,(o8 8 8101519867924934498))
abbrev y9:Sy:=(s8,(o8 1 120))
abbrev y10:Sy:=(s8,(o8 5 465491554661))
abbrev y11:Sy:=(s8,(o8 7 31657557352151411))
abbrev y12:Sy:=(s8,(o8 4 1836020833))
abbrev y13:Sy:=(s8,(o8 5 482972954467))
abbrev y14:Sy:=(s8,(o8 4 1885630053))
abbrev y15:Sy:=(s8,(o8 3 7891302))
abbrev y16:Sy:=(s8,(o8 9 2073844980909096591730))
abbrev y17:Sy:=(s8,(o8 4 2020173417))
abbrev y18:Sy:=(s8,(o8 8 8102650174351109737))
abbrev y19:Sy:=(s8,(o8 4 1886675310))
abbrev y20:Sy:=(s8,(o8 1 60))
abbrev y21:Sy:=(s8,(o8 4 1886613360))
abbrev y22:Sy:=(s8,(o8 4 2020173422))
abbrev y23:Sy:=(s8,(o8 2 28794))
abbrev y24:Sy:=(s8,(o8 5 500069396323))
abbrev y25:Sy:=(s8,(o8 8 3111276449750739298))
abbrev y26:Sy:=(s8,(o8 3 7496035))
abbrev y27:Sy:=(s8,(o8 3 7496803))
def zf3:Fin 11→G:=fun i=>([.i .i64 3,.s (o8 4 1886611820),.s (o8 5 500069396323),.i .i64 0,.s (o8 0 0),.s (o8 0 0),.s (o8 0 0),.s (o8 0 0),.s (o8 0 0),.l [],.l [[.i .i64 1,.s (o8 4 1886611820),.s (o8 1 120),.i .i64 0,.s (o8 0 0),.s (o8 0 0),.s (o8 0 0),.s (o8 0 0),.s (o8 0 0),.l [],.l []]]]:List G).getD i.1 (.b false)
abbrev y28:Sy:=(s8,(o8 6 123619517017455))
abbrev y29:Sy:=(s8,(o8 16 154763657438445722016110534213293714799))
abbrev y30:Sy:=(s8,(o8 19 2596503303086219638716254741629954753688907119))
abbrev y31:Sy:=(s8,(o8 6 128038972042607))
abbrev y32:Sy:=(s8,(o8 2 15471))
abbrev y33:Sy:=(s8,(o8 1 121))
abbrev y34:Sy:=(s8,(o8 3 7351663))
abbrev y35:Sy:=(s8,(o8 3 7234924))
abbrev y36:Sy:=(s8,(o8 10 531053184691079719776884))
abbrev y37:Sy:=(s8,(o8 13 7956982234992646598644298836322))
abbrev y38:Sy:=(s8,(o8 4 1936617315))
abbrev y39:Sy:=(s8,(o8 3 7759218))
abbrev y40:Sy:=(s8,(o8 12 33542201473859071681443489133))
abbrev y41:Sy:=(s8,(o8 1 101))
abbrev y42:Sy:=(s8,(o8 11 131024224507261934500016993))
abbrev y43:Sy:=(s8,(o8 1 107))
abbrev y44:Sy:=(s8,(o8 1 97))
def zf4:Fin 11→G:=fun i=>([.i .i64 3,.s (o8 4 1886611820),.s (o8 5 500069396323),.i .i64 0,.s (o8 0 0),.s (o8 0 0),.s (o8 0 0),.s (o8 0 0),.s (o8 0 0),.l [],.l [[.i .i64 1,.s (o8 4 1886611820),.s (o8 1 97),.i .i64 0,.s (o8 0 0),.s (o8 0 0),.s (o8 0 0),.s (o8 0 0),.s (o8 0 0),.l [],.l []]]]:List G).getD i.1 (.b false)
abbrev y45:Sy:=(s8,(o8 3 6845550))
abbrev y46:Sy:=(s8,(o8 1 110))
def zf5:Fin 11→G:=fun i=>([.i .i64 3,.s (o8 4 1886611820),.s (o8 4 2020173422),.i .i64 0,.s (o8 0 0),.s (o8 0 0),.s (o8 0 0),.s (o8 0 0),.s (o8 0 0),.l [],.l [[.i .i64 1,.s (o8 4 1886611820),.s (o8 1 110),.i .i64 0,.s (o8 0 0),.s (o8 0 0),.s (o8 0 0),.s (o8 0 0),.s (o8 0 0),.l [],.l []]]]:List G).getD i.1 (.b false)
abbrev y47:Sy:=(s8,(o8 10 493273875644262058848373))
abbrev y48:Sy:=(s8,(o8 1 118))
abbrev y49:Sy:=(s8,(o8 12 31382965401887741211696264053))
def zf6:Fin 17→G:=fun i=>([.s (o8 4 1919251317),.l [[.s (o8 4 1886611820),.s (o8 2 26217)],[.s (o8 4 1886611820),.s (o8 5 465491554661)],[.s (o8 4 1886611820),.s (o8 4 1936617315)],[.s (o8 4 1886611820),.s (o8 3 7496035)],[.s (o8 4 1886611820),.s (o8 3 7496803)],[.s (o8 4 1886611820),.s (o8 5 482972954467)],[.s (o8 4 1886611820),.s (o8 7 31644423040104819)],[.s (o8 4 1886611820),.s (o8 7 31638921304765555)],[.s (o8 4 1886611820),.s (o8 9 2073844980909096591730)],[.s (o8 4 1886611820),.s (o8 8 8102650174351109737)],[.s (o8 4 1886611820),.s (o8 8 3111276449750739298)],[.s (o8 4 1886611820),.s (o8 8 3039218855712811362)],[.s (o8 4 1886611820),.s (o8 7 12716373585260149)],[.s (o8 4 1886611820),.s (o8 7 13279323538681461)],[.s (o8 4 1886611820),.s (o8 1 60)],[.s (o8 4 1886611820),.s (o8 9 2110959975582353159534)],[.s (o8 4 1886611820),.s (o8 11 138343872958643594702251364)],[.s (o8 4 1886611820),.s (o8 5 491495844966)],[.s (o8 4 1886611820),.s (o8 11 122618043001006431572687219)],[.s (o8 4 1886611820),.s (o8 19 2261903658058535744205936875630873591400986995)],[.s (o8 4 1886611820),.s (o8 6 121437607456361)],[.s (o8 4 1886611820),.s (o8 13 7956982234992646578836044149875)],[.s (o8 4 1886611820),.s (o8 13 8275754203313416711865239762035)],[.s (o8 4 1886611820),.s (o8 11 122651541423547657927947379)],[.s (o8 4 1886611820),.s (o8 11 125040764888893661906237794)],[.s (o8 4 1886611820),.s (o8 3 7630702)],[.s (o8 4 1886611820),.s (o8 7 32481125787004265)],[.s (o8 4 1886611820),.s (o8 3 6710889)],[.s (o8 4 1886611820),.s (o8 8 8101519867924934498)],[.s (o8 4 1886611820),.s (o8 7 31657557352151411)],[.s (o8 4 1886611820),.s (o8 4 1836020833)],[.s (o8 4 1886611820),.s (o8 4 1885630053)],[.s (o8 4 1886611820),.s (o8 3 7891302)],[.s (o8 4 1886611820),.s (o8 4 2020173417)],[.s (o8 4 1886611820),.s (o8 4 1886675310)],[.s (o8 4 1886611820),.s (o8 4 1886613360)],[.s (o8 4 1886611820),.s (o8 4 2020173422)],[.s (o8 4 1886611820),.s (o8 2 28794)],[.s (o8 4 1886611820),.s (o8 5 500069396323)],[.s (o8 4 1886611820),.s (o8 6 123619517017455)],[.s (o8 4 1886611820),.s (o8 16 154763657438445722016110534213293714799)],[.s (o8 4 1886611820),.s (o8 19 2596503303086219638716254741629954753688907119)],[.s (o8 4 1886611820),.s (o8 6 128038972042607)],[.s (o8 4 1886611820),.s (o8 2 15471)],[.s (o8 4 1886611820),.s (o8 3 7351663)],[.s (o8 4 1886611820),.s (o8 3 7234924)],[.s (o8 4 1886611820),.s (o8 10 531053184691079719776884)],[.s (o8 4 1886611820),.s (o8 13 7956982234992646598644298836322)],[.s (o8 4 1886611820),.s (o8 3 7759218)],[.s (o8 4 1886611820),.s (o8 12 33542201473859071681443489133)],[.s (o8 4 1886611820),.s (o8 11 131024224507261934500016993)],[.s (o8 4 1886611820),.s (o8 3 6845550)],[.s (o8 4 1886611820),.s (o8 10 493273875644262058848373)],[.s (o8 4 1886611820),.s (o8 3 7104878)],[.s (o8 4 1886611820),.s (o8 1 116)],[.s (o8 4 1886611820),.s (o8 5 435745158513)],[.s (o8 4 1886611820),.s (o8 3 7628140)],[.s (o8 4 1886611820),.s (o8 4 712271212)],[.s (o8 4 1886611820),.s (o8 4 1684959075)],[.s (o8 4 1886611820),.s (o8 3 6581857)],[.s (o8 4 1886611820),.s (o8 2 29295)],[.s (o8 4 1886611820),.s (o8 4 1953720684)],[.s (o8 4 1886611820),.s (o8 5 182342347116)],[.s (o8 4 1886611820),.s (o8 1 43)],[.s (o8 4 1886611820),.s (o8 1 42)],[.s (o8 4 1886611820),.s (o8 1 45)],[.s (o8 4 1886611820),.s (o8 1 47)],[.s (o8 4 1886611820),.s (o8 2 15676)],[.s (o8 4 1886611820),.s (o8 1 62)],[.s (o8 4 1886611820),.s (o8 2 15678)],[.s (o8 4 1886611820),.s (o8 6 110425311047777)],[.s (o8 4 1886611820),.s (o8 6 113711144920420)],[.s (o8 4 1886611820),.s (o8 8 8030590355653420388)],[.s (o8 4 1886611820),.s (o8 5 474416047460)],[.s (o8 4 1886611820),.s (o8 16 146793563287308389278137555690041144685)],[.s (o8 4 1886611820),.s (o8 6 120295396894052)],[.s (o8 4 1886611820),.s (o8 11 122651099442545230195420773)],[.s (o8 4 1886611820),.s (o8 9 1871439140975576245604)],[.s (o8 4 1886611820),.s (o8 8 7665812061680985444)],[.s (o8 4 1886611820),.s (o8 9 2240301953860894551657)],[.s (o8 4 1886611820),.s (o8 12 33249612810592795105945677417)],[.s (o8 4 1886611820),.s (o8 8 7810757299313993060)],[.s (o8 4 1886611820),.s (o8 4 1868852853)],[.s (o8 4 1886611820),.s (o8 11 122571058227094386601518436)],[.s (o8 4 1886611820),.s (o8 8 8532480098923079012)],[.s (o8 4 1886611820),.s (o8 12 35416027086437465716643226980)],[.s (o8 4 1886611820),.s (o8 5 465490374508)],[.s (o8 4 1886611820),.s (o8 7 28554735403623780)],[.s (o8 4 1886611820),.s (o8 5 431415719271)],[.s (o8 4 1886611820),.s (o8 7 28554821420279149)],[.s (o8 4 1886611820),.s (o8 9 1871368777699076565363)],[.s (o8 4 1886611820),.s (o8 4 1953719666)],[.s (o8 4 1886611820),.s (o8 6 111516181425765)],[.s (o8 4 1886611820),.s (o8 7 28548142445324644)],[.s (o8 4 1886611820),.s (o8 5 495874632040)],[.s (o8 4 1886611820),.s (o8 3 6648693)],[.s (o8 4 1886611820),.s (o8 6 127970520100457)],[.s (o8 4 1886611820),.s (o8 7 32780218652715383)],[.s (o8 4 1886611820),.s (o8 12 35713422837776953901583201650)],[.s (o8 4 1886611820),.s (o8 7 28556968888591730)],[.s (o8 4 1886611820),.s (o8 17 37579152221671205238173544792657207785844)],[.s (o8 4 1886611820),.s (o8 16 137483774621005110734058729535024820070)],[.s (o8 4 1886611820),.s (o8 6 125762639128940)],[.s (o8 4 1886611820),.s (o8 4 1835625573)],[.s (o8 4 1886611820),.s (o8 11 122571058513053206090969445)],[.s (o8 4 1886611820),.s (o8 10 478793197326582454054755)],[.s (o8 4 1886611820),.s (o8 10 479217114100642154964327)],[.s (o8 4 1886611820),.s (o8 9 2110959713842717749872)],[.s (o8 4 1886611820),.s (o8 8 8747795240677370227)],[.s (o8 4 1886611820),.s (o8 11 139566875009997741940237668)],[.s (o8 4 1886611820),.s (o8 9 1871941851990027560294)],[.s (o8 4 1886611820),.s (o8 14 2239892019062521052805444961985895)],[.s (o8 4 1886611820),.s (o8 11 122571058227641934735897193)],[.s (o8 4 1886611820),.s (o8 9 2037169923889335397993)]],.s (o8 0 0),.s (o8 0 0),.l [],.b false,.i .i64 0,.s (o8 0 0),.s (o8 0 0),.i .i64 0,.s (o8 0 0),.s (o8 0 0),.s (o8 0 0),.s (o8 0 0),.s (o8 0 0),.l [],.l []]:List G).getD i.1 (.b false)
def fn0:F:={ nm:=y0,ps:=[y1],cl:=1,gd:=.c (.sy y2),bo:=.call y3 [.v y1,.c (.sy y4),.c (.sy y2)],me:=zf0 }
def et0:Et:={ kd:=3,nm:=y0,pre:=T4,fns:=[fn0],post:=S9 }
def fn1:F:={ nm:=y5,ps:=[y1,y6],cl:=1,gd:=.c (.sy y2),bo:=.call y3 [.v y1,.call y3 [.v y6,.c (.sy y2),.c (.sy y4)],.c (.sy y2)],me:=zf0 }
def et1:Et:={ kd:=3,nm:=y5,pre:=T4,fns:=[fn1],post:=S9 }
def fn2:F:={ nm:=y7,ps:=[y1,y6],cl:=1,gd:=.c (.sy y2),bo:=.call y3 [.v y1,.call y3 [.v y6,.c (.sy y2),.c (.sy y4)],.call y3 [.v y6,.c (.sy y4),.c (.sy y2)]],me:=zf0 }
def et2:Et:={ kd:=3,nm:=y7,pre:=T4,fns:=[fn2],post:=S9 }
def fn3:F:={ nm:=y8,ps:=[y9],cl:=1,gd:=.c (.sy y2),bo:=.call y3 [.call y10 [.v y9,.c (.sy y2)],.c (.sy y2),.call y10 [.v y9,.c (.sy y4)]],me:=zf0 }
def et3:Et:={ kd:=3,nm:=y8,pre:=T4,fns:=[fn3],post:=S9 }
def fn4:F:={ nm:=y11,ps:=[y9],cl:=1,gd:=.c (.sy y2),bo:=.c (.sy y2),me:=zf0 }
def et4:Et:={ kd:=3,nm:=y11,pre:=T4,fns:=[fn4],post:=S9 }
def fn5:F:={ nm:=y12,ps:=[y9],cl:=1,gd:=.c (.sy y2),bo:=.call y0 [.call y13 [.v y9]],me:=zf0 }
def et5:Et:={ kd:=3,nm:=y12,pre:=T4,fns:=[fn5],post:=S9 }
def fn6:F:={ nm:=y14,ps:=[y9],cl:=1,gd:=.call y3 [.call y13 [.v y9],.call y13 [.v y9],.call y10 [.v y9,.c (.sy y4)]],bo:=.call y0 [.call y13 [.v y9]],me:=zf0 }
def et6:Et:={ kd:=3,nm:=y14,pre:=T4,fns:=[fn6],post:=S9 }
def fn7:F:={ nm:=y15,ps:=[y9],cl:=1,gd:=.c (.sy y2),bo:=.call y3 [.call y16 [.v y9],.v y9,.c (.num 0 1)],me:=zf0 }
def et7:Et:={ kd:=3,nm:=y15,pre:=T4,fns:=[fn7],post:=S9 }
def fn8:F:={ nm:=y17,ps:=[y9],cl:=1,gd:=.c (.sy y2),bo:=.call y3 [.call y18 [.v y9],.v y9,.c (.num 0 1)],me:=zf0 }
def et8:Et:={ kd:=3,nm:=y17,pre:=T4,fns:=[fn8],post:=S9 }
def fn9:F:={ nm:=y19,ps:=[y9],cl:=1,gd:=.c (.sy y2),bo:=.call y3 [.call y18 [.v y9],.call y0 [.call y20 [.v y9,.c (.num 0 1)]],.c (.sy y4)],me:=zf0 }
def et9:Et:={ kd:=3,nm:=y19,pre:=T4,fns:=[fn9],post:=S9 }
def g75:F:={ nm:=y21,ps:=[y9],cl:=1,gd:=.c (.sy y2),bo:=.call y3 [.call y18 [.v y9],.call y20 [.c (.num 0 1),.v y9],.c (.sy y4)],me:=zf0 }
def g7m:Et:={ kd:=3,nm:=y21,pre:=T4,fns:=[g75],post:=S9 }
def g76:F:={ nm:=y22,ps:=[y9],cl:=1,gd:=.c (.sy y2),bo:=.call y3 [.call y19 [.v y9],.v y9,.c (.num 0 1)],me:=zf0 }
def g7n:Et:={ kd:=3,nm:=y22,pre:=T4,fns:=[g76],post:=S9 }
def g77:F:={ nm:=y23,ps:=[y9],cl:=1,gd:=.call y19 [.v y9],bo:=.call y3 [.call y18 [.v y9],.call y0 [.call y20 [.c (.num 0 1),.v y9]],.c (.sy y2)],me:=zf0 }
def g7o:Et:={ kd:=3,nm:=y23,pre:=T4,fns:=[g77],post:=S9 }
def g78:F:={ nm:=y24,ps:=[y9],cl:=1,gd:=.c (.sy y2),bo:=.call y3 [.call y13 [.v y9],.call y25 [.c (.num 1 1),.call y25 [.call y24 [.call y26 [.v y9]],.call y24 [.call y27 [.v y9]]]],.c (.num 0 1)],me:=zf3 }
def g7p:Et:={ kd:=3,nm:=y24,pre:=T4,fns:=[g78],post:=S9 }
def g79:F:={ nm:=y28,ps:=[y9],cl:=1,gd:=.c (.sy y2),bo:=.call y0 [.call y13 [.v y9]],me:=zf0 }
def g7q:Et:={ kd:=3,nm:=y28,pre:=T4,fns:=[g79],post:=S9 }
def g8a:F:={ nm:=y29,ps:=[y9],cl:=1,gd:=.c (.sy y2),bo:=.call y3 [.call y13 [.v y9],.call y26 [.call y26 [.v y9]],.c (.num 0 1)],me:=zf0 }
def g7r:Et:={ kd:=3,nm:=y29,pre:=T4,fns:=[g8a],post:=S9 }
def g8b:F:={ nm:=y30,ps:=[y9],cl:=1,gd:=.c (.sy y2),bo:=.call y3 [.call y13 [.v y9],.call y27 [.call y26 [.v y9]],.v y9],me:=zf0 }
def g7s:Et:={ kd:=3,nm:=y30,pre:=T4,fns:=[g8b],post:=S9 }
def g8c:F:={ nm:=y31,ps:=[y9],cl:=1,gd:=.c (.sy y2),bo:=.call y3 [.call y13 [.v y9],.call y27 [.v y9],.c (.num 0 1)],me:=zf0 }
def g7t:Et:={ kd:=3,nm:=y31,pre:=T4,fns:=[g8c],post:=S9 }
def g8d:F:={ nm:=y32,ps:=[y9,y33],cl:=1,gd:=.c (.sy y2),bo:=.call y3 [.call y28 [.v y9],.call y3 [.call y13 [.v y33],.c (.sy y2),.call y20 [.v y9,.v y33]],.call y3 [.call y28 [.v y33],.c (.sy y4),.call y3 [.call y0 [.call y10 [.call y29 [.v y9],.call y29 [.v y33]]],.call y32 [.call y29 [.v y9],.call y29 [.v y33]],.call y3 [.call y0 [.call y10 [.call y30 [.v y9],.call y30 [.v y33]]],.call y20 [.call y30 [.v y9],.call y30 [.v y33]],.call y3 [.c (.sy y2),.call y32 [.call y31 [.v y9],.call y31 [.v y33]],.c (.sy y4)]]]]],me:=zf3 }
def g7u:Et:={ kd:=3,nm:=y32,pre:=T4,fns:=[g8d],post:=S9 }
def g8e:F:={ nm:=y34,ps:=[y9],cl:=1,gd:=.c (.sy y2),bo:=.call y3 [.call y28 [.v y9],.call y19 [.v y9],.call y3 [.call y13 [.call y26 [.v y9]],.call y3 [.call y34 [.call y29 [.v y9]],.call y3 [.call y0 [.call y10 [.call y29 [.v y9],.c (.num 0 1)]],.call y3 [.call y21 [.call y30 [.v y9]],.call y3 [.call y34 [.call y31 [.v y9]],.call y32 [.call y29 [.call y31 [.v y9]],.call y29 [.v y9]],.c (.sy y4)],.c (.sy y4)],.c (.sy y4)],.c (.sy y4)],.c (.sy y4)]],me:=zf3 }
def g7v:Et:={ kd:=3,nm:=y34,pre:=T4,fns:=[g8e],post:=S9 }
def g8f:F:={ nm:=y35,ps:=[y9],cl:=1,gd:=.c (.sy y2),bo:=.call y3 [.call y13 [.v y9],.call y25 [.c (.num 1 1),.call y35 [.call y27 [.v y9]]],.c (.num 0 1)],me:=zf3 }
def g7w:Et:={ kd:=3,nm:=y35,pre:=T4,fns:=[g8f],post:=S9 }
def g8g:F:={ nm:=y36,ps:=[y9],cl:=1,gd:=.c (.sy y2),bo:=.call y3 [.call y13 [.v y9],.call y36 [.call y27 [.v y9]],.call y10 [.v y9,.c (.sy y4)]],me:=zf3 }
def g7x:Et:={ kd:=3,nm:=y36,pre:=T4,fns:=[g8g],post:=S9 }
def g8h:F:={ nm:=y37,ps:=[y9,y33],cl:=1,gd:=.call y36 [.v y9],bo:=.call y3 [.call y13 [.v y9],.call y38 [.call y26 [.v y9],.call y37 [.call y27 [.v y9],.v y33]],.v y33],me:=zf3 }
def g7y:Et:={ kd:=3,nm:=y37,pre:=T4,fns:=[g8h],post:=S9 }
def g8i:F:={ nm:=y39,ps:=[y9],cl:=1,gd:=.c (.sy y2),bo:=.call y3 [.call y13 [.v y9],.call y37 [.call y39 [.call y27 [.v y9]],.call y38 [.call y26 [.v y9],.c (.sy y4)]],.c (.sy y4)],me:=zf3 }
def g7z:Et:={ kd:=3,nm:=y39,pre:=T4,fns:=[g8i],post:=S9 }
def g8j:F:={ nm:=y40,ps:=[y41,y9],cl:=1,gd:=.call y36 [.v y9],bo:=.call y3 [.call y13 [.v y9],.call y3 [.call y10 [.v y41,.call y26 [.v y9]],.v y9,.call y40 [.v y41,.call y27 [.v y9]]],.c (.sy y4)],me:=zf3 }
def g70:Et:={ kd:=3,nm:=y40,pre:=T4,fns:=[g8j],post:=S9 }
def g8k:F:={ nm:=y42,ps:=[y43,y44],cl:=1,gd:=.c (.sy y2),bo:=.call y3 [.call y0 [.call y13 [.v y44]],.c (.sy y4),.call y3 [.call y3 [.call y13 [.call y26 [.v y44]],.call y10 [.v y43,.call y26 [.call y26 [.v y44]]],.c (.sy y4)],.call y26 [.v y44],.call y3 [.c (.sy y2),.call y42 [.v y43,.call y27 [.v y44]],.c (.sy y4)]]],me:=zf4 }
def g71:Et:={ kd:=3,nm:=y42,pre:=T4,fns:=[g8k],post:=S9 }
def g8l:F:={ nm:=y45,ps:=[y46,y9],cl:=1,gd:=.call y3 [.call y19 [.v y46],.call y36 [.v y9],.c (.sy y4)],bo:=.call y3 [.call y23 [.v y46],.call y26 [.v y9],.call y45 [.call y25 [.c (.num (-1) 1),.v y46],.call y27 [.v y9]]],me:=zf5 }
def g72:Et:={ kd:=3,nm:=y45,pre:=T4,fns:=[g8l],post:=S9 }
def g8m:F:={ nm:=y47,ps:=[y46,y48,y9],cl:=1,gd:=.call y3 [.call y19 [.v y46],.call y36 [.v y9],.c (.sy y4)],bo:=.call y3 [.call y23 [.v y46],.call y38 [.v y48,.call y27 [.v y9]],.call y38 [.call y26 [.v y9],.call y47 [.call y25 [.c (.num (-1) 1),.v y46],.v y48,.call y27 [.v y9]]]],me:=zf5 }
def g73:Et:={ kd:=3,nm:=y47,pre:=T4,fns:=[g8m],post:=S9 }
def g74:Et:={ kd:=1,nm:=y49,pre:=zf6,fns:=[],post:=S9 }
def a1y:List Et:=[et0,et1,et2,et3,et4,et5,et6,et7,et8,et9,g7m,g7n,g7o,g7p,g7q,g7r,g7s,g7t,g7u,g7v,g7w,g7x,g7y,g7z,g70,g71,g72,g73,g74]
def H2:Wd:=⟨a1y,dE,dE⟩
def PL:List (List F):=H2.L
def ok (o:O):Prop:=o.size≤3000∧o.fm=true
theorem d5g {n:Int} {d:Nat} (h:(O.num n d).fm=true):(p5 n).length≤102∧(s3 d).length≤102:=by
 have h:=of_decide_eq_true h
 obtain ⟨_,h1,h2⟩:=h
 unfold J6 at h1 h2
 rw [v7] at h1
 rw [A7,Int.natAbs_natCast] at h2
 have k1:=P7 n
 have k2:=a3c d
 constructor <;> omega
theorem b2t:∀ {o:O},o.fm=true→o.sm
 | .num n d,h=>by have:=d5g h;exact ⟨oM,oM⟩
 | .sy s,h=>by
  change named s=true at h
  unfold named F6 at h
  simp only [Bool.and_eq_true,decide_eq_true_eq] at h
  exact ⟨oM,oM⟩
 | .tx s,h=>by have h:s.length≤200:=of_decide_eq_true h;show s.length < 9000;omega
 | .co a d,h=>by
  change (a.fm && d.fm)=true at h
  rw [Bool.and_eq_true] at h
  exact ⟨b2t h.1,b2t h.2⟩
 | .no,h=>by cases h
theorem g3z {o:O} (h:o.fm=true):o.fx:=by
 have k0:(p5 0).length≤11:=O3 dE
 have k1:(s3 1).length≤11:=by rw [← Z3];exact O3 dE
 cases o with
 | num n d=>have:=d5g h;exact ⟨show (p5 n).length < 2000 by omega,show (s3 d).length < 2000 by omega⟩
 | _=>exact ⟨show (p5 0).length < 2000 by omega,show (s3 1).length < 2000 by omega⟩
theorem b1q (n:Int) (h:-1000000000 < n∧n < 1000000000):ok (.num n 1):=by
 refine ⟨by show 1≤3000;decide,decide_eq_true ⟨?_,?_,?_⟩⟩
 ·rw [a4j,v7,A7]
  show (p5 (qn n 1).1,s3 (qn n 1).2)=_
  rw [c4z]
 ·unfold J6
  rw [v7]
  have:=V3 (n:=n.natAbs) (k:=9) oM
  omega
 ·unfold J6
  rw [A7,Int.natAbs_natCast]
  have:=V3 (n:=1) (k:=1) dE
  omega
theorem e1a:F6 s8=true:=by
 unfold F6
 rw [a0p (i:=0) dE dE,a0p (i:=1) dE dE,a0p (i:=2) dE dE,a0p (i:=3) dE dE,b23 dE]
 decide
theorem a8g {s:u4} (h:1≤s.length∧s.length≤40):ok (.sy (s8,s)):=by
 refine ⟨by show 1≤3000;decide,?_⟩
 show named _=true
 unfold named
 rw [e1a,decide_eq_true h];rfl
theorem f61:ok C8:=a8g dE
section
variable {L:List (List F)} {E:Prop} {env:Q1} {l:Nat} {Q:O→Nat→Prop}
abbrev sLt:u4:=o8 1 60
end
end
end Go.Proofs.YtkojildpddaccaaGreatDoor
