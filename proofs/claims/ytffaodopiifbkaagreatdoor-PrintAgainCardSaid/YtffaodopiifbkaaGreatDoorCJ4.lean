/- The word of a name, and what is read from it: no program in sight. -/
import Derived.Test.YtffaodopiifbkaaGreatDoorCJ0
import Derived.Lib.Replace
import Derived.Lib.SplitLaws
import Derived.Test.YtffaodopiifbkaaGreatDoorCJ3
set_option linter.all false
namespace Go.Proofs.YtffaodopiifbkaaGreatDoor
open Go.Abs LQ
theorem b5h {s:i6}:∀ (m i:Nat),s.length - i≤m→∀ j,i≤j→j < m6 s i→y8 (bt s j)=true:=by
 intro m
 induction m with
 | zero =>
  intro i hm j h1 h2
  rw [m6,if_neg oM] at h2
  omega
 | succ m ih =>
  intro i hm j h1 h2
  rw [m6] at h2
  split at h2
  ·split at h2
   ·by_cases hj:j=i
    ·subst hj;assumption
    ·exact ih (i+1) oM j oM h2
   ·omega
  ·omega
theorem b77 {w:i6}:S9 w=true↔(w ≠ []∧a1b w):=by
 unfold S9 a1b
 rw [Bool.and_eq_true,decide_eq_true_iff,List.all_eq_true]
 refine and_congr_right fun _=>⟨fun h j hj=>?_,fun h b hb=>?_⟩
 ·have:=h w[j] (List.getElem_mem hj)
  unfold bt
  rw [List.getD_eq_getElem?_getD,List.getElem?_eq_getElem hj]
  exact this
 ·obtain ⟨j,hj,rfl⟩:=List.getElem_of_mem hb
  have:=h j hj
  unfold bt at this
  rw [List.getD_eq_getElem?_getD,List.getElem?_eq_getElem hj] at this
  exact this
theorem c7s {s:i6} {t e:u5} (hs:s.length≤6000) (h:C5 s=.ok [t,e]):∃ j k,j < s.length∧LQ.skip s 0=some j∧A0 s j=.ok (t,k):=by
 unfold C5 at h
 rw [if_neg oM,S6 (Nat.zero_le _)] at h
 split at h
 ·cases h
 ·rename_i j hj
  split at h
  ·rename_i hlt
   split at h
   ·cases h
   ·rename_i t' k ht
    have hk:=a0g hlt ht
    obtain ⟨T',e1,_⟩:=a2s (s.length - k) (Nat.le_refl _) hk.2 h
    simp only [List.nil_append,List.cons_append,List.cons.injEq] at e1
    rw [← e1.1] at ht
    exact ⟨j,k,hlt,hj,ht⟩
  ·injection h with h
   simp at h
theorem c26 {s p:i6} {i k k':Nat} {t:u5} (hk:k+2≤s.length) (h:H1 s i p k=.ok (t,k')):t.text.length+k+2≤s.length∧(t.text.length+k+2=s.length→m6 s (k+2)=s.length∧k+2 < s.length):=by
 unfold H1 at h
 split at h
 ·split at h
  ·split at h
   ·cases h
   ·rename_i l j he
    have h1:=a64 he
    have h2:=a90 he
    have h3:=a18 l
    split at h
    ·injection h with h;injection h with h _
     rw [← h]
     simp at h1
     exact ⟨by show (F2 l).length+k+2≤_;omega,fun e=>by exfalso;have e:(F2 l).length+k+2=s.length:=e;omega⟩
    ·cases h
  ·split at h
   ·simp only [] at h
    split at h
    ·injection h with h;injection h with h _
     rw [← h]
     have hw:=G3 s (k+2) hk
     have hl:((s.take (m6 s (k+2))).drop (k+2)).length=m6 s (k+2) - (k+2):=by simp;omega
     exact ⟨by show ((s.take (m6 s (k+2))).drop (k+2)).length+k+2≤_;omega,fun e=>⟨by have e:((s.take (m6 s (k+2))).drop (k+2)).length+k+2=s.length:=e;omega,aS⟩⟩
    ·cases h
   ·cases h
 ·cases h
theorem d56 {i k k':Nat} {w:i6} {t:u5} (h:D4 i w k=.ok (t,k')) (h6:t.kind=6):t.text=w∧w ≠ [46]∧(p8 w).2.2=false:=by
 unfold D4 at h
 split at h
 ·injection h with h;injection h with h _;rw [← h] at h6;exact absurd h6 (by show ¬(3:Int)=6;decide)
 ·split at h
  ·split at h
   ·cases h
   ·simp only [] at h
    split at h
    ·cases h
    ·injection h with h;injection h with h _;rw [← h] at h6;exact absurd h6 (by show ¬(5:Int)=6;decide)
  ·split at h
   ·injection h with h;injection h with h _
    rw [← h]
    exact ⟨rfl,aS,by simpa using ‹¬(p8 w).2.2=true›⟩
   ·cases h
theorem e4g {s:i6} {j k:Nat} {t:u5} (hj:j < s.length) (h:A0 s j=.ok (t,k)) (h6:t.kind=6) (ht:t.text=s):S9 s=true∧s ≠ [46]∧(p8 s).2.2=false:=by
 have hl:t.text.length=s.length:=by rw [ht]
 unfold A0 at h
 split at h
 ·injection h with h;injection h with h _;rw [← h] at h6;exact absurd h6 (by show ¬(1:Int)=6;decide)
 split at h
 ·injection h with h;injection h with h _;rw [← h] at h6;exact absurd h6 (by show ¬(2:Int)=6;decide)
 split at h
 ·injection h with h;injection h with h _;rw [← h] at h6;exact absurd h6 (by show ¬(4:Int)=6;decide)
 split at h
 ·split at h
  ·cases h
  ·split at h
   ·cases h
   ·injection h with h;injection h with h _;rw [← h] at h6;exact absurd h6 (by show ¬(7:Int)=6;decide)
 split at h
 ·split at h
  ·cases h
  ·rename_i l j' he
   have h1:=a64 he
   have h2:=a90 he
   have h3:=a18 l
   split at h
   ·injection h with h;injection h with h _
    rw [← h] at hl
    have hl:(F2 l).length=s.length:=hl
    simp at h1
    omega
   ·cases h
 split at h
 ·have hw:=G3 s j oM
  split at h
  ·rename_i hh
   have h2:=a0q hh
   have:=(c26 oM h).1
   omega
  ·obtain ⟨e1,e2,e3⟩:=d56 h h6
   rw [e1] at hl
   have hl2:((s.take (m6 s j)).drop j).length=m6 s j - j:=by simp;omega
   have hj0:j=0:=oM
   subst hj0
   have hwl:m6 s 0=s.length:=oM
   rw [hwl,List.drop_zero,List.take_length] at e2 e3
   refine ⟨b77.2 ⟨fun e=>by rw [e] at hj;simp at hj,fun i hi=>b5h _ 0 (Nat.le_refl _) i (Nat.zero_le _) oM⟩,e2,e3⟩
 ·cases h
theorem e1o {w:i6} {j k:Nat} {t:u5} (hj:LQ.skip (97 :: 58 :: 58 :: w) 0=some j) (h:A0 (97 :: 58 :: 58 :: w) j=.ok (t,k)) (h0:w ≠ []) (ht:t.text=w):S9 w=true:=by
 have hl:0 < w.length:=List.length_pos_iff.2 h0
 have e0:j=0:=by
  have:=b2y (s:=97 :: 58 :: 58 :: w) (k:=0) (by simp) (by rw [bt0];decide) (by rw [bt0];decide) (d27 (by rw [bt0];decide))
  rw [this] at hj
  injection hj with hj
  exact hj.symm
 subst e0
 have ew:m6 (97 :: 58 :: 58 :: w) 0=1:=by
  rw [m6,if_pos (by simp),if_pos (by rw [bt0];decide),m6,if_pos (by simp),if_neg (by rw [bt1];decide)]
 unfold A0 at h
 rw [bt0,if_neg dE,if_neg dE,if_neg dE,if_neg dE,if_neg dE,if_pos dE] at h
 simp only [ew] at h
 have hh:has (97 :: 58 :: 58 :: w) 1 58 58=true:=by unfold has;exact decide_eq_true ⟨by simp,by rfl,by rfl⟩
 rw [if_pos hh] at h
 have h1:=c26 (k:=1) (by simp) h
 have h2:=(h1.2 (by rw [ht];simp)).1
 refine b77.2 ⟨h0,fun i hi=>?_⟩
 have:=b5h _ 3 (Nat.le_refl _) (i+3) oM (by rw [h2];simp;omega)
 have e:bt (97 :: 58 :: 58 :: w) (i+3)=bt w i:=rfl
 rw [e] at this
 exact this
def a3z (q:Bool):i6:=if q then [97,58,58] else []
theorem e1v (q:Bool) {w:i6} (h1:1≤w.length) (h2:w.length≤40):(∃ t e,C5 (a3z q ++ w)=.ok [t,e]∧t.kind=6∧t.text=w)↔¬(S9 w=false∨(q=false∧(w=[46]∨(p8 w).2.2=true))):=by
 have h0:w ≠ []:=fun e=>by rw [e] at h1;simp at h1
 cases q with
 | false =>
  show (∃ t e,C5 w=_∧_)↔_
  constructor
  ·rintro ⟨t,e,ht,h6,hx⟩
   obtain ⟨j,k,hj,hs,ho⟩:=c7s oM ht
   obtain ⟨a,b,c⟩:=e4g hj ho h6 hx
   rintro (h | ⟨_,h | h⟩)
   ·rw [a] at h;cases h
   ·exact b h
   ·rw [c] at h;cases h
  ·intro h
   have hw:K8 w false=w:=by unfold K8;rw [if_neg h]
   have hx:=c8x (w:=w) oM h2
   rw [hw] at hx
   obtain ⟨T,e1,e2⟩:=b23 hx oM
   have hT:T.length=1:=by have:=congrArg List.length e1;simpa using this
   obtain ⟨t,rfl⟩:=List.length_eq_one_iff.1 hT
   simp only [List.map_cons,List.map_nil,List.cons.injEq,and_true] at e1
   exact ⟨t,_,e2,congrArg NT.kind e1,congrArg NT.text e1⟩
 | true =>
  show (∃ t e,C5 (97 :: 58 :: 58 :: w)=_∧_)↔_
  constructor
  ·rintro ⟨t,e,ht,h6,hx⟩
   obtain ⟨j,k,hj,hs,ho⟩:=c7s (by simp;omega) ht
   have a:=e1o hs ho h0 hx
   rintro (h | ⟨h,_⟩)
   ·rw [a] at h;cases h
   ·cases h
  ·intro h
   have hw:K8 w true=w:=by unfold K8;rw [if_neg h]
   have hx:=c83 (p:=[97]) (w:=w) kR oM h2
   rw [hw] at hx
   obtain ⟨T,e1,e2⟩:=b23 hx (by simp;omega)
   have hT:T.length=1:=by have:=congrArg List.length e1;simpa using this
   obtain ⟨t,rfl⟩:=List.length_eq_one_iff.1 hT
   simp only [List.map_cons,List.map_nil,List.cons.injEq,and_true] at e1
   exact ⟨t,_,e2,congrArg NT.kind e1,congrArg NT.text e1⟩
end Go.Proofs.YtffaodopiifbkaaGreatDoor
namespace Go.Proofs.YtffaodopiifbkaaGreatDoor
open Go.Abs LQ
set_option maxRecDepth 100000
set_option maxHeartbeats 8000000
noncomputable section
def d5f:Sp where
 ι:={ p:i6 × UInt8 // p.1.length < 90000∧(p.2=34∨p.2=124) }
 A p:=[.c (.s p.1.1),.c (.i .i32 (p.1.2.toNat:Int))]
 B _:=[]
 R p:=.ret (.c (.s (G9 p.1.2 p.1.1)))
 B' _:=[]
 inj i j vs bs h k _ _:=by
  obtain ⟨_,_,h1,k1,h,k⟩:=h.two k
  obtain ⟨_,_,h2,k2,h,k⟩:=h.two k
  have e2:=a4h h2 k2
  rw [I7 h1 k1,UInt8.toNat_inj.1 (show i.1.2.toNat=j.1.2.toNat by omega)];exact ⟨rfl,rfl⟩
theorem e1p {a b:Bool} (h:a3z a=a3z b):a=b:=by cases a <;> cases b <;> first | rfl | cases h
theorem e0l:3816033=p9 (a3z true):=dE
def g0a:Sp where
 ι:={ p:Bool × i6 // 1≤p.2.length∧p.2.length≤40 }
 A p:=[.c (.s (a3z p.1.1)),.c (.s p.1.2)]
 B _:=[]
 R p:=.ret (.c (.s (K8 p.1.2 p.1.1)))
 B' _:=[]
 inj i j vs bs h k _ _:=by
  obtain ⟨_,_,h1,k1,h,k⟩:=h.two k
  obtain ⟨_,_,h2,k2,h,k⟩:=h.two k
  rw [e1p (I7 h1 k1),I7 h2 k2];exact ⟨rfl,rfl⟩
theorem f2r (hq:l5 107 d5f):l5 63 g0a:=n6 (fun fn h=>f5l h) [(107,_),(23,_)] (.cons hq (.cons e2b .nil)) fun U fn hfn ⟨(q,w),h1,h2⟩ vs bs hv hb=>by
 have hqu:=hfn 107 _ rfl
 have htk:=hfn 23 _ rfl
 have h1:1≤w.length:=h1
 have h2:w.length≤40:=h2
 have hv:l8 [.c (.s (a3z q)),.c (.s w)] vs:=hv
 have hb:j5 [] bs:=hb
 show j6 U _ fun v bs'=>l9 (.ret (.c (.s (K8 w q)))) v∧j5 [] bs'
 unfold r63
 have hw:=e1v q h1 h2
 have hpl:(a3z q).length≤3:=by cases q <;> decide
 (refine Zy ?_;intros)
 refine c71 (x:=a3z q) (y:=w) rfl rfl rfl ?_
 have hsl:(a3z q ++ w).length < 8000:=by simp;omega
 have fin:∀ (z:Bool),(z=true↔∃ t e,C5 (a3z q ++ w)=.ok [t,e]∧t.kind=6∧t.text=w)→K8 w q=if z=true then w else G9 124 w:=fun z hz=>by
  unfold K8
  by_cases hz1:z=true
  ·rw [if_neg (hw.1 (hz.1 hz1)),if_pos hz1]
  ·rw [if_pos (Decidable.byContradiction fun h=>hz1 (hz.2 (hw.2 h))),if_neg hz1]
 have key:∃ (T:List u5) (e p:Int),d4k (C5 (a3z q ++ w))=.ret (.t [.sl 5 (T.map B5),.a [.i .i64 e,.i .i64 p]])∧(∀ z:Bool,(z=true↔(e=0∧∃ t x,T=[t,x]∧t.kind=6∧t.text=w))→K8 w q=if z=true then w else G9 124 w)∧(e=0→T.length < 90000):=by
  cases hx:C5 (a3z q ++ w) with
  | ok T =>
   refine ⟨T,0,0,rfl,fun z hz=>fin z (hz.trans ?_),fun _=>?_⟩
   ·rw [hx]
    constructor
    ·rintro ⟨_,t,x,rfl,h⟩;exact ⟨t,x,rfl,h⟩
    ·rintro ⟨t,x,h,h6⟩;injection h with h;exact ⟨rfl,t,x,h,h6⟩
   ·unfold C5 at hx
    rw [if_neg (by simp;omega)] at hx
    obtain ⟨T',e,_,_,hl⟩:=a2s _ (Nat.le_refl _) (Nat.zero_le _) hx
    subst e
    simp at hl ⊢
    omega
  | error ep =>
   refine ⟨[],ep.1,ep.2,rfl,fun z hz=>fin z (hz.trans ?_),fun _=>by decide⟩
   rw [hx]
   constructor
   ·rintro ⟨_,t,x,h,_⟩;cases h
   ·rintro ⟨t,x,h,_⟩;cases h
 obtain ⟨T,e,p,hT,hfin,hTl⟩:=key
 refine j3 htk ⟨a3z q ++ w,hsl⟩ (r:=.t [.sl 5 (T.map B5),.a [.i .i64 e,.i .i64 p]]) hT (.k (.s _ _ _ (by simp) rfl) .nil) .nil fun _ _ hv2 _=>?_
 (refine Zy ?_;intros)
 refine O1 (fun vs bs=>∃ (z:Bool) (v:V),vs=[.str w.length (p9 w),v]∧bs=[]∧RV (.c (.b z)) v∧(z=true↔(e=0∧∃ t x,T=[t,x]∧t.kind=6∧t.text=w))) ?_ ?_
 ·rintro _ _ ⟨z,v,rfl,rfl,hvz,hz⟩
  rw [hfin z hz]
  (refine Zy ?_;with_reducible repeat' first|intro _|apply aI)
  ·rw [if_pos ‹z=true›]
   exact k9 ⟨.ret _ _ (.s _ _ _ rfl rfl),.nil⟩
  ·rw [if_neg ‹¬z=true›]
   refine j3 hqu ⟨(w,124),by show w.length < 90000;omega,.inr rfl⟩ (r:=.c (.s (G9 124 w))) rfl (.k (.s _ _ _ rfl rfl) (.k (.i _ _) .nil)) .nil fun _ _ _ _=>?_
   (refine Zy ?_;intros)
   exact k9 ⟨.ret _ _ (.s _ _ _ rfl rfl),.nil⟩
 ·intro c hc
  (refine Zy ?_;with_reducible repeat' first|intro _|apply aI)
  ·have hl2:T.length=2:=oM
   obtain ⟨t,x,rfl⟩:∃ t x,T=[t,x]:=by
    match T,hl2 with
    | [t,x],_=>exact ⟨t,x,rfl⟩
   have h6:t.kind=6:=‹_›
   exact fun e9=>hc _ _ ⟨decide (t.text=w),_,rfl,rfl,V9 (by subst e9;exact (cuS _ _).symm),by
    rw [decide_eq_true_iff]
    exact ⟨fun h=>⟨aS,t,x,rfl,h6,h⟩,fun ⟨_,t',x',h,_,h2⟩=>by injection h with h _;rw [h];exact h2⟩⟩ e9
  ·have h6:¬(T[0]'oM).kind=6:=‹_›
   exact hc _ _ ⟨false,_,rfl,rfl,.kn _,⟨(fun h=>by cases h),fun ⟨_,t',x',h,h2,_⟩=>by subst h;exact absurd h2 h6⟩⟩
  ·have h6:¬((T.length:Nat):Int)=2:=‹_›
   exact hc _ _ ⟨false,_,rfl,rfl,.kn _,⟨(fun h=>by cases h),fun ⟨_,t',x',h,h2,_⟩=>by subst h;exact absurd rfl h6⟩⟩
  ·exact hc _ _ ⟨false,_,rfl,rfl,.kn _,⟨(fun h=>by cases h),fun ⟨h,_⟩=>absurd h ‹¬e=0›⟩⟩
def b1k (r:i6 × Int):GV:=.t [.c (.s r.1),.c (.i .i64 r.2)]
def e47:Sp where
 ι:={ p:List Pk × i6 × Sy // K0 p.1∧p.2.2.1.length < 90000∧p.2.2.2.length < 90000 }
 A p:=[.sl 2 (p.1.1.map pg),.c (.s p.1.2.1),.a (sg p.1.2.2)]
 B _:=[]
 R p:=.ret (b1k (G2 p.1.1 p.1.2.1 p.1.2.2))
 B' _:=[]
 inj i j vs bs h k _ _:=by
  obtain ⟨_,_,h1,k1,h,k⟩:=h.two k
  obtain ⟨_,_,h2,k2,h,k⟩:=h.two k
  obtain ⟨_,_,h3,k3,h,k⟩:=h.two k
  rw [Y8 (h1.sl_inj k1),I7 h2 k2,a9y (h3.a_inj k3)];exact ⟨rfl,rfl⟩
theorem c27 {L:List Pk} {c:i6} (h:C8 L c=none):J5 L c=.t [.a [.s [],.l []],.c (.b false)]:=by unfold J5;rw [h]
theorem c2u {L:List Pk} {c:i6} {p:Pk} (h:C8 L c=some p):J5 L c=.t [.a (pg p),.c (.b true)]:=by unfold J5;rw [h]
theorem f1g (hq:l5 107 d5f):l5 32 e47:=n6 (fun fn h=>d6k h) [(59,_),(60,_),(61,_),(62,_),(63,_)] (.cons (d2q kIS) (.cons c7t (.cons d73 (.cons e6j (.cons (f2r hq) .nil))))) fun U fn hfn ⟨(L,cur,s),hL,hs1,hs2⟩ vs bs hv hb=>by
 have hva:=hfn 59 _ rfl
 have hfi:=hfn 60 _ rfl
 have hho:=hfn 61 _ rfl
 have hvi:=hfn 62 _ rfl
 have hwo:=hfn 63 _ rfl
 have hL:K0 L:=hL
 have hs1:s.1.length < 90000:=hs1
 have hs2:s.2.length < 90000:=hs2
 have hv:l8 [.sl 2 (L.map pg),.c (.s cur),.a [.s s.1,.s s.2]] vs:=hv
 have hb:j5 [] bs:=hb
 show j6 U _ fun v bs'=>l9 (.ret (b1k (G2 L cur s))) v∧j5 [] bs'
 unfold r32
 (refine Zy ?_;intros)
 refine j3 hva ⟨s,hs1,hs2⟩ (r:=.c (.b (named s))) rfl (.k (.a _ _ _ rfl aS) .nil) .nil fun _ _ _ _=>?_
 (refine Zy ?_;with_reducible repeat' first|intro _|apply aI)
 ·have hn:named s=true:=‹_›
  obtain ⟨nv,nl,n0⟩:=a1y hn
  have nnf:¬named s=false:=by rw [hn];simp
  have bad:(C8 L cur=none∨H7 L s=false)→j6 U (some (.ret (.tuple [.str 0 0,.int .i64 13]),[])) fun v bs'=>l9 (.ret (b1k (G2 L cur s))) v∧j5 [] bs':=fun h=>by
   unfold G2
   rw [if_neg nnf,if_pos h]
   exact k9 ⟨.ret _ _ l6,.nil⟩
  cases hf:C8 L cur with
  | none =>
   refine j3 hfi ⟨(L,cur),hL⟩ (r:=.t [.a [.s [],.l []],.c (.b false)]) (by show s8.ret (J5 L cur)=_;rw [c27 hf]) (.k (.sl _ _ _ _ _ (by simp) aS) l6) .nil fun _ _ _ _=>?_
   (refine Zq ?_;intros)
   exact bad (.inl hf)
  | some p =>
   refine j3 hfi ⟨(L,cur),hL⟩ (r:=.t [.a (pg p),.c (.b true)]) (by show s8.ret (J5 L cur)=_;rw [c2u hf]) (.k (.sl _ _ _ _ _ (by simp) aS) l6) .nil fun _ _ hv9 _=>?_
   have hv9:RV (.t [.a [.s p.1,.l (p.2.map sg)],.c (.b true)]) _:=hv9
   (refine Zq ?_;intros)
   have n1:¬(C8 L cur=none∨H7 L s=false)↔H7 L s=true:=by rw [hf];simp
   refine j3 hho ⟨(L,s),hL⟩ (r:=.c (.b (H7 L s))) rfl (.k (.sl _ _ _ _ _ (by simp) aS) (.k (.a _ _ _ rfl aS) .nil)) .nil fun _ _ _ _=>?_
   (refine Zq ?_;with_reducible repeat' first|intro _|apply aI)
   ·have hh:H7 L s=true:=‹_›
    unfold G2
    rw [if_neg nnf,if_neg (n1.2 hh)]
    refine j3 hvi ⟨(L,cur,s),hL⟩ (r:=.c (.b (Z7 L cur s))) rfl (.k (.sl _ _ _ _ _ (by simp) aS) (.k (.s _ _ _ rfl rfl) (.k (.a _ _ _ rfl aS) .nil))) .nil fun _ _ _ _=>?_
    (refine Zq ?_;with_reducible repeat' first|intro _|apply aI)
    ·rw [if_pos ‹Z7 L cur s=true›]
     refine j3 hwo ⟨(false,s.2),n0,nl⟩ (r:=.c (.s (K8 s.2 false))) rfl (.k (.s _ _ _ rfl rfl) (.k (.q _ _ aS) .nil)) .nil fun _ _ _ _=>?_
     (refine Zq ?_;intros)
     exact k9 ⟨.ret _ _ l6,.nil⟩
    ·rw [if_neg ‹¬Z7 L cur s=true›]
     refine c71 (x:=s.1) (y:=[58,58]) rfl rfl rfl ?_
     have hw:=b6n s.2 true
     (refine Zq ?_;intros)
     refine j3 hwo ⟨(true,s.2),n0,nl⟩ (r:=.c (.s (K8 s.2 true))) rfl (.k (.s _ _ _ rfl e0l) (.k (.q _ _ aS) .nil)) .nil fun _ _ _ _=>?_
     (refine Zq ?_;intros)
     refine c71 (x:=s.1 ++ [58,58]) (y:=K8 s.2 true) (by simp) rfl rfl ?_
     rw [show s.1 ++ [58,58] ++ K8 s.2 true=s.1 ++ 58 :: 58 :: K8 s.2 true by simp]
     exact k9 ⟨.ret _ _ (.t _ _ (.k (.s _ _ _ (by simp;omega) rfl) (.k (.i _ _) .nil))),.nil⟩
   ·exact bad (.inr (by simpa using ‹¬H7 L s=true›))
 ·have hn:named s=false:=by simpa using ‹¬named s=true›
  unfold G2
  rw [if_pos hn]
  exact k9 ⟨.ret _ _ l6,.nil⟩
end
end Go.Proofs.YtffaodopiifbkaaGreatDoor
namespace Go.Proofs.YtffaodopiifbkaaGreatDoor
open Go.RowKit Go.Shelf Go.Abs LQ
set_option maxRecDepth 100000
def L4 (a:UInt8) (s:i6):i6:=s.flatMap fun b=>if b=a then [92,a] else [b]
theorem b90 (a:UInt8):∀ s:i6,Lib.replaceK [a] [92,a] (s.count a) s=L4 a s
 | []=>rfl
 | b :: l=>by
  by_cases h:b=a
  ·subst h
   have hi:Lib.index (b :: l) [b]=(0:Nat):=by rw [Lib.index_one];unfold Lib.indexByte;simp
   rw [List.count_cons_self,Lib.replaceK_hit _ _ _ _ 0 hi]
   have:=b90 b l
   simp only [List.take_zero,List.nil_append,List.length_cons,List.length_nil,Nat.zero_add,List.drop_succ_cons,List.drop_zero]
   rw [this]
   simp [L4]
  ·have ih:=b90 a l
   have hc:(b :: l).count a=l.count a:=List.count_cons_of_ne (fun e=>h e)
   rw [hc]
   have he:L4 a (b :: l)=b :: L4 a l:=by simp [L4,h]
   rw [he,← ih]
   cases hk:l.count a with
   | zero=>rfl
   | succ k =>
    obtain ⟨i,hi⟩:=Lib.index_of_count (s:=l) (old:=[a]) (by rw [Lib.count_one,hk];omega)
    have hi2:Lib.index (b :: l) [a]=((i+1:Nat):Int):=by
     rw [Lib.index_one] at hi ⊢
     unfold Lib.indexByte
     rw [if_neg (by simpa using h),hi,if_neg (by simp)]
     simp
    rw [Lib.replaceK_hit _ _ _ _ i hi,Lib.replaceK_hit _ _ _ _ (i+1) hi2]
    simp
theorem d3v (a:UInt8) (s:i6):Lib.replaceAll s [a] [92,a]=L4 a s:=by
 unfold Lib.replaceAll Lib.replace Lib.replaceNum
 rw [if_neg (by simp),if_pos (.inl dE),Lib.count_one,b90]
theorem b6o (a:UInt8) (s:i6):(L4 a s).length≤2 * s.length:=by
 unfold L4
 induction s with
 | nil=>simp
 | cons b l ih =>
  rw [List.flatMap_cons,List.length_append,List.length_cons]
  split
  ·simp only [List.length_cons,List.length_nil];omega
  ·simp only [List.length_cons,List.length_nil];omega
theorem e0s (c:UInt8) (l:i6):(K5 c l).length≤2 * l.length:=by
 unfold K5
 induction l with
 | nil=>simp
 | cons b l ih =>
  rw [List.flatMap_cons,List.length_append,List.length_cons]
  split
  ·simp only [List.length_cons,List.length_nil];omega
  ·simp only [List.length_cons,List.length_nil];omega
theorem d2o {c:UInt8} (hc:c ≠ 92) (s:i6):L4 c (L4 92 s)=K5 c s:=by
 unfold L4 K5
 rw [List.flatMap_assoc]
 refine congrArg (fun f=>List.flatMap f s) (funext fun b=>?_)
 by_cases h1:b=92
 ·subst h1
  rw [if_pos rfl,if_pos (.inr rfl)]
  simp [Ne.symm hc]
 ·rw [if_neg h1]
  by_cases h2:b=c
  ·subst h2;simp
  ·simp [h1,h2]
theorem BXq:Builder.Extra Tryz.prog Tryz.lays155_ren where
 sizeBuilder:=kR
 liesBuilder:=kR
 t5:=Tryz.lays155.t5
 a5:=Tryz.lays155.a5
 z5:=Tryz.lays155.z5
 v5:=Tryz.lays155.v5
 infoByte:=kR
 cellsByte:=kR
 sizeByte:=kR
 neB5:=dE
theorem a7g (m:Int) (s:i6) (a:UInt8) (w:World) (hm:w.cell? ⟨Tryz.lays155_ren.g 1,0,none⟩=some (.int .i64 m)) (hs:s.length < 1000000) :
  Calls Tryz.prog 142 #[.string ⟨s.toArray⟩,.string ⟨#[a]⟩,.string ⟨#[92,a]⟩] w fun e w'=>e=.returned (.string ⟨(L4 a s).toArray⟩)∧Below w.heap.size w w':=by
 have hcnt:=Lib.count_one a s
 have hle:=List.count_le_length (a:=a) (l:=s)
 refine (Any.strings_ReplaceAll Tryz.lays155 BXq ⟨s.toArray⟩ ⟨#[a]⟩ ⟨#[92,a]⟩ m w (by show s.length < _;omega) hm (Nat.le_refl 1) ?_).mono ?_
 ·show s.length+Lib.countB ⟨s.toArray⟩ ⟨#[a]⟩ * 2≤_
  have:Lib.countB ⟨s.toArray⟩ ⟨#[a]⟩=Lib.count s [a]:=rfl
  rw [this,hcnt]
  omega
 ·rintro e w' ⟨rfl,hb⟩
  refine ⟨?_,hb⟩
  rw [show Lib.replaceAll (⟨s.toArray⟩:ByteArray).data.toList (⟨#[a]⟩:ByteArray).data.toList (⟨#[92,a]⟩:ByteArray).data.toList=L4 a s from d3v a s]
structure Hid (p:Prop):Prop where
 go:p
def qM:Value→Nat
 | .int _ j=>3 - j.toNat
 | _=>0
def U6 (c:Nat) (s:i6):Nat→i6
 | 0=>s
 | 1=>L4 92 s
 | 2=>if c=34 then L4 34 (L4 92 s) else L4 92 s
 | _=>L4 c.toUInt8 (L4 92 s)
set_option maxHeartbeats 4000000 in
theorem c94 (m:Int) (s:i6) (c:Nat) (hc:c=34∨c=124) (w:World) (hm:w.cell? ⟨Tryz.lays155_ren.g 1,0,none⟩=some (.int .i64 m)) (hs:s.length < 90000) :
  Calls Tryz.prog 107 #[.string ⟨s.toArray⟩,.int .i32 (c:Int)] w fun e w'=>e=.returned (.string ⟨(G9 c.toUInt8 s).toArray⟩)∧Below w.heap.size w w':=by
 have key:Hid ((((34:Int) == (c:Int))=true∧((124:Int) == (c:Int))=false∧Hid (U6 c s 2=L4 34 (L4 92 s)∧U6 c s 3=U6 c s 2∧(U6 c s 2).length < 1000000)) ∨
   (((34:Int) == (c:Int))=false∧((124:Int) == (c:Int))=true∧Hid (U6 c s 2=L4 92 s∧U6 c s 3=L4 124 (U6 c s 2)∧(U6 c s 2).length < 1000000))):=by
  have e1:=b6o 92 s
  have e2:=b6o 34 (L4 92 s)
  rcases hc with rfl | rfl
  ·exact ⟨.inl ⟨rfl,rfl,⟨rfl,rfl,by show (L4 34 (L4 92 s)).length < _;omega⟩⟩⟩
  ·exact ⟨.inr ⟨rfl,rfl,⟨rfl,rfl,by show (L4 92 s).length < _;omega⟩⟩⟩
 have henc:Hid (Utf8.encode (c:Int)=⟨#[c.toUInt8]⟩):=by rcases hc with rfl | rfl <;> exact ⟨dE⟩
 have hfin:Hid (U6 c s 3=K5 c.toUInt8 s):=by
  rcases hc with rfl | rfl
  ·exact ⟨d2o dE s⟩
  ·exact ⟨d2o dE s⟩
 clear hc
 go_enter Tryz.func107,Tryz.ntmps107
 go_wp2
 go_loopw [0,9] (fun v0 v9 wr=>∃ i:Nat,i≤3∧v9=.int .i64 i∧v0=.string ⟨(U6 c s i).toArray⟩∧Below w.heap.size w wr∧wr.heap[w.heap.size]?=some (.cells #[.int .i32 92,.int .i32 34,.int .i32 124] 21 (0,0))) (fun v0 v9 wr=>qM v9)
 case atStart=>exact ⟨0,dE,rfl,rfl,(Below.refl _ w).alloc (Nat.le_refl _) _,by show (w.heap.push _)[w.heap.size]?=_;simp⟩
 case round =>
  obtain ⟨i,hi,rfl,rfl,hbl,hcell⟩:=hrel
  rename_i wr _
  have c0:wr.cell? ⟨w.heap.size,0,none⟩=some (.int .i32 92):=by simp [World.cell?,hcell]
  have c1:wr.cell? ⟨w.heap.size,1,none⟩=some (.int .i32 34):=by simp [World.cell?,hcell]
  have c2:wr.cell? ⟨w.heap.size,2,none⟩=some (.int .i32 124):=by simp [World.cell?,hcell]
  have hgb:Tryz.lays155_ren.g 1 < w.heap.size:=by
   rcases Nat.lt_or_ge (Tryz.lays155_ren.g 1) w.heap.size with h | h
   ·exact h
   ·simp [World.cell?,Array.getElem?_eq_none h] at hm
  have hm2:=b1l hbl hgb hm
  have hsz:w.heap.size < wr.heap.size:=(Array.getElem?_eq_some_iff.1 hcell).1
  have e1:=b6o 92 s
  obtain rfl | rfl | rfl | rfl:i=0∨i=1∨i=2∨i=3:=oM
  ·go_wp2_with (first
    | (go_at_call 142;refine (a7g m s 92 _ hm2 oM).mono ?_;rintro e w2 ⟨rfl,hb2⟩))
   exact ⟨⟨1,dE,rfl,rfl,hbl.trans (a0o hb2 oM),(hb2.block _ hsz).trans hcell⟩,dE⟩
  ·rcases key.go with ⟨g1,g2,r⟩ | ⟨g1,g2,r⟩
   ·go_wp2_with (first
     | (go_at_call 142;refine (a7g m (L4 92 s) 34 _ hm2 oM).mono ?_;rintro e w2 ⟨rfl,hb2⟩))
    exact ⟨⟨2,dE,rfl,by rw [r.go.1],hbl.trans (a0o hb2 oM),(hb2.block _ hsz).trans hcell⟩,dE⟩
   ·go_wp2_with (first
     | (go_at_call 142;refine (a7g m (L4 92 s) 34 _ hm2 oM).mono ?_;rintro e w2 ⟨rfl,hb2⟩))
    exact ⟨⟨2,dE,rfl,by rw [r.go.1];rfl,hbl,hcell⟩,dE⟩
  ·rcases key.go with ⟨g1,g2,r⟩ | ⟨g1,g2,r⟩
   ·go_wp2_with (first
     | (go_at_call 142;refine (a7g m (U6 c s 2) 124 _ hm2 r.go.2.2).mono ?_;rintro e w2 ⟨rfl,hb2⟩))
    exact ⟨⟨3,dE,rfl,by rw [r.go.2.1],hbl,hcell⟩,dE⟩
   ·go_wp2_with (first
     | (go_at_call 142;refine (a7g m (U6 c s 2) 124 _ hm2 r.go.2.2).mono ?_;rintro e w2 ⟨rfl,hb2⟩))
    exact ⟨⟨3,dE,rfl,by rw [r.go.2.1],hbl.trans (a0o hb2 oM),(hb2.block _ hsz).trans hcell⟩,dE⟩
  ·clear key
   refine wp_seq ?_
   refine wp_region ?_
   simp [wpOps,go_sem]
   refine .inl ?_
   refine wp_seq ?_
   refine wp_cond_false (by simp [Act.eval]) ?_
   refine wp_exit ?_
   simp only [Exit.then,Exit.inBlock,if_true]
   refine ‹∀ (a:Act) (w:World),Code.wp _ _ _ a w→_› _ _ ?_
   clear hm2 c0 c1 c2 hgb hsz e1 hi
   have hSl:(⟨(U6 c s 3).toArray⟩:ByteArray).size≤1000000:=by
    show (U6 c s 3).length≤_
    rw [hfin.go]
    have:=e0s c.toUInt8 s
    omega
   have hEl:(Utf8.encode (c:Int)).size=1:=by rw [henc.go];rfl
   have hfin2:Hid (Utf8.encode (c:Int) ++ ⟨(U6 c s 3).toArray⟩ ++ Utf8.encode (c:Int)=⟨(G9 c.toUInt8 s).toArray⟩):=by
    refine ⟨?_⟩
    rw [henc.go,hfin.go]
    unfold G9
    apply ByteArray.ext
    simp
   obtain ⟨E,hE⟩:∃ E,Utf8.encode (c:Int)=E:=⟨_,rfl⟩
   generalize hS:(⟨(U6 c s 3).toArray⟩:ByteArray)=S at *
   rw [hE] at hEl hfin2
   clear hS hfin henc
   have z1:E.size+S.size≤9223372036854775807:=oM
   have z2:(E ++ S).size+E.size≤9223372036854775807:=by rw [ByteArray.size_append];omega
   have z3:E.size+S.size+E.size≤9223372036854775807:=oM
   clear hEl hSl
   go_wp2
   go_ret
   exact ⟨by rw [hfin2.go];rfl,hbl⟩
end Go.Proofs.YtffaodopiifbkaaGreatDoor
namespace Go.Proofs.YtffaodopiifbkaaGreatDoor
open Go.Abs LQ
noncomputable section
open Classical
theorem f2j {L:List Pk} {cur:i6} {d:O} {t:i6}:(pT L cur d).2.2=some t↔∃ x,d=.co x x8∧t=C1 L cur x:=by
 cases d with
 | co x y =>
  simp only [pT]
  by_cases h:y=x8
  ·rw [if_pos h]
   subst h
   constructor
   ·intro e;injection e with e;exact ⟨x,rfl,e.symm⟩
   ·rintro ⟨z,e,rfl⟩;injection e with e _;subst e;rfl
  ·rw [if_neg h]
   constructor
   ·intro e;cases e
   ·rintro ⟨z,e,_⟩;injection e with _ e;exact absurd e h
 | _ =>
  constructor
  ·intro e;cases e
  ·rintro ⟨z,e,_⟩;cases e
theorem a0c {o x:O}:M7 o=some x↔o=.co z8 (.co x x8):=by
 unfold M7
 constructor
 ·intro h
  split at h
  ·rename_i q y hi
   split at h
   ·rename_i hq
    injection h with h
    subst h hq
    obtain ⟨d,rfl,hd⟩:=a3c hi
    obtain ⟨e,rfl,he⟩:=a3c hd
    rw [c14 he]
   ·cases h
  ·cases h
 ·rintro rfl
  have:E4 (.co z8 (.co x x8))=some [z8,x]:=by simp [E4,x8]
  rw [this]
  simp only [if_true]
theorem c1x {L:List Pk} {cur:i6} {o x:O} (h:M7 o=some x):C1 L cur o=39 :: C1 L cur x:=by
 rw [a0c.1 h]
 unfold C1
 simp only [pT,if_true]
theorem c29 {L:List Pk} {cur:i6} {a d:O} (h:M7 (.co a d)=none):C1 L cur (.co a d)=40 :: (C1 L cur a ++ (pT L cur d).2.1):=by
 unfold C1
 simp only [pT]
 by_cases ha:a=z8
 ·rw [if_pos ha]
  cases hd:(pT L cur d).2.2 with
  | none=>rfl
  | some t =>
   obtain ⟨x,rfl,_⟩:=f2j.1 hd
   rw [a0c.2 (by rw [ha])] at h
   cases h
 ·rw [if_neg ha]
def b83 (L:List Pk) (cur before:i6):O→i6
 | .co a d=>before ++ (C1 L cur a ++ (pT L cur d).2.1)
 | o=>(pT L cur o).2.1
theorem e88 (L:List Pk) (cur:i6) (o:O):b83 L cur [32] o=(pT L cur o).2.1:=by
 cases o <;> rfl
theorem e9k {L:List Pk} {cur:i6} {a d:O} (h:M7 (.co a d)=none):b83 L cur [40] (.co a d)=C1 L cur (.co a d):=by
 rw [c29 h];rfl
theorem f0p {L:List Pk} {cur b:i6} {o:O} (h:o.isCo=false):b83 L cur b o=if o=x8 then [41] else [32,46,32] ++ C1 L cur o ++ [41]:=by
 cases o with
 | co=>cases h
 | _=>rfl
def okP:O→Prop
 | .num n d=>0 < d∧Nat.gcd n.natAbs d=1∧(j4 n).length≤101∧(i7 d).length≤100
 | .tx t=>t.length≤200
 | .sy s=>named s=true
 | .co a d=>okP a∧okP d
 | .no=>False
theorem b62 {s:Sy} (h:named s=true):s.1.length≤40:=by
 have:=(a1y h).1
 simp [r9] at this
 exact this.1.2.1
theorem d3l {L:List Pk}:∀ {o:O},okA L o→okP o
 | .num n d,h=>by
  refine ⟨h.1,h.2.1,?_,h.2.2.2⟩
  have:=h.2.2.1
  rw [I8,List.length_append]
  have:(LQ.sgn n).length≤1:=by unfold LQ.sgn;split <;> simp
  omega
 | .tx _,h=>h
 | .sy _,h=>h.1
 | .co _ _,h=>⟨d3l h.1,d3l h.2⟩
 | .no,h=>h.elim
theorem b6y {L:List Pk} {cur:i6} {o:O} (h:okP o) (hn:∀ a d,o ≠ .co a d):(F7 L cur o).length≤410:=by
 cases o with
 | num n d=>have:=b61 n d;have:=h.2.2.1;have:=h.2.2.2;show (X2 n d).length≤_;omega
 | sy s =>
  have h1:=a19 L cur s
  have h2:=a1y h
  have h3:=b62 h
  show (G2 L cur s).1.length≤_;omega
 | tx t=>have:=b4d 34 t;have h:t.length≤200:=h;show (G9 34 t).length≤_;omega
 | co a d=>exact absurd rfl (hn a d)
 | no=>exact h.elim
theorem c5y {L:List Pk} {cur:i6}:∀ {o:O},okP o→X8 L cur o≤410 * lv o
 | .co a d,h=>by
  have h1:=c5y (L:=L) (cur:=cur) h.1
  have h2:=c5y (L:=L) (cur:=cur) h.2
  simp only [X8,lv];omega
 | .num n d,h=>b6y (o:=.num n d) h fun _ _ e=>by cases e
 | .sy s,h=>b6y (o:=.sy s) h fun _ _ e=>by cases e
 | .tx t,h=>b6y (o:=.tx t) h fun _ _ e=>by cases e
 | .no,h=>h.elim
theorem b7e {L:List Pk} {cur:i6} {o:O} (h:okP o):2 * (C1 L cur o).length≤415 * (o.size+1)∧2 * (pT L cur o).2.1.length≤415 * (o.size+1):=by
 have h1:=a7f (L:=L) (cur:=cur) o
 have h2:=c5y (L:=L) (cur:=cur) h
 have h3:=d1t o
 have h4:=d7z o
 have h5:(C1 L cur o).length=(pT L cur o).1.length:=rfl
 omega
theorem f6g (x y:Int):0 < (qn x y).2∧Nat.gcd (qn x y).1.natAbs (qn x y).2=1:=by
 by_cases hy:y=0
 ·have e:qn x y=(0,1):=by unfold qn;rw [if_pos hy]
  rw [e];decide
 have e:qn x y=((if (x < 0)=(y < 0) then 1 else -1) * ((x.natAbs / Nat.gcd x.natAbs y.natAbs:Nat):Int),y.natAbs / Nat.gcd x.natAbs y.natAbs):=by unfold qn;rw [if_neg hy]
 have hg:0 < Nat.gcd x.natAbs y.natAbs:=Nat.gcd_pos_of_pos_right _ oM
 have h1:Nat.gcd (x.natAbs / Nat.gcd x.natAbs y.natAbs) (y.natAbs / Nat.gcd x.natAbs y.natAbs)=1:=by
  rw [Nat.gcd_div (Nat.gcd_dvd_left _ _) (Nat.gcd_dvd_right _ _),Nat.div_self hg]
 have hd:0 < y.natAbs / Nat.gcd x.natAbs y.natAbs:=Nat.div_pos (Nat.le_of_dvd oM (Nat.gcd_dvd_right _ _)) hg
 rw [e]
 simp only
 refine ⟨hd,?_⟩
 have e2:((if (x < 0)=(y < 0) then (1:Int) else -1) * ((x.natAbs / Nat.gcd x.natAbs y.natAbs:Nat):Int)).natAbs=x.natAbs / Nat.gcd x.natAbs y.natAbs:=by
  generalize x.natAbs / Nat.gcd x.natAbs y.natAbs=a
  by_cases hc:(x < 0)=(y < 0)
  ·rw [if_pos hc];omega
  ·rw [if_neg hc];omega
 rw [e2];exact h1
theorem c59 {L:List Pk}:∀ {o:O},o.fm=true→C7 L o=true→okA L o
 | .num n d,h,_=>by
  have h:t7 (j4 n) (i7 d)=(j4 n,i7 d)∧E6 (j4 n)≤100∧E6 (i7 d)≤100:=by simpa [O.fm] using h
  obtain ⟨h1,h2,h3⟩:=h
  rw [a1j] at h2
  rw [Y2] at h3
  rw [P8,r8,A7] at h1
  injection h1 with e1 e2
  have e1:=Z4 e1
  have e2:=Z1 e2
  have h4:=f6g n d
  rw [e1,e2] at h4
  exact ⟨h4.1,h4.2,h2,h3⟩
 | .tx t,h,_=>by
  have h:t.length≤200:=by simpa [O.fm] using h
  exact h
 | .sy s,h,k=>⟨h,k⟩
 | .co a d,h,k=>by
  have h:a.fm=true∧d.fm=true:=by simpa [O.fm] using h
  have k:C7 L a=true∧C7 L d=true:=by simpa [C7] using k
  exact ⟨c59 h.1 k.1,c59 h.2 k.2⟩
 | .no,h,_=>by cases h
end
end Go.Proofs.YtffaodopiifbkaaGreatDoor
namespace Go.Proofs.YtffaodopiifbkaaGreatDoor
open Go.Abs LQ Go.RowKit Go.Shelf
set_option maxRecDepth 100000
set_option maxHeartbeats 2000000
noncomputable section
def a3x (o:O):Prop:=∃ q,A8 o.g q 0
theorem f6f {gs:List G} {v:V} (h:RV (.a gs) v):∃ q,A8 gs q 0:=by
 cases h with
 | a _ q _ _ h=>exact ⟨q,h⟩
 | ag _ cs h=>obtain ⟨qs,_,k⟩:=b8c h;exact ⟨_,k.cel⟩
theorem a3x.rv {o:O} (h:a3x o):∃ v,RV (.a o.g) v:=h.elim fun q h=>⟨_,.a _ q 7 (O.g_len o).symm h⟩
theorem a3x.two {a d:O} (h:a3x (.co a d)):a3x a∧a3x d:=by
 obtain ⟨q,h⟩:=h
 have h6:RG (.l [a.g,d.g]) (celQ q (0+6)):=h.get rfl
 generalize celQ q (0+6)=x at h6
 cases h6 with
 | l _ t n off len _ h =>
  cases h with
  | cons _ _ _ _ _ _ h1 _ h =>
   cases h with
   | cons _ _ _ _ _ _ h2 _ h=>exact ⟨⟨_,h1⟩,⟨_,h2⟩⟩
abbrev ob7 (o:O) (c6:Value):Array Value:=#[.int .i64 o.k,.string ⟨o.nu.toArray⟩,.string ⟨o.de.toArray⟩,.string ⟨o.sym.1.toArray⟩,.string ⟨o.sym.2.toArray⟩,.string ⟨o.txt.toArray⟩,c6]
section
variable {S:m9} {M:Mp} {w:World}
theorem a00 {v:Value} {s:i6} (h:Rd S M w v (.str s)):v=.string ⟨s.toArray⟩:=by
 cases h with
 | str t _ e=>subst e;rfl
theorem b54 {o:O} {cs:List Value} (h:v8 S M w cs (o.g.map dG)):∃ c6,cs=(ob7 o c6).toList∧Rd S M w c6 (dG (.l (o.ps.map O.g))):=by
 rw [o.g_eq] at h
 cases h with
 | cons _ _ _ _ h0 h =>
 cases h with
 | cons _ _ _ _ h1 h =>
 cases h with
 | cons _ _ _ _ h2 h =>
 cases h with
 | cons _ _ _ _ h3 h =>
 cases h with
 | cons _ _ _ _ h4 h =>
 cases h with
 | cons _ _ _ _ h5 h =>
 cases h with
 | cons v _ _ _ h6 h =>
 cases h
 simp only [dG] at h0 h1 h2 h3 h4 h5
 have e1:=a00 h1
 have e2:=a00 h2
 have e3:=a00 h3
 have e4:=a00 h4
 have e5:=a00 h5
 cases h0
 subst e1 e2 e3 e4 e5
 exact ⟨v,rfl,h6⟩
theorem e0i {o:O} {c6:Value} (h:Rd S M w c6 (dG (.l (o.ps.map O.g)))):v8 S M w (ob7 o c6).toList (o.g.map dG):=by
 rw [o.g_eq]
 simp only [List.map_cons,List.map_nil,dG]
 exact .k (.int _ _) (.k (.str _ _ rfl) (.k (.str _ _ rfl) (.k (.str _ _ rfl) (.k (.str _ _ rfl) (.k (.str _ _ rfl) (.k (by simpa only [dG] using h) .nil))))))
theorem d8h {a d:O} {v:Value} (h:Rd S M w v (dG (.l ([a,d].map O.g)))):∃ b o cap x6 y6,v=.slice (some ⟨b,o,none⟩) 2 cap∧2≤cap∧Rd S u6 w x6 (dG (.l (a.ps.map O.g)))∧Rd S u6 w y6 (dG (.l (d.ps.map O.g))) ∧
  (∀ i u,(ob7 a x6)[i]?=some u→S b (o+i)∧w.cell? ⟨b,o+i,none⟩=some u)∧(∀ i u,(ob7 d y6)[i]?=some u→S b (o+7+i)∧w.cell? ⟨b,o+7+i,none⟩=some u):=by
 have e:dG (.l ([a,d].map O.g))=.slice 2 (a.g.map dG ++ d.g.map dG) .no:=by simp only [dG,List.map_cons,List.map_nil,b6t,List.length_cons,List.length_nil];simp [dRs]
 rw [e] at h
 generalize hds:a.g.map dG ++ d.g.map dG=ds at h
 cases h with
 | slice base len cap vs _ _ sl r _ l z =>
 subst hds
 have la:(a.g.map dG).length=7:=by rw [List.length_map,O.g_len]
 have r1:=r.take 7
 have r2:=r.drop 7
 rw [List.take_left' la] at r1
 rw [List.drop_left' la] at r2
 obtain ⟨x6,ex,hx⟩:=b54 r1
 obtain ⟨y6,ey,hy⟩:=b54 r2
 have ev:vs=(ob7 a x6).toList ++ (ob7 d y6).toList:=by rw [← ex,← ey,List.take_append_drop]
 rcases sl with sl | ⟨b,o,rfl,sl⟩
 ·rw [ev] at sl;cases sl
 refine ⟨b,o,cap,x6,y6,rfl,l,hx,hy,fun i u hu=>?_,fun i u hu=>?_⟩
 ·refine sl i u ?_
  rw [ev,List.getElem?_append_left]
  ·rw [Array.getElem?_toList];exact hu
  ·have:=(Array.getElem?_eq_some_iff.1 hu).1;simpa using this
 ·have:=sl (7+i) u (by
   have e7:7+i - (ob7 a x6).toList.length=i:=by show 7+i - 7=i;omega
   rw [ev,List.getElem?_append_right (by show 7≤7+i;omega),e7,Array.getElem?_toList];exact hu)
  rw [show o+(7+i)=o+7+i by omega] at this
  exact this
theorem d92 {w':World} {v:Value} {d:D} (hwi:S.within w) (h:Rd S M w v d) (k:Below w.heap.size w w'):Rd S M w' v d :=
 h.ext ⟨fun _ _ h=>h,fun b o h=>by unfold World.cell?;rw [k.block b (hwi b o h)],fun _ _ h=>h⟩
end
theorem b1n {g:FuncId} {sp:Sp} (hk:l5 g sp) (i:sp.ι) {r:GV} (hR:sp.R i=.ret r) (hB:sp.B i=[]) {vs:List V} (hv:l8 (sp.A i) vs) {w:World} {S:m9} {us:List Value} (hg:GG.pred w) (hwi:S.within w) (hr:v8 S u6 w us ((sp.A i).map dV)) :
  Calls Tryz.prog g us.toArray w fun e w'=>∃ v S',e=.returned v∧Below w.heap.size w w'∧S.grown S' w∧S'.within w'∧Rd S' u6 w' v (dV r):=by
 obtain ⟨v,bs',h1,h2,h3⟩:=hk i vs [] hv (by rw [hB];exact .nil)
 have h1:=h1 rfl
 rw [hR] at h2
 cases h2 with
 | ret _ v h2 =>
 rw [hv.map_toD] at h1
 have h1:CM Tryz.prog GG g ((sp.A i).map dV) [] (.ret (toD v)) (bs'.map J3):=h1
 rw [h2.toD] at h1
 refine (h1.2 w S u6 us hg (fun _ _ _ h=>by cases h) hwi ⟨fun id b h=>by simp at h,fun _ _=>rfl,fun _ _ _ _ _ _ _ h=>by simp at h⟩ hr).mono ?_
 rintro e w' ⟨hk,S',hgr,hw',he⟩
 obtain ⟨_,v',rfl,hv',_⟩:=he
 exact ⟨v',S',rfl,⟨hk.os,hk.tape,hk.output,hk.size,fun k hlt=>hk.block k hlt (fun i c h=>by cases h)⟩,hgr,hw',hv'⟩
theorem e1q {w:World} {b:Nat} {cs:Array Value} (hb:w.heap[b]?=some (.cells cs 29 (0,0))) (hs:cs.size=7) (c0 c1 c2 c3 c4 c5 c6:Value):(a7b w b c0 c1 c2 c3 c4 c5 c6).heap[b]?=some (.cells #[c0,c1,c2,c3,c4,c5,c6] 29 (0,0)):=by
 obtain ⟨cs⟩:=cs
 match cs,hs with
 | [d0,d1,d2,d3,d4,d5,d6],_=>exact C6 (C6 (C6 (C6 (C6 (C6 (C6 hb))))))
end
end Go.Proofs.YtffaodopiifbkaaGreatDoor
