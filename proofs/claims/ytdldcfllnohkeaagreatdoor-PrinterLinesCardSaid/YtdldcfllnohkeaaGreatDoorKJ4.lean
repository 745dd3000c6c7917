/- The word of a name, and what is read from it: no program in sight. -/
import Derived.Test.YtdldcfllnohkeaaGreatDoorKJ0
import Derived.Lib.Replace
import Derived.Lib.SplitLaws
import Derived.Test.YtdldcfllnohkeaaGreatDoorKJ3
set_option linter.all false
namespace Go.Proofs.YtdldcfllnohkeaaGreatDoor
open Go.Abs LQ
theorem b3v {s:f5}:∀ (m i:Nat),s.length - i≤m→∀ j,i≤j→j < k9 s i→t6 (bt s j)=true:=by
 intro m
 induction m with
 | zero =>
  intro i hm j h1 h2
  rw [k9,if_neg oM] at h2
  omega
 | succ m ih =>
  intro i hm j h1 h2
  rw [k9] at h2
  split at h2
  ·split at h2
   ·by_cases hj:j=i
    ·subst hj;assumption
    ·exact ih (i+1) oM j oM h2
   ·omega
  ·omega
theorem a9u {w:f5}:L7 w=true↔(w ≠ []∧a8q w):=by
 unfold L7 a8q
 rw [Bool.and_eq_true,decide_eq_true_iff,List.all_eq_true]
 refine and_congr_right fun _=>⟨fun h j hj=>?_,fun h b hb=>?_⟩
 ·have:=h w[j] (List.getElem_mem hj)
  unfold bt
  rw [List.getD_eq_getElem?_getD,List.getElem?_eq_getElem hj]
  exact this
 ·obtain ⟨j,hj,rfl⟩:=List.getElem_of_mem hb
  have:=h j hj
  unfold bt at this
  rw [List.getD_eq_getElem?_getD,List.getElem?_eq_getElem hj] at this
  exact this
theorem c5q {s:f5} {t e:A6} (hs:s.length≤6000) (h:D5 s=.ok [t,e]):∃ j k,j < s.length∧LQ.skip s 0=some j∧A0 s j=.ok (t,k):=by
 unfold D5 at h
 rw [if_neg oM,a8k (Nat.zero_le _)] at h
 split at h
 ·cases h
 ·rename_i j hj
  split at h
  ·rename_i hlt
   split at h
   ·cases h
   ·rename_i t' k ht
    have hk:=a6s hlt ht
    obtain ⟨T',e1,_⟩:=a9z (s.length - k) (Nat.le_refl _) hk.2 h
    simp only [List.nil_append,List.cons_append,List.cons.injEq] at e1
    rw [← e1.1] at ht
    exact ⟨j,k,hlt,hj,ht⟩
  ·injection h with h
   simp at h
theorem b98 {s p:f5} {i k k':Nat} {t:A6} (hk:k+2≤s.length) (h:J5 s i p k=.ok (t,k')):t.text.length+k+2≤s.length∧(t.text.length+k+2=s.length→k9 s (k+2)=s.length∧k+2 < s.length):=by
 unfold J5 at h
 split at h
 ·split at h
  ·split at h
   ·cases h
   ·rename_i l j he
    have h1:=a5e he
    have h2:=a7w he
    have h3:=a0w l
    split at h
    ·injection h with h;injection h with h _
     rw [← h]
     simp at h1
     exact ⟨by show (E6 l).length+k+2≤_;omega,fun e=>by exfalso;have e:(E6 l).length+k+2=s.length:=e;omega⟩
    ·cases h
  ·split at h
   ·simp only [] at h
    split at h
    ·injection h with h;injection h with h _
     rw [← h]
     have hw:=G9 s (k+2) hk
     have hl:((s.take (k9 s (k+2))).drop (k+2)).length=k9 s (k+2) - (k+2):=by simp;omega
     exact ⟨by show ((s.take (k9 s (k+2))).drop (k+2)).length+k+2≤_;omega,fun e=>⟨by have e:((s.take (k9 s (k+2))).drop (k+2)).length+k+2=s.length:=e;omega,aS⟩⟩
    ·cases h
   ·cases h
 ·cases h
theorem d6b {i k k':Nat} {w:f5} {t:A6} (h:H0 i w k=.ok (t,k')) (h6:t.kind=6):t.text=w∧w ≠ [46]∧(m6 w).2.2=false:=by
 unfold H0 at h
 split at h
 ·injection h with h;injection h with h _;rw [← h] at h6;exact absurd h6 (by show ¬(3:Int)=6;decide)
 ·split at h
  ·split at h
   ·cases h
   ·simp only [] at h
    split at h
    ·cases h
    ·injection h with h;injection h with h _;rw [← h] at h6;exact absurd h6 (by show ¬(5:Int)=6;decide)
  ·split at h
   ·injection h with h;injection h with h _
    rw [← h]
    exact ⟨rfl,aS,by simpa using ‹¬(m6 w).2.2=true›⟩
   ·cases h
theorem d7v {s:f5} {j k:Nat} {t:A6} (hj:j < s.length) (h:A0 s j=.ok (t,k)) (h6:t.kind=6) (ht:t.text=s):L7 s=true∧s ≠ [46]∧(m6 s).2.2=false:=by
 have hl:t.text.length=s.length:=by rw [ht]
 unfold A0 at h
 split at h
 ·injection h with h;injection h with h _;rw [← h] at h6;exact absurd h6 (by show ¬(1:Int)=6;decide)
 split at h
 ·injection h with h;injection h with h _;rw [← h] at h6;exact absurd h6 (by show ¬(2:Int)=6;decide)
 split at h
 ·injection h with h;injection h with h _;rw [← h] at h6;exact absurd h6 (by show ¬(4:Int)=6;decide)
 split at h
 ·split at h
  ·cases h
  ·split at h
   ·cases h
   ·injection h with h;injection h with h _;rw [← h] at h6;exact absurd h6 (by show ¬(7:Int)=6;decide)
 split at h
 ·split at h
  ·cases h
  ·rename_i l j' he
   have h1:=a5e he
   have h2:=a7w he
   have h3:=a0w l
   split at h
   ·injection h with h;injection h with h _
    rw [← h] at hl
    have hl:(E6 l).length=s.length:=hl
    simp at h1
    omega
   ·cases h
 split at h
 ·have hw:=G9 s j oM
  split at h
  ·rename_i hh
   have h2:=X3 hh
   have:=(b98 oM h).1
   omega
  ·obtain ⟨e1,e2,e3⟩:=d6b h h6
   rw [e1] at hl
   have hl2:((s.take (k9 s j)).drop j).length=k9 s j - j:=by simp;omega
   have hj0:j=0:=oM
   subst hj0
   have hwl:k9 s 0=s.length:=oM
   rw [hwl,List.drop_zero,List.take_length] at e2 e3
   refine ⟨a9u.2 ⟨fun e=>by rw [e] at hj;simp at hj,fun i hi=>b3v _ 0 (Nat.le_refl _) i (Nat.zero_le _) oM⟩,e2,e3⟩
 ·cases h
theorem d7w {w:f5} {j k:Nat} {t:A6} (hj:LQ.skip (97 :: 58 :: 58 :: w) 0=some j) (h:A0 (97 :: 58 :: 58 :: w) j=.ok (t,k)) (h0:w ≠ []) (ht:t.text=w):L7 w=true:=by
 have hl:0 < w.length:=List.length_pos_iff.2 h0
 have e0:j=0:=by
  have:=b1x (s:=97 :: 58 :: 58 :: w) (k:=0) (by simp) (by rw [bt0];decide) (by rw [bt0];decide) (d0j (by rw [bt0];decide))
  rw [this] at hj
  injection hj with hj
  exact hj.symm
 subst e0
 have ew:k9 (97 :: 58 :: 58 :: w) 0=1:=by
  rw [k9,if_pos (by simp),if_pos (by rw [bt0];decide),k9,if_pos (by simp),if_neg (by rw [bt1];decide)]
 unfold A0 at h
 rw [bt0,if_neg dE,if_neg dE,if_neg dE,if_neg dE,if_neg dE,if_pos dE] at h
 simp only [ew] at h
 have hh:has (97 :: 58 :: 58 :: w) 1 58 58=true:=by unfold has;exact decide_eq_true ⟨by simp,by rfl,by rfl⟩
 rw [if_pos hh] at h
 have h1:=b98 (k:=1) (by simp) h
 have h2:=(h1.2 (by rw [ht];simp)).1
 refine a9u.2 ⟨h0,fun i hi=>?_⟩
 have:=b3v _ 3 (Nat.le_refl _) (i+3) oM (by rw [h2];simp;omega)
 have e:bt (97 :: 58 :: 58 :: w) (i+3)=bt w i:=rfl
 rw [e] at this
 exact this
def a2m (q:Bool):f5:=if q then [97,58,58] else []
theorem e0u (q:Bool) {w:f5} (h1:1≤w.length) (h2:w.length≤40):(∃ t e,D5 (a2m q ++ w)=.ok [t,e]∧t.kind=6∧t.text=w)↔¬(L7 w=false∨(q=false∧(w=[46]∨(m6 w).2.2=true))):=by
 have h0:w ≠ []:=fun e=>by rw [e] at h1;simp at h1
 cases q with
 | false =>
  show (∃ t e,D5 w=_∧_)↔_
  constructor
  ·rintro ⟨t,e,ht,h6,hx⟩
   obtain ⟨j,k,hj,hs,ho⟩:=c5q oM ht
   obtain ⟨a,b,c⟩:=d7v hj ho h6 hx
   rintro (h | ⟨_,h | h⟩)
   ·rw [a] at h;cases h
   ·exact b h
   ·rw [c] at h;cases h
  ·intro h
   have hw:D7 w false=w:=by unfold D7;rw [if_neg h]
   have hx:=d7m (w:=w) oM h2
   rw [hw] at hx
   obtain ⟨T,e1,e2⟩:=c0v hx oM
   have hT:T.length=1:=by have:=congrArg List.length e1;simpa using this
   obtain ⟨t,rfl⟩:=List.length_eq_one_iff.1 hT
   simp only [List.map_cons,List.map_nil,List.cons.injEq,and_true] at e1
   exact ⟨t,_,e2,congrArg NT.kind e1,congrArg NT.text e1⟩
 | true =>
  show (∃ t e,D5 (97 :: 58 :: 58 :: w)=_∧_)↔_
  constructor
  ·rintro ⟨t,e,ht,h6,hx⟩
   obtain ⟨j,k,hj,hs,ho⟩:=c5q (by simp;omega) ht
   have a:=d7w hs ho h0 hx
   rintro (h | ⟨h,_⟩)
   ·rw [a] at h;cases h
   ·cases h
  ·intro h
   have hw:D7 w true=w:=by unfold D7;rw [if_neg h]
   have hx:=d7n (p:=[97]) (w:=w) kR oM h2
   rw [hw] at hx
   obtain ⟨T,e1,e2⟩:=c0v hx (by simp;omega)
   have hT:T.length=1:=by have:=congrArg List.length e1;simpa using this
   obtain ⟨t,rfl⟩:=List.length_eq_one_iff.1 hT
   simp only [List.map_cons,List.map_nil,List.cons.injEq,and_true] at e1
   exact ⟨t,_,e2,congrArg NT.kind e1,congrArg NT.text e1⟩
end Go.Proofs.YtdldcfllnohkeaaGreatDoor
namespace Go.Proofs.YtdldcfllnohkeaaGreatDoor
open Go.Abs LQ
set_option maxRecDepth 100000
set_option maxHeartbeats 8000000
noncomputable section
def d15:Sp where
 ι:={ p:f5 × UInt8 // p.1.length < 90000∧(p.2=34∨p.2=124) }
 A p:=[.c (.s p.1.1),.c (.i .i32 (p.1.2.toNat:Int))]
 B _:=[]
 R p:=.ret (.c (.s (D8 p.1.2 p.1.1)))
 B' _:=[]
 inj i j vs bs h k _ _:=by
  obtain ⟨_,_,h1,k1,h,k⟩:=h.two k
  obtain ⟨_,_,h2,k2,h,k⟩:=h.two k
  have e2:=a0l h2 k2
  rw [F7 h1 k1,UInt8.toNat_inj.1 (show i.1.2.toNat=j.1.2.toNat by omega)];exact ⟨rfl,rfl⟩
theorem d8h {a b:Bool} (h:a2m a=a2m b):a=b:=by cases a <;> cases b <;> first | rfl | cases h
theorem d8i:3816033=j9 (a2m true):=dE
def f6q:Sp where
 ι:={ p:Bool × f5 // 1≤p.2.length∧p.2.length≤40 }
 A p:=[.c (.s (a2m p.1.1)),.c (.s p.1.2)]
 B _:=[]
 R p:=.ret (.c (.s (D7 p.1.2 p.1.1)))
 B' _:=[]
 inj i j vs bs h k _ _:=by
  obtain ⟨_,_,h1,k1,h,k⟩:=h.two k
  obtain ⟨_,_,h2,k2,h,k⟩:=h.two k
  rw [d8h (F7 h1 k1),F7 h2 k2];exact ⟨rfl,rfl⟩
theorem e7v (hq:j3 52 d15):j3 86 f6q:=k7 (fun fn h=>f1s h) [(52,_),(17,_)] (.cons hq (.cons d7l .nil)) fun U fn hfn ⟨(q,w),h1,h2⟩ vs bs hv hb=>by
 have hqu:=hfn 52 _ rfl
 have htk:=hfn 17 _ rfl
 have h1:1≤w.length:=h1
 have h2:w.length≤40:=h2
 have hv:j5 [.c (.s (a2m q)),.c (.s w)] vs:=hv
 have hb:RBs [] bs:=hb
 show g7 U _ fun v bs'=>j6 (.ret (.c (.s (D7 w q)))) v∧RBs [] bs'
 unfold r86
 have hw:=e0u q h1 h2
 have hpl:(a2m q).length≤3:=by cases q <;> decide
 (refine Zy ?_;intros)
 refine T7 (x:=a2m q) (y:=w) rfl rfl rfl ?_
 have hsl:(a2m q ++ w).length < 8000:=by simp;omega
 have fin:∀ (z:Bool),(z=true↔∃ t e,D5 (a2m q ++ w)=.ok [t,e]∧t.kind=6∧t.text=w)→D7 w q=if z=true then w else D8 124 w:=fun z hz=>by
  unfold D7
  by_cases hz1:z=true
  ·rw [if_neg (hw.1 (hz.1 hz1)),if_pos hz1]
  ·rw [if_pos (Decidable.byContradiction fun h=>hz1 (hz.2 (hw.2 h))),if_neg hz1]
 have key:∃ (T:List A6) (e p:Int),d2e (D5 (a2m q ++ w))=.ret (.t [.sl 5 (T.map T8),.a [.i .i64 e,.i .i64 p]])∧(∀ z:Bool,(z=true↔(e=0∧∃ t x,T=[t,x]∧t.kind=6∧t.text=w))→D7 w q=if z=true then w else D8 124 w)∧(e=0→T.length < 90000):=by
  cases hx:D5 (a2m q ++ w) with
  | ok T =>
   refine ⟨T,0,0,rfl,fun z hz=>fin z (hz.trans ?_),fun _=>?_⟩
   ·rw [hx]
    constructor
    ·rintro ⟨_,t,x,rfl,h⟩;exact ⟨t,x,rfl,h⟩
    ·rintro ⟨t,x,h,h6⟩;injection h with h;exact ⟨rfl,t,x,h,h6⟩
   ·unfold D5 at hx
    rw [if_neg (by simp;omega)] at hx
    obtain ⟨T',e,_,_,hl⟩:=a9z _ (Nat.le_refl _) (Nat.zero_le _) hx
    subst e
    simp at hl ⊢
    omega
  | error ep =>
   refine ⟨[],ep.1,ep.2,rfl,fun z hz=>fin z (hz.trans ?_),fun _=>by decide⟩
   rw [hx]
   constructor
   ·rintro ⟨_,t,x,h,_⟩;cases h
   ·rintro ⟨t,x,h,_⟩;cases h
 obtain ⟨T,e,p,hT,hfin,hTl⟩:=key
 refine f6 htk ⟨a2m q ++ w,hsl⟩ (r:=.t [.sl 5 (T.map T8),.a [.i .i64 e,.i .i64 p]]) hT (.k (.s _ _ _ (by simp) rfl) .nil) .nil fun _ _ hv2 _=>?_
 (refine Zy ?_;intros)
 refine R6 (fun vs bs=>∃ (z:Bool) (v:V),vs=[.str w.length (j9 w),v]∧bs=[]∧RV (.c (.b z)) v∧(z=true↔(e=0∧∃ t x,T=[t,x]∧t.kind=6∧t.text=w))) ?_ ?_
 ·rintro _ _ ⟨z,v,rfl,rfl,hvz,hz⟩
  rw [hfin z hz]
  (refine Zy ?_;with_reducible repeat' first|intro _|apply aI)
  ·rw [if_pos ‹z=true›]
   exact g9 ⟨.ret _ _ (.s _ _ _ rfl rfl),.nil⟩
  ·rw [if_neg ‹¬z=true›]
   refine f6 hqu ⟨(w,124),by show w.length < 90000;omega,.inr rfl⟩ (r:=.c (.s (D8 124 w))) rfl (.k (.s _ _ _ rfl rfl) (.k (.i _ _) .nil)) .nil fun _ _ _ _=>?_
   (refine Zy ?_;intros)
   exact g9 ⟨.ret _ _ (.s _ _ _ rfl rfl),.nil⟩
 ·intro c hc
  (refine Zy ?_;with_reducible repeat' first|intro _|apply aI)
  ·have hl2:T.length=2:=oM
   obtain ⟨t,x,rfl⟩:∃ t x,T=[t,x]:=by
    match T,hl2 with
    | [t,x],_=>exact ⟨t,x,rfl⟩
   have h6:t.kind=6:=‹_›
   exact fun e9=>hc _ _ ⟨decide (t.text=w),_,rfl,rfl,P9 (by subst e9;exact (cuS _ _).symm),by
    rw [decide_eq_true_iff]
    exact ⟨fun h=>⟨aS,t,x,rfl,h6,h⟩,fun ⟨_,t',x',h,_,h2⟩=>by injection h with h _;rw [h];exact h2⟩⟩ e9
  ·have h6:¬(T[0]'oM).kind=6:=‹_›
   exact hc _ _ ⟨false,_,rfl,rfl,.kn _,⟨(fun h=>by cases h),fun ⟨_,t',x',h,h2,_⟩=>by subst h;exact absurd h2 h6⟩⟩
  ·have h6:¬((T.length:Nat):Int)=2:=‹_›
   exact hc _ _ ⟨false,_,rfl,rfl,.kn _,⟨(fun h=>by cases h),fun ⟨_,t',x',h,h2,_⟩=>by subst h;exact absurd rfl h6⟩⟩
  ·exact hc _ _ ⟨false,_,rfl,rfl,.kn _,⟨(fun h=>by cases h),fun ⟨h,_⟩=>absurd h ‹¬e=0›⟩⟩
def a9b (r:f5 × Int):GV:=.t [.c (.s r.1),.c (.i .i64 r.2)]
def d12:Sp where
 ι:={ p:List Pk × f5 × Sy // F1 p.1∧p.2.2.1.length < 90000∧p.2.2.2.length < 90000 }
 A p:=[.sl 2 (p.1.1.map pg),.c (.s p.1.2.1),.a (sg p.1.2.2)]
 B _:=[]
 R p:=.ret (a9b (H9 p.1.1 p.1.2.1 p.1.2.2))
 B' _:=[]
 inj i j vs bs h k _ _:=by
  obtain ⟨_,_,h1,k1,h,k⟩:=h.two k
  obtain ⟨_,_,h2,k2,h,k⟩:=h.two k
  obtain ⟨_,_,h3,k3,h,k⟩:=h.two k
  rw [Y5 (h1.sl_inj k1),F7 h2 k2,a8h (h3.a_inj k3)];exact ⟨rfl,rfl⟩
theorem a6b {L:List Pk} {c:f5} (h:B0 L c=none):E2 L c=.t [.a [.s [],.l []],.c (.b false)]:=by unfold E2;rw [h]
theorem a6c {L:List Pk} {c:f5} {p:Pk} (h:B0 L c=some p):E2 L c=.t [.a (pg p),.c (.b true)]:=by unfold E2;rw [h]
theorem e7i (hq:j3 52 d15):j3 53 d12:=k7 (fun fn h=>f0e h) [(84,_),(50,_),(82,_),(85,_),(86,_)] (.cons (c8e kIS) (.cons c3e (.cons d3s (.cons e1e (.cons (e7v hq) .nil))))) fun U fn hfn ⟨(L,cur,s),hL,hs1,hs2⟩ vs bs hv hb=>by
 have hva:=hfn 84 _ rfl
 have hfi:=hfn 50 _ rfl
 have hho:=hfn 82 _ rfl
 have hvi:=hfn 85 _ rfl
 have hwo:=hfn 86 _ rfl
 have hL:F1 L:=hL
 have hs1:s.1.length < 90000:=hs1
 have hs2:s.2.length < 90000:=hs2
 have hv:j5 [.sl 2 (L.map pg),.c (.s cur),.a [.s s.1,.s s.2]] vs:=hv
 have hb:RBs [] bs:=hb
 show g7 U _ fun v bs'=>j6 (.ret (a9b (H9 L cur s))) v∧RBs [] bs'
 unfold r53
 (refine Zy ?_;intros)
 refine f6 hva ⟨s,hs1,hs2⟩ (r:=.c (.b (named s))) rfl (.k (.a _ _ _ rfl aS) .nil) .nil fun _ _ _ _=>?_
 (refine Zy ?_;with_reducible repeat' first|intro _|apply aI)
 ·have hn:named s=true:=‹_›
  obtain ⟨nv,nl,n0⟩:=a0v hn
  have nnf:¬named s=false:=by rw [hn];simp
  have bad:(B0 L cur=none∨F6 L s=false)→g7 U (some (.ret (.tuple [.str 0 0,.int .i64 13]),[])) fun v bs'=>j6 (.ret (a9b (H9 L cur s))) v∧RBs [] bs':=fun h=>by
   unfold H9
   rw [if_neg nnf,if_pos h]
   exact g9 ⟨.ret _ _ j4,.nil⟩
  cases hf:B0 L cur with
  | none =>
   refine f6 hfi ⟨(L,cur),hL⟩ (r:=.t [.a [.s [],.l []],.c (.b false)]) (by show n6.ret (E2 L cur)=_;rw [a6b hf]) (.k (.sl _ _ _ _ _ (by simp) aS) j4) .nil fun _ _ _ _=>?_
   (refine Zq ?_;intros)
   exact bad (.inl hf)
  | some p =>
   refine f6 hfi ⟨(L,cur),hL⟩ (r:=.t [.a (pg p),.c (.b true)]) (by show n6.ret (E2 L cur)=_;rw [a6c hf]) (.k (.sl _ _ _ _ _ (by simp) aS) j4) .nil fun _ _ hv9 _=>?_
   have hv9:RV (.t [.a [.s p.1,.l (p.2.map sg)],.c (.b true)]) _:=hv9
   (refine Zq ?_;intros)
   have n1:¬(B0 L cur=none∨F6 L s=false)↔F6 L s=true:=by rw [hf];simp
   refine f6 hho ⟨(L,s),hL⟩ (r:=.c (.b (F6 L s))) rfl (.k (.sl _ _ _ _ _ (by simp) aS) (.k (.a _ _ _ rfl aS) .nil)) .nil fun _ _ _ _=>?_
   (refine Zq ?_;with_reducible repeat' first|intro _|apply aI)
   ·have hh:F6 L s=true:=‹_›
    unfold H9
    rw [if_neg nnf,if_neg (n1.2 hh)]
    refine f6 hvi ⟨(L,cur,s),hL⟩ (r:=.c (.b (a14 L cur s))) rfl (.k (.sl _ _ _ _ _ (by simp) aS) (.k (.s _ _ _ rfl rfl) (.k (.a _ _ _ rfl aS) .nil))) .nil fun _ _ _ _=>?_
    (refine Zq ?_;with_reducible repeat' first|intro _|apply aI)
    ·rw [if_pos ‹a14 L cur s=true›]
     refine f6 hwo ⟨(false,s.2),n0,nl⟩ (r:=.c (.s (D7 s.2 false))) rfl (.k (.s _ _ _ rfl rfl) (.k (.q _ _ aS) .nil)) .nil fun _ _ _ _=>?_
     (refine Zq ?_;intros)
     exact g9 ⟨.ret _ _ j4,.nil⟩
    ·rw [if_neg ‹¬a14 L cur s=true›]
     refine T7 (x:=s.1) (y:=[58,58]) rfl rfl rfl ?_
     have hw:=a95 s.2 true
     (refine Zq ?_;intros)
     refine f6 hwo ⟨(true,s.2),n0,nl⟩ (r:=.c (.s (D7 s.2 true))) rfl (.k (.s _ _ _ rfl d8i) (.k (.q _ _ aS) .nil)) .nil fun _ _ _ _=>?_
     (refine Zq ?_;intros)
     refine T7 (x:=s.1 ++ [58,58]) (y:=D7 s.2 true) (by simp) rfl rfl ?_
     rw [show s.1 ++ [58,58] ++ D7 s.2 true=s.1 ++ 58 :: 58 :: D7 s.2 true by simp]
     exact g9 ⟨.ret _ _ (.t _ _ (.k (.s _ _ _ (by simp;omega) rfl) (.k (.i _ _) .nil))),.nil⟩
   ·exact bad (.inr (by simpa using ‹¬F6 L s=true›))
 ·have hn:named s=false:=by simpa using ‹¬named s=true›
  unfold H9
  rw [if_pos hn]
  exact g9 ⟨.ret _ _ j4,.nil⟩
end
end Go.Proofs.YtdldcfllnohkeaaGreatDoor
namespace Go.Proofs.YtdldcfllnohkeaaGreatDoor
open Go.RowKit Go.Shelf Go.Abs LQ
set_option maxRecDepth 100000
def J0 (a:UInt8) (s:f5):f5:=s.flatMap fun b=>if b=a then [92,a] else [b]
theorem b8l (a:UInt8):∀ s:f5,Lib.replaceK [a] [92,a] (s.count a) s=J0 a s
 | []=>rfl
 | b :: l=>by
  by_cases h:b=a
  ·subst h
   have hi:Lib.index (b :: l) [b]=(0:Nat):=by rw [Lib.index_one];unfold Lib.indexByte;simp
   rw [List.count_cons_self,Lib.replaceK_hit _ _ _ _ 0 hi]
   have:=b8l b l
   simp only [List.take_zero,List.nil_append,List.length_cons,List.length_nil,Nat.zero_add,List.drop_succ_cons,List.drop_zero]
   rw [this]
   simp [J0]
  ·have ih:=b8l a l
   have hc:(b :: l).count a=l.count a:=List.count_cons_of_ne (fun e=>h e)
   rw [hc]
   have he:J0 a (b :: l)=b :: J0 a l:=by simp [J0,h]
   rw [he,← ih]
   cases hk:l.count a with
   | zero=>rfl
   | succ k =>
    obtain ⟨i,hi⟩:=Lib.index_of_count (s:=l) (old:=[a]) (by rw [Lib.count_one,hk];omega)
    have hi2:Lib.index (b :: l) [a]=((i+1:Nat):Int):=by
     rw [Lib.index_one] at hi ⊢
     unfold Lib.indexByte
     rw [if_neg (by simpa using h),hi,if_neg (by simp)]
     simp
    rw [Lib.replaceK_hit _ _ _ _ i hi,Lib.replaceK_hit _ _ _ _ (i+1) hi2]
    simp
theorem d1n (a:UInt8) (s:f5):Lib.replaceAll s [a] [92,a]=J0 a s:=by
 unfold Lib.replaceAll Lib.replace Lib.replaceNum
 rw [if_neg (by simp),if_pos (.inl dE),Lib.count_one,b8l]
theorem b38 (a:UInt8) (s:f5):(J0 a s).length≤2 * s.length:=by
 unfold J0
 induction s with
 | nil=>simp
 | cons b l ih =>
  rw [List.flatMap_cons,List.length_append,List.length_cons]
  split
  ·simp only [List.length_cons,List.length_nil];omega
  ·simp only [List.length_cons,List.length_nil];omega
theorem d6x (c:UInt8) (l:f5):(F8 c l).length≤2 * l.length:=by
 unfold F8
 induction l with
 | nil=>simp
 | cons b l ih =>
  rw [List.flatMap_cons,List.length_append,List.length_cons]
  split
  ·simp only [List.length_cons,List.length_nil];omega
  ·simp only [List.length_cons,List.length_nil];omega
theorem c7u {c:UInt8} (hc:c ≠ 92) (s:f5):J0 c (J0 92 s)=F8 c s:=by
 unfold J0 F8
 rw [List.flatMap_assoc]
 refine congrArg (fun f=>List.flatMap f s) (funext fun b=>?_)
 by_cases h1:b=92
 ·subst h1
  rw [if_pos rfl,if_pos (.inr rfl)]
  simp [Ne.symm hc]
 ·rw [if_neg h1]
  by_cases h2:b=c
  ·subst h2;simp
  ·simp [h1,h2]
theorem BXq:Builder.Extra Tryz.prog Tryz.lays155_ren where
 sizeBuilder:=kR
 liesBuilder:=kR
 t5:=Tryz.lays155.t5
 a5:=Tryz.lays155.a5
 z5:=Tryz.lays155.z5
 v5:=Tryz.lays155.v5
 infoByte:=kR
 cellsByte:=kR
 sizeByte:=kR
 neB5:=dE
theorem a5q (m:Int) (s:f5) (a:UInt8) (w:World) (hm:w.cell? ⟨Tryz.lays155_ren.g 1,0,none⟩=some (.int .i64 m)) (hs:s.length < 1000000) :
  Calls Tryz.prog 83 #[.string ⟨s.toArray⟩,.string ⟨#[a]⟩,.string ⟨#[92,a]⟩] w fun e w'=>e=.returned (.string ⟨(J0 a s).toArray⟩)∧Below w.heap.size w w':=by
 have hcnt:=Lib.count_one a s
 have hle:=List.count_le_length (a:=a) (l:=s)
 refine (Any.strings_ReplaceAll Tryz.lays155 BXq ⟨s.toArray⟩ ⟨#[a]⟩ ⟨#[92,a]⟩ m w (by show s.length < _;omega) hm (Nat.le_refl 1) ?_).mono ?_
 ·show s.length+Lib.countB ⟨s.toArray⟩ ⟨#[a]⟩ * 2≤_
  have:Lib.countB ⟨s.toArray⟩ ⟨#[a]⟩=Lib.count s [a]:=rfl
  rw [this,hcnt]
  omega
 ·rintro e w' ⟨rfl,hb⟩
  refine ⟨?_,hb⟩
  rw [show Lib.replaceAll (⟨s.toArray⟩:ByteArray).data.toList (⟨#[a]⟩:ByteArray).data.toList (⟨#[92,a]⟩:ByteArray).data.toList=J0 a s from d1n a s]
structure Hid (p:Prop):Prop where
 go:p
def qM:Value→Nat
 | .int _ j=>3 - j.toNat
 | _=>0
def S5 (c:Nat) (s:f5):Nat→f5
 | 0=>s
 | 1=>J0 92 s
 | 2=>if c=34 then J0 34 (J0 92 s) else J0 92 s
 | _=>J0 c.toUInt8 (J0 92 s)
set_option maxHeartbeats 4000000 in
theorem c6u (m:Int) (s:f5) (c:Nat) (hc:c=34∨c=124) (w:World) (hm:w.cell? ⟨Tryz.lays155_ren.g 1,0,none⟩=some (.int .i64 m)) (hs:s.length < 90000) :
  Calls Tryz.prog 52 #[.string ⟨s.toArray⟩,.int .i32 (c:Int)] w fun e w'=>e=.returned (.string ⟨(D8 c.toUInt8 s).toArray⟩)∧Below w.heap.size w w':=by
 have key:Hid ((((34:Int) == (c:Int))=true∧((124:Int) == (c:Int))=false∧Hid (S5 c s 2=J0 34 (J0 92 s)∧S5 c s 3=S5 c s 2∧(S5 c s 2).length < 1000000)) ∨
   (((34:Int) == (c:Int))=false∧((124:Int) == (c:Int))=true∧Hid (S5 c s 2=J0 92 s∧S5 c s 3=J0 124 (S5 c s 2)∧(S5 c s 2).length < 1000000))):=by
  have e1:=b38 92 s
  have e2:=b38 34 (J0 92 s)
  rcases hc with rfl | rfl
  ·exact ⟨.inl ⟨rfl,rfl,⟨rfl,rfl,by show (J0 34 (J0 92 s)).length < _;omega⟩⟩⟩
  ·exact ⟨.inr ⟨rfl,rfl,⟨rfl,rfl,by show (J0 92 s).length < _;omega⟩⟩⟩
 have henc:Hid (Utf8.encode (c:Int)=⟨#[c.toUInt8]⟩):=by rcases hc with rfl | rfl <;> exact ⟨dE⟩
 have hfin:Hid (S5 c s 3=F8 c.toUInt8 s):=by
  rcases hc with rfl | rfl
  ·exact ⟨c7u dE s⟩
  ·exact ⟨c7u dE s⟩
 clear hc
 go_enter Tryz.func52,Tryz.ntmps52
 go_wp2
 go_loopw [0,9] (fun v0 v9 wr=>∃ i:Nat,i≤3∧v9=.int .i64 i∧v0=.string ⟨(S5 c s i).toArray⟩∧Below w.heap.size w wr∧wr.heap[w.heap.size]?=some (.cells #[.int .i32 92,.int .i32 34,.int .i32 124] 21 (0,0))) (fun v0 v9 wr=>qM v9)
 case atStart=>exact ⟨0,dE,rfl,rfl,(Below.refl _ w).alloc (Nat.le_refl _) _,by show (w.heap.push _)[w.heap.size]?=_;simp⟩
 case round =>
  obtain ⟨i,hi,rfl,rfl,hbl,hcell⟩:=hrel
  rename_i wr _
  have c0:wr.cell? ⟨w.heap.size,0,none⟩=some (.int .i32 92):=by simp [World.cell?,hcell]
  have c1:wr.cell? ⟨w.heap.size,1,none⟩=some (.int .i32 34):=by simp [World.cell?,hcell]
  have c2:wr.cell? ⟨w.heap.size,2,none⟩=some (.int .i32 124):=by simp [World.cell?,hcell]
  have hgb:Tryz.lays155_ren.g 1 < w.heap.size:=by
   rcases Nat.lt_or_ge (Tryz.lays155_ren.g 1) w.heap.size with h | h
   ·exact h
   ·simp [World.cell?,Array.getElem?_eq_none h] at hm
  have hm2:=a2i hbl hgb hm
  have hsz:w.heap.size < wr.heap.size:=(Array.getElem?_eq_some_iff.1 hcell).1
  have e1:=b38 92 s
  obtain rfl | rfl | rfl | rfl:i=0∨i=1∨i=2∨i=3:=oM
  ·go_wp2_with (first
    | (go_at_call 83;refine (a5q m s 92 _ hm2 oM).mono ?_;rintro e w2 ⟨rfl,hb2⟩))
   exact ⟨⟨1,dE,rfl,rfl,hbl.trans (y9 hb2 oM),(hb2.block _ hsz).trans hcell⟩,dE⟩
  ·rcases key.go with ⟨g1,g2,r⟩ | ⟨g1,g2,r⟩
   ·go_wp2_with (first
     | (go_at_call 83;refine (a5q m (J0 92 s) 34 _ hm2 oM).mono ?_;rintro e w2 ⟨rfl,hb2⟩))
    exact ⟨⟨2,dE,rfl,by rw [r.go.1],hbl.trans (y9 hb2 oM),(hb2.block _ hsz).trans hcell⟩,dE⟩
   ·go_wp2_with (first
     | (go_at_call 83;refine (a5q m (J0 92 s) 34 _ hm2 oM).mono ?_;rintro e w2 ⟨rfl,hb2⟩))
    exact ⟨⟨2,dE,rfl,by rw [r.go.1];rfl,hbl,hcell⟩,dE⟩
  ·rcases key.go with ⟨g1,g2,r⟩ | ⟨g1,g2,r⟩
   ·go_wp2_with (first
     | (go_at_call 83;refine (a5q m (S5 c s 2) 124 _ hm2 r.go.2.2).mono ?_;rintro e w2 ⟨rfl,hb2⟩))
    exact ⟨⟨3,dE,rfl,by rw [r.go.2.1],hbl,hcell⟩,dE⟩
   ·go_wp2_with (first
     | (go_at_call 83;refine (a5q m (S5 c s 2) 124 _ hm2 r.go.2.2).mono ?_;rintro e w2 ⟨rfl,hb2⟩))
    exact ⟨⟨3,dE,rfl,by rw [r.go.2.1],hbl.trans (y9 hb2 oM),(hb2.block _ hsz).trans hcell⟩,dE⟩
  ·clear key
   refine wp_seq ?_
   refine wp_region ?_
   simp [wpOps,go_sem]
   refine .inl ?_
   refine wp_seq ?_
   refine wp_cond_false (by simp [Act.eval]) ?_
   refine wp_exit ?_
   simp only [Exit.then,Exit.inBlock,if_true]
   refine ‹∀ (a:Act) (w:World),Code.wp _ _ _ a w→_› _ _ ?_
   clear hm2 c0 c1 c2 hgb hsz e1 hi
   have hSl:(⟨(S5 c s 3).toArray⟩:ByteArray).size≤1000000:=by
    show (S5 c s 3).length≤_
    rw [hfin.go]
    have:=d6x c.toUInt8 s
    omega
   have hEl:(Utf8.encode (c:Int)).size=1:=by rw [henc.go];rfl
   have hfin2:Hid (Utf8.encode (c:Int) ++ ⟨(S5 c s 3).toArray⟩ ++ Utf8.encode (c:Int)=⟨(D8 c.toUInt8 s).toArray⟩):=by
    refine ⟨?_⟩
    rw [henc.go,hfin.go]
    unfold D8
    apply ByteArray.ext
    simp
   obtain ⟨E,hE⟩:∃ E,Utf8.encode (c:Int)=E:=⟨_,rfl⟩
   generalize hS:(⟨(S5 c s 3).toArray⟩:ByteArray)=S at *
   rw [hE] at hEl hfin2
   clear hS hfin henc
   have z1:E.size+S.size≤9223372036854775807:=oM
   have z2:(E ++ S).size+E.size≤9223372036854775807:=by rw [ByteArray.size_append];omega
   have z3:E.size+S.size+E.size≤9223372036854775807:=oM
   clear hEl hSl
   go_wp2
   go_ret
   exact ⟨by rw [hfin2.go];rfl,hbl⟩
end Go.Proofs.YtdldcfllnohkeaaGreatDoor
namespace Go.Proofs.YtdldcfllnohkeaaGreatDoor
open Go.Abs LQ
noncomputable section
open Classical
theorem e6w {L:List Pk} {cur:f5} {d:O} {t:f5}:(pT L cur d).2.2=some t↔∃ x,d=.co x A5∧t=o8 L cur x:=by
 cases d with
 | co x y =>
  simp only [pT]
  by_cases h:y=A5
  ·rw [if_pos h]
   subst h
   constructor
   ·intro e;injection e with e;exact ⟨x,rfl,e.symm⟩
   ·rintro ⟨z,e,rfl⟩;injection e with e _;subst e;rfl
  ·rw [if_neg h]
   constructor
   ·intro e;cases e
   ·rintro ⟨z,e,_⟩;injection e with _ e;exact absurd e h
 | _ =>
  constructor
  ·intro e;cases e
  ·rintro ⟨z,e,_⟩;cases e
theorem R0 {o x:O}:A7 o=some x↔o=.co z7 (.co x A5):=by
 unfold A7
 constructor
 ·intro h
  split at h
  ·rename_i q y hi
   split at h
   ·rename_i hq
    injection h with h
    subst h hq
    obtain ⟨d,rfl,hd⟩:=N6 hi
    obtain ⟨e,rfl,he⟩:=N6 hd
    rw [b9r he]
   ·cases h
  ·cases h
 ·rintro rfl
  have:m8 (.co z7 (.co x A5))=some [z7,x]:=by simp [m8,A5]
  rw [this]
  simp only [if_true]
theorem a6q {L:List Pk} {cur:f5} {o x:O} (h:A7 o=some x):o8 L cur o=39 :: o8 L cur x:=by
 rw [R0.1 h]
 unfold o8
 simp only [pT,if_true]
theorem a6p {L:List Pk} {cur:f5} {a d:O} (h:A7 (.co a d)=none):o8 L cur (.co a d)=40 :: (o8 L cur a ++ (pT L cur d).2.1):=by
 unfold o8
 simp only [pT]
 by_cases ha:a=z7
 ·rw [if_pos ha]
  cases hd:(pT L cur d).2.2 with
  | none=>rfl
  | some t =>
   obtain ⟨x,rfl,_⟩:=e6w.1 hd
   rw [R0.2 (by rw [ha])] at h
   cases h
 ·rw [if_neg ha]
def b2v (L:List Pk) (cur before:f5):O→f5
 | .co a d=>before ++ (o8 L cur a ++ (pT L cur d).2.1)
 | o=>(pT L cur o).2.1
theorem c89 (L:List Pk) (cur:f5) (o:O):b2v L cur [32] o=(pT L cur o).2.1:=by
 cases o <;> rfl
theorem e5w {L:List Pk} {cur:f5} {a d:O} (h:A7 (.co a d)=none):b2v L cur [40] (.co a d)=o8 L cur (.co a d):=by
 rw [a6p h];rfl
theorem c88 {L:List Pk} {cur b:f5} {o:O} (h:o.isCo=false):b2v L cur b o=if o=A5 then [41] else [32,46,32] ++ o8 L cur o ++ [41]:=by
 cases o with
 | co=>cases h
 | _=>rfl
def W7:O→Prop
 | .num n d=>0 < d∧Nat.gcd n.natAbs d=1∧(f9 n).length≤101∧(f8 d).length≤100
 | .tx t=>t.length≤200
 | .sy s=>named s=true
 | .co a d=>W7 a∧W7 d
 | .no=>False
theorem a9c {s:Sy} (h:named s=true):s.1.length≤40:=by
 have:=(a0v h).1
 simp [n5] at this
 exact this.1.2.1
theorem a9f {L:List Pk}:∀ {o:O},okA L o→W7 o
 | .num n d,h=>by
  refine ⟨h.1,h.2.1,?_,h.2.2.2⟩
  have:=h.2.2.1
  rw [a1s,List.length_append]
  have:(LQ.sgn n).length≤1:=by unfold LQ.sgn;split <;> simp
  omega
 | .tx _,h=>h
 | .sy _,h=>h.1
 | .co _ _,h=>⟨a9f h.1,a9f h.2⟩
 | .no,h=>h.elim
theorem b3z {L:List Pk} {cur:f5} {o:O} (h:W7 o) (hn:∀ a d,o ≠ .co a d):(N2 L cur o).length≤410:=by
 cases o with
 | num n d=>have:=d70 n d;have:=h.2.2.1;have:=h.2.2.2;show (b4f n d).length≤_;omega
 | sy s =>
  have h1:=d7u L cur s
  have h2:=a0v h
  have h3:=a9c h
  show (H9 L cur s).1.length≤_;omega
 | tx t=>have:=c7t 34 t;have h:t.length≤200:=h;show (D8 34 t).length≤_;omega
 | co a d=>exact absurd rfl (hn a d)
 | no=>exact h.elim
theorem b44 {L:List Pk} {cur:f5}:∀ {o:O},W7 o→szA L cur o≤410 * lv o
 | .co a d,h=>by
  have h1:=b44 (L:=L) (cur:=cur) h.1
  have h2:=b44 (L:=L) (cur:=cur) h.2
  simp only [szA,lv];omega
 | .num n d,h=>b3z (o:=.num n d) h fun _ _ e=>by cases e
 | .sy s,h=>b3z (o:=.sy s) h fun _ _ e=>by cases e
 | .tx t,h=>b3z (o:=.tx t) h fun _ _ e=>by cases e
 | .no,h=>h.elim
theorem Z0 {L:List Pk} {cur:f5} {o:O} (h:W7 o):2 * (o8 L cur o).length≤415 * (o.size+1)∧2 * (pT L cur o).2.1.length≤415 * (o.size+1):=by
 have h1:=a9x (L:=L) (cur:=cur) o
 have h2:=b44 (L:=L) (cur:=cur) h
 have h3:=c8m o
 have h4:=d37 o
 have h5:(o8 L cur o).length=(pT L cur o).1.length:=rfl
 omega
theorem e8i (x y:Int):0 < (qn x y).2∧Nat.gcd (qn x y).1.natAbs (qn x y).2=1:=by
 by_cases hy:y=0
 ·have e:qn x y=(0,1):=by unfold qn;rw [if_pos hy]
  rw [e];decide
 have e:qn x y=((if (x < 0)=(y < 0) then 1 else -1) * ((x.natAbs / Nat.gcd x.natAbs y.natAbs:Nat):Int),y.natAbs / Nat.gcd x.natAbs y.natAbs):=by unfold qn;rw [if_neg hy]
 have hg:0 < Nat.gcd x.natAbs y.natAbs:=Nat.gcd_pos_of_pos_right _ oM
 have h1:Nat.gcd (x.natAbs / Nat.gcd x.natAbs y.natAbs) (y.natAbs / Nat.gcd x.natAbs y.natAbs)=1:=by
  rw [Nat.gcd_div (Nat.gcd_dvd_left _ _) (Nat.gcd_dvd_right _ _),Nat.div_self hg]
 have hd:0 < y.natAbs / Nat.gcd x.natAbs y.natAbs:=Nat.div_pos (Nat.le_of_dvd oM (Nat.gcd_dvd_right _ _)) hg
 rw [e]
 simp only
 refine ⟨hd,?_⟩
 have e2:((if (x < 0)=(y < 0) then (1:Int) else -1) * ((x.natAbs / Nat.gcd x.natAbs y.natAbs:Nat):Int)).natAbs=x.natAbs / Nat.gcd x.natAbs y.natAbs:=by
  generalize x.natAbs / Nat.gcd x.natAbs y.natAbs=a
  by_cases hc:(x < 0)=(y < 0)
  ·rw [if_pos hc];omega
  ·rw [if_neg hc];omega
 rw [e2];exact h1
theorem c25 {L:List Pk}:∀ {o:O},o.fm=true→t8 L o=true→okA L o
 | .num n d,h,_=>by
  have h:o7 (f9 n) (f8 d)=(f9 n,f8 d)∧A8 (f9 n)≤100∧A8 (f8 d)≤100:=by simpa [O.fm] using h
  obtain ⟨h1,h2,h3⟩:=h
  rw [a68] at h2
  rw [a2t] at h3
  rw [Y6,o9,A4] at h1
  injection h1 with e1 e2
  have e1:=a0c e1
  have e2:=a23 e2
  have h4:=e8i n d
  rw [e1,e2] at h4
  exact ⟨h4.1,h4.2,h2,h3⟩
 | .tx t,h,_=>by
  have h:t.length≤200:=by simpa [O.fm] using h
  exact h
 | .sy s,h,k=>⟨h,k⟩
 | .co a d,h,k=>by
  have h:a.fm=true∧d.fm=true:=by simpa [O.fm] using h
  have k:t8 L a=true∧t8 L d=true:=by simpa [t8] using k
  exact ⟨c25 h.1 k.1,c25 h.2 k.2⟩
 | .no,h,_=>by cases h
end
end Go.Proofs.YtdldcfllnohkeaaGreatDoor
namespace Go.Proofs.YtdldcfllnohkeaaGreatDoor
open Go.Abs LQ Go.RowKit Go.Shelf
set_option maxRecDepth 100000
set_option maxHeartbeats 2000000
noncomputable section
def S8 (o:O):Prop:=∃ q,u6 o.g q 0
theorem d2w {gs:List G} {v:V} (h:RV (.a gs) v):∃ q,u6 gs q 0:=by
 cases h with
 | a _ q _ _ h=>exact ⟨q,h⟩
 | ag _ cs h=>obtain ⟨qs,_,k⟩:=b5i h;exact ⟨_,k.cel⟩
theorem S8.rv {o:O} (h:S8 o):∃ v,RV (.a o.g) v:=h.elim fun q h=>⟨_,.a _ q 7 (O.g_len o).symm h⟩
theorem S8.two {a d:O} (h:S8 (.co a d)):S8 a∧S8 d:=by
 obtain ⟨q,h⟩:=h
 have h6:RG (.l [a.g,d.g]) (celQ q (0+6)):=h.get rfl
 generalize celQ q (0+6)=x at h6
 cases h6 with
 | l _ t n off len _ h =>
  cases h with
  | cons _ _ _ _ _ _ h1 _ h =>
   cases h with
   | cons _ _ _ _ _ _ h2 _ h=>exact ⟨⟨_,h1⟩,⟨_,h2⟩⟩
abbrev C4 (o:O) (c6:Value):Array Value:=#[.int .i64 o.k,.string ⟨o.nu.toArray⟩,.string ⟨o.de.toArray⟩,.string ⟨o.sym.1.toArray⟩,.string ⟨o.sym.2.toArray⟩,.string ⟨o.txt.toArray⟩,c6]
section
variable {S:j8} {M:Mp} {w:World}
theorem T5 {v:Value} {s:f5} (h:Rd S M w v (.str s)):v=.string ⟨s.toArray⟩:=by
 cases h with
 | str t _ e=>subst e;rfl
theorem a9d {o:O} {cs:List Value} (h:p9 S M w cs (o.g.map dG)):∃ c6,cs=(C4 o c6).toList∧Rd S M w c6 (dG (.l (o.ps.map O.g))):=by
 rw [o.g_eq] at h
 cases h with
 | cons _ _ _ _ h0 h =>
 cases h with
 | cons _ _ _ _ h1 h =>
 cases h with
 | cons _ _ _ _ h2 h =>
 cases h with
 | cons _ _ _ _ h3 h =>
 cases h with
 | cons _ _ _ _ h4 h =>
 cases h with
 | cons _ _ _ _ h5 h =>
 cases h with
 | cons v _ _ _ h6 h =>
 cases h
 simp only [dG] at h0 h1 h2 h3 h4 h5
 have e1:=T5 h1
 have e2:=T5 h2
 have e3:=T5 h3
 have e4:=T5 h4
 have e5:=T5 h5
 cases h0
 subst e1 e2 e3 e4 e5
 exact ⟨v,rfl,h6⟩
theorem e0r {o:O} {c6:Value} (h:Rd S M w c6 (dG (.l (o.ps.map O.g)))):p9 S M w (C4 o c6).toList (o.g.map dG):=by
 rw [o.g_eq]
 simp only [List.map_cons,List.map_nil,dG]
 exact .k (.int _ _) (.k (.str _ _ rfl) (.k (.str _ _ rfl) (.k (.str _ _ rfl) (.k (.str _ _ rfl) (.k (.str _ _ rfl) (.k (by simpa only [dG] using h) .nil))))))
theorem d4s {a d:O} {v:Value} (h:Rd S M w v (dG (.l ([a,d].map O.g)))):∃ b o cap x6 y6,v=.slice (some ⟨b,o,none⟩) 2 cap∧2≤cap∧Rd S m5 w x6 (dG (.l (a.ps.map O.g)))∧Rd S m5 w y6 (dG (.l (d.ps.map O.g))) ∧
  (∀ i u,(C4 a x6)[i]?=some u→S b (o+i)∧w.cell? ⟨b,o+i,none⟩=some u)∧(∀ i u,(C4 d y6)[i]?=some u→S b (o+7+i)∧w.cell? ⟨b,o+7+i,none⟩=some u):=by
 have e:dG (.l ([a,d].map O.g))=.slice 2 (a.g.map dG ++ d.g.map dG) .no:=by simp only [dG,List.map_cons,List.map_nil,a5b,List.length_cons,List.length_nil];simp [Z6]
 rw [e] at h
 generalize hds:a.g.map dG ++ d.g.map dG=ds at h
 cases h with
 | slice base len cap vs _ _ sl r _ l z =>
 subst hds
 have la:(a.g.map dG).length=7:=by rw [List.length_map,O.g_len]
 have r1:=r.take 7
 have r2:=r.drop 7
 rw [List.take_left' la] at r1
 rw [List.drop_left' la] at r2
 obtain ⟨x6,ex,hx⟩:=a9d r1
 obtain ⟨y6,ey,hy⟩:=a9d r2
 have ev:vs=(C4 a x6).toList ++ (C4 d y6).toList:=by rw [← ex,← ey,List.take_append_drop]
 rcases sl with sl | ⟨b,o,rfl,sl⟩
 ·rw [ev] at sl;cases sl
 refine ⟨b,o,cap,x6,y6,rfl,l,hx,hy,fun i u hu=>?_,fun i u hu=>?_⟩
 ·refine sl i u ?_
  rw [ev,List.getElem?_append_left]
  ·rw [Array.getElem?_toList];exact hu
  ·have:=(Array.getElem?_eq_some_iff.1 hu).1;simpa using this
 ·have:=sl (7+i) u (by
   have e7:7+i - (C4 a x6).toList.length=i:=by show 7+i - 7=i;omega
   rw [ev,List.getElem?_append_right (by show 7≤7+i;omega),e7,Array.getElem?_toList];exact hu)
  rw [show o+(7+i)=o+7+i by omega] at this
  exact this
theorem d9w {w':World} {v:Value} {d:D} (hwi:S.within w) (h:Rd S M w v d) (k:Below w.heap.size w w'):Rd S M w' v d :=
 h.ext ⟨fun _ _ h=>h,fun b o h=>by unfold World.cell?;rw [k.block b (hwi b o h)],fun _ _ h=>h⟩
end
theorem a2e {g:FuncId} {sp:Sp} (hk:j3 g sp) (i:sp.ι) {r:GV} (hR:sp.R i=.ret r) (hB:sp.B i=[]) {vs:List V} (hv:j5 (sp.A i) vs) {w:World} {S:j8} {us:List Value} (hg:GG.pred w) (hwi:S.within w) (hr:p9 S m5 w us ((sp.A i).map dV)) :
  Calls Tryz.prog g us.toArray w fun e w'=>∃ v S',e=.returned v∧Below w.heap.size w w'∧S.grown S' w∧S'.within w'∧Rd S' m5 w' v (dV r):=by
 obtain ⟨v,bs',h1,h2,h3⟩:=hk i vs [] hv (by rw [hB];exact .nil)
 have h1:=h1 rfl
 rw [hR] at h2
 cases h2 with
 | ret _ v h2 =>
 rw [hv.map_toD] at h1
 have h1:CM Tryz.prog GG g ((sp.A i).map dV) [] (.ret (toD v)) (bs'.map E5):=h1
 rw [h2.toD] at h1
 refine (h1.2 w S m5 us hg (fun _ _ _ h=>by cases h) hwi ⟨fun id b h=>by simp at h,fun _ _=>rfl,fun _ _ _ _ _ _ _ h=>by simp at h⟩ hr).mono ?_
 rintro e w' ⟨hk,S',hgr,hw',he⟩
 obtain ⟨_,v',rfl,hv',_⟩:=he
 exact ⟨v',S',rfl,⟨hk.os,hk.tape,hk.output,hk.size,fun k hlt=>hk.block k hlt (fun i c h=>by cases h)⟩,hgr,hw',hv'⟩
theorem d8k {w:World} {b:Nat} {cs:Array Value} (hb:w.heap[b]?=some (.cells cs 26 (0,0))) (hs:cs.size=7) (c0 c1 c2 c3 c4 c5 c6:Value):(d8j w b c0 c1 c2 c3 c4 c5 c6).heap[b]?=some (.cells #[c0,c1,c2,c3,c4,c5,c6] 26 (0,0)):=by
 obtain ⟨cs⟩:=cs
 match cs,hs with
 | [d0,d1,d2,d3,d4,d5,d6],_=>exact V0 (V0 (V0 (V0 (V0 (V0 (V0 hb))))))
end
end Go.Proofs.YtdldcfllnohkeaaGreatDoor
