/- The word of a name, and what is read from it: no program in sight. -/
import Derived.Test.YtdldcfllnohkeaaGreatDoorCJ0
import Derived.Lib.Replace
import Derived.Lib.SplitLaws
import Derived.Test.YtdldcfllnohkeaaGreatDoorCJ3
set_option linter.all false
namespace Go.Proofs.YtdldcfllnohkeaaGreatDoor
open Go.Abs LQ
theorem b5m {s:i6}:∀ (m i:Nat),s.length - i≤m→∀ j,i≤j→j < n5 s i→A5 (bt s j)=true:=by
 intro m
 induction m with
 | zero =>
  intro i hm j h1 h2
  rw [n5,if_neg oM] at h2
  omega
 | succ m ih =>
  intro i hm j h1 h2
  rw [n5] at h2
  split at h2
  ·split at h2
   ·by_cases hj:j=i
    ·subst hj;assumption
    ·exact ih (i+1) oM j oM h2
   ·omega
  ·omega
theorem b89 {w:i6}:U7 w=true↔(w ≠ []∧a1f w):=by
 unfold U7 a1f
 rw [Bool.and_eq_true,decide_eq_true_iff,List.all_eq_true]
 refine and_congr_right fun _=>⟨fun h j hj=>?_,fun h b hb=>?_⟩
 ·have:=h w[j] (List.getElem_mem hj)
  unfold bt
  rw [List.getD_eq_getElem?_getD,List.getElem?_eq_getElem hj]
  exact this
 ·obtain ⟨j,hj,rfl⟩:=List.getElem_of_mem hb
  have:=h j hj
  unfold bt at this
  rw [List.getD_eq_getElem?_getD,List.getElem?_eq_getElem hj] at this
  exact this
theorem c8w {s:i6} {t e:x5} (hs:s.length≤6000) (h:C7 s=.ok [t,e]):∃ j k,j < s.length∧LQ.skip s 0=some j∧B7 s j=.ok (t,k):=by
 unfold C7 at h
 rw [if_neg oM,a08 (Nat.zero_le _)] at h
 split at h
 ·cases h
 ·rename_i j hj
  split at h
  ·rename_i hlt
   split at h
   ·cases h
   ·rename_i t' k ht
    have hk:=a49 hlt ht
    obtain ⟨T',e1,_⟩:=a3d (s.length - k) (Nat.le_refl _) hk.2 h
    simp only [List.nil_append,List.cons_append,List.cons.injEq] at e1
    rw [← e1.1] at ht
    exact ⟨j,k,hlt,hj,ht⟩
  ·injection h with h
   simp at h
theorem c20 {s p:i6} {i k k':Nat} {t:x5} (hk:k+2≤s.length) (h:L0 s i p k=.ok (t,k')):t.text.length+k+2≤s.length∧(t.text.length+k+2=s.length→n5 s (k+2)=s.length∧k+2 < s.length):=by
 unfold L0 at h
 split at h
 ·split at h
  ·split at h
   ·cases h
   ·rename_i l j he
    have h1:=a69 he
    have h2:=a9r he
    have h3:=a13 l
    split at h
    ·injection h with h;injection h with h _
     rw [← h]
     simp at h1
     exact ⟨by show (G3 l).length+k+2≤_;omega,fun e=>by exfalso;have e:(G3 l).length+k+2=s.length:=e;omega⟩
    ·cases h
  ·split at h
   ·simp only [] at h
    split at h
    ·injection h with h;injection h with h _
     rw [← h]
     have hw:=I9 s (k+2) hk
     have hl:((s.take (n5 s (k+2))).drop (k+2)).length=n5 s (k+2) - (k+2):=by simp;omega
     exact ⟨by show ((s.take (n5 s (k+2))).drop (k+2)).length+k+2≤_;omega,fun e=>⟨by have e:((s.take (n5 s (k+2))).drop (k+2)).length+k+2=s.length:=e;omega,aS⟩⟩
    ·cases h
   ·cases h
 ·cases h
theorem d9g {i k k':Nat} {w:i6} {t:x5} (h:F6 i w k=.ok (t,k')) (h6:t.kind=6):t.text=w∧w ≠ [46]∧(x9 w).2.2=false:=by
 unfold F6 at h
 split at h
 ·injection h with h;injection h with h _;rw [← h] at h6;exact absurd h6 (by show ¬(3:Int)=6;decide)
 ·split at h
  ·split at h
   ·cases h
   ·simp only [] at h
    split at h
    ·cases h
    ·injection h with h;injection h with h _;rw [← h] at h6;exact absurd h6 (by show ¬(5:Int)=6;decide)
  ·split at h
   ·injection h with h;injection h with h _
    rw [← h]
    exact ⟨rfl,aS,by simpa using ‹¬(x9 w).2.2=true›⟩
   ·cases h
theorem e0w {s:i6} {j k:Nat} {t:x5} (hj:j < s.length) (h:B7 s j=.ok (t,k)) (h6:t.kind=6) (ht:t.text=s):U7 s=true∧s ≠ [46]∧(x9 s).2.2=false:=by
 have hl:t.text.length=s.length:=by rw [ht]
 unfold B7 at h
 split at h
 ·injection h with h;injection h with h _;rw [← h] at h6;exact absurd h6 (by show ¬(1:Int)=6;decide)
 split at h
 ·injection h with h;injection h with h _;rw [← h] at h6;exact absurd h6 (by show ¬(2:Int)=6;decide)
 split at h
 ·injection h with h;injection h with h _;rw [← h] at h6;exact absurd h6 (by show ¬(4:Int)=6;decide)
 split at h
 ·split at h
  ·cases h
  ·split at h
   ·cases h
   ·injection h with h;injection h with h _;rw [← h] at h6;exact absurd h6 (by show ¬(7:Int)=6;decide)
 split at h
 ·split at h
  ·cases h
  ·rename_i l j' he
   have h1:=a69 he
   have h2:=a9r he
   have h3:=a13 l
   split at h
   ·injection h with h;injection h with h _
    rw [← h] at hl
    have hl:(G3 l).length=s.length:=hl
    simp at h1
    omega
   ·cases h
 split at h
 ·have hw:=I9 s j oM
  split at h
  ·rename_i hh
   have h2:=a0p hh
   have:=(c20 oM h).1
   omega
  ·obtain ⟨e1,e2,e3⟩:=d9g h h6
   rw [e1] at hl
   have hl2:((s.take (n5 s j)).drop j).length=n5 s j - j:=by simp;omega
   have hj0:j=0:=oM
   subst hj0
   have hwl:n5 s 0=s.length:=oM
   rw [hwl,List.drop_zero,List.take_length] at e2 e3
   refine ⟨b89.2 ⟨fun e=>by rw [e] at hj;simp at hj,fun i hi=>b5m _ 0 (Nat.le_refl _) i (Nat.zero_le _) oM⟩,e2,e3⟩
 ·cases h
theorem e0x {w:i6} {j k:Nat} {t:x5} (hj:LQ.skip (97 :: 58 :: 58 :: w) 0=some j) (h:B7 (97 :: 58 :: 58 :: w) j=.ok (t,k)) (h0:w ≠ []) (ht:t.text=w):U7 w=true:=by
 have hl:0 < w.length:=List.length_pos_iff.2 h0
 have e0:j=0:=by
  have:=b3j (s:=97 :: 58 :: 58 :: w) (k:=0) (by simp) (by rw [bt0];decide) (by rw [bt0];decide) (d3q (by rw [bt0];decide))
  rw [this] at hj
  injection hj with hj
  exact hj.symm
 subst e0
 have ew:n5 (97 :: 58 :: 58 :: w) 0=1:=by
  rw [n5,if_pos (by simp),if_pos (by rw [bt0];decide),n5,if_pos (by simp),if_neg (by rw [bt1];decide)]
 unfold B7 at h
 rw [bt0,if_neg dE,if_neg dE,if_neg dE,if_neg dE,if_neg dE,if_pos dE] at h
 simp only [ew] at h
 have hh:has (97 :: 58 :: 58 :: w) 1 58 58=true:=by unfold has;exact decide_eq_true ⟨by simp,by rfl,by rfl⟩
 rw [if_pos hh] at h
 have h1:=c20 (k:=1) (by simp) h
 have h2:=(h1.2 (by rw [ht];simp)).1
 refine b89.2 ⟨h0,fun i hi=>?_⟩
 have:=b5m _ 3 (Nat.le_refl _) (i+3) oM (by rw [h2];simp;omega)
 have e:bt (97 :: 58 :: 58 :: w) (i+3)=bt w i:=rfl
 rw [e] at this
 exact this
def a32 (q:Bool):i6:=if q then [97,58,58] else []
theorem e38 (q:Bool) {w:i6} (h1:1≤w.length) (h2:w.length≤40):(∃ t e,C7 (a32 q ++ w)=.ok [t,e]∧t.kind=6∧t.text=w)↔¬(U7 w=false∨(q=false∧(w=[46]∨(x9 w).2.2=true))):=by
 have h0:w ≠ []:=fun e=>by rw [e] at h1;simp at h1
 cases q with
 | false =>
  show (∃ t e,C7 w=_∧_)↔_
  constructor
  ·rintro ⟨t,e,ht,h6,hx⟩
   obtain ⟨j,k,hj,hs,ho⟩:=c8w oM ht
   obtain ⟨a,b,c⟩:=e0w hj ho h6 hx
   rintro (h | ⟨_,h | h⟩)
   ·rw [a] at h;cases h
   ·exact b h
   ·rw [c] at h;cases h
  ·intro h
   have hw:L2 w false=w:=by unfold L2;rw [if_neg h]
   have hx:=c6n (w:=w) oM h2
   rw [hw] at hx
   obtain ⟨T,e1,e2⟩:=a5a hx oM
   have hT:T.length=1:=by have:=congrArg List.length e1;simpa using this
   obtain ⟨t,rfl⟩:=List.length_eq_one_iff.1 hT
   simp only [List.map_cons,List.map_nil,List.cons.injEq,and_true] at e1
   exact ⟨t,_,e2,congrArg NT.kind e1,congrArg NT.text e1⟩
 | true =>
  show (∃ t e,C7 (97 :: 58 :: 58 :: w)=_∧_)↔_
  constructor
  ·rintro ⟨t,e,ht,h6,hx⟩
   obtain ⟨j,k,hj,hs,ho⟩:=c8w (by simp;omega) ht
   have a:=e0x hs ho h0 hx
   rintro (h | ⟨h,_⟩)
   ·rw [a] at h;cases h
   ·cases h
  ·intro h
   have hw:L2 w true=w:=by unfold L2;rw [if_neg h]
   have hx:=c6o (p:=[97]) (w:=w) kR oM h2
   rw [hw] at hx
   obtain ⟨T,e1,e2⟩:=a5a hx (by simp;omega)
   have hT:T.length=1:=by have:=congrArg List.length e1;simpa using this
   obtain ⟨t,rfl⟩:=List.length_eq_one_iff.1 hT
   simp only [List.map_cons,List.map_nil,List.cons.injEq,and_true] at e1
   exact ⟨t,_,e2,congrArg NT.kind e1,congrArg NT.text e1⟩
end Go.Proofs.YtdldcfllnohkeaaGreatDoor
namespace Go.Proofs.YtdldcfllnohkeaaGreatDoor
open Go.Abs LQ
set_option maxRecDepth 100000
set_option maxHeartbeats 8000000
noncomputable section
def d48:Sp where
 ι:={ p:i6 × UInt8 // p.1.length < 90000∧(p.2=34∨p.2=124) }
 A p:=[.c (.s p.1.1),.c (.i .i32 (p.1.2.toNat:Int))]
 B _:=[]
 R p:=.ret (.c (.s (H4 p.1.2 p.1.1)))
 B' _:=[]
 inj i j vs bs h k _ _:=by
  obtain ⟨_,_,h1,k1,h,k⟩:=h.two k
  obtain ⟨_,_,h2,k2,h,k⟩:=h.two k
  have e2:=a2v h2 k2
  rw [H3 h1 k1,UInt8.toNat_inj.1 (show i.1.2.toNat=j.1.2.toNat by omega)];exact ⟨rfl,rfl⟩
theorem e1e {a b:Bool} (h:a32 a=a32 b):a=b:=by cases a <;> cases b <;> first | rfl | cases h
theorem e1f:3816033=n7 (a32 true):=dE
def f9w:Sp where
 ι:={ p:Bool × i6 // 1≤p.2.length∧p.2.length≤40 }
 A p:=[.c (.s (a32 p.1.1)),.c (.s p.1.2)]
 B _:=[]
 R p:=.ret (.c (.s (L2 p.1.2 p.1.1)))
 B' _:=[]
 inj i j vs bs h k _ _:=by
  obtain ⟨_,_,h1,k1,h,k⟩:=h.two k
  obtain ⟨_,_,h2,k2,h,k⟩:=h.two k
  rw [e1e (H3 h1 k1),H3 h2 k2];exact ⟨rfl,rfl⟩
theorem f1c (hq:k9 52 d48):k9 86 f9w:=n9 (fun fn h=>f5r h) [(52,_),(17,_)] (.cons hq (.cons c6e .nil)) fun U fn hfn ⟨(q,w),h1,h2⟩ vs bs hv hb=>by
 have hqu:=hfn 52 _ rfl
 have htk:=hfn 17 _ rfl
 have h1:1≤w.length:=h1
 have h2:w.length≤40:=h2
 have hv:l7 [.c (.s (a32 q)),.c (.s w)] vs:=hv
 have hb:RBs [] bs:=hb
 show j5 U _ fun v bs'=>l8 (.ret (.c (.s (L2 w q)))) v∧RBs [] bs'
 unfold r86
 have hw:=e38 q h1 h2
 have hpl:(a32 q).length≤3:=by cases q <;> decide
 (refine Zy ?_;intros)
 refine b3e (x:=a32 q) (y:=w) rfl rfl rfl ?_
 have hsl:(a32 q ++ w).length < 8000:=by simp;omega
 have fin:∀ (z:Bool),(z=true↔∃ t e,C7 (a32 q ++ w)=.ok [t,e]∧t.kind=6∧t.text=w)→L2 w q=if z=true then w else H4 124 w:=fun z hz=>by
  unfold L2
  by_cases hz1:z=true
  ·rw [if_neg (hw.1 (hz.1 hz1)),if_pos hz1]
  ·rw [if_pos (Decidable.byContradiction fun h=>hz1 (hz.2 (hw.2 h))),if_neg hz1]
 have key:∃ (T:List x5) (e p:Int),b9n (C7 (a32 q ++ w))=.ret (.t [.sl 5 (T.map A7),.a [.i .i64 e,.i .i64 p]])∧(∀ z:Bool,(z=true↔(e=0∧∃ t x,T=[t,x]∧t.kind=6∧t.text=w))→L2 w q=if z=true then w else H4 124 w)∧(e=0→T.length < 90000):=by
  cases hx:C7 (a32 q ++ w) with
  | ok T =>
   refine ⟨T,0,0,rfl,fun z hz=>fin z (hz.trans ?_),fun _=>?_⟩
   ·rw [hx]
    constructor
    ·rintro ⟨_,t,x,rfl,h⟩;exact ⟨t,x,rfl,h⟩
    ·rintro ⟨t,x,h,h6⟩;injection h with h;exact ⟨rfl,t,x,h,h6⟩
   ·unfold C7 at hx
    rw [if_neg (by simp;omega)] at hx
    obtain ⟨T',e,_,_,hl⟩:=a3d _ (Nat.le_refl _) (Nat.zero_le _) hx
    subst e
    simp at hl ⊢
    omega
  | error ep =>
   refine ⟨[],ep.1,ep.2,rfl,fun z hz=>fin z (hz.trans ?_),fun _=>by decide⟩
   rw [hx]
   constructor
   ·rintro ⟨_,t,x,h,_⟩;cases h
   ·rintro ⟨t,x,h,_⟩;cases h
 obtain ⟨T,e,p,hT,hfin,hTl⟩:=key
 refine j4 htk ⟨a32 q ++ w,hsl⟩ (r:=.t [.sl 5 (T.map A7),.a [.i .i64 e,.i .i64 p]]) hT (.k (.s _ _ _ (by simp) rfl) .nil) .nil fun _ _ hv2 _=>?_
 (refine Zy ?_;intros)
 refine S4 (fun vs bs=>∃ (z:Bool) (v:V),vs=[.str w.length (n7 w),v]∧bs=[]∧RV (.c (.b z)) v∧(z=true↔(e=0∧∃ t x,T=[t,x]∧t.kind=6∧t.text=w))) ?_ ?_
 ·rintro _ _ ⟨z,v,rfl,rfl,hvz,hz⟩
  rw [hfin z hz]
  (refine Zy ?_;with_reducible repeat' first|intro _|apply aI)
  ·rw [if_pos ‹z=true›]
   exact j9 ⟨.ret _ _ (.s _ _ _ rfl rfl),.nil⟩
  ·rw [if_neg ‹¬z=true›]
   refine j4 hqu ⟨(w,124),by show w.length < 90000;omega,.inr rfl⟩ (r:=.c (.s (H4 124 w))) rfl (.k (.s _ _ _ rfl rfl) (.k (.i _ _) .nil)) .nil fun _ _ _ _=>?_
   (refine Zy ?_;intros)
   exact j9 ⟨.ret _ _ (.s _ _ _ rfl rfl),.nil⟩
 ·intro c hc
  (refine Zy ?_;with_reducible repeat' first|intro _|apply aI)
  ·have hl2:T.length=2:=oM
   obtain ⟨t,x,rfl⟩:∃ t x,T=[t,x]:=by
    match T,hl2 with
    | [t,x],_=>exact ⟨t,x,rfl⟩
   have h6:t.kind=6:=‹_›
   exact fun e9=>hc _ _ ⟨decide (t.text=w),_,rfl,rfl,U6 (by subst e9;exact (cuS _ _).symm),by
    rw [decide_eq_true_iff]
    exact ⟨fun h=>⟨aS,t,x,rfl,h6,h⟩,fun ⟨_,t',x',h,_,h2⟩=>by injection h with h _;rw [h];exact h2⟩⟩ e9
  ·have h6:¬(T[0]'oM).kind=6:=‹_›
   exact hc _ _ ⟨false,_,rfl,rfl,.kn _,⟨(fun h=>by cases h),fun ⟨_,t',x',h,h2,_⟩=>by subst h;exact absurd h2 h6⟩⟩
  ·have h6:¬((T.length:Nat):Int)=2:=‹_›
   exact hc _ _ ⟨false,_,rfl,rfl,.kn _,⟨(fun h=>by cases h),fun ⟨_,t',x',h,h2,_⟩=>by subst h;exact absurd rfl h6⟩⟩
  ·exact hc _ _ ⟨false,_,rfl,rfl,.kn _,⟨(fun h=>by cases h),fun ⟨h,_⟩=>absurd h ‹¬e=0›⟩⟩
def b78 (r:i6 × Int):GV:=.t [.c (.s r.1),.c (.i .i64 r.2)]
def e5n:Sp where
 ι:={ p:List Pk × i6 × Sy // H7 p.1∧p.2.2.1.length < 90000∧p.2.2.2.length < 90000 }
 A p:=[.sl 2 (p.1.1.map pg),.c (.s p.1.2.1),.a (sg p.1.2.2)]
 B _:=[]
 R p:=.ret (b78 (O7 p.1.1 p.1.2.1 p.1.2.2))
 B' _:=[]
 inj i j vs bs h k _ _:=by
  obtain ⟨_,_,h1,k1,h,k⟩:=h.two k
  obtain ⟨_,_,h2,k2,h,k⟩:=h.two k
  obtain ⟨_,_,h3,k3,h,k⟩:=h.two k
  rw [W7 (h1.sl_inj k1),H3 h2 k2,a97 (h3.a_inj k3)];exact ⟨rfl,rfl⟩
theorem c19 {L:List Pk} {c:i6} (h:D2 L c=none):J2 L c=.t [.a [.s [],.l []],.c (.b false)]:=by unfold J2;rw [h]
theorem c2a {L:List Pk} {c:i6} {p:Pk} (h:D2 L c=some p):J2 L c=.t [.a (pg p),.c (.b true)]:=by unfold J2;rw [h]
theorem f01 (hq:k9 52 d48):k9 53 e5n:=n9 (fun fn h=>f4k h) [(84,_),(50,_),(82,_),(85,_),(86,_)] (.cons (d1l kIS) (.cons c58 (.cons d6x (.cons e4r (.cons (f1c hq) .nil))))) fun U fn hfn ⟨(L,cur,s),hL,hs1,hs2⟩ vs bs hv hb=>by
 have hva:=hfn 84 _ rfl
 have hfi:=hfn 50 _ rfl
 have hho:=hfn 82 _ rfl
 have hvi:=hfn 85 _ rfl
 have hwo:=hfn 86 _ rfl
 have hL:H7 L:=hL
 have hs1:s.1.length < 90000:=hs1
 have hs2:s.2.length < 90000:=hs2
 have hv:l7 [.sl 2 (L.map pg),.c (.s cur),.a [.s s.1,.s s.2]] vs:=hv
 have hb:RBs [] bs:=hb
 show j5 U _ fun v bs'=>l8 (.ret (b78 (O7 L cur s))) v∧RBs [] bs'
 unfold r53
 (refine Zy ?_;intros)
 refine j4 hva ⟨s,hs1,hs2⟩ (r:=.c (.b (named s))) rfl (.k (.a _ _ _ rfl aS) .nil) .nil fun _ _ _ _=>?_
 (refine Zy ?_;with_reducible repeat' first|intro _|apply aI)
 ·have hn:named s=true:=‹_›
  obtain ⟨nv,nl,n0⟩:=a12 hn
  have nnf:¬named s=false:=by rw [hn];simp
  have bad:(D2 L cur=none∨O5 L s=false)→j5 U (some (.ret (.tuple [.str 0 0,.int .i64 13]),[])) fun v bs'=>l8 (.ret (b78 (O7 L cur s))) v∧RBs [] bs':=fun h=>by
   unfold O7
   rw [if_neg nnf,if_pos h]
   exact j9 ⟨.ret _ _ l5,.nil⟩
  cases hf:D2 L cur with
  | none =>
   refine j4 hfi ⟨(L,cur),hL⟩ (r:=.t [.a [.s [],.l []],.c (.b false)]) (by show r7.ret (J2 L cur)=_;rw [c19 hf]) (.k (.sl _ _ _ _ _ (by simp) aS) l5) .nil fun _ _ _ _=>?_
   (refine Zq ?_;intros)
   exact bad (.inl hf)
  | some p =>
   refine j4 hfi ⟨(L,cur),hL⟩ (r:=.t [.a (pg p),.c (.b true)]) (by show r7.ret (J2 L cur)=_;rw [c2a hf]) (.k (.sl _ _ _ _ _ (by simp) aS) l5) .nil fun _ _ hv9 _=>?_
   have hv9:RV (.t [.a [.s p.1,.l (p.2.map sg)],.c (.b true)]) _:=hv9
   (refine Zq ?_;intros)
   have n1:¬(D2 L cur=none∨O5 L s=false)↔O5 L s=true:=by rw [hf];simp
   refine j4 hho ⟨(L,s),hL⟩ (r:=.c (.b (O5 L s))) rfl (.k (.sl _ _ _ _ _ (by simp) aS) (.k (.a _ _ _ rfl aS) .nil)) .nil fun _ _ _ _=>?_
   (refine Zq ?_;with_reducible repeat' first|intro _|apply aI)
   ·have hh:O5 L s=true:=‹_›
    unfold O7
    rw [if_neg nnf,if_neg (n1.2 hh)]
    refine j4 hvi ⟨(L,cur,s),hL⟩ (r:=.c (.b (a0y L cur s))) rfl (.k (.sl _ _ _ _ _ (by simp) aS) (.k (.s _ _ _ rfl rfl) (.k (.a _ _ _ rfl aS) .nil))) .nil fun _ _ _ _=>?_
    (refine Zq ?_;with_reducible repeat' first|intro _|apply aI)
    ·rw [if_pos ‹a0y L cur s=true›]
     refine j4 hwo ⟨(false,s.2),n0,nl⟩ (r:=.c (.s (L2 s.2 false))) rfl (.k (.s _ _ _ rfl rfl) (.k (.q _ _ aS) .nil)) .nil fun _ _ _ _=>?_
     (refine Zq ?_;intros)
     exact j9 ⟨.ret _ _ l5,.nil⟩
    ·rw [if_neg ‹¬a0y L cur s=true›]
     refine b3e (x:=s.1) (y:=[58,58]) rfl rfl rfl ?_
     have hw:=b63 s.2 true
     (refine Zq ?_;intros)
     refine j4 hwo ⟨(true,s.2),n0,nl⟩ (r:=.c (.s (L2 s.2 true))) rfl (.k (.s _ _ _ rfl e1f) (.k (.q _ _ aS) .nil)) .nil fun _ _ _ _=>?_
     (refine Zq ?_;intros)
     refine b3e (x:=s.1 ++ [58,58]) (y:=L2 s.2 true) (by simp) rfl rfl ?_
     rw [show s.1 ++ [58,58] ++ L2 s.2 true=s.1 ++ 58 :: 58 :: L2 s.2 true by simp]
     exact j9 ⟨.ret _ _ (.t _ _ (.k (.s _ _ _ (by simp;omega) rfl) (.k (.i _ _) .nil))),.nil⟩
   ·exact bad (.inr (by simpa using ‹¬O5 L s=true›))
 ·have hn:named s=false:=by simpa using ‹¬named s=true›
  unfold O7
  rw [if_pos hn]
  exact j9 ⟨.ret _ _ l5,.nil⟩
end
end Go.Proofs.YtdldcfllnohkeaaGreatDoor
namespace Go.Proofs.YtdldcfllnohkeaaGreatDoor
open Go.RowKit Go.Shelf Go.Abs LQ
set_option maxRecDepth 100000
def L8 (a:UInt8) (s:i6):i6:=s.flatMap fun b=>if b=a then [92,a] else [b]
theorem c06 (a:UInt8):∀ s:i6,Lib.replaceK [a] [92,a] (s.count a) s=L8 a s
 | []=>rfl
 | b :: l=>by
  by_cases h:b=a
  ·subst h
   have hi:Lib.index (b :: l) [b]=(0:Nat):=by rw [Lib.index_one];unfold Lib.indexByte;simp
   rw [List.count_cons_self,Lib.replaceK_hit _ _ _ _ 0 hi]
   have:=c06 b l
   simp only [List.take_zero,List.nil_append,List.length_cons,List.length_nil,Nat.zero_add,List.drop_succ_cons,List.drop_zero]
   rw [this]
   simp [L8]
  ·have ih:=c06 a l
   have hc:(b :: l).count a=l.count a:=List.count_cons_of_ne (fun e=>h e)
   rw [hc]
   have he:L8 a (b :: l)=b :: L8 a l:=by simp [L8,h]
   rw [he,← ih]
   cases hk:l.count a with
   | zero=>rfl
   | succ k =>
    obtain ⟨i,hi⟩:=Lib.index_of_count (s:=l) (old:=[a]) (by rw [Lib.count_one,hk];omega)
    have hi2:Lib.index (b :: l) [a]=((i+1:Nat):Int):=by
     rw [Lib.index_one] at hi ⊢
     unfold Lib.indexByte
     rw [if_neg (by simpa using h),hi,if_neg (by simp)]
     simp
    rw [Lib.replaceK_hit _ _ _ _ i hi,Lib.replaceK_hit _ _ _ _ (i+1) hi2]
    simp
theorem d4w (a:UInt8) (s:i6):Lib.replaceAll s [a] [92,a]=L8 a s:=by
 unfold Lib.replaceAll Lib.replace Lib.replaceNum
 rw [if_neg (by simp),if_pos (.inl dE),Lib.count_one,c06]
theorem b54 (a:UInt8) (s:i6):(L8 a s).length≤2 * s.length:=by
 unfold L8
 induction s with
 | nil=>simp
 | cons b l ih =>
  rw [List.flatMap_cons,List.length_append,List.length_cons]
  split
  ·simp only [List.length_cons,List.length_nil];omega
  ·simp only [List.length_cons,List.length_nil];omega
theorem d9z (c:UInt8) (l:i6):(K7 c l).length≤2 * l.length:=by
 unfold K7
 induction l with
 | nil=>simp
 | cons b l ih =>
  rw [List.flatMap_cons,List.length_append,List.length_cons]
  split
  ·simp only [List.length_cons,List.length_nil];omega
  ·simp only [List.length_cons,List.length_nil];omega
theorem d02 {c:UInt8} (hc:c ≠ 92) (s:i6):L8 c (L8 92 s)=K7 c s:=by
 unfold L8 K7
 rw [List.flatMap_assoc]
 refine congrArg (fun f=>List.flatMap f s) (funext fun b=>?_)
 by_cases h1:b=92
 ·subst h1
  rw [if_pos rfl,if_pos (.inr rfl)]
  simp [Ne.symm hc]
 ·rw [if_neg h1]
  by_cases h2:b=c
  ·subst h2;simp
  ·simp [h1,h2]
theorem BXq:Builder.Extra Tryz.prog Tryz.lays155_ren where
 sizeBuilder:=kR
 liesBuilder:=kR
 t5:=Tryz.lays155.t5
 a5:=Tryz.lays155.a5
 z5:=Tryz.lays155.z5
 v5:=Tryz.lays155.v5
 infoByte:=kR
 cellsByte:=kR
 sizeByte:=kR
 neB5:=dE
theorem a7o (m:Int) (s:i6) (a:UInt8) (w:World) (hm:w.cell? ⟨Tryz.lays155_ren.g 1,0,none⟩=some (.int .i64 m)) (hs:s.length < 1000000) :
  Calls Tryz.prog 83 #[.string ⟨s.toArray⟩,.string ⟨#[a]⟩,.string ⟨#[92,a]⟩] w fun e w'=>e=.returned (.string ⟨(L8 a s).toArray⟩)∧Below w.heap.size w w':=by
 have hcnt:=Lib.count_one a s
 have hle:=List.count_le_length (a:=a) (l:=s)
 refine (Any.strings_ReplaceAll Tryz.lays155 BXq ⟨s.toArray⟩ ⟨#[a]⟩ ⟨#[92,a]⟩ m w (by show s.length < _;omega) hm (Nat.le_refl 1) ?_).mono ?_
 ·show s.length+Lib.countB ⟨s.toArray⟩ ⟨#[a]⟩ * 2≤_
  have:Lib.countB ⟨s.toArray⟩ ⟨#[a]⟩=Lib.count s [a]:=rfl
  rw [this,hcnt]
  omega
 ·rintro e w' ⟨rfl,hb⟩
  refine ⟨?_,hb⟩
  rw [show Lib.replaceAll (⟨s.toArray⟩:ByteArray).data.toList (⟨#[a]⟩:ByteArray).data.toList (⟨#[92,a]⟩:ByteArray).data.toList=L8 a s from d4w a s]
structure Hid (p:Prop):Prop where
 go:p
def qM:Value→Nat
 | .int _ j=>3 - j.toNat
 | _=>0
def V7 (c:Nat) (s:i6):Nat→i6
 | 0=>s
 | 1=>L8 92 s
 | 2=>if c=34 then L8 34 (L8 92 s) else L8 92 s
 | _=>L8 c.toUInt8 (L8 92 s)
set_option maxHeartbeats 4000000 in
theorem c92 (m:Int) (s:i6) (c:Nat) (hc:c=34∨c=124) (w:World) (hm:w.cell? ⟨Tryz.lays155_ren.g 1,0,none⟩=some (.int .i64 m)) (hs:s.length < 90000) :
  Calls Tryz.prog 52 #[.string ⟨s.toArray⟩,.int .i32 (c:Int)] w fun e w'=>e=.returned (.string ⟨(H4 c.toUInt8 s).toArray⟩)∧Below w.heap.size w w':=by
 have key:Hid ((((34:Int) == (c:Int))=true∧((124:Int) == (c:Int))=false∧Hid (V7 c s 2=L8 34 (L8 92 s)∧V7 c s 3=V7 c s 2∧(V7 c s 2).length < 1000000)) ∨
   (((34:Int) == (c:Int))=false∧((124:Int) == (c:Int))=true∧Hid (V7 c s 2=L8 92 s∧V7 c s 3=L8 124 (V7 c s 2)∧(V7 c s 2).length < 1000000))):=by
  have e1:=b54 92 s
  have e2:=b54 34 (L8 92 s)
  rcases hc with rfl | rfl
  ·exact ⟨.inl ⟨rfl,rfl,⟨rfl,rfl,by show (L8 34 (L8 92 s)).length < _;omega⟩⟩⟩
  ·exact ⟨.inr ⟨rfl,rfl,⟨rfl,rfl,by show (L8 92 s).length < _;omega⟩⟩⟩
 have henc:Hid (Utf8.encode (c:Int)=⟨#[c.toUInt8]⟩):=by rcases hc with rfl | rfl <;> exact ⟨dE⟩
 have hfin:Hid (V7 c s 3=K7 c.toUInt8 s):=by
  rcases hc with rfl | rfl
  ·exact ⟨d02 dE s⟩
  ·exact ⟨d02 dE s⟩
 clear hc
 go_enter Tryz.func52,Tryz.ntmps52
 go_wp2
 go_loopw [0,9] (fun v0 v9 wr=>∃ i:Nat,i≤3∧v9=.int .i64 i∧v0=.string ⟨(V7 c s i).toArray⟩∧Below w.heap.size w wr∧wr.heap[w.heap.size]?=some (.cells #[.int .i32 92,.int .i32 34,.int .i32 124] 21 (0,0))) (fun v0 v9 wr=>qM v9)
 case atStart=>exact ⟨0,dE,rfl,rfl,(Below.refl _ w).alloc (Nat.le_refl _) _,by show (w.heap.push _)[w.heap.size]?=_;simp⟩
 case round =>
  obtain ⟨i,hi,rfl,rfl,hbl,hcell⟩:=hrel
  rename_i wr _
  have c0:wr.cell? ⟨w.heap.size,0,none⟩=some (.int .i32 92):=by simp [World.cell?,hcell]
  have c1:wr.cell? ⟨w.heap.size,1,none⟩=some (.int .i32 34):=by simp [World.cell?,hcell]
  have c2:wr.cell? ⟨w.heap.size,2,none⟩=some (.int .i32 124):=by simp [World.cell?,hcell]
  have hgb:Tryz.lays155_ren.g 1 < w.heap.size:=by
   rcases Nat.lt_or_ge (Tryz.lays155_ren.g 1) w.heap.size with h | h
   ·exact h
   ·simp [World.cell?,Array.getElem?_eq_none h] at hm
  have hm2:=a7g hbl hgb hm
  have hsz:w.heap.size < wr.heap.size:=(Array.getElem?_eq_some_iff.1 hcell).1
  have e1:=b54 92 s
  obtain rfl | rfl | rfl | rfl:i=0∨i=1∨i=2∨i=3:=oM
  ·go_wp2_with (first
    | (go_at_call 83;refine (a7o m s 92 _ hm2 oM).mono ?_;rintro e w2 ⟨rfl,hb2⟩))
   exact ⟨⟨1,dE,rfl,rfl,hbl.trans (F5 hb2 oM),(hb2.block _ hsz).trans hcell⟩,dE⟩
  ·rcases key.go with ⟨g1,g2,r⟩ | ⟨g1,g2,r⟩
   ·go_wp2_with (first
     | (go_at_call 83;refine (a7o m (L8 92 s) 34 _ hm2 oM).mono ?_;rintro e w2 ⟨rfl,hb2⟩))
    exact ⟨⟨2,dE,rfl,by rw [r.go.1],hbl.trans (F5 hb2 oM),(hb2.block _ hsz).trans hcell⟩,dE⟩
   ·go_wp2_with (first
     | (go_at_call 83;refine (a7o m (L8 92 s) 34 _ hm2 oM).mono ?_;rintro e w2 ⟨rfl,hb2⟩))
    exact ⟨⟨2,dE,rfl,by rw [r.go.1];rfl,hbl,hcell⟩,dE⟩
  ·rcases key.go with ⟨g1,g2,r⟩ | ⟨g1,g2,r⟩
   ·go_wp2_with (first
     | (go_at_call 83;refine (a7o m (V7 c s 2) 124 _ hm2 r.go.2.2).mono ?_;rintro e w2 ⟨rfl,hb2⟩))
    exact ⟨⟨3,dE,rfl,by rw [r.go.2.1],hbl,hcell⟩,dE⟩
   ·go_wp2_with (first
     | (go_at_call 83;refine (a7o m (V7 c s 2) 124 _ hm2 r.go.2.2).mono ?_;rintro e w2 ⟨rfl,hb2⟩))
    exact ⟨⟨3,dE,rfl,by rw [r.go.2.1],hbl.trans (F5 hb2 oM),(hb2.block _ hsz).trans hcell⟩,dE⟩
  ·clear key
   refine wp_seq ?_
   refine wp_region ?_
   simp [wpOps,go_sem]
   refine .inl ?_
   refine wp_seq ?_
   refine wp_cond_false (by simp [Act.eval]) ?_
   refine wp_exit ?_
   simp only [Exit.then,Exit.inBlock,if_true]
   refine ‹∀ (a:Act) (w:World),Code.wp _ _ _ a w→_› _ _ ?_
   clear hm2 c0 c1 c2 hgb hsz e1 hi
   have hSl:(⟨(V7 c s 3).toArray⟩:ByteArray).size≤1000000:=by
    show (V7 c s 3).length≤_
    rw [hfin.go]
    have:=d9z c.toUInt8 s
    omega
   have hEl:(Utf8.encode (c:Int)).size=1:=by rw [henc.go];rfl
   have hfin2:Hid (Utf8.encode (c:Int) ++ ⟨(V7 c s 3).toArray⟩ ++ Utf8.encode (c:Int)=⟨(H4 c.toUInt8 s).toArray⟩):=by
    refine ⟨?_⟩
    rw [henc.go,hfin.go]
    unfold H4
    apply ByteArray.ext
    simp
   obtain ⟨E,hE⟩:∃ E,Utf8.encode (c:Int)=E:=⟨_,rfl⟩
   generalize hS:(⟨(V7 c s 3).toArray⟩:ByteArray)=S at *
   rw [hE] at hEl hfin2
   clear hS hfin henc
   have z1:E.size+S.size≤9223372036854775807:=oM
   have z2:(E ++ S).size+E.size≤9223372036854775807:=by rw [ByteArray.size_append];omega
   have z3:E.size+S.size+E.size≤9223372036854775807:=oM
   clear hEl hSl
   go_wp2
   go_ret
   exact ⟨by rw [hfin2.go];rfl,hbl⟩
end Go.Proofs.YtdldcfllnohkeaaGreatDoor
namespace Go.Proofs.YtdldcfllnohkeaaGreatDoor
open Go.Abs LQ
noncomputable section
open Classical
theorem f0c {L:List Pk} {cur:i6} {d:O} {t:i6}:(pT L cur d).2.2=some t↔∃ x,d=.co x B3∧t=A4 L cur x:=by
 cases d with
 | co x y =>
  simp only [pT]
  by_cases h:y=B3
  ·rw [if_pos h]
   subst h
   constructor
   ·intro e;injection e with e;exact ⟨x,rfl,e.symm⟩
   ·rintro ⟨z,e,rfl⟩;injection e with e _;subst e;rfl
  ·rw [if_neg h]
   constructor
   ·intro e;cases e
   ·rintro ⟨z,e,_⟩;injection e with _ e;exact absurd e h
 | _ =>
  constructor
  ·intro e;cases e
  ·rintro ⟨z,e,_⟩;cases e
theorem a0w {o x:O}:D7 o=some x↔o=.co B0 (.co x B3):=by
 unfold D7
 constructor
 ·intro h
  split at h
  ·rename_i q y hi
   split at h
   ·rename_i hq
    injection h with h
    subst h hq
    obtain ⟨d,rfl,hd⟩:=J7 hi
    obtain ⟨e,rfl,he⟩:=J7 hd
    rw [b2s he]
   ·cases h
  ·cases h
 ·rintro rfl
  have:w9 (.co B0 (.co x B3))=some [B0,x]:=by simp [w9,B3]
  rw [this]
  simp only [if_true]
theorem b3m {L:List Pk} {cur:i6} {o x:O} (h:D7 o=some x):A4 L cur o=39 :: A4 L cur x:=by
 rw [a0w.1 h]
 unfold A4
 simp only [pT,if_true]
theorem b3l {L:List Pk} {cur:i6} {a d:O} (h:D7 (.co a d)=none):A4 L cur (.co a d)=40 :: (A4 L cur a ++ (pT L cur d).2.1):=by
 unfold A4
 simp only [pT]
 by_cases ha:a=B0
 ·rw [if_pos ha]
  cases hd:(pT L cur d).2.2 with
  | none=>rfl
  | some t =>
   obtain ⟨x,rfl,_⟩:=f0c.1 hd
   rw [a0w.2 (by rw [ha])] at h
   cases h
 ·rw [if_neg ha]
def b8v (L:List Pk) (cur before:i6):O→i6
 | .co a d=>before ++ (A4 L cur a ++ (pT L cur d).2.1)
 | o=>(pT L cur o).2.1
theorem e89 (L:List Pk) (cur:i6) (o:O):b8v L cur [32] o=(pT L cur o).2.1:=by
 cases o <;> rfl
theorem e88 {L:List Pk} {cur:i6} {a d:O} (h:D7 (.co a d)=none):b8v L cur [40] (.co a d)=A4 L cur (.co a d):=by
 rw [b3l h];rfl
theorem e86 {L:List Pk} {cur b:i6} {o:O} (h:o.isCo=false):b8v L cur b o=if o=B3 then [41] else [32,46,32] ++ A4 L cur o ++ [41]:=by
 cases o with
 | co=>cases h
 | _=>rfl
def okP:O→Prop
 | .num n d=>0 < d∧Nat.gcd n.natAbs d=1∧(j3 n).length≤101∧(i7 d).length≤100
 | .tx t=>t.length≤200
 | .sy s=>named s=true
 | .co a d=>okP a∧okP d
 | .no=>False
theorem b6e {s:Sy} (h:named s=true):s.1.length≤40:=by
 have:=(a12 h).1
 simp [t6] at this
 exact this.1.2.1
theorem b8d {L:List Pk}:∀ {o:O},okA L o→okP o
 | .num n d,h=>by
  refine ⟨h.1,h.2.1,?_,h.2.2.2⟩
  have:=h.2.2.1
  rw [I8,List.length_append]
  have:(LQ.sgn n).length≤1:=by unfold LQ.sgn;split <;> simp
  omega
 | .tx _,h=>h
 | .sy _,h=>h.1
 | .co _ _,h=>⟨b8d h.1,b8d h.2⟩
 | .no,h=>h.elim
theorem b5v {L:List Pk} {cur:i6} {o:O} (h:okP o) (hn:∀ a d,o ≠ .co a d):(J1 L cur o).length≤410:=by
 cases o with
 | num n d=>have:=c64 n d;have:=h.2.2.1;have:=h.2.2.2;show (a0f n d).length≤_;omega
 | sy s =>
  have h1:=b6d L cur s
  have h2:=a12 h
  have h3:=b6e h
  show (O7 L cur s).1.length≤_;omega
 | tx t=>have:=b97 34 t;have h:t.length≤200:=h;show (H4 34 t).length≤_;omega
 | co a d=>exact absurd rfl (hn a d)
 | no=>exact h.elim
theorem b67 {L:List Pk} {cur:i6}:∀ {o:O},okP o→Y7 L cur o≤410 * lv o
 | .co a d,h=>by
  have h1:=b67 (L:=L) (cur:=cur) h.1
  have h2:=b67 (L:=L) (cur:=cur) h.2
  simp only [Y7,lv];omega
 | .num n d,h=>b5v (o:=.num n d) h fun _ _ e=>by cases e
 | .sy s,h=>b5v (o:=.sy s) h fun _ _ e=>by cases e
 | .tx t,h=>b5v (o:=.tx t) h fun _ _ e=>by cases e
 | .no,h=>h.elim
theorem b1e {L:List Pk} {cur:i6} {o:O} (h:okP o):2 * (A4 L cur o).length≤415 * (o.size+1)∧2 * (pT L cur o).2.1.length≤415 * (o.size+1):=by
 have h1:=a7s (L:=L) (cur:=cur) o
 have h2:=b67 (L:=L) (cur:=cur) h
 have h3:=c0s o
 have h4:=d7a o
 have h5:(A4 L cur o).length=(pT L cur o).1.length:=rfl
 omega
theorem f2a (x y:Int):0 < (qn x y).2∧Nat.gcd (qn x y).1.natAbs (qn x y).2=1:=by
 by_cases hy:y=0
 ·have e:qn x y=(0,1):=by unfold qn;rw [if_pos hy]
  rw [e];decide
 have e:qn x y=((if (x < 0)=(y < 0) then 1 else -1) * ((x.natAbs / Nat.gcd x.natAbs y.natAbs:Nat):Int),y.natAbs / Nat.gcd x.natAbs y.natAbs):=by unfold qn;rw [if_neg hy]
 have hg:0 < Nat.gcd x.natAbs y.natAbs:=Nat.gcd_pos_of_pos_right _ oM
 have h1:Nat.gcd (x.natAbs / Nat.gcd x.natAbs y.natAbs) (y.natAbs / Nat.gcd x.natAbs y.natAbs)=1:=by
  rw [Nat.gcd_div (Nat.gcd_dvd_left _ _) (Nat.gcd_dvd_right _ _),Nat.div_self hg]
 have hd:0 < y.natAbs / Nat.gcd x.natAbs y.natAbs:=Nat.div_pos (Nat.le_of_dvd oM (Nat.gcd_dvd_right _ _)) hg
 rw [e]
 simp only
 refine ⟨hd,?_⟩
 have e2:((if (x < 0)=(y < 0) then (1:Int) else -1) * ((x.natAbs / Nat.gcd x.natAbs y.natAbs:Nat):Int)).natAbs=x.natAbs / Nat.gcd x.natAbs y.natAbs:=by
  generalize x.natAbs / Nat.gcd x.natAbs y.natAbs=a
  by_cases hc:(x < 0)=(y < 0)
  ·rw [if_pos hc];omega
  ·rw [if_neg hc];omega
 rw [e2];exact h1
theorem c50 {L:List Pk}:∀ {o:O},o.fm=true→C9 L o=true→okA L o
 | .num n d,h,_=>by
  have h:u4 (j3 n) (i7 d)=(j3 n,i7 d)∧G8 (j3 n)≤100∧G8 (i7 d)≤100:=by simpa [O.fm] using h
  obtain ⟨h1,h2,h3⟩:=h
  rw [a4e] at h2
  rw [a1j] at h3
  rw [U4,s7,B4] at h1
  injection h1 with e1 e2
  have e1:=Z7 e1
  have e2:=a0a e2
  have h4:=f2a n d
  rw [e1,e2] at h4
  exact ⟨h4.1,h4.2,h2,h3⟩
 | .tx t,h,_=>by
  have h:t.length≤200:=by simpa [O.fm] using h
  exact h
 | .sy s,h,k=>⟨h,k⟩
 | .co a d,h,k=>by
  have h:a.fm=true∧d.fm=true:=by simpa [O.fm] using h
  have k:C9 L a=true∧C9 L d=true:=by simpa [C9] using k
  exact ⟨c50 h.1 k.1,c50 h.2 k.2⟩
 | .no,h,_=>by cases h
end
end Go.Proofs.YtdldcfllnohkeaaGreatDoor
namespace Go.Proofs.YtdldcfllnohkeaaGreatDoor
open Go.Abs LQ Go.RowKit Go.Shelf
set_option maxRecDepth 100000
set_option maxHeartbeats 2000000
noncomputable section
def a0d (o:O):Prop:=∃ q,A6 o.g q 0
theorem d50 {gs:List G} {v:V} (h:RV (.a gs) v):∃ q,A6 gs q 0:=by
 cases h with
 | a _ q _ _ h=>exact ⟨q,h⟩
 | ag _ cs h=>obtain ⟨qs,_,k⟩:=b7l h;exact ⟨_,k.cel⟩
theorem a0d.rv {o:O} (h:a0d o):∃ v,RV (.a o.g) v:=h.elim fun q h=>⟨_,.a _ q 7 (O.g_len o).symm h⟩
theorem a0d.two {a d:O} (h:a0d (.co a d)):a0d a∧a0d d:=by
 obtain ⟨q,h⟩:=h
 have h6:RG (.l [a.g,d.g]) (celQ q (0+6)):=h.get rfl
 generalize celQ q (0+6)=x at h6
 cases h6 with
 | l _ t n off len _ h =>
  cases h with
  | cons _ _ _ _ _ _ h1 _ h =>
   cases h with
   | cons _ _ _ _ _ _ h2 _ h=>exact ⟨⟨_,h1⟩,⟨_,h2⟩⟩
abbrev K9 (o:O) (c6:Value):Array Value:=#[.int .i64 o.k,.string ⟨o.nu.toArray⟩,.string ⟨o.de.toArray⟩,.string ⟨o.sym.1.toArray⟩,.string ⟨o.sym.2.toArray⟩,.string ⟨o.txt.toArray⟩,c6]
section
variable {S:l9} {M:Mp} {w:World}
theorem Z5 {v:Value} {s:i6} (h:Rd S M w v (.str s)):v=.string ⟨s.toArray⟩:=by
 cases h with
 | str t _ e=>subst e;rfl
theorem b0x {o:O} {cs:List Value} (h:u3 S M w cs (o.g.map dG)):∃ c6,cs=(K9 o c6).toList∧Rd S M w c6 (dG (.l (o.ps.map O.g))):=by
 rw [o.g_eq] at h
 cases h with
 | cons _ _ _ _ h0 h =>
 cases h with
 | cons _ _ _ _ h1 h =>
 cases h with
 | cons _ _ _ _ h2 h =>
 cases h with
 | cons _ _ _ _ h3 h =>
 cases h with
 | cons _ _ _ _ h4 h =>
 cases h with
 | cons _ _ _ _ h5 h =>
 cases h with
 | cons v _ _ _ h6 h =>
 cases h
 simp only [dG] at h0 h1 h2 h3 h4 h5
 have e1:=Z5 h1
 have e2:=Z5 h2
 have e3:=Z5 h3
 have e4:=Z5 h4
 have e5:=Z5 h5
 cases h0
 subst e1 e2 e3 e4 e5
 exact ⟨v,rfl,h6⟩
theorem e35 {o:O} {c6:Value} (h:Rd S M w c6 (dG (.l (o.ps.map O.g)))):u3 S M w (K9 o c6).toList (o.g.map dG):=by
 rw [o.g_eq]
 simp only [List.map_cons,List.map_nil,dG]
 exact .k (.int _ _) (.k (.str _ _ rfl) (.k (.str _ _ rfl) (.k (.str _ _ rfl) (.k (.str _ _ rfl) (.k (.str _ _ rfl) (.k (by simpa only [dG] using h) .nil))))))
theorem d7v {a d:O} {v:Value} (h:Rd S M w v (dG (.l ([a,d].map O.g)))):∃ b o cap x6 y6,v=.slice (some ⟨b,o,none⟩) 2 cap∧2≤cap∧Rd S o8 w x6 (dG (.l (a.ps.map O.g)))∧Rd S o8 w y6 (dG (.l (d.ps.map O.g))) ∧
  (∀ i u,(K9 a x6)[i]?=some u→S b (o+i)∧w.cell? ⟨b,o+i,none⟩=some u)∧(∀ i u,(K9 d y6)[i]?=some u→S b (o+7+i)∧w.cell? ⟨b,o+7+i,none⟩=some u):=by
 have e:dG (.l ([a,d].map O.g))=.slice 2 (a.g.map dG ++ d.g.map dG) .no:=by simp only [dG,List.map_cons,List.map_nil,a3v,List.length_cons,List.length_nil];simp [V3]
 rw [e] at h
 generalize hds:a.g.map dG ++ d.g.map dG=ds at h
 cases h with
 | slice base len cap vs _ _ sl r _ l z =>
 subst hds
 have la:(a.g.map dG).length=7:=by rw [List.length_map,O.g_len]
 have r1:=r.take 7
 have r2:=r.drop 7
 rw [List.take_left' la] at r1
 rw [List.drop_left' la] at r2
 obtain ⟨x6,ex,hx⟩:=b0x r1
 obtain ⟨y6,ey,hy⟩:=b0x r2
 have ev:vs=(K9 a x6).toList ++ (K9 d y6).toList:=by rw [← ex,← ey,List.take_append_drop]
 rcases sl with sl | ⟨b,o,rfl,sl⟩
 ·rw [ev] at sl;cases sl
 refine ⟨b,o,cap,x6,y6,rfl,l,hx,hy,fun i u hu=>?_,fun i u hu=>?_⟩
 ·refine sl i u ?_
  rw [ev,List.getElem?_append_left]
  ·rw [Array.getElem?_toList];exact hu
  ·have:=(Array.getElem?_eq_some_iff.1 hu).1;simpa using this
 ·have:=sl (7+i) u (by
   have e7:7+i - (K9 a x6).toList.length=i:=by show 7+i - 7=i;omega
   rw [ev,List.getElem?_append_right (by show 7≤7+i;omega),e7,Array.getElem?_toList];exact hu)
  rw [show o+(7+i)=o+7+i by omega] at this
  exact this
theorem e2y {w':World} {v:Value} {d:D} (hwi:S.within w) (h:Rd S M w v d) (k:Below w.heap.size w w'):Rd S M w' v d :=
 h.ext ⟨fun _ _ h=>h,fun b o h=>by unfold World.cell?;rw [k.block b (hwi b o h)],fun _ _ h=>h⟩
end
theorem a6y {g:FuncId} {sp:Sp} (hk:k9 g sp) (i:sp.ι) {r:GV} (hR:sp.R i=.ret r) (hB:sp.B i=[]) {vs:List V} (hv:l7 (sp.A i) vs) {w:World} {S:l9} {us:List Value} (hg:GG.pred w) (hwi:S.within w) (hr:u3 S o8 w us ((sp.A i).map dV)) :
  Calls Tryz.prog g us.toArray w fun e w'=>∃ v S',e=.returned v∧Below w.heap.size w w'∧S.grown S' w∧S'.within w'∧Rd S' o8 w' v (dV r):=by
 obtain ⟨v,bs',h1,h2,h3⟩:=hk i vs [] hv (by rw [hB];exact .nil)
 have h1:=h1 rfl
 rw [hR] at h2
 cases h2 with
 | ret _ v h2 =>
 rw [hv.map_toD] at h1
 have h1:CM Tryz.prog GG g ((sp.A i).map dV) [] (.ret (toD v)) (bs'.map G2):=h1
 rw [h2.toD] at h1
 refine (h1.2 w S o8 us hg (fun _ _ _ h=>by cases h) hwi ⟨fun id b h=>by simp at h,fun _ _=>rfl,fun _ _ _ _ _ _ _ h=>by simp at h⟩ hr).mono ?_
 rintro e w' ⟨hk,S',hgr,hw',he⟩
 obtain ⟨_,v',rfl,hv',_⟩:=he
 exact ⟨v',S',rfl,⟨hk.os,hk.tape,hk.output,hk.size,fun k hlt=>hk.block k hlt (fun i c h=>by cases h)⟩,hgr,hw',hv'⟩
theorem e1g {w:World} {b:Nat} {cs:Array Value} (hb:w.heap[b]?=some (.cells cs 26 (0,0))) (hs:cs.size=7) (c0 c1 c2 c3 c4 c5 c6:Value):(a7k w b c0 c1 c2 c3 c4 c5 c6).heap[b]?=some (.cells #[c0,c1,c2,c3,c4,c5,c6] 26 (0,0)):=by
 obtain ⟨cs⟩:=cs
 match cs,hs with
 | [d0,d1,d2,d3,d4,d5,d6],_=>exact D1 (D1 (D1 (D1 (D1 (D1 (D1 hb))))))
end
end Go.Proofs.YtdldcfllnohkeaaGreatDoor
