/- The reference's printer: escaped, word, Name, homes, quoted. -/
import Derived.Test.YtdldcfllnohkeaaGreatDoorKJ1
import Derived.Test.YtdldcfllnohkeaaGreatDoorKJ6
set_option linter.all false
namespace Go.Proofs.YtdldcfllnohkeaaGreatDoor
open Go.Abs LQ
set_option maxRecDepth 100000
set_option maxHeartbeats 8000000
noncomputable section
def f6k:Sp where
 ι:={ p:f5 × UInt8 // p.1.length < 90000∧(p.2=34∨p.2=124) }
 A p:=[.c (.s p.1.1),.c (.i .u8 (p.1.2.toNat:Int))]
 B _:=[]
 R p:=.ret (.c (.s (D8 p.1.2 p.1.1)))
 B' _:=[]
 inj i j vs bs h k _ _:=by
  obtain ⟨_,_,h1,k1,h,k⟩:=h.two k
  obtain ⟨_,_,h2,k2,h,k⟩:=h.two k
  have e2:=a0l h2 k2
  rw [F7 h1 k1,UInt8.toNat_inj.1 (show i.1.2.toNat=j.1.2.toNat by omega)];exact ⟨rfl,rfl⟩
theorem d5o {s:f5} {i:Nat} (h:i < s.length):s.take (i+1)=s.take i ++ [s.getD i 0]:=by
 rw [List.take_add_one]
 simp [List.getD,List.getElem?_eq_getElem h]
theorem b9j (c:UInt8) {s:f5} {i:Nat} (h:i < s.length):F8 c (s.take (i+1))=F8 c (s.take i) ++ (if s.getD i 0=c∨s.getD i 0=92 then [92,s.getD i 0] else [s.getD i 0]):=by
 rw [d5o h]
 unfold F8
 rw [List.flatMap_append,List.flatMap_singleton]
theorem e09:j3 62 f6k:=k7 (fun fn h=>f0s h) [] .nil fun U fn hfn ⟨(s,c),hs,hc⟩ vs bs hv hb=>by
 have hs:s.length < 90000:=hs
 have hv:j5 [.c (.s s),.c (.i .u8 (c.toNat:Int))] vs:=hv
 have hb:RBs [] bs:=hb
 show g7 U _ fun v bs'=>j6 (.ret (.c (.s (D8 c s)))) v∧RBs [] bs'
 unfold r62
 (refine Zq ?_;intros)
 refine E1 (fun (i:Nat) vs bs=>∃ (v:V) (acc:f5),vs=[.str s.length (j9 s),.int .u8 (c.toNat:Int),.int .i64 i,v]∧bs=[.tok acc.length 1]∧a0o 0 1 (acc.map bg) v∧i≤s.length∧acc=c :: F8 c (s.take i)) (fun i=>s.length - i) 0 ⟨_,[c],rfl,rfl,.a _ 1 rfl (.cons 1 _ _ _ _ rfl (E7 (.i _ _)).1 (E7 (.i _ _)).2 (.nil _ _ _)),Nat.zero_le _,by simp [F8]⟩ (by simp only [x8];omega) ?_
 rintro self i _ _ ⟨v,acc,rfl,rfl,ht,hi,ha⟩ ih
 have hal:acc.length≤2 * i+1:=by
  have:=c7v c (s.take i)
  rw [ha,List.length_cons]
  rw [List.length_take] at this
  omega
 have hbt:((s.getD i 0).toNat:Int)=bt s i:=rfl
 have two:i < s.length→(bt s i=(c.toNat:Int)∨bt s i=92)→acc ++ [92,s.getD i 0]=c :: F8 c (s.take (i+1)):=fun h k=>by
  rw [b9j c h,if_pos,ha];rfl
  rcases k with k | k
  ·exact .inl (UInt8.toNat_inj.1 (by rw [← hbt] at k;omega))
  ·exact .inr (UInt8.toNat_inj.1 (by rw [← hbt] at k;show _=92;omega))
 have one:i < s.length→¬bt s i=(c.toNat:Int)→¬bt s i=92→acc ++ [s.getD i 0]=c :: F8 c (s.take (i+1)):=fun h k1 k2=>by
  rw [b9j c h,if_neg,ha];rfl
  rintro (e | e)
  ·exact k1 (by rw [← hbt,e])
  ·exact k2 (by rw [← hbt,e];rfl)
 (refine Zq ?_;with_reducible repeat' first|intro _|apply aI)
 ·have hk:bt s i=(c.toNat:Int):=‹_›
  refine T6 (xs:=acc.map bg) (r:=bg 92) aS (fun _=>E7 (.i _ _)) rfl (by simp) (by simp;omega) fun _ _=>?_
  (refine Zq ?_;intros)
  refine T6 (xs:=acc.map bg ++ [bg 92]) (r:=bg (s.getD i 0)) aS (fun _=>E7 (.i _ _)) rfl (by simp) (by simp;omega) fun t9 h9=>?_
  (refine Zq ?_;intros)
  refine ih (i+1) _ _ ⟨.slice t9 1 0 (acc.length+1+1) (.tok 0),acc ++ [92,s.getD i 0],rfl,by simp,.a _ _ (by simp) (by rw [show (acc ++ [92,s.getD i 0]).map bg=acc.map bg ++ [bg 92] ++ [bg (s.getD i 0)] by simp];exact h9),oM,two oM (.inl hk)⟩ oM
 ·have hk:bt s i=92:=‹_›
  refine T6 (xs:=acc.map bg) (r:=bg 92) aS (fun _=>E7 (.i _ _)) rfl (by simp) (by simp;omega) fun _ _=>?_
  (refine Zq ?_;intros)
  refine T6 (xs:=acc.map bg ++ [bg 92]) (r:=bg (s.getD i 0)) aS (fun _=>E7 (.i _ _)) rfl (by simp) (by simp;omega) fun t9 h9=>?_
  (refine Zq ?_;intros)
  refine ih (i+1) _ _ ⟨.slice t9 1 0 (acc.length+1+1) (.tok 0),acc ++ [92,s.getD i 0],rfl,by simp,.a _ _ (by simp) (by rw [show (acc ++ [92,s.getD i 0]).map bg=acc.map bg ++ [bg 92] ++ [bg (s.getD i 0)] by simp];exact h9),oM,two oM (.inr hk)⟩ oM
 ·have k1:¬bt s i=(c.toNat:Int):=‹_›
  have k2:¬bt s i=92:=‹_›
  refine T6 (xs:=acc.map bg) (r:=bg (s.getD i 0)) aS (fun _=>E7 (.i _ _)) rfl (by simp) (by simp;omega) fun t9 h9=>?_
  (refine Zq ?_;intros)
  refine ih (i+1) _ _ ⟨.slice t9 1 0 (acc.length+1) (.tok 0),acc ++ [s.getD i 0],rfl,by simp,.a _ _ (by simp) (by rw [List.map_append];exact h9),oM,one oM k1 k2⟩ oM
 ·have hi9:i=s.length:=oM
  rw [hi9,List.take_length] at ha
  have e:D8 c s=acc ++ [c]:=by unfold D8;rw [ha];rfl
  rw [e]
  refine T6 (xs:=acc.map bg) (r:=bg c) aS (fun _=>E7 (.i _ _)) rfl (by simp) (by simp;omega) fun t9 h9=>?_
  (refine Zq ?_;intros)
  refine sBT (ys:=acc ++ [c]) (by rw [List.map_append];exact h9) (by simp) ?_
  exact g9 ⟨.ret _ _ (.s _ _ _ (by simp) rfl),.nil⟩
theorem d6l {a b:Bool} {v:V} (h:RV (.c (.b a)) v) (k:RV (.c (.b b)) v):a=b:=G.b.inj (h.c_inj k)
def f6p:Sp where
 ι:={ p:f5 × Bool // p.1.length < 90000 }
 A p:=[.c (.s p.1.1),.c (.b p.1.2)]
 B _:=[]
 R p:=.ret (.c (.s (D7 p.1.1 p.1.2)))
 B' _:=[]
 inj i j vs bs h k _ _:=by
  obtain ⟨_,_,h1,k1,h,k⟩:=h.two k
  obtain ⟨_,_,h2,k2,h,k⟩:=h.two k
  rw [F7 h1 k1,d6l h2 k2];exact ⟨rfl,rfl⟩
theorem e7u:j3 94 f6p:=k7 (fun fn h=>f2a h) [(62,_),(124,_),(125,_)] (.cons e09 (.cons d3q (.cons d0n .nil))) fun U fn hfn ⟨(s,q),hs⟩ vs bs hv hb=>by
 have hes:=hfn 62 _ rfl
 have hco:=hfn 124 _ rfl
 have hnu:=hfn 125 _ rfl
 have hs:s.length < 90000:=hs
 have hv:j5 [.c (.s s),.c (.b q)] vs:=hv
 have hb:RBs [] bs:=hb
 show g7 U _ fun v bs'=>j6 (.ret (.c (.s (D7 s q)))) v∧RBs [] bs'
 unfold r94
 (refine Zy ?_;intros)
 refine E1 (fun (i:Nat) vs bs=>∃ (b:Bool) (v vq:V),vs=[.str s.length (j9 s),vq,v,.int .i64 i]∧bs=[]∧RV (.c (.b b)) v∧RV (.c (.b q)) vq∧i≤s.length∧(U=CU→(b=true↔(s ≠ []∧∀ j,j < i→t6 (bt s j)=true)))) (fun i=>s.length - i) 0 ⟨_,_,_,rfl,rfl,.b _,.b _,Nat.zero_le _,fun e=>?_⟩ (by simp only [x8];omega) ?_
 ·subst e
  rw [b33,decide_eq_true_iff]
  constructor
  ·intro h;exact ⟨fun e=>by subst e;simp at h,fun j hj=>absurd hj (Nat.not_lt_zero _)⟩
  ·rintro ⟨h,_⟩
   have:s.length ≠ 0:=fun e=>h (List.eq_nil_of_length_eq_zero e)
   omega
 rintro self i _ _ ⟨b,v,vq,rfl,rfl,hvb,hvq,hi,hbe⟩ ih
 (refine Zy ?_;with_reducible repeat' first|intro _|apply aI)
 ·refine R6 (fun vs bs=>∃ (b':Bool) (v vq:V),vs=[.str s.length (j9 s),vq,v,.int .i64 i]∧bs=[]∧RV (.c (.b b')) v∧RV (.c (.b q)) vq∧(U=CU→(b'=true↔(b=true∧t6 (bt s i)=true)))) ?_ ?_
  ·rintro _ _ ⟨b',v,vq,rfl,rfl,hvb',hvq',hb'⟩
   (refine Zy ?_;intros)
   refine ih (i+1) _ _ ⟨b',_,_,by simp,rfl,.b _,.b _,oM,fun e=>?_⟩ oM
   rw [hb' e,hbe e]
   constructor
   ·rintro ⟨⟨h1,h2⟩,h3⟩
    refine ⟨h1,fun j hj=>?_⟩
    by_cases e:j=i
    ·subst e;exact h3
    ·exact h2 j oM
   ·rintro ⟨h1,h2⟩
    exact ⟨⟨h1,fun j hj=>h2 j oM⟩,h2 i oM⟩
  ·intro c hc
   (refine Zy ?_;with_reducible repeat' first|intro _|apply aI)
   ·refine f6 hco (bt s i) (r:=.c (.b (t6 (bt s i)))) rfl (.k (.i _ _) .nil) .nil fun _ _ _ _=>?_
    (refine Zy ?_;intros)
    have hb1:=‹b=true›
    exact hc _ _ ⟨t6 (bt s i),_,_,rfl,rfl,.b _,.b _,fun _=>⟨fun h=>⟨hb1,h⟩,fun h=>h.2⟩⟩
   ·have hb1:=‹¬b=true›
    exact hc _ _ ⟨false,_,_,rfl,rfl,.kn _,.b _,fun _=>⟨fun h=>(by cases h),fun h=>absurd h.1 hb1⟩⟩
 ·have hsim:U=CU→(b=true↔L7 s=true):=fun e=>by
   rw [hbe e,a9u]
   have:i=s.length:=oM
   rw [this];exact Iff.rfl
  refine R6 (fun vs bs=>∃ (z:Bool) (v:V),vs=[.str s.length (j9 s),v]∧bs=[]∧RV (.c (.b z)) v∧(U=CU→(z=true↔(L7 s=false∨(q=false∧(s=[46]∨(m6 s).2.2=true)))))) ?_ ?_
  ·rintro _ _ ⟨z,v,rfl,rfl,hvz,hz⟩
   refine fun e=>?_
   have hz:=hz e
   have hw:D7 s q=if z=true then D8 124 s else s:=by
    unfold D7
    by_cases h:z=true
    ·rw [if_pos h,if_pos (hz.1 h)]
    ·rw [if_neg h,if_neg fun k=>h (hz.2 k)]
   refine (show g7 U _ _ from ?_) e
   rw [hw]
   (refine Zy ?_;with_reducible repeat' first|intro _|apply aI)
   ·rw [if_pos ‹z=true›]
    refine f6 hes ⟨(s,124),hs,.inr rfl⟩ (r:=.c (.s (D8 124 s))) rfl (.k (.s _ _ _ rfl rfl) (.k (.i _ _) .nil)) .nil fun _ _ _ _=>?_
    (refine Zy ?_;intros)
    exact g9 ⟨.ret _ _ (.s _ _ _ rfl rfl),.nil⟩
   ·rw [if_neg ‹¬z=true›]
    exact g9 ⟨.ret _ _ (.s _ _ _ rfl rfl),.nil⟩
  ·intro c hc
   (refine Zy ?_;with_reducible repeat' first|intro _|apply aI)
   ·have hb1:=‹b=true›
    have hq1:=‹q=true›
    refine hc _ _ ⟨false,_,rfl,rfl,.kn _,fun e=>⟨fun h=>(by cases h),?_⟩⟩
    rintro (h | ⟨h,_⟩)
    ·rw [(hsim e).1 hb1] at h;cases h
    ·rw [hq1] at h;cases h
   ·have hq1:q=false:=by simpa using ‹¬q=true›
    have h46:s=[46]:=‹s=k6 1 46›
    exact hc _ _ ⟨true,_,rfl,rfl,.kn _,fun _=>⟨fun _=>.inr ⟨hq1,.inl h46⟩,fun _=>rfl⟩⟩
   ·have hb1:=‹b=true›
    have hq1:q=false:=by simpa using ‹¬q=true›
    have h46:¬s=[46]:=‹¬s=k6 1 46›
    refine f6 hnu ⟨s,hs⟩ (r:=.c (.b (m6 s).2.2)) rfl (.k (.s _ _ _ rfl rfl) .nil) .nil fun _ _ _ _=>?_
    (refine Zy ?_;with_reducible repeat' first|intro _|apply aI)
    refine hc _ _ ⟨(m6 s).2.2,_,rfl,rfl,.b _,fun e=>⟨fun h=>.inr ⟨hq1,.inr h⟩,?_⟩⟩
    rintro (h | ⟨_,h | h⟩)
    ·rw [(hsim e).1 hb1] at h;cases h
    ·exact absurd h h46
    ·exact h
   ·have hb1:=‹¬b=true›
    refine hc _ _ ⟨true,_,rfl,rfl,.kn _,fun e=>⟨fun _=>.inl ?_,fun _=>rfl⟩⟩
    cases h:L7 s with
    | false=>rfl
    | true=>exact absurd ((hsim e).2 h) hb1
theorem e7h:j3 63 d12:=k7 (fun fn h=>f0u h) [(59,_),(29,_),(60,_),(92,_),(94,_)] (.cons c8b (.cons b5z (.cons c3g (.cons e1d (.cons e7u .nil))))) fun U fn hfn ⟨(L,cur,s),hL,hs1,hs2⟩ vs bs hv hb=>by
 have hva:=hfn 59 _ rfl
 have hfi:=hfn 29 _ rfl
 have hho:=hfn 60 _ rfl
 have hvi:=hfn 92 _ rfl
 have hwo:=hfn 94 _ rfl
 have hL:F1 L:=hL
 have hs1:s.1.length < 90000:=hs1
 have hs2:s.2.length < 90000:=hs2
 have hv:j5 [.sl 2 (L.map pg),.c (.s cur),.a [.s s.1,.s s.2]] vs:=hv
 have hb:RBs [] bs:=hb
 show g7 U _ fun v bs'=>j6 (.ret (a9b (H9 L cur s))) v∧RBs [] bs'
 unfold r63
 (refine Zy ?_;intros)
 refine f6 hva ⟨s,hs1,hs2⟩ (r:=.c (.b (named s))) rfl (.k (.a _ _ _ rfl aS) .nil) .nil fun _ _ _ _=>?_
 (refine Zy ?_;with_reducible repeat' first|intro _|apply aI)
 ·have hn:named s=true:=‹_›
  obtain ⟨nv,nl,n0⟩:=a0v hn
  have nnf:¬named s=false:=by rw [hn];simp
  have bad:(B0 L cur=none∨F6 L s=false)→g7 U (some (.ret (.tuple [.str 0 0,.int .i64 13]),[])) fun v bs'=>j6 (.ret (a9b (H9 L cur s))) v∧RBs [] bs':=fun h=>by
   unfold H9
   rw [if_neg nnf,if_pos h]
   exact g9 ⟨.ret _ _ j4,.nil⟩
  cases hf:B0 L cur with
  | none =>
   refine f6 hfi ⟨(L,cur),hL⟩ (r:=.t [.a [.s [],.l []],.c (.b false)]) (by show n6.ret (E2 L cur)=_;rw [a6b hf]) (.k (.sl _ _ _ _ _ (by simp) aS) j4) .nil fun _ _ _ _=>?_
   (refine Zq ?_;intros)
   exact bad (.inl hf)
  | some p =>
   refine f6 hfi ⟨(L,cur),hL⟩ (r:=.t [.a (pg p),.c (.b true)]) (by show n6.ret (E2 L cur)=_;rw [a6c hf]) (.k (.sl _ _ _ _ _ (by simp) aS) j4) .nil fun _ _ hv9 _=>?_
   have hv9:RV (.t [.a [.s p.1,.l (p.2.map sg)],.c (.b true)]) _:=hv9
   (refine Zq ?_;intros)
   have n1:¬(B0 L cur=none∨F6 L s=false)↔F6 L s=true:=by rw [hf];simp
   refine f6 hho ⟨(L,s),hL⟩ (r:=.c (.b (F6 L s))) rfl (.k (.sl _ _ _ _ _ (by simp) aS) (.k (.a _ _ _ rfl aS) .nil)) .nil fun _ _ _ _=>?_
   (refine Zq ?_;with_reducible repeat' first|intro _|apply aI)
   ·have hh:F6 L s=true:=‹_›
    unfold H9
    rw [if_neg nnf,if_neg (n1.2 hh)]
    refine f6 hvi ⟨(L,cur,s),hL⟩ (r:=.c (.b (a14 L cur s))) rfl (.k (.sl _ _ _ _ _ (by simp) aS) (.k (.s _ _ _ rfl rfl) (.k (.a _ _ _ rfl aS) .nil))) .nil fun _ _ _ _=>?_
    (refine Zq ?_;with_reducible repeat' first|intro _|apply aI)
    ·rw [if_pos ‹a14 L cur s=true›]
     refine f6 hwo ⟨(s.2,false),hs2⟩ (r:=.c (.s (D7 s.2 false))) rfl (.k (.q _ _ aS) (.k (.kn _) .nil)) .nil fun _ _ _ _=>?_
     (refine Zq ?_;intros)
     exact g9 ⟨.ret _ _ j4,.nil⟩
    ·rw [if_neg ‹¬a14 L cur s=true›]
     refine T7 (x:=s.1) (y:=[58,58]) rfl rfl rfl ?_
     have hw:=a95 s.2 true
     (refine Zq ?_;intros)
     refine f6 hwo ⟨(s.2,true),hs2⟩ (r:=.c (.s (D7 s.2 true))) rfl (.k (.q _ _ aS) (.k (.kn _) .nil)) .nil fun _ _ _ _=>?_
     (refine Zq ?_;intros)
     refine T7 (x:=s.1 ++ [58,58]) (y:=D7 s.2 true) (by simp) rfl rfl ?_
     rw [show s.1 ++ [58,58] ++ D7 s.2 true=s.1 ++ 58 :: 58 :: D7 s.2 true by simp]
     exact g9 ⟨.ret _ _ (.t _ _ (.k (.s _ _ _ (by simp;omega) rfl) (.k (.i _ _) .nil))),.nil⟩
   ·exact bad (.inr (by simpa using ‹¬F6 L s=true›))
 ·have hn:named s=false:=by simpa using ‹¬named s=true›
  unfold H9
  rw [if_pos hn]
  exact g9 ⟨.ret _ _ j4,.nil⟩
theorem c76:j3 70 (b8t J1):=k7 (fun fn h=>f06 h) [(65,_),(66,_)] (.cons c74 (.cons d3t .nil)) fun U fn hfn ⟨o,hz⟩ vs bs hv hb=>by
 have hc:=hfn 65 _ rfl
 have hn:=hfn 66 _ rfl
 have hz:o.size < 90000:=hz
 have hv:j5 [.a o.g] vs:=hv
 have hb:RBs [] bs:=hb
 show g7 U _ fun v bs'=>j6 (.ret (J1 o)) v∧RBs [] bs'
 unfold r70
 refine X8 hv fun _ _ hv1 hv2=>?_
 refine M5 hv1 o.g_len fun q hq=>?_
 (refine Zq ?_;intros)
 refine E1 (fun (p:O × List O) vs bs=>∃ (x:O) (acc:List O) (v:V) (q:Q),p=(x,acc)∧vs=[.ptr 0 0,v]∧bs=[.opa q 7,.tok acc.length 7]∧u6 x.g q 0∧a0o 1 7 (acc.map O.g) v∧m8 o=(m8 x).map (acc ++ ·)∧acc.length+x.size≤o.size) (fun p=>p.1.size) (o,[]) ⟨o,[],_,_,rfl,rfl,rfl,aS,.b rfl,by simp,by simp⟩ (show o.size < x8 by simp only [x8];omega) ?_
 rintro self _ _ _ ⟨x,acc,v,q,rfl,rfl,rfl,hq,htok,hit,hsz⟩ ih
 have hpos:=x.size_pos
 (refine Zq ?_;intros)
 refine f6 hc x (r:=.c (.b x.isCo)) rfl (.k (oV aS) .nil) .nil fun _ _ _ _=>?_
 (refine Zq ?_;with_reducible repeat' first|intro _|apply aI)
 ·cases x with
  | co a d =>
   have hq:u6 [.i .i64 4,.s [],.s [],.s [],.s [],.s [],.l ([a,d].map O.g)] q 0:=hq
   have hs:(O.co a d).size=1+a.size+d.size:=rfl
   rw [hs] at hsz
   have hl2:([a,d]:List O).length=2:=rfl
   (refine Zq ?_;intros)
   refine T6 (xs:=acc.map O.g) (n:=7) (off:=0) aS (fun _=>a5r (by rw [O.g_len];decide) aS) (O.g_len _) (by simp) (by simp;omega) fun _ _=>?_
   (refine Zq ?_;intros)
   refine ih (d,acc ++ [a]) _ _ ⟨d,acc ++ [a],_,_,rfl,rfl,by rw [List.length_append];rfl,aS,.a _ _ (by simp) (by rw [List.map_append];assumption),?_,by simp;omega⟩ (by show d.size < 1+a.size+d.size;omega)
   rw [hit]
   simp only [m8,Option.map_map]
   congr 1
   funext l
   simp
  | _=>exact absurd ‹_› (by simp [O.isCo])
 ·refine f6 hn x (r:=.c (.b (O.eqb x A5))) rfl (.k (oV aS) .nil) .nil fun _ _ _ _=>?_
  (refine Zq ?_;with_reducible repeat' first|intro _|apply aI)
  ·have e:x=A5:=O.eqb_t.1 ‹_›
   subst e
   have e2:m8 o=some acc:=by rw [hit];simp [m8,A5]
   unfold J1
   rw [e2]
   exact g9 ⟨.ret _ _ (.t _ _ (.k (.sl _ _ _ _ _ (by simp) aS) (.k (.kn _) .nil))),.nil⟩
  ·have e2:m8 o=none:=by
    rw [hit,b5w (by simpa using ‹¬x.isCo=true›) (by simpa using ‹¬O.eqb x A5=true›)];rfl
   unfold J1
   rw [e2]
   exact g9 ⟨.ret _ _ (.t _ _ (.k (.sl0 _ _ _) (.k (.kn _) .nil))),.nil⟩
theorem c3j:j3 64 (b8t P1):=k7 (fun fn h=>f0w h) [(70,_),(21,_),(20,_),(18,_)] (.cons c76 (.cons b50 (.cons b2m (.cons d3r .nil)))) fun U fn hfn ⟨o,hz⟩ vs bs hv hb=>by
 have hit:=hfn 70 _ rfl
 have hli:=hfn 21 _ rfl
 have hsy:=hfn 20 _ rfl
 have heq:=hfn 18 _ rfl
 have hz:o.size < 90000:=hz
 have hv:j5 [.a o.g] vs:=hv
 have hb:RBs [] bs:=hb
 show g7 U _ fun v bs'=>j6 (.ret (P1 o)) v∧RBs [] bs'
 unfold r64
 (refine Zy ?_;intros)
 refine M5 aS o.g_len fun q0 hq0=>?_
 (refine Zy ?_;with_reducible repeat' first|intro _|apply aI)
 cases hi:m8 o with
 | none =>
  refine f6 hit ⟨o,hz⟩ (r:=.t [.sl 7 [],.c (.b false)]) (by show n6.ret (J1 o)=_;unfold J1;rw [hi]) (.k (oV aS) .nil) .nil fun _ _ _ _=>?_
  (refine Zq ?_;intros)
  exact a09 (c49 hi)
 | some l =>
  refine f6 hit ⟨o,hz⟩ (r:=.t [.sl 7 (l.map O.g),.c (.b true)]) (by show n6.ret (J1 o)=_;unfold J1;rw [hi]) (.k (oV aS) .nil) .nil fun _ _ _ _=>?_
  (refine Zq ?_;with_reducible repeat' first|intro _|apply aI)
  ·have hl:l.length=2:=oM
   have h2:=c0n hi hl
   refine f6 hli ([113,117,111,116,101]:f5) (r:=.a (sg (u0,[113,117,111,116,101]))) rfl (.k (.s _ _ _ rfl dE) .nil) .nil fun _ _ hv3 _=>?_
   have hv3:RV (.a [.s u0,.s [113,117,111,116,101]]) _:=hv3
   (refine Zq ?_;intros)
   refine f6 hsy (u0,[113,117,111,116,101]) (r:=.a z7.g) rfl (.k (.a _ _ _ rfl aS) .nil) .nil fun _ _ _ _=>?_
   (refine Zq ?_;intros)
   refine f6 heq (l[0]'oM,z7) (r:=.c (.b (O.eqb (l[0]'oM) z7))) rfl (.k (oV aS) (.k (oV aS) .nil)) .nil fun _ _ _ _=>?_
   (refine Zq ?_;with_reducible repeat' first|intro _|apply aI)
   ·rw [if_pos ‹O.eqb _ z7=true›] at h2
    unfold P1
    rw [h2]
    exact g9 ⟨.ret _ _ (.t _ _ (.k (oV aS) (.k (.kn _) .nil))),.nil⟩
   ·rw [if_neg ‹¬O.eqb _ z7=true›] at h2
    exact a09 h2
  ·exact a09 (c0m hi oM)
theorem c28 {L:List Pk} {o:O} (h:¬o.k=2):t8 L o=o.ps.all (t8 L):=by
 cases o with
 | sy s=>exact absurd rfl h
 | co a d=>show (t8 L a && t8 L d)=_;simp [O.ps]
 | _=>rfl
theorem ps_size {o x:O} (h:x ∈ o.ps):x.size < o.size:=by
 cases o with
 | co a d =>
  have h:x=a∨x=d:=by simpa [O.ps] using h
  show x.size < 1+a.size+d.size
  rcases h with rfl | rfl <;> omega
 | _=>cases h
theorem e3e:j3 30 (d11 okZ hmG):=R3 (fun p=>p.1.2.size) fun n ih=>k7 (fun fn h=>e9g h) [(30,(d11 okZ hmG).lt _ n),(60,_)] (.cons ih (.cons c3g .nil)) fun U fn hfn ⟨⟨(L,o),hL,hz⟩,hn⟩ vs bs hv hb=>by
 have hr:=hfn 30 _ rfl
 have hh:=hfn 60 _ rfl
 have hL:F1 L:=hL
 have hz:o.size < 90000:=hz
 have hn:o.size < n+1:=hn
 have hv:j5 [.sl 2 (L.map pg),.a o.g] vs:=hv
 have hb:RBs [] bs:=hb
 show g7 U _ fun v bs'=>j6 (.ret (.c (.b (t8 L o)))) v∧RBs [] bs'
 unfold r30
 (refine Zy ?_;intros)
 refine M5 aS o.g_len fun q0 hq0=>?_
 rw [o.g_eq] at hq0
 (refine Zz ?_;with_reducible repeat' first|intro _|apply aI)
 ·have h2:=‹o.k=2›
  cases o with
  | sy s =>
   refine f6 hh ⟨(L,s),hL⟩ (r:=.c (.b (F6 L s))) rfl (.k (.sl _ _ _ _ _ (by simp) aS) (.k (c43 (gs:=List.drop 3 _) aS (by rfl) rfl) .nil)) .nil fun _ _ _ _=>?_
   (refine Zq ?_;intros)
   exact g9 ⟨.ret _ _ (.b _),.nil⟩
  | _=>simp [O.k] at h2
 ·have h2:=‹¬o.k=2›
  rw [← o.g_eq] at hq0
  refine E1 (fun (i:Nat) vs bs=>∃ (t:i7 Q) (k m:Nat) (q:Q),vs=[.slice t 2 k m .no,.ptr 0 0,.int .i64 i]∧bs=[.opa q 7]∧m=L.length∧m7 2 (L.map pg) t k∧u6 o.g q 0∧i≤o.ps.length∧∀ j (hj:j < o.ps.length),j < i→t8 L o.ps[j]=true) (fun i=>o.ps.length - i) 0 ⟨_,_,_,_,rfl,rfl,by simp,aS,hq0,Nat.zero_le _,fun j _ h=>absurd h (Nat.not_lt_zero _)⟩ (by have:=o.ps_le;simp only [x8];omega) ?_
  rintro self i _ _ ⟨t,k,m,q,rfl,rfl,rfl,ht,hq,hi,hall⟩ ih
  have hps:=o.ps_le
  have hq':=hq
  rw [o.g_eq] at hq'
  clear hq
  (refine Zz ?_;with_reducible repeat' first|intro _|apply aI)
  ·have hlt:i < o.ps.length:=oM
   have hsz:=ps_size (List.getElem_mem hlt)
   refine f6 hr ⟨⟨(L,o.ps[i]),hL,by show (o.ps[i]).size < 90000;omega⟩,by show (o.ps[i]).size < n;omega⟩ (r:=.c (.b (t8 L o.ps[i]))) rfl (.k (.sl _ _ _ _ _ (by simp) aS) (.k (oV aS) .nil)) .nil fun _ _ _ _=>?_
   (refine Zz ?_;with_reducible repeat' first|intro _|apply aI)
   ·have hi1:t8 L o.ps[i]=true:=‹_›
    rw [← o.g_eq] at hq'
    refine ih (i+1) _ _ ⟨t,k,_,q,rfl,rfl,rfl,ht,hq',oM,fun j hj hji=>?_⟩ oM
    by_cases e:j=i
    ·subst e;exact hi1
    ·exact hall j hj oM
   ·have hi1:t8 L o.ps[i]=false:=by simpa using ‹¬t8 L o.ps[i]=true›
    have:t8 L o=false:=by
     rw [c28 h2,List.all_eq_false]
     exact ⟨_,List.getElem_mem hlt,by simp [hi1]⟩
    rw [this]
    exact g9 ⟨.ret _ _ (.kn _),.nil⟩
  ·have:t8 L o=true:=by
    rw [c28 h2,List.all_eq_true]
    intro x hx
    obtain ⟨j,hj,rfl⟩:=List.getElem_of_mem hx
    exact hall j hj oM
   rw [this]
   exact g9 ⟨.ret _ _ (.kn _),.nil⟩
open Classical in
theorem d3y:j3 31 (b8s okT txG):=R3 (fun p=>p.1.2.2.size) fun n ih=>k7 (fun fn h=>e9i h) [(31,(b8s okT txG).lt _ n),(62,_),(63,_),(64,_),(65,_),(66,_)] (.cons ih (.cons e09 (.cons e7h (.cons c3j (.cons c74 (.cons d3t .nil)))))) fun U fn hfn ⟨⟨(L,cur,o),hL,hok,h3⟩,hn⟩ vs bs hv hb=>by
 have hr:=hfn 31 _ rfl
 have hes:=hfn 62 _ rfl
 have hnm:=hfn 63 _ rfl
 have hqu:=hfn 64 _ rfl
 have hic:=hfn 65 _ rfl
 have hin:=hfn 66 _ rfl
 have hL:F1 L:=hL
 have hok:W7 o:=hok
 have h3:o.size≤3000:=h3
 have hn:o.size < n+1:=hn
 have hv:j5 [.sl 2 (L.map pg),.c (.s cur),.a o.g] vs:=hv
 have hb:RBs [] bs:=hb
 show g7 U _ fun v bs'=>j6 (.ret (.c (.s (o8 L cur o)))) v∧RBs [] bs'
 unfold r31
 (refine Zy ?_;intros)
 refine M5 aS o.g_len fun q0 hq0=>?_
 cases o with
 | no=>exact hok.elim
 | num m d =>
  have l1:=hok.2.2.1
  have l2:=hok.2.2.2
  have hq0:u6 [.i .i64 1,.s (f9 m),.s (f8 d),.s [],.s [],.s [],.l []] q0 0:=hq0
  rw [c5j]
  (refine Zz ?_;with_reducible repeat' first|intro _|apply aI)
  ·rw [if_pos (by rw [show f8 d=[49] from ‹_›];rfl)]
   exact g9 ⟨.ret _ _ (.q _ _ aS),.nil⟩
  ·rw [if_neg (fun e=>absurd (eq_of_beq e) ‹_›)]
   refine T7 (x:=f9 m) (y:=[47]) rfl rfl rfl ?_
   (refine Zz ?_;intros)
   refine T7 (x:=f9 m ++ [47]) (y:=f8 d) (by simp) rfl rfl ?_
   exact g9 ⟨.ret _ _ (.s _ _ _ (by simp;omega) rfl),.nil⟩
 | tx t =>
  have hl:t.length≤200:=hok
  have hq0:u6 [.i .i64 3,.s [],.s [],.s [],.s [],.s t,.l []] q0 0:=hq0
  (refine Zz ?_;intros)
  refine f6 hes ⟨(t,34),by show t.length < 90000;omega,.inl rfl⟩ (r:=.c (.s (D8 34 t))) rfl (.k (.q _ _ aS) (.k (.i _ _) .nil)) .nil fun _ _ _ _=>?_
  (refine Zz ?_;intros)
  exact g9 ⟨.ret _ _ (.s _ _ _ rfl rfl),.nil⟩
 | sy s =>
  have b1:=a0v (s:=s) hok
  have b2:=a9c (s:=s) hok
  have hq0:u6 [.i .i64 2,.s [],.s [],.s s.1,.s s.2,.s [],.l []] q0 0:=hq0
  (refine Zz ?_;intros)
  refine f6 hnm ⟨(L,cur,s),hL,by show s.1.length < 90000;omega,by show s.2.length < 90000;omega⟩ (r:=.t [.c (.s (H9 L cur s).1),.c (.i .i64 (H9 L cur s).2)]) rfl (.k (.sl _ _ _ _ _ (by simp) aS) (.k (.s _ _ _ rfl rfl) (.k (c43 (gs:=List.drop 3 _) aS (by rfl) rfl) .nil))) .nil fun _ _ _ _=>?_
  (refine Zz ?_;intros)
  exact g9 ⟨.ret _ _ (.s _ _ _ rfl rfl),.nil⟩
 | co a d =>
  have hq1:=hq0
  have hq0:u6 [.i .i64 4,.s [],.s [],.s [],.s [],.s [],.l ([a,d].map O.g)] q0 0:=hq0
  have hTl:2 * (o8 L cur (.co a d)).length≤415 * ((O.co a d).size+1):=(Z0 hok).1
  (refine Zz ?_;intros)
  have hos:(O.co a d).size=1+a.size+d.size:=rfl
  cases hsh:A7 (.co a d) with
  | some x =>
   have hxlt:x.size < (O.co a d).size:=by rw [R0.1 hsh];simp [O.size];omega
   have hokx:W7 x:=by rw [R0.1 hsh] at hok;exact hok.2.1
   have hTx:=a6q (L:=L) (cur:=cur) hsh
   have hxb:=(Z0 (L:=L) (cur:=cur) hokx).1
   refine f6 hqu ⟨.co a d,by show (O.co a d).size < 90000;omega⟩ (r:=.t [.a x.g,.c (.b true)]) (by show n6.ret (P1 _)=_;unfold P1;rw [hsh]) (.k (.a _ _ _ rfl aS) .nil) .nil fun _ _ _ _=>?_
   (refine Zz ?_;intros)
   refine M5 aS (O.g_len _) fun q1 hq1=>?_
   (refine Zz ?_;intros)
   refine f6 hr ⟨⟨(L,cur,x),hL,hokx,by show x.size≤3000;omega⟩,by show x.size < n;omega⟩ (r:=.c (.s (o8 L cur x))) rfl (.k (.sl _ _ _ _ _ (by simp) aS) (.k (.s _ _ _ rfl rfl) (.k (oV aS) .nil))) .nil fun _ _ _ _=>?_
   (refine Zz ?_;intros)
   rw [hTx]
   refine T7 (x:=[39]) (y:=o8 L cur x) rfl rfl rfl ?_
   exact g9 ⟨.ret _ _ (.s _ _ _ (by simp;omega) rfl),.nil⟩
  | none =>
   have hTn:=a6p (L:=L) (cur:=cur) hsh
   generalize hT:o8 L cur (.co a d)=T at hTl hTn
   refine f6 hqu ⟨.co a d,by show (O.co a d).size < 90000;omega⟩ (r:=.t [.a O.no.g,.c (.b false)]) (by show n6.ret (P1 _)=_;unfold P1;rw [hsh]) (.k (.a _ _ _ rfl aS) .nil) .nil fun _ _ _ _=>?_
   (refine Zz ?_;intros)
   refine E1 (fun (x:O) vs bs=>∃ (t:i7 Q) (k m:Nat) (q:Q) (acc:f5) (i:Nat),vs=[.slice t 2 k m .no,.str cur.length (j9 cur),.ptr 0 0,.str acc.length (j9 acc),.int .i64 i]∧bs=[.opa q 7]∧m=L.length∧m7 2 (L.map pg) t k∧u6 x.g q 0∧acc ++ b2v L cur (if i=0 then [] else [32]) x=T∧(x=.co a d∨x.size < (O.co a d).size)∧(i=0→x=.co a d)∧W7 x∧i+x.size≤3001) (fun x=>x.size) (.co a d) ⟨_,_,_,_,[40],0,rfl,rfl,by first | rfl | simp,aS,hq1,by rw [hTn];rfl,.inl rfl,fun _=>rfl,hok,oM⟩ (by simp only [x8];omega) ?_
   rintro self x _ _ ⟨t,k,m,q,acc,i,rfl,rfl,rfl,ht,hq,heq,hx,hi0,hokx,hik⟩ ih
   have hxle:x.size≤(O.co a d).size:=by rcases hx with rfl | h <;> omega
   have hTl2:T.length < 1000000:=oM
   (refine Zz ?_;intros)
   refine f6 hic x (r:=.c (.b x.isCo)) rfl (.k (oV aS) .nil) .nil fun _ _ _ _=>?_
   (refine Zy ?_;with_reducible repeat' first|intro _|apply aI)
   ·obtain ⟨a',d',rfl⟩:∃ a' d',x=.co a' d':=by
     have hco:=‹x.isCo=true›
     cases x <;> first | exact ⟨_,_,rfl⟩ | cases hco
    have hsz:(O.co a' d').size=1+a'.size+d'.size:=rfl
    have hpd:=d'.size_pos
    have heq:acc ++ ((if i=0 then [] else [32]) ++ (o8 L cur a' ++ (pT L cur d').2.1))=T:=heq
    have hsp:=c89 L cur d'
    generalize hR:o8 L cur a'=R at heq
    generalize (pT L cur d').2.1=Y at heq hsp
    have hlen:acc.length+((if i=0 then ([]:f5) else [32]).length+(R.length+Y.length))=T.length:=by rw [← heq];simp
    refine R6 (fun vs bs=>∃ acc2:f5,vs=[.slice t 2 k L.length .no,.str cur.length (j9 cur),.ptr 0 0,.str acc2.length (j9 acc2),.int .i64 i]∧bs=[.opa q 7]∧acc2=acc ++ (if i=0 then [] else [32])) ?_ ?_
    ·rintro _ _ ⟨acc2,rfl,rfl,ha2⟩
     have heq2:acc2 ++ (R ++ Y)=T:=by rw [ha2,← heq];simp
     have hl2:acc2.length+(R.length+Y.length)=T.length:=by rw [← heq2];simp
     have hq:u6 [.i .i64 4,.s [],.s [],.s [],.s [],.s [],.l ([a',d'].map O.g)] q 0:=hq
     have hl9:([a',d']:List O).length=2:=rfl
     (refine Zz ?_;intros)
     refine f6 hr ⟨⟨(L,cur,a'),hL,hokx.1,by show a'.size≤3000;omega⟩,by show a'.size < n;omega⟩ (r:=.c (.s R)) (by show n6.ret (.c (.s (o8 L cur a')))=_;rw [hR]) (.k (.sl _ _ _ _ _ (by simp) aS) (.k (.s _ _ _ rfl rfl) (.k (oV aS) .nil))) .nil fun _ _ _ _=>?_
     (refine Zz ?_;intros)
     refine T7 (x:=acc2) (y:=R) rfl rfl rfl ?_
     (refine Zz ?_;intros)
     refine ih d' _ _ ⟨_,_,_,_,acc2 ++ R,i+1,?_,rfl,rfl,aS,aS,?_,.inr oM,fun h=>absurd h oM,hokx.2,oM⟩ oM
     ·simp
     ·rw [if_neg oM,hsp,← heq2];simp
    ·intro c hc
     (refine Zz ?_;with_reducible repeat' first|intro _|apply aI)
     ·refine T7 (x:=acc) (y:=[32]) rfl rfl rfl ?_
      exact hc _ _ ⟨acc ++ [32],by simp,rfl,by rw [if_neg oM]⟩
     ·exact hc _ _ ⟨acc,rfl,rfl,by rw [if_pos oM];simp⟩
   ·have hco:x.isCo=false:=by simpa using ‹¬x.isCo=true›
    have hxlt:x.size < (O.co a d).size:=by
     rcases hx with rfl | h
     ·cases hco
     ·exact h
    rw [c88 hco] at heq
    refine R6 (fun vs bs=>∃ acc2:f5,vs=[.str acc2.length (j9 acc2)]∧bs=[]∧acc2 ++ [41]=T) ?_ ?_
    ·rintro _ _ ⟨acc2,rfl,rfl,ha2⟩
     have hl2:acc2.length+1=T.length:=by rw [← ha2];simp
     (refine Zz ?_;intros)
     refine T7 (x:=acc2) (y:=[41]) rfl rfl rfl ?_
     rw [ha2]
     exact g9 ⟨.ret _ _ (.s _ _ _ oM rfl),.nil⟩
    ·intro c hc
     (refine Zz ?_;intros)
     refine f6 hin x (r:=.c (.b (O.eqb x A5))) rfl (.k (oV aS) .nil) .nil fun _ _ _ _=>?_
     (refine Zz ?_;with_reducible repeat' first|intro _|apply aI)
     ·rw [if_pos (O.eqb_t.1 ‹O.eqb x A5=true›)] at heq
      exact hc _ _ ⟨acc,rfl,rfl,heq⟩
     ·rw [if_neg fun e=>‹¬O.eqb x A5=true› (O.eqb_t.2 e)] at heq
      generalize hR:o8 L cur x=R at heq
      have hlen:acc.length+(R.length+4)=T.length:=by rw [← heq];simp
      refine f6 hr ⟨⟨(L,cur,x),hL,hokx,by show x.size≤3000;omega⟩,by show x.size < n;omega⟩ (r:=.c (.s R)) (by show n6.ret (.c (.s (o8 L cur x)))=_;rw [hR]) (.k (.sl _ _ _ _ _ (by simp) aS) (.k (.s _ _ _ rfl rfl) (.k (oV aS) .nil))) .nil fun _ _ _ _=>?_
      (refine Zz ?_;intros)
      refine T7 (x:=[32,46,32]) (y:=R) rfl dE rfl ?_
      (refine Zz ?_;intros)
      refine T7 (x:=acc) (y:=[32,46,32] ++ R) rfl rfl rfl ?_
      exact hc _ _ ⟨acc ++ ([32,46,32] ++ R),by simp;omega,rfl,by rw [← heq];simp⟩
theorem e3p:j3 10 (b8s okV prG):=k7 (fun fn h=>e8k h) [(28,_),(29,_),(30,_),(31,_)] (.cons e3u (.cons b5z (.cons e3e (.cons d3y .nil)))) fun U fn hfn ⟨(L,cur,o),hL,ho⟩ vs bs hv hb=>by
 have hva:=hfn 28 _ rfl
 have hfi:=hfn 29 _ rfl
 have hho:=hfn 30 _ rfl
 have htx:=hfn 31 _ rfl
 have hL:F1 L:=hL
 have ho:okV o:=ho
 have hv:j5 [.sl 2 (L.map pg),.c (.s cur),.a o.g] vs:=hv
 have hb:RBs [] bs:=hb
 show g7 U _ fun v bs'=>j6 (.ret (prG L cur o)) v∧RBs [] bs'
 unfold r10
 (refine Zy ?_;intros)
 refine M5 aS o.g_len fun q0 hq0=>?_
 (refine Zy ?_;intros)
 refine f6 hva ⟨o,ho⟩ (r:=.c (.b true)) rfl (.k (oV aS) .nil) .nil fun _ _ _ _=>?_
 (refine Zz ?_;intros)
 unfold prG
 cases hf:B0 L cur with
 | none =>
  have e:x7 L cur o=([],13):=by unfold x7;rw [if_pos (.inl hf)]
  rw [e]
  refine f6 hfi ⟨(L,cur),hL⟩ (r:=.t [.a [.s [],.l []],.c (.b false)]) (by show n6.ret (E2 L cur)=_;rw [a6b hf]) (.k (.sl _ _ _ _ _ (by simp) aS) j4) .nil fun _ _ _ _=>?_
  (refine Zq ?_;intros)
  exact g9 ⟨.ret _ _ j4,.nil⟩
 | some p =>
  refine f6 hfi ⟨(L,cur),hL⟩ (r:=.t [.a (pg p),.c (.b true)]) (by show n6.ret (E2 L cur)=_;rw [a6c hf]) (.k (.sl _ _ _ _ _ (by simp) aS) j4) .nil fun _ _ hv9 _=>?_
  have hv9:RV (.t [.a [.s p.1,.l (p.2.map sg)],.c (.b true)]) _:=hv9
  (refine Zq ?_;intros)
  refine f6 hho ⟨(L,o),hL,by show o.size < 90000;have:=ho.size;omega⟩ (r:=.c (.b (t8 L o))) rfl (.k (.sl _ _ _ _ _ (by simp) aS) (.k (oV aS) .nil)) .nil fun _ _ _ _=>?_
  (refine Zq ?_;with_reducible repeat' first|intro _|apply aI)
  ·have hh:t8 L o=true:=‹_›
   have e:x7 L cur o=(o8 L cur o,0):=by unfold x7;rw [if_neg (by rw [hf,hh];simp)]
   rw [e]
   refine f6 htx ⟨(L,cur,o),hL,a9f (b6e ho hh),ho.size⟩ (r:=.c (.s (o8 L cur o))) rfl (.k (.sl _ _ _ _ _ (by simp) aS) (.k (.s _ _ _ rfl rfl) (.k (oV aS) .nil))) .nil fun _ _ _ _=>?_
   (refine Zq ?_;intros)
   exact g9 ⟨.ret _ _ j4,.nil⟩
  ·have e:x7 L cur o=([],13):=by unfold x7;rw [if_pos (.inr (by simpa using ‹¬t8 L o=true›))]
   rw [e]
   exact g9 ⟨.ret _ _ j4,.nil⟩
end
end Go.Proofs.YtdldcfllnohkeaaGreatDoor
