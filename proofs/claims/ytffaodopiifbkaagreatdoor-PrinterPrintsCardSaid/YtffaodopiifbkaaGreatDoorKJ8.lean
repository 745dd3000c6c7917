/- The reference's printer: escaped, word, Name, homes, quoted. -/
import Derived.Test.YtffaodopiifbkaaGreatDoorKJ1
import Derived.Test.YtffaodopiifbkaaGreatDoorKJ7
set_option linter.all false
namespace Go.Proofs.YtffaodopiifbkaaGreatDoor
open Go.Abs LQ
set_option maxRecDepth 100000
set_option maxHeartbeats 8000000
noncomputable section
def f4v:Sp where
 ι:={ p:f4 × UInt8 // p.1.length < 90000∧(p.2=34∨p.2=124) }
 A p:=[.c (.s p.1.1),.c (.i .u8 (p.1.2.toNat:Int))]
 B _:=[]
 R p:=.ret (.c (.s (D1 p.1.2 p.1.1)))
 B' _:=[]
 inj i j vs bs h k _ _:=by
  obtain ⟨_,_,h1,k1,h,k⟩:=h.two k
  obtain ⟨_,_,h2,k2,h,k⟩:=h.two k
  have e2:=a1q h2 k2
  rw [F2 h1 k1,UInt8.toNat_inj.1 (show i.1.2.toNat=j.1.2.toNat by omega)];exact ⟨rfl,rfl⟩
theorem d1c {s:f4} {i:Nat} (h:i < s.length):s.take (i+1)=s.take i ++ [s.getD i 0]:=by
 rw [List.take_add_one]
 simp [List.getD,List.getElem?_eq_getElem h]
theorem b8i (c:UInt8) {s:f4} {i:Nat} (h:i < s.length):E9 c (s.take (i+1))=E9 c (s.take i) ++ (if s.getD i 0=c∨s.getD i 0=92 then [92,s.getD i 0] else [s.getD i 0]):=by
 rw [d1c h]
 unfold E9
 rw [List.flatMap_append,List.flatMap_singleton]
theorem e06:j5 110 f4v:=k8 (fun fn h=>e4j h) [] .nil fun U fn hfn ⟨(s,c),hs,hc⟩ vs bs hv hb=>by
 have hs:s.length < 90000:=hs
 have hv:j6 [.c (.s s),.c (.i .u8 (c.toNat:Int))] vs:=hv
 have hb:g9 [] bs:=hb
 show g8 U _ fun v bs'=>j7 (.ret (.c (.s (D1 c s)))) v∧g9 [] bs'
 unfold d6b
 (refine Zq ?_;intros)
 refine D3 (fun (i:Nat) vs bs=>∃ (v:V) (acc:f4),vs=[.str s.length (j9 s),.int .u8 (c.toNat:Int),.int .i64 i,v]∧bs=[.tok acc.length 1]∧a0m 0 1 (acc.map bg) v∧i≤s.length∧acc=c :: E9 c (s.take i)) (fun i=>s.length - i) 0 ⟨_,[c],rfl,rfl,.a _ 1 rfl (.cons 1 _ _ _ _ rfl (E2 (.i _ _)).1 (E2 (.i _ _)).2 (.nil _ _ _)),Nat.zero_le _,by simp [E9]⟩ (by simp only [v8];omega) ?_
 rintro self i _ _ ⟨v,acc,rfl,rfl,ht,hi,ha⟩ ih
 have hal:acc.length≤2 * i+1:=by
  have:=c6f c (s.take i)
  rw [ha,List.length_cons]
  rw [List.length_take] at this
  omega
 have hbt:((s.getD i 0).toNat:Int)=bt s i:=rfl
 have two:i < s.length→(bt s i=(c.toNat:Int)∨bt s i=92)→acc ++ [92,s.getD i 0]=c :: E9 c (s.take (i+1)):=fun h k=>by
  rw [b8i c h,if_pos,ha];rfl
  rcases k with k | k
  ·exact .inl (UInt8.toNat_inj.1 (by rw [← hbt] at k;omega))
  ·exact .inr (UInt8.toNat_inj.1 (by rw [← hbt] at k;show _=92;omega))
 have one:i < s.length→¬bt s i=(c.toNat:Int)→¬bt s i=92→acc ++ [s.getD i 0]=c :: E9 c (s.take (i+1)):=fun h k1 k2=>by
  rw [b8i c h,if_neg,ha];rfl
  rintro (e | e)
  ·exact k1 (by rw [← hbt,e])
  ·exact k2 (by rw [← hbt,e];rfl)
 (refine Zq ?_;with_reducible repeat' first|intro _|apply aI)
 ·have hk:bt s i=(c.toNat:Int):=‹_›
  refine S3 (xs:=acc.map bg) (r:=bg 92) aS (fun _=>E2 (.i _ _)) rfl (by simp) (by simp;omega) fun _ _=>?_
  (refine Zq ?_;intros)
  refine S3 (xs:=acc.map bg ++ [bg 92]) (r:=bg (s.getD i 0)) aS (fun _=>E2 (.i _ _)) rfl (by simp) (by simp;omega) fun t9 h9=>?_
  (refine Zq ?_;intros)
  refine ih (i+1) _ _ ⟨.slice t9 1 0 (acc.length+1+1) (.tok 0),acc ++ [92,s.getD i 0],rfl,by simp,.a _ _ (by simp) (by rw [show (acc ++ [92,s.getD i 0]).map bg=acc.map bg ++ [bg 92] ++ [bg (s.getD i 0)] by simp];exact h9),oM,two oM (.inl hk)⟩ oM
 ·have hk:bt s i=92:=‹_›
  refine S3 (xs:=acc.map bg) (r:=bg 92) aS (fun _=>E2 (.i _ _)) rfl (by simp) (by simp;omega) fun _ _=>?_
  (refine Zq ?_;intros)
  refine S3 (xs:=acc.map bg ++ [bg 92]) (r:=bg (s.getD i 0)) aS (fun _=>E2 (.i _ _)) rfl (by simp) (by simp;omega) fun t9 h9=>?_
  (refine Zq ?_;intros)
  refine ih (i+1) _ _ ⟨.slice t9 1 0 (acc.length+1+1) (.tok 0),acc ++ [92,s.getD i 0],rfl,by simp,.a _ _ (by simp) (by rw [show (acc ++ [92,s.getD i 0]).map bg=acc.map bg ++ [bg 92] ++ [bg (s.getD i 0)] by simp];exact h9),oM,two oM (.inr hk)⟩ oM
 ·have k1:¬bt s i=(c.toNat:Int):=‹_›
  have k2:¬bt s i=92:=‹_›
  refine S3 (xs:=acc.map bg) (r:=bg (s.getD i 0)) aS (fun _=>E2 (.i _ _)) rfl (by simp) (by simp;omega) fun t9 h9=>?_
  (refine Zq ?_;intros)
  refine ih (i+1) _ _ ⟨.slice t9 1 0 (acc.length+1) (.tok 0),acc ++ [s.getD i 0],rfl,by simp,.a _ _ (by simp) (by rw [List.map_append];exact h9),oM,one oM k1 k2⟩ oM
 ·have hi9:i=s.length:=oM
  rw [hi9,List.take_length] at ha
  have e:D1 c s=acc ++ [c]:=by unfold D1;rw [ha];rfl
  rw [e]
  refine S3 (xs:=acc.map bg) (r:=bg c) aS (fun _=>E2 (.i _ _)) rfl (by simp) (by simp;omega) fun t9 h9=>?_
  (refine Zq ?_;intros)
  refine sBT (ys:=acc ++ [c]) (by rw [List.map_append];exact h9) (by simp) ?_
  exact i6 ⟨.ret _ _ (.s _ _ _ (by simp) rfl),.nil⟩
theorem d8f {a b:Bool} {v:V} (h:RV (.c (.b a)) v) (k:RV (.c (.b b)) v):a=b:=G.b.inj (h.c_inj k)
def f2o:Sp where
 ι:={ p:f4 × Bool // p.1.length < 90000 }
 A p:=[.c (.s p.1.1),.c (.b p.1.2)]
 B _:=[]
 R p:=.ret (.c (.s (C8 p.1.1 p.1.2)))
 B' _:=[]
 inj i j vs bs h k _ _:=by
  obtain ⟨_,_,h1,k1,h,k⟩:=h.two k
  obtain ⟨_,_,h2,k2,h,k⟩:=h.two k
  rw [F2 h1 k1,d8f h2 k2];exact ⟨rfl,rfl⟩
theorem e90:j5 68 f2o:=k8 (fun fn h=>f1j h) [(110,_),(98,_),(109,_)] (.cons e06 (.cons d1u (.cons d0a .nil))) fun U fn hfn ⟨(s,q),hs⟩ vs bs hv hb=>by
 have hes:=hfn 110 _ rfl
 have hco:=hfn 98 _ rfl
 have hnu:=hfn 109 _ rfl
 have hs:s.length < 90000:=hs
 have hv:j6 [.c (.s s),.c (.b q)] vs:=hv
 have hb:g9 [] bs:=hb
 show g8 U _ fun v bs'=>j7 (.ret (.c (.s (C8 s q)))) v∧g9 [] bs'
 unfold r68
 (refine Zy ?_;intros)
 refine D3 (fun (i:Nat) vs bs=>∃ (b:Bool) (v vq:V),vs=[.str s.length (j9 s),vq,v,.int .i64 i]∧bs=[]∧RV (.c (.b b)) v∧RV (.c (.b q)) vq∧i≤s.length∧(U=CU→(b=true↔(s ≠ []∧∀ j,j < i→r8 (bt s j)=true)))) (fun i=>s.length - i) 0 ⟨_,_,_,rfl,rfl,.b _,.b _,Nat.zero_le _,fun e=>?_⟩ (by simp only [v8];omega) ?_
 ·subst e
  rw [b0w,decide_eq_true_iff]
  constructor
  ·intro h;exact ⟨fun e=>by subst e;simp at h,fun j hj=>absurd hj (Nat.not_lt_zero _)⟩
  ·rintro ⟨h,_⟩
   have:s.length ≠ 0:=fun e=>h (List.eq_nil_of_length_eq_zero e)
   omega
 rintro self i _ _ ⟨b,v,vq,rfl,rfl,hvb,hvq,hi,hbe⟩ ih
 (refine Zy ?_;with_reducible repeat' first|intro _|apply aI)
 ·refine L2 (fun vs bs=>∃ (b':Bool) (v vq:V),vs=[.str s.length (j9 s),vq,v,.int .i64 i]∧bs=[]∧RV (.c (.b b')) v∧RV (.c (.b q)) vq∧(U=CU→(b'=true↔(b=true∧r8 (bt s i)=true)))) ?_ ?_
  ·rintro _ _ ⟨b',v,vq,rfl,rfl,hvb',hvq',hb'⟩
   (refine Zy ?_;intros)
   refine ih (i+1) _ _ ⟨b',_,_,by simp,rfl,.b _,.b _,oM,fun e=>?_⟩ oM
   rw [hb' e,hbe e]
   constructor
   ·rintro ⟨⟨h1,h2⟩,h3⟩
    refine ⟨h1,fun j hj=>?_⟩
    by_cases e:j=i
    ·subst e;exact h3
    ·exact h2 j oM
   ·rintro ⟨h1,h2⟩
    exact ⟨⟨h1,fun j hj=>h2 j oM⟩,h2 i oM⟩
  ·intro c hc
   (refine Zy ?_;with_reducible repeat' first|intro _|apply aI)
   ·refine f5 hco (bt s i) (r:=.c (.b (r8 (bt s i)))) rfl (.k (.i _ _) .nil) .nil fun _ _ _ _=>?_
    (refine Zy ?_;intros)
    have hb1:=‹b=true›
    exact hc _ _ ⟨r8 (bt s i),_,_,rfl,rfl,.b _,.b _,fun _=>⟨fun h=>⟨hb1,h⟩,fun h=>h.2⟩⟩
   ·have hb1:=‹¬b=true›
    exact hc _ _ ⟨false,_,_,rfl,rfl,.kn _,.b _,fun _=>⟨fun h=>(by cases h),fun h=>absurd h.1 hb1⟩⟩
 ·have hsim:U=CU→(b=true↔K5 s=true):=fun e=>by
   rw [hbe e,a8i]
   have:i=s.length:=oM
   rw [this];exact Iff.rfl
  refine L2 (fun vs bs=>∃ (z:Bool) (v:V),vs=[.str s.length (j9 s),v]∧bs=[]∧RV (.c (.b z)) v∧(U=CU→(z=true↔(K5 s=false∨(q=false∧(s=[46]∨(m6 s).2.2=true)))))) ?_ ?_
  ·rintro _ _ ⟨z,v,rfl,rfl,hvz,hz⟩
   refine fun e=>?_
   have hz:=hz e
   have hw:C8 s q=if z=true then D1 124 s else s:=by
    unfold C8
    by_cases h:z=true
    ·rw [if_pos h,if_pos (hz.1 h)]
    ·rw [if_neg h,if_neg fun k=>h (hz.2 k)]
   refine (show g8 U _ _ from ?_) e
   rw [hw]
   (refine Zy ?_;with_reducible repeat' first|intro _|apply aI)
   ·rw [if_pos ‹z=true›]
    refine f5 hes ⟨(s,124),hs,.inr rfl⟩ (r:=.c (.s (D1 124 s))) rfl (.k (.s _ _ _ rfl rfl) (.k (.i _ _) .nil)) .nil fun _ _ _ _=>?_
    (refine Zy ?_;intros)
    exact i6 ⟨.ret _ _ (.s _ _ _ rfl rfl),.nil⟩
   ·rw [if_neg ‹¬z=true›]
    exact i6 ⟨.ret _ _ (.s _ _ _ rfl rfl),.nil⟩
  ·intro c hc
   (refine Zy ?_;with_reducible repeat' first|intro _|apply aI)
   ·have hb1:=‹b=true›
    have hq1:=‹q=true›
    refine hc _ _ ⟨false,_,rfl,rfl,.kn _,fun e=>⟨fun h=>(by cases h),?_⟩⟩
    rintro (h | ⟨h,_⟩)
    ·rw [(hsim e).1 hb1] at h;cases h
    ·rw [hq1] at h;cases h
   ·have hq1:q=false:=by simpa using ‹¬q=true›
    have h46:s=[46]:=‹s=k7 1 46›
    exact hc _ _ ⟨true,_,rfl,rfl,.kn _,fun _=>⟨fun _=>.inr ⟨hq1,.inl h46⟩,fun _=>rfl⟩⟩
   ·have hb1:=‹b=true›
    have hq1:q=false:=by simpa using ‹¬q=true›
    have h46:¬s=[46]:=‹¬s=k7 1 46›
    refine f5 hnu ⟨s,hs⟩ (r:=.c (.b (m6 s).2.2)) rfl (.k (.s _ _ _ rfl rfl) .nil) .nil fun _ _ _ _=>?_
    (refine Zy ?_;with_reducible repeat' first|intro _|apply aI)
    refine hc _ _ ⟨(m6 s).2.2,_,rfl,rfl,.b _,fun e=>⟨fun h=>.inr ⟨hq1,.inr h⟩,?_⟩⟩
    rintro (h | ⟨_,h | h⟩)
    ·rw [(hsim e).1 hb1] at h;cases h
    ·exact absurd h h46
    ·exact h
   ·have hb1:=‹¬b=true›
    refine hc _ _ ⟨true,_,rfl,rfl,.kn _,fun e=>⟨fun _=>.inl ?_,fun _=>rfl⟩⟩
    cases h:K5 s with
    | false=>rfl
    | true=>exact absurd ((hsim e).2 h) hb1
theorem d3k:j5 35 c90:=k8 (fun fn h=>e73 h) [(64,_),(65,_),(66,_),(67,_),(68,_)] (.cons c6e (.cons b4w (.cons c35 (.cons e0k (.cons e90 .nil))))) fun U fn hfn ⟨(L,cur,s),hL,hs1,hs2⟩ vs bs hv hb=>by
 have hva:=hfn 64 _ rfl
 have hfi:=hfn 65 _ rfl
 have hho:=hfn 66 _ rfl
 have hvi:=hfn 67 _ rfl
 have hwo:=hfn 68 _ rfl
 have hL:H7 L:=hL
 have hs1:s.1.length < 90000:=hs1
 have hs2:s.2.length < 90000:=hs2
 have hv:j6 [.sl 2 (L.map pg),.c (.s cur),.a [.s s.1,.s s.2]] vs:=hv
 have hb:g9 [] bs:=hb
 show g8 U _ fun v bs'=>j7 (.ret (a1r (G2 L cur s))) v∧g9 [] bs'
 unfold r35
 (refine Zy ?_;intros)
 refine f5 hva ⟨s,hs1,hs2⟩ (r:=.c (.b (named s))) rfl (.k (.a _ _ _ rfl aS) .nil) .nil fun _ _ _ _=>?_
 (refine Zy ?_;with_reducible repeat' first|intro _|apply aI)
 ·have hn:named s=true:=‹_›
  obtain ⟨nv,nl,n0⟩:=V8 hn
  have nnf:¬named s=false:=by rw [hn];simp
  have bad:(C1 L cur=none∨E6 L s=false)→g8 U (some (.ret (.tuple [.str 0 0,.int .i64 13]),[])) fun v bs'=>j7 (.ret (a1r (G2 L cur s))) v∧g9 [] bs':=fun h=>by
   unfold G2
   rw [if_neg nnf,if_pos h]
   exact i6 ⟨.ret _ _ j4,.nil⟩
  cases hf:C1 L cur with
  | none =>
   refine f5 hfi ⟨(L,cur),hL⟩ (r:=.t [.a [.s [],.l []],.c (.b false)]) (by show n5.ret (D5 L cur)=_;rw [a5p hf]) (.k (.sl _ _ _ _ _ (by simp) aS) j4) .nil fun _ _ _ _=>?_
   (refine Zq ?_;intros)
   exact bad (.inl hf)
  | some p =>
   refine f5 hfi ⟨(L,cur),hL⟩ (r:=.t [.a (pg p),.c (.b true)]) (by show n5.ret (D5 L cur)=_;rw [a5v hf]) (.k (.sl _ _ _ _ _ (by simp) aS) j4) .nil fun _ _ hv9 _=>?_
   have hv9:RV (.t [.a [.s p.1,.l (p.2.map sg)],.c (.b true)]) _:=hv9
   (refine Zq ?_;intros)
   have n1:¬(C1 L cur=none∨E6 L s=false)↔E6 L s=true:=by rw [hf];simp
   refine f5 hho ⟨(L,s),hL⟩ (r:=.c (.b (E6 L s))) rfl (.k (.sl _ _ _ _ _ (by simp) aS) (.k (.a _ _ _ rfl aS) .nil)) .nil fun _ _ _ _=>?_
   (refine Zq ?_;with_reducible repeat' first|intro _|apply aI)
   ·have hh:E6 L s=true:=‹_›
    unfold G2
    rw [if_neg nnf,if_neg (n1.2 hh)]
    refine f5 hvi ⟨(L,cur,s),hL⟩ (r:=.c (.b (a0z L cur s))) rfl (.k (.sl _ _ _ _ _ (by simp) aS) (.k (.s _ _ _ rfl rfl) (.k (.a _ _ _ rfl aS) .nil))) .nil fun _ _ _ _=>?_
    (refine Zq ?_;with_reducible repeat' first|intro _|apply aI)
    ·rw [if_pos ‹a0z L cur s=true›]
     refine f5 hwo ⟨(s.2,false),hs2⟩ (r:=.c (.s (C8 s.2 false))) rfl (.k (.q _ _ aS) (.k (.kn _) .nil)) .nil fun _ _ _ _=>?_
     (refine Zq ?_;intros)
     exact i6 ⟨.ret _ _ j4,.nil⟩
    ·rw [if_neg ‹¬a0z L cur s=true›]
     refine R9 (x:=s.1) (y:=[58,58]) rfl rfl rfl ?_
     have hw:=a89 s.2 true
     (refine Zq ?_;intros)
     refine f5 hwo ⟨(s.2,true),hs2⟩ (r:=.c (.s (C8 s.2 true))) rfl (.k (.q _ _ aS) (.k (.kn _) .nil)) .nil fun _ _ _ _=>?_
     (refine Zq ?_;intros)
     refine R9 (x:=s.1 ++ [58,58]) (y:=C8 s.2 true) (by simp) rfl rfl ?_
     rw [show s.1 ++ [58,58] ++ C8 s.2 true=s.1 ++ 58 :: 58 :: C8 s.2 true by simp]
     exact i6 ⟨.ret _ _ (.t _ _ (.k (.s _ _ _ (by simp;omega) rfl) (.k (.i _ _) .nil))),.nil⟩
   ·exact bad (.inr (by simpa using ‹¬E6 L s=true›))
 ·have hn:named s=false:=by simpa using ‹¬named s=true›
  unfold G2
  rw [if_pos hn]
  exact i6 ⟨.ret _ _ j4,.nil⟩
theorem e4a:j5 122 (d0d L6):=k8 (fun fn h=>e5t h) [(119,_),(120,_)] (.cons c70 (.cons d3m .nil)) fun U fn hfn ⟨o,hz⟩ vs bs hv hb=>by
 have hc:=hfn 119 _ rfl
 have hn:=hfn 120 _ rfl
 have hz:o.size < 90000:=hz
 have hv:j6 [.a o.g] vs:=hv
 have hb:g9 [] bs:=hb
 show g8 U _ fun v bs'=>j7 (.ret (L6 o)) v∧g9 [] bs'
 unfold d46
 refine W2 hv fun _ _ hv1 hv2=>?_
 refine N2 hv1 o.g_len fun q hq=>?_
 (refine Zq ?_;intros)
 refine D3 (fun (p:O × List O) vs bs=>∃ (x:O) (acc:List O) (v:V) (q:Q),p=(x,acc)∧vs=[.ptr 0 0,v]∧bs=[.opa q 7,.tok acc.length 7]∧u1 x.g q 0∧a0m 1 7 (acc.map O.g) v∧A3 o=(A3 x).map (acc ++ ·)∧acc.length+x.size≤o.size) (fun p=>p.1.size) (o,[]) ⟨o,[],_,_,rfl,rfl,rfl,aS,.b rfl,by simp,by simp⟩ (show o.size < v8 by simp only [v8];omega) ?_
 rintro self _ _ _ ⟨x,acc,v,q,rfl,rfl,rfl,hq,htok,hit,hsz⟩ ih
 have hpos:=x.size_pos
 (refine Zq ?_;intros)
 refine f5 hc x (r:=.c (.b x.isCo)) rfl (.k (oV aS) .nil) .nil fun _ _ _ _=>?_
 (refine Zq ?_;with_reducible repeat' first|intro _|apply aI)
 ·cases x with
  | co a d =>
   have hq:u1 [.i .i64 4,.s [],.s [],.s [],.s [],.s [],.l ([a,d].map O.g)] q 0:=hq
   have hs:(O.co a d).size=1+a.size+d.size:=rfl
   rw [hs] at hsz
   have hl2:([a,d]:List O).length=2:=rfl
   (refine Zq ?_;intros)
   refine S3 (xs:=acc.map O.g) (n:=7) (off:=0) aS (fun _=>a4r (by rw [O.g_len];decide) aS) (O.g_len _) (by simp) (by simp;omega) fun _ _=>?_
   (refine Zq ?_;intros)
   refine ih (d,acc ++ [a]) _ _ ⟨d,acc ++ [a],_,_,rfl,rfl,by rw [List.length_append];rfl,aS,.a _ _ (by simp) (by rw [List.map_append];assumption),?_,by simp;omega⟩ (by show d.size < 1+a.size+d.size;omega)
   rw [hit]
   simp only [A3,Option.map_map]
   congr 1
   funext l
   simp
  | _=>exact absurd ‹_› (by simp [O.isCo])
 ·refine f5 hn x (r:=.c (.b (O.eqb x z8))) rfl (.k (oV aS) .nil) .nil fun _ _ _ _=>?_
  (refine Zq ?_;with_reducible repeat' first|intro _|apply aI)
  ·have e:x=z8:=O.eqb_t.1 ‹_›
   subst e
   have e2:A3 o=some acc:=by rw [hit];simp [A3,z8]
   unfold L6
   rw [e2]
   exact i6 ⟨.ret _ _ (.t _ _ (.k (.sl _ _ _ _ _ (by simp) aS) (.k (.kn _) .nil))),.nil⟩
  ·have e2:A3 o=none:=by
    rw [hit,b58 (by simpa using ‹¬x.isCo=true›) (by simpa using ‹¬O.eqb x z8=true›)];rfl
   unfold L6
   rw [e2]
   exact i6 ⟨.ret _ _ (.t _ _ (.k (.sl0 _ _ _) (.k (.kn _) .nil))),.nil⟩
theorem d66:j5 118 (d0d P1):=k8 (fun fn h=>e2u h) [(122,_),(47,_),(43,_),(22,_)] (.cons e4a (.cons b43 (.cons b13 (.cons d4l .nil)))) fun U fn hfn ⟨o,hz⟩ vs bs hv hb=>by
 have hit:=hfn 122 _ rfl
 have hli:=hfn 47 _ rfl
 have hsy:=hfn 43 _ rfl
 have heq:=hfn 22 _ rfl
 have hz:o.size < 90000:=hz
 have hv:j6 [.a o.g] vs:=hv
 have hb:g9 [] bs:=hb
 show g8 U _ fun v bs'=>j7 (.ret (P1 o)) v∧g9 [] bs'
 unfold d6c
 (refine Zy ?_;intros)
 refine N2 aS o.g_len fun q0 hq0=>?_
 (refine Zy ?_;with_reducible repeat' first|intro _|apply aI)
 cases hi:A3 o with
 | none =>
  refine f5 hit ⟨o,hz⟩ (r:=.t [.sl 7 [],.c (.b false)]) (by show n5.ret (L6 o)=_;unfold L6;rw [hi]) (.k (oV aS) .nil) .nil fun _ _ _ _=>?_
  (refine Zq ?_;intros)
  exact a0p (c2h hi)
 | some l =>
  refine f5 hit ⟨o,hz⟩ (r:=.t [.sl 7 (l.map O.g),.c (.b true)]) (by show n5.ret (L6 o)=_;unfold L6;rw [hi]) (.k (oV aS) .nil) .nil fun _ _ _ _=>?_
  (refine Zq ?_;with_reducible repeat' first|intro _|apply aI)
  ·have hl:l.length=2:=oM
   have h2:=b9g hi hl
   refine f5 hli ([113,117,111,116,101]:f4) (r:=.a (sg (s7,[113,117,111,116,101]))) rfl (.k (.s _ _ _ rfl dE) .nil) .nil fun _ _ hv3 _=>?_
   have hv3:RV (.a [.s s7,.s [113,117,111,116,101]]) _:=hv3
   (refine Zq ?_;intros)
   refine f5 hsy (s7,[113,117,111,116,101]) (r:=.a x7.g) rfl (.k (.a _ _ _ rfl aS) .nil) .nil fun _ _ _ _=>?_
   (refine Zq ?_;intros)
   refine f5 heq (l[0]'oM,x7) (r:=.c (.b (O.eqb (l[0]'oM) x7))) rfl (.k (oV aS) (.k (oV aS) .nil)) .nil fun _ _ _ _=>?_
   (refine Zq ?_;with_reducible repeat' first|intro _|apply aI)
   ·rw [if_pos ‹O.eqb _ x7=true›] at h2
    unfold P1
    rw [h2]
    exact i6 ⟨.ret _ _ (.t _ _ (.k (oV aS) (.k (.kn _) .nil))),.nil⟩
   ·rw [if_neg ‹¬O.eqb _ x7=true›] at h2
    exact a0p h2
  ·exact a0p (b9y hi oM)
theorem c19 {L:List Pk} {o:O} (h:¬o.k=2):u7 L o=o.ps.all (u7 L):=by
 cases o with
 | sy s=>exact absurd rfl h
 | co a d=>show (u7 L a && u7 L d)=_;simp [O.ps]
 | _=>rfl
theorem ps_size {o x:O} (h:x ∈ o.ps):x.size < o.size:=by
 cases o with
 | co a d =>
  have h:x=a∨x=d:=by simpa [O.ps] using h
  show x.size < 1+a.size+d.size
  rcases h with rfl | rfl <;> omega
 | _=>cases h
theorem e2t:j5 78 (c9q okZ hmG):=Q0 (fun p=>p.1.2.size) fun n ih=>k8 (fun fn h=>f0v h) [(78,(c9q okZ hmG).lt _ n),(66,_)] (.cons ih (.cons c35 .nil)) fun U fn hfn ⟨⟨(L,o),hL,hz⟩,hn⟩ vs bs hv hb=>by
 have hr:=hfn 78 _ rfl
 have hh:=hfn 66 _ rfl
 have hL:H7 L:=hL
 have hz:o.size < 90000:=hz
 have hn:o.size < n+1:=hn
 have hv:j6 [.sl 2 (L.map pg),.a o.g] vs:=hv
 have hb:g9 [] bs:=hb
 show g8 U _ fun v bs'=>j7 (.ret (.c (.b (u7 L o)))) v∧g9 [] bs'
 unfold r78
 (refine Zy ?_;intros)
 refine N2 aS o.g_len fun q0 hq0=>?_
 rw [o.g_eq] at hq0
 (refine Zz ?_;with_reducible repeat' first|intro _|apply aI)
 ·have h2:=‹o.k=2›
  cases o with
  | sy s =>
   refine f5 hh ⟨(L,s),hL⟩ (r:=.c (.b (E6 L s))) rfl (.k (.sl _ _ _ _ _ (by simp) aS) (.k (c2m (gs:=List.drop 3 _) aS (by rfl) rfl) .nil)) .nil fun _ _ _ _=>?_
   (refine Zq ?_;intros)
   exact i6 ⟨.ret _ _ (.b _),.nil⟩
  | _=>simp [O.k] at h2
 ·have h2:=‹¬o.k=2›
  rw [← o.g_eq] at hq0
  refine D3 (fun (i:Nat) vs bs=>∃ (t:j0 Q) (k m:Nat) (q:Q),vs=[.slice t 2 k m .no,.ptr 0 0,.int .i64 i]∧bs=[.opa q 7]∧m=L.length∧m8 2 (L.map pg) t k∧u1 o.g q 0∧i≤o.ps.length∧∀ j (hj:j < o.ps.length),j < i→u7 L o.ps[j]=true) (fun i=>o.ps.length - i) 0 ⟨_,_,_,_,rfl,rfl,by simp,aS,hq0,Nat.zero_le _,fun j _ h=>absurd h (Nat.not_lt_zero _)⟩ (by have:=o.ps_le;simp only [v8];omega) ?_
  rintro self i _ _ ⟨t,k,m,q,rfl,rfl,rfl,ht,hq,hi,hall⟩ ih
  have hps:=o.ps_le
  have hq':=hq
  rw [o.g_eq] at hq'
  clear hq
  (refine Zz ?_;with_reducible repeat' first|intro _|apply aI)
  ·have hlt:i < o.ps.length:=oM
   have hsz:=ps_size (List.getElem_mem hlt)
   refine f5 hr ⟨⟨(L,o.ps[i]),hL,by show (o.ps[i]).size < 90000;omega⟩,by show (o.ps[i]).size < n;omega⟩ (r:=.c (.b (u7 L o.ps[i]))) rfl (.k (.sl _ _ _ _ _ (by simp) aS) (.k (oV aS) .nil)) .nil fun _ _ _ _=>?_
   (refine Zz ?_;with_reducible repeat' first|intro _|apply aI)
   ·have hi1:u7 L o.ps[i]=true:=‹_›
    rw [← o.g_eq] at hq'
    refine ih (i+1) _ _ ⟨t,k,_,q,rfl,rfl,rfl,ht,hq',oM,fun j hj hji=>?_⟩ oM
    by_cases e:j=i
    ·subst e;exact hi1
    ·exact hall j hj oM
   ·have hi1:u7 L o.ps[i]=false:=by simpa using ‹¬u7 L o.ps[i]=true›
    have:u7 L o=false:=by
     rw [c19 h2,List.all_eq_false]
     exact ⟨_,List.getElem_mem hlt,by simp [hi1]⟩
    rw [this]
    exact i6 ⟨.ret _ _ (.kn _),.nil⟩
  ·have:u7 L o=true:=by
    rw [c19 h2,List.all_eq_true]
    intro x hx
    obtain ⟨j,hj,rfl⟩:=List.getElem_of_mem hx
    exact hall j hj oM
   rw [this]
   exact i6 ⟨.ret _ _ (.kn _),.nil⟩
open Classical in
theorem f1g:j5 79 (b7k okT txG):=Q0 (fun p=>p.1.2.2.size) fun n ih=>k8 (fun fn h=>f1h h) [(79,(b7k okT txG).lt _ n),(110,_),(35,_),(118,_),(119,_),(120,_)] (.cons ih (.cons e06 (.cons d3k (.cons d66 (.cons c70 (.cons d3m .nil)))))) fun U fn hfn ⟨⟨(L,cur,o),hL,hok,h3⟩,hn⟩ vs bs hv hb=>by
 have hr:=hfn 79 _ rfl
 have hes:=hfn 110 _ rfl
 have hnm:=hfn 35 _ rfl
 have hqu:=hfn 118 _ rfl
 have hic:=hfn 119 _ rfl
 have hin:=hfn 120 _ rfl
 have hL:H7 L:=hL
 have hok:okP o:=hok
 have h3:o.size≤3000:=h3
 have hn:o.size < n+1:=hn
 have hv:j6 [.sl 2 (L.map pg),.c (.s cur),.a o.g] vs:=hv
 have hb:g9 [] bs:=hb
 show g8 U _ fun v bs'=>j7 (.ret (.c (.s (x8 L cur o)))) v∧g9 [] bs'
 unfold r79
 (refine Zy ?_;intros)
 refine N2 aS o.g_len fun q0 hq0=>?_
 cases o with
 | no=>exact hok.elim
 | num m d =>
  have l1:=hok.2.2.1
  have l2:=hok.2.2.2
  have hq0:u1 [.i .i64 1,.s (f8 m),.s (f7 d),.s [],.s [],.s [],.l []] q0 0:=hq0
  rw [c2b]
  (refine Zz ?_;with_reducible repeat' first|intro _|apply aI)
  ·rw [if_pos (by rw [show f7 d=[49] from ‹_›];rfl)]
   exact i6 ⟨.ret _ _ (.q _ _ aS),.nil⟩
  ·rw [if_neg (fun e=>absurd (eq_of_beq e) ‹_›)]
   refine R9 (x:=f8 m) (y:=[47]) rfl rfl rfl ?_
   (refine Zz ?_;intros)
   refine R9 (x:=f8 m ++ [47]) (y:=f7 d) (by simp) rfl rfl ?_
   exact i6 ⟨.ret _ _ (.s _ _ _ (by simp;omega) rfl),.nil⟩
 | tx t =>
  have hl:t.length≤200:=hok
  have hq0:u1 [.i .i64 3,.s [],.s [],.s [],.s [],.s t,.l []] q0 0:=hq0
  (refine Zz ?_;intros)
  refine f5 hes ⟨(t,34),by show t.length < 90000;omega,.inl rfl⟩ (r:=.c (.s (D1 34 t))) rfl (.k (.q _ _ aS) (.k (.i _ _) .nil)) .nil fun _ _ _ _=>?_
  (refine Zz ?_;intros)
  exact i6 ⟨.ret _ _ (.s _ _ _ rfl rfl),.nil⟩
 | sy s =>
  have b1:=V8 (s:=s) hok
  have b2:=a4u (s:=s) hok
  have hq0:u1 [.i .i64 2,.s [],.s [],.s s.1,.s s.2,.s [],.l []] q0 0:=hq0
  (refine Zz ?_;intros)
  refine f5 hnm ⟨(L,cur,s),hL,by show s.1.length < 90000;omega,by show s.2.length < 90000;omega⟩ (r:=.t [.c (.s (G2 L cur s).1),.c (.i .i64 (G2 L cur s).2)]) rfl (.k (.sl _ _ _ _ _ (by simp) aS) (.k (.s _ _ _ rfl rfl) (.k (c2m (gs:=List.drop 3 _) aS (by rfl) rfl) .nil))) .nil fun _ _ _ _=>?_
  (refine Zz ?_;intros)
  exact i6 ⟨.ret _ _ (.s _ _ _ rfl rfl),.nil⟩
 | co a d =>
  have hq1:=hq0
  have hq0:u1 [.i .i64 4,.s [],.s [],.s [],.s [],.s [],.l ([a,d].map O.g)] q0 0:=hq0
  have hTl:2 * (x8 L cur (.co a d)).length≤415 * ((O.co a d).size+1):=(a3y hok).1
  (refine Zz ?_;intros)
  have hos:(O.co a d).size=1+a.size+d.size:=rfl
  cases hsh:J0 (.co a d) with
  | some x =>
   have hxlt:x.size < (O.co a d).size:=by rw [P3.1 hsh];simp [O.size];omega
   have hokx:okP x:=by rw [P3.1 hsh] at hok;exact hok.2.1
   have hTx:=b1b (L:=L) (cur:=cur) hsh
   have hxb:=(a3y (L:=L) (cur:=cur) hokx).1
   refine f5 hqu ⟨.co a d,by show (O.co a d).size < 90000;omega⟩ (r:=.t [.a x.g,.c (.b true)]) (by show n5.ret (P1 _)=_;unfold P1;rw [hsh]) (.k (.a _ _ _ rfl aS) .nil) .nil fun _ _ _ _=>?_
   (refine Zz ?_;intros)
   refine N2 aS (O.g_len _) fun q1 hq1=>?_
   (refine Zz ?_;intros)
   refine f5 hr ⟨⟨(L,cur,x),hL,hokx,by show x.size≤3000;omega⟩,by show x.size < n;omega⟩ (r:=.c (.s (x8 L cur x))) rfl (.k (.sl _ _ _ _ _ (by simp) aS) (.k (.s _ _ _ rfl rfl) (.k (oV aS) .nil))) .nil fun _ _ _ _=>?_
   (refine Zz ?_;intros)
   rw [hTx]
   refine R9 (x:=[39]) (y:=x8 L cur x) rfl rfl rfl ?_
   exact i6 ⟨.ret _ _ (.s _ _ _ (by simp;omega) rfl),.nil⟩
  | none =>
   have hTn:=b0y (L:=L) (cur:=cur) hsh
   generalize hT:x8 L cur (.co a d)=T at hTl hTn
   refine f5 hqu ⟨.co a d,by show (O.co a d).size < 90000;omega⟩ (r:=.t [.a O.no.g,.c (.b false)]) (by show n5.ret (P1 _)=_;unfold P1;rw [hsh]) (.k (.a _ _ _ rfl aS) .nil) .nil fun _ _ _ _=>?_
   (refine Zz ?_;intros)
   refine D3 (fun (x:O) vs bs=>∃ (t:j0 Q) (k m:Nat) (q:Q) (acc:f4) (i:Nat),vs=[.slice t 2 k m .no,.str cur.length (j9 cur),.ptr 0 0,.str acc.length (j9 acc),.int .i64 i]∧bs=[.opa q 7]∧m=L.length∧m8 2 (L.map pg) t k∧u1 x.g q 0∧acc ++ b1r L cur (if i=0 then [] else [32]) x=T∧(x=.co a d∨x.size < (O.co a d).size)∧(i=0→x=.co a d)∧okP x∧i+x.size≤3001) (fun x=>x.size) (.co a d) ⟨_,_,_,_,[40],0,rfl,rfl,by first | rfl | simp,aS,hq1,by rw [hTn];rfl,.inl rfl,fun _=>rfl,hok,oM⟩ (by simp only [v8];omega) ?_
   rintro self x _ _ ⟨t,k,m,q,acc,i,rfl,rfl,rfl,ht,hq,heq,hx,hi0,hokx,hik⟩ ih
   have hxle:x.size≤(O.co a d).size:=by rcases hx with rfl | h <;> omega
   have hTl2:T.length < 1000000:=oM
   (refine Zz ?_;intros)
   refine f5 hic x (r:=.c (.b x.isCo)) rfl (.k (oV aS) .nil) .nil fun _ _ _ _=>?_
   (refine Zy ?_;with_reducible repeat' first|intro _|apply aI)
   ·obtain ⟨a',d',rfl⟩:∃ a' d',x=.co a' d':=by
     have hco:=‹x.isCo=true›
     cases x <;> first | exact ⟨_,_,rfl⟩ | cases hco
    have hsz:(O.co a' d').size=1+a'.size+d'.size:=rfl
    have hpd:=d'.size_pos
    have heq:acc ++ ((if i=0 then [] else [32]) ++ (x8 L cur a' ++ (pT L cur d').2.1))=T:=heq
    have hsp:=c7e L cur d'
    generalize hR:x8 L cur a'=R at heq
    generalize (pT L cur d').2.1=Y at heq hsp
    have hlen:acc.length+((if i=0 then ([]:f4) else [32]).length+(R.length+Y.length))=T.length:=by rw [← heq];simp
    refine L2 (fun vs bs=>∃ acc2:f4,vs=[.slice t 2 k L.length .no,.str cur.length (j9 cur),.ptr 0 0,.str acc2.length (j9 acc2),.int .i64 i]∧bs=[.opa q 7]∧acc2=acc ++ (if i=0 then [] else [32])) ?_ ?_
    ·rintro _ _ ⟨acc2,rfl,rfl,ha2⟩
     have heq2:acc2 ++ (R ++ Y)=T:=by rw [ha2,← heq];simp
     have hl2:acc2.length+(R.length+Y.length)=T.length:=by rw [← heq2];simp
     have hq:u1 [.i .i64 4,.s [],.s [],.s [],.s [],.s [],.l ([a',d'].map O.g)] q 0:=hq
     have hl9:([a',d']:List O).length=2:=rfl
     (refine Zz ?_;intros)
     refine f5 hr ⟨⟨(L,cur,a'),hL,hokx.1,by show a'.size≤3000;omega⟩,by show a'.size < n;omega⟩ (r:=.c (.s R)) (by show n5.ret (.c (.s (x8 L cur a')))=_;rw [hR]) (.k (.sl _ _ _ _ _ (by simp) aS) (.k (.s _ _ _ rfl rfl) (.k (oV aS) .nil))) .nil fun _ _ _ _=>?_
     (refine Zz ?_;intros)
     refine R9 (x:=acc2) (y:=R) rfl rfl rfl ?_
     (refine Zz ?_;intros)
     refine ih d' _ _ ⟨_,_,_,_,acc2 ++ R,i+1,?_,rfl,rfl,aS,aS,?_,.inr oM,fun h=>absurd h oM,hokx.2,oM⟩ oM
     ·simp
     ·rw [if_neg oM,hsp,← heq2];simp
    ·intro c hc
     (refine Zz ?_;with_reducible repeat' first|intro _|apply aI)
     ·refine R9 (x:=acc) (y:=[32]) rfl rfl rfl ?_
      exact hc _ _ ⟨acc ++ [32],by simp,rfl,by rw [if_neg oM]⟩
     ·exact hc _ _ ⟨acc,rfl,rfl,by rw [if_pos oM];simp⟩
   ·have hco:x.isCo=false:=by simpa using ‹¬x.isCo=true›
    have hxlt:x.size < (O.co a d).size:=by
     rcases hx with rfl | h
     ·cases hco
     ·exact h
    rw [c6g hco] at heq
    refine L2 (fun vs bs=>∃ acc2:f4,vs=[.str acc2.length (j9 acc2)]∧bs=[]∧acc2 ++ [41]=T) ?_ ?_
    ·rintro _ _ ⟨acc2,rfl,rfl,ha2⟩
     have hl2:acc2.length+1=T.length:=by rw [← ha2];simp
     (refine Zz ?_;intros)
     refine R9 (x:=acc2) (y:=[41]) rfl rfl rfl ?_
     rw [ha2]
     exact i6 ⟨.ret _ _ (.s _ _ _ oM rfl),.nil⟩
    ·intro c hc
     (refine Zz ?_;intros)
     refine f5 hin x (r:=.c (.b (O.eqb x z8))) rfl (.k (oV aS) .nil) .nil fun _ _ _ _=>?_
     (refine Zz ?_;with_reducible repeat' first|intro _|apply aI)
     ·rw [if_pos (O.eqb_t.1 ‹O.eqb x z8=true›)] at heq
      exact hc _ _ ⟨acc,rfl,rfl,heq⟩
     ·rw [if_neg fun e=>‹¬O.eqb x z8=true› (O.eqb_t.2 e)] at heq
      generalize hR:x8 L cur x=R at heq
      have hlen:acc.length+(R.length+4)=T.length:=by rw [← heq];simp
      refine f5 hr ⟨⟨(L,cur,x),hL,hokx,by show x.size≤3000;omega⟩,by show x.size < n;omega⟩ (r:=.c (.s R)) (by show n5.ret (.c (.s (x8 L cur x)))=_;rw [hR]) (.k (.sl _ _ _ _ _ (by simp) aS) (.k (.s _ _ _ rfl rfl) (.k (oV aS) .nil))) .nil fun _ _ _ _=>?_
      (refine Zz ?_;intros)
      refine R9 (x:=[32,46,32]) (y:=R) rfl dE rfl ?_
      (refine Zz ?_;intros)
      refine R9 (x:=acc) (y:=[32,46,32] ++ R) rfl rfl rfl ?_
      exact hc _ _ ⟨acc ++ ([32,46,32] ++ R),by simp;omega,rfl,by rw [← heq];simp⟩
theorem e13:j5 39 (b7k okV prG):=k8 (fun fn h=>f0y h) [(77,_),(65,_),(78,_),(79,_)] (.cons e2y (.cons b4w (.cons e2t (.cons f1g .nil)))) fun U fn hfn ⟨(L,cur,o),hL,ho⟩ vs bs hv hb=>by
 have hva:=hfn 77 _ rfl
 have hfi:=hfn 65 _ rfl
 have hho:=hfn 78 _ rfl
 have htx:=hfn 79 _ rfl
 have hL:H7 L:=hL
 have ho:okV o:=ho
 have hv:j6 [.sl 2 (L.map pg),.c (.s cur),.a o.g] vs:=hv
 have hb:g9 [] bs:=hb
 show g8 U _ fun v bs'=>j7 (.ret (prG L cur o)) v∧g9 [] bs'
 unfold r39
 (refine Zy ?_;intros)
 refine N2 aS o.g_len fun q0 hq0=>?_
 (refine Zy ?_;intros)
 refine f5 hva ⟨o,ho⟩ (r:=.c (.b true)) rfl (.k (oV aS) .nil) .nil fun _ _ _ _=>?_
 (refine Zz ?_;intros)
 unfold prG
 cases hf:C1 L cur with
 | none =>
  have e:D2 L cur o=([],13):=by unfold D2;rw [if_pos (.inl hf)]
  rw [e]
  refine f5 hfi ⟨(L,cur),hL⟩ (r:=.t [.a [.s [],.l []],.c (.b false)]) (by show n5.ret (D5 L cur)=_;rw [a5p hf]) (.k (.sl _ _ _ _ _ (by simp) aS) j4) .nil fun _ _ _ _=>?_
  (refine Zq ?_;intros)
  exact i6 ⟨.ret _ _ j4,.nil⟩
 | some p =>
  refine f5 hfi ⟨(L,cur),hL⟩ (r:=.t [.a (pg p),.c (.b true)]) (by show n5.ret (D5 L cur)=_;rw [a5v hf]) (.k (.sl _ _ _ _ _ (by simp) aS) j4) .nil fun _ _ hv9 _=>?_
  have hv9:RV (.t [.a [.s p.1,.l (p.2.map sg)],.c (.b true)]) _:=hv9
  (refine Zq ?_;intros)
  refine f5 hho ⟨(L,o),hL,by show o.size < 90000;have:=ho.size;omega⟩ (r:=.c (.b (u7 L o))) rfl (.k (.sl _ _ _ _ _ (by simp) aS) (.k (oV aS) .nil)) .nil fun _ _ _ _=>?_
  (refine Zq ?_;with_reducible repeat' first|intro _|apply aI)
  ·have hh:u7 L o=true:=‹_›
   have e:D2 L cur o=(x8 L cur o,0):=by unfold D2;rw [if_neg (by rw [hf,hh];simp)]
   rw [e]
   refine f5 htx ⟨(L,cur,o),hL,c0u (e1n ho hh),ho.size⟩ (r:=.c (.s (x8 L cur o))) rfl (.k (.sl _ _ _ _ _ (by simp) aS) (.k (.s _ _ _ rfl rfl) (.k (oV aS) .nil))) .nil fun _ _ _ _=>?_
   (refine Zq ?_;intros)
   exact i6 ⟨.ret _ _ j4,.nil⟩
  ·have e:D2 L cur o=([],13):=by unfold D2;rw [if_pos (.inr (by simpa using ‹¬u7 L o=true›))]
   rw [e]
   exact i6 ⟨.ret _ _ j4,.nil⟩
end
end Go.Proofs.YtffaodopiifbkaaGreatDoor
