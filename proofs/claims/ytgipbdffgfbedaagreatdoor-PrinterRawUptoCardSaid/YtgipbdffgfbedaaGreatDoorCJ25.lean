/- The reference's printer: word, Name, homes, quoted. -/
import Derived.Test.YtgipbdffgfbedaaGreatDoorCJ24
set_option linter.all false
namespace Go.Proofs.YtgipbdffgfbedaaGreatDoor
open Go.Abs LQ
set_option maxRecDepth 100000
set_option maxHeartbeats 8000000
noncomputable section
theorem d3r {a b:Bool} {v:V} (h:RV (.c (.b a)) v) (k:RV (.c (.b b)) v):a=b:=G.b.inj (h.c_inj k)
def e9j:Sp where
 ι:={ p:f6 × Bool // p.1.length < 21600000 }
 A p:=[.c (.s p.1.1),.c (.b p.1.2)]
 B _:=[]
 R p:=.ret (.c (.s (D2 p.1.1 p.1.2)))
 B' _:=[]
 inj i j vs bs h k _ _:=by
  obtain ⟨_,_,h1,k1,h,k⟩:=h.two k
  obtain ⟨_,_,h2,k2,h,k⟩:=h.two k
  rw [F5 h1 k1,d3r h2 k2];exact ⟨rfl,rfl⟩
theorem e2x:j4 62 e9j:=l9 (fun fn h=>e5n h) [(38,_),(79,_),(80,_)] (.cons d63 (.cons d03 (.cons c79 .nil))) fun U fn hfn ⟨(s,q),hs⟩ vs bs hv hb=>by
 have hes:=hfn 38 _ rfl
 have hco:=hfn 79 _ rfl
 have hnu:=hfn 80 _ rfl
 have hs:s.length < 21600000:=hs
 have hv:j6 [.c (.s s),.c (.b q)] vs:=hv
 have hb:RBs [] bs:=hb
 show g8 U _ fun v bs'=>j7 (.ret (.c (.s (D2 s q)))) v∧RBs [] bs'
 unfold r62
 (refine Zy ?_;intros)
 refine F3 (fun (i:Nat) vs bs=>∃ (b:Bool) (v vq:V),vs=[.str s.length (j9 s),vq,v,.int .i64 i]∧bs=[]∧RV (.c (.b b)) v∧RV (.c (.b q)) vq∧i≤s.length∧(U=CU→(b=true↔(s ≠ []∧∀ j,j < i→s7 (bt s j)=true)))) (fun i=>s.length - i) 0 ⟨_,_,_,rfl,rfl,.b _,.b _,Nat.zero_le _,fun e=>?_⟩ (by simp only [y8];omega) ?_
 ·subst e
  rw [b2x,decide_eq_true_iff]
  constructor
  ·intro h;exact ⟨fun e=>by subst e;simp at h,fun j hj=>absurd hj (Nat.not_lt_zero _)⟩
  ·rintro ⟨h,_⟩
   have:s.length ≠ 0:=fun e=>h (List.eq_nil_of_length_eq_zero e)
   omega
 rintro self i _ _ ⟨b,v,vq,rfl,rfl,hvb,hvq,hi,hbe⟩ ih
 (refine Zy ?_;with_reducible repeat' first|intro _|apply aI)
 ·refine Q4 (fun vs bs=>∃ (b':Bool) (v vq:V),vs=[.str s.length (j9 s),vq,v,.int .i64 i]∧bs=[]∧RV (.c (.b b')) v∧RV (.c (.b q)) vq∧(U=CU→(b'=true↔(b=true∧s7 (bt s i)=true)))) ?_ ?_
  ·rintro _ _ ⟨b',v,vq,rfl,rfl,hvb',hvq',hb'⟩
   (refine Zy ?_;intros)
   refine ih (i+1) _ _ ⟨b',_,_,by simp,rfl,.b _,.b _,oM,fun e=>?_⟩ oM
   rw [hb' e,hbe e]
   constructor
   ·rintro ⟨⟨h1,h2⟩,h3⟩
    refine ⟨h1,fun j hj=>?_⟩
    by_cases e:j=i
    ·subst e;exact h3
    ·exact h2 j oM
   ·rintro ⟨h1,h2⟩
    exact ⟨⟨h1,fun j hj=>h2 j oM⟩,h2 i oM⟩
  ·intro c hc
   (refine Zy ?_;with_reducible repeat' first|intro _|apply aI)
   ·refine f9 hco (bt s i) (r:=.c (.b (s7 (bt s i)))) rfl (.k (.i _ _) .nil) .nil fun _ _ _ _=>?_
    (refine Zy ?_;intros)
    have hb1:=‹b=true›
    exact hc _ _ ⟨s7 (bt s i),_,_,rfl,rfl,.b _,.b _,fun _=>⟨fun h=>⟨hb1,h⟩,fun h=>h.2⟩⟩
   ·have hb1:=‹¬b=true›
    exact hc _ _ ⟨false,_,_,rfl,rfl,.kn _,.b _,fun _=>⟨fun h=>(by cases h),fun h=>absurd h.1 hb1⟩⟩
 ·have hsim:U=CU→(b=true↔L3 s=true):=fun e=>by
   rw [hbe e,a8w]
   have:i=s.length:=oM
   rw [this];exact Iff.rfl
  refine Q4 (fun vs bs=>∃ (z:Bool) (v:V),vs=[.str s.length (j9 s),v]∧bs=[]∧RV (.c (.b z)) v∧(U=CU→(z=true↔(L3 s=false∨(q=false∧(s=[46]∨(n6 s).2.2=true)))))) ?_ ?_
  ·rintro _ _ ⟨z,v,rfl,rfl,hvz,hz⟩
   refine fun e=>?_
   have hz:=hz e
   have hw:D2 s q=if z=true then D3 124 s else s:=by
    unfold D2
    by_cases h:z=true
    ·rw [if_pos h,if_pos (hz.1 h)]
    ·rw [if_neg h,if_neg fun k=>h (hz.2 k)]
   refine (show g8 U _ _ from ?_) e
   rw [hw]
   (refine Zy ?_;with_reducible repeat' first|intro _|apply aI)
   ·rw [if_pos ‹z=true›]
    refine f9 hes ⟨(s,124),hs,.inr rfl⟩ (r:=.c (.s (D3 124 s))) rfl (.k (.s _ _ _ rfl rfl) (.k (.i _ _) .nil)) .nil fun _ _ _ _=>?_
    (refine Zy ?_;intros)
    exact i7 ⟨.ret _ _ (.s _ _ _ rfl rfl),.nil⟩
   ·rw [if_neg ‹¬z=true›]
    exact i7 ⟨.ret _ _ (.s _ _ _ rfl rfl),.nil⟩
  ·intro c hc
   (refine Zy ?_;with_reducible repeat' first|intro _|apply aI)
   ·have hb1:=‹b=true›
    have hq1:=‹q=true›
    refine hc _ _ ⟨false,_,rfl,rfl,.kn _,fun e=>⟨fun h=>(by cases h),?_⟩⟩
    rintro (h | ⟨h,_⟩)
    ·rw [(hsim e).1 hb1] at h;cases h
    ·rw [hq1] at h;cases h
   ·have hq1:q=false:=by simpa using ‹¬q=true›
    have h46:s=[46]:=‹s=n5 1 46›
    exact hc _ _ ⟨true,_,rfl,rfl,.kn _,fun _=>⟨fun _=>.inr ⟨hq1,.inl h46⟩,fun _=>rfl⟩⟩
   ·have hb1:=‹b=true›
    have hq1:q=false:=by simpa using ‹¬q=true›
    have h46:¬s=[46]:=‹¬s=n5 1 46›
    refine f9 hnu ⟨s,hs⟩ (r:=.c (.b (n6 s).2.2)) rfl (.k (.s _ _ _ rfl rfl) .nil) .nil fun _ _ _ _=>?_
    (refine Zy ?_;with_reducible repeat' first|intro _|apply aI)
    refine hc _ _ ⟨(n6 s).2.2,_,rfl,rfl,.b _,fun e=>⟨fun h=>.inr ⟨hq1,.inr h⟩,?_⟩⟩
    rintro (h | ⟨_,h | h⟩)
    ·rw [(hsim e).1 hb1] at h;cases h
    ·exact absurd h h46
    ·exact h
   ·have hb1:=‹¬b=true›
    refine hc _ _ ⟨true,_,rfl,rfl,.kn _,fun e=>⟨fun _=>.inl ?_,fun _=>rfl⟩⟩
    cases h:L3 s with
    | false=>rfl
    | true=>exact absurd ((hsim e).2 h) hb1
theorem e2k:j4 39 c9m:=l9 (fun fn h=>e42 h) [(35,_),(19,_),(36,_),(60,_),(62,_)] (.cons c6d (.cons b4p (.cons c1w (.cons d67 (.cons e2x .nil))))) fun U fn hfn ⟨(L,cur,s),hL,hs1,hs2⟩ vs bs hv hb=>by
 have hva:=hfn 35 _ rfl
 have hfi:=hfn 19 _ rfl
 have hho:=hfn 36 _ rfl
 have hvi:=hfn 60 _ rfl
 have hwo:=hfn 62 _ rfl
 have hL:H8 L:=hL
 have hs1:s.1.length < 21600000:=hs1
 have hs2:s.2.length < 21600000:=hs2
 have hv:j6 [.sl 2 (L.map pg),.c (.s cur),.a [.s s.1,.s s.2]] vs:=hv
 have hb:RBs [] bs:=hb
 show g8 U _ fun v bs'=>j7 (.ret (a8h (H3 L cur s))) v∧RBs [] bs'
 unfold r39
 (refine Zy ?_;intros)
 refine f9 hva ⟨s,hs1,hs2⟩ (r:=.c (.b (named s))) rfl (.k (.a _ _ _ rfl aS) .nil) .nil fun _ _ _ _=>?_
 (refine Zy ?_;with_reducible repeat' first|intro _|apply aI)
 ·have hn:named s=true:=‹_›
  obtain ⟨nv,nl,n0⟩:=a0d hn
  have nnf:¬named s=false:=by rw [hn];simp
  have bad:(C6 L cur=none∨G7 L s=false)→g8 U (some (.ret (.tuple [.str 0 0,.int .i64 13]),[])) fun v bs'=>j7 (.ret (a8h (H3 L cur s))) v∧RBs [] bs':=fun h=>by
   unfold H3
   rw [if_neg nnf,if_pos h]
   exact i7 ⟨.ret _ _ j3,.nil⟩
  cases hf:C6 L cur with
  | none =>
   refine f9 hfi ⟨(L,cur),hL⟩ (r:=.t [.a [.s [],.l []],.c (.b false)]) (by show o8.ret (D4 L cur)=_;rw [a5h hf]) (.k (.sl _ _ _ _ _ (by simp) aS) j3) .nil fun _ _ _ _=>?_
   (refine Zq ?_;intros)
   exact bad (.inl hf)
  | some p =>
   refine f9 hfi ⟨(L,cur),hL⟩ (r:=.t [.a (pg p),.c (.b true)]) (by show o8.ret (D4 L cur)=_;rw [a5i hf]) (.k (.sl _ _ _ _ _ (by simp) aS) j3) .nil fun _ _ hv9 _=>?_
   have hv9:RV (.t [.a [.s p.1,.l (p.2.map sg)],.c (.b true)]) _:=hv9
   (refine Zq ?_;intros)
   have n1:¬(C6 L cur=none∨G7 L s=false)↔G7 L s=true:=by rw [hf];simp
   refine f9 hho ⟨(L,s),hL⟩ (r:=.c (.b (G7 L s))) rfl (.k (.sl _ _ _ _ _ (by simp) aS) (.k (.a _ _ _ rfl aS) .nil)) .nil fun _ _ _ _=>?_
   (refine Zq ?_;with_reducible repeat' first|intro _|apply aI)
   ·have hh:G7 L s=true:=‹_›
    unfold H3
    rw [if_neg nnf,if_neg (n1.2 hh)]
    refine f9 hvi ⟨(L,cur,s),hL⟩ (r:=.c (.b (a1n L cur s))) rfl (.k (.sl _ _ _ _ _ (by simp) aS) (.k (.s _ _ _ rfl rfl) (.k (.a _ _ _ rfl aS) .nil))) .nil fun _ _ _ _=>?_
    (refine Zq ?_;with_reducible repeat' first|intro _|apply aI)
    ·rw [if_pos ‹a1n L cur s=true›]
     refine f9 hwo ⟨(s.2,false),hs2⟩ (r:=.c (.s (D2 s.2 false))) rfl (.k (.q _ _ aS) (.k (.kn _) .nil)) .nil fun _ _ _ _=>?_
     (refine Zq ?_;intros)
     exact i7 ⟨.ret _ _ j3,.nil⟩
    ·rw [if_neg ‹¬a1n L cur s=true›]
     refine R7 (x:=s.1) (y:=[58,58]) rfl rfl rfl ?_
     have hw:=a84 s.2 true
     (refine Zq ?_;intros)
     refine f9 hwo ⟨(s.2,true),hs2⟩ (r:=.c (.s (D2 s.2 true))) rfl (.k (.q _ _ aS) (.k (.kn _) .nil)) .nil fun _ _ _ _=>?_
     (refine Zq ?_;intros)
     refine R7 (x:=s.1 ++ [58,58]) (y:=D2 s.2 true) (by simp) rfl rfl ?_
     rw [show s.1 ++ [58,58] ++ D2 s.2 true=s.1 ++ 58 :: 58 :: D2 s.2 true by simp]
     exact i7 ⟨.ret _ _ (.t _ _ (.k (.s _ _ _ (by simp;omega) rfl) (.k (.i _ _) .nil))),.nil⟩
   ·exact bad (.inr (by simpa using ‹¬G7 L s=true›))
 ·have hn:named s=false:=by simpa using ‹¬named s=true›
  unfold H3
  rw [if_pos hn]
  exact i7 ⟨.ret _ _ j3,.nil⟩
theorem d86:j4 63 (c3j L9):=l9 (fun fn h=>e5o h) [(41,_),(42,_)] (.cons c58 (.cons d06 .nil)) fun U fn hfn ⟨o,hz⟩ vs bs hv hb=>by
 have hc:=hfn 41 _ rfl
 have hn:=hfn 42 _ rfl
 have hz:o.size < 21600000:=hz
 have hv:j6 [.a o.g] vs:=hv
 have hb:RBs [] bs:=hb
 show g8 U _ fun v bs'=>j7 (.ret (L9 o)) v∧RBs [] bs'
 unfold r63
 refine W5 hv fun _ _ hv1 hv2=>?_
 refine S7 hv1 o.g_len fun q hq=>?_
 (refine Zq ?_;intros)
 refine F3 (fun (p:O × List O) vs bs=>∃ (x:O) (acc:List O) (v:V) (q:Q),p=(x,acc)∧vs=[.ptr 0 0,v]∧bs=[.opa q 7,.tok acc.length 7]∧u3 x.g q 0∧a0w 1 7 (acc.map O.g) v∧A9 o=(A9 x).map (acc ++ ·)∧acc.length+x.size≤o.size) (fun p=>p.1.size) (o,[]) ⟨o,[],_,_,rfl,rfl,rfl,aS,.b rfl,by simp,by simp⟩ (show o.size < y8 by simp only [y8];omega) ?_
 rintro self _ _ _ ⟨x,acc,v,q,rfl,rfl,rfl,hq,htok,hit,hsz⟩ ih
 have hpos:=x.size_pos
 (refine Zq ?_;intros)
 refine f9 hc x (r:=.c (.b x.isCo)) rfl (.k (oV aS) .nil) .nil fun _ _ _ _=>?_
 (refine Zq ?_;with_reducible repeat' first|intro _|apply aI)
 ·cases x with
  | co a d =>
   have hq:u3 [.i .i64 4,.s [],.s [],.s [],.s [],.s [],.l ([a,d].map O.g)] q 0:=hq
   have hs:(O.co a d).size=1+a.size+d.size:=rfl
   rw [hs] at hsz
   have hl2:([a,d]:List O).length=2:=rfl
   (refine Zq ?_;intros)
   refine T4 (xs:=acc.map O.g) (n:=7) (off:=0) aS (fun _=>a6l (by rw [O.g_len];decide) aS) (O.g_len _) (by simp) (by simp;omega) fun _ _=>?_
   (refine Zq ?_;intros)
   refine ih (d,acc ++ [a]) _ _ ⟨d,acc ++ [a],_,_,rfl,rfl,by rw [List.length_append];rfl,aS,.a _ _ (by simp) (by rw [List.map_append];assumption),?_,by simp;omega⟩ (by show d.size < 1+a.size+d.size;omega)
   rw [hit]
   simp only [A9,Option.map_map]
   congr 1
   funext l
   simp
  | _=>exact absurd ‹_› (by simp [O.isCo])
 ·refine f9 hn x (r:=.c (.b (O.eqb x A7))) rfl (.k (oV aS) .nil) .nil fun _ _ _ _=>?_
  (refine Zq ?_;with_reducible repeat' first|intro _|apply aI)
  ·have e:x=A7:=O.eqb_t.1 ‹_›
   subst e
   have e2:A9 o=some acc:=by rw [hit];simp [A9,A7]
   unfold L9
   rw [e2]
   exact i7 ⟨.ret _ _ (.t _ _ (.k (.sl _ _ _ _ _ (by simp) aS) (.k (.kn _) .nil))),.nil⟩
  ·have e2:A9 o=none:=by
    rw [hit,b4l (by simpa using ‹¬x.isCo=true›) (by simpa using ‹¬O.eqb x A7=true›)];rfl
   unfold L9
   rw [e2]
   exact i7 ⟨.ret _ _ (.t _ _ (.k (.sl0 _ _ _) (.k (.kn _) .nil))),.nil⟩
theorem d4n:j4 40 (c3j O2):=l9 (fun fn h=>e43 h) [(63,_),(11,_),(10,_),(64,_)] (.cons d86 (.cons b93 (.cons b6t (.cons d04 .nil)))) fun U fn hfn ⟨o,hz⟩ vs bs hv hb=>by
 have hit:=hfn 63 _ rfl
 have hli:=hfn 11 _ rfl
 have hsy:=hfn 10 _ rfl
 have heq:=hfn 64 _ rfl
 have hz:o.size < 21600000:=hz
 have hv:j6 [.a o.g] vs:=hv
 have hb:RBs [] bs:=hb
 show g8 U _ fun v bs'=>j7 (.ret (O2 o)) v∧RBs [] bs'
 unfold r40
 (refine Zy ?_;intros)
 refine S7 aS o.g_len fun q0 hq0=>?_
 (refine Zy ?_;with_reducible repeat' first|intro _|apply aI)
 cases hi:A9 o with
 | none =>
  refine f9 hit ⟨o,hz⟩ (r:=.t [.sl 7 [],.c (.b false)]) (by show o8.ret (L9 o)=_;unfold L9;rw [hi]) (.k (oV aS) .nil) .nil fun _ _ _ _=>?_
  (refine Zq ?_;intros)
  exact a0q (c3f hi)
 | some l =>
  refine f9 hit ⟨o,hz⟩ (r:=.t [.sl 7 (l.map O.g),.c (.b true)]) (by show o8.ret (L9 o)=_;unfold L9;rw [hi]) (.k (oV aS) .nil) .nil fun _ _ _ _=>?_
  (refine Zq ?_;with_reducible repeat' first|intro _|apply aI)
  ·have hl:l.length=2:=oM
   have h2:=b84 hi hl
   refine f9 hli ([113,117,111,116,101]:f6) (r:=.a (sg (x9,[113,117,111,116,101]))) rfl (.k (.s _ _ _ rfl dE) .nil) .nil fun _ _ hv3 _=>?_
   have hv3:RV (.a [.s x9,.s [113,117,111,116,101]]) _:=hv3
   (refine Zq ?_;intros)
   refine f9 hsy (x9,[113,117,111,116,101]) (r:=.a z8.g) rfl (.k (.a _ _ _ rfl aS) .nil) .nil fun _ _ _ _=>?_
   (refine Zq ?_;intros)
   refine f9 heq (l[0]'oM,z8) (r:=.c (.b (O.eqb (l[0]'oM) z8))) rfl (.k (oV aS) (.k (oV aS) .nil)) .nil fun _ _ _ _=>?_
   (refine Zq ?_;with_reducible repeat' first|intro _|apply aI)
   ·rw [if_pos ‹O.eqb _ z8=true›] at h2
    unfold O2
    rw [h2]
    exact i7 ⟨.ret _ _ (.t _ _ (.k (oV aS) (.k (.kn _) .nil))),.nil⟩
   ·rw [if_neg ‹¬O.eqb _ z8=true›] at h2
    exact a0q h2
  ·exact a0q (b83 hi oM)
theorem c1r {L:List Pk} {o:O} (h:¬o.k=2):v8 L o=o.ps.all (v8 L):=by
 cases o with
 | sy s=>exact absurd rfl h
 | co a d=>show (v8 L a && v8 L d)=_;simp [O.ps]
 | _=>rfl
theorem ps_size {o x:O} (h:x ∈ o.ps):x.size < o.size:=by
 cases o with
 | co a d =>
  have h:x=a∨x=d:=by simpa [O.ps] using h
  show x.size < 1+a.size+d.size
  rcases h with rfl | rfl <;> omega
 | _=>cases h
theorem d84:j4 20 (c9l okZ hmG):=Q1 (fun p=>p.1.2.size) fun n ih=>l9 (fun fn h=>e4m h) [(20,(c9l okZ hmG).lt _ n),(36,_)] (.cons ih (.cons c1w .nil)) fun U fn hfn ⟨⟨(L,o),hL,hz⟩,hn⟩ vs bs hv hb=>by
 have hr:=hfn 20 _ rfl
 have hh:=hfn 36 _ rfl
 have hL:H8 L:=hL
 have hz:o.size < 21600000:=hz
 have hn:o.size < n+1:=hn
 have hv:j6 [.sl 2 (L.map pg),.a o.g] vs:=hv
 have hb:RBs [] bs:=hb
 show g8 U _ fun v bs'=>j7 (.ret (.c (.b (v8 L o)))) v∧RBs [] bs'
 unfold r20
 (refine Zy ?_;intros)
 refine S7 aS o.g_len fun q0 hq0=>?_
 rw [o.g_eq] at hq0
 (refine Zz ?_;with_reducible repeat' first|intro _|apply aI)
 ·have h2:=‹o.k=2›
  cases o with
  | sy s =>
   refine f9 hh ⟨(L,s),hL⟩ (r:=.c (.b (G7 L s))) rfl (.k (.sl _ _ _ _ _ (by simp) aS) (.k (c28 (gs:=List.drop 3 _) aS (by rfl) rfl) .nil)) .nil fun _ _ _ _=>?_
   (refine Zq ?_;intros)
   exact i7 ⟨.ret _ _ (.b _),.nil⟩
  | _=>simp [O.k] at h2
 ·have h2:=‹¬o.k=2›
  rw [← o.g_eq] at hq0
  refine F3 (fun (i:Nat) vs bs=>∃ (t:j0 Q) (k m:Nat) (q:Q),vs=[.slice t 2 k m .no,.ptr 0 0,.int .i64 i]∧bs=[.opa q 7]∧m=L.length∧n7 2 (L.map pg) t k∧u3 o.g q 0∧i≤o.ps.length∧∀ j (hj:j < o.ps.length),j < i→v8 L o.ps[j]=true) (fun i=>o.ps.length - i) 0 ⟨_,_,_,_,rfl,rfl,by simp,aS,hq0,Nat.zero_le _,fun j _ h=>absurd h (Nat.not_lt_zero _)⟩ (by have:=o.ps_le;simp only [y8];omega) ?_
  rintro self i _ _ ⟨t,k,m,q,rfl,rfl,rfl,ht,hq,hi,hall⟩ ih
  have hps:=o.ps_le
  have hq':=hq
  rw [o.g_eq] at hq'
  clear hq
  (refine Zz ?_;with_reducible repeat' first|intro _|apply aI)
  ·have hlt:i < o.ps.length:=oM
   have hsz:=ps_size (List.getElem_mem hlt)
   refine f9 hr ⟨⟨(L,o.ps[i]),hL,by show (o.ps[i]).size < 21600000;omega⟩,by show (o.ps[i]).size < n;omega⟩ (r:=.c (.b (v8 L o.ps[i]))) rfl (.k (.sl _ _ _ _ _ (by simp) aS) (.k (oV aS) .nil)) .nil fun _ _ _ _=>?_
   (refine Zz ?_;with_reducible repeat' first|intro _|apply aI)
   ·have hi1:v8 L o.ps[i]=true:=‹_›
    rw [← o.g_eq] at hq'
    refine ih (i+1) _ _ ⟨t,k,_,q,rfl,rfl,rfl,ht,hq',oM,fun j hj hji=>?_⟩ oM
    by_cases e:j=i
    ·subst e;exact hi1
    ·exact hall j hj oM
   ·have hi1:v8 L o.ps[i]=false:=by simpa using ‹¬v8 L o.ps[i]=true›
    have:v8 L o=false:=by
     rw [c1r h2,List.all_eq_false]
     exact ⟨_,List.getElem_mem hlt,by simp [hi1]⟩
    rw [this]
    exact i7 ⟨.ret _ _ (.kn _),.nil⟩
  ·have:v8 L o=true:=by
    rw [c1r h2,List.all_eq_true]
    intro x hx
    obtain ⟨j,hj,rfl⟩:=List.getElem_of_mem hx
    exact hall j hj oM
   rw [this]
   exact i7 ⟨.ret _ _ (.kn _),.nil⟩
open Classical in
theorem e2w:j4 21 (b3o okT txG):=Q1 (fun p=>p.1.2.2.size) fun n ih=>l9 (fun fn h=>e4n h) [(21,(b3o okT txG).lt _ n),(38,_),(39,_),(40,_),(41,_),(42,_)] (.cons ih (.cons d63 (.cons e2k (.cons d4n (.cons c58 (.cons d06 .nil)))))) fun U fn hfn ⟨⟨(L,cur,o),hL,hok,h3⟩,hn⟩ vs bs hv hb=>by
 have hr:=hfn 21 _ rfl
 have hes:=hfn 38 _ rfl
 have hnm:=hfn 39 _ rfl
 have hqu:=hfn 40 _ rfl
 have hic:=hfn 41 _ rfl
 have hin:=hfn 42 _ rfl
 have hL:H8 L:=hL
 have hok:okP o:=hok
 have h3:o.size≤3000:=h3
 have hn:o.size < n+1:=hn
 have hv:j6 [.sl 2 (L.map pg),.c (.s cur),.a o.g] vs:=hv
 have hb:RBs [] bs:=hb
 show g8 U _ fun v bs'=>j7 (.ret (.c (.s (A0 L cur o)))) v∧RBs [] bs'
 unfold r21
 (refine Zy ?_;intros)
 refine S7 aS o.g_len fun q0 hq0=>?_
 cases o with
 | no=>exact hok.elim
 | num m d =>
  have l1:=hok.2.2.1
  have l2:=hok.2.2.2
  have hq0:u3 [.i .i64 1,.s (g7 m),.s (f7 d),.s [],.s [],.s [],.l []] q0 0:=hq0
  rw [c3q]
  (refine Zz ?_;with_reducible repeat' first|intro _|apply aI)
  ·rw [if_pos (by rw [show f7 d=[49] from ‹_›];rfl)]
   exact i7 ⟨.ret _ _ (.q _ _ aS),.nil⟩
  ·rw [if_neg (fun e=>absurd (eq_of_beq e) ‹_›)]
   refine R7 (x:=g7 m) (y:=[47]) rfl rfl rfl ?_
   (refine Zz ?_;intros)
   refine R7 (x:=g7 m ++ [47]) (y:=f7 d) (by simp) rfl rfl ?_
   exact i7 ⟨.ret _ _ (.s _ _ _ (by simp;omega) rfl),.nil⟩
 | tx t =>
  have hl:t.length≤200:=hok
  have hq0:u3 [.i .i64 3,.s [],.s [],.s [],.s [],.s t,.l []] q0 0:=hq0
  (refine Zz ?_;intros)
  refine f9 hes ⟨(t,34),by show t.length < 21600000;omega,.inl rfl⟩ (r:=.c (.s (D3 34 t))) rfl (.k (.q _ _ aS) (.k (.i _ _) .nil)) .nil fun _ _ _ _=>?_
  (refine Zz ?_;intros)
  exact i7 ⟨.ret _ _ (.s _ _ _ rfl rfl),.nil⟩
 | sy s =>
  have b1:=a0d (s:=s) hok
  have b2:=a8i (s:=s) hok
  have hq0:u3 [.i .i64 2,.s [],.s [],.s s.1,.s s.2,.s [],.l []] q0 0:=hq0
  (refine Zz ?_;intros)
  refine f9 hnm ⟨(L,cur,s),hL,by show s.1.length < 21600000;omega,by show s.2.length < 21600000;omega⟩ (r:=.t [.c (.s (H3 L cur s).1),.c (.i .i64 (H3 L cur s).2)]) rfl (.k (.sl _ _ _ _ _ (by simp) aS) (.k (.s _ _ _ rfl rfl) (.k (c28 (gs:=List.drop 3 _) aS (by rfl) rfl) .nil))) .nil fun _ _ _ _=>?_
  (refine Zz ?_;intros)
  exact i7 ⟨.ret _ _ (.s _ _ _ rfl rfl),.nil⟩
 | co a d =>
  have hq1:=hq0
  have hq0:u3 [.i .i64 4,.s [],.s [],.s [],.s [],.s [],.l ([a,d].map O.g)] q0 0:=hq0
  have hTl:2 * (A0 L cur (.co a d)).length≤415 * ((O.co a d).size+1):=(a3u hok).1
  (refine Zz ?_;intros)
  have hos:(O.co a d).size=1+a.size+d.size:=rfl
  cases hsh:J6 (.co a d) with
  | some x =>
   have hxlt:x.size < (O.co a d).size:=by rw [P7.1 hsh];simp [O.size];omega
   have hokx:okP x:=by rw [P7.1 hsh] at hok;exact hok.2.1
   have hTx:=b0z (L:=L) (cur:=cur) hsh
   have hxb:=(a3u (L:=L) (cur:=cur) hokx).1
   refine f9 hqu ⟨.co a d,by show (O.co a d).size < 21600000;omega⟩ (r:=.t [.a x.g,.c (.b true)]) (by show o8.ret (O2 _)=_;unfold O2;rw [hsh]) (.k (.a _ _ _ rfl aS) .nil) .nil fun _ _ _ _=>?_
   (refine Zz ?_;intros)
   refine S7 aS (O.g_len _) fun q1 hq1=>?_
   (refine Zz ?_;intros)
   refine f9 hr ⟨⟨(L,cur,x),hL,hokx,by show x.size≤3000;omega⟩,by show x.size < n;omega⟩ (r:=.c (.s (A0 L cur x))) rfl (.k (.sl _ _ _ _ _ (by simp) aS) (.k (.s _ _ _ rfl rfl) (.k (oV aS) .nil))) .nil fun _ _ _ _=>?_
   (refine Zz ?_;intros)
   rw [hTx]
   refine R7 (x:=[39]) (y:=A0 L cur x) rfl rfl rfl ?_
   exact i7 ⟨.ret _ _ (.s _ _ _ (by simp;omega) rfl),.nil⟩
  | none =>
   have hTn:=b0y (L:=L) (cur:=cur) hsh
   generalize hT:A0 L cur (.co a d)=T at hTl hTn
   refine f9 hqu ⟨.co a d,by show (O.co a d).size < 21600000;omega⟩ (r:=.t [.a O.no.g,.c (.b false)]) (by show o8.ret (O2 _)=_;unfold O2;rw [hsh]) (.k (.a _ _ _ rfl aS) .nil) .nil fun _ _ _ _=>?_
   (refine Zz ?_;intros)
   refine F3 (fun (x:O) vs bs=>∃ (t:j0 Q) (k m:Nat) (q:Q) (acc:f6) (i:Nat),vs=[.slice t 2 k m .no,.str cur.length (j9 cur),.ptr 0 0,.str acc.length (j9 acc),.int .i64 i]∧bs=[.opa q 7]∧m=L.length∧n7 2 (L.map pg) t k∧u3 x.g q 0∧acc ++ b1p L cur (if i=0 then [] else [32]) x=T∧(x=.co a d∨x.size < (O.co a d).size)∧(i=0→x=.co a d)∧okP x∧i+x.size≤3001) (fun x=>x.size) (.co a d) ⟨_,_,_,_,[40],0,rfl,rfl,by first | rfl | simp,aS,hq1,by rw [hTn];rfl,.inl rfl,fun _=>rfl,hok,oM⟩ (by simp only [y8];omega) ?_
   rintro self x _ _ ⟨t,k,m,q,acc,i,rfl,rfl,rfl,ht,hq,heq,hx,hi0,hokx,hik⟩ ih
   have hxle:x.size≤(O.co a d).size:=by rcases hx with rfl | h <;> omega
   have hTl2:T.length < 1000000:=oM
   (refine Zz ?_;intros)
   refine f9 hic x (r:=.c (.b x.isCo)) rfl (.k (oV aS) .nil) .nil fun _ _ _ _=>?_
   (refine Zy ?_;with_reducible repeat' first|intro _|apply aI)
   ·obtain ⟨a',d',rfl⟩:∃ a' d',x=.co a' d':=by
     have hco:=‹x.isCo=true›
     cases x <;> first | exact ⟨_,_,rfl⟩ | cases hco
    have hsz:(O.co a' d').size=1+a'.size+d'.size:=rfl
    have hpd:=d'.size_pos
    have heq:acc ++ ((if i=0 then [] else [32]) ++ (A0 L cur a' ++ (pT L cur d').2.1))=T:=heq
    have hsp:=c61 L cur d'
    generalize hR:A0 L cur a'=R at heq
    generalize (pT L cur d').2.1=Y at heq hsp
    have hlen:acc.length+((if i=0 then ([]:f6) else [32]).length+(R.length+Y.length))=T.length:=by rw [← heq];simp
    refine Q4 (fun vs bs=>∃ acc2:f6,vs=[.slice t 2 k L.length .no,.str cur.length (j9 cur),.ptr 0 0,.str acc2.length (j9 acc2),.int .i64 i]∧bs=[.opa q 7]∧acc2=acc ++ (if i=0 then [] else [32])) ?_ ?_
    ·rintro _ _ ⟨acc2,rfl,rfl,ha2⟩
     have heq2:acc2 ++ (R ++ Y)=T:=by rw [ha2,← heq];simp
     have hl2:acc2.length+(R.length+Y.length)=T.length:=by rw [← heq2];simp
     have hq:u3 [.i .i64 4,.s [],.s [],.s [],.s [],.s [],.l ([a',d'].map O.g)] q 0:=hq
     have hl9:([a',d']:List O).length=2:=rfl
     (refine Zz ?_;intros)
     refine f9 hr ⟨⟨(L,cur,a'),hL,hokx.1,by show a'.size≤3000;omega⟩,by show a'.size < n;omega⟩ (r:=.c (.s R)) (by show o8.ret (.c (.s (A0 L cur a')))=_;rw [hR]) (.k (.sl _ _ _ _ _ (by simp) aS) (.k (.s _ _ _ rfl rfl) (.k (oV aS) .nil))) .nil fun _ _ _ _=>?_
     (refine Zz ?_;intros)
     refine R7 (x:=acc2) (y:=R) rfl rfl rfl ?_
     (refine Zz ?_;intros)
     refine ih d' _ _ ⟨_,_,_,_,acc2 ++ R,i+1,?_,rfl,rfl,aS,aS,?_,.inr oM,fun h=>absurd h oM,hokx.2,oM⟩ oM
     ·simp
     ·rw [if_neg oM,hsp,← heq2];simp
    ·intro c hc
     (refine Zz ?_;with_reducible repeat' first|intro _|apply aI)
     ·refine R7 (x:=acc) (y:=[32]) rfl rfl rfl ?_
      exact hc _ _ ⟨acc ++ [32],by simp,rfl,by rw [if_neg oM]⟩
     ·exact hc _ _ ⟨acc,rfl,rfl,by rw [if_pos oM];simp⟩
   ·have hco:x.isCo=false:=by simpa using ‹¬x.isCo=true›
    have hxlt:x.size < (O.co a d).size:=by
     rcases hx with rfl | h
     ·cases hco
     ·exact h
    rw [c60 hco] at heq
    refine Q4 (fun vs bs=>∃ acc2:f6,vs=[.str acc2.length (j9 acc2)]∧bs=[]∧acc2 ++ [41]=T) ?_ ?_
    ·rintro _ _ ⟨acc2,rfl,rfl,ha2⟩
     have hl2:acc2.length+1=T.length:=by rw [← ha2];simp
     (refine Zz ?_;intros)
     refine R7 (x:=acc2) (y:=[41]) rfl rfl rfl ?_
     rw [ha2]
     exact i7 ⟨.ret _ _ (.s _ _ _ oM rfl),.nil⟩
    ·intro c hc
     (refine Zz ?_;intros)
     refine f9 hin x (r:=.c (.b (O.eqb x A7))) rfl (.k (oV aS) .nil) .nil fun _ _ _ _=>?_
     (refine Zz ?_;with_reducible repeat' first|intro _|apply aI)
     ·rw [if_pos (O.eqb_t.1 ‹O.eqb x A7=true›)] at heq
      exact hc _ _ ⟨acc,rfl,rfl,heq⟩
     ·rw [if_neg fun e=>‹¬O.eqb x A7=true› (O.eqb_t.2 e)] at heq
      generalize hR:A0 L cur x=R at heq
      have hlen:acc.length+(R.length+4)=T.length:=by rw [← heq];simp
      refine f9 hr ⟨⟨(L,cur,x),hL,hokx,by show x.size≤3000;omega⟩,by show x.size < n;omega⟩ (r:=.c (.s R)) (by show o8.ret (.c (.s (A0 L cur x)))=_;rw [hR]) (.k (.sl _ _ _ _ _ (by simp) aS) (.k (.s _ _ _ rfl rfl) (.k (oV aS) .nil))) .nil fun _ _ _ _=>?_
      (refine Zz ?_;intros)
      refine R7 (x:=[32,46,32]) (y:=R) rfl dE rfl ?_
      (refine Zz ?_;intros)
      refine R7 (x:=acc) (y:=[32,46,32] ++ R) rfl rfl rfl ?_
      exact hc _ _ ⟨acc ++ ([32,46,32] ++ R),by simp;omega,rfl,by rw [← heq];simp⟩
theorem d9a:j4 8 (b3o okV prG):=l9 (fun fn h=>d7h h) [(18,_),(19,_),(20,_),(21,_)] (.cons d9f (.cons b4p (.cons d84 (.cons e2w .nil)))) fun U fn hfn ⟨(L,cur,o),hL,ho⟩ vs bs hv hb=>by
 have hva:=hfn 18 _ rfl
 have hfi:=hfn 19 _ rfl
 have hho:=hfn 20 _ rfl
 have htx:=hfn 21 _ rfl
 have hL:H8 L:=hL
 have ho:okV o:=ho
 have hv:j6 [.sl 2 (L.map pg),.c (.s cur),.a o.g] vs:=hv
 have hb:RBs [] bs:=hb
 show g8 U _ fun v bs'=>j7 (.ret (prG L cur o)) v∧RBs [] bs'
 unfold r8
 (refine Zy ?_;intros)
 refine S7 aS o.g_len fun q0 hq0=>?_
 (refine Zy ?_;intros)
 refine f9 hva ⟨o,ho⟩ (r:=.c (.b true)) rfl (.k (oV aS) .nil) .nil fun _ _ _ _=>?_
 (refine Zz ?_;intros)
 unfold prG
 cases hf:C6 L cur with
 | none =>
  have e:E4 L cur o=([],13):=by unfold E4;rw [if_pos (.inl hf)]
  rw [e]
  refine f9 hfi ⟨(L,cur),hL⟩ (r:=.t [.a [.s [],.l []],.c (.b false)]) (by show o8.ret (D4 L cur)=_;rw [a5h hf]) (.k (.sl _ _ _ _ _ (by simp) aS) j3) .nil fun _ _ _ _=>?_
  (refine Zq ?_;intros)
  exact i7 ⟨.ret _ _ j3,.nil⟩
 | some p =>
  refine f9 hfi ⟨(L,cur),hL⟩ (r:=.t [.a (pg p),.c (.b true)]) (by show o8.ret (D4 L cur)=_;rw [a5i hf]) (.k (.sl _ _ _ _ _ (by simp) aS) j3) .nil fun _ _ hv9 _=>?_
  have hv9:RV (.t [.a [.s p.1,.l (p.2.map sg)],.c (.b true)]) _:=hv9
  (refine Zq ?_;intros)
  refine f9 hho ⟨(L,o),hL,by show o.size < 21600000;have:=ho.size;omega⟩ (r:=.c (.b (v8 L o))) rfl (.k (.sl _ _ _ _ _ (by simp) aS) (.k (oV aS) .nil)) .nil fun _ _ _ _=>?_
  (refine Zq ?_;with_reducible repeat' first|intro _|apply aI)
  ·have hh:v8 L o=true:=‹_›
   have e:E4 L cur o=(A0 L cur o,0):=by unfold E4;rw [if_neg (by rw [hf,hh];simp)]
   rw [e]
   refine f9 htx ⟨(L,cur,o),hL,b97 (d7d ho hh),ho.size⟩ (r:=.c (.s (A0 L cur o))) rfl (.k (.sl _ _ _ _ _ (by simp) aS) (.k (.s _ _ _ rfl rfl) (.k (oV aS) .nil))) .nil fun _ _ _ _=>?_
   (refine Zq ?_;intros)
   exact i7 ⟨.ret _ _ j3,.nil⟩
  ·have e:E4 L cur o=([],13):=by unfold E4;rw [if_pos (.inr (by simpa using ‹¬v8 L o=true›))]
   rw [e]
   exact i7 ⟨.ret _ _ j3,.nil⟩
def c0i (g:GV):Sp where
 ι:={ p:List Pk × f6 × Ob // p.2.2.sm∧p.2.2.vd=false }
 A p:=[.sl 2 (p.1.1.map pg),.c (.s p.1.2.1),.a p.1.2.2.g]
 B _:=[]
 R _:=.ret g
 B' _:=[]
 inj _ _ _ _ _ _ _ _:=⟨rfl,rfl⟩
theorem d02:j4 15 (c0i (.c (.i .i64 1))):=l9 (fun fn h=>d16 h) [(25,_)] (.cons (b6u kIS) .nil) fun U fn hfn ⟨(L,cur,o),hs,hvd⟩ vs bs hv hb=>by
 have hva:=hfn 25 _ rfl
 have hv:j6 [.sl 2 (L.map pg),.c (.s cur),.a o.g] vs:=hv
 have hb:RBs [] bs:=hb
 have hvd:o.vd=false:=hvd
 show g8 U _ fun v bs'=>j7 (.ret (.c (.i .i64 1))) v∧RBs [] bs'
 unfold r15
 (refine Zq ?_;intros)
 refine f9 hva ⟨o,hs⟩ (r:=.c (.b false)) (by show o8.ret (.c (.b o.vd))=_;rw [hvd]) (.k (.a _ _ _ rfl aS) .nil) .nil fun _ _ _ _=>?_
 (refine Zq ?_;with_reducible repeat' first|intro _|apply aI)
 all_goals first | exact i7 ⟨.ret _ _ (.i _ _),.nil⟩ | exact absurd ‹false=true› dE
theorem d1a:j4 6 (c0i (.t [.c (.s []),.c (.i .i64 1)])):=l9 (fun fn h=>d7g h) [(15,_)] (.cons d02 .nil) fun U fn hfn ⟨(L,cur,o),hs,hvd⟩ vs bs hv hb=>by
 have hck:=hfn 15 _ rfl
 have hv:j6 [.sl 2 (L.map pg),.c (.s cur),.a o.g] vs:=hv
 have hb:RBs [] bs:=hb
 show g8 U _ fun v bs'=>j7 (.ret (.t [.c (.s []),.c (.i .i64 1)])) v∧RBs [] bs'
 unfold r6
 (refine Zq ?_;intros)
 refine f9 hck ⟨(L,cur,o),hs,hvd⟩ (r:=.c (.i .i64 1)) rfl (.k (.sl _ _ _ _ _ (by simp) aS) (.k (.s _ _ _ rfl rfl) (.k (.a _ _ _ rfl aS) .nil))) .nil fun _ _ _ _=>?_
 (refine Zq ?_;with_reducible repeat' first|intro _|apply aI)
 all_goals first | exact absurd ‹(1:Int)=0› dE | exact i7 ⟨.ret _ _ j3,.nil⟩
theorem c8b:j4 8 (c0i (.t [.c (.s []),.c (.i .i64 1)])):=l9 (fun fn h=>d7h h) [(18,_)] (.cons d4p .nil) fun U fn hfn ⟨(L,cur,o),hs,hvd⟩ vs bs hv hb=>by
 have hva:=hfn 18 _ rfl
 have hv:j6 [.sl 2 (L.map pg),.c (.s cur),.a o.g] vs:=hv
 have hb:RBs [] bs:=hb
 have hvd:o.vd=false:=hvd
 show g8 U _ fun v bs'=>j7 (.ret (.t [.c (.s []),.c (.i .i64 1)])) v∧RBs [] bs'
 unfold r8
 (refine Zq ?_;intros)
 refine f9 hva ⟨o,hs⟩ (r:=.c (.b false)) (by show o8.ret (.c (.b o.vd))=_;rw [hvd]) (.k (.a _ _ _ rfl aS) .nil) .nil fun _ _ _ _=>?_
 (refine Zq ?_;with_reducible repeat' first|intro _|apply aI)
 all_goals first | exact i7 ⟨.ret _ _ j3,.nil⟩ | exact absurd ‹false=true› dE
open Classical in
def prB (L:List Pk) (cur:f6) (o:Ob):GV:=if h:∃ x:O,o=L6 x∧okV x then prG L cur h.choose else .t [.c (.s []),.c (.i .i64 1)]
def f4t:Sp where
 ι:={ p:List Pk × f6 × Ob // H8 p.1∧p.2.2.sm }
 A p:=[.sl 2 (p.1.1.map pg),.c (.s p.1.2.1),.a p.1.2.2.g]
 B _:=[]
 R p:=.ret (prB p.1.1 p.1.2.1 p.1.2.2)
 B' _:=[]
 inj i j vs bs h k _ _:=by
  obtain ⟨_,_,h1,k1,h,k⟩:=h.two k
  obtain ⟨_,_,h2,k2,h,k⟩:=h.two k
  obtain ⟨_,_,h3,k3,h,k⟩:=h.two k
  rw [X3 (h1.sl_inj k1),F5 h2 k2,Ob.g_inj (h3.a_inj k3)];exact ⟨rfl,rfl⟩
theorem c6g {g:FuncId} (h1:j4 g (b3o okV prG)) (h2:j4 g (c0i (.t [.c (.s []),.c (.i .i64 1)]))):j4 g f4t:=fun ⟨(L,cur,o),hL,hs⟩ vs bs hv hb=>by
 have hv:j6 [.sl 2 (L.map pg),.c (.s cur),.a o.g] vs:=hv
 by_cases h:∃ x:O,o=L6 x∧okV x
 ·have e:prB L cur o=prG L cur h.choose:=dif_pos h
  have e2:o.g=h.choose.g:=by rw [← b96,← h.choose_spec.1]
  rw [e2] at hv
  have:=h1 ⟨(L,cur,h.choose),hL,h.choose_spec.2⟩ vs bs hv hb
  show ∃ v bs',_∧j7 (.ret (prB L cur o)) v∧_
  rw [e]
  exact this
 ·have e:prB L cur o=.t [.c (.s []),.c (.i .i64 1)]:=dif_neg h
  have hvd:o.vd=false:=by
   cases hv2:o.vd with
   | false=>rfl
   | true=>exact absurd (e7q hv2) h
  have:=h2 ⟨(L,cur,o),hs,hvd⟩ vs bs hv hb
  show ∃ v bs',_∧j7 (.ret (prB L cur o)) v∧_
  rw [e]
  exact this
def e9f:Sp where
 ι:={ o:Ob // o.sm }
 A o:=[.a o.1.g]
 B _:=[]
 R _:=.ret (.c (.b true))
 B' _:=[]
 inj _ _ _ _ _ _ _ _:=⟨rfl,rfl⟩
theorem c4j:j4 3 e9f:=l9 (fun fn h=>e8z h) [(4,_),(5,_),(7,_),(6,_),(8,_)] (.cons d82 (.cons c6b (.cons c8a (.cons (c6g d09 d1a) (.cons (c6g d9a c8b) .nil))))) fun U fn hfn ⟨o,hs⟩ vs bs hv hb=>by
 have hfi:=hfn 4 _ rfl
 have hno:=hfn 5 _ rfl
 have hpk:=hfn 7 _ rfl
 have hpr:=hfn 6 _ rfl
 have hp6:=hfn 8 _ rfl
 have hv:j6 [.a o.g] vs:=hv
 have hb:RBs [] bs:=hb
 show g8 U _ fun v bs'=>j7 (.ret (.c (.b true))) v∧RBs [] bs'
 rw [o.g_eq] at hv
 have gq:∀ q,u3 [G.i .i64 o.k,.s o.nu,.s o.de,.s o.s.1,.s o.s.2,.s o.t,.l (o.ps.obs.map Ob.g)] q 0→u3 o.g q 0:=fun q h=>by rw [o.g_eq];exact h
 unfold r3
 (refine Zq ?_;intros)
 refine f9 hfi () (r:=.c (.b true)) rfl .nil .nil fun _ _ _ _=>?_
 (refine Zq ?_;intros)
 refine f9 hno ⟨o,trivial⟩ (r:=.c (.i .i64 (min o.nd 3001:Nat))) rfl (.k (.a _ _ _ rfl (gq _ aS)) .nil) .nil fun _ _ _ _=>?_
 (refine Zq ?_;with_reducible repeat' first|intro _|apply aI)
 all_goals try exact i7 ⟨.ret _ _ (.kn _),.nil⟩
 obtain ⟨s,z,hsz⟩:∃ (s:f6) (z:Int),prB a4y K9 o=.t [.c (.s s),.c (.i .i64 z)]:=by
  unfold prB
  split
  ·exact ⟨_,_,rfl⟩
  ·exact ⟨_,_,rfl⟩
 refine f9 hpk () (r:=.sl 2 (a4y.map pg)) rfl .nil .nil fun _ _ _ _=>?_
 (refine Zq ?_;intros)
 refine f9 hpr ⟨(a4y,K9,o),d1q,hs⟩ (r:=.t [.c (.s s),.c (.i .i64 z)]) (by show o8.ret (prB a4y K9 o)=_;rw [hsz]) (.k (.sl _ _ _ _ _ (by simp) aS) (.k (.s _ _ _ rfl (show _=j9 K9 by decide)) (.k (.a _ _ _ rfl (gq _ aS)) .nil))) .nil fun _ _ _ _=>?_
 (refine Zq ?_;intros)
 refine f9 hpk () (r:=.sl 2 (a4y.map pg)) rfl .nil .nil fun _ _ _ _=>?_
 (refine Zq ?_;intros)
 refine f9 hp6 ⟨(a4y,K9,o),d1q,hs⟩ (r:=.t [.c (.s s),.c (.i .i64 z)]) (by show o8.ret (prB a4y K9 o)=_;rw [hsz]) (.k (.sl _ _ _ _ _ (by simp) aS) (.k (.s _ _ _ rfl (show _=j9 K9 by decide)) (.k (.a _ _ _ rfl (gq _ aS)) .nil))) .nil fun _ _ _ _=>?_
 (refine Zq ?_;with_reducible repeat' first|intro _|apply aI)
 ·refine D5 fun e=>?_
  subst e
  exact ⟨.ret _ _ (M5 (by rw [a02];exact (decide_eq_true rfl).symm)),.nil⟩
 all_goals exact absurd rfl ‹¬s=s›
end
end Go.Proofs.YtgipbdffgfbedaaGreatDoor
