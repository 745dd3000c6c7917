/- Jxn -/
import Derived.Test.YtffaodopiifbkaaGreatDoorCL1
import Derived.Test.YtffaodopiifbkaaGreatDoorCJ7
set_option linter.all false
namespace Go.Proofs.YtffaodopiifbkaaGreatDoor
open Go.Abs LQ
noncomputable section
theorem e3i {L:List Pk} {cur:i6} {s:Sy} (hc:C8 L cur ≠ none) (h1:named s=true) (h2:H7 L s=true) (hl:(G2 L cur s).1.length≤6000):a84 L cur (G2 L cur s).1=.ok (.sy s) :=
 d7r (o:=.sy s) ⟨h1,h2⟩ (d00 hc (.sy s) ⟨h1,h2⟩).1 hl (by simp [O.size]) (by simp [dO])
set_option maxRecDepth 100000
set_option maxHeartbeats 8000000
def f4n (s:Sy):Prop:=(1≤s.1.length∧s.1.length≤40)∧40 < s.2.length
def g1i (A:Sy→List GV) (hA:∀ i j vs,l8 (A i) vs→l8 (A j) vs→True) (r:GV):Sp where
 ι:={ s:Sy // f4n s }
 A s:=A s.1
 B _:=[]
 R _:=.ret r
 B' _:=[]
 inj _ _ _ _ _ _ _ _:=⟨rfl,rfl⟩
abbrev d3y (A:Sy→List GV) (r:GV):Sp:=g1i A (fun _ _ _ _ _=>trivial) r
theorem e37:l5 170 (d3y (fun s=>[.a (sg s)]) (.c (.b false))):=n6 (fun fn h=>d1u h) [] .nil fun U fn hfn ⟨s,⟨h1,h2⟩,h3⟩ vs bs hv hb=>by
 have hv:l8 [.a [.s s.1,.s s.2]] vs:=hv
 have hb:j5 [] bs:=hb
 show j6 U _ fun v bs'=>l9 (.ret (.c (.b false))) v∧j5 [] bs'
 unfold d3e
 (refine Zy ?_;intros)
 refine O1 (fun vs bs=>∃ (b:Bool) (v:V) (q:Q),vs=[.ptr 0 0,v]∧bs=[.opa q 2]∧RV (.c (.b b)) v∧A8 [.s s.1,.s s.2] q 0∧(U=CU→b=true)) ?_ ?_
 ·rintro _ _ ⟨b,v,q,rfl,rfl,hvb,hq,hbe⟩
  refine fun e=>?_
  have hbe:=hbe e
  subst hbe
  refine (show j6 U _ _ from ?_) e
  (refine Zy ?_;intros)
  exact k9 ⟨.ret _ _ (.kn _),.nil⟩
 ·intro c hc
  (refine Zq ?_;with_reducible repeat' first|intro _|apply aI)
  ·exact hc _ _ ⟨true,_,_,rfl,rfl,.kn _,aS,fun _=>rfl⟩
  ·exact hc _ _ ⟨true,_,_,rfl,rfl,.kn _,aS,fun _=>rfl⟩
  ·exact hc _ _ ⟨true,_,_,rfl,rfl,.kn _,aS,fun _=>rfl⟩
  ·refine hc _ _ ⟨_,_,_,rfl,rfl,.b _,aS,fun e=>?_⟩
   subst e
   rw [b5w]
   exact decide_eq_true oM
theorem c9f:l5 141 (d3y (fun s=>[.a (syB s).g]) (.c (.b false))):=n6 (fun fn h=>d1q h) [(168,_),(170,_)] (.cons e5m (.cons e37 .nil)) fun U fn hfn ⟨s,hs⟩ vs bs hv hb=>by
 have hba:=hfn 168 _ rfl
 have hsy:=hfn 170 _ rfl
 have hv:l8 [.a [.i .i64 2,.s [],.s [],.s s.1,.s s.2,.s [],.l (([]:List Ob).map Ob.g)]] vs:=hv
 have hb:j5 [] bs:=hb
 show j6 U _ fun v bs'=>l9 (.ret (.c (.b false))) v∧j5 [] bs'
 unfold d5i
 (refine Zz ?_;intros)
 refine H0 (fun (_:Unit) vs bs=>∃ q:Q,vs=[.ptr 0 0]∧bs=[.opa q 7]∧A8 [.i .i64 2,.s [],.s [],.s s.1,.s s.2,.s [],.l (([]:List Ob).map Ob.g)] q 0) (fun _=>0) () ⟨_,rfl,rfl,aS⟩ (by simp only [C2];omega) ?_
 rintro self _ _ _ ⟨q,rfl,rfl,hq⟩ _
 (refine Zz ?_;intros)
 refine j3 hba (syB s,false,true,false) (r:=.c (.b true)) (by show s8.ret (.c (.b (G5 (syB s) false true false)))=_;simp [G5,syB]) (.k (.a _ _ _ rfl aS) (.k (.kn _) (.k (.kn _) (.k (.kn _) .nil)))) .nil fun _ _ _ _=>?_
 (refine Zz ?_;intros)
 (refine E2 (f:=Ob.g) aS (A3 Ob.g_len) fun _ _ _=>?_)
 (refine Zz ?_;intros)
 refine j3 hsy ⟨s,hs⟩ (r:=.c (.b false)) rfl (.k (d70 (gs:=List.drop 3 _) aS (by rfl) rfl) .nil) .nil fun _ _ _ _=>?_
 (refine Zz ?_;intros)
 exact k9 ⟨.ret _ _ (.b _),.nil⟩
theorem d36:l5 104 (d3y (fun s=>[.a (syB s).g]) (.c (.b false))):=n6 (fun fn h=>d1r h) [(89,_),(141,_)] (.cons c0x (.cons c9f .nil)) fun U fn hfn ⟨s,hs⟩ vs bs hv hb=>by
 have hn:=hfn 89 _ rfl
 have hf:=hfn 141 _ rfl
 have hv:l8 [.a [.i .i64 2,.s [],.s [],.s s.1,.s s.2,.s [],.l []]] vs:=hv
 have hb:j5 [] bs:=hb
 show j6 U _ fun v bs'=>l9 (.ret (.c (.b false))) v∧j5 [] bs'
 unfold d4t
 (refine Zz ?_;intros)
 refine j3 hn ⟨syB s,trivial⟩ (r:=.c (.i .i64 1)) rfl (.k (.a _ _ _ rfl aS) .nil) .nil fun _ _ _ _=>?_
 (refine Zz ?_;with_reducible repeat' first|intro _|apply aI)
 ·refine j3 hf ⟨s,hs⟩ (r:=.c (.b false)) rfl (.k (.a _ _ _ rfl aS) .nil) .nil fun _ _ _ _=>?_
  (refine Zz ?_;intros)
  exact k9 ⟨.ret _ _ (.b _),.nil⟩
 ·exact k9 ⟨.ret _ _ (.kn _),.nil⟩
theorem c91:l5 59 (d3y (fun s=>[.a (sg s)]) (.c (.b false))):=n6 (fun fn h=>d61 h) [(105,_),(104,_)] (.cons a63 (.cons d36 .nil)) fun U fn hfn ⟨s,hs'⟩ vs bs hv hb=>by
 have hs:=hfn 105 _ rfl
 have ho:=hfn 104 _ rfl
 have hv:l8 [.a (sg s)] vs:=hv
 have hb:j5 [] bs:=hb
 show j6 U _ fun v bs'=>l9 (.ret (.c (.b false))) v∧j5 [] bs'
 unfold r59
 (refine Zq ?_;intros)
 refine j3 hs s (r:=.a (syB s).g) rfl l6 .nil fun _ _ _ _=>?_
 (refine Zq ?_;intros)
 refine j3 ho ⟨s,hs'⟩ (r:=.c (.b false)) rfl (.k (.a _ _ _ rfl aS) .nil) .nil fun _ _ _ _=>?_
 (refine Zq ?_;intros)
 exact k9 ⟨.ret _ _ (.b _),.nil⟩
theorem d8t:l5 32 { ι:={ p:List Pk × i6 × Sy // K0 p.1∧f4n p.2.2 },A:=fun p=>[.sl 2 (p.1.1.map pg),.c (.s p.1.2.1),.a (sg p.1.2.2)],B:=fun _=>[],R:=fun _=>.ret (.t [.c (.s []),.c (.i .i64 1)]),B':=fun _=>[],inj:=fun _ _ _ _ _ _ _ _=>⟨rfl,rfl⟩ }:=n6 (fun fn h=>d6k h) [(59,_)] (.cons c91 .nil) fun U fn hfn ⟨(L,cur,s),hL,hs⟩ vs bs hv hb=>by
 have hva:=hfn 59 _ rfl
 have hv:l8 [.sl 2 (L.map pg),.c (.s cur),.a [.s s.1,.s s.2]] vs:=hv
 have hb:j5 [] bs:=hb
 show j6 U _ fun v bs'=>l9 (.ret (.t [.c (.s []),.c (.i .i64 1)])) v∧j5 [] bs'
 unfold r32
 (refine Zz ?_;intros)
 refine j3 hva ⟨s,hs⟩ (r:=.c (.b false)) rfl (.k (.a _ _ _ rfl aS) .nil) .nil fun _ _ _ _=>?_
 (refine Zz ?_;intros)
 exact k9 ⟨.ret _ _ l6,.nil⟩
theorem d3t (L:List Pk) (cur:i6) (s:Sy):(G2 L cur s).2 ≠ 0∨(G2 L cur s).2=0∧named s=true∧C8 L cur ≠ none∧H7 L s=true:=by
 unfold G2
 by_cases h1:named s=false
 ·rw [if_pos h1];exact .inl (show (1:Int) ≠ 0 by decide)
 ·rw [if_neg h1]
  by_cases h2:C8 L cur=none∨H7 L s=false
  ·rw [if_pos h2];exact .inl (show (13:Int) ≠ 0 by decide)
  ·rw [if_neg h2]
   have h3:H7 L s=true:=by
    cases h:H7 L s with
    | true=>rfl
    | false=>exact absurd (.inr h) h2
   refine .inr ⟨?_,by simpa using h1,fun h=>h2 (.inl h),h3⟩
   split <;> rfl
def nmS (name:i6) (other:Bool):Sy:=(if other=true then u1 else D1,name)
theorem d14 (name:i6) (other:Bool):(nmS name other).1.length=4:=by cases other <;> rfl
theorem f6j:RV (.c (.s u1)) (.str 4 1886611820):=.s _ _ _ rfl dE
theorem d5k:l5 14 { ι:=i6 × Int × Bool,A:=fun p=>[.c (.s p.1),.c (.i .i64 p.2.1),.c (.b p.2.2)],B:=fun _=>[],R:=fun _=>.ret (.c (.b true)),B':=fun _=>[],inj:=fun _ _ _ _ _ _ _ _=>⟨rfl,rfl⟩ }:=fun ⟨name,n,other⟩=>by
 by_cases hlen:name.length≤40
 ·refine n6 (sp:={ ι:={ p:i6 × Int × Bool // p.1.length≤40 },A:=fun p=>[.c (.s p.1.1),.c (.i .i64 p.1.2.1),.c (.b p.1.2.2)],B:=fun _=>[],R:=fun _=>.ret (.c (.b true)),B':=fun _=>[],inj:=fun _ _ _ _ _ _ _ _=>⟨rfl,rfl⟩ }) (fun fn h=>d6l h) [(30,_),(33,_),(34,_),(32,_),(19,_),(43,_),(22,_)] (.cons b30 (.cons a5r (.cons c66 (.cons d6v (.cons d43 (.cons b4p (.cons d7t .nil))))))) (fun U fn hfn ⟨(name,n,other),hlen⟩ vs bs hv hb=>?_) ⟨(name,n,other),hlen⟩
  have hfi:=hfn 30 _ rfl
  have hpk:=hfn 33 _ rfl
  have hwh:=hfn 34 _ rfl
  have hnm:=hfn 32 _ rfl
  have hon:=hfn 19 _ rfl
  have hsy:=hfn 43 _ rfl
  have heq:=hfn 22 _ rfl
  have hlen:name.length≤40:=hlen
  have hv:l8 [.c (.s name),.c (.i .i64 n),.c (.b other)] vs:=hv
  have hb:j5 [] bs:=hb
  show j6 U _ fun v bs'=>l9 (.ret (.c (.b true))) v∧j5 [] bs'
  unfold r14
  have n4:=d14 name other
  have n2:(nmS name other).2=name:=rfl
  have hnl:=a19 D2 (F5 n) (nmS name other)
  have hs2:(nmS name other).2.length≤40:=hlen
  (refine Zy ?_;intros)
  refine j3 hfi () (r:=.c (.b true)) rfl .nil .nil fun _ _ _ _=>?_
  (refine Zy ?_;intros)
  refine O1 (fun vs bs=>∃ (b0:Bx),vs=[.int .i64 n,.ptr 0 0]∧bs=[b0]∧RB [.s (nmS name other).1,.s (nmS name other).2] b0) ?_ ?_
  ·rintro _ _ ⟨b0,rfl,rfl,hb0⟩
   generalize nmS name other=s at *
   (refine Zz ?_;intros)
   refine j3 hpk () (r:=.sl 2 (D2.map pg)) rfl .nil .nil fun _ _ _ _=>?_
   (refine Zz ?_;intros)
   refine j3 hwh n (r:=.c (.s (F5 n))) rfl (.k (.i _ _) .nil) .nil fun _ _ _ _=>?_
   (refine Zz ?_;intros)
   rcases d3t D2 (F5 n) s with h | ⟨h0,h1,h2,h3⟩
   ·obtain ⟨X,hX⟩:∃ X,G2 D2 (F5 n) s=X:=⟨_,rfl⟩
    rw [hX] at h
    refine j3 hnm ⟨(D2,F5 n,s),X5,by show s.1.length < 90000;omega,by show s.2.length < 90000;omega⟩ (r:=.t [.c (.s X.1),.c (.i .i64 X.2)]) (by show s8.ret (b1k _)=_;rw [hX];rfl) (.k (.sl _ _ _ _ _ (by simp) aS) (.k (.s _ _ _ rfl rfl) (.k (.a _ _ _ rfl aS) .nil))) .nil fun _ _ _ _=>?_
    (refine Zz ?_;with_reducible repeat' first|intro _|apply aI)
    ·exact absurd ‹X.2=0› h
    ·exact k9 ⟨.ret _ _ (.kn _),.nil⟩
   ·have hon1:=c61 (e3i (L:=D2) (cur:=F5 n) h2 h1 h3 oM)
    obtain ⟨X,hX⟩:∃ X,G2 D2 (F5 n) s=(X,0):=⟨_,Prod.ext rfl h0⟩
    rw [hX] at hon1 hnl
    have hnl:X.length≤s.1.length+2 * s.2.length+4:=hnl
    refine j3 hnm ⟨(D2,F5 n,s),X5,by show s.1.length < 90000;omega,by show s.2.length < 90000;omega⟩ (r:=.t [.c (.s X),.c (.i .i64 0)]) (by show s8.ret (b1k _)=_;rw [hX];rfl) (.k (.sl _ _ _ _ _ (by simp) aS) (.k (.s _ _ _ rfl rfl) (.k (.a _ _ _ rfl aS) .nil))) .nil fun _ _ _ _=>?_
    (refine Zz ?_;intros)
    refine j3 hpk () (r:=.sl 2 (D2.map pg)) rfl .nil .nil fun _ _ _ _=>?_
    (refine Zz ?_;intros)
    refine j3 hwh n (r:=.c (.s (F5 n))) rfl (.k (.i _ _) .nil) .nil fun _ _ _ _=>?_
    (refine Zz ?_;intros)
    refine j3 hon ⟨(D2,F5 n,X),X5,by show X.length < 8000;omega⟩ (r:=.t [.a (O.sy s).g,.a [.i .i64 0,.i .i64 0]]) hon1 (.k (.sl _ _ _ _ _ (by simp) aS) (.k (.s _ _ _ rfl rfl) (.k (.s _ _ _ rfl rfl) .nil))) .nil fun _ _ _ _=>?_
    (refine Zz ?_;intros)
    refine j3 hsy s (r:=.a (O.sy s).g) rfl (.k (.a _ _ _ rfl aS) .nil) .nil fun _ _ _ _=>?_
    (refine Zz ?_;intros)
    refine j3 heq (O.sy s,O.sy s) (r:=.c (.b true)) (congrArg (fun b=>s8.ret (.c (.b b))) (O.eqb_t.2 rfl)) (.k oV oA) .nil fun _ _ _ _=>?_
    (refine Zz ?_;intros)
    exact k9 ⟨.ret _ _ (.b _),.nil⟩
  ·intro c hc
   (refine Zz ?_;with_reducible repeat' first|intro _|apply aI)
   ·have e:nmS name other=(u1,name):=by unfold nmS;rw [if_pos ‹other=true›]
    rw [e] at hc
    exact hc _ _ ⟨_,rfl,rfl,.cells _ _ (.k f6j (.k (.s _ _ _ rfl rfl) .nil))⟩
   ·have e:nmS name other=(D1,name):=by unfold nmS;rw [if_neg ‹¬other=true›]
    rw [e] at hc
    exact hc _ _ ⟨_,rfl,rfl,.cells _ _ (.k rvU (.k (.s _ _ _ rfl rfl) .nil))⟩
 ·refine n6 (sp:={ ι:={ p:i6 × Int × Bool // ¬p.1.length≤40 },A:=fun p=>[.c (.s p.1.1),.c (.i .i64 p.1.2.1),.c (.b p.1.2.2)],B:=fun _=>[],R:=fun _=>.ret (.c (.b true)),B':=fun _=>[],inj:=fun _ _ _ _ _ _ _ _=>⟨rfl,rfl⟩ }) (fun fn h=>d6l h) [(30,_),(33,_),(34,_),(32,_)] (.cons b30 (.cons a5r (.cons c66 (.cons d8t .nil)))) (fun U fn hfn ⟨(name,n,other),hlen⟩ vs bs hv hb=>?_) ⟨(name,n,other),hlen⟩
  have hfi:=hfn 30 _ rfl
  have hpk:=hfn 33 _ rfl
  have hwh:=hfn 34 _ rfl
  have hnm:=hfn 32 _ rfl
  have hlen:¬name.length≤40:=hlen
  have hv:l8 [.c (.s name),.c (.i .i64 n),.c (.b other)] vs:=hv
  have hb:j5 [] bs:=hb
  show j6 U _ fun v bs'=>l9 (.ret (.c (.b true))) v∧j5 [] bs'
  unfold r14
  have n4:=d14 name other
  have hs2:40 < (nmS name other).2.length:=by show 40 < name.length;omega
  (refine Zy ?_;intros)
  refine j3 hfi () (r:=.c (.b true)) rfl .nil .nil fun _ _ _ _=>?_
  (refine Zy ?_;intros)
  refine O1 (fun vs bs=>∃ (b0:Bx),vs=[.int .i64 n,.ptr 0 0]∧bs=[b0]∧RB [.s (nmS name other).1,.s (nmS name other).2] b0) ?_ ?_
  ·rintro _ _ ⟨b0,rfl,rfl,hb0⟩
   generalize nmS name other=s at *
   (refine Zz ?_;intros)
   refine j3 hpk () (r:=.sl 2 (D2.map pg)) rfl .nil .nil fun _ _ _ _=>?_
   (refine Zz ?_;intros)
   refine j3 hwh n (r:=.c (.s (F5 n))) rfl (.k (.i _ _) .nil) .nil fun _ _ _ _=>?_
   (refine Zz ?_;intros)
   refine j3 hnm ⟨(D2,F5 n,s),X5,⟨show 1≤s.1.length by omega,show s.1.length≤40 by omega⟩,hs2⟩ (r:=.t [.c (.s []),.c (.i .i64 1)]) rfl (.k (.sl _ _ _ _ _ (by simp) aS) (.k (.s _ _ _ rfl rfl) (.k (.a _ _ _ rfl aS) .nil))) .nil fun _ _ _ _=>?_
   (refine Zz ?_;intros)
   exact k9 ⟨.ret _ _ (.kn _),.nil⟩
  ·intro c hc
   (refine Zz ?_;with_reducible repeat' first|intro _|apply aI)
   ·have e:nmS name other=(u1,name):=by unfold nmS;rw [if_pos ‹other=true›]
    rw [e] at hc
    exact hc _ _ ⟨_,rfl,rfl,.cells _ _ (.k f6j (.k (.s _ _ _ rfl rfl) .nil))⟩
   ·have e:nmS name other=(D1,name):=by unfold nmS;rw [if_neg ‹¬other=true›]
    rw [e] at hc
    exact hc _ _ ⟨_,rfl,rfl,.cells _ _ (.k rvU (.k (.s _ _ _ rfl rfl) .nil))⟩
end
end Go.Proofs.YtffaodopiifbkaaGreatDoor
