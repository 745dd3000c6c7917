/- Packages and symbols: the program's and the reference's. -/
import Derived.Test.YtffaodopiifbkaaGreatDoorCEF
set_option linter.all false
namespace Go.Proofs.YtffaodopiifbkaaGreatDoor
open Go.Abs LQ
set_option maxRecDepth 100000
set_option maxHeartbeats 4000000
noncomputable section
theorem a64:∀ {l m:List Sy},l.map sg=m.map sg→l=m
 | [],[],_=>rfl
 | [],_ :: _,h=>by simp at h
 | _ :: _,[],h=>by simp at h
 | a :: l,b :: m,h=>by simp only [List.map_cons,List.cons.injEq] at h;rw [b0y h.1,a64 h.2]
theorem e7l {a b:Pk} (h:pg a=pg b):a=b:=by
 simp only [pg,List.cons.injEq,G.s.injEq,G.l.injEq,and_true] at h
 exact Prod.ext h.1 (a64 h.2)
theorem a2a:∀ {l m:List Pk},l.map pg=m.map pg→l=m
 | [],[],_=>rfl
 | [],_ :: _,h=>by simp at h
 | _ :: _,[],h=>by simp at h
 | a :: l,b :: m,h=>by simp only [List.map_cons,List.cons.injEq] at h;rw [e7l h.1,a2a h.2]
def L9 (L:List Pk):Prop:=L.length < 90000∧∀ p ∈ L,p.2.length < 90000
def e5e (g:List Pk→j0→GV):Sp where
 ι:={ p:List Pk × j0 // L9 p.1 }
 A p:=[.sl 2 (p.1.1.map pg),.c (.s p.1.2)]
 B _:=[]
 R p:=.ret (g p.1.1 p.1.2)
 B' _:=[]
 inj i j vs bs h k _ _:=by
  obtain ⟨_,_,h1,k1,h,k⟩:=h.two k
  obtain ⟨_,_,h2,k2,h,k⟩:=h.two k
  rw [a2a (h1.sl_inj k1),F1 h2 k2];exact ⟨rfl,rfl⟩
def d9h (g:List Pk→j0→j0→GV):Sp where
 ι:={ p:List Pk × j0 × j0 // L9 p.1 }
 A p:=[.sl 2 (p.1.1.map pg),.c (.s p.1.2.1),.c (.s p.1.2.2)]
 B _:=[]
 R p:=.ret (g p.1.1 p.1.2.1 p.1.2.2)
 B' _:=[]
 inj i j vs bs h k _ _:=by
  obtain ⟨_,_,h1,k1,h,k⟩:=h.two k
  obtain ⟨_,_,h2,k2,h,k⟩:=h.two k
  obtain ⟨_,_,h3,k3,h,k⟩:=h.two k
  rw [a2a (h1.sl_inj k1),F1 h2 k2,F1 h3 k3];exact ⟨rfl,rfl⟩
def e97 (g:List Pk→Sy→GV):Sp where
 ι:={ p:List Pk × Sy // L9 p.1 }
 A p:=[.sl 2 (p.1.1.map pg),.a (sg p.1.2)]
 B _:=[]
 R p:=.ret (g p.1.1 p.1.2)
 B' _:=[]
 inj i j vs bs h k _ _:=by
  obtain ⟨_,_,h1,k1,h,k⟩:=h.two k
  obtain ⟨_,_,h2,k2,h,k⟩:=h.two k
  rw [a2a (h1.sl_inj k1),b0y (h2.a_inj k2)];exact ⟨rfl,rfl⟩
def d9m (g:List Pk→j0→Sy→GV):Sp where
 ι:={ p:List Pk × j0 × Sy // L9 p.1 }
 A p:=[.sl 2 (p.1.1.map pg),.c (.s p.1.2.1),.a (sg p.1.2.2)]
 B _:=[]
 R p:=.ret (g p.1.1 p.1.2.1 p.1.2.2)
 B' _:=[]
 inj i j vs bs h k _ _:=by
  obtain ⟨_,_,h1,k1,h,k⟩:=h.two k
  obtain ⟨_,_,h2,k2,h,k⟩:=h.two k
  obtain ⟨_,_,h3,k3,h,k⟩:=h.two k
  rw [a2a (h1.sl_inj k1),F1 h2 k2,b0y (h3.a_inj k3)];exact ⟨rfl,rfl⟩
def O6 (L:List Pk) (n:j0):GV:=match K6 L n with
 | some p=>.t [.a (pg p),.c (.b true)]
 | none=>.t [.a [.s [],.l []],.c (.b false)]
theorem c3y {L:List Pk} {n:j0} {i:Nat} (h:i < L.length) (hn:L[i].1=n):K6 (L.drop i) n=some L[i]:=by
 rw [List.drop_eq_getElem_cons h,K6,if_pos hn]
theorem c7g {L:List Pk} {n:j0} {i:Nat} (h:i < L.length) (hn:¬L[i].1=n):K6 (L.drop i) n=K6 (L.drop (i+1)) n:=by
 rw [List.drop_eq_getElem_cons h,K6,if_neg hn]
theorem c2o {L:List Pk} {n:j0} {i:Nat} (h:¬i < L.length):K6 (L.drop i) n=none:=by
 rw [List.drop_eq_nil_of_le oM];rfl
theorem e5t:l6 60 (e5e O6):=o7 (fun fn h=>e6p h) [] .nil fun U fn hfn ⟨(L,nm),hL⟩ vs bs hv hb=>by
 have hL:L9 L:=hL
 have hl:L.length < 90000:=hL.1
 have hv:l8 [.sl 2 (L.map pg),.c (.s nm)] vs:=hv
 have hb:RBs [] bs:=hb
 show j3 U _ fun v bs'=>l7 (.ret (O6 L nm)) v∧RBs [] bs'
 unfold r60
 (refine Zq ?_;intros)
 refine C7 (fun (i:Nat) vs bs=>∃ (t:j9 Q) (off:Nat),vs=[.str nm.length (m8 nm),.ptr 0 0,.slice t 2 off L.length .no,.int .i64 L.length,.int .i64 i]∧bs=[.cells [.str 0 0,.slice .nil 0 0 0 .exact]]∧p5 2 (L.map pg) t off∧i≤L.length∧K6 (L.drop i) nm=K6 L nm) (fun i=>L.length - i) 0 ⟨_,_,rfl,rfl,aS,Nat.zero_le _,rfl⟩ (by simp only [x8];omega) ?_
 rintro self i _ _ ⟨t,off,rfl,rfl,ht,hi,he⟩ ih
 (refine Zq ?_;with_reducible repeat' first|intro _|apply aI)
 ·have hi2:i < L.length:=oM
  have e:L[i].1=nm:=‹_›
  unfold O6
  rw [← he,c3y hi2 e]
  exact k9 ⟨.ret _ _ (.t _ _ (.k (.a _ _ _ rfl aS) (.k (.kn _) .nil))),.nil⟩
 ·have hi2:i < L.length:=oM
  have e:¬L[i].1=nm:=‹_›
  exact ih (i+1) _ _ ⟨_,_,rfl,rfl,ht,oM,by rw [← he,c7g hi2 e]⟩ oM
 ·unfold O6
  rw [← he,c2o oM]
  exact k9 ⟨.ret _ _ (.t _ _ (.k (.ag _ _ j7) (.k (.kn _) .nil))),.nil⟩
theorem d3c:l6 65 (e5e O6):=o7 (fun fn h=>e42 h) [] .nil fun U fn hfn ⟨(L,nm),hL⟩ vs bs hv hb=>by
 have hL:L9 L:=hL
 have hl:L.length < 90000:=hL.1
 have hv:l8 [.sl 2 (L.map pg),.c (.s nm)] vs:=hv
 have hb:RBs [] bs:=hb
 show j3 U _ fun v bs'=>l7 (.ret (O6 L nm)) v∧RBs [] bs'
 unfold r65
 (refine Zq ?_;intros)
 refine C7 (fun (i:Nat) vs bs=>∃ (t:j9 Q) (off:Nat),vs=[.slice t 2 off L.length .no,.str nm.length (m8 nm),.ptr 0 0,.int .i64 i]∧bs=[.cells [.str 0 0,.slice .nil 0 0 0 .exact]]∧p5 2 (L.map pg) t off∧i≤L.length∧K6 (L.drop i) nm=K6 L nm) (fun i=>L.length - i) 0 ⟨_,_,rfl,rfl,aS,Nat.zero_le _,rfl⟩ (by simp only [x8];omega) ?_
 rintro self i _ _ ⟨t,off,rfl,rfl,ht,hi,he⟩ ih
 (refine Zq ?_;with_reducible repeat' first|intro _|apply aI)
 ·have hi2:i < L.length:=oM
  have e:L[i].1=nm:=‹_›
  unfold O6
  rw [← he,c3y hi2 e]
  exact k9 ⟨.ret _ _ (.t _ _ (.k (.a _ _ _ rfl aS) (.k (.kn _) .nil))),.nil⟩
 ·have hi2:i < L.length:=oM
  have e:¬L[i].1=nm:=‹_›
  exact ih (i+1) _ _ ⟨_,_,rfl,rfl,ht,oM,by rw [← he,c7g hi2 e]⟩ oM
 ·unfold O6
  rw [← he,c2o oM]
  exact k9 ⟨.ret _ _ (.t _ _ (.k (.ag _ _ j7) (.k (.kn _) .nil))),.nil⟩
def a42 (L:List Pk) (c n:j0):GV:=.t [.a (sg (y4 L c n).1),.c (.i .i64 (y4 L c n).2)]
theorem c6z {l:List Sy} {n:j0} {i:Nat} (h:i < l.length) (hn:l[i].2=n):a10 (l.drop i) n=some l[i]:=by
 rw [List.drop_eq_getElem_cons h,a10,if_pos hn]
theorem d16 {l:List Sy} {n:j0} {i:Nat} (h:i < l.length) (hn:¬l[i].2=n):a10 (l.drop i) n=a10 (l.drop (i+1)) n:=by
 rw [List.drop_eq_getElem_cons h,a10,if_neg hn]
theorem c8b {l:List Sy} {n:j0} {i:Nat} (h:¬i < l.length):a10 (l.drop i) n=none:=by
 rw [List.drop_eq_nil_of_le oM];rfl
theorem b95 {L:List Pk} {n:j0} {p:Pk} (h:K6 L n=some p):p ∈ L∧p.1=n:=by
 induction L with
 | nil=>cases h
 | cons q L ih =>
  rw [K6] at h
  split at h
  ·rename_i e;injection h with h;subst h;exact ⟨by simp,e⟩
  ·have:=ih h;exact ⟨by simp [this.1],this.2⟩
theorem a1n (s:Sy):(sg s).length=2:=rfl
theorem b3j {L:List Pk} {c n:j0} (h:K6 L c=none):y4 L c n=(([],[]),13):=by unfold y4;rw [h]
theorem a4j {L:List Pk} {c n:j0} {p:Pk} (h:K6 L c=some p) (hn:n.length < 1∨40 < n.length):y4 L c n=(([],[]),3):=by unfold y4;rw [h];simp only [];rw [if_pos hn]
theorem b67 {L:List Pk} {c n:j0} {p:Pk} {s:Sy} (h:K6 L c=some p) (hn:¬(n.length < 1∨40 < n.length)) (hi:a10 p.2 n=some s):y4 L c n=(s,0):=by unfold y4;rw [h];simp only [];rw [if_neg hn,hi]
theorem b6c {L:List Pk} {c n:j0} {p:Pk} (h:K6 L c=some p) (hn:¬(n.length < 1∨40 < n.length)) (hi:a10 p.2 n=none):y4 L c n=((c,n),0):=by unfold y4;rw [h];simp only [];rw [if_neg hn,hi]
theorem K8 {L:List Pk} {c n:j0} {r:Sy × Int} (h:y4 L c n=r):a42 L c n=.t [.a (sg r.1),.c (.i .i64 r.2)]:=by unfold a42;rw [h]
theorem c2f:l6 106 (d9h a42):=o7 (fun fn h=>e0h h) [(60,_)] (.cons e5t .nil) fun U fn hfn ⟨(L,cur,nm),hL⟩ vs bs hv hb=>by
 have hf:=hfn 60 _ rfl
 have hL:L9 L:=hL
 have hv:l8 [.sl 2 (L.map pg),.c (.s cur),.c (.s nm)] vs:=hv
 have hb:RBs [] bs:=hb
 show j3 U _ fun v bs'=>l7 (.ret (a42 L cur nm)) v∧RBs [] bs'
 unfold d4r
 (refine Zq ?_;with_reducible repeat' first|intro _|apply aI)
 cases hp:K6 L cur with
 | none =>
  refine i6 hf ⟨(L,cur),hL⟩ (r:=.t [.a [.s [],.l []],.c (.b false)]) (by show t7.ret (O6 L cur)=_;unfold O6;rw [hp]) (.k (.sl _ _ _ _ _ (by simp) aS) j7) .nil fun _ _ _ _=>?_
  (refine Zq ?_;intros)
  rw [K8 (b3j hp)]
  exact k9 ⟨.ret _ _ (.t _ _ (.k (.ag _ _ j7) (.k (.i _ _) .nil))),.nil⟩
 | some p =>
  refine i6 hf ⟨(L,cur),hL⟩ (r:=.t [.a (pg p),.c (.b true)]) (by show t7.ret (O6 L cur)=_;unfold O6;rw [hp]) (.k (.sl _ _ _ _ _ (by simp) aS) j7) .nil fun _ _ hv9 _=>?_
  have hv9:RV (.t [.a [.s p.1,.l (p.2.map sg)],.c (.b true)]) _:=hv9
  have hpl:=hL.2 p (b95 hp).1
  (refine Zq ?_;with_reducible repeat' first|intro _|apply aI)
  all_goals
   refine X8 (gs:=[.s [],.s []]) (.cells _ _ j7) rfl fun _ _=>?_
   (refine Zq ?_;with_reducible repeat' first|intro _|apply aI)
  ·rw [K8 (a4j hp (.inl oM))]
   exact k9 ⟨.ret _ _ (.t _ _ (.k (.ag _ _ j7) (.k (.i _ _) .nil))),.nil⟩
  ·rw [K8 (a4j hp (.inr oM))]
   exact k9 ⟨.ret _ _ (.t _ _ (.k (.ag _ _ j7) (.k (.i _ _) .nil))),.nil⟩
  (refine D1 (f:=sg) aS (w8 a1n) fun _ _ _=>?_)
  (refine Zq ?_;intros)
  have hnm:¬(nm.length < 1∨40 < nm.length):=oM
  refine C7 (fun (i:Nat) vs bs=>∃ (x q:Q),vs=[.str cur.length (m8 cur),.str nm.length (m8 nm),.ptr 0 0,.q x,.int .i64 p.2.length,.int .i64 i]∧bs=[.opa q 2]∧RG (.l (p.2.map sg)) x∧x4 [.s [],.s []] q 0∧i≤p.2.length∧a10 (p.2.drop i) nm=a10 p.2 nm) (fun i=>p.2.length - i) 0 ⟨_,_,rfl,rfl,aS,aS,Nat.zero_le _,rfl⟩ (by simp only [x8];omega) ?_
  rintro self i _ _ ⟨x,q,rfl,rfl,hx,hq,hi,he⟩ ih
  (refine Zq ?_;intros)
  refine sQV ?_
  (refine Zq ?_;with_reducible repeat' first|intro _|apply aI)
  ·(refine D1 (f:=sg) aS (w8 a1n) fun _ _ _=>?_)
   (refine Zq ?_;with_reducible repeat' first|intro _|apply aI)
   ·have hi2:i < p.2.length:=oM
    have e:p.2[i].2=nm:=‹_›
    rw [K8 (b67 hp hnm (by rw [← he,c6z hi2 e]))]
    exact k9 ⟨.ret _ _ (.t _ _ (.k (.a _ _ _ rfl aS) (.k (.i _ _) .nil))),.nil⟩
   ·have hi2:i < p.2.length:=oM
    have e:¬p.2[i].2=nm:=‹_›
    exact ih (i+1) _ _ ⟨_,_,rfl,rfl,hx,aS,oM,by rw [← he,d16 hi2 e]⟩ oM
  ·rw [K8 (b6c hp hnm (by rw [← he,c8b oM]))]
   exact k9 ⟨.ret _ _ (.t _ _ (.k (.ag _ _ j7) (.k (.i _ _) .nil))),.nil⟩
theorem c43:l6 91 (d9h a42):=o7 (fun fn h=>e8k h) [(65,_)] (.cons d3c .nil) fun U fn hfn ⟨(L,cur,nm),hL⟩ vs bs hv hb=>by
 have hf:=hfn 65 _ rfl
 have hL:L9 L:=hL
 have hv:l8 [.sl 2 (L.map pg),.c (.s cur),.c (.s nm)] vs:=hv
 have hb:RBs [] bs:=hb
 show j3 U _ fun v bs'=>l7 (.ret (a42 L cur nm)) v∧RBs [] bs'
 unfold r91
 (refine Zq ?_;with_reducible repeat' first|intro _|apply aI)
 cases hp:K6 L cur with
 | none =>
  refine i6 hf ⟨(L,cur),hL⟩ (r:=.t [.a [.s [],.l []],.c (.b false)]) (by show t7.ret (O6 L cur)=_;unfold O6;rw [hp]) (.k (.sl _ _ _ _ _ (by simp) aS) j7) .nil fun _ _ _ _=>?_
  (refine Zq ?_;intros)
  rw [K8 (b3j hp)]
  exact k9 ⟨.ret _ _ (.t _ _ (.k (.ag _ _ j7) (.k (.i _ _) .nil))),.nil⟩
 | some p =>
  refine i6 hf ⟨(L,cur),hL⟩ (r:=.t [.a (pg p),.c (.b true)]) (by show t7.ret (O6 L cur)=_;unfold O6;rw [hp]) (.k (.sl _ _ _ _ _ (by simp) aS) j7) .nil fun _ _ hv9 _=>?_
  have hv9:RV (.t [.a [.s p.1,.l (p.2.map sg)],.c (.b true)]) _:=hv9
  have hpl:=hL.2 p (b95 hp).1
  (refine Zq ?_;with_reducible repeat' first|intro _|apply aI)
  all_goals
   refine X8 (gs:=[.s [],.s []]) (.cells _ _ j7) rfl fun _ _=>?_
   (refine Zq ?_;with_reducible repeat' first|intro _|apply aI)
  ·rw [K8 (a4j hp (.inl oM))]
   exact k9 ⟨.ret _ _ (.t _ _ (.k (.ag _ _ j7) (.k (.i _ _) .nil))),.nil⟩
  ·rw [K8 (a4j hp (.inr oM))]
   exact k9 ⟨.ret _ _ (.t _ _ (.k (.ag _ _ j7) (.k (.i _ _) .nil))),.nil⟩
  have hnm:¬(nm.length < 1∨40 < nm.length):=oM
  refine C7 (fun (i:Nat) vs bs=>∃ (x q:Q),vs=[.str cur.length (m8 cur),.str nm.length (m8 nm),.ptr 0 0,.ptr 1 0,.int .i64 i]∧bs=[.opa q 2,.opa x 2]∧x4 [.s p.1,.l (p.2.map sg)] x 0∧x4 [.s [],.s []] q 0∧i≤p.2.length∧a10 (p.2.drop i) nm=a10 p.2 nm) (fun i=>p.2.length - i) 0 ⟨_,_,rfl,rfl,aS,aS,Nat.zero_le _,rfl⟩ (by simp only [x8];omega) ?_
  rintro self i _ _ ⟨x,q,rfl,rfl,hx,hq,hi,he⟩ ih
  (refine Zq ?_;intros)
  (refine D1 (f:=sg) aS (w8 a1n) fun _ _ _=>?_)
  (refine Zq ?_;with_reducible repeat' first|intro _|apply aI)
  ·(refine D1 (f:=sg) aS (w8 a1n) fun _ _ _=>?_)
   (refine Zq ?_;with_reducible repeat' first|intro _|apply aI)
   ·(refine D1 (f:=sg) aS (w8 a1n) fun _ _ _=>?_)
    (refine Zq ?_;intros)
    have hi2:i < p.2.length:=oM
    have e:p.2[i].2=nm:=‹_›
    rw [K8 (b67 hp hnm (by rw [← he,c6z hi2 e]))]
    exact k9 ⟨.ret _ _ (.t _ _ (.k (.a _ _ _ rfl aS) (.k (.i _ _) .nil))),.nil⟩
   ·have hi2:i < p.2.length:=oM
    have e:¬p.2[i].2=nm:=‹_›
    exact ih (i+1) _ _ ⟨_,_,rfl,rfl,hx,aS,oM,by rw [← he,d16 hi2 e]⟩ oM
  ·rw [K8 (b6c hp hnm (by rw [← he,c8b oM]))]
   exact k9 ⟨.ret _ _ (.t _ _ (.k (.ag _ _ j7) (.k (.i _ _) .nil))),.nil⟩
theorem f00:l6 62 (d9m fun L c s=>.c (.b (b31 L c s))):=o7 (fun fn h=>e90 h) [(106,_)] (.cons c2f .nil) fun U fn hfn ⟨(L,cur,s),hL⟩ vs bs hv hb=>by
 have hi:=hfn 106 _ rfl
 have hL:L9 L:=hL
 have hv:l8 [.sl 2 (L.map pg),.c (.s cur),.a [.s s.1,.s s.2]] vs:=hv
 have hb:RBs [] bs:=hb
 show j3 U _ fun v bs'=>l7 (.ret (.c (.b (b31 L cur s)))) v∧RBs [] bs'
 unfold r62
 (refine Zq ?_;intros)
 refine i6 hi ⟨(L,cur,s.2),hL⟩ (r:=.t [.a (sg (y4 L cur s.2).1),.c (.i .i64 (y4 L cur s.2).2)]) rfl (.k (.sl _ _ _ _ _ (by simp) aS) j7) .nil fun _ _ hv9 _=>?_
 have hv9:RV (.t [.a [.s (y4 L cur s.2).1.1,.s (y4 L cur s.2).1.2],.c (.i .i64 (y4 L cur s.2).2)]) _:=hv9
 unfold b31
 generalize y4 L cur s.2=r at *
 obtain ⟨⟨r1,r2⟩,e⟩:=r
 obtain ⟨s1,s2⟩:=s
 (refine Zq ?_;with_reducible repeat' first|intro _|apply aI)
 ·have h0:e=0:=‹_›
  refine I7 fun e9=>?_
  subst e9
  refine ⟨.ret _ _ (J3 ?_),.nil⟩
  rw [b11,b11,cuS,cuS,Bool.eq_iff_iff]
  simp only [Bool.and_true,Bool.and_eq_true,decide_eq_true_iff,Prod.mk.injEq]
  exact ⟨fun h=>h.2,fun h=>⟨h0,h⟩⟩
 ·exact k9 ⟨.ret _ _ (I8 (decide_eq_false (fun h=>‹¬e=0› h.1))),.nil⟩
theorem f7u:l6 61 (e97 fun L s=>.c (.b (a1p L s))):=o7 (fun fn h=>e7n h) [(62,_)] (.cons f00 .nil) fun U fn hfn ⟨(L,s),hL⟩ vs bs hv hb=>by
 have hi:=hfn 62 _ rfl
 have hL:L9 L:=hL
 have hv:l8 [.sl 2 (L.map pg),.a [.s s.1,.s s.2]] vs:=hv
 have hb:RBs [] bs:=hb
 show j3 U _ fun v bs'=>l7 (.ret (.c (.b (a1p L s)))) v∧RBs [] bs'
 unfold r61
 (refine Zq ?_;intros)
 refine i6 hi ⟨(L,s.1,s),hL⟩ (r:=.c (.b (a1p L s))) rfl (.k (.sl _ _ _ _ _ (by simp) aS) (.k (.q _ _ aS) (.k (.a _ _ _ rfl aS) .nil))) .nil fun _ _ _ _=>?_
 (refine Zq ?_;intros)
 exact k9 ⟨.ret _ _ (.b _),.nil⟩
theorem f2x:l6 67 (d9m fun L c s=>.c (.b (b31 L c s))):=o7 (fun fn h=>e6h h) [(91,_)] (.cons c43 .nil) fun U fn hfn ⟨(L,cur,s),hL⟩ vs bs hv hb=>by
 have hi:=hfn 91 _ rfl
 have hL:L9 L:=hL
 have hv:l8 [.sl 2 (L.map pg),.c (.s cur),.a [.s s.1,.s s.2]] vs:=hv
 have hb:RBs [] bs:=hb
 show j3 U _ fun v bs'=>l7 (.ret (.c (.b (b31 L cur s)))) v∧RBs [] bs'
 unfold r67
 (refine Zq ?_;intros)
 refine i6 hi ⟨(L,cur,s.2),hL⟩ (r:=.t [.a (sg (y4 L cur s.2).1),.c (.i .i64 (y4 L cur s.2).2)]) rfl (.k (.sl _ _ _ _ _ (by simp) aS) j7) .nil fun _ _ hv9 _=>?_
 have hv9:RV (.t [.a [.s (y4 L cur s.2).1.1,.s (y4 L cur s.2).1.2],.c (.i .i64 (y4 L cur s.2).2)]) _:=hv9
 unfold b31
 generalize y4 L cur s.2=r at *
 obtain ⟨⟨r1,r2⟩,e⟩:=r
 obtain ⟨s1,s2⟩:=s
 (refine Zq ?_;with_reducible repeat' first|intro _|apply aI)
 ·have h0:e=0:=‹_›
  refine I7 fun e9=>?_
  subst e9
  refine ⟨.ret _ _ (J3 ?_),.nil⟩
  rw [b11,b11,cuS,cuS,Bool.eq_iff_iff]
  simp only [Bool.and_true,Bool.and_eq_true,decide_eq_true_iff,Prod.mk.injEq]
  exact ⟨fun h=>h.2,fun h=>⟨h0,h⟩⟩
 ·exact k9 ⟨.ret _ _ (I8 (decide_eq_false (fun h=>‹¬e=0› h.1))),.nil⟩
theorem e7q:l6 66 (e97 fun L s=>.c (.b (a1p L s))):=o7 (fun fn h=>e50 h) [(67,_)] (.cons f2x .nil) fun U fn hfn ⟨(L,s),hL⟩ vs bs hv hb=>by
 have hi:=hfn 67 _ rfl
 have hL:L9 L:=hL
 have hv:l8 [.sl 2 (L.map pg),.a [.s s.1,.s s.2]] vs:=hv
 have hb:RBs [] bs:=hb
 show j3 U _ fun v bs'=>l7 (.ret (.c (.b (a1p L s)))) v∧RBs [] bs'
 unfold r66
 (refine Zq ?_;intros)
 refine i6 hi ⟨(L,s.1,s),hL⟩ (r:=.c (.b (a1p L s))) rfl (.k (.sl _ _ _ _ _ (by simp) aS) (.k (.q _ _ aS) (.k (.a _ _ _ rfl aS) .nil))) .nil fun _ _ _ _=>?_
 (refine Zq ?_;intros)
 exact k9 ⟨.ret _ _ (.b _),.nil⟩
theorem e2m:l6 64 (c1c fun s=>.c (.b (named s))):=o7 (fun fn h=>e8l h) [(108,_)] (.cons e3q .nil) fun U fn hfn ⟨s,h1,h2⟩ vs bs hv hb=>by
 have hn:=hfn 108 _ rfl
 have hv:l8 [.a (sg s)] vs:=hv
 have hb:RBs [] bs:=hb
 show j3 U _ fun v bs'=>l7 (.ret (.c (.b (named s)))) v∧RBs [] bs'
 unfold r64
 (refine Zq ?_;intros)
 refine i6 hn ⟨s,h1,h2⟩ (r:=.c (.b (named s))) rfl j7 .nil fun _ _ _ _=>?_
 (refine Zq ?_;intros)
 exact k9 ⟨.ret _ _ (.b _),.nil⟩
theorem a77:l6 90 (sp1 fun s=>.ret (.c (.b (u5 s)))):=o7 (fun fn h=>e7c h) [(133,_)] (.cons c3x .nil) fun U fn hfn ⟨s,hs⟩ vs bs hv hb=>by
 have hn:=hfn 133 _ rfl
 have hv:l8 [.c (.s s)] vs:=hv
 have hb:RBs [] bs:=hb
 show j3 U _ fun v bs'=>l7 (.ret (.c (.b (u5 s)))) v∧RBs [] bs'
 unfold r90
 (refine Zq ?_;intros)
 refine i6 hn ⟨s,hs⟩ (r:=.c (.b (u5 s))) rfl j7 .nil fun _ _ _ _=>?_
 (refine Zq ?_;intros)
 exact k9 ⟨.ret _ _ (.b _),.nil⟩
def p9 (t:y3):List G:=[.i .i64 t.kind,.i .i64 (t.pos:Int),.s t.pkg,.s t.text,.s t.den]
theorem F7 (t:y3):(p9 t).length=5:=rfl
theorem a5c {a b:y3} (h:p9 a=p9 b):a=b:=by
 obtain ⟨k,p,g,t,d⟩:=a
 obtain ⟨k',p',g',t',d'⟩:=b
 simp only [p9,List.cons.injEq,G.i.injEq,G.s.injEq,true_and,and_true] at h
 obtain ⟨h1,h2,h3,h4,h5⟩:=h
 have:p=p':=oM
 rw [h1,this,h3,h4,h5]
theorem c7m:∀ {l m:List y3},l.map p9=m.map p9→l=m
 | [],[],_=>rfl
 | [],_ :: _,h=>by simp at h
 | _ :: _,[],h=>by simp at h
 | a :: l,b :: m,h=>by simp only [List.map_cons,List.cons.injEq] at h;rw [a5c h.1,c7m h.2]
def J4 (t:y3):t7:=if q7 t.text t.pkg true=0 then .ret (.t []) else O7 (q7 t.text t.pkg true) t.pos
theorem c6r (hst:l6 203 T6):l6 137 { ι:={ t:y3 // t.pkg.length < 90000 },A:=fun t=>[.a (p9 t.1)],B:=fun _=>[],R:=fun t=>J4 t.1,B':=fun _=>[],inj:=fun i j vs bs h k _ _=>(by
  obtain ⟨_,_,h1,k1,h,k⟩:=h.two k
  rw [a5c (h1.a_inj k1)];exact ⟨rfl,rfl⟩) }:=o7 (fun fn h=>e3d h) [(51,_),(163,_)] (.cons b2a (.cons (b7b hst) .nil)) fun U fn hfn ⟨t,ht⟩ vs bs hv hb=>by
 have hf:=hfn 51 _ rfl
 have hvp:=hfn 163 _ rfl
 have hv:l8 [.a [.i .i64 t.kind,.i .i64 (t.pos:Int),.s t.pkg,.s t.text,.s t.den]] vs:=hv
 have hb:RBs [] bs:=hb
 show j3 U _ fun v bs'=>l7 (J4 t) v∧RBs [] bs'
 unfold d6o
 have bad:∀ {e:Int} {vs:List V} {bs:List Bx} {K:V→List Bx→Om} ,e ≠ 0→q7 t.text t.pkg true=e→l8 [.c (.i .i64 e),.c (.i .i64 (t.pos:Int))] vs→RBs [] bs→j3 U (U.bind (fn 51 vs bs) K fun v=>some (.pan (U.rn0 v),[])) fun v bs'=>l7 (J4 t) v∧RBs [] bs':=fun {e vs bs K} h0 he hv hb=>by
  have e1:J4 t=O7 e t.pos:=by unfold J4;rw [he,if_neg h0]
  rw [e1]
  exact E4 hf (e,(t.pos:Int)) (r:=.fl 122 e t.pos) rfl hv hb fun _ hv=>M6 hv .nil
 have ok:∀ {bs:List Bx},q7 t.text t.pkg true=0→RBs [] bs→j3 U (some (.ret (.tuple []),bs)) fun v bs'=>l7 (J4 t) v∧RBs [] bs':=fun {bs} he hb=>by
  have e1:J4 t=.ret (.t []):=by unfold J4;rw [if_pos he]
  rw [e1]
  exact k9 ⟨.ret _ _ (.t _ _ .nil),hb⟩
 (refine Zy ?_;with_reducible repeat' first|intro _|apply aI)
 ·exact bad dE (by unfold q7;rw [if_pos oM]) (.k (.i _ _) (.k (.q _ _ aS) .nil)) .nil
 ·have hl:¬40 < t.text.length:=oM
  refine C9 (fun vs bs=>∃ b:Bool,l8 [.p 0 0,.c (.b b)] vs∧RBs [[.i .i64 t.kind,.i .i64 (t.pos:Int),.s t.pkg,.s t.text,.s t.den]] bs∧(b=true↔(t.text.length=0∨(t.pkg.length ≠ 0∧u5 t.pkg=false)))) ?_ ?_
  ·rintro vs' bs' ⟨b,hv',hb',hbe⟩
   (refine Zq ?_;with_reducible repeat' first|intro _|apply aI)
   ·exact bad dE (by
     unfold q7
     rw [if_neg hl,if_pos]
     have:=hbe.1 ‹_›
     simpa using this) (.k (.i _ _) (.k (.q _ _ aS) .nil)) .nil
   ·exact ok (by
     unfold q7
     rw [if_neg hl,if_neg]
     intro h
     exact ‹¬b=true› (hbe.2 (by simpa using h))) .nil
  ·intro c hc
   (refine Zq ?_;with_reducible repeat' first|intro _|apply aI)
   ·have e:t.text=[]:=‹_›
    exact hc _ _ ⟨true,by (exact j7),RB.bx aS rfl,by simp [e]⟩
   ·have e:¬t.text=[]:=‹_›
    have e2:t.pkg=[]:=‹_›
    exact hc _ _ ⟨false,by (exact j7),RB.bx aS rfl,by simp [e,e2]⟩
   ·have e:¬t.text=[]:=‹_›
    have e2:¬t.pkg=[]:=‹_›
    refine i6 hvp ⟨t.pkg,ht⟩ (r:=.c (.b (u5 t.pkg))) rfl (.k (.q _ _ aS) .nil) .nil fun _ _ _ _=>?_
    (refine Zq ?_;intros)
    refine fun e9=>?_
    subst e9
    exact hc _ _ ⟨!u5 t.pkg,.k (.p _ _) (.k (J3 (a1h _).symm) .nil),RB.bx aS rfl,by simp [e,e2]⟩ rfl
def a3o:Except (Int × Nat) (y3 × Nat)→t7
 | .ok (t,_)=>.ret (.a (p9 t))
 | .error (e,p)=>O7 e p
def tokB (k:Nat):Except (Int × Nat) (y3 × Nat)→Nat
 | .ok (_,j)=>j
 | .error _=>k
def wdS (s:j0) (i:Nat) (w:j0) (k:Nat):Except (Int × Nat) (y3 × Nat):=if has s k 58 58 then K4 s i w k else G1 i w k
def R0 (s:j0) (i:Nat) (by_:Int):Except (Int × Nat) (List Int × Nat):=C1 s by_ (i+1) []
def b1k:Except (Int × Nat) (List Int × Nat)→t7
 | .ok (l,_)=>.ret (.c (.s (D5 l)))
 | .error (e,p)=>O7 e p
def c1y (i:Nat):Except (Int × Nat) (List Int × Nat)→Nat
 | .ok (_,j)=>j
 | .error _=>i
def b5a:Sp where
 ι:={ p:ScI × Int // (p.2=34∨p.2=124)∧p.1.1.2 < p.1.1.1.length∧p.1.1.1.length < 8000 }
 A p:=[.p 0 0,.c (.i .u8 p.1.2)]
 B p:=[G0 p.1.1.1.1 p.1.1.1.2]
 R p:=b1k (R0 p.1.1.1.1 p.1.1.1.2 p.1.2)
 B' p:=[G0 p.1.1.1.1 (c1y p.1.1.1.2 (R0 p.1.1.1.1 p.1.1.1.2 p.1.2))]
 inj i j vs bs hv kv h k:=by
  have:=a45 (RBs.one_inj h k)
  obtain ⟨_,_,_,_,hv,kv⟩:=hv.two kv
  obtain ⟨_,_,h2,k2,_,_⟩:=hv.two kv
  rw [this.1,this.2,K7 h2 k2];exact ⟨rfl,rfl⟩
theorem scB {s:j0} {k:Nat} {n:Int} (hn:n=(k:Int)):RB (G0 s k) (.cells [.str s.length (m8 s),.int .i64 n]):=by
 subst hn
 exact .cells _ _ (.k (.s _ _ _ rfl rfl) (.k (.i _ _) .nil))
def z5:List G:=[.i .i64 0,.i .i64 0,.s [],.s [],.s []]
theorem z5B:RB z5 (.cells [.int .i64 0,.int .i64 0,.str 0 0,.str 0 0,.str 0 0]):=.cells _ _ j7
theorem a96 (s:j0):E8 s=R2 s:=by
 unfold E8 R2
 by_cases h:(i7 s).natAbs=0
 ·rw [h,y6];rfl
 ·rw [O1 _ h,F4 h];simp
theorem d5y (l:j0):Lib.trimS l [48]=[]↔∀ j,j < l.length→bt l j=48:=by
 rw [c2g]
 constructor
 ·intro h j hj
  have:=h l[j] (List.getElem_mem hj)
  simp only [List.contains_cons,List.contains_nil,Bool.or_false,beq_iff_eq] at this
  unfold bt;simp [List.getD,List.getElem?_eq_getElem hj,this]
 ·intro h b hb
  obtain ⟨j,hj,rfl⟩:=List.getElem_of_mem hb
  have:=h j hj
  unfold bt at this
  simp only [List.getD,List.getElem?_eq_getElem hj,Option.getD_some] at this
  simp only [List.contains_cons,List.contains_nil,Bool.or_false,beq_iff_eq]
  exact UInt8.toNat_inj.1 (by show _=48;omega)
theorem c53 {s:j0} {a:Nat} (ha:a≤s.length):A0 s a=s.length↔∀ j,a≤j→j < s.length→bt s j=48:=by
 fun_induction A0 s a with
 | case1 a h1 h2 ih =>
  rw [ih oM]
  constructor
  ·intro h j h3 h4
   by_cases hj:j=a
   ·subst hj;exact h2
   ·exact h j oM h4
  ·intro h j h3 h4;exact h j oM h4
 | case2 a h1 h2=>exact ⟨fun h=>by omega,fun h=>absurd (h a (Nat.le_refl _) h1) h2⟩
 | case3 a h1=>exact ⟨fun _ j h3 h4=>by omega,fun _=>by omega⟩
theorem b5e {l:j0} (h:E9 l=true):Lib.trimS l [48]=[]↔plain l=x6:=by
 unfold E9 at h
 obtain ⟨h0,h1⟩:=of_decide_eq_true h
 rw [a9i (Nat.zero_le _)] at h1
 have hl:=List.length_pos_iff.2 h0
 have hs:j4 l=0:=by
  unfold j4;rw [if_neg];rintro ⟨_,h2⟩;have:=h1 0 (Nat.le_refl _) hl;omega
 have hz:=a9q l 0 (Nat.zero_le _)
 rw [d5y]
 unfold plain
 simp only [hs,List.take_length]
 rw [show (∀ j,j < l.length→bt l j=48)↔A0 l 0=l.length by rw [c53 (Nat.zero_le _)];exact ⟨fun h j _=>h j,fun h j=>h j (Nat.zero_le _)⟩]
 by_cases he:A0 l 0=l.length
 ·rw [if_pos he];exact ⟨fun _=>rfl,fun _=>he⟩
 ·rw [if_neg he,if_neg dE]
  refine ⟨fun h=>absurd h he,fun h=>?_⟩
  exfalso
  have hst:∀ a,A0 l a < l.length→bt l (A0 l a) ≠ 48:=by
   intro a
   fun_induction A0 l a with
   | case1 a h1 h2 ih=>exact ih
   | case2 a h1 h2=>intro _ h;exact h2 h
   | case3 a h1=>intro h;exact absurd h h1
  have h2:=hst 0 oM
  have h3:bt (l.drop (A0 l 0)) 0=bt x6 0:=by rw [h]
  rw [a2c] at h3
  exact h2 h3
theorem a8d {w:j0} (h:(m6 w).2.2=true):(m6 w).1=(x9 w).1∧(m6 w).2.1=(x9 w).2∧E9 (x9 w).2=true:=by
 obtain ⟨h1,h2⟩:=b6d w
 obtain ⟨a,b⟩:=h2 h
 rw [h] at h1
 simp only [Bool.and_eq_true] at h1
 exact ⟨a,b,h1.2⟩
end
end Go.Proofs.YtffaodopiifbkaaGreatDoor
