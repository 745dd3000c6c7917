/- Packages and symbols: the program's and the reference's. -/
import Derived.Test.YtdldcfllnohkeaaGreatDoorKEF
set_option linter.all false
namespace Go.Proofs.YtdldcfllnohkeaaGreatDoor
open Go.Abs LQ
set_option maxRecDepth 100000
set_option maxHeartbeats 4000000
noncomputable section
theorem a7j:∀ {l m:List Sy},l.map sg=m.map sg→l=m
 | [],[],_=>rfl
 | [],_ :: _,h=>by simp at h
 | _ :: _,[],h=>by simp at h
 | a :: l,b :: m,h=>by simp only [List.map_cons,List.cons.injEq] at h;rw [a8h h.1,a7j h.2]
theorem e8d {a b:Pk} (h:pg a=pg b):a=b:=by
 simp only [pg,List.cons.injEq,G.s.injEq,G.l.injEq,and_true] at h
 exact Prod.ext h.1 (a7j h.2)
theorem Y5:∀ {l m:List Pk},l.map pg=m.map pg→l=m
 | [],[],_=>rfl
 | [],_ :: _,h=>by simp at h
 | _ :: _,[],h=>by simp at h
 | a :: l,b :: m,h=>by simp only [List.map_cons,List.cons.injEq] at h;rw [e8d h.1,Y5 h.2]
def F1 (L:List Pk):Prop:=L.length < 90000∧∀ p ∈ L,p.2.length < 90000
def f3j (g:List Pk→f5→GV):Sp where
 ι:={ p:List Pk × f5 // F1 p.1 }
 A p:=[.sl 2 (p.1.1.map pg),.c (.s p.1.2)]
 B _:=[]
 R p:=.ret (g p.1.1 p.1.2)
 B' _:=[]
 inj i j vs bs h k _ _:=by
  obtain ⟨_,_,h1,k1,h,k⟩:=h.two k
  obtain ⟨_,_,h2,k2,h,k⟩:=h.two k
  rw [Y5 (h1.sl_inj k1),F7 h2 k2];exact ⟨rfl,rfl⟩
def e2c (g:List Pk→f5→f5→GV):Sp where
 ι:={ p:List Pk × f5 × f5 // F1 p.1 }
 A p:=[.sl 2 (p.1.1.map pg),.c (.s p.1.2.1),.c (.s p.1.2.2)]
 B _:=[]
 R p:=.ret (g p.1.1 p.1.2.1 p.1.2.2)
 B' _:=[]
 inj i j vs bs h k _ _:=by
  obtain ⟨_,_,h1,k1,h,k⟩:=h.two k
  obtain ⟨_,_,h2,k2,h,k⟩:=h.two k
  obtain ⟨_,_,h3,k3,h,k⟩:=h.two k
  rw [Y5 (h1.sl_inj k1),F7 h2 k2,F7 h3 k3];exact ⟨rfl,rfl⟩
def f3k (g:List Pk→Sy→GV):Sp where
 ι:={ p:List Pk × Sy // F1 p.1 }
 A p:=[.sl 2 (p.1.1.map pg),.a (sg p.1.2)]
 B _:=[]
 R p:=.ret (g p.1.1 p.1.2)
 B' _:=[]
 inj i j vs bs h k _ _:=by
  obtain ⟨_,_,h1,k1,h,k⟩:=h.two k
  obtain ⟨_,_,h2,k2,h,k⟩:=h.two k
  rw [Y5 (h1.sl_inj k1),a8h (h2.a_inj k2)];exact ⟨rfl,rfl⟩
def e2d (g:List Pk→f5→Sy→GV):Sp where
 ι:={ p:List Pk × f5 × Sy // F1 p.1 }
 A p:=[.sl 2 (p.1.1.map pg),.c (.s p.1.2.1),.a (sg p.1.2.2)]
 B _:=[]
 R p:=.ret (g p.1.1 p.1.2.1 p.1.2.2)
 B' _:=[]
 inj i j vs bs h k _ _:=by
  obtain ⟨_,_,h1,k1,h,k⟩:=h.two k
  obtain ⟨_,_,h2,k2,h,k⟩:=h.two k
  obtain ⟨_,_,h3,k3,h,k⟩:=h.two k
  rw [Y5 (h1.sl_inj k1),F7 h2 k2,a8h (h3.a_inj k3)];exact ⟨rfl,rfl⟩
def E2 (L:List Pk) (n:f5):GV:=match B0 L n with
 | some p=>.t [.a (pg p),.c (.b true)]
 | none=>.t [.a [.s [],.l []],.c (.b false)]
theorem c24 {L:List Pk} {n:f5} {i:Nat} (h:i < L.length) (hn:L[i].1=n):B0 (L.drop i) n=some L[i]:=by
 rw [List.drop_eq_getElem_cons h,B0,if_pos hn]
theorem c7x {L:List Pk} {n:f5} {i:Nat} (h:i < L.length) (hn:¬L[i].1=n):B0 (L.drop i) n=B0 (L.drop (i+1)) n:=by
 rw [List.drop_eq_getElem_cons h,B0,if_neg hn]
theorem c23 {L:List Pk} {n:f5} {i:Nat} (h:¬i < L.length):B0 (L.drop i) n=none:=by
 rw [List.drop_eq_nil_of_le oM];rfl
theorem c3e:j3 50 (f3j E2):=k7 (fun fn h=>f0a h) [] .nil fun U fn hfn ⟨(L,nm),hL⟩ vs bs hv hb=>by
 have hL:F1 L:=hL
 have hl:L.length < 90000:=hL.1
 have hv:j5 [.sl 2 (L.map pg),.c (.s nm)] vs:=hv
 have hb:RBs [] bs:=hb
 show g7 U _ fun v bs'=>j6 (.ret (E2 L nm)) v∧RBs [] bs'
 unfold r50
 (refine Zq ?_;intros)
 refine E1 (fun (i:Nat) vs bs=>∃ (t:i7 Q) (off:Nat),vs=[.str nm.length (j9 nm),.ptr 0 0,.slice t 2 off L.length .no,.int .i64 L.length,.int .i64 i]∧bs=[.cells [.str 0 0,.slice .nil 0 0 0 .exact]]∧m7 2 (L.map pg) t off∧i≤L.length∧B0 (L.drop i) nm=B0 L nm) (fun i=>L.length - i) 0 ⟨_,_,rfl,rfl,aS,Nat.zero_le _,rfl⟩ (by simp only [x8];omega) ?_
 rintro self i _ _ ⟨t,off,rfl,rfl,ht,hi,he⟩ ih
 (refine Zq ?_;with_reducible repeat' first|intro _|apply aI)
 ·have hi2:i < L.length:=oM
  have e:L[i].1=nm:=‹_›
  unfold E2
  rw [← he,c24 hi2 e]
  exact g9 ⟨.ret _ _ (.t _ _ (.k (.a _ _ _ rfl aS) (.k (.kn _) .nil))),.nil⟩
 ·have hi2:i < L.length:=oM
  have e:¬L[i].1=nm:=‹_›
  exact ih (i+1) _ _ ⟨_,_,rfl,rfl,ht,oM,by rw [← he,c7x hi2 e]⟩ oM
 ·unfold E2
  rw [← he,c23 oM]
  exact g9 ⟨.ret _ _ (.t _ _ (.k (.ag _ _ j4) (.k (.kn _) .nil))),.nil⟩
theorem b5z:j3 29 (f3j E2):=k7 (fun fn h=>e9e h) [] .nil fun U fn hfn ⟨(L,nm),hL⟩ vs bs hv hb=>by
 have hL:F1 L:=hL
 have hl:L.length < 90000:=hL.1
 have hv:j5 [.sl 2 (L.map pg),.c (.s nm)] vs:=hv
 have hb:RBs [] bs:=hb
 show g7 U _ fun v bs'=>j6 (.ret (E2 L nm)) v∧RBs [] bs'
 unfold r29
 (refine Zq ?_;intros)
 refine E1 (fun (i:Nat) vs bs=>∃ (t:i7 Q) (off:Nat),vs=[.slice t 2 off L.length .no,.str nm.length (j9 nm),.ptr 0 0,.int .i64 i]∧bs=[.cells [.str 0 0,.slice .nil 0 0 0 .exact]]∧m7 2 (L.map pg) t off∧i≤L.length∧B0 (L.drop i) nm=B0 L nm) (fun i=>L.length - i) 0 ⟨_,_,rfl,rfl,aS,Nat.zero_le _,rfl⟩ (by simp only [x8];omega) ?_
 rintro self i _ _ ⟨t,off,rfl,rfl,ht,hi,he⟩ ih
 (refine Zq ?_;with_reducible repeat' first|intro _|apply aI)
 ·have hi2:i < L.length:=oM
  have e:L[i].1=nm:=‹_›
  unfold E2
  rw [← he,c24 hi2 e]
  exact g9 ⟨.ret _ _ (.t _ _ (.k (.a _ _ _ rfl aS) (.k (.kn _) .nil))),.nil⟩
 ·have hi2:i < L.length:=oM
  have e:¬L[i].1=nm:=‹_›
  exact ih (i+1) _ _ ⟨_,_,rfl,rfl,ht,oM,by rw [← he,c7x hi2 e]⟩ oM
 ·unfold E2
  rw [← he,c23 oM]
  exact g9 ⟨.ret _ _ (.t _ _ (.k (.ag _ _ j4) (.k (.kn _) .nil))),.nil⟩
def a4v (L:List Pk) (c n:f5):GV:=.t [.a (sg (B5 L c n).1),.c (.i .i64 (B5 L c n).2)]
theorem c72 {l:List Sy} {n:f5} {i:Nat} (h:i < l.length) (hn:l[i].2=n):a1n (l.drop i) n=some l[i]:=by
 rw [List.drop_eq_getElem_cons h,a1n,if_pos hn]
theorem d3n {l:List Sy} {n:f5} {i:Nat} (h:i < l.length) (hn:¬l[i].2=n):a1n (l.drop i) n=a1n (l.drop (i+1)) n:=by
 rw [List.drop_eq_getElem_cons h,a1n,if_neg hn]
theorem c71 {l:List Sy} {n:f5} {i:Nat} (h:¬i < l.length):a1n (l.drop i) n=none:=by
 rw [List.drop_eq_nil_of_le oM];rfl
theorem b9l {L:List Pk} {n:f5} {p:Pk} (h:B0 L n=some p):p ∈ L∧p.1=n:=by
 induction L with
 | nil=>cases h
 | cons q L ih =>
  rw [B0] at h
  split at h
  ·rename_i e;injection h with h;subst h;exact ⟨by simp,e⟩
  ·have:=ih h;exact ⟨by simp [this.1],this.2⟩
theorem a1r (s:Sy):(sg s).length=2:=rfl
theorem b3e {L:List Pk} {c n:f5} (h:B0 L c=none):B5 L c n=(([],[]),13):=by unfold B5;rw [h]
theorem a31 {L:List Pk} {c n:f5} {p:Pk} (h:B0 L c=some p) (hn:n.length < 1∨40 < n.length):B5 L c n=(([],[]),3):=by unfold B5;rw [h];simp only [];rw [if_pos hn]
theorem b5t {L:List Pk} {c n:f5} {p:Pk} {s:Sy} (h:B0 L c=some p) (hn:¬(n.length < 1∨40 < n.length)) (hi:a1n p.2 n=some s):B5 L c n=(s,0):=by unfold B5;rw [h];simp only [];rw [if_neg hn,hi]
theorem b5u {L:List Pk} {c n:f5} {p:Pk} (h:B0 L c=some p) (hn:¬(n.length < 1∨40 < n.length)) (hi:a1n p.2 n=none):B5 L c n=((c,n),0):=by unfold B5;rw [h];simp only [];rw [if_neg hn,hi]
theorem L3 {L:List Pk} {c n:f5} {r:Sy × Int} (h:B5 L c n=r):a4v L c n=.t [.a (sg r.1),.c (.i .i64 r.2)]:=by unfold a4v;rw [h]
theorem d7i:j3 103 (e2c a4v):=k7 (fun fn h=>e4i h) [(50,_)] (.cons c3e .nil) fun U fn hfn ⟨(L,cur,nm),hL⟩ vs bs hv hb=>by
 have hf:=hfn 50 _ rfl
 have hL:F1 L:=hL
 have hv:j5 [.sl 2 (L.map pg),.c (.s cur),.c (.s nm)] vs:=hv
 have hb:RBs [] bs:=hb
 show g7 U _ fun v bs'=>j6 (.ret (a4v L cur nm)) v∧RBs [] bs'
 unfold d8o
 (refine Zq ?_;with_reducible repeat' first|intro _|apply aI)
 cases hp:B0 L cur with
 | none =>
  refine f6 hf ⟨(L,cur),hL⟩ (r:=.t [.a [.s [],.l []],.c (.b false)]) (by show n6.ret (E2 L cur)=_;unfold E2;rw [hp]) (.k (.sl _ _ _ _ _ (by simp) aS) j4) .nil fun _ _ _ _=>?_
  (refine Zq ?_;intros)
  rw [L3 (b3e hp)]
  exact g9 ⟨.ret _ _ (.t _ _ (.k (.ag _ _ j4) (.k (.i _ _) .nil))),.nil⟩
 | some p =>
  refine f6 hf ⟨(L,cur),hL⟩ (r:=.t [.a (pg p),.c (.b true)]) (by show n6.ret (E2 L cur)=_;unfold E2;rw [hp]) (.k (.sl _ _ _ _ _ (by simp) aS) j4) .nil fun _ _ hv9 _=>?_
  have hv9:RV (.t [.a [.s p.1,.l (p.2.map sg)],.c (.b true)]) _:=hv9
  have hpl:=hL.2 p (b9l hp).1
  (refine Zq ?_;with_reducible repeat' first|intro _|apply aI)
  all_goals
   refine b1o (gs:=[.s [],.s []]) (.cells _ _ j4) rfl fun _ _=>?_
   (refine Zq ?_;with_reducible repeat' first|intro _|apply aI)
  ·rw [L3 (a31 hp (.inl oM))]
   exact g9 ⟨.ret _ _ (.t _ _ (.k (.ag _ _ j4) (.k (.i _ _) .nil))),.nil⟩
  ·rw [L3 (a31 hp (.inr oM))]
   exact g9 ⟨.ret _ _ (.t _ _ (.k (.ag _ _ j4) (.k (.i _ _) .nil))),.nil⟩
  (refine C7 (f:=sg) aS (u7 a1r) fun _ _ _=>?_)
  (refine Zq ?_;intros)
  have hnm:¬(nm.length < 1∨40 < nm.length):=oM
  refine E1 (fun (i:Nat) vs bs=>∃ (x q:Q),vs=[.str cur.length (j9 cur),.str nm.length (j9 nm),.ptr 0 0,.q x,.int .i64 p.2.length,.int .i64 i]∧bs=[.opa q 2]∧RG (.l (p.2.map sg)) x∧u6 [.s [],.s []] q 0∧i≤p.2.length∧a1n (p.2.drop i) nm=a1n p.2 nm) (fun i=>p.2.length - i) 0 ⟨_,_,rfl,rfl,aS,aS,Nat.zero_le _,rfl⟩ (by simp only [x8];omega) ?_
  rintro self i _ _ ⟨x,q,rfl,rfl,hx,hq,hi,he⟩ ih
  (refine Zq ?_;intros)
  refine sQV ?_
  (refine Zq ?_;with_reducible repeat' first|intro _|apply aI)
  ·(refine C7 (f:=sg) aS (u7 a1r) fun _ _ _=>?_)
   (refine Zq ?_;with_reducible repeat' first|intro _|apply aI)
   ·have hi2:i < p.2.length:=oM
    have e:p.2[i].2=nm:=‹_›
    rw [L3 (b5t hp hnm (by rw [← he,c72 hi2 e]))]
    exact g9 ⟨.ret _ _ (.t _ _ (.k (.a _ _ _ rfl aS) (.k (.i _ _) .nil))),.nil⟩
   ·have hi2:i < p.2.length:=oM
    have e:¬p.2[i].2=nm:=‹_›
    exact ih (i+1) _ _ ⟨_,_,rfl,rfl,hx,aS,oM,by rw [← he,d3n hi2 e]⟩ oM
  ·rw [L3 (b5u hp hnm (by rw [← he,c71 oM]))]
   exact g9 ⟨.ret _ _ (.t _ _ (.k (.ag _ _ j4) (.k (.i _ _) .nil))),.nil⟩
theorem d7h:j3 123 (e2c a4v):=k7 (fun fn h=>e4x h) [(29,_)] (.cons b5z .nil) fun U fn hfn ⟨(L,cur,nm),hL⟩ vs bs hv hb=>by
 have hf:=hfn 29 _ rfl
 have hL:F1 L:=hL
 have hv:j5 [.sl 2 (L.map pg),.c (.s cur),.c (.s nm)] vs:=hv
 have hb:RBs [] bs:=hb
 show g7 U _ fun v bs'=>j6 (.ret (a4v L cur nm)) v∧RBs [] bs'
 unfold d83
 (refine Zq ?_;with_reducible repeat' first|intro _|apply aI)
 cases hp:B0 L cur with
 | none =>
  refine f6 hf ⟨(L,cur),hL⟩ (r:=.t [.a [.s [],.l []],.c (.b false)]) (by show n6.ret (E2 L cur)=_;unfold E2;rw [hp]) (.k (.sl _ _ _ _ _ (by simp) aS) j4) .nil fun _ _ _ _=>?_
  (refine Zq ?_;intros)
  rw [L3 (b3e hp)]
  exact g9 ⟨.ret _ _ (.t _ _ (.k (.ag _ _ j4) (.k (.i _ _) .nil))),.nil⟩
 | some p =>
  refine f6 hf ⟨(L,cur),hL⟩ (r:=.t [.a (pg p),.c (.b true)]) (by show n6.ret (E2 L cur)=_;unfold E2;rw [hp]) (.k (.sl _ _ _ _ _ (by simp) aS) j4) .nil fun _ _ hv9 _=>?_
  have hv9:RV (.t [.a [.s p.1,.l (p.2.map sg)],.c (.b true)]) _:=hv9
  have hpl:=hL.2 p (b9l hp).1
  (refine Zq ?_;with_reducible repeat' first|intro _|apply aI)
  all_goals
   refine b1o (gs:=[.s [],.s []]) (.cells _ _ j4) rfl fun _ _=>?_
   (refine Zq ?_;with_reducible repeat' first|intro _|apply aI)
  ·rw [L3 (a31 hp (.inl oM))]
   exact g9 ⟨.ret _ _ (.t _ _ (.k (.ag _ _ j4) (.k (.i _ _) .nil))),.nil⟩
  ·rw [L3 (a31 hp (.inr oM))]
   exact g9 ⟨.ret _ _ (.t _ _ (.k (.ag _ _ j4) (.k (.i _ _) .nil))),.nil⟩
  have hnm:¬(nm.length < 1∨40 < nm.length):=oM
  refine E1 (fun (i:Nat) vs bs=>∃ (x q:Q),vs=[.str cur.length (j9 cur),.str nm.length (j9 nm),.ptr 0 0,.ptr 1 0,.int .i64 i]∧bs=[.opa q 2,.opa x 2]∧u6 [.s p.1,.l (p.2.map sg)] x 0∧u6 [.s [],.s []] q 0∧i≤p.2.length∧a1n (p.2.drop i) nm=a1n p.2 nm) (fun i=>p.2.length - i) 0 ⟨_,_,rfl,rfl,aS,aS,Nat.zero_le _,rfl⟩ (by simp only [x8];omega) ?_
  rintro self i _ _ ⟨x,q,rfl,rfl,hx,hq,hi,he⟩ ih
  (refine Zq ?_;intros)
  (refine C7 (f:=sg) aS (u7 a1r) fun _ _ _=>?_)
  (refine Zq ?_;with_reducible repeat' first|intro _|apply aI)
  ·(refine C7 (f:=sg) aS (u7 a1r) fun _ _ _=>?_)
   (refine Zq ?_;with_reducible repeat' first|intro _|apply aI)
   ·(refine C7 (f:=sg) aS (u7 a1r) fun _ _ _=>?_)
    (refine Zq ?_;intros)
    have hi2:i < p.2.length:=oM
    have e:p.2[i].2=nm:=‹_›
    rw [L3 (b5t hp hnm (by rw [← he,c72 hi2 e]))]
    exact g9 ⟨.ret _ _ (.t _ _ (.k (.a _ _ _ rfl aS) (.k (.i _ _) .nil))),.nil⟩
   ·have hi2:i < p.2.length:=oM
    have e:¬p.2[i].2=nm:=‹_›
    exact ih (i+1) _ _ ⟨_,_,rfl,rfl,hx,aS,oM,by rw [← he,d3n hi2 e]⟩ oM
  ·rw [L3 (b5u hp hnm (by rw [← he,c71 oM]))]
   exact g9 ⟨.ret _ _ (.t _ _ (.k (.ag _ _ j4) (.k (.i _ _) .nil))),.nil⟩
theorem e1e:j3 85 (e2d fun L c s=>.c (.b (a14 L c s))):=k7 (fun fn h=>f1q h) [(103,_)] (.cons d7i .nil) fun U fn hfn ⟨(L,cur,s),hL⟩ vs bs hv hb=>by
 have hi:=hfn 103 _ rfl
 have hL:F1 L:=hL
 have hv:j5 [.sl 2 (L.map pg),.c (.s cur),.a [.s s.1,.s s.2]] vs:=hv
 have hb:RBs [] bs:=hb
 show g7 U _ fun v bs'=>j6 (.ret (.c (.b (a14 L cur s)))) v∧RBs [] bs'
 unfold r85
 (refine Zq ?_;intros)
 refine f6 hi ⟨(L,cur,s.2),hL⟩ (r:=.t [.a (sg (B5 L cur s.2).1),.c (.i .i64 (B5 L cur s.2).2)]) rfl (.k (.sl _ _ _ _ _ (by simp) aS) j4) .nil fun _ _ hv9 _=>?_
 have hv9:RV (.t [.a [.s (B5 L cur s.2).1.1,.s (B5 L cur s.2).1.2],.c (.i .i64 (B5 L cur s.2).2)]) _:=hv9
 unfold a14
 generalize B5 L cur s.2=r at *
 obtain ⟨⟨r1,r2⟩,e⟩:=r
 obtain ⟨s1,s2⟩:=s
 (refine Zq ?_;with_reducible repeat' first|intro _|apply aI)
 ·have h0:e=0:=‹_›
  refine G7 fun e9=>?_
  subst e9
  refine ⟨.ret _ _ (P9 ?_),.nil⟩
  rw [b2d,b2d,cuS,cuS,Bool.eq_iff_iff]
  simp only [Bool.and_true,Bool.and_eq_true,decide_eq_true_iff,Prod.mk.injEq]
  exact ⟨fun h=>h.2,fun h=>⟨h0,h⟩⟩
 ·exact g9 ⟨.ret _ _ (G2 (decide_eq_false (fun h=>‹¬e=0› h.1))),.nil⟩
theorem d3s:j3 82 (f3k fun L s=>.c (.b (F6 L s))):=k7 (fun fn h=>f1m h) [(85,_)] (.cons e1e .nil) fun U fn hfn ⟨(L,s),hL⟩ vs bs hv hb=>by
 have hi:=hfn 85 _ rfl
 have hL:F1 L:=hL
 have hv:j5 [.sl 2 (L.map pg),.a [.s s.1,.s s.2]] vs:=hv
 have hb:RBs [] bs:=hb
 show g7 U _ fun v bs'=>j6 (.ret (.c (.b (F6 L s)))) v∧RBs [] bs'
 unfold r82
 (refine Zq ?_;intros)
 refine f6 hi ⟨(L,s.1,s),hL⟩ (r:=.c (.b (F6 L s))) rfl (.k (.sl _ _ _ _ _ (by simp) aS) (.k (.q _ _ aS) (.k (.a _ _ _ rfl aS) .nil))) .nil fun _ _ _ _=>?_
 (refine Zq ?_;intros)
 exact g9 ⟨.ret _ _ (.b _),.nil⟩
theorem e1d:j3 92 (e2d fun L c s=>.c (.b (a14 L c s))):=k7 (fun fn h=>f12 h) [(123,_)] (.cons d7h .nil) fun U fn hfn ⟨(L,cur,s),hL⟩ vs bs hv hb=>by
 have hi:=hfn 123 _ rfl
 have hL:F1 L:=hL
 have hv:j5 [.sl 2 (L.map pg),.c (.s cur),.a [.s s.1,.s s.2]] vs:=hv
 have hb:RBs [] bs:=hb
 show g7 U _ fun v bs'=>j6 (.ret (.c (.b (a14 L cur s)))) v∧RBs [] bs'
 unfold r92
 (refine Zq ?_;intros)
 refine f6 hi ⟨(L,cur,s.2),hL⟩ (r:=.t [.a (sg (B5 L cur s.2).1),.c (.i .i64 (B5 L cur s.2).2)]) rfl (.k (.sl _ _ _ _ _ (by simp) aS) j4) .nil fun _ _ hv9 _=>?_
 have hv9:RV (.t [.a [.s (B5 L cur s.2).1.1,.s (B5 L cur s.2).1.2],.c (.i .i64 (B5 L cur s.2).2)]) _:=hv9
 unfold a14
 generalize B5 L cur s.2=r at *
 obtain ⟨⟨r1,r2⟩,e⟩:=r
 obtain ⟨s1,s2⟩:=s
 (refine Zq ?_;with_reducible repeat' first|intro _|apply aI)
 ·have h0:e=0:=‹_›
  refine G7 fun e9=>?_
  subst e9
  refine ⟨.ret _ _ (P9 ?_),.nil⟩
  rw [b2d,b2d,cuS,cuS,Bool.eq_iff_iff]
  simp only [Bool.and_true,Bool.and_eq_true,decide_eq_true_iff,Prod.mk.injEq]
  exact ⟨fun h=>h.2,fun h=>⟨h0,h⟩⟩
 ·exact g9 ⟨.ret _ _ (G2 (decide_eq_false (fun h=>‹¬e=0› h.1))),.nil⟩
theorem c3g:j3 60 (f3k fun L s=>.c (.b (F6 L s))):=k7 (fun fn h=>f0o h) [(92,_)] (.cons e1d .nil) fun U fn hfn ⟨(L,s),hL⟩ vs bs hv hb=>by
 have hi:=hfn 92 _ rfl
 have hL:F1 L:=hL
 have hv:j5 [.sl 2 (L.map pg),.a [.s s.1,.s s.2]] vs:=hv
 have hb:RBs [] bs:=hb
 show g7 U _ fun v bs'=>j6 (.ret (.c (.b (F6 L s)))) v∧RBs [] bs'
 unfold r60
 (refine Zq ?_;intros)
 refine f6 hi ⟨(L,s.1,s),hL⟩ (r:=.c (.b (F6 L s))) rfl (.k (.sl _ _ _ _ _ (by simp) aS) (.k (.q _ _ aS) (.k (.a _ _ _ rfl aS) .nil))) .nil fun _ _ _ _=>?_
 (refine Zq ?_;intros)
 exact g9 ⟨.ret _ _ (.b _),.nil⟩
theorem c8b:j3 59 (c12 fun s=>.c (.b (named s))):=k7 (fun fn h=>f0m h) [(91,_)] (.cons c77 .nil) fun U fn hfn ⟨s,h1,h2⟩ vs bs hv hb=>by
 have hn:=hfn 91 _ rfl
 have hv:j5 [.a (sg s)] vs:=hv
 have hb:RBs [] bs:=hb
 show g7 U _ fun v bs'=>j6 (.ret (.c (.b (named s)))) v∧RBs [] bs'
 unfold r59
 (refine Zq ?_;intros)
 refine f6 hn ⟨s,h1,h2⟩ (r:=.c (.b (named s))) rfl j4 .nil fun _ _ _ _=>?_
 (refine Zq ?_;intros)
 exact g9 ⟨.ret _ _ (.b _),.nil⟩
theorem b76:j3 58 (sp1 fun s=>.ret (.c (.b (n5 s)))):=k7 (fun fn h=>f0k h) [(90,_)] (.cons c3i .nil) fun U fn hfn ⟨s,hs⟩ vs bs hv hb=>by
 have hn:=hfn 90 _ rfl
 have hv:j5 [.c (.s s)] vs:=hv
 have hb:RBs [] bs:=hb
 show g7 U _ fun v bs'=>j6 (.ret (.c (.b (n5 s)))) v∧RBs [] bs'
 unfold r58
 (refine Zq ?_;intros)
 refine f6 hn ⟨s,hs⟩ (r:=.c (.b (n5 s))) rfl j4 .nil fun _ _ _ _=>?_
 (refine Zq ?_;intros)
 exact g9 ⟨.ret _ _ (.b _),.nil⟩
def T8 (t:A6):List G:=[.i .i64 t.kind,.i .i64 (t.pos:Int),.s t.pkg,.s t.text,.s t.den]
theorem c9n (t:A6):(T8 t).length=5:=rfl
theorem c9m {a b:A6} (h:T8 a=T8 b):a=b:=by
 obtain ⟨k,p,g,t,d⟩:=a
 obtain ⟨k',p',g',t',d'⟩:=b
 simp only [T8,List.cons.injEq,G.i.injEq,G.s.injEq,true_and,and_true] at h
 obtain ⟨h1,h2,h3,h4,h5⟩:=h
 have:p=p':=oM
 rw [h1,this,h3,h4,h5]
def K4 (t:A6):n6:=if n8 t.text t.pkg true=0 then .ret (.t []) else a1m (n8 t.text t.pkg true) t.pos
theorem c78 (hst:j3 179 a1w):j3 110 { ι:={ t:A6 // t.pkg.length < 90000 },A:=fun t=>[.a (T8 t.1)],B:=fun _=>[],R:=fun t=>K4 t.1,B':=fun _=>[],inj:=fun i j vs bs h k _ _=>(by
  obtain ⟨_,_,h1,k1,h,k⟩:=h.two k
  rw [c9m (h1.a_inj k1)];exact ⟨rfl,rfl⟩) }:=k7 (fun fn h=>e4m h) [(45,_),(137,_)] (.cons b5y (.cons (b77 hst) .nil)) fun U fn hfn ⟨t,ht⟩ vs bs hv hb=>by
 have hf:=hfn 45 _ rfl
 have hvp:=hfn 137 _ rfl
 have hv:j5 [.a [.i .i64 t.kind,.i .i64 (t.pos:Int),.s t.pkg,.s t.text,.s t.den]] vs:=hv
 have hb:RBs [] bs:=hb
 show g7 U _ fun v bs'=>j6 (K4 t) v∧RBs [] bs'
 unfold d8s
 have bad:∀ {e:Int} {vs:List V} {bs:List Bx} {K:V→List Bx→Om} ,e ≠ 0→n8 t.text t.pkg true=e→j5 [.c (.i .i64 e),.c (.i .i64 (t.pos:Int))] vs→RBs [] bs→g7 U (U.bind (fn 45 vs bs) K fun v=>some (.pan (U.rn0 v),[])) fun v bs'=>j6 (K4 t) v∧RBs [] bs':=fun {e vs bs K} h0 he hv hb=>by
  have e1:K4 t=a1m e t.pos:=by unfold K4;rw [he,if_neg h0]
  rw [e1]
  exact Q9 hf (e,(t.pos:Int)) (r:=.fl 107 e t.pos) rfl hv hb fun _ hv=>a1p hv .nil
 have ok:∀ {bs:List Bx},n8 t.text t.pkg true=0→RBs [] bs→g7 U (some (.ret (.tuple []),bs)) fun v bs'=>j6 (K4 t) v∧RBs [] bs':=fun {bs} he hb=>by
  have e1:K4 t=.ret (.t []):=by unfold K4;rw [if_pos he]
  rw [e1]
  exact g9 ⟨.ret _ _ (.t _ _ .nil),hb⟩
 (refine Zy ?_;with_reducible repeat' first|intro _|apply aI)
 ·exact bad dE (by unfold n8;rw [if_pos oM]) (.k (.i _ _) (.k (.q _ _ aS) .nil)) .nil
 ·have hl:¬40 < t.text.length:=oM
  refine R6 (fun vs bs=>∃ b:Bool,j5 [.p 0 0,.c (.b b)] vs∧RBs [[.i .i64 t.kind,.i .i64 (t.pos:Int),.s t.pkg,.s t.text,.s t.den]] bs∧(b=true↔(t.text.length=0∨(t.pkg.length ≠ 0∧n5 t.pkg=false)))) ?_ ?_
  ·rintro vs' bs' ⟨b,hv',hb',hbe⟩
   (refine Zq ?_;with_reducible repeat' first|intro _|apply aI)
   ·exact bad dE (by
     unfold n8
     rw [if_neg hl,if_pos]
     have:=hbe.1 ‹_›
     simpa using this) (.k (.i _ _) (.k (.q _ _ aS) .nil)) .nil
   ·exact ok (by
     unfold n8
     rw [if_neg hl,if_neg]
     intro h
     exact ‹¬b=true› (hbe.2 (by simpa using h))) .nil
  ·intro c hc
   (refine Zq ?_;with_reducible repeat' first|intro _|apply aI)
   ·have e:t.text=[]:=‹_›
    exact hc _ _ ⟨true,by (exact j4),RB.bx aS rfl,by simp [e]⟩
   ·have e:¬t.text=[]:=‹_›
    have e2:t.pkg=[]:=‹_›
    exact hc _ _ ⟨false,by (exact j4),RB.bx aS rfl,by simp [e,e2]⟩
   ·have e:¬t.text=[]:=‹_›
    have e2:¬t.pkg=[]:=‹_›
    refine f6 hvp ⟨t.pkg,ht⟩ (r:=.c (.b (n5 t.pkg))) rfl (.k (.q _ _ aS) .nil) .nil fun _ _ _ _=>?_
    (refine Zq ?_;intros)
    refine fun e9=>?_
    subst e9
    exact hc _ _ ⟨!n5 t.pkg,.k (.p _ _) (.k (P9 (c1m _).symm) .nil),RB.bx aS rfl,by simp [e,e2]⟩ rfl
def a3u:Except (Int × Nat) (A6 × Nat)→n6
 | .ok (t,_)=>.ret (.a (T8 t))
 | .error (e,p)=>a1m e p
def tokB (k:Nat):Except (Int × Nat) (A6 × Nat)→Nat
 | .ok (_,j)=>j
 | .error _=>k
def wdS (s:f5) (i:Nat) (w:f5) (k:Nat):Except (Int × Nat) (A6 × Nat):=if has s k 58 58 then J5 s i w k else H0 i w k
def T0 (s:f5) (i:Nat) (by_:Int):Except (Int × Nat) (List Int × Nat):=H7 s by_ (i+1) []
def b0y:Except (Int × Nat) (List Int × Nat)→n6
 | .ok (l,_)=>.ret (.c (.s (E6 l)))
 | .error (e,p)=>a1m e p
def c2q (i:Nat):Except (Int × Nat) (List Int × Nat)→Nat
 | .ok (_,j)=>j
 | .error _=>i
def c11:Sp where
 ι:={ p:ScI × Int // (p.2=34∨p.2=124)∧p.1.1.2 < p.1.1.1.length∧p.1.1.1.length < 8000 }
 A p:=[.p 0 0,.c (.i .u8 p.1.2)]
 B p:=[H3 p.1.1.1.1 p.1.1.1.2]
 R p:=b0y (T0 p.1.1.1.1 p.1.1.1.2 p.1.2)
 B' p:=[H3 p.1.1.1.1 (c2q p.1.1.1.2 (T0 p.1.1.1.1 p.1.1.1.2 p.1.2))]
 inj i j vs bs hv kv h k:=by
  have:=a4z (RBs.one_inj h k)
  obtain ⟨_,_,_,_,hv,kv⟩:=hv.two kv
  obtain ⟨_,_,h2,k2,_,_⟩:=hv.two kv
  rw [this.1,this.2,a0l h2 k2];exact ⟨rfl,rfl⟩
theorem scB {s:f5} {k:Nat} {n:Int} (hn:n=(k:Int)):RB (H3 s k) (.cells [.str s.length (j9 s),.int .i64 n]):=by
 subst hn
 exact .cells _ _ (.k (.s _ _ _ rfl rfl) (.k (.i _ _) .nil))
def z5:List G:=[.i .i64 0,.i .i64 0,.s [],.s [],.s []]
theorem z5B:RB z5 (.cells [.int .i64 0,.int .i64 0,.str 0 0,.str 0 0,.str 0 0]):=.cells _ _ j4
theorem a1j (s:f5):A8 s=T2 s:=by
 unfold A8 T2
 by_cases h:(f7 s).natAbs=0
 ·rw [h,u9];rfl
 ·rw [P2 _ h,D6 h];simp
theorem e0w (l:f5):Lib.trimS l [48]=[]↔∀ j,j < l.length→bt l j=48:=by
 rw [c5p]
 constructor
 ·intro h j hj
  have:=h l[j] (List.getElem_mem hj)
  simp only [List.contains_cons,List.contains_nil,Bool.or_false,beq_iff_eq] at this
  unfold bt;simp [List.getD,List.getElem?_eq_getElem hj,this]
 ·intro h b hb
  obtain ⟨j,hj,rfl⟩:=List.getElem_of_mem hb
  have:=h j hj
  unfold bt at this
  simp only [List.getD,List.getElem?_eq_getElem hj,Option.getD_some] at this
  simp only [List.contains_cons,List.contains_nil,Bool.or_false,beq_iff_eq]
  exact UInt8.toNat_inj.1 (by show _=48;omega)
theorem c68 {s:f5} {a:Nat} (ha:a≤s.length):F5 s a=s.length↔∀ j,a≤j→j < s.length→bt s j=48:=by
 fun_induction F5 s a with
 | case1 a h1 h2 ih =>
  rw [ih oM]
  constructor
  ·intro h j h3 h4
   by_cases hj:j=a
   ·subst hj;exact h2
   ·exact h j oM h4
  ·intro h j h3 h4;exact h j oM h4
 | case2 a h1 h2=>exact ⟨fun h=>by omega,fun h=>absurd (h a (Nat.le_refl _) h1) h2⟩
 | case3 a h1=>exact ⟨fun _ j h3 h4=>by omega,fun _=>by omega⟩
theorem b6m {l:f5} (h:F2 l=true):Lib.trimS l [48]=[]↔plain l=x5:=by
 unfold F2 at h
 obtain ⟨h0,h1⟩:=of_decide_eq_true h
 rw [a81 (Nat.zero_le _)] at h1
 have hl:=List.length_pos_iff.2 h0
 have hs:g8 l=0:=by
  unfold g8;rw [if_neg];rintro ⟨_,h2⟩;have:=h1 0 (Nat.le_refl _) hl;omega
 have hz:=a97 l 0 (Nat.zero_le _)
 rw [e0w]
 unfold plain
 simp only [hs,List.take_length]
 rw [show (∀ j,j < l.length→bt l j=48)↔F5 l 0=l.length by rw [c68 (Nat.zero_le _)];exact ⟨fun h j _=>h j,fun h j=>h j (Nat.zero_le _)⟩]
 by_cases he:F5 l 0=l.length
 ·rw [if_pos he];exact ⟨fun _=>rfl,fun _=>he⟩
 ·rw [if_neg he,if_neg dE]
  refine ⟨fun h=>absurd h he,fun h=>?_⟩
  exfalso
  have hst:∀ a,F5 l a < l.length→bt l (F5 l a) ≠ 48:=by
   intro a
   fun_induction F5 l a with
   | case1 a h1 h2 ih=>exact ih
   | case2 a h1 h2=>intro _ h;exact h2 h
   | case3 a h1=>intro h;exact absurd h h1
  have h2:=hst 0 oM
  have h3:bt (l.drop (F5 l 0)) 0=bt x5 0:=by rw [h]
  rw [a2d] at h3
  exact h2 h3
theorem a74 {w:f5} (h:(m6 w).2.2=true):(m6 w).1=(v8 w).1∧(m6 w).2.1=(v8 w).2∧F2 (v8 w).2=true:=by
 obtain ⟨h1,h2⟩:=b6a w
 obtain ⟨a,b⟩:=h2 h
 rw [h] at h1
 simp only [Bool.and_eq_true] at h1
 exact ⟨a,b,h1.2⟩
end
end Go.Proofs.YtdldcfllnohkeaaGreatDoor
