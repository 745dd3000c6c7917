/- Packages and symbols: the program's and the reference's. -/
import Derived.Test.YtdldcfllnohkeaaGreatDoorCEF
set_option linter.all false
namespace Go.Proofs.YtdldcfllnohkeaaGreatDoor
open Go.Abs LQ
set_option maxRecDepth 100000
set_option maxHeartbeats 4000000
noncomputable section
theorem a9e:∀ {l m:List Sy},l.map sg=m.map sg→l=m
 | [],[],_=>rfl
 | [],_ :: _,h=>by simp at h
 | _ :: _,[],h=>by simp at h
 | a :: l,b :: m,h=>by simp only [List.map_cons,List.cons.injEq] at h;rw [a97 h.1,a9e h.2]
theorem f11 {a b:Pk} (h:pg a=pg b):a=b:=by
 simp only [pg,List.cons.injEq,G.s.injEq,G.l.injEq,and_true] at h
 exact Prod.ext h.1 (a9e h.2)
theorem W7:∀ {l m:List Pk},l.map pg=m.map pg→l=m
 | [],[],_=>rfl
 | [],_ :: _,h=>by simp at h
 | _ :: _,[],h=>by simp at h
 | a :: l,b :: m,h=>by simp only [List.map_cons,List.cons.injEq] at h;rw [f11 h.1,W7 h.2]
def H7 (L:List Pk):Prop:=L.length < 90000∧∀ p ∈ L,p.2.length < 90000
def f6x (g:List Pk→i6→GV):Sp where
 ι:={ p:List Pk × i6 // H7 p.1 }
 A p:=[.sl 2 (p.1.1.map pg),.c (.s p.1.2)]
 B _:=[]
 R p:=.ret (g p.1.1 p.1.2)
 B' _:=[]
 inj i j vs bs h k _ _:=by
  obtain ⟨_,_,h1,k1,h,k⟩:=h.two k
  obtain ⟨_,_,h2,k2,h,k⟩:=h.two k
  rw [W7 (h1.sl_inj k1),H3 h2 k2];exact ⟨rfl,rfl⟩
def e5l (g:List Pk→i6→i6→GV):Sp where
 ι:={ p:List Pk × i6 × i6 // H7 p.1 }
 A p:=[.sl 2 (p.1.1.map pg),.c (.s p.1.2.1),.c (.s p.1.2.2)]
 B _:=[]
 R p:=.ret (g p.1.1 p.1.2.1 p.1.2.2)
 B' _:=[]
 inj i j vs bs h k _ _:=by
  obtain ⟨_,_,h1,k1,h,k⟩:=h.two k
  obtain ⟨_,_,h2,k2,h,k⟩:=h.two k
  obtain ⟨_,_,h3,k3,h,k⟩:=h.two k
  rw [W7 (h1.sl_inj k1),H3 h2 k2,H3 h3 k3];exact ⟨rfl,rfl⟩
def f6y (g:List Pk→Sy→GV):Sp where
 ι:={ p:List Pk × Sy // H7 p.1 }
 A p:=[.sl 2 (p.1.1.map pg),.a (sg p.1.2)]
 B _:=[]
 R p:=.ret (g p.1.1 p.1.2)
 B' _:=[]
 inj i j vs bs h k _ _:=by
  obtain ⟨_,_,h1,k1,h,k⟩:=h.two k
  obtain ⟨_,_,h2,k2,h,k⟩:=h.two k
  rw [W7 (h1.sl_inj k1),a97 (h2.a_inj k2)];exact ⟨rfl,rfl⟩
def e5m (g:List Pk→i6→Sy→GV):Sp where
 ι:={ p:List Pk × i6 × Sy // H7 p.1 }
 A p:=[.sl 2 (p.1.1.map pg),.c (.s p.1.2.1),.a (sg p.1.2.2)]
 B _:=[]
 R p:=.ret (g p.1.1 p.1.2.1 p.1.2.2)
 B' _:=[]
 inj i j vs bs h k _ _:=by
  obtain ⟨_,_,h1,k1,h,k⟩:=h.two k
  obtain ⟨_,_,h2,k2,h,k⟩:=h.two k
  obtain ⟨_,_,h3,k3,h,k⟩:=h.two k
  rw [W7 (h1.sl_inj k1),H3 h2 k2,a97 (h3.a_inj k3)];exact ⟨rfl,rfl⟩
def J2 (L:List Pk) (n:i6):GV:=match D2 L n with
 | some p=>.t [.a (pg p),.c (.b true)]
 | none=>.t [.a [.s [],.l []],.c (.b false)]
theorem c5z {L:List Pk} {n:i6} {i:Nat} (h:i < L.length) (hn:L[i].1=n):D2 (L.drop i) n=some L[i]:=by
 rw [List.drop_eq_getElem_cons h,D2,if_pos hn]
theorem d05 {L:List Pk} {n:i6} {i:Nat} (h:i < L.length) (hn:¬L[i].1=n):D2 (L.drop i) n=D2 (L.drop (i+1)) n:=by
 rw [List.drop_eq_getElem_cons h,D2,if_neg hn]
theorem c5y {L:List Pk} {n:i6} {i:Nat} (h:¬i < L.length):D2 (L.drop i) n=none:=by
 rw [List.drop_eq_nil_of_le oM];rfl
theorem c58:k9 50 (f6x J2):=n9 (fun fn h=>f4g h) [] .nil fun U fn hfn ⟨(L,nm),hL⟩ vs bs hv hb=>by
 have hL:H7 L:=hL
 have hl:L.length < 90000:=hL.1
 have hv:l7 [.sl 2 (L.map pg),.c (.s nm)] vs:=hv
 have hb:RBs [] bs:=hb
 show j5 U _ fun v bs'=>l8 (.ret (J2 L nm)) v∧RBs [] bs'
 unfold r50
 (refine Zq ?_;intros)
 refine H2 (fun (i:Nat) vs bs=>∃ (t:j8 Q) (off:Nat),vs=[.str nm.length (n7 nm),.ptr 0 0,.slice t 2 off L.length .no,.int .i64 L.length,.int .i64 i]∧bs=[.cells [.str 0 0,.slice .nil 0 0 0 .exact]]∧p9 2 (L.map pg) t off∧i≤L.length∧D2 (L.drop i) nm=D2 L nm) (fun i=>L.length - i) 0 ⟨_,_,rfl,rfl,aS,Nat.zero_le _,rfl⟩ (by simp only [C4];omega) ?_
 rintro self i _ _ ⟨t,off,rfl,rfl,ht,hi,he⟩ ih
 (refine Zq ?_;with_reducible repeat' first|intro _|apply aI)
 ·have hi2:i < L.length:=oM
  have e:L[i].1=nm:=‹_›
  unfold J2
  rw [← he,c5z hi2 e]
  exact j9 ⟨.ret _ _ (.t _ _ (.k (.a _ _ _ rfl aS) (.k (.kn _) .nil))),.nil⟩
 ·have hi2:i < L.length:=oM
  have e:¬L[i].1=nm:=‹_›
  exact ih (i+1) _ _ ⟨_,_,rfl,rfl,ht,oM,by rw [← he,d05 hi2 e]⟩ oM
 ·unfold J2
  rw [← he,c5y oM]
  exact j9 ⟨.ret _ _ (.t _ _ (.k (.ag _ _ l5) (.k (.kn _) .nil))),.nil⟩
theorem d6w:k9 29 (f6x J2):=n9 (fun fn h=>f3a h) [] .nil fun U fn hfn ⟨(L,nm),hL⟩ vs bs hv hb=>by
 have hL:H7 L:=hL
 have hl:L.length < 90000:=hL.1
 have hv:l7 [.sl 2 (L.map pg),.c (.s nm)] vs:=hv
 have hb:RBs [] bs:=hb
 show j5 U _ fun v bs'=>l8 (.ret (J2 L nm)) v∧RBs [] bs'
 unfold r29
 (refine Zq ?_;intros)
 refine H2 (fun (i:Nat) vs bs=>∃ (t:j8 Q) (off:Nat),vs=[.slice t 2 off L.length .no,.str nm.length (n7 nm),.ptr 0 0,.int .i64 i]∧bs=[.cells [.str 0 0,.slice .nil 0 0 0 .exact]]∧p9 2 (L.map pg) t off∧i≤L.length∧D2 (L.drop i) nm=D2 L nm) (fun i=>L.length - i) 0 ⟨_,_,rfl,rfl,aS,Nat.zero_le _,rfl⟩ (by simp only [C4];omega) ?_
 rintro self i _ _ ⟨t,off,rfl,rfl,ht,hi,he⟩ ih
 (refine Zq ?_;with_reducible repeat' first|intro _|apply aI)
 ·have hi2:i < L.length:=oM
  have e:L[i].1=nm:=‹_›
  unfold J2
  rw [← he,c5z hi2 e]
  exact j9 ⟨.ret _ _ (.t _ _ (.k (.a _ _ _ rfl aS) (.k (.kn _) .nil))),.nil⟩
 ·have hi2:i < L.length:=oM
  have e:¬L[i].1=nm:=‹_›
  exact ih (i+1) _ _ ⟨_,_,rfl,rfl,ht,oM,by rw [← he,d05 hi2 e]⟩ oM
 ·unfold J2
  rw [← he,c5y oM]
  exact j9 ⟨.ret _ _ (.t _ _ (.k (.ag _ _ l5) (.k (.kn _) .nil))),.nil⟩
def a6q (L:List Pk) (c n:i6):GV:=.t [.a (sg (B8 L c n).1),.c (.i .i64 (B8 L c n).2)]
theorem d1a {l:List Sy} {n:i6} {i:Nat} (h:i < l.length) (hn:l[i].2=n):a2w (l.drop i) n=some l[i]:=by
 rw [List.drop_eq_getElem_cons h,a2w,if_pos hn]
theorem d6s {l:List Sy} {n:i6} {i:Nat} (h:i < l.length) (hn:¬l[i].2=n):a2w (l.drop i) n=a2w (l.drop (i+1)) n:=by
 rw [List.drop_eq_getElem_cons h,a2w,if_neg hn]
theorem d09 {l:List Sy} {n:i6} {i:Nat} (h:¬i < l.length):a2w (l.drop i) n=none:=by
 rw [List.drop_eq_nil_of_le oM];rfl
theorem c18 {L:List Pk} {n:i6} {p:Pk} (h:D2 L n=some p):p ∈ L∧p.1=n:=by
 induction L with
 | nil=>cases h
 | cons q L ih =>
  rw [D2] at h
  split at h
  ·rename_i e;injection h with h;subst h;exact ⟨by simp,e⟩
  ·have:=ih h;exact ⟨by simp [this.1],this.2⟩
theorem a29 (s:Sy):(sg s).length=2:=rfl
theorem b41 {L:List Pk} {c n:i6} (h:D2 L c=none):B8 L c n=(([],[]),13):=by unfold B8;rw [h]
theorem a5s {L:List Pk} {c n:i6} {p:Pk} (h:D2 L c=some p) (hn:n.length < 1∨40 < n.length):B8 L c n=(([],[]),3):=by unfold B8;rw [h];simp only [];rw [if_pos hn]
theorem b7x {L:List Pk} {c n:i6} {p:Pk} {s:Sy} (h:D2 L c=some p) (hn:¬(n.length < 1∨40 < n.length)) (hi:a2w p.2 n=some s):B8 L c n=(s,0):=by unfold B8;rw [h];simp only [];rw [if_neg hn,hi]
theorem b7y {L:List Pk} {c n:i6} {p:Pk} (h:D2 L c=some p) (hn:¬(n.length < 1∨40 < n.length)) (hi:a2w p.2 n=none):B8 L c n=((c,n),0):=by unfold B8;rw [h];simp only [];rw [if_neg hn,hi]
theorem O6 {L:List Pk} {c n:i6} {r:Sy × Int} (h:B8 L c n=r):a6q L c n=.t [.a (sg r.1),.c (.i .i64 r.2)]:=by unfold a6q;rw [h]
theorem c6b:k9 103 (e5l a6q):=n9 (fun fn h=>e7r h) [(50,_)] (.cons c58 .nil) fun U fn hfn ⟨(L,cur,nm),hL⟩ vs bs hv hb=>by
 have hf:=hfn 50 _ rfl
 have hL:H7 L:=hL
 have hv:l7 [.sl 2 (L.map pg),.c (.s cur),.c (.s nm)] vs:=hv
 have hb:RBs [] bs:=hb
 show j5 U _ fun v bs'=>l8 (.ret (a6q L cur nm)) v∧RBs [] bs'
 unfold e1n
 (refine Zq ?_;with_reducible repeat' first|intro _|apply aI)
 cases hp:D2 L cur with
 | none =>
  refine j4 hf ⟨(L,cur),hL⟩ (r:=.t [.a [.s [],.l []],.c (.b false)]) (by show r7.ret (J2 L cur)=_;unfold J2;rw [hp]) (.k (.sl _ _ _ _ _ (by simp) aS) l5) .nil fun _ _ _ _=>?_
  (refine Zq ?_;intros)
  rw [O6 (b41 hp)]
  exact j9 ⟨.ret _ _ (.t _ _ (.k (.ag _ _ l5) (.k (.i _ _) .nil))),.nil⟩
 | some p =>
  refine j4 hf ⟨(L,cur),hL⟩ (r:=.t [.a (pg p),.c (.b true)]) (by show r7.ret (J2 L cur)=_;unfold J2;rw [hp]) (.k (.sl _ _ _ _ _ (by simp) aS) l5) .nil fun _ _ hv9 _=>?_
  have hv9:RV (.t [.a [.s p.1,.l (p.2.map sg)],.c (.b true)]) _:=hv9
  have hpl:=hL.2 p (c18 hp).1
  (refine Zq ?_;with_reducible repeat' first|intro _|apply aI)
  all_goals
   refine a7q (gs:=[.s [],.s []]) (.cells _ _ l5) rfl fun _ _=>?_
   (refine Zq ?_;with_reducible repeat' first|intro _|apply aI)
  ·rw [O6 (a5s hp (.inl oM))]
   exact j9 ⟨.ret _ _ (.t _ _ (.k (.ag _ _ l5) (.k (.i _ _) .nil))),.nil⟩
  ·rw [O6 (a5s hp (.inr oM))]
   exact j9 ⟨.ret _ _ (.t _ _ (.k (.ag _ _ l5) (.k (.i _ _) .nil))),.nil⟩
  (refine E8 (f:=sg) aS (A0 a29) fun _ _ _=>?_)
  (refine Zq ?_;intros)
  have hnm:¬(nm.length < 1∨40 < nm.length):=oM
  refine H2 (fun (i:Nat) vs bs=>∃ (x q:Q),vs=[.str cur.length (n7 cur),.str nm.length (n7 nm),.ptr 0 0,.q x,.int .i64 p.2.length,.int .i64 i]∧bs=[.opa q 2]∧RG (.l (p.2.map sg)) x∧A6 [.s [],.s []] q 0∧i≤p.2.length∧a2w (p.2.drop i) nm=a2w p.2 nm) (fun i=>p.2.length - i) 0 ⟨_,_,rfl,rfl,aS,aS,Nat.zero_le _,rfl⟩ (by simp only [C4];omega) ?_
  rintro self i _ _ ⟨x,q,rfl,rfl,hx,hq,hi,he⟩ ih
  (refine Zq ?_;intros)
  refine sQV ?_
  (refine Zq ?_;with_reducible repeat' first|intro _|apply aI)
  ·(refine E8 (f:=sg) aS (A0 a29) fun _ _ _=>?_)
   (refine Zq ?_;with_reducible repeat' first|intro _|apply aI)
   ·have hi2:i < p.2.length:=oM
    have e:p.2[i].2=nm:=‹_›
    rw [O6 (b7x hp hnm (by rw [← he,d1a hi2 e]))]
    exact j9 ⟨.ret _ _ (.t _ _ (.k (.a _ _ _ rfl aS) (.k (.i _ _) .nil))),.nil⟩
   ·have hi2:i < p.2.length:=oM
    have e:¬p.2[i].2=nm:=‹_›
    exact ih (i+1) _ _ ⟨_,_,rfl,rfl,hx,aS,oM,by rw [← he,d6s hi2 e]⟩ oM
  ·rw [O6 (b7y hp hnm (by rw [← he,d09 oM]))]
   exact j9 ⟨.ret _ _ (.t _ _ (.k (.ag _ _ l5) (.k (.i _ _) .nil))),.nil⟩
theorem e0j:k9 123 (e5l a6q):=n9 (fun fn h=>e78 h) [(29,_)] (.cons d6w .nil) fun U fn hfn ⟨(L,cur,nm),hL⟩ vs bs hv hb=>by
 have hf:=hfn 29 _ rfl
 have hL:H7 L:=hL
 have hv:l7 [.sl 2 (L.map pg),.c (.s cur),.c (.s nm)] vs:=hv
 have hb:RBs [] bs:=hb
 show j5 U _ fun v bs'=>l8 (.ret (a6q L cur nm)) v∧RBs [] bs'
 unfold e14
 (refine Zq ?_;with_reducible repeat' first|intro _|apply aI)
 cases hp:D2 L cur with
 | none =>
  refine j4 hf ⟨(L,cur),hL⟩ (r:=.t [.a [.s [],.l []],.c (.b false)]) (by show r7.ret (J2 L cur)=_;unfold J2;rw [hp]) (.k (.sl _ _ _ _ _ (by simp) aS) l5) .nil fun _ _ _ _=>?_
  (refine Zq ?_;intros)
  rw [O6 (b41 hp)]
  exact j9 ⟨.ret _ _ (.t _ _ (.k (.ag _ _ l5) (.k (.i _ _) .nil))),.nil⟩
 | some p =>
  refine j4 hf ⟨(L,cur),hL⟩ (r:=.t [.a (pg p),.c (.b true)]) (by show r7.ret (J2 L cur)=_;unfold J2;rw [hp]) (.k (.sl _ _ _ _ _ (by simp) aS) l5) .nil fun _ _ hv9 _=>?_
  have hv9:RV (.t [.a [.s p.1,.l (p.2.map sg)],.c (.b true)]) _:=hv9
  have hpl:=hL.2 p (c18 hp).1
  (refine Zq ?_;with_reducible repeat' first|intro _|apply aI)
  all_goals
   refine a7q (gs:=[.s [],.s []]) (.cells _ _ l5) rfl fun _ _=>?_
   (refine Zq ?_;with_reducible repeat' first|intro _|apply aI)
  ·rw [O6 (a5s hp (.inl oM))]
   exact j9 ⟨.ret _ _ (.t _ _ (.k (.ag _ _ l5) (.k (.i _ _) .nil))),.nil⟩
  ·rw [O6 (a5s hp (.inr oM))]
   exact j9 ⟨.ret _ _ (.t _ _ (.k (.ag _ _ l5) (.k (.i _ _) .nil))),.nil⟩
  have hnm:¬(nm.length < 1∨40 < nm.length):=oM
  refine H2 (fun (i:Nat) vs bs=>∃ (x q:Q),vs=[.str cur.length (n7 cur),.str nm.length (n7 nm),.ptr 0 0,.ptr 1 0,.int .i64 i]∧bs=[.opa q 2,.opa x 2]∧A6 [.s p.1,.l (p.2.map sg)] x 0∧A6 [.s [],.s []] q 0∧i≤p.2.length∧a2w (p.2.drop i) nm=a2w p.2 nm) (fun i=>p.2.length - i) 0 ⟨_,_,rfl,rfl,aS,aS,Nat.zero_le _,rfl⟩ (by simp only [C4];omega) ?_
  rintro self i _ _ ⟨x,q,rfl,rfl,hx,hq,hi,he⟩ ih
  (refine Zq ?_;intros)
  (refine E8 (f:=sg) aS (A0 a29) fun _ _ _=>?_)
  (refine Zq ?_;with_reducible repeat' first|intro _|apply aI)
  ·(refine E8 (f:=sg) aS (A0 a29) fun _ _ _=>?_)
   (refine Zq ?_;with_reducible repeat' first|intro _|apply aI)
   ·(refine E8 (f:=sg) aS (A0 a29) fun _ _ _=>?_)
    (refine Zq ?_;intros)
    have hi2:i < p.2.length:=oM
    have e:p.2[i].2=nm:=‹_›
    rw [O6 (b7x hp hnm (by rw [← he,d1a hi2 e]))]
    exact j9 ⟨.ret _ _ (.t _ _ (.k (.a _ _ _ rfl aS) (.k (.i _ _) .nil))),.nil⟩
   ·have hi2:i < p.2.length:=oM
    have e:¬p.2[i].2=nm:=‹_›
    exact ih (i+1) _ _ ⟨_,_,rfl,rfl,hx,aS,oM,by rw [← he,d6s hi2 e]⟩ oM
  ·rw [O6 (b7y hp hnm (by rw [← he,d09 oM]))]
   exact j9 ⟨.ret _ _ (.t _ _ (.k (.ag _ _ l5) (.k (.i _ _) .nil))),.nil⟩
theorem e4r:k9 85 (e5m fun L c s=>.c (.b (a0y L c s))):=n9 (fun fn h=>f5p h) [(103,_)] (.cons c6b .nil) fun U fn hfn ⟨(L,cur,s),hL⟩ vs bs hv hb=>by
 have hi:=hfn 103 _ rfl
 have hL:H7 L:=hL
 have hv:l7 [.sl 2 (L.map pg),.c (.s cur),.a [.s s.1,.s s.2]] vs:=hv
 have hb:RBs [] bs:=hb
 show j5 U _ fun v bs'=>l8 (.ret (.c (.b (a0y L cur s)))) v∧RBs [] bs'
 unfold r85
 (refine Zq ?_;intros)
 refine j4 hi ⟨(L,cur,s.2),hL⟩ (r:=.t [.a (sg (B8 L cur s.2).1),.c (.i .i64 (B8 L cur s.2).2)]) rfl (.k (.sl _ _ _ _ _ (by simp) aS) l5) .nil fun _ _ hv9 _=>?_
 have hv9:RV (.t [.a [.s (B8 L cur s.2).1.1,.s (B8 L cur s.2).1.2],.c (.i .i64 (B8 L cur s.2).2)]) _:=hv9
 unfold a0y
 generalize B8 L cur s.2=r at *
 obtain ⟨⟨r1,r2⟩,e⟩:=r
 obtain ⟨s1,s2⟩:=s
 (refine Zq ?_;with_reducible repeat' first|intro _|apply aI)
 ·have h0:e=0:=‹_›
  refine J3 fun e9=>?_
  subst e9
  refine ⟨.ret _ _ (U6 ?_),.nil⟩
  rw [b30,b30,cuS,cuS,Bool.eq_iff_iff]
  simp only [Bool.and_true,Bool.and_eq_true,decide_eq_true_iff,Prod.mk.injEq]
  exact ⟨fun h=>h.2,fun h=>⟨h0,h⟩⟩
 ·exact j9 ⟨.ret _ _ (N7 (decide_eq_false (fun h=>‹¬e=0› h.1))),.nil⟩
theorem d6x:k9 82 (f6y fun L s=>.c (.b (O5 L s))):=n9 (fun fn h=>f5l h) [(85,_)] (.cons e4r .nil) fun U fn hfn ⟨(L,s),hL⟩ vs bs hv hb=>by
 have hi:=hfn 85 _ rfl
 have hL:H7 L:=hL
 have hv:l7 [.sl 2 (L.map pg),.a [.s s.1,.s s.2]] vs:=hv
 have hb:RBs [] bs:=hb
 show j5 U _ fun v bs'=>l8 (.ret (.c (.b (O5 L s)))) v∧RBs [] bs'
 unfold r82
 (refine Zq ?_;intros)
 refine j4 hi ⟨(L,s.1,s),hL⟩ (r:=.c (.b (O5 L s))) rfl (.k (.sl _ _ _ _ _ (by simp) aS) (.k (.q _ _ aS) (.k (.a _ _ _ rfl aS) .nil))) .nil fun _ _ _ _=>?_
 (refine Zq ?_;intros)
 exact j9 ⟨.ret _ _ (.b _),.nil⟩
theorem f9d:k9 92 (e5m fun L c s=>.c (.b (a0y L c s))):=n9 (fun fn h=>f51 h) [(123,_)] (.cons e0j .nil) fun U fn hfn ⟨(L,cur,s),hL⟩ vs bs hv hb=>by
 have hi:=hfn 123 _ rfl
 have hL:H7 L:=hL
 have hv:l7 [.sl 2 (L.map pg),.c (.s cur),.a [.s s.1,.s s.2]] vs:=hv
 have hb:RBs [] bs:=hb
 show j5 U _ fun v bs'=>l8 (.ret (.c (.b (a0y L cur s)))) v∧RBs [] bs'
 unfold r92
 (refine Zq ?_;intros)
 refine j4 hi ⟨(L,cur,s.2),hL⟩ (r:=.t [.a (sg (B8 L cur s.2).1),.c (.i .i64 (B8 L cur s.2).2)]) rfl (.k (.sl _ _ _ _ _ (by simp) aS) l5) .nil fun _ _ hv9 _=>?_
 have hv9:RV (.t [.a [.s (B8 L cur s.2).1.1,.s (B8 L cur s.2).1.2],.c (.i .i64 (B8 L cur s.2).2)]) _:=hv9
 unfold a0y
 generalize B8 L cur s.2=r at *
 obtain ⟨⟨r1,r2⟩,e⟩:=r
 obtain ⟨s1,s2⟩:=s
 (refine Zq ?_;with_reducible repeat' first|intro _|apply aI)
 ·have h0:e=0:=‹_›
  refine J3 fun e9=>?_
  subst e9
  refine ⟨.ret _ _ (U6 ?_),.nil⟩
  rw [b30,b30,cuS,cuS,Bool.eq_iff_iff]
  simp only [Bool.and_true,Bool.and_eq_true,decide_eq_true_iff,Prod.mk.injEq]
  exact ⟨fun h=>h.2,fun h=>⟨h0,h⟩⟩
 ·exact j9 ⟨.ret _ _ (N7 (decide_eq_false (fun h=>‹¬e=0› h.1))),.nil⟩
theorem f0x:k9 60 (f6y fun L s=>.c (.b (O5 L s))):=n9 (fun fn h=>f4u h) [(92,_)] (.cons f9d .nil) fun U fn hfn ⟨(L,s),hL⟩ vs bs hv hb=>by
 have hi:=hfn 92 _ rfl
 have hL:H7 L:=hL
 have hv:l7 [.sl 2 (L.map pg),.a [.s s.1,.s s.2]] vs:=hv
 have hb:RBs [] bs:=hb
 show j5 U _ fun v bs'=>l8 (.ret (.c (.b (O5 L s)))) v∧RBs [] bs'
 unfold r60
 (refine Zq ?_;intros)
 refine j4 hi ⟨(L,s.1,s),hL⟩ (r:=.c (.b (O5 L s))) rfl (.k (.sl _ _ _ _ _ (by simp) aS) (.k (.q _ _ aS) (.k (.a _ _ _ rfl aS) .nil))) .nil fun _ _ _ _=>?_
 (refine Zq ?_;intros)
 exact j9 ⟨.ret _ _ (.b _),.nil⟩
theorem e6y:k9 59 (c4w fun s=>.c (.b (named s))):=n9 (fun fn h=>f4s h) [(91,_)] (.cons e6r .nil) fun U fn hfn ⟨s,h1,h2⟩ vs bs hv hb=>by
 have hn:=hfn 91 _ rfl
 have hv:l7 [.a (sg s)] vs:=hv
 have hb:RBs [] bs:=hb
 show j5 U _ fun v bs'=>l8 (.ret (.c (.b (named s)))) v∧RBs [] bs'
 unfold r59
 (refine Zq ?_;intros)
 refine j4 hn ⟨s,h1,h2⟩ (r:=.c (.b (named s))) rfl l5 .nil fun _ _ _ _=>?_
 (refine Zq ?_;intros)
 exact j9 ⟨.ret _ _ (.b _),.nil⟩
theorem c0l:k9 58 (sp1 fun s=>.ret (.c (.b (t6 s)))):=n9 (fun fn h=>f4q h) [(90,_)] (.cons c6c .nil) fun U fn hfn ⟨s,hs⟩ vs bs hv hb=>by
 have hn:=hfn 90 _ rfl
 have hv:l7 [.c (.s s)] vs:=hv
 have hb:RBs [] bs:=hb
 show j5 U _ fun v bs'=>l8 (.ret (.c (.b (t6 s)))) v∧RBs [] bs'
 unfold r58
 (refine Zq ?_;intros)
 refine j4 hn ⟨s,hs⟩ (r:=.c (.b (t6 s))) rfl l5 .nil fun _ _ _ _=>?_
 (refine Zq ?_;intros)
 exact j9 ⟨.ret _ _ (.b _),.nil⟩
def A7 (t:x5):List G:=[.i .i64 t.kind,.i .i64 (t.pos:Int),.s t.pkg,.s t.text,.s t.den]
theorem a6v (t:x5):(A7 t).length=5:=rfl
theorem b4q {a b:x5} (h:A7 a=A7 b):a=b:=by
 obtain ⟨k,p,g,t,d⟩:=a
 obtain ⟨k',p',g',t',d'⟩:=b
 simp only [A7,List.cons.injEq,G.i.injEq,G.s.injEq,true_and,and_true] at h
 obtain ⟨h1,h2,h3,h4,h5⟩:=h
 have:p=p':=oM
 rw [h1,this,h3,h4,h5]
theorem d2s:∀ {l m:List x5},l.map A7=m.map A7→l=m
 | [],[],_=>rfl
 | [],_ :: _,h=>by simp at h
 | _ :: _,[],h=>by simp at h
 | a :: l,b :: m,h=>by simp only [List.map_cons,List.cons.injEq] at h;rw [b4q h.1,d2s h.2]
def N4 (t:x5):r7:=if u1 t.text t.pkg true=0 then .ret (.t []) else T3 (u1 t.text t.pkg true) t.pos
theorem d1g (hst:k9 179 Y2):k9 110 { ι:={ t:x5 // t.pkg.length < 90000 },A:=fun t=>[.a (A7 t.1)],B:=fun _=>[],R:=fun t=>N4 t.1,B':=fun _=>[],inj:=fun i j vs bs h k _ _=>(by
  obtain ⟨_,_,h1,k1,h,k⟩:=h.two k
  rw [b4q (h1.a_inj k1)];exact ⟨rfl,rfl⟩) }:=n9 (fun fn h=>e7x h) [(45,_),(137,_)] (.cons b39 (.cons (c0m hst) .nil)) fun U fn hfn ⟨t,ht⟩ vs bs hv hb=>by
 have hf:=hfn 45 _ rfl
 have hvp:=hfn 137 _ rfl
 have hv:l7 [.a [.i .i64 t.kind,.i .i64 (t.pos:Int),.s t.pkg,.s t.text,.s t.den]] vs:=hv
 have hb:RBs [] bs:=hb
 show j5 U _ fun v bs'=>l8 (N4 t) v∧RBs [] bs'
 unfold e1t
 have bad:∀ {e:Int} {vs:List V} {bs:List Bx} {K:V→List Bx→Om} ,e ≠ 0→u1 t.text t.pkg true=e→l7 [.c (.i .i64 e),.c (.i .i64 (t.pos:Int))] vs→RBs [] bs→j5 U (U.bind (fn 45 vs bs) K fun v=>some (.pan (U.rn0 v),[])) fun v bs'=>l8 (N4 t) v∧RBs [] bs':=fun {e vs bs K} h0 he hv hb=>by
  have e1:N4 t=T3 e t.pos:=by unfold N4;rw [he,if_neg h0]
  rw [e1]
  exact G6 hf (e,(t.pos:Int)) (r:=.fl 107 e t.pos) rfl hv hb fun _ hv=>R0 hv .nil
 have ok:∀ {bs:List Bx},u1 t.text t.pkg true=0→RBs [] bs→j5 U (some (.ret (.tuple []),bs)) fun v bs'=>l8 (N4 t) v∧RBs [] bs':=fun {bs} he hb=>by
  have e1:N4 t=.ret (.t []):=by unfold N4;rw [if_pos he]
  rw [e1]
  exact j9 ⟨.ret _ _ (.t _ _ .nil),hb⟩
 (refine Zy ?_;with_reducible repeat' first|intro _|apply aI)
 ·exact bad dE (by unfold u1;rw [if_pos oM]) (.k (.i _ _) (.k (.q _ _ aS) .nil)) .nil
 ·have hl:¬40 < t.text.length:=oM
  refine S4 (fun vs bs=>∃ b:Bool,l7 [.p 0 0,.c (.b b)] vs∧RBs [[.i .i64 t.kind,.i .i64 (t.pos:Int),.s t.pkg,.s t.text,.s t.den]] bs∧(b=true↔(t.text.length=0∨(t.pkg.length ≠ 0∧t6 t.pkg=false)))) ?_ ?_
  ·rintro vs' bs' ⟨b,hv',hb',hbe⟩
   (refine Zq ?_;with_reducible repeat' first|intro _|apply aI)
   ·exact bad dE (by
     unfold u1
     rw [if_neg hl,if_pos]
     have:=hbe.1 ‹_›
     simpa using this) (.k (.i _ _) (.k (.q _ _ aS) .nil)) .nil
   ·exact ok (by
     unfold u1
     rw [if_neg hl,if_neg]
     intro h
     exact ‹¬b=true› (hbe.2 (by simpa using h))) .nil
  ·intro c hc
   (refine Zq ?_;with_reducible repeat' first|intro _|apply aI)
   ·have e:t.text=[]:=‹_›
    exact hc _ _ ⟨true,by (exact l5),RB.bx aS rfl,by simp [e]⟩
   ·have e:¬t.text=[]:=‹_›
    have e2:t.pkg=[]:=‹_›
    exact hc _ _ ⟨false,by (exact l5),RB.bx aS rfl,by simp [e,e2]⟩
   ·have e:¬t.text=[]:=‹_›
    have e2:¬t.pkg=[]:=‹_›
    refine j4 hvp ⟨t.pkg,ht⟩ (r:=.c (.b (t6 t.pkg))) rfl (.k (.q _ _ aS) .nil) .nil fun _ _ _ _=>?_
    (refine Zq ?_;intros)
    refine fun e9=>?_
    subst e9
    exact hc _ _ ⟨!t6 t.pkg,.k (.p _ _) (.k (U6 (c4e _).symm) .nil),RB.bx aS rfl,by simp [e,e2]⟩ rfl
def a5k:Except (Int × Nat) (x5 × Nat)→r7
 | .ok (t,_)=>.ret (.a (A7 t))
 | .error (e,p)=>T3 e p
def tokB (k:Nat):Except (Int × Nat) (x5 × Nat)→Nat
 | .ok (_,j)=>j
 | .error _=>k
def wdS (s:i6) (i:Nat) (w:i6) (k:Nat):Except (Int × Nat) (x5 × Nat):=if has s k 58 58 then L0 s i w k else F6 i w k
def W2 (s:i6) (i:Nat) (by_:Int):Except (Int × Nat) (List Int × Nat):=J5 s by_ (i+1) []
def b2f:Except (Int × Nat) (List Int × Nat)→r7
 | .ok (l,_)=>.ret (.c (.s (G3 l)))
 | .error (e,p)=>T3 e p
def c5l (i:Nat):Except (Int × Nat) (List Int × Nat)→Nat
 | .ok (_,j)=>j
 | .error _=>i
def b9b:Sp where
 ι:={ p:ScI × Int // (p.2=34∨p.2=124)∧p.1.1.2 < p.1.1.1.length∧p.1.1.1.length < 8000 }
 A p:=[.p 0 0,.c (.i .u8 p.1.2)]
 B p:=[J4 p.1.1.1.1 p.1.1.1.2]
 R p:=b2f (W2 p.1.1.1.1 p.1.1.1.2 p.1.2)
 B' p:=[J4 p.1.1.1.1 (c5l p.1.1.1.2 (W2 p.1.1.1.1 p.1.1.1.2 p.1.2))]
 inj i j vs bs hv kv h k:=by
  have:=a6t (RBs.one_inj h k)
  obtain ⟨_,_,_,_,hv,kv⟩:=hv.two kv
  obtain ⟨_,_,h2,k2,_,_⟩:=hv.two kv
  rw [this.1,this.2,a2v h2 k2];exact ⟨rfl,rfl⟩
theorem scB {s:i6} {k:Nat} {n:Int} (hn:n=(k:Int)):RB (J4 s k) (.cells [.str s.length (n7 s),.int .i64 n]):=by
 subst hn
 exact .cells _ _ (.k (.s _ _ _ rfl rfl) (.k (.i _ _) .nil))
def z5:List G:=[.i .i64 0,.i .i64 0,.s [],.s [],.s []]
theorem z5B:RB z5 (.cells [.int .i64 0,.int .i64 0,.str 0 0,.str 0 0,.str 0 0]):=.cells _ _ l5
theorem a2s (s:i6):G8 s=W4 s:=by
 unfold G8 W4
 by_cases h:(j0 s).natAbs=0
 ·rw [h,y9];rfl
 ·rw [S5 _ h,F4 h];simp
theorem e4a (l:i6):Lib.trimS l [48]=[]↔∀ j,j < l.length→bt l j=48:=by
 rw [c8v]
 constructor
 ·intro h j hj
  have:=h l[j] (List.getElem_mem hj)
  simp only [List.contains_cons,List.contains_nil,Bool.or_false,beq_iff_eq] at this
  unfold bt;simp [List.getD,List.getElem?_eq_getElem hj,this]
 ·intro h b hb
  obtain ⟨j,hj,rfl⟩:=List.getElem_of_mem hb
  have:=h j hj
  unfold bt at this
  simp only [List.getD,List.getElem?_eq_getElem hj,Option.getD_some] at this
  simp only [List.contains_cons,List.contains_nil,Bool.or_false,beq_iff_eq]
  exact UInt8.toNat_inj.1 (by show _=48;omega)
theorem d0g {s:i6} {a:Nat} (ha:a≤s.length):E9 s a=s.length↔∀ j,a≤j→j < s.length→bt s j=48:=by
 fun_induction E9 s a with
 | case1 a h1 h2 ih =>
  rw [ih oM]
  constructor
  ·intro h j h3 h4
   by_cases hj:j=a
   ·subst hj;exact h2
   ·exact h j oM h4
  ·intro h j h3 h4;exact h j oM h4
 | case2 a h1 h2=>exact ⟨fun h=>by omega,fun h=>absurd (h a (Nat.le_refl _) h1) h2⟩
 | case3 a h1=>exact ⟨fun _ j h3 h4=>by omega,fun _=>by omega⟩
theorem b8o {l:i6} (h:G7 l=true):Lib.trimS l [48]=[]↔plain l=B5:=by
 unfold G7 at h
 obtain ⟨h0,h1⟩:=of_decide_eq_true h
 rw [b0o (Nat.zero_le _)] at h1
 have hl:=List.length_pos_iff.2 h0
 have hs:j6 l=0:=by
  unfold j6;rw [if_neg];rintro ⟨_,h2⟩;have:=h1 0 (Nat.le_refl _) hl;omega
 have hz:=b1n l 0 (Nat.zero_le _)
 rw [e4a]
 unfold plain
 simp only [hs,List.take_length]
 rw [show (∀ j,j < l.length→bt l j=48)↔E9 l 0=l.length by rw [d0g (Nat.zero_le _)];exact ⟨fun h j _=>h j,fun h j=>h j (Nat.zero_le _)⟩]
 by_cases he:E9 l 0=l.length
 ·rw [if_pos he];exact ⟨fun _=>rfl,fun _=>he⟩
 ·rw [if_neg he,if_neg dE]
  refine ⟨fun h=>absurd h he,fun h=>?_⟩
  exfalso
  have hst:∀ a,E9 l a < l.length→bt l (E9 l a) ≠ 48:=by
   intro a
   fun_induction E9 l a with
   | case1 a h1 h2 ih=>exact ih
   | case2 a h1 h2=>intro _ h;exact h2 h
   | case3 a h1=>intro h;exact absurd h h1
  have h2:=hst 0 oM
  have h3:bt (l.drop (E9 l 0)) 0=bt B5 0:=by rw [h]
  rw [a3s] at h3
  exact h2 h3
theorem a9z {w:i6} (h:(x9 w).2.2=true):(x9 w).1=(A8 w).1∧(x9 w).2.1=(A8 w).2∧G7 (A8 w).2=true:=by
 obtain ⟨h1,h2⟩:=b8a w
 obtain ⟨a,b⟩:=h2 h
 rw [h] at h1
 simp only [Bool.and_eq_true] at h1
 exact ⟨a,b,h1.2⟩
end
end Go.Proofs.YtdldcfllnohkeaaGreatDoor
