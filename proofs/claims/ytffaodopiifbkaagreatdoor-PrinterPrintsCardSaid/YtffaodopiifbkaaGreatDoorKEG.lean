/- Packages and symbols: the program's and the reference's. -/
import Derived.Test.YtffaodopiifbkaaGreatDoorKEF
set_option linter.all false
namespace Go.Proofs.YtffaodopiifbkaaGreatDoor
open Go.Abs LQ
set_option maxRecDepth 100000
set_option maxHeartbeats 4000000
noncomputable section
theorem a6j:∀ {l m:List Sy},l.map sg=m.map sg→l=m
 | [],[],_=>rfl
 | [],_ :: _,h=>by simp at h
 | _ :: _,[],h=>by simp at h
 | a :: l,b :: m,h=>by simp only [List.map_cons,List.cons.injEq] at h;rw [a6y h.1,a6j h.2]
theorem f1a {a b:Pk} (h:pg a=pg b):a=b:=by
 simp only [pg,List.cons.injEq,G.s.injEq,G.l.injEq,and_true] at h
 exact Prod.ext h.1 (a6j h.2)
theorem a0r:∀ {l m:List Pk},l.map pg=m.map pg→l=m
 | [],[],_=>rfl
 | [],_ :: _,h=>by simp at h
 | _ :: _,[],h=>by simp at h
 | a :: l,b :: m,h=>by simp only [List.map_cons,List.cons.injEq] at h;rw [f1a h.1,a0r h.2]
def H7 (L:List Pk):Prop:=L.length < 90000∧∀ p ∈ L,p.2.length < 90000
def e8i (g:List Pk→f4→GV):Sp where
 ι:={ p:List Pk × f4 // H7 p.1 }
 A p:=[.sl 2 (p.1.1.map pg),.c (.s p.1.2)]
 B _:=[]
 R p:=.ret (g p.1.1 p.1.2)
 B' _:=[]
 inj i j vs bs h k _ _:=by
  obtain ⟨_,_,h1,k1,h,k⟩:=h.two k
  obtain ⟨_,_,h2,k2,h,k⟩:=h.two k
  rw [a0r (h1.sl_inj k1),F2 h2 k2];exact ⟨rfl,rfl⟩
def d94 (g:List Pk→f4→f4→GV):Sp where
 ι:={ p:List Pk × f4 × f4 // H7 p.1 }
 A p:=[.sl 2 (p.1.1.map pg),.c (.s p.1.2.1),.c (.s p.1.2.2)]
 B _:=[]
 R p:=.ret (g p.1.1 p.1.2.1 p.1.2.2)
 B' _:=[]
 inj i j vs bs h k _ _:=by
  obtain ⟨_,_,h1,k1,h,k⟩:=h.two k
  obtain ⟨_,_,h2,k2,h,k⟩:=h.two k
  obtain ⟨_,_,h3,k3,h,k⟩:=h.two k
  rw [a0r (h1.sl_inj k1),F2 h2 k2,F2 h3 k3];exact ⟨rfl,rfl⟩
def e9p (g:List Pk→Sy→GV):Sp where
 ι:={ p:List Pk × Sy // H7 p.1 }
 A p:=[.sl 2 (p.1.1.map pg),.a (sg p.1.2)]
 B _:=[]
 R p:=.ret (g p.1.1 p.1.2)
 B' _:=[]
 inj i j vs bs h k _ _:=by
  obtain ⟨_,_,h1,k1,h,k⟩:=h.two k
  obtain ⟨_,_,h2,k2,h,k⟩:=h.two k
  rw [a0r (h1.sl_inj k1),a6y (h2.a_inj k2)];exact ⟨rfl,rfl⟩
def e0o (g:List Pk→f4→Sy→GV):Sp where
 ι:={ p:List Pk × f4 × Sy // H7 p.1 }
 A p:=[.sl 2 (p.1.1.map pg),.c (.s p.1.2.1),.a (sg p.1.2.2)]
 B _:=[]
 R p:=.ret (g p.1.1 p.1.2.1 p.1.2.2)
 B' _:=[]
 inj i j vs bs h k _ _:=by
  obtain ⟨_,_,h1,k1,h,k⟩:=h.two k
  obtain ⟨_,_,h2,k2,h,k⟩:=h.two k
  obtain ⟨_,_,h3,k3,h,k⟩:=h.two k
  rw [a0r (h1.sl_inj k1),F2 h2 k2,a6y (h3.a_inj k3)];exact ⟨rfl,rfl⟩
def D5 (L:List Pk) (n:f4):GV:=match C1 L n with
 | some p=>.t [.a (pg p),.c (.b true)]
 | none=>.t [.a [.s [],.l []],.c (.b false)]
theorem c3g {L:List Pk} {n:f4} {i:Nat} (h:i < L.length) (hn:L[i].1=n):C1 (L.drop i) n=some L[i]:=by
 rw [List.drop_eq_getElem_cons h,C1,if_pos hn]
theorem c6y {L:List Pk} {n:f4} {i:Nat} (h:i < L.length) (hn:¬L[i].1=n):C1 (L.drop i) n=C1 (L.drop (i+1)) n:=by
 rw [List.drop_eq_getElem_cons h,C1,if_neg hn]
theorem c2g {L:List Pk} {n:f4} {i:Nat} (h:¬i < L.length):C1 (L.drop i) n=none:=by
 rw [List.drop_eq_nil_of_le oM];rfl
theorem c2u:j5 60 (e8i D5):=k8 (fun fn h=>e6a h) [] .nil fun U fn hfn ⟨(L,nm),hL⟩ vs bs hv hb=>by
 have hL:H7 L:=hL
 have hl:L.length < 90000:=hL.1
 have hv:j6 [.sl 2 (L.map pg),.c (.s nm)] vs:=hv
 have hb:g9 [] bs:=hb
 show g8 U _ fun v bs'=>j7 (.ret (D5 L nm)) v∧g9 [] bs'
 unfold r60
 (refine Zq ?_;intros)
 refine D3 (fun (i:Nat) vs bs=>∃ (t:j0 Q) (off:Nat),vs=[.str nm.length (j9 nm),.ptr 0 0,.slice t 2 off L.length .no,.int .i64 L.length,.int .i64 i]∧bs=[.cells [.str 0 0,.slice .nil 0 0 0 .exact]]∧m8 2 (L.map pg) t off∧i≤L.length∧C1 (L.drop i) nm=C1 L nm) (fun i=>L.length - i) 0 ⟨_,_,rfl,rfl,aS,Nat.zero_le _,rfl⟩ (by simp only [v8];omega) ?_
 rintro self i _ _ ⟨t,off,rfl,rfl,ht,hi,he⟩ ih
 (refine Zq ?_;with_reducible repeat' first|intro _|apply aI)
 ·have hi2:i < L.length:=oM
  have e:L[i].1=nm:=‹_›
  unfold D5
  rw [← he,c3g hi2 e]
  exact i6 ⟨.ret _ _ (.t _ _ (.k (.a _ _ _ rfl aS) (.k (.kn _) .nil))),.nil⟩
 ·have hi2:i < L.length:=oM
  have e:¬L[i].1=nm:=‹_›
  exact ih (i+1) _ _ ⟨_,_,rfl,rfl,ht,oM,by rw [← he,c6y hi2 e]⟩ oM
 ·unfold D5
  rw [← he,c2g oM]
  exact i6 ⟨.ret _ _ (.t _ _ (.k (.ag _ _ j4) (.k (.kn _) .nil))),.nil⟩
theorem b4w:j5 65 (e8i D5):=k8 (fun fn h=>f0d h) [] .nil fun U fn hfn ⟨(L,nm),hL⟩ vs bs hv hb=>by
 have hL:H7 L:=hL
 have hl:L.length < 90000:=hL.1
 have hv:j6 [.sl 2 (L.map pg),.c (.s nm)] vs:=hv
 have hb:g9 [] bs:=hb
 show g8 U _ fun v bs'=>j7 (.ret (D5 L nm)) v∧g9 [] bs'
 unfold r65
 (refine Zq ?_;intros)
 refine D3 (fun (i:Nat) vs bs=>∃ (t:j0 Q) (off:Nat),vs=[.slice t 2 off L.length .no,.str nm.length (j9 nm),.ptr 0 0,.int .i64 i]∧bs=[.cells [.str 0 0,.slice .nil 0 0 0 .exact]]∧m8 2 (L.map pg) t off∧i≤L.length∧C1 (L.drop i) nm=C1 L nm) (fun i=>L.length - i) 0 ⟨_,_,rfl,rfl,aS,Nat.zero_le _,rfl⟩ (by simp only [v8];omega) ?_
 rintro self i _ _ ⟨t,off,rfl,rfl,ht,hi,he⟩ ih
 (refine Zq ?_;with_reducible repeat' first|intro _|apply aI)
 ·have hi2:i < L.length:=oM
  have e:L[i].1=nm:=‹_›
  unfold D5
  rw [← he,c3g hi2 e]
  exact i6 ⟨.ret _ _ (.t _ _ (.k (.a _ _ _ rfl aS) (.k (.kn _) .nil))),.nil⟩
 ·have hi2:i < L.length:=oM
  have e:¬L[i].1=nm:=‹_›
  exact ih (i+1) _ _ ⟨_,_,rfl,rfl,ht,oM,by rw [← he,c6y hi2 e]⟩ oM
 ·unfold D5
  rw [← he,c2g oM]
  exact i6 ⟨.ret _ _ (.t _ _ (.k (.ag _ _ j4) (.k (.kn _) .nil))),.nil⟩
def a4n (L:List Pk) (c n:f4):GV:=.t [.a (sg (A8 L c n).1),.c (.i .i64 (A8 L c n).2)]
theorem c7q {l:List Sy} {n:f4} {i:Nat} (h:i < l.length) (hn:l[i].2=n):a1s (l.drop i) n=some l[i]:=by
 rw [List.drop_eq_getElem_cons h,a1s,if_pos hn]
theorem d2j {l:List Sy} {n:f4} {i:Nat} (h:i < l.length) (hn:¬l[i].2=n):a1s (l.drop i) n=a1s (l.drop (i+1)) n:=by
 rw [List.drop_eq_getElem_cons h,a1s,if_neg hn]
theorem c67 {l:List Sy} {n:f4} {i:Nat} (h:¬i < l.length):a1s (l.drop i) n=none:=by
 rw [List.drop_eq_nil_of_le oM];rfl
theorem b9b {L:List Pk} {n:f4} {p:Pk} (h:C1 L n=some p):p ∈ L∧p.1=n:=by
 induction L with
 | nil=>cases h
 | cons q L ih =>
  rw [C1] at h
  split at h
  ·rename_i e;injection h with h;subst h;exact ⟨by simp,e⟩
  ·have:=ih h;exact ⟨by simp [this.1],this.2⟩
theorem a1t (s:Sy):(sg s).length=2:=rfl
theorem b2s {L:List Pk} {c n:f4} (h:C1 L c=none):A8 L c n=(([],[]),13):=by unfold A8;rw [h]
theorem a3z {L:List Pk} {c n:f4} {p:Pk} (h:C1 L c=some p) (hn:n.length < 1∨40 < n.length):A8 L c n=(([],[]),3):=by unfold A8;rw [h];simp only [];rw [if_pos hn]
theorem b55 {L:List Pk} {c n:f4} {p:Pk} {s:Sy} (h:C1 L c=some p) (hn:¬(n.length < 1∨40 < n.length)) (hi:a1s p.2 n=some s):A8 L c n=(s,0):=by unfold A8;rw [h];simp only [];rw [if_neg hn,hi]
theorem b5h {L:List Pk} {c n:f4} {p:Pk} (h:C1 L c=some p) (hn:¬(n.length < 1∨40 < n.length)) (hi:a1s p.2 n=none):A8 L c n=((c,n),0):=by unfold A8;rw [h];simp only [];rw [if_neg hn,hi]
theorem J9 {L:List Pk} {c n:f4} {r:Sy × Int} (h:A8 L c n=r):a4n L c n=.t [.a (sg r.1),.c (.i .i64 r.2)]:=by unfold a4n;rw [h]
theorem d52:j5 106 (d94 a4n):=k8 (fun fn h=>e4q h) [(60,_)] (.cons c2u .nil) fun U fn hfn ⟨(L,cur,nm),hL⟩ vs bs hv hb=>by
 have hf:=hfn 60 _ rfl
 have hL:H7 L:=hL
 have hv:j6 [.sl 2 (L.map pg),.c (.s cur),.c (.s nm)] vs:=hv
 have hb:g9 [] bs:=hb
 show g8 U _ fun v bs'=>j7 (.ret (a4n L cur nm)) v∧g9 [] bs'
 unfold d6z
 (refine Zq ?_;with_reducible repeat' first|intro _|apply aI)
 cases hp:C1 L cur with
 | none =>
  refine f5 hf ⟨(L,cur),hL⟩ (r:=.t [.a [.s [],.l []],.c (.b false)]) (by show n5.ret (D5 L cur)=_;unfold D5;rw [hp]) (.k (.sl _ _ _ _ _ (by simp) aS) j4) .nil fun _ _ _ _=>?_
  (refine Zq ?_;intros)
  rw [J9 (b2s hp)]
  exact i6 ⟨.ret _ _ (.t _ _ (.k (.ag _ _ j4) (.k (.i _ _) .nil))),.nil⟩
 | some p =>
  refine f5 hf ⟨(L,cur),hL⟩ (r:=.t [.a (pg p),.c (.b true)]) (by show n5.ret (D5 L cur)=_;unfold D5;rw [hp]) (.k (.sl _ _ _ _ _ (by simp) aS) j4) .nil fun _ _ hv9 _=>?_
  have hv9:RV (.t [.a [.s p.1,.l (p.2.map sg)],.c (.b true)]) _:=hv9
  have hpl:=hL.2 p (b9b hp).1
  (refine Zq ?_;with_reducible repeat' first|intro _|apply aI)
  all_goals
   refine a97 (gs:=[.s [],.s []]) (.cells _ _ j4) rfl fun _ _=>?_
   (refine Zq ?_;with_reducible repeat' first|intro _|apply aI)
  ·rw [J9 (a3z hp (.inl oM))]
   exact i6 ⟨.ret _ _ (.t _ _ (.k (.ag _ _ j4) (.k (.i _ _) .nil))),.nil⟩
  ·rw [J9 (a3z hp (.inr oM))]
   exact i6 ⟨.ret _ _ (.t _ _ (.k (.ag _ _ j4) (.k (.i _ _) .nil))),.nil⟩
  (refine C0 (f:=sg) aS (u2 a1t) fun _ _ _=>?_)
  (refine Zq ?_;intros)
  have hnm:¬(nm.length < 1∨40 < nm.length):=oM
  refine D3 (fun (i:Nat) vs bs=>∃ (x q:Q),vs=[.str cur.length (j9 cur),.str nm.length (j9 nm),.ptr 0 0,.q x,.int .i64 p.2.length,.int .i64 i]∧bs=[.opa q 2]∧RG (.l (p.2.map sg)) x∧u1 [.s [],.s []] q 0∧i≤p.2.length∧a1s (p.2.drop i) nm=a1s p.2 nm) (fun i=>p.2.length - i) 0 ⟨_,_,rfl,rfl,aS,aS,Nat.zero_le _,rfl⟩ (by simp only [v8];omega) ?_
  rintro self i _ _ ⟨x,q,rfl,rfl,hx,hq,hi,he⟩ ih
  (refine Zq ?_;intros)
  refine sQV ?_
  (refine Zq ?_;with_reducible repeat' first|intro _|apply aI)
  ·(refine C0 (f:=sg) aS (u2 a1t) fun _ _ _=>?_)
   (refine Zq ?_;with_reducible repeat' first|intro _|apply aI)
   ·have hi2:i < p.2.length:=oM
    have e:p.2[i].2=nm:=‹_›
    rw [J9 (b55 hp hnm (by rw [← he,c7q hi2 e]))]
    exact i6 ⟨.ret _ _ (.t _ _ (.k (.a _ _ _ rfl aS) (.k (.i _ _) .nil))),.nil⟩
   ·have hi2:i < p.2.length:=oM
    have e:¬p.2[i].2=nm:=‹_›
    exact ih (i+1) _ _ ⟨_,_,rfl,rfl,hx,aS,oM,by rw [← he,d2j hi2 e]⟩ oM
  ·rw [J9 (b5h hp hnm (by rw [← he,c67 oM]))]
   exact i6 ⟨.ret _ _ (.t _ _ (.k (.ag _ _ j4) (.k (.i _ _) .nil))),.nil⟩
theorem d5n:j5 91 (d94 a4n):=k8 (fun fn h=>e8f h) [(65,_)] (.cons b4w .nil) fun U fn hfn ⟨(L,cur,nm),hL⟩ vs bs hv hb=>by
 have hf:=hfn 65 _ rfl
 have hL:H7 L:=hL
 have hv:j6 [.sl 2 (L.map pg),.c (.s cur),.c (.s nm)] vs:=hv
 have hb:g9 [] bs:=hb
 show g8 U _ fun v bs'=>j7 (.ret (a4n L cur nm)) v∧g9 [] bs'
 unfold r91
 (refine Zq ?_;with_reducible repeat' first|intro _|apply aI)
 cases hp:C1 L cur with
 | none =>
  refine f5 hf ⟨(L,cur),hL⟩ (r:=.t [.a [.s [],.l []],.c (.b false)]) (by show n5.ret (D5 L cur)=_;unfold D5;rw [hp]) (.k (.sl _ _ _ _ _ (by simp) aS) j4) .nil fun _ _ _ _=>?_
  (refine Zq ?_;intros)
  rw [J9 (b2s hp)]
  exact i6 ⟨.ret _ _ (.t _ _ (.k (.ag _ _ j4) (.k (.i _ _) .nil))),.nil⟩
 | some p =>
  refine f5 hf ⟨(L,cur),hL⟩ (r:=.t [.a (pg p),.c (.b true)]) (by show n5.ret (D5 L cur)=_;unfold D5;rw [hp]) (.k (.sl _ _ _ _ _ (by simp) aS) j4) .nil fun _ _ hv9 _=>?_
  have hv9:RV (.t [.a [.s p.1,.l (p.2.map sg)],.c (.b true)]) _:=hv9
  have hpl:=hL.2 p (b9b hp).1
  (refine Zq ?_;with_reducible repeat' first|intro _|apply aI)
  all_goals
   refine a97 (gs:=[.s [],.s []]) (.cells _ _ j4) rfl fun _ _=>?_
   (refine Zq ?_;with_reducible repeat' first|intro _|apply aI)
  ·rw [J9 (a3z hp (.inl oM))]
   exact i6 ⟨.ret _ _ (.t _ _ (.k (.ag _ _ j4) (.k (.i _ _) .nil))),.nil⟩
  ·rw [J9 (a3z hp (.inr oM))]
   exact i6 ⟨.ret _ _ (.t _ _ (.k (.ag _ _ j4) (.k (.i _ _) .nil))),.nil⟩
  have hnm:¬(nm.length < 1∨40 < nm.length):=oM
  refine D3 (fun (i:Nat) vs bs=>∃ (x q:Q),vs=[.str cur.length (j9 cur),.str nm.length (j9 nm),.ptr 0 0,.ptr 1 0,.int .i64 i]∧bs=[.opa q 2,.opa x 2]∧u1 [.s p.1,.l (p.2.map sg)] x 0∧u1 [.s [],.s []] q 0∧i≤p.2.length∧a1s (p.2.drop i) nm=a1s p.2 nm) (fun i=>p.2.length - i) 0 ⟨_,_,rfl,rfl,aS,aS,Nat.zero_le _,rfl⟩ (by simp only [v8];omega) ?_
  rintro self i _ _ ⟨x,q,rfl,rfl,hx,hq,hi,he⟩ ih
  (refine Zq ?_;intros)
  (refine C0 (f:=sg) aS (u2 a1t) fun _ _ _=>?_)
  (refine Zq ?_;with_reducible repeat' first|intro _|apply aI)
  ·(refine C0 (f:=sg) aS (u2 a1t) fun _ _ _=>?_)
   (refine Zq ?_;with_reducible repeat' first|intro _|apply aI)
   ·(refine C0 (f:=sg) aS (u2 a1t) fun _ _ _=>?_)
    (refine Zq ?_;intros)
    have hi2:i < p.2.length:=oM
    have e:p.2[i].2=nm:=‹_›
    rw [J9 (b55 hp hnm (by rw [← he,c7q hi2 e]))]
    exact i6 ⟨.ret _ _ (.t _ _ (.k (.a _ _ _ rfl aS) (.k (.i _ _) .nil))),.nil⟩
   ·have hi2:i < p.2.length:=oM
    have e:¬p.2[i].2=nm:=‹_›
    exact ih (i+1) _ _ ⟨_,_,rfl,rfl,hx,aS,oM,by rw [← he,d2j hi2 e]⟩ oM
  ·rw [J9 (b5h hp hnm (by rw [← he,c67 oM]))]
   exact i6 ⟨.ret _ _ (.t _ _ (.k (.ag _ _ j4) (.k (.i _ _) .nil))),.nil⟩
theorem d99:j5 62 (e0o fun L c s=>.c (.b (a0z L c s))):=k8 (fun fn h=>e6p h) [(106,_)] (.cons d52 .nil) fun U fn hfn ⟨(L,cur,s),hL⟩ vs bs hv hb=>by
 have hi:=hfn 106 _ rfl
 have hL:H7 L:=hL
 have hv:j6 [.sl 2 (L.map pg),.c (.s cur),.a [.s s.1,.s s.2]] vs:=hv
 have hb:g9 [] bs:=hb
 show g8 U _ fun v bs'=>j7 (.ret (.c (.b (a0z L cur s)))) v∧g9 [] bs'
 unfold r62
 (refine Zq ?_;intros)
 refine f5 hi ⟨(L,cur,s.2),hL⟩ (r:=.t [.a (sg (A8 L cur s.2).1),.c (.i .i64 (A8 L cur s.2).2)]) rfl (.k (.sl _ _ _ _ _ (by simp) aS) j4) .nil fun _ _ hv9 _=>?_
 have hv9:RV (.t [.a [.s (A8 L cur s.2).1.1,.s (A8 L cur s.2).1.2],.c (.i .i64 (A8 L cur s.2).2)]) _:=hv9
 unfold a0z
 generalize A8 L cur s.2=r at *
 obtain ⟨⟨r1,r2⟩,e⟩:=r
 obtain ⟨s1,s2⟩:=s
 (refine Zq ?_;with_reducible repeat' first|intro _|apply aI)
 ·have h0:e=0:=‹_›
  refine D8 fun e9=>?_
  subst e9
  refine ⟨.ret _ _ (K9 ?_),.nil⟩
  rw [b1w,b1w,cuS,cuS,Bool.eq_iff_iff]
  simp only [Bool.and_true,Bool.and_eq_true,decide_eq_true_iff,Prod.mk.injEq]
  exact ⟨fun h=>h.2,fun h=>⟨h0,h⟩⟩
 ·exact i6 ⟨.ret _ _ (F1 (decide_eq_false (fun h=>‹¬e=0› h.1))),.nil⟩
theorem d2r:j5 61 (e9p fun L s=>.c (.b (E6 L s))):=k8 (fun fn h=>e7v h) [(62,_)] (.cons d99 .nil) fun U fn hfn ⟨(L,s),hL⟩ vs bs hv hb=>by
 have hi:=hfn 62 _ rfl
 have hL:H7 L:=hL
 have hv:j6 [.sl 2 (L.map pg),.a [.s s.1,.s s.2]] vs:=hv
 have hb:g9 [] bs:=hb
 show g8 U _ fun v bs'=>j7 (.ret (.c (.b (E6 L s)))) v∧g9 [] bs'
 unfold r61
 (refine Zq ?_;intros)
 refine f5 hi ⟨(L,s.1,s),hL⟩ (r:=.c (.b (E6 L s))) rfl (.k (.sl _ _ _ _ _ (by simp) aS) (.k (.q _ _ aS) (.k (.a _ _ _ rfl aS) .nil))) .nil fun _ _ _ _=>?_
 (refine Zq ?_;intros)
 exact i6 ⟨.ret _ _ (.b _),.nil⟩
theorem e0k:j5 67 (e0o fun L c s=>.c (.b (a0z L c s))):=k8 (fun fn h=>e72 h) [(91,_)] (.cons d5n .nil) fun U fn hfn ⟨(L,cur,s),hL⟩ vs bs hv hb=>by
 have hi:=hfn 91 _ rfl
 have hL:H7 L:=hL
 have hv:j6 [.sl 2 (L.map pg),.c (.s cur),.a [.s s.1,.s s.2]] vs:=hv
 have hb:g9 [] bs:=hb
 show g8 U _ fun v bs'=>j7 (.ret (.c (.b (a0z L cur s)))) v∧g9 [] bs'
 unfold r67
 (refine Zq ?_;intros)
 refine f5 hi ⟨(L,cur,s.2),hL⟩ (r:=.t [.a (sg (A8 L cur s.2).1),.c (.i .i64 (A8 L cur s.2).2)]) rfl (.k (.sl _ _ _ _ _ (by simp) aS) j4) .nil fun _ _ hv9 _=>?_
 have hv9:RV (.t [.a [.s (A8 L cur s.2).1.1,.s (A8 L cur s.2).1.2],.c (.i .i64 (A8 L cur s.2).2)]) _:=hv9
 unfold a0z
 generalize A8 L cur s.2=r at *
 obtain ⟨⟨r1,r2⟩,e⟩:=r
 obtain ⟨s1,s2⟩:=s
 (refine Zq ?_;with_reducible repeat' first|intro _|apply aI)
 ·have h0:e=0:=‹_›
  refine D8 fun e9=>?_
  subst e9
  refine ⟨.ret _ _ (K9 ?_),.nil⟩
  rw [b1w,b1w,cuS,cuS,Bool.eq_iff_iff]
  simp only [Bool.and_true,Bool.and_eq_true,decide_eq_true_iff,Prod.mk.injEq]
  exact ⟨fun h=>h.2,fun h=>⟨h0,h⟩⟩
 ·exact i6 ⟨.ret _ _ (F1 (decide_eq_false (fun h=>‹¬e=0› h.1))),.nil⟩
theorem c35:j5 66 (e9p fun L s=>.c (.b (E6 L s))):=k8 (fun fn h=>e9g h) [(67,_)] (.cons e0k .nil) fun U fn hfn ⟨(L,s),hL⟩ vs bs hv hb=>by
 have hi:=hfn 67 _ rfl
 have hL:H7 L:=hL
 have hv:j6 [.sl 2 (L.map pg),.a [.s s.1,.s s.2]] vs:=hv
 have hb:g9 [] bs:=hb
 show g8 U _ fun v bs'=>j7 (.ret (.c (.b (E6 L s)))) v∧g9 [] bs'
 unfold r66
 (refine Zq ?_;intros)
 refine f5 hi ⟨(L,s.1,s),hL⟩ (r:=.c (.b (E6 L s))) rfl (.k (.sl _ _ _ _ _ (by simp) aS) (.k (.q _ _ aS) (.k (.a _ _ _ rfl aS) .nil))) .nil fun _ _ _ _=>?_
 (refine Zq ?_;intros)
 exact i6 ⟨.ret _ _ (.b _),.nil⟩
theorem c6e:j5 64 (c00 fun s=>.c (.b (named s))):=k8 (fun fn h=>f12 h) [(108,_)] (.cons c7v .nil) fun U fn hfn ⟨s,h1,h2⟩ vs bs hv hb=>by
 have hn:=hfn 108 _ rfl
 have hv:j6 [.a (sg s)] vs:=hv
 have hb:g9 [] bs:=hb
 show g8 U _ fun v bs'=>j7 (.ret (.c (.b (named s)))) v∧g9 [] bs'
 unfold r64
 (refine Zq ?_;intros)
 refine f5 hn ⟨s,h1,h2⟩ (r:=.c (.b (named s))) rfl j4 .nil fun _ _ _ _=>?_
 (refine Zq ?_;intros)
 exact i6 ⟨.ret _ _ (.b _),.nil⟩
theorem b7u:j5 90 (sp1 fun s=>.ret (.c (.b (m7 s)))):=k8 (fun fn h=>f09 h) [(133,_)] (.cons c2s .nil) fun U fn hfn ⟨s,hs⟩ vs bs hv hb=>by
 have hn:=hfn 133 _ rfl
 have hv:j6 [.c (.s s)] vs:=hv
 have hb:g9 [] bs:=hb
 show g8 U _ fun v bs'=>j7 (.ret (.c (.b (m7 s)))) v∧g9 [] bs'
 unfold r90
 (refine Zq ?_;intros)
 refine f5 hn ⟨s,hs⟩ (r:=.c (.b (m7 s))) rfl j4 .nil fun _ _ _ _=>?_
 (refine Zq ?_;intros)
 exact i6 ⟨.ret _ _ (.b _),.nil⟩
def R8 (t:A0):List G:=[.i .i64 t.kind,.i .i64 (t.pos:Int),.s t.pkg,.s t.text,.s t.den]
theorem c6j (t:A0):(R8 t).length=5:=rfl
theorem c59 {a b:A0} (h:R8 a=R8 b):a=b:=by
 obtain ⟨k,p,g,t,d⟩:=a
 obtain ⟨k',p',g',t',d'⟩:=b
 simp only [R8,List.cons.injEq,G.i.injEq,G.s.injEq,true_and,and_true] at h
 obtain ⟨h1,h2,h3,h4,h5⟩:=h
 have:p=p':=oM
 rw [h1,this,h3,h4,h5]
def I7 (t:A0):n5:=if n7 t.text t.pkg true=0 then .ret (.t []) else a1c (n7 t.text t.pkg true) t.pos
theorem c7u (hst:j5 203 a1e):j5 137 { ι:={ t:A0 // t.pkg.length < 90000 },A:=fun t=>[.a (R8 t.1)],B:=fun _=>[],R:=fun t=>I7 t.1,B':=fun _=>[],inj:=fun i j vs bs h k _ _=>(by
  obtain ⟨_,_,h1,k1,h,k⟩:=h.two k
  rw [c59 (h1.a_inj k1)];exact ⟨rfl,rfl⟩) }:=k8 (fun fn h=>e3h h) [(51,_),(163,_)] (.cons b6b (.cons (b78 hst) .nil)) fun U fn hfn ⟨t,ht⟩ vs bs hv hb=>by
 have hf:=hfn 51 _ rfl
 have hvp:=hfn 163 _ rfl
 have hv:j6 [.a [.i .i64 t.kind,.i .i64 (t.pos:Int),.s t.pkg,.s t.text,.s t.den]] vs:=hv
 have hb:g9 [] bs:=hb
 show g8 U _ fun v bs'=>j7 (I7 t) v∧g9 [] bs'
 unfold d7l
 have bad:∀ {e:Int} {vs:List V} {bs:List Bx} {K:V→List Bx→Om} ,e ≠ 0→n7 t.text t.pkg true=e→j6 [.c (.i .i64 e),.c (.i .i64 (t.pos:Int))] vs→g9 [] bs→g8 U (U.bind (fn 51 vs bs) K fun v=>some (.pan (U.rn0 v),[])) fun v bs'=>j7 (I7 t) v∧g9 [] bs':=fun {e vs bs K} h0 he hv hb=>by
  have e1:I7 t=a1c e t.pos:=by unfold I7;rw [he,if_neg h0]
  rw [e1]
  exact P7 hf (e,(t.pos:Int)) (r:=.fl 122 e t.pos) rfl hv hb fun _ hv=>a1k hv .nil
 have ok:∀ {bs:List Bx},n7 t.text t.pkg true=0→g9 [] bs→g8 U (some (.ret (.tuple []),bs)) fun v bs'=>j7 (I7 t) v∧g9 [] bs':=fun {bs} he hb=>by
  have e1:I7 t=.ret (.t []):=by unfold I7;rw [if_pos he]
  rw [e1]
  exact i6 ⟨.ret _ _ (.t _ _ .nil),hb⟩
 (refine Zy ?_;with_reducible repeat' first|intro _|apply aI)
 ·exact bad dE (by unfold n7;rw [if_pos oM]) (.k (.i _ _) (.k (.q _ _ aS) .nil)) .nil
 ·have hl:¬40 < t.text.length:=oM
  refine L2 (fun vs bs=>∃ b:Bool,j6 [.p 0 0,.c (.b b)] vs∧g9 [[.i .i64 t.kind,.i .i64 (t.pos:Int),.s t.pkg,.s t.text,.s t.den]] bs∧(b=true↔(t.text.length=0∨(t.pkg.length ≠ 0∧m7 t.pkg=false)))) ?_ ?_
  ·rintro vs' bs' ⟨b,hv',hb',hbe⟩
   (refine Zq ?_;with_reducible repeat' first|intro _|apply aI)
   ·exact bad dE (by
     unfold n7
     rw [if_neg hl,if_pos]
     have:=hbe.1 ‹_›
     simpa using this) (.k (.i _ _) (.k (.q _ _ aS) .nil)) .nil
   ·exact ok (by
     unfold n7
     rw [if_neg hl,if_neg]
     intro h
     exact ‹¬b=true› (hbe.2 (by simpa using h))) .nil
  ·intro c hc
   (refine Zq ?_;with_reducible repeat' first|intro _|apply aI)
   ·have e:t.text=[]:=‹_›
    exact hc _ _ ⟨true,by (exact j4),RB.bx aS rfl,by simp [e]⟩
   ·have e:¬t.text=[]:=‹_›
    have e2:t.pkg=[]:=‹_›
    exact hc _ _ ⟨false,by (exact j4),RB.bx aS rfl,by simp [e,e2]⟩
   ·have e:¬t.text=[]:=‹_›
    have e2:¬t.pkg=[]:=‹_›
    refine f5 hvp ⟨t.pkg,ht⟩ (r:=.c (.b (m7 t.pkg))) rfl (.k (.q _ _ aS) .nil) .nil fun _ _ _ _=>?_
    (refine Zq ?_;intros)
    refine fun e9=>?_
    subst e9
    exact hc _ _ ⟨!m7 t.pkg,.k (.p _ _) (.k (K9 (c0w _).symm) .nil),RB.bx aS rfl,by simp [e,e2]⟩ rfl
def a3f:Except (Int × Nat) (A0 × Nat)→n5
 | .ok (t,_)=>.ret (.a (R8 t))
 | .error (e,p)=>a1c e p
def tokB (k:Nat):Except (Int × Nat) (A0 × Nat)→Nat
 | .ok (_,j)=>j
 | .error _=>k
def wdS (s:f4) (i:Nat) (w:f4) (k:Nat):Except (Int × Nat) (A0 × Nat):=if has s k 58 58 then H5 s i w k else F7 i w k
def S4 (s:f4) (i:Nat) (by_:Int):Except (Int × Nat) (List Int × Nat):=G5 s by_ (i+1) []
def b0l:Except (Int × Nat) (List Int × Nat)→n5
 | .ok (l,_)=>.ret (.c (.s (D7 l)))
 | .error (e,p)=>a1c e p
def c1j (i:Nat):Except (Int × Nat) (List Int × Nat)→Nat
 | .ok (_,j)=>j
 | .error _=>i
def c0o:Sp where
 ι:={ p:ScI × Int // (p.2=34∨p.2=124)∧p.1.1.2 < p.1.1.1.length∧p.1.1.1.length < 8000 }
 A p:=[.p 0 0,.c (.i .u8 p.1.2)]
 B p:=[G1 p.1.1.1.1 p.1.1.1.2]
 R p:=b0l (S4 p.1.1.1.1 p.1.1.1.2 p.1.2)
 B' p:=[G1 p.1.1.1.1 (c1j p.1.1.1.2 (S4 p.1.1.1.1 p.1.1.1.2 p.1.2))]
 inj i j vs bs hv kv h k:=by
  have:=a4k (g9.one_inj h k)
  obtain ⟨_,_,_,_,hv,kv⟩:=hv.two kv
  obtain ⟨_,_,h2,k2,_,_⟩:=hv.two kv
  rw [this.1,this.2,a1q h2 k2];exact ⟨rfl,rfl⟩
theorem scB {s:f4} {k:Nat} {n:Int} (hn:n=(k:Int)):RB (G1 s k) (.cells [.str s.length (j9 s),.int .i64 n]):=by
 subst hn
 exact .cells _ _ (.k (.s _ _ _ rfl rfl) (.k (.i _ _) .nil))
def z5:List G:=[.i .i64 0,.i .i64 0,.s [],.s [],.s []]
theorem z5B:RB z5 (.cells [.int .i64 0,.int .i64 0,.str 0 0,.str 0 0,.str 0 0]):=.cells _ _ j4
theorem a09 (s:f4):A5 s=R6 s:=by
 unfold A5 R6
 by_cases h:(f6 s).natAbs=0
 ·rw [h,u3];rfl
 ·rw [N9 _ h,C9 h];simp
theorem d6j (l:f4):Lib.trimS l [48]=[]↔∀ j,j < l.length→bt l j=48:=by
 rw [c4b]
 constructor
 ·intro h j hj
  have:=h l[j] (List.getElem_mem hj)
  simp only [List.contains_cons,List.contains_nil,Bool.or_false,beq_iff_eq] at this
  unfold bt;simp [List.getD,List.getElem?_eq_getElem hj,this]
 ·intro h b hb
  obtain ⟨j,hj,rfl⟩:=List.getElem_of_mem hb
  have:=h j hj
  unfold bt at this
  simp only [List.getD,List.getElem?_eq_getElem hj,Option.getD_some] at this
  simp only [List.contains_cons,List.contains_nil,Bool.or_false,beq_iff_eq]
  exact UInt8.toNat_inj.1 (by show _=48;omega)
theorem c5n {s:f4} {a:Nat} (ha:a≤s.length):z7 s a=s.length↔∀ j,a≤j→j < s.length→bt s j=48:=by
 fun_induction z7 s a with
 | case1 a h1 h2 ih =>
  rw [ih oM]
  constructor
  ·intro h j h3 h4
   by_cases hj:j=a
   ·subst hj;exact h2
   ·exact h j oM h4
  ·intro h j h3 h4;exact h j oM h4
 | case2 a h1 h2=>exact ⟨fun h=>by omega,fun h=>absurd (h a (Nat.le_refl _) h1) h2⟩
 | case3 a h1=>exact ⟨fun _ j h3 h4=>by omega,fun _=>by omega⟩
theorem b6j {l:f4} (h:E4 l=true):Lib.trimS l [48]=[]↔plain l=u6:=by
 unfold E4 at h
 obtain ⟨h0,h1⟩:=of_decide_eq_true h
 rw [a73 (Nat.zero_le _)] at h1
 have hl:=List.length_pos_iff.2 h0
 have hs:g7 l=0:=by
  unfold g7;rw [if_neg];rintro ⟨_,h2⟩;have:=h1 0 (Nat.le_refl _) hl;omega
 have hz:=a77 l 0 (Nat.zero_le _)
 rw [d6j]
 unfold plain
 simp only [hs,List.take_length]
 rw [show (∀ j,j < l.length→bt l j=48)↔z7 l 0=l.length by rw [c5n (Nat.zero_le _)];exact ⟨fun h j _=>h j,fun h j=>h j (Nat.zero_le _)⟩]
 by_cases he:z7 l 0=l.length
 ·rw [if_pos he];exact ⟨fun _=>rfl,fun _=>he⟩
 ·rw [if_neg he,if_neg dE]
  refine ⟨fun h=>absurd h he,fun h=>?_⟩
  exfalso
  have hst:∀ a,z7 l a < l.length→bt l (z7 l a) ≠ 48:=by
   intro a
   fun_induction z7 l a with
   | case1 a h1 h2 ih=>exact ih
   | case2 a h1 h2=>intro _ h;exact h2 h
   | case3 a h1=>intro h;exact absurd h h1
  have h2:=hst 0 oM
  have h3:bt (l.drop (z7 l 0)) 0=bt u6 0:=by rw [h]
  rw [a10] at h3
  exact h2 h3
theorem a69 {w:f4} (h:(m6 w).2.2=true):(m6 w).1=(u4 w).1∧(m6 w).2.1=(u4 w).2∧E4 (u4 w).2=true:=by
 obtain ⟨h1,h2⟩:=b6m w
 obtain ⟨a,b⟩:=h2 h
 rw [h] at h1
 simp only [Bool.and_eq_true] at h1
 exact ⟨a,b,h1.2⟩
end
end Go.Proofs.YtffaodopiifbkaaGreatDoor
