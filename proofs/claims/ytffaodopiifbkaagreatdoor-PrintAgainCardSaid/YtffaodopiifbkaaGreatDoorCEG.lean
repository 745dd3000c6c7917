/- Packages and symbols: the program's and the reference's. -/
import Derived.Test.YtffaodopiifbkaaGreatDoorCEF
set_option linter.all false
namespace Go.Proofs.YtffaodopiifbkaaGreatDoor
open Go.Abs LQ
set_option maxRecDepth 100000
set_option maxHeartbeats 4000000
noncomputable section
theorem a8y:∀ {l m:List Sy},l.map sg=m.map sg→l=m
 | [],[],_=>rfl
 | [],_ :: _,h=>by simp at h
 | _ :: _,[],h=>by simp at h
 | a :: l,b :: m,h=>by simp only [List.map_cons,List.cons.injEq] at h;rw [a9y h.1,a8y h.2]
theorem f2w {a b:Pk} (h:pg a=pg b):a=b:=by
 simp only [pg,List.cons.injEq,G.s.injEq,G.l.injEq,and_true] at h
 exact Prod.ext h.1 (a8y h.2)
theorem Y8:∀ {l m:List Pk},l.map pg=m.map pg→l=m
 | [],[],_=>rfl
 | [],_ :: _,h=>by simp at h
 | _ :: _,[],h=>by simp at h
 | a :: l,b :: m,h=>by simp only [List.map_cons,List.cons.injEq] at h;rw [f2w h.1,Y8 h.2]
def K0 (L:List Pk):Prop:=L.length < 90000∧∀ p ∈ L,p.2.length < 90000
def f7o (g:List Pk→i6→GV):Sp where
 ι:={ p:List Pk × i6 // K0 p.1 }
 A p:=[.sl 2 (p.1.1.map pg),.c (.s p.1.2)]
 B _:=[]
 R p:=.ret (g p.1.1 p.1.2)
 B' _:=[]
 inj i j vs bs h k _ _:=by
  obtain ⟨_,_,h1,k1,h,k⟩:=h.two k
  obtain ⟨_,_,h2,k2,h,k⟩:=h.two k
  rw [Y8 (h1.sl_inj k1),I7 h2 k2];exact ⟨rfl,rfl⟩
def e6a (g:List Pk→i6→i6→GV):Sp where
 ι:={ p:List Pk × i6 × i6 // K0 p.1 }
 A p:=[.sl 2 (p.1.1.map pg),.c (.s p.1.2.1),.c (.s p.1.2.2)]
 B _:=[]
 R p:=.ret (g p.1.1 p.1.2.1 p.1.2.2)
 B' _:=[]
 inj i j vs bs h k _ _:=by
  obtain ⟨_,_,h1,k1,h,k⟩:=h.two k
  obtain ⟨_,_,h2,k2,h,k⟩:=h.two k
  obtain ⟨_,_,h3,k3,h,k⟩:=h.two k
  rw [Y8 (h1.sl_inj k1),I7 h2 k2,I7 h3 k3];exact ⟨rfl,rfl⟩
def f2f (g:List Pk→Sy→GV):Sp where
 ι:={ p:List Pk × Sy // K0 p.1 }
 A p:=[.sl 2 (p.1.1.map pg),.a (sg p.1.2)]
 B _:=[]
 R p:=.ret (g p.1.1 p.1.2)
 B' _:=[]
 inj i j vs bs h k _ _:=by
  obtain ⟨_,_,h1,k1,h,k⟩:=h.two k
  obtain ⟨_,_,h2,k2,h,k⟩:=h.two k
  rw [Y8 (h1.sl_inj k1),a9y (h2.a_inj k2)];exact ⟨rfl,rfl⟩
def e45 (g:List Pk→i6→Sy→GV):Sp where
 ι:={ p:List Pk × i6 × Sy // K0 p.1 }
 A p:=[.sl 2 (p.1.1.map pg),.c (.s p.1.2.1),.a (sg p.1.2.2)]
 B _:=[]
 R p:=.ret (g p.1.1 p.1.2.1 p.1.2.2)
 B' _:=[]
 inj i j vs bs h k _ _:=by
  obtain ⟨_,_,h1,k1,h,k⟩:=h.two k
  obtain ⟨_,_,h2,k2,h,k⟩:=h.two k
  obtain ⟨_,_,h3,k3,h,k⟩:=h.two k
  rw [Y8 (h1.sl_inj k1),I7 h2 k2,a9y (h3.a_inj k3)];exact ⟨rfl,rfl⟩
def J5 (L:List Pk) (n:i6):GV:=match C8 L n with
 | some p=>.t [.a (pg p),.c (.b true)]
 | none=>.t [.a [.s [],.l []],.c (.b false)]
theorem c8z {L:List Pk} {n:i6} {i:Nat} (h:i < L.length) (hn:L[i].1=n):C8 (L.drop i) n=some L[i]:=by
 rw [List.drop_eq_getElem_cons h,C8,if_pos hn]
theorem d0s {L:List Pk} {n:i6} {i:Nat} (h:i < L.length) (hn:¬L[i].1=n):C8 (L.drop i) n=C8 (L.drop (i+1)) n:=by
 rw [List.drop_eq_getElem_cons h,C8,if_neg hn]
theorem c8m {L:List Pk} {n:i6} {i:Nat} (h:¬i < L.length):C8 (L.drop i) n=none:=by
 rw [List.drop_eq_nil_of_le oM];rfl
theorem c7t:l5 60 (f7o J5):=n6 (fun fn h=>f1q h) [] .nil fun U fn hfn ⟨(L,nm),hL⟩ vs bs hv hb=>by
 have hL:K0 L:=hL
 have hl:L.length < 90000:=hL.1
 have hv:l8 [.sl 2 (L.map pg),.c (.s nm)] vs:=hv
 have hb:j5 [] bs:=hb
 show j6 U _ fun v bs'=>l9 (.ret (J5 L nm)) v∧j5 [] bs'
 unfold r60
 (refine Zq ?_;intros)
 refine H0 (fun (i:Nat) vs bs=>∃ (t:j9 Q) (off:Nat),vs=[.str nm.length (p9 nm),.ptr 0 0,.slice t 2 off L.length .no,.int .i64 L.length,.int .i64 i]∧bs=[.cells [.str 0 0,.slice .nil 0 0 0 .exact]]∧r7 2 (L.map pg) t off∧i≤L.length∧C8 (L.drop i) nm=C8 L nm) (fun i=>L.length - i) 0 ⟨_,_,rfl,rfl,aS,Nat.zero_le _,rfl⟩ (by simp only [C2];omega) ?_
 rintro self i _ _ ⟨t,off,rfl,rfl,ht,hi,he⟩ ih
 (refine Zq ?_;with_reducible repeat' first|intro _|apply aI)
 ·have hi2:i < L.length:=oM
  have e:L[i].1=nm:=‹_›
  unfold J5
  rw [← he,c8z hi2 e]
  exact k9 ⟨.ret _ _ (.t _ _ (.k (.a _ _ _ rfl aS) (.k (.kn _) .nil))),.nil⟩
 ·have hi2:i < L.length:=oM
  have e:¬L[i].1=nm:=‹_›
  exact ih (i+1) _ _ ⟨_,_,rfl,rfl,ht,oM,by rw [← he,d0s hi2 e]⟩ oM
 ·unfold J5
  rw [← he,c8m oM]
  exact k9 ⟨.ret _ _ (.t _ _ (.k (.ag _ _ l6) (.k (.kn _) .nil))),.nil⟩
theorem d8y:l5 65 (f7o J5):=n6 (fun fn h=>f2m h) [] .nil fun U fn hfn ⟨(L,nm),hL⟩ vs bs hv hb=>by
 have hL:K0 L:=hL
 have hl:L.length < 90000:=hL.1
 have hv:l8 [.sl 2 (L.map pg),.c (.s nm)] vs:=hv
 have hb:j5 [] bs:=hb
 show j6 U _ fun v bs'=>l9 (.ret (J5 L nm)) v∧j5 [] bs'
 unfold r65
 (refine Zq ?_;intros)
 refine H0 (fun (i:Nat) vs bs=>∃ (t:j9 Q) (off:Nat),vs=[.slice t 2 off L.length .no,.str nm.length (p9 nm),.ptr 0 0,.int .i64 i]∧bs=[.cells [.str 0 0,.slice .nil 0 0 0 .exact]]∧r7 2 (L.map pg) t off∧i≤L.length∧C8 (L.drop i) nm=C8 L nm) (fun i=>L.length - i) 0 ⟨_,_,rfl,rfl,aS,Nat.zero_le _,rfl⟩ (by simp only [C2];omega) ?_
 rintro self i _ _ ⟨t,off,rfl,rfl,ht,hi,he⟩ ih
 (refine Zq ?_;with_reducible repeat' first|intro _|apply aI)
 ·have hi2:i < L.length:=oM
  have e:L[i].1=nm:=‹_›
  unfold J5
  rw [← he,c8z hi2 e]
  exact k9 ⟨.ret _ _ (.t _ _ (.k (.a _ _ _ rfl aS) (.k (.kn _) .nil))),.nil⟩
 ·have hi2:i < L.length:=oM
  have e:¬L[i].1=nm:=‹_›
  exact ih (i+1) _ _ ⟨_,_,rfl,rfl,ht,oM,by rw [← he,d0s hi2 e]⟩ oM
 ·unfold J5
  rw [← he,c8m oM]
  exact k9 ⟨.ret _ _ (.t _ _ (.k (.ag _ _ l6) (.k (.kn _) .nil))),.nil⟩
def a6l (L:List Pk) (c n:i6):GV:=.t [.a (sg (x7 L c n).1),.c (.i .i64 (x7 L c n).2)]
theorem d1f {l:List Sy} {n:i6} {i:Nat} (h:i < l.length) (hn:l[i].2=n):W9 (l.drop i) n=some l[i]:=by
 rw [List.drop_eq_getElem_cons h,W9,if_pos hn]
theorem d9a {l:List Sy} {n:i6} {i:Nat} (h:i < l.length) (hn:¬l[i].2=n):W9 (l.drop i) n=W9 (l.drop (i+1)) n:=by
 rw [List.drop_eq_getElem_cons h,W9,if_neg hn]
theorem d07 {l:List Sy} {n:i6} {i:Nat} (h:¬i < l.length):W9 (l.drop i) n=none:=by
 rw [List.drop_eq_nil_of_le oM];rfl
theorem c25 {L:List Pk} {n:i6} {p:Pk} (h:C8 L n=some p):p ∈ L∧p.1=n:=by
 induction L with
 | nil=>cases h
 | cons q L ih =>
  rw [C8] at h
  split at h
  ·rename_i e;injection h with h;subst h;exact ⟨by simp,e⟩
  ·have:=ih h;exact ⟨by simp [this.1],this.2⟩
theorem a3b (s:Sy):(sg s).length=2:=rfl
theorem b41 {L:List Pk} {c n:i6} (h:C8 L c=none):x7 L c n=(([],[]),13):=by unfold x7;rw [h]
theorem a5x {L:List Pk} {c n:i6} {p:Pk} (h:C8 L c=some p) (hn:n.length < 1∨40 < n.length):x7 L c n=(([],[]),3):=by unfold x7;rw [h];simp only [];rw [if_pos hn]
theorem b8t {L:List Pk} {c n:i6} {p:Pk} {s:Sy} (h:C8 L c=some p) (hn:¬(n.length < 1∨40 < n.length)) (hi:W9 p.2 n=some s):x7 L c n=(s,0):=by unfold x7;rw [h];simp only [];rw [if_neg hn,hi]
theorem b88 {L:List Pk} {c n:i6} {p:Pk} (h:C8 L c=some p) (hn:¬(n.length < 1∨40 < n.length)) (hi:W9 p.2 n=none):x7 L c n=((c,n),0):=by unfold x7;rw [h];simp only [];rw [if_neg hn,hi]
theorem O0 {L:List Pk} {c n:i6} {r:Sy × Int} (h:x7 L c n=r):a6l L c n=.t [.a (sg r.1),.c (.i .i64 r.2)]:=by unfold a6l;rw [h]
theorem c6g:l5 106 (e6a a6l):=n6 (fun fn h=>f0t h) [(60,_)] (.cons c7t .nil) fun U fn hfn ⟨(L,cur,nm),hL⟩ vs bs hv hb=>by
 have hf:=hfn 60 _ rfl
 have hL:K0 L:=hL
 have hv:l8 [.sl 2 (L.map pg),.c (.s cur),.c (.s nm)] vs:=hv
 have hb:j5 [] bs:=hb
 show j6 U _ fun v bs'=>l9 (.ret (a6l L cur nm)) v∧j5 [] bs'
 unfold d9z
 (refine Zq ?_;with_reducible repeat' first|intro _|apply aI)
 cases hp:C8 L cur with
 | none =>
  refine j3 hf ⟨(L,cur),hL⟩ (r:=.t [.a [.s [],.l []],.c (.b false)]) (by show s8.ret (J5 L cur)=_;unfold J5;rw [hp]) (.k (.sl _ _ _ _ _ (by simp) aS) l6) .nil fun _ _ _ _=>?_
  (refine Zq ?_;intros)
  rw [O0 (b41 hp)]
  exact k9 ⟨.ret _ _ (.t _ _ (.k (.ag _ _ l6) (.k (.i _ _) .nil))),.nil⟩
 | some p =>
  refine j3 hf ⟨(L,cur),hL⟩ (r:=.t [.a (pg p),.c (.b true)]) (by show s8.ret (J5 L cur)=_;unfold J5;rw [hp]) (.k (.sl _ _ _ _ _ (by simp) aS) l6) .nil fun _ _ hv9 _=>?_
  have hv9:RV (.t [.a [.s p.1,.l (p.2.map sg)],.c (.b true)]) _:=hv9
  have hpl:=hL.2 p (c25 hp).1
  (refine Zq ?_;with_reducible repeat' first|intro _|apply aI)
  all_goals
   refine a7l (gs:=[.s [],.s []]) (.cells _ _ l6) rfl fun _ _=>?_
   (refine Zq ?_;with_reducible repeat' first|intro _|apply aI)
  ·rw [O0 (a5x hp (.inl oM))]
   exact k9 ⟨.ret _ _ (.t _ _ (.k (.ag _ _ l6) (.k (.i _ _) .nil))),.nil⟩
  ·rw [O0 (a5x hp (.inr oM))]
   exact k9 ⟨.ret _ _ (.t _ _ (.k (.ag _ _ l6) (.k (.i _ _) .nil))),.nil⟩
  (refine E2 (f:=sg) aS (A3 a3b) fun _ _ _=>?_)
  (refine Zq ?_;intros)
  have hnm:¬(nm.length < 1∨40 < nm.length):=oM
  refine H0 (fun (i:Nat) vs bs=>∃ (x q:Q),vs=[.str cur.length (p9 cur),.str nm.length (p9 nm),.ptr 0 0,.q x,.int .i64 p.2.length,.int .i64 i]∧bs=[.opa q 2]∧RG (.l (p.2.map sg)) x∧A8 [.s [],.s []] q 0∧i≤p.2.length∧W9 (p.2.drop i) nm=W9 p.2 nm) (fun i=>p.2.length - i) 0 ⟨_,_,rfl,rfl,aS,aS,Nat.zero_le _,rfl⟩ (by simp only [C2];omega) ?_
  rintro self i _ _ ⟨x,q,rfl,rfl,hx,hq,hi,he⟩ ih
  (refine Zq ?_;intros)
  refine sQV ?_
  (refine Zq ?_;with_reducible repeat' first|intro _|apply aI)
  ·(refine E2 (f:=sg) aS (A3 a3b) fun _ _ _=>?_)
   (refine Zq ?_;with_reducible repeat' first|intro _|apply aI)
   ·have hi2:i < p.2.length:=oM
    have e:p.2[i].2=nm:=‹_›
    rw [O0 (b8t hp hnm (by rw [← he,d1f hi2 e]))]
    exact k9 ⟨.ret _ _ (.t _ _ (.k (.a _ _ _ rfl aS) (.k (.i _ _) .nil))),.nil⟩
   ·have hi2:i < p.2.length:=oM
    have e:¬p.2[i].2=nm:=‹_›
    exact ih (i+1) _ _ ⟨_,_,rfl,rfl,hx,aS,oM,by rw [← he,d9a hi2 e]⟩ oM
  ·rw [O0 (b88 hp hnm (by rw [← he,d07 oM]))]
   exact k9 ⟨.ret _ _ (.t _ _ (.k (.ag _ _ l6) (.k (.i _ _) .nil))),.nil⟩
theorem d9y:l5 91 (e6a a6l):=n6 (fun fn h=>f4w h) [(65,_)] (.cons d8y .nil) fun U fn hfn ⟨(L,cur,nm),hL⟩ vs bs hv hb=>by
 have hf:=hfn 65 _ rfl
 have hL:K0 L:=hL
 have hv:l8 [.sl 2 (L.map pg),.c (.s cur),.c (.s nm)] vs:=hv
 have hb:j5 [] bs:=hb
 show j6 U _ fun v bs'=>l9 (.ret (a6l L cur nm)) v∧j5 [] bs'
 unfold r91
 (refine Zq ?_;with_reducible repeat' first|intro _|apply aI)
 cases hp:C8 L cur with
 | none =>
  refine j3 hf ⟨(L,cur),hL⟩ (r:=.t [.a [.s [],.l []],.c (.b false)]) (by show s8.ret (J5 L cur)=_;unfold J5;rw [hp]) (.k (.sl _ _ _ _ _ (by simp) aS) l6) .nil fun _ _ _ _=>?_
  (refine Zq ?_;intros)
  rw [O0 (b41 hp)]
  exact k9 ⟨.ret _ _ (.t _ _ (.k (.ag _ _ l6) (.k (.i _ _) .nil))),.nil⟩
 | some p =>
  refine j3 hf ⟨(L,cur),hL⟩ (r:=.t [.a (pg p),.c (.b true)]) (by show s8.ret (J5 L cur)=_;unfold J5;rw [hp]) (.k (.sl _ _ _ _ _ (by simp) aS) l6) .nil fun _ _ hv9 _=>?_
  have hv9:RV (.t [.a [.s p.1,.l (p.2.map sg)],.c (.b true)]) _:=hv9
  have hpl:=hL.2 p (c25 hp).1
  (refine Zq ?_;with_reducible repeat' first|intro _|apply aI)
  all_goals
   refine a7l (gs:=[.s [],.s []]) (.cells _ _ l6) rfl fun _ _=>?_
   (refine Zq ?_;with_reducible repeat' first|intro _|apply aI)
  ·rw [O0 (a5x hp (.inl oM))]
   exact k9 ⟨.ret _ _ (.t _ _ (.k (.ag _ _ l6) (.k (.i _ _) .nil))),.nil⟩
  ·rw [O0 (a5x hp (.inr oM))]
   exact k9 ⟨.ret _ _ (.t _ _ (.k (.ag _ _ l6) (.k (.i _ _) .nil))),.nil⟩
  have hnm:¬(nm.length < 1∨40 < nm.length):=oM
  refine H0 (fun (i:Nat) vs bs=>∃ (x q:Q),vs=[.str cur.length (p9 cur),.str nm.length (p9 nm),.ptr 0 0,.ptr 1 0,.int .i64 i]∧bs=[.opa q 2,.opa x 2]∧A8 [.s p.1,.l (p.2.map sg)] x 0∧A8 [.s [],.s []] q 0∧i≤p.2.length∧W9 (p.2.drop i) nm=W9 p.2 nm) (fun i=>p.2.length - i) 0 ⟨_,_,rfl,rfl,aS,aS,Nat.zero_le _,rfl⟩ (by simp only [C2];omega) ?_
  rintro self i _ _ ⟨x,q,rfl,rfl,hx,hq,hi,he⟩ ih
  (refine Zq ?_;intros)
  (refine E2 (f:=sg) aS (A3 a3b) fun _ _ _=>?_)
  (refine Zq ?_;with_reducible repeat' first|intro _|apply aI)
  ·(refine E2 (f:=sg) aS (A3 a3b) fun _ _ _=>?_)
   (refine Zq ?_;with_reducible repeat' first|intro _|apply aI)
   ·(refine E2 (f:=sg) aS (A3 a3b) fun _ _ _=>?_)
    (refine Zq ?_;intros)
    have hi2:i < p.2.length:=oM
    have e:p.2[i].2=nm:=‹_›
    rw [O0 (b8t hp hnm (by rw [← he,d1f hi2 e]))]
    exact k9 ⟨.ret _ _ (.t _ _ (.k (.a _ _ _ rfl aS) (.k (.i _ _) .nil))),.nil⟩
   ·have hi2:i < p.2.length:=oM
    have e:¬p.2[i].2=nm:=‹_›
    exact ih (i+1) _ _ ⟨_,_,rfl,rfl,hx,aS,oM,by rw [← he,d9a hi2 e]⟩ oM
  ·rw [O0 (b88 hp hnm (by rw [← he,d07 oM]))]
   exact k9 ⟨.ret _ _ (.t _ _ (.k (.ag _ _ l6) (.k (.i _ _) .nil))),.nil⟩
theorem e6j:l5 62 (e45 fun L c s=>.c (.b (Z7 L c s))):=n6 (fun fn h=>f45 h) [(106,_)] (.cons c6g .nil) fun U fn hfn ⟨(L,cur,s),hL⟩ vs bs hv hb=>by
 have hi:=hfn 106 _ rfl
 have hL:K0 L:=hL
 have hv:l8 [.sl 2 (L.map pg),.c (.s cur),.a [.s s.1,.s s.2]] vs:=hv
 have hb:j5 [] bs:=hb
 show j6 U _ fun v bs'=>l9 (.ret (.c (.b (Z7 L cur s)))) v∧j5 [] bs'
 unfold r62
 (refine Zq ?_;intros)
 refine j3 hi ⟨(L,cur,s.2),hL⟩ (r:=.t [.a (sg (x7 L cur s.2).1),.c (.i .i64 (x7 L cur s.2).2)]) rfl (.k (.sl _ _ _ _ _ (by simp) aS) l6) .nil fun _ _ hv9 _=>?_
 have hv9:RV (.t [.a [.s (x7 L cur s.2).1.1,.s (x7 L cur s.2).1.2],.c (.i .i64 (x7 L cur s.2).2)]) _:=hv9
 unfold Z7
 generalize x7 L cur s.2=r at *
 obtain ⟨⟨r1,r2⟩,e⟩:=r
 obtain ⟨s1,s2⟩:=s
 (refine Zq ?_;with_reducible repeat' first|intro _|apply aI)
 ·have h0:e=0:=‹_›
  refine L7 fun e9=>?_
  subst e9
  refine ⟨.ret _ _ (V9 ?_),.nil⟩
  rw [b3x,b3x,cuS,cuS,Bool.eq_iff_iff]
  simp only [Bool.and_true,Bool.and_eq_true,decide_eq_true_iff,Prod.mk.injEq]
  exact ⟨fun h=>h.2,fun h=>⟨h0,h⟩⟩
 ·exact k9 ⟨.ret _ _ (M5 (decide_eq_false (fun h=>‹¬e=0› h.1))),.nil⟩
theorem d73:l5 61 (f2f fun L s=>.c (.b (H7 L s))):=n6 (fun fn h=>f2e h) [(62,_)] (.cons e6j .nil) fun U fn hfn ⟨(L,s),hL⟩ vs bs hv hb=>by
 have hi:=hfn 62 _ rfl
 have hL:K0 L:=hL
 have hv:l8 [.sl 2 (L.map pg),.a [.s s.1,.s s.2]] vs:=hv
 have hb:j5 [] bs:=hb
 show j6 U _ fun v bs'=>l9 (.ret (.c (.b (H7 L s)))) v∧j5 [] bs'
 unfold r61
 (refine Zq ?_;intros)
 refine j3 hi ⟨(L,s.1,s),hL⟩ (r:=.c (.b (H7 L s))) rfl (.k (.sl _ _ _ _ _ (by simp) aS) (.k (.q _ _ aS) (.k (.a _ _ _ rfl aS) .nil))) .nil fun _ _ _ _=>?_
 (refine Zq ?_;intros)
 exact k9 ⟨.ret _ _ (.b _),.nil⟩
theorem f94:l5 67 (e45 fun L c s=>.c (.b (Z7 L c s))):=n6 (fun fn h=>f5n h) [(91,_)] (.cons d9y .nil) fun U fn hfn ⟨(L,cur,s),hL⟩ vs bs hv hb=>by
 have hi:=hfn 91 _ rfl
 have hL:K0 L:=hL
 have hv:l8 [.sl 2 (L.map pg),.c (.s cur),.a [.s s.1,.s s.2]] vs:=hv
 have hb:j5 [] bs:=hb
 show j6 U _ fun v bs'=>l9 (.ret (.c (.b (Z7 L cur s)))) v∧j5 [] bs'
 unfold r67
 (refine Zq ?_;intros)
 refine j3 hi ⟨(L,cur,s.2),hL⟩ (r:=.t [.a (sg (x7 L cur s.2).1),.c (.i .i64 (x7 L cur s.2).2)]) rfl (.k (.sl _ _ _ _ _ (by simp) aS) l6) .nil fun _ _ hv9 _=>?_
 have hv9:RV (.t [.a [.s (x7 L cur s.2).1.1,.s (x7 L cur s.2).1.2],.c (.i .i64 (x7 L cur s.2).2)]) _:=hv9
 unfold Z7
 generalize x7 L cur s.2=r at *
 obtain ⟨⟨r1,r2⟩,e⟩:=r
 obtain ⟨s1,s2⟩:=s
 (refine Zq ?_;with_reducible repeat' first|intro _|apply aI)
 ·have h0:e=0:=‹_›
  refine L7 fun e9=>?_
  subst e9
  refine ⟨.ret _ _ (V9 ?_),.nil⟩
  rw [b3x,b3x,cuS,cuS,Bool.eq_iff_iff]
  simp only [Bool.and_true,Bool.and_eq_true,decide_eq_true_iff,Prod.mk.injEq]
  exact ⟨fun h=>h.2,fun h=>⟨h0,h⟩⟩
 ·exact k9 ⟨.ret _ _ (M5 (decide_eq_false (fun h=>‹¬e=0› h.1))),.nil⟩
theorem f04:l5 66 (f2f fun L s=>.c (.b (H7 L s))):=n6 (fun fn h=>f3c h) [(67,_)] (.cons f94 .nil) fun U fn hfn ⟨(L,s),hL⟩ vs bs hv hb=>by
 have hi:=hfn 67 _ rfl
 have hL:K0 L:=hL
 have hv:l8 [.sl 2 (L.map pg),.a [.s s.1,.s s.2]] vs:=hv
 have hb:j5 [] bs:=hb
 show j6 U _ fun v bs'=>l9 (.ret (.c (.b (H7 L s)))) v∧j5 [] bs'
 unfold r66
 (refine Zq ?_;intros)
 refine j3 hi ⟨(L,s.1,s),hL⟩ (r:=.c (.b (H7 L s))) rfl (.k (.sl _ _ _ _ _ (by simp) aS) (.k (.q _ _ aS) (.k (.a _ _ _ rfl aS) .nil))) .nil fun _ _ _ _=>?_
 (refine Zq ?_;intros)
 exact k9 ⟨.ret _ _ (.b _),.nil⟩
theorem e69:l5 64 (c4o fun s=>.c (.b (named s))):=n6 (fun fn h=>f5h h) [(108,_)] (.cons e7x .nil) fun U fn hfn ⟨s,h1,h2⟩ vs bs hv hb=>by
 have hn:=hfn 108 _ rfl
 have hv:l8 [.a (sg s)] vs:=hv
 have hb:j5 [] bs:=hb
 show j6 U _ fun v bs'=>l9 (.ret (.c (.b (named s)))) v∧j5 [] bs'
 unfold r64
 (refine Zq ?_;intros)
 refine j3 hn ⟨s,h1,h2⟩ (r:=.c (.b (named s))) rfl l6 .nil fun _ _ _ _=>?_
 (refine Zq ?_;intros)
 exact k9 ⟨.ret _ _ (.b _),.nil⟩
theorem c1i:l5 90 (sp1 fun s=>.ret (.c (.b (r9 s)))):=n6 (fun fn h=>f4e h) [(133,_)] (.cons c63 .nil) fun U fn hfn ⟨s,hs⟩ vs bs hv hb=>by
 have hn:=hfn 133 _ rfl
 have hv:l8 [.c (.s s)] vs:=hv
 have hb:j5 [] bs:=hb
 show j6 U _ fun v bs'=>l9 (.ret (.c (.b (r9 s)))) v∧j5 [] bs'
 unfold r90
 (refine Zq ?_;intros)
 refine j3 hn ⟨s,hs⟩ (r:=.c (.b (r9 s))) rfl l6 .nil fun _ _ _ _=>?_
 (refine Zq ?_;intros)
 exact k9 ⟨.ret _ _ (.b _),.nil⟩
def B5 (t:u5):List G:=[.i .i64 t.kind,.i .i64 (t.pos:Int),.s t.pkg,.s t.text,.s t.den]
theorem a6f (t:u5):(B5 t).length=5:=rfl
theorem b3t {a b:u5} (h:B5 a=B5 b):a=b:=by
 obtain ⟨k,p,g,t,d⟩:=a
 obtain ⟨k',p',g',t',d'⟩:=b
 simp only [B5,List.cons.injEq,G.i.injEq,G.s.injEq,true_and,and_true] at h
 obtain ⟨h1,h2,h3,h4,h5⟩:=h
 have:p=p':=oM
 rw [h1,this,h3,h4,h5]
theorem d15:∀ {l m:List u5},l.map B5=m.map B5→l=m
 | [],[],_=>rfl
 | [],_ :: _,h=>by simp at h
 | _ :: _,[],h=>by simp at h
 | a :: l,b :: m,h=>by simp only [List.map_cons,List.cons.injEq] at h;rw [b3t h.1,d15 h.2]
def N1 (t:u5):s8:=if s7 t.text t.pkg true=0 then .ret (.t []) else S3 (s7 t.text t.pkg true) t.pos
theorem d1k (hst:l5 203 W7):l5 137 { ι:={ t:u5 // t.pkg.length < 90000 },A:=fun t=>[.a (B5 t.1)],B:=fun _=>[],R:=fun t=>N1 t.1,B':=fun _=>[],inj:=fun i j vs bs h k _ _=>(by
  obtain ⟨_,_,h1,k1,h,k⟩:=h.two k
  rw [b3t (h1.a_inj k1)];exact ⟨rfl,rfl⟩) }:=n6 (fun fn h=>e8d h) [(51,_),(163,_)] (.cons b3w (.cons (c0v hst) .nil)) fun U fn hfn ⟨t,ht⟩ vs bs hv hb=>by
 have hf:=hfn 51 _ rfl
 have hvp:=hfn 163 _ rfl
 have hv:l8 [.a [.i .i64 t.kind,.i .i64 (t.pos:Int),.s t.pkg,.s t.text,.s t.den]] vs:=hv
 have hb:j5 [] bs:=hb
 show j6 U _ fun v bs'=>l9 (N1 t) v∧j5 [] bs'
 unfold e3b
 have bad:∀ {e:Int} {vs:List V} {bs:List Bx} {K:V→List Bx→Om} ,e ≠ 0→s7 t.text t.pkg true=e→l8 [.c (.i .i64 e),.c (.i .i64 (t.pos:Int))] vs→j5 [] bs→j6 U (U.bind (fn 51 vs bs) K fun v=>some (.pan (U.rn0 v),[])) fun v bs'=>l9 (N1 t) v∧j5 [] bs':=fun {e vs bs K} h0 he hv hb=>by
  have e1:N1 t=S3 e t.pos:=by unfold N1;rw [he,if_neg h0]
  rw [e1]
  exact G6 hf (e,(t.pos:Int)) (r:=.fl 122 e t.pos) rfl hv hb fun _ hv=>Q2 hv .nil
 have ok:∀ {bs:List Bx},s7 t.text t.pkg true=0→j5 [] bs→j6 U (some (.ret (.tuple []),bs)) fun v bs'=>l9 (N1 t) v∧j5 [] bs':=fun {bs} he hb=>by
  have e1:N1 t=.ret (.t []):=by unfold N1;rw [if_pos he]
  rw [e1]
  exact k9 ⟨.ret _ _ (.t _ _ .nil),hb⟩
 (refine Zy ?_;with_reducible repeat' first|intro _|apply aI)
 ·exact bad dE (by unfold s7;rw [if_pos oM]) (.k (.i _ _) (.k (.q _ _ aS) .nil)) .nil
 ·have hl:¬40 < t.text.length:=oM
  refine O1 (fun vs bs=>∃ b:Bool,l8 [.p 0 0,.c (.b b)] vs∧j5 [[.i .i64 t.kind,.i .i64 (t.pos:Int),.s t.pkg,.s t.text,.s t.den]] bs∧(b=true↔(t.text.length=0∨(t.pkg.length ≠ 0∧r9 t.pkg=false)))) ?_ ?_
  ·rintro vs' bs' ⟨b,hv',hb',hbe⟩
   (refine Zq ?_;with_reducible repeat' first|intro _|apply aI)
   ·exact bad dE (by
     unfold s7
     rw [if_neg hl,if_pos]
     have:=hbe.1 ‹_›
     simpa using this) (.k (.i _ _) (.k (.q _ _ aS) .nil)) .nil
   ·exact ok (by
     unfold s7
     rw [if_neg hl,if_neg]
     intro h
     exact ‹¬b=true› (hbe.2 (by simpa using h))) .nil
  ·intro c hc
   (refine Zq ?_;with_reducible repeat' first|intro _|apply aI)
   ·have e:t.text=[]:=‹_›
    exact hc _ _ ⟨true,by (exact l6),RB.bx aS rfl,by simp [e]⟩
   ·have e:¬t.text=[]:=‹_›
    have e2:t.pkg=[]:=‹_›
    exact hc _ _ ⟨false,by (exact l6),RB.bx aS rfl,by simp [e,e2]⟩
   ·have e:¬t.text=[]:=‹_›
    have e2:¬t.pkg=[]:=‹_›
    refine j3 hvp ⟨t.pkg,ht⟩ (r:=.c (.b (r9 t.pkg))) rfl (.k (.q _ _ aS) .nil) .nil fun _ _ _ _=>?_
    (refine Zq ?_;intros)
    refine fun e9=>?_
    subst e9
    exact hc _ _ ⟨!r9 t.pkg,.k (.p _ _) (.k (V9 (c4j _).symm) .nil),RB.bx aS rfl,by simp [e,e2]⟩ rfl
def a5a:Except (Int × Nat) (u5 × Nat)→s8
 | .ok (t,_)=>.ret (.a (B5 t))
 | .error (e,p)=>S3 e p
def tokB (k:Nat):Except (Int × Nat) (u5 × Nat)→Nat
 | .ok (_,j)=>j
 | .error _=>k
def wdS (s:i6) (i:Nat) (w:i6) (k:Nat):Except (Int × Nat) (u5 × Nat):=if has s k 58 58 then H1 s i w k else D4 i w k
def V0 (s:i6) (i:Nat) (by_:Int):Except (Int × Nat) (List Int × Nat):=E3 s by_ (i+1) []
def b3l:Except (Int × Nat) (List Int × Nat)→s8
 | .ok (l,_)=>.ret (.c (.s (F2 l)))
 | .error (e,p)=>S3 e p
def c5o (i:Nat):Except (Int × Nat) (List Int × Nat)→Nat
 | .ok (_,j)=>j
 | .error _=>i
def b8d:Sp where
 ι:={ p:ScI × Int // (p.2=34∨p.2=124)∧p.1.1.2 < p.1.1.1.length∧p.1.1.1.length < 8000 }
 A p:=[.p 0 0,.c (.i .u8 p.1.2)]
 B p:=[J4 p.1.1.1.1 p.1.1.1.2]
 R p:=b3l (V0 p.1.1.1.1 p.1.1.1.2 p.1.2)
 B' p:=[J4 p.1.1.1.1 (c5o p.1.1.1.2 (V0 p.1.1.1.1 p.1.1.1.2 p.1.2))]
 inj i j vs bs hv kv h k:=by
  have:=a6g (j5.one_inj h k)
  obtain ⟨_,_,_,_,hv,kv⟩:=hv.two kv
  obtain ⟨_,_,h2,k2,_,_⟩:=hv.two kv
  rw [this.1,this.2,a4h h2 k2];exact ⟨rfl,rfl⟩
theorem scB {s:i6} {k:Nat} {n:Int} (hn:n=(k:Int)):RB (J4 s k) (.cells [.str s.length (p9 s),.int .i64 n]):=by
 subst hn
 exact .cells _ _ (.k (.s _ _ _ rfl rfl) (.k (.i _ _) .nil))
def z5:List G:=[.i .i64 0,.i .i64 0,.s [],.s [],.s []]
theorem z5B:RB z5 (.cells [.int .i64 0,.int .i64 0,.str 0 0,.str 0 0,.str 0 0]):=.cells _ _ l6
theorem a3a (s:i6):E6 s=V7 s:=by
 unfold E6 V7
 by_cases h:(j0 s).natAbs=0
 ·rw [h,A4];rfl
 ·rw [R7 _ h,F6 h];simp
theorem e3d (l:i6):Lib.trimS l [48]=[]↔∀ j,j < l.length→bt l j=48:=by
 rw [c6y]
 constructor
 ·intro h j hj
  have:=h l[j] (List.getElem_mem hj)
  simp only [List.contains_cons,List.contains_nil,Bool.or_false,beq_iff_eq] at this
  unfold bt;simp [List.getD,List.getElem?_eq_getElem hj,this]
 ·intro h b hb
  obtain ⟨j,hj,rfl⟩:=List.getElem_of_mem hb
  have:=h j hj
  unfold bt at this
  simp only [List.getD,List.getElem?_eq_getElem hj,Option.getD_some] at this
  simp only [List.contains_cons,List.contains_nil,Bool.or_false,beq_iff_eq]
  exact UInt8.toNat_inj.1 (by show _=48;omega)
theorem d0k {s:i6} {a:Nat} (ha:a≤s.length):E8 s a=s.length↔∀ j,a≤j→j < s.length→bt s j=48:=by
 fun_induction E8 s a with
 | case1 a h1 h2 ih =>
  rw [ih oM]
  constructor
  ·intro h j h3 h4
   by_cases hj:j=a
   ·subst hj;exact h2
   ·exact h j oM h4
  ·intro h j h3 h4;exact h j oM h4
 | case2 a h1 h2=>exact ⟨fun h=>by omega,fun h=>absurd (h a (Nat.le_refl _) h1) h2⟩
 | case3 a h1=>exact ⟨fun _ j h3 h4=>by omega,fun _=>by omega⟩
theorem b8f {l:i6} (h:H5 l=true):Lib.trimS l [48]=[]↔plain l=A9:=by
 unfold H5 at h
 obtain ⟨h0,h1⟩:=of_decide_eq_true h
 rw [b06 (Nat.zero_le _)] at h1
 have hl:=List.length_pos_iff.2 h0
 have hs:j7 l=0:=by
  unfold j7;rw [if_neg];rintro ⟨_,h2⟩;have:=h1 0 (Nat.le_refl _) hl;omega
 have hz:=b0n l 0 (Nat.zero_le _)
 rw [e3d]
 unfold plain
 simp only [hs,List.take_length]
 rw [show (∀ j,j < l.length→bt l j=48)↔E8 l 0=l.length by rw [d0k (Nat.zero_le _)];exact ⟨fun h j _=>h j,fun h j=>h j (Nat.zero_le _)⟩]
 by_cases he:E8 l 0=l.length
 ·rw [if_pos he];exact ⟨fun _=>rfl,fun _=>he⟩
 ·rw [if_neg he,if_neg dE]
  refine ⟨fun h=>absurd h he,fun h=>?_⟩
  exfalso
  have hst:∀ a,E8 l a < l.length→bt l (E8 l a) ≠ 48:=by
   intro a
   fun_induction E8 l a with
   | case1 a h1 h2 ih=>exact ih
   | case2 a h1 h2=>intro _ h;exact h2 h
   | case3 a h1=>intro h;exact absurd h h1
  have h2:=hst 0 oM
  have h3:bt (l.drop (E8 l 0)) 0=bt A9 0:=by rw [h]
  rw [a3w] at h3
  exact h2 h3
theorem a98 {w:i6} (h:(p8 w).2.2=true):(p8 w).1=(B0 w).1∧(p8 w).2.1=(B0 w).2∧H5 (B0 w).2=true:=by
 obtain ⟨h1,h2⟩:=b7s w
 obtain ⟨a,b⟩:=h2 h
 rw [h] at h1
 simp only [Bool.and_eq_true] at h1
 exact ⟨a,b,h1.2⟩
end
end Go.Proofs.YtffaodopiifbkaaGreatDoor
