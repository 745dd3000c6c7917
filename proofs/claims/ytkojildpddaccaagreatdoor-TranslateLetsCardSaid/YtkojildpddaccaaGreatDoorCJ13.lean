/- The program's translator: the bindings of a let. -/
import Derived.Test.YtkojildpddaccaaGreatDoorCJ12
set_option linter.all false
namespace Go.Proofs.YtkojildpddaccaaGreatDoor
open Go.Abs LQ
set_option maxRecDepth 100000
set_option maxHeartbeats 16000000
noncomputable section
def J2 (l:List (Sy × O)):List O:=l.map fun p=>u7 [.sy p.1,p.2]
def U2 (p:Sy × O):List G:=[.l (([.sy p.1,p.2]:List O).map O.g)]
theorem a8j:∀ {l m:List (Sy × O)},J2 l=J2 m→l=m
 | [],[],_=>rfl
 | [],_ :: _,h=>by cases h
 | _ :: _,[],h=>by cases h
 | a :: l,b :: m,h=>by
  injection h with h1 h2
  have h1:=P6 h1
  injection h1 with e1 e2
  injection e1 with e1
  injection e2 with e2 _
  rw [a8j h2,Prod.ext e1 e2]
theorem b9z:∀ {l:List O} {x:O},x ∈ l→x.size < (u7 l).size
 | a :: l,x,h=>by
  have e:(u7 (a :: l)).size=1+a.size+(u7 l).size:=rfl
  rw [e]
  rcases List.mem_cons.1 h with rfl | h
  ·omega
  ·have:=b9z h;omega
def g9u:Sp where
 ι:={ p:List (Sy × O) × O // (u7 (J2 p.1)).size < 90000 }
 A p:=[.sl 7 (([u7 (J2 p.1.1),p.1.2]:List O).map O.g)]
 B _:=[]
 R p:=.ret (.t [.sl 1 (p.1.1.map U2),.c (.b true)])
 B' _:=[]
 inj i j vs bs h k _ _:=by
  obtain ⟨_,_,h1,k1,h,k⟩:=h.two k
  have e:=a05 (h1.sl_inj k1)
  injection e with e _
  rw [a8j (P6 e)];exact ⟨rfl,rfl⟩
theorem d5l:s9 115 g9u:=u2 (fun fn h=>c8g h) [(75,_)] (.cons b6f .nil) fun U fn hfn ⟨(l,b),hz⟩ vs bs hv hb=>by
 have hI:=hfn 75 _ rfl
 change t7 [.sl 7 (([u7 (J2 l),b]:List O).map O.g)] vs at hv
 change s5 [] bs at hb
 have hz:(u7 (J2 l)).size < 90000:=hz
 have hll:(J2 l).length=l.length:=by simp [J2]
 have hlen:=a6f (J2 l)
 show s4 U _ fun v bs'=>u0 (.ret (.t [.sl 1 (l.map U2),.c (.b true)])) v∧s5 [] bs'
 unfold d2b
 (refine Zz ?_;with_reducible repeat' first|intro _|apply aI)
 all_goals try exact absurd rfl ‹¬((([u7 (J2 l),b]:List O).length:Nat):Int)=2›
 refine o7 hI ⟨u7 (J2 l),hz⟩ (by show u9.ret (W1 (u7 _))=_;rw [W8]) (.k (.a _ _ _ (O.g_len _).symm (show u3 (u7 (J2 l)).g _ 0 by assumption)) .nil) .nil fun _ _ _ _=>?_
 (refine Zz ?_;intros)
 refine F9 (fun (i:Nat) vs bs=>∃ (t:s6 Q) (off:Nat) (v:V) (acc:List (Sy × O)),vs=[.slice t 7 off (J2 l).length .no,.int .i64 ((J2 l).length:Nat),.int .i64 (i:Nat),v]∧bs=[.tok acc.length 1]∧u6 7 ((J2 l).map O.g) t off∧R7 0 1 (acc.map U2) v∧acc=l.take i∧acc.length=i∧i≤l.length) (fun i=>l.length - i) 0
  ⟨_,_,_,[],rfl,rfl,aS,.b rfl,by simp,rfl,oM⟩ (by simp only [C9];omega) ?_
 rintro self i _ _ ⟨t,off,v,acc,rfl,rfl,ht,htk,hacc,hlen2,hi⟩ ih
 (refine Zz ?_;with_reducible repeat' first|intro _|apply aI)
 ·have hil:i < l.length:=oM
  have eg:(J2 l)[i]=u7 [.sy l[i].1,l[i].2]:=by simp [J2]
  have hsz:=b9z (List.getElem_mem (by rw [hll];exact hil):(J2 l)[i] ∈ J2 l)
  rw [eg] at hsz
  refine o7 hI ⟨u7 [.sy l[i].1,l[i].2],oM⟩ (by show u9.ret (W1 (u7 _))=_;rw [W8]) (.k (.a _ _ _ (O.g_len _).symm (by show u3 (u7 [.sy l[i].1,l[i].2]).g _ 0;rw [← eg];assumption)) .nil) .nil fun _ _ _ _=>?_
  (refine Zz ?_;with_reducible repeat' first|intro _|apply aI)
  all_goals try exact absurd rfl ‹¬((([_,_]:List O).length:Nat):Int)=2›
  refine N8 aS (r:=U2 l[i]) (fun _=>N6 (.l _ _ _ _ _ rfl aS)) rfl (by simp) (by simp only [List.length_map];omega) fun _ _=>?_
  (refine Zz ?_;intros)
  exact ih (i+1) _ _ ⟨_,_,_,acc ++ [l[i]],rfl,(by rw [List.length_append];rfl),ht,.a _ _ (by simp) (by rw [List.map_append];assumption),(by rw [hacc,List.take_succ_eq_append_getElem hil]),by simp [hlen2],oM⟩ oM
 ·have ei:i=l.length:=oM
  rw [ei,List.take_length] at hacc
  rw [← hacc]
  exact p9 ⟨.ret _ _ (.t _ _ (.k (.sl _ _ _ _ _ (by simp) aS) (.k (.kn _) .nil))),.nil⟩
def g90:Sp where
 ι:=Sy × O
 A p:=[.sl 7 (([.sy p.1,p.2]:List O).map O.g)]
 B _:=[]
 R _:=.ret (.c (.b false))
 B' _:=[]
 inj _ _ _ _ _ _ _ _:=⟨rfl,rfl⟩
theorem kL1:s9 117 g90:=u2 (fun fn h=>c8i h) [] .nil fun U fn hfn (⟨s,o⟩:Sy × O) vs bs hv hb=>by
 change t7 [.sl 7 (([.sy s,o]:List O).map O.g)] vs at hv
 change s5 [] bs at hb
 show s4 U _ fun v bs'=>u0 (.ret (.c (.b false))) v∧s5 [] bs'
 have hl2:([.sy s,o]:List O).length=2:=rfl
 unfold d2d
 (refine Zz ?_;intros)
 exact E9 fun e=>by subst e;exact ⟨.ret _ _ (N7 rfl),.nil⟩
def g91:Sp where
 ι:={ p:Sy × O // p.1 ∈ B6 }
 A p:=[.sl 7 (([.sy p.1.1,p.1.2]:List O).map O.g)]
 B _:=[]
 R _:=.ret (.c (.b false))
 B' _:=[]
 inj _ _ _ _ _ _ _ _:=⟨rfl,rfl⟩
theorem kL2:s9 118 g91:=u2 (fun fn h=>c8j h) [(71,_)] (.cons a9m .nil) fun U fn hfn ⟨(s,o),hs⟩ vs bs hv hb=>by
 have hK:=hfn 71 _ rfl
 have hs:s ∈ B6:=hs
 change t7 [.sl 7 (([.sy s,o]:List O).map O.g)] vs at hv
 change s5 [] bs at hb
 show s4 U _ fun v bs'=>u0 (.ret (.c (.b false))) v∧s5 [] bs'
 have hl2:([.sy s,o]:List O).length=2:=rfl
 unfold d2e
 (refine Zz ?_;intros)
 refine o7 hK (.sy s) (r:=.c (.b false)) (by show u9.ret (.c (.b (a3j (.sy s))))=_;rw [b5m hs]) (.k (.a _ _ _ rfl aS) .nil) .nil fun _ _ _ _=>?_
 (refine Zz ?_;intros)
 exact p9 ⟨.ret _ _ (.b _),.nil⟩
def g92:Sp where
 ι:={ p:(Sy × O) × Sy × O // p.1.1 ≠ p.2.1 }
 A p:=[.sl 7 (([.sy p.1.1.1,p.1.1.2]:List O).map O.g),.p 0 0]
 B p:=[U2 p.1.2]
 R _:=.ret (.c (.b false))
 B' p:=[U2 p.1.2]
 inj _ _ _ _ _ _ hb kb:=⟨rfl,by rw [a5o hb kb]⟩
theorem kL3:s9 119 g92:=u2 (fun fn h=>c8k h) [] .nil fun U fn hfn ⟨((s,o),(s',o')),hs⟩ vs bs hv hb=>by
 have hs:s ≠ s':=hs
 change t7 [.sl 7 (([.sy s,o]:List O).map O.g),.p 0 0] vs at hv
 change s5 [[.l (([.sy s',o']:List O).map O.g)]] bs at hb
 show s4 U _ fun v bs'=>u0 (.ret (.c (.b false))) v∧s5 [[.l (([.sy s',o']:List O).map O.g)]] bs'
 have hl2:([.sy s,o]:List O).length=2:=rfl
 have hl3:([.sy s',o']:List O).length=2:=rfl
 unfold d2f
 (refine Zz ?_;intros)
 refine sQR aS fun _ _=>?_
 (refine Zz ?_;intros)
 refine E9 fun e=>?_
 subst e
 refine ⟨.ret _ _ (N7 ?_),.k (.cells _ _ (.k (.q _ _ aS) .nil)) .nil⟩
 rw [a2x,a2x,b03,b03,Bool.and_true,← Bool.decide_and]
 exact (decide_eq_false fun e=>hs (Prod.ext e.1 e.2)).symm
theorem bxQ {x:Sy × O} {q:Q} (h:RG (.l (([.sy x.1,x.2]:List O).map O.g)) q):s5 [U2 x] [.cells [.q q]]:=.k (.cells _ _ (.k (.q _ _ h) .nil)) .nil
def c2h:V:=.func (.func 117) [] []
def c2i:V:=.func (.func 118) [] []
def c2j:V:=.func (.func 119) [] [.ptr 0 0]
def e38 (r:GV):Sp where
 ι:={ l:List (Sy × O) // l.length < 90000 }
 A p:=[.sl 1 (p.1.map U2),.raw c2h]
 B _:=[]
 R _:=.ret r
 B' _:=[]
 inj _ _ _ _ _ _ _ _:=⟨rfl,rfl⟩
def e39 (r:GV):Sp where
 ι:={ l:List (Sy × O) // l.length < 90000∧∀ p ∈ l,p.1 ∈ B6 }
 A p:=[.sl 1 (p.1.map U2),.raw c2i]
 B _:=[]
 R _:=.ret r
 B' _:=[]
 inj _ _ _ _ _ _ _ _:=⟨rfl,rfl⟩
def e4a (r:GV):Sp where
 ι:={ p:List (Sy × O) × Sy × O // p.1.length < 90000∧∀ q ∈ p.1,q.1 ≠ p.2.1 }
 A p:=[.sl 1 (p.1.1.map U2),.raw c2j]
 B p:=[U2 p.1.2]
 R _:=.ret r
 B' p:=[U2 p.1.2]
 inj _ _ _ _ _ _ hb kb:=⟨rfl,by rw [a5o hb kb]⟩
theorem g8x:s9 178 (e38 (.c (.i .i64 (-1)))):=u2 (fun fn h=>c0h h) [(117,_)] (.cons kL1 .nil) fun U fn hfn ⟨l,hl⟩ vs bs hv hb=>by
 have hF:=hfn 117 _ rfl
 change t7 [.sl 1 (l.map U2),.raw c2h] vs at hv
 change s5 [] bs at hb
 show s4 U _ fun v bs'=>u0 (.ret (.c (.i .i64 (-1)))) v∧s5 [] bs'
 unfold b6y
 (refine Zz ?_;intros)
 refine a33 aS ?_
 (refine Zz ?_;intros)
 refine F9 (fun (i:Nat) vs bs=>∃ (t:s6 Q) (off:Nat),vs=[.slice t 1 off l.length .no,c2h,.int .i64 (l.length:Nat),.int .i64 (i:Nat)]∧bs=[]∧u6 1 (l.map U2) t off∧i≤l.length) (fun i=>l.length - i) 0
  ⟨_,_,rfl,rfl,aS,oM⟩ (by simp only [C9];omega) ?_
 rintro self i _ _ ⟨t,off,rfl,rfl,ht,hi⟩ ih
 unfold c2h
 (refine Zz ?_;intros)
 refine b8w ?_
 (refine Zz ?_;with_reducible repeat' first|intro _|apply aI)
 ·refine o7 hF l[i] (r:=.c (.b false)) rfl (.k (.slq _ _ _ aS (v6 O.g_len)) .nil) .nil fun _ _ _ _=>?_
  (refine Zz ?_;with_reducible repeat' first|intro _|apply aI)
  all_goals try exact absurd ‹false=true› dE
  exact ih (i+1) _ _ ⟨_,_,rfl,rfl,ht,oM⟩ oM
 ·exact p9 ⟨.ret _ _ (.i _ _),.nil⟩
theorem g8y:s9 178 (e39 (.c (.i .i64 (-1)))):=u2 (fun fn h=>c0g h) [(118,_)] (.cons kL2 .nil) fun U fn hfn ⟨l,hl,hm⟩ vs bs hv hb=>by
 have hF:=hfn 118 _ rfl
 change t7 [.sl 1 (l.map U2),.raw c2i] vs at hv
 change s5 [] bs at hb
 show s4 U _ fun v bs'=>u0 (.ret (.c (.i .i64 (-1)))) v∧s5 [] bs'
 unfold b6x
 (refine Zz ?_;intros)
 refine a33 aS ?_
 (refine Zz ?_;intros)
 refine F9 (fun (i:Nat) vs bs=>∃ (t:s6 Q) (off:Nat),vs=[.slice t 1 off l.length .no,c2i,.int .i64 (l.length:Nat),.int .i64 (i:Nat)]∧bs=[]∧u6 1 (l.map U2) t off∧i≤l.length) (fun i=>l.length - i) 0
  ⟨_,_,rfl,rfl,aS,oM⟩ (by simp only [C9];omega) ?_
 rintro self i _ _ ⟨t,off,rfl,rfl,ht,hi⟩ ih
 unfold c2i
 (refine Zz ?_;intros)
 refine b8w ?_
 (refine Zz ?_;with_reducible repeat' first|intro _|apply aI)
 ·have hil:i < l.length:=oM
  refine o7 hF ⟨l[i],hm _ (List.getElem_mem hil)⟩ (r:=.c (.b false)) rfl (.k (.slq _ _ _ aS (v6 O.g_len)) .nil) .nil fun _ _ _ _=>?_
  (refine Zz ?_;with_reducible repeat' first|intro _|apply aI)
  all_goals try exact absurd ‹false=true› dE
  exact ih (i+1) _ _ ⟨_,_,rfl,rfl,ht,oM⟩ oM
 ·exact p9 ⟨.ret _ _ (.i _ _),.nil⟩
theorem g8z:s9 178 (e4a (.c (.i .i64 (-1)))):=u2 (fun fn h=>c87 h) [(119,_)] (.cons kL3 .nil) fun U fn hfn ⟨(l,x),hl,hm⟩ vs bs hv hb=>by
 have hF:=hfn 119 _ rfl
 have hl:l.length < 90000:=hl
 change t7 [.sl 1 (l.map U2),.raw c2j] vs at hv
 change s5 [[.l (([.sy x.1,x.2]:List O).map O.g)]] bs at hb
 show s4 U _ fun v bs'=>u0 (.ret (.c (.i .i64 (-1)))) v∧s5 [U2 x] bs'
 unfold d22
 (refine Zz ?_;intros)
 refine a33 aS ?_
 (refine Zz ?_;intros)
 refine sQR aS fun _ _=>?_
 (refine Zz ?_;intros)
 refine F9 (fun (i:Nat) vs bs=>∃ (t:s6 Q) (off:Nat) (q:Q),vs=[.slice t 1 off l.length .no,c2j,.int .i64 (l.length:Nat),.int .i64 (i:Nat)]∧bs=[.cells [.q q]]∧RG (.l (([.sy x.1,x.2]:List O).map O.g)) q∧u6 1 (l.map U2) t off∧i≤l.length) (fun i=>l.length - i) 0
  ⟨_,_,_,rfl,rfl,aS,aS,oM⟩ (by simp only [C9];omega) ?_
 rintro self i _ _ ⟨t,off,q,rfl,rfl,hq,ht,hi⟩ ih
 unfold c2j
 (refine Zz ?_;intros)
 refine b8w ?_
 (refine Zz ?_;intros)
 refine sQV ?_
 (refine Zz ?_;with_reducible repeat' first|intro _|apply aI)
 ·have hil:i < l.length:=oM
  refine o7 hF ⟨(l[i],x),hm _ (List.getElem_mem hil)⟩ (r:=.c (.b false)) rfl (.k (.slq _ _ _ aS (v6 O.g_len)) (.k (.p _ _) .nil)) (bxQ hq) fun _ _ _ hb2=>?_
  change s5 [[.l (([.sy x.1,x.2]:List O).map O.g)]] _ at hb2
  (refine Zz ?_;intros)
  refine sQR aS fun _ _=>?_
  (refine Zz ?_;with_reducible repeat' first|intro _|apply aI)
  all_goals try exact absurd ‹false=true› dE
  exact ih (i+1) _ _ ⟨_,_,_,rfl,rfl,aS,ht,oM⟩ oM
 ·exact p9 ⟨.ret _ _ (.i _ _),bxQ hq⟩
theorem g8r:s9 116 (e38 (.c (.b false))):=u2 (fun fn h=>c0f h) [(178,_)] (.cons g8x .nil) fun U fn hfn ⟨l,hl⟩ vs bs hv hb=>by
 have hF:=hfn 178 _ rfl
 change t7 [.sl 1 (l.map U2),.raw c2h] vs at hv
 change s5 [] bs at hb
 show s4 U _ fun v bs'=>u0 (.ret (.c (.b false))) v∧s5 [] bs'
 unfold b6w
 (refine Zz ?_;intros)
 refine a33 aS ?_
 (refine Zz ?_;intros)
 refine o7 hF ⟨l,hl⟩ (r:=.c (.i .i64 (-1))) rfl (.k (.sl _ _ _ _ _ (by simp) aS) (.k (.raw _) .nil)) .nil fun _ _ _ _=>?_
 (refine Zz ?_;intros)
 exact E9 fun e=>by subst e;exact ⟨.ret _ _ (N7 rfl),.nil⟩
theorem g8s:s9 116 (e39 (.c (.b false))):=u2 (fun fn h=>c0e h) [(178,_)] (.cons g8y .nil) fun U fn hfn ⟨l,hl⟩ vs bs hv hb=>by
 have hF:=hfn 178 _ rfl
 change t7 [.sl 1 (l.map U2),.raw c2i] vs at hv
 change s5 [] bs at hb
 show s4 U _ fun v bs'=>u0 (.ret (.c (.b false))) v∧s5 [] bs'
 unfold b6v
 (refine Zz ?_;intros)
 refine a33 aS ?_
 (refine Zz ?_;intros)
 refine o7 hF ⟨l,hl⟩ (r:=.c (.i .i64 (-1))) rfl (.k (.sl _ _ _ _ _ (by simp) aS) (.k (.raw _) .nil)) .nil fun _ _ _ _=>?_
 (refine Zz ?_;intros)
 exact E9 fun e=>by subst e;exact ⟨.ret _ _ (N7 rfl),.nil⟩
theorem g8t:s9 116 (e4a (.c (.b false))):=u2 (fun fn h=>c8h h) [(178,_)] (.cons g8z .nil) fun U fn hfn ⟨(l,x),hl,hm⟩ vs bs hv hb=>by
 have hF:=hfn 178 _ rfl
 have hl:l.length < 90000:=hl
 change t7 [.sl 1 (l.map U2),.raw c2j] vs at hv
 change s5 [[.l (([.sy x.1,x.2]:List O).map O.g)]] bs at hb
 show s4 U _ fun v bs'=>u0 (.ret (.c (.b false))) v∧s5 [U2 x] bs'
 unfold d2c
 (refine Zz ?_;intros)
 refine a33 aS ?_
 (refine Zz ?_;intros)
 refine sQR aS fun _ _=>?_
 (refine Zz ?_;intros)
 refine o7 hF ⟨(l,x),hl,hm⟩ (r:=.c (.i .i64 (-1))) rfl (.k (.sl _ _ _ _ _ (by simp) aS) (.k (.raw _) .nil)) (bxQ aS) fun _ _ _ hb2=>?_
 change s5 [[.l (([.sy x.1,x.2]:List O).map O.g)]] _ at hb2
 (refine Zz ?_;intros)
 refine sQR aS fun _ _=>?_
 (refine Zz ?_;intros)
 exact E9 fun e=>by subst e;exact ⟨.ret _ _ (N7 rfl),bxQ aS⟩
def Sp.or (a b:Sp) (h:∀ i j vs bs,t7 (a.A i) vs→t7 (b.A j) vs→s5 (a.B i) bs→s5 (b.B j) bs→a.R i=b.R j∧a.B' i=b.B' j):Sp where
 ι:=a.ι ⊕ b.ι
 A i:=i.elim a.A b.A
 B i:=i.elim a.B b.B
 R i:=i.elim a.R b.R
 B' i:=i.elim a.B' b.B'
 inj i j vs bs h1 k1 h2 k2:=by
  cases i with
  | inl i=>cases j with
   | inl j=>exact a.inj i j vs bs h1 k1 h2 k2
   | inr j=>exact h i j vs bs h1 k1 h2 k2
  | inr i=>cases j with
   | inl j=>have:=h j i vs bs k1 h1 k2 h2;exact ⟨this.1.symm,this.2.symm⟩
   | inr j=>exact b.inj i j vs bs h1 k1 h2 k2
theorem s9.or {g:FuncId} {a b:Sp} {h:∀ i j vs bs,t7 (a.A i) vs→t7 (b.A j) vs→s5 (a.B i) bs→s5 (b.B j) bs→a.R i=b.R j∧a.B' i=b.B' j} (ka:s9 g a) (kb:s9 g b):s9 g (Sp.or a b h):=fun i=>by
 cases i with
 | inl i=>exact ka i
 | inr i=>exact kb i
def g9w:Sp:=Sp.or (Sp.or (e38 (.c (.b false))) (e39 (.c (.b false))) fun _ _ _ _ _ _ _ _=>⟨rfl,rfl⟩) (e4a (.c (.b false))) fun i j vs bs _ _ hb kb=>by
 cases kb with
 | cons _ _ _ _ _ _=>cases i with
  | inl i=>cases hb
  | inr i=>cases hb
theorem kCt:s9 116 g9w:=s9.or (s9.or g8r g8s) g8t
mutual
theorem c5l:∀ t:T,C7 [] t=t
 | .v s=>by rw [C7];rfl
 | .c o=>by rw [C7]
 | .call f xs=>by rw [C7,c0w xs]
theorem c0w:∀ ts:List T,a0d [] ts=ts
 | []=>by rw [a0d]
 | t :: ts=>by rw [a0d,c5l t,c0w ts]
end
def zBx:Bx:=.cells [.int .i64 0,.str 0 0,.str 0 0,.int .i64 0,.str 0 0,.str 0 0,.str 0 0,.str 0 0,.str 0 0,.slice .nil 0 0 0 .exact,.slice .nil 0 0 0 .exact]
def F5 (l:List (Sy × T)):List (Sy × O):=l.map fun p=>(p.1,z6 p.2)
theorem b2s (hl:∀ {t t':T},Gt NM AR t→Gt NM AR t'→z6 t=z6 t'→t=t'):∀ {l m:List (Sy × T)},(∀ p ∈ l,Gt NM AR p.2)→(∀ p ∈ m,Gt NM AR p.2)→F5 l=F5 m→l=m
 | [],[],_,_,_=>rfl
 | [],_ :: _,_,_,h=>by cases h
 | _ :: _,[],_,_,h=>by cases h
 | a :: l,b :: m,h1,h2,h=>by
  injection h with e1 e2
  injection e1 with e3 e4
  rw [b2s hl (fun p hp=>h1 p (by simp [hp])) (fun p hp=>h2 p (by simp [hp])) e2,Prod.ext e3 (hl (h1 a (by simp)) (h2 b (by simp)) e4)]
theorem a8b {t t':T}:Gt NM AR t→Gt NM AR t'→z6 t=z6 t'→t=t':=b4k (fun f hf=>⟨(a4o hf).1,(a4o hf).2.2.2.1⟩)
theorem T.g11 (t:T):∃ a b c d e f g h i j k:G,t.g=[a,b,c,d,e,f,g,h,i,j,k]:=by
 cases t <;> exact ⟨_,_,_,_,_,_,_,_,_,_,_,rfl⟩
theorem g3s {s:Sy} {t:T} {x y:Q} (h:u3 (List.drop 3 (O.sy s).g) x 0) (k:u3 t.g y 0):Row (Q3 (s,t)) (.agg [CU.celQ x 0,CU.celQ x 1,CU.celQ y 0,CU.celQ y 1,CU.celQ y 2,CU.celQ y 3,CU.celQ y 4,CU.celQ y 5,CU.celQ y 6,CU.celQ y 7,CU.celQ y 8,CU.celQ y 9,CU.celQ y 10] 0):=by
 obtain ⟨c0,c1,c2,c3,c4,c5,c6,c7,c8,c9,c10,e⟩:=T.g11 t
 refine Q9 (by rw [b2f];decide) ?_
 unfold Q3
 rw [e] at k ⊢
 exact a00.cel (.cons _ _ _ _ (u3.at h rfl) (.cons _ _ _ _ (u3.at h rfl) (.cons _ _ _ _ (u3.at k rfl) (.cons _ _ _ _ (u3.at k rfl) (.cons _ _ _ _ (u3.at k rfl) (.cons _ _ _ _ (u3.at k rfl) (.cons _ _ _ _ (u3.at k rfl) (.cons _ _ _ _ (u3.at k rfl) (.cons _ _ _ _ (u3.at k rfl) (.cons _ _ _ _ (u3.at k rfl) (.cons _ _ _ _ (u3.at k rfl) (.cons _ _ _ _ (u3.at k rfl) (.cons _ _ _ _ (u3.at k rfl) .nil)))))))))))))
theorem d1o {α β:Type} {f:α→β} {l:List α} (h:(l.map f).Nodup) {i:Nat} (hi:i < l.length):∀ q ∈ l.take i,f q ≠ f l[i]:=fun q hq=>by
 rw [← List.take_append_drop i l,List.map_append,List.nodup_append] at h
 exact h.2.2 _ (List.mem_map_of_mem hq) _ (List.mem_map_of_mem (by rw [List.drop_eq_getElem_cons hi];exact List.mem_cons_self))
structure c1g (w:Wm) (l:List (Sy × T)) (a:T):Prop where
 gt:∀ p ∈ l,Gt NM AR p.2
 gta:Gt NM AR a
 var:∀ p ∈ l,p.1 ∈ B6
 nd:∀ p ∈ l,p.2.nd≤10000
 nda:a.nd≤10000
 dis:(l.map Prod.fst).Nodup
 sz:(u7 (J2 (F5 l))).size < 80000
 wl:w.1.L=PL
def g5d:Sp where
 ι:={ p:Wm × List (Sy × T) × T // c1g p.1 p.2.1 p.2.2 }
 A p:=[.p 0 0,.sl 7 (([u7 (J2 (F5 p.1.2.1)),z6 p.1.2.2]:List O).map O.g),.sl 13 (([]:List (Sy × T)).map Q3)]
 B p:=[Z5 p.1.1.1.1]
 R p:=.ret (.t [.a (C7 p.1.2.1 p.1.2.2).g,.c (.i .i64 0)])
 B' p:=[Z5 p.1.1.1.1]
 inj i j vs bs h k hb kb:=by
  obtain ⟨⟨w,l,a⟩,hi⟩:=i
  obtain ⟨⟨w',l',a'⟩,hj⟩:=j
  obtain ⟨_,_,h1,k1,h,k⟩:=h.two k
  obtain ⟨_,_,h2,k2,h,k⟩:=h.two k
  have e:=a05 (h2.sl_inj k2)
  injection e with e1 e2
  injection e2 with e2 _
  have e1:=b2s a8b hi.gt hj.gt (a8j (P6 e1))
  have e2:=a8b hi.gta hj.gta e2
  have e1:l=l':=e1
  have e2:a=a':=e2
  have e3:=a5o hb kb
  refine ⟨?_,?_⟩
  ·show u9.ret (.t [.a (C7 l a).g,_])=.ret (.t [.a (C7 l' a').g,_]);rw [e1,e2]
  ·show [Z5 w.1.1]=[Z5 w'.1.1];rw [e3]
theorem g80:s9 76 g5d:=u2 (fun fn h=>d61 h) [(47,_),(116,_),(115,_)] (.cons f6n (.cons kCt (.cons d5l .nil))) fun U fn hfn ⟨(wm,l,a),hok⟩ vs bs hv hb=>by
 have hT:=hfn 47 _ rfl
 have hC:=hfn 116 _ rfl
 have hB:=hfn 115 _ rfl
 obtain ⟨hgt,hgta,hvar,hnd,hnda,hdis,hsz,hL⟩:=hok
 change ∀ p ∈ l,Gt NM AR p.2 at hgt
 change Gt NM AR a at hgta
 change ∀ p ∈ l,p.1 ∈ B6 at hvar
 change ∀ p ∈ l,p.2.nd≤10000 at hnd
 change a.nd≤10000 at hnda
 change (l.map Prod.fst).Nodup at hdis
 change (u7 (J2 (F5 l))).size < 80000 at hsz
 change wm.1.L=PL at hL
 obtain ⟨⟨w,hw,hwl⟩,hm⟩:=wm
 have hlf:(F5 l).length=l.length:=by simp [F5]
 have hll:l.length < 80000:=by
  have h1:=a6f (J2 (F5 l))
  have h2:(J2 (F5 l)).length=(F5 l).length:=by simp [J2]
  omega
 change t7 [.p 0 0,.sl 7 (([u7 (J2 (F5 l)),z6 a]:List O).map O.g),.sl 13 (([]:List (Sy × T)).map Q3)] vs at hv
 change s5 [[.l (w.map Et.g),.l (([]:List F).map F.g),.i .i64 0]] bs at hb
 show s4 U _ fun v bs'=>u0 (.ret (.t [.a (C7 l a).g,.c (.i .i64 0)])) v∧s5 [Z5 w] bs'
 have hl2:([u7 (J2 (F5 l)),z6 a]:List O).length=2:=rfl
 unfold r76
 (refine Zz ?_;intros)
 refine a35 aS (v6 Et.g_len) fun _ _ _=>?_
 (refine Zz ?_;intros)
 refine a35 aS (v6 F.g_len) fun _ _ _=>?_
 (refine Zz ?_;intros)
 refine o7 hB ⟨(F5 l,z6 a),by show (u7 (J2 (F5 l))).size < 90000;omega⟩ (r:=.t [.sl 1 ((F5 l).map U2),.c (.b true)]) rfl (.k (.sl _ _ _ _ _ (by simp) aS) .nil) .nil fun _ _ _ _=>?_
 (refine Zz ?_;with_reducible repeat' first|intro _|apply aI)
 all_goals try exact absurd rfl ‹¬true=true›
 refine o7 hC (.inl (.inl ⟨F5 l,oM⟩)) (r:=.c (.b false)) rfl (.k (.sl _ _ _ _ _ (by simp) aS) (.k (.raw _) .nil)) .nil fun _ _ _ _=>?_
 (refine Zz ?_;with_reducible repeat' first|intro _|apply aI)
 all_goals try exact absurd ‹false=true› dE
 refine b42 (gs:=[.l (w.map Et.g),.l (([]:List F).map F.g),.i .i64 0]) (fun _=>.cells _ _ (.k (.cl _ _ _ _ _ (by simp) aS) (.k (.cl _ _ _ _ _ (by simp) aS) (.k (.i _ _) .nil)))) rfl fun _ _=>?_
 (refine Zz ?_;intros)
 have hfv:∀ p ∈ F5 l,p.1 ∈ B6:=fun p hp=>by
  obtain ⟨q,hq,e⟩:=List.mem_map.1 hp
  rw [← e];exact hvar q hq
 refine o7 hC (.inl (.inr ⟨F5 l,oM,hfv⟩)) (r:=.c (.b false)) rfl (.k (.sl _ _ _ _ _ (by simp) aS) (.k (.raw _) .nil)) .nil fun _ _ _ _=>?_
 (refine Zz ?_;with_reducible repeat' first|intro _|apply aI)
 all_goals try exact absurd ‹false=true› dE
 have hdf:((F5 l).map Prod.fst).Nodup:=by rw [F5,List.map_map];exact hdis
 refine F9 (fun (i:Nat) vs bs=>∃ (t1:s6 Q) (o1:Nat) (t2:s6 Q) (o2:Nat) (t3:s6 Q) (o3:Nat) (t4:s6 Q) (o4:Nat) (q:Q),vs=[.ptr 0 0,.slice t1 7 o1 2 .no,.slice t2 13 o2 0 .no,.ptr 1 0,.slice t3 1 o3 (F5 l).length .no,.slice t4 1 o4 (F5 l).length .no,.int .i64 ((F5 l).length:Nat),.int .i64 (i:Nat)]∧bs=[.opa q 3,zBx]∧u6 7 (([u7 (J2 (F5 l)),z6 a]:List O).map O.g) t1 o1∧u6 1 ((F5 l).map U2) t3 o3∧u6 1 ((F5 l).map U2) t4 o4∧u3 [.l (w.map Et.g),.l (([]:List F).map F.g),.i .i64 0] q 0∧i≤(F5 l).length) (fun i=>(F5 l).length - i) 0
  ⟨_,_,_,_,_,_,_,_,_,rfl,rfl,aS,aS,aS,aS,oM⟩ (by simp only [C9];omega) ?_
 rintro self i _ _ ⟨t1,o1,t2,o2,t3,o3,t4,o4,q,rfl,rfl,ht1,ht3,ht4,hq,hi⟩ ih
 unfold zBx
 (refine Zz ?_;with_reducible repeat' first|intro _|apply aI)
 ·have hil:i < (F5 l).length:=oM
  refine o7 hC (.inr ⟨((F5 l).take i,(F5 l)[i]),by show ((F5 l).take i).length < 90000;rw [List.length_take];omega,d1o hdf hil⟩) (r:=.c (.b false)) rfl (.k (.sl _ _ _ _ _ (by simp;omega) (by rw [List.map_take];exact ht3.take i)) (.k (.raw _) .nil)) (bxQ aS) fun _ _ _ hb2=>?_
  change s5 [[.l (([.sy (F5 l)[i].1,(F5 l)[i].2]:List O).map O.g)]] _ at hb2
  (refine Zz ?_;intros)
  refine sQR aS fun _ _=>?_
  (refine Zz ?_;with_reducible repeat' first|intro _|apply aI)
  all_goals try exact absurd ‹false=true› dE
  exact ih (i+1) _ _ ⟨_,_,_,_,_,_,_,_,_,rfl,rfl,ht1,ht3,ht4,hq,oM⟩ oM
 ·refine F9 (fun (i:Nat) vs bs=>∃ (t1:s6 Q) (o1:Nat) (t2:s6 Q) (o2:Nat) (t3:s6 Q) (o3:Nat) (q:Q) (v:V) (acc:List (Sy × T)),vs=[.ptr 0 0,.slice t1 7 o1 2 .no,.slice t2 13 o2 0 .no,.ptr 1 0,.slice t3 1 o3 (F5 l).length .no,.int .i64 ((F5 l).length:Nat),.int .i64 (i:Nat),v]∧bs=[.opa q 3,zBx,.tok acc.length 13]∧u6 7 (([u7 (J2 (F5 l)),z6 a]:List O).map O.g) t1 o1∧u6 1 ((F5 l).map U2) t3 o3∧u3 [.l (w.map Et.g),.l (([]:List F).map F.g),.i .i64 0] q 0∧R7 2 13 (acc.map Q3) v∧acc=l.take i∧acc.length=i∧i≤l.length) (fun i=>(F5 l).length - i) 0
   ⟨_,_,_,_,_,_,_,_,[],rfl,rfl,ht1,ht3,hq,.b rfl,by simp,rfl,oM⟩ (by simp only [C9];omega) ?_
  rintro self2 i _ _ ⟨t1,o1,t2,o2,t3,o3,q,v,acc,rfl,rfl,ht1,ht3,hq,htk,hacc,hlen,hi⟩ ih2
  unfold zBx
  (refine Zz ?_;with_reducible repeat' first|intro _|apply aI)
  ·have hif:i < (F5 l).length:=oM
   have hil:i < l.length:=oM
   have hl4:([.sy (F5 l)[i].1,(F5 l)[i].2]:List O).length=2:=rfl
   have e1:(F5 l)[i].1=l[i].1:=by simp [F5]
   have e2:(F5 l)[i].2=z6 l[i].2:=by simp [F5]
   (refine Zz ?_;intros)
   refine o7 hT ⟨(⟨⟨w,hw,hwl⟩,hm⟩,l[i].2,[]),hgt _ (List.getElem_mem hil),hnd _ (List.getElem_mem hil),by show 0 < 90000;decide,hL⟩ (r:=.t [.a (C7 [] l[i].2).g,.c (.i .i64 0)]) rfl (.k (.p _ _) (.k (.a _ _ _ (O.g_len _).symm (by show u3 (z6 l[i].2).g _ 0;rw [← e2];assumption)) (.k (show RV (.sl 13 (([]:List (Sy × T)).map Q3)) _ from .sl _ _ _ _ _ rfl (.nil _ _ _)) .nil))) (.k (.opa _ _ _ rfl hq) .nil) fun _ _ _ hb2=>?_
   change s5 [[.l (w.map Et.g),.l (([]:List F).map F.g),.i .i64 0]] _ at hb2
   (refine Zz ?_;intros)
   refine C4 aS (T.g_len _) fun _ _=>?_
   (refine Zz ?_;intros)
   refine N8 aS (r:=Q3 (l[i].1,C7 [] l[i].2)) (fun e=>by subst e;exact g3s (by rw [← e1];assumption) aS) (b2f _) (by simp) (by simp only [List.length_map];omega) fun _ _=>?_
   (refine Zz ?_;intros)
   exact ih2 (i+1) _ _ ⟨_,_,_,_,_,_,_,_,acc ++ [(l[i].1,C7 [] l[i].2)],rfl,(by rw [List.length_append];rfl),ht1,ht3,aS,.a _ _ (by simp) (by rw [List.map_append];assumption),(by rw [hacc,List.take_succ_eq_append_getElem hil,c5l]),by simp [hlen],oM⟩ oM
  ·have ei:i=l.length:=oM
   have hacc2:acc=l:=by rw [hacc,ei,List.take_length]
   (refine Zz ?_;intros)
   refine sAT (xs:=acc.map Q3) (ys:=[]) (n:=13) (off:=0) aS (.nil _ _ _) (by simp) rfl (by simp;omega) fun _ ht5=>?_
   rw [List.append_nil] at ht5
   (refine Zz ?_;intros)
   refine o7 hT ⟨(⟨⟨w,hw,hwl⟩,hm⟩,a,acc),hgta,hnda,by show acc.length < 90000;omega,hL⟩ (r:=.t [.a (C7 acc a).g,.c (.i .i64 0)]) rfl (.k (.p _ _) (.k (.a _ _ _ (O.g_len _).symm (show u3 (z6 a).g _ 0 by assumption)) (.k (.sl _ _ _ _ _ (by simp) ht5) .nil))) (.k (.opa _ _ _ rfl hq) .nil) fun _ _ _ hb2=>?_
   change s5 [[.l (w.map Et.g),.l (([]:List F).map F.g),.i .i64 0]] _ at hb2
   (refine Zz ?_;intros)
   refine C4 aS (T.g_len _) fun _ _=>?_
   (refine Zz ?_;intros)
   rw [← hacc2]
   exact p9 ⟨.ret _ _ (.t _ _ (.k (.a _ _ _ (T.g_len _).symm aS) (.k (.i _ _) .nil))),.k (.opa _ _ _ rfl aS) .nil⟩
end
end Go.Proofs.YtkojildpddaccaaGreatDoor
