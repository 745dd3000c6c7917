/- The reference's reader: all objects of a text; the only one. -/
import Derived.Test.YtdldcfllnohkeaaGreatDoorKJ1
import Derived.Test.YtdldcfllnohkeaaGreatDoorKJ0
set_option linter.all false
namespace Go.Proofs.YtdldcfllnohkeaaGreatDoor
open Go.Abs LQ
set_option maxRecDepth 100000
set_option maxHeartbeats 16000000
noncomputable section
set_option maxHeartbeats 8000000
abbrev d7a:List Sy:=[(u0,[99,97,114]),(u0,[110,105,108]),(u0,[116])]
abbrev N9:List Pk:=[(u0,[])]
abbrev a5l:List Pk:=[(u0,[]),(J4,d7a)]
structure d06 (l:List Sy):Prop where
 len:l.length≤200
 ok:∀ s ∈ l,named s=true∧F6 N9 s=true∧s.1.length < 90000∧s.2.length < 90000
 dist:∀ i k (hi:i < l.length) (hk:k < i),(l[k]'(Nat.lt_trans hk hi)).2 ≠ l[i].2
theorem e26:d06 d7a where
 len:=dE
 ok s h:=by
  rcases List.mem_cons.1 h with rfl | h
  ·exact ⟨kR,kR,dE,dE⟩
  rcases List.mem_cons.1 h with rfl | h
  ·exact ⟨kR,kR,dE,dE⟩
  rcases List.mem_cons.1 h with rfl | h
  ·exact ⟨kR,kR,dE,dE⟩
  ·cases h
 dist i k hi hk:=by
  have hi:i < 3:=hi
  match i,k,hi,hk with
  | 1,0,_,_=>exact (by decide:([99,97,114]:f5) ≠ [110,105,108])
  | 2,0,_,_=>exact (by decide:([99,97,114]:f5) ≠ [116])
  | 2,1,_,_=>exact (by decide:([110,105,108]:f5) ≠ [116])
def f6j:Sp where
 ι:={ l:List Sy // d06 l }
 A l:=[.sl 2 (N9.map pg),.a (pg (J4,l.1))]
 B _:=[]
 R l:=.ret (.t [.sl 2 ([(u0,[]),(J4,l.1)].map pg),.c (.i .i64 0)])
 B' _:=[]
 inj i j vs bs h k _ _:=by
  obtain ⟨_,_,h1,k1,h,k⟩:=h.two k
  obtain ⟨_,_,h2,k2,h,k⟩:=h.two k
  have e:=h2.a_inj k2
  simp only [pg,List.cons.injEq,G.l.injEq,true_and,and_true] at e
  rw [a7j e];exact ⟨rfl,rfl⟩
theorem e0l:n5 J4=true:=kR
theorem d0g:E2 N9 J4=.t [.a [.s [],.l []],.c (.b false)]:=by rfl
theorem e3a:j3 27 f6j:=k7 (fun fn h=>e9a h) [(58,_),(29,_),(59,_),(60,_)] (.cons b76 (.cons b5z (.cons c8b (.cons c3g .nil)))) fun U fn hfn ⟨im,him⟩ vs bs hv hb=>by
 have hvp:=hfn 58 _ rfl
 have hfi:=hfn 29 _ rfl
 have hva:=hfn 59 _ rfl
 have hho:=hfn 60 _ rfl
 have him:d06 im:=him
 have hl:=him.len
 have hv:j5 [.sl 2 (N9.map pg),.a [.s J4,.l (im.map sg)]] vs:=hv
 have hb:RBs [] bs:=hb
 show g7 U _ fun v bs'=>j6 (.ret (.t [.sl 2 ([(u0,[]),(J4,im)].map pg),.c (.i .i64 0)])) v∧RBs [] bs'
 unfold r27
 (refine Zq ?_;intros)
 refine f6 hvp ⟨J4,dE⟩ (r:=.c (.b true)) (by show n6.ret (.c (.b (n5 J4)))=_;rw [e0l]) (.k (.q _ _ aS) .nil) .nil fun _ _ _ _=>?_
 (refine Zq ?_;intros)
 refine f6 hfi ⟨(N9,J4),b1h⟩ (r:=.t [.a [.s [],.l []],.c (.b false)]) (by show n6.ret (E2 N9 J4)=_;rw [d0g]) (.k (.sl _ _ _ _ _ rfl aS) (.k (.q _ _ aS) .nil)) .nil fun _ _ _ _=>?_
 (refine Zq ?_;intros)
 (refine C7 (f:=sg) aS (u7 a1r) fun _ _ _=>?_)
 (refine Zq ?_;with_reducible repeat' first|intro _|apply aI)
 ·have h:200 < ((im.length:Nat):Int):=‹_›
  omega
 ·refine E1 (fun (i:Nat) vs bs=>∃ (t:i7 Q) (off:Nat) (b0:Bx),vs=[.slice t 2 off 1 .no,.ptr 0 0,.int .i64 i]∧bs=[b0]∧m7 2 (N9.map pg) t off∧RB [.s J4,.l (im.map sg)] b0∧i≤im.length) (fun i=>im.length - i) 0 ⟨_,_,_,rfl,rfl,aS,.opa _ _ _ rfl aS,Nat.zero_le _⟩ (by simp only [x8];omega) ?_
  rintro self i _ _ ⟨t,off,b0,rfl,rfl,ht,hb0,hi⟩ ih
  (refine Zq ?_;intros)
  (refine C7 (f:=sg) aS (u7 a1r) fun _ _ _=>?_)
  (refine Zq ?_;with_reducible repeat' first|intro _|apply aI)
  ·(refine C7 (f:=sg) aS (u7 a1r) fun _ _ _=>?_)
   (refine Zq ?_;intros)
   have hil:i < im.length:=oM
   have hs:=him.ok _ (List.getElem_mem hil)
   have hds:=him.dist i
   refine f6 hva ⟨im[i],hs.2.2.1,hs.2.2.2⟩ (r:=.c (.b true)) (by show n6.ret (.c (.b (named im[i])))=_;rw [hs.1]) (.k (.a _ _ _ rfl aS) .nil) .nil fun _ _ _ _=>?_
   (refine Zq ?_;intros)
   refine f6 hho ⟨(N9,im[i]),b1h⟩ (r:=.c (.b true)) (by show n6.ret (.c (.b (F6 N9 im[i])))=_;rw [hs.2.1]) (.k (.sl _ _ _ _ _ rfl aS) (.k (.a _ _ _ rfl aS) .nil)) .nil fun _ _ _ _=>?_
   (refine Zq ?_;intros)
   refine E1 (fun (k:Nat) vs bs=>∃ (t:i7 Q) (off:Nat) (b0 b1:Bx),vs=[.slice t 2 off 1 .no,.ptr 0 0,.int .i64 i,.ptr 1 0,.int .i64 k]∧bs=[b0,b1]∧m7 2 (N9.map pg) t off∧RB [.s J4,.l (im.map sg)] b0∧RB [.s im[i].1,.s im[i].2] b1∧k≤i) (fun k=>i - k) 0 ⟨_,_,_,_,rfl,rfl,aS,.opa _ _ _ rfl aS,.opa _ _ _ rfl aS,Nat.zero_le _⟩ (by simp only [x8];omega) ?_
   rintro self2 k _ _ ⟨t,off,b0,b1,rfl,rfl,ht,hb0,hb1,hk⟩ ih2
   (refine Zq ?_;with_reducible repeat' first|intro _|apply aI)
   ·(refine C7 (f:=sg) aS (u7 a1r) fun _ _ _=>?_)
    (refine Zq ?_;with_reducible repeat' first|intro _|apply aI)
    ·exact absurd ‹im[k].2=im[i].2› (hds k hil oM)
    ·exact ih2 (k+1) _ _ ⟨_,_,_,_,rfl,rfl,aS,.opa _ _ _ rfl aS,.opa _ _ _ rfl aS,oM⟩ oM
   ·exact ih (i+1) _ _ ⟨_,_,_,rfl,rfl,aS,.opa _ _ _ rfl aS,oM⟩ oM
  ·refine sAT (xs:=[]) (ys:=N9.map pg) (n:=2) (off:=0) (.nil _ _ _) aS rfl rfl dE fun t' ht'=>?_
   (refine Zq ?_;intros)
   refine T6 (xs:=N9.map pg) (r:=pg (J4,im)) (n:=2) (off:=0) ht' (fun _=>a5r (by simp [pg]) aS) rfl rfl dE fun t2 ht2=>?_
   (refine Zq ?_;intros)
   exact g9 ⟨.ret _ _ (.t _ _ (.k (.sl _ _ _ _ _ rfl ht2) (.k (.i _ _) .nil))),.nil⟩
theorem f6d {a b c:Sy} {x y z:Q} (h1:u6 [.s a.1,.s a.2] x 0) (h2:u6 [.s b.1,.s b.2] y 0) (h3:u6 [.s c.1,.s c.2] z 0):m7 2 ([a,b,c].map sg) (.node x (.node y .nil .nil) (.node z .nil .nil)) 0:=.of fun j r h=>by
 match j,h with
 | 0,h=>simp at h;subst h;exact ⟨rfl,a5r (by simp [sg]) h1⟩
 | 1,h=>simp at h;subst h;exact ⟨rfl,a5r (by simp [sg]) h2⟩
 | 2,h=>simp at h;subst h;exact ⟨rfl,a5r (by simp [sg]) h3⟩
 | j+3,h=>simp at h
theorem d4j:F1 a5l:=⟨dE,fun p hp=>by
 rcases List.mem_cons.1 hp with rfl | hp
 ·decide
 ·cases List.mem_singleton.1 hp;decide⟩
end
end Go.Proofs.YtdldcfllnohkeaaGreatDoor
