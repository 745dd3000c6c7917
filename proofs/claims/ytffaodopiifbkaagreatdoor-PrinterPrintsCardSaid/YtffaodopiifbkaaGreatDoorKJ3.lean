/- The reference's reader: all objects of a text; the only one. -/
import Derived.Test.YtffaodopiifbkaaGreatDoorKJ2
import Derived.Test.YtffaodopiifbkaaGreatDoorKJ0
set_option linter.all false
namespace Go.Proofs.YtffaodopiifbkaaGreatDoor
open Go.Abs LQ
set_option maxRecDepth 100000
set_option maxHeartbeats 16000000
noncomputable section
set_option maxHeartbeats 8000000
abbrev d7j:List Sy:=[(s7,[99,97,114]),(s7,[110,105,108]),(s7,[116])]
abbrev M4:List Pk:=[(s7,[])]
abbrev S8:List Pk:=[(s7,[]),(L0,d7j)]
structure c9i (l:List Sy):Prop where
 len:l.length≤200
 ok:∀ s ∈ l,named s=true∧E6 M4 s=true∧s.1.length < 90000∧s.2.length < 90000
 dist:∀ i k (hi:i < l.length) (hk:k < i),(l[k]'(Nat.lt_trans hk hi)).2 ≠ l[i].2
theorem e27:c9i d7j where
 len:=dE
 ok s h:=by
  rcases List.mem_cons.1 h with rfl | h
  ·exact ⟨kR,kR,dE,dE⟩
  rcases List.mem_cons.1 h with rfl | h
  ·exact ⟨kR,kR,dE,dE⟩
  rcases List.mem_cons.1 h with rfl | h
  ·exact ⟨kR,kR,dE,dE⟩
  ·cases h
 dist i k hi hk:=by
  have hi:i < 3:=hi
  match i,k,hi,hk with
  | 1,0,_,_=>exact (by decide:([99,97,114]:f4) ≠ [110,105,108])
  | 2,0,_,_=>exact (by decide:([99,97,114]:f4) ≠ [116])
  | 2,1,_,_=>exact (by decide:([110,105,108]:f4) ≠ [116])
def f4u:Sp where
 ι:={ l:List Sy // c9i l }
 A l:=[.sl 2 (M4.map pg),.a (pg (L0,l.1))]
 B _:=[]
 R l:=.ret (.t [.sl 2 ([(s7,[]),(L0,l.1)].map pg),.c (.i .i64 0)])
 B' _:=[]
 inj i j vs bs h k _ _:=by
  obtain ⟨_,_,h1,k1,h,k⟩:=h.two k
  obtain ⟨_,_,h2,k2,h,k⟩:=h.two k
  have e:=h2.a_inj k2
  simp only [pg,List.cons.injEq,G.l.injEq,true_and,and_true] at e
  rw [a6j e];exact ⟨rfl,rfl⟩
theorem d80:m7 L0=true:=kR
theorem c9y:D5 M4 L0=.t [.a [.s [],.l []],.c (.b false)]:=by rfl
theorem e1w:j5 52 f4u:=k8 (fun fn h=>e8r h) [(90,_),(65,_),(64,_),(66,_)] (.cons b7u (.cons b4w (.cons c6e (.cons c35 .nil)))) fun U fn hfn ⟨im,him⟩ vs bs hv hb=>by
 have hvp:=hfn 90 _ rfl
 have hfi:=hfn 65 _ rfl
 have hva:=hfn 64 _ rfl
 have hho:=hfn 66 _ rfl
 have him:c9i im:=him
 have hl:=him.len
 have hv:j6 [.sl 2 (M4.map pg),.a [.s L0,.l (im.map sg)]] vs:=hv
 have hb:g9 [] bs:=hb
 show g8 U _ fun v bs'=>j7 (.ret (.t [.sl 2 ([(s7,[]),(L0,im)].map pg),.c (.i .i64 0)])) v∧g9 [] bs'
 unfold r52
 (refine Zq ?_;intros)
 refine f5 hvp ⟨L0,dE⟩ (r:=.c (.b true)) (by show n5.ret (.c (.b (m7 L0)))=_;rw [d80]) (.k (.q _ _ aS) .nil) .nil fun _ _ _ _=>?_
 (refine Zq ?_;intros)
 refine f5 hfi ⟨(M4,L0),b0f⟩ (r:=.t [.a [.s [],.l []],.c (.b false)]) (by show n5.ret (D5 M4 L0)=_;rw [c9y]) (.k (.sl _ _ _ _ _ rfl aS) (.k (.q _ _ aS) .nil)) .nil fun _ _ _ _=>?_
 (refine Zq ?_;intros)
 (refine C0 (f:=sg) aS (u2 a1t) fun _ _ _=>?_)
 (refine Zq ?_;with_reducible repeat' first|intro _|apply aI)
 ·have h:200 < ((im.length:Nat):Int):=‹_›
  omega
 ·refine D3 (fun (i:Nat) vs bs=>∃ (t:j0 Q) (off:Nat) (b0:Bx),vs=[.slice t 2 off 1 .no,.ptr 0 0,.int .i64 i]∧bs=[b0]∧m8 2 (M4.map pg) t off∧RB [.s L0,.l (im.map sg)] b0∧i≤im.length) (fun i=>im.length - i) 0 ⟨_,_,_,rfl,rfl,aS,.opa _ _ _ rfl aS,Nat.zero_le _⟩ (by simp only [v8];omega) ?_
  rintro self i _ _ ⟨t,off,b0,rfl,rfl,ht,hb0,hi⟩ ih
  (refine Zq ?_;intros)
  (refine C0 (f:=sg) aS (u2 a1t) fun _ _ _=>?_)
  (refine Zq ?_;with_reducible repeat' first|intro _|apply aI)
  ·(refine C0 (f:=sg) aS (u2 a1t) fun _ _ _=>?_)
   (refine Zq ?_;intros)
   have hil:i < im.length:=oM
   have hs:=him.ok _ (List.getElem_mem hil)
   have hds:=him.dist i
   refine f5 hva ⟨im[i],hs.2.2.1,hs.2.2.2⟩ (r:=.c (.b true)) (by show n5.ret (.c (.b (named im[i])))=_;rw [hs.1]) (.k (.a _ _ _ rfl aS) .nil) .nil fun _ _ _ _=>?_
   (refine Zq ?_;intros)
   refine f5 hho ⟨(M4,im[i]),b0f⟩ (r:=.c (.b true)) (by show n5.ret (.c (.b (E6 M4 im[i])))=_;rw [hs.2.1]) (.k (.sl _ _ _ _ _ rfl aS) (.k (.a _ _ _ rfl aS) .nil)) .nil fun _ _ _ _=>?_
   (refine Zq ?_;intros)
   refine D3 (fun (k:Nat) vs bs=>∃ (t:j0 Q) (off:Nat) (b0 b1:Bx),vs=[.slice t 2 off 1 .no,.ptr 0 0,.int .i64 i,.ptr 1 0,.int .i64 k]∧bs=[b0,b1]∧m8 2 (M4.map pg) t off∧RB [.s L0,.l (im.map sg)] b0∧RB [.s im[i].1,.s im[i].2] b1∧k≤i) (fun k=>i - k) 0 ⟨_,_,_,_,rfl,rfl,aS,.opa _ _ _ rfl aS,.opa _ _ _ rfl aS,Nat.zero_le _⟩ (by simp only [v8];omega) ?_
   rintro self2 k _ _ ⟨t,off,b0,b1,rfl,rfl,ht,hb0,hb1,hk⟩ ih2
   (refine Zq ?_;with_reducible repeat' first|intro _|apply aI)
   ·(refine C0 (f:=sg) aS (u2 a1t) fun _ _ _=>?_)
    (refine Zq ?_;with_reducible repeat' first|intro _|apply aI)
    ·exact absurd ‹im[k].2=im[i].2› (hds k hil oM)
    ·exact ih2 (k+1) _ _ ⟨_,_,_,_,rfl,rfl,aS,.opa _ _ _ rfl aS,.opa _ _ _ rfl aS,oM⟩ oM
   ·exact ih (i+1) _ _ ⟨_,_,_,rfl,rfl,aS,.opa _ _ _ rfl aS,oM⟩ oM
  ·refine sAT (xs:=[]) (ys:=M4.map pg) (n:=2) (off:=0) (.nil _ _ _) aS rfl rfl dE fun t' ht'=>?_
   (refine Zq ?_;intros)
   refine S3 (xs:=M4.map pg) (r:=pg (L0,im)) (n:=2) (off:=0) ht' (fun _=>a4r (by simp [pg]) aS) rfl rfl dE fun t2 ht2=>?_
   (refine Zq ?_;intros)
   exact i6 ⟨.ret _ _ (.t _ _ (.k (.sl _ _ _ _ _ rfl ht2) (.k (.i _ _) .nil))),.nil⟩
theorem f3g {a b c:Sy} {x y z:Q} (h1:u1 [.s a.1,.s a.2] x 0) (h2:u1 [.s b.1,.s b.2] y 0) (h3:u1 [.s c.1,.s c.2] z 0):m8 2 ([a,b,c].map sg) (.node x (.node y .nil .nil) (.node z .nil .nil)) 0:=.of fun j r h=>by
 match j,h with
 | 0,h=>simp at h;subst h;exact ⟨rfl,a4r (by simp [sg]) h1⟩
 | 1,h=>simp at h;subst h;exact ⟨rfl,a4r (by simp [sg]) h2⟩
 | 2,h=>simp at h;subst h;exact ⟨rfl,a4r (by simp [sg]) h3⟩
 | j+3,h=>simp at h
theorem a7r:H7 S8:=⟨dE,fun p hp=>by
 rcases List.mem_cons.1 hp with rfl | hp
 ·decide
 ·cases List.mem_singleton.1 hp;decide⟩
end
end Go.Proofs.YtffaodopiifbkaaGreatDoor
