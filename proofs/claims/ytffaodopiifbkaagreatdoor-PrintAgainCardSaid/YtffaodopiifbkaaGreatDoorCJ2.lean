/- The reference's reader: all objects of a text; the only one. -/
import Derived.Test.YtffaodopiifbkaaGreatDoorCJ1
import Derived.Test.YtffaodopiifbkaaGreatDoorCJ0
set_option linter.all false
namespace Go.Proofs.YtffaodopiifbkaaGreatDoor
open Go.Abs LQ
set_option maxRecDepth 100000
set_option maxHeartbeats 16000000
noncomputable section
set_option maxHeartbeats 8000000
abbrev c5t:List Sy:=[(u1,[99,97,114]),(u1,[110,105,108]),(u1,[116])]
abbrev Q4:List Pk:=[(u1,[])]
abbrev D2:List Pk:=[(u1,[]),(D1,c5t)]
structure d3f (l:List Sy):Prop where
 len:l.length≤200
 ok:∀ s ∈ l,named s=true∧H7 Q4 s=true∧s.1.length < 90000∧s.2.length < 90000
 dist:∀ i k (hi:i < l.length) (hk:k < i),(l[k]'(Nat.lt_trans hk hi)).2 ≠ l[i].2
theorem e9g:d3f c5t where
 len:=dE
 ok s h:=by
  rcases List.mem_cons.1 h with rfl | h
  ·exact ⟨kR,kR,dE,dE⟩
  rcases List.mem_cons.1 h with rfl | h
  ·exact ⟨kR,kR,dE,dE⟩
  rcases List.mem_cons.1 h with rfl | h
  ·exact ⟨kR,kR,dE,dE⟩
  ·cases h
 dist i k hi hk:=by
  have hi:i < 3:=hi
  match i,k,hi,hk with
  | 1,0,_,_=>exact (by decide:([99,97,114]:i6) ≠ [110,105,108])
  | 2,0,_,_=>exact (by decide:([99,97,114]:i6) ≠ [116])
  | 2,1,_,_=>exact (by decide:([110,105,108]:i6) ≠ [116])
def f9w:Sp where
 ι:={ l:List Sy // d3f l }
 A l:=[.sl 2 (Q4.map pg),.a (pg (D1,l.1))]
 B _:=[]
 R l:=.ret (.t [.sl 2 ([(u1,[]),(D1,l.1)].map pg),.c (.i .i64 0)])
 B' _:=[]
 inj i j vs bs h k _ _:=by
  obtain ⟨_,_,h1,k1,h,k⟩:=h.two k
  obtain ⟨_,_,h2,k2,h,k⟩:=h.two k
  have e:=h2.a_inj k2
  simp only [pg,List.cons.injEq,G.l.injEq,true_and,and_true] at e
  rw [a8y e];exact ⟨rfl,rfl⟩
theorem e2v:r9 D1=true:=kR
theorem d4m:J5 Q4 D1=.t [.a [.s [],.l []],.c (.b false)]:=by rfl
theorem f0y:l5 52 f9w:=n6 (fun fn h=>f1x h) [(90,_),(65,_),(64,_),(66,_)] (.cons c1i (.cons d8y (.cons e69 (.cons f04 .nil)))) fun U fn hfn ⟨im,him⟩ vs bs hv hb=>by
 have hvp:=hfn 90 _ rfl
 have hfi:=hfn 65 _ rfl
 have hva:=hfn 64 _ rfl
 have hho:=hfn 66 _ rfl
 have him:d3f im:=him
 have hl:=him.len
 have hv:l8 [.sl 2 (Q4.map pg),.a [.s D1,.l (im.map sg)]] vs:=hv
 have hb:j5 [] bs:=hb
 show j6 U _ fun v bs'=>l9 (.ret (.t [.sl 2 ([(u1,[]),(D1,im)].map pg),.c (.i .i64 0)])) v∧j5 [] bs'
 unfold r52
 (refine Zq ?_;intros)
 refine j3 hvp ⟨D1,dE⟩ (r:=.c (.b true)) (by show s8.ret (.c (.b (r9 D1)))=_;rw [e2v]) (.k (.q _ _ aS) .nil) .nil fun _ _ _ _=>?_
 (refine Zq ?_;intros)
 refine j3 hfi ⟨(Q4,D1),b28⟩ (r:=.t [.a [.s [],.l []],.c (.b false)]) (by show s8.ret (J5 Q4 D1)=_;rw [d4m]) (.k (.sl _ _ _ _ _ rfl aS) (.k (.q _ _ aS) .nil)) .nil fun _ _ _ _=>?_
 (refine Zq ?_;intros)
 (refine E2 (f:=sg) aS (A3 a3b) fun _ _ _=>?_)
 (refine Zq ?_;with_reducible repeat' first|intro _|apply aI)
 ·have h:200 < ((im.length:Nat):Int):=‹_›
  omega
 ·refine H0 (fun (i:Nat) vs bs=>∃ (t:j9 Q) (off:Nat) (b0:Bx),vs=[.slice t 2 off 1 .no,.ptr 0 0,.int .i64 i]∧bs=[b0]∧r7 2 (Q4.map pg) t off∧RB [.s D1,.l (im.map sg)] b0∧i≤im.length) (fun i=>im.length - i) 0 ⟨_,_,_,rfl,rfl,aS,.opa _ _ _ rfl aS,Nat.zero_le _⟩ (by simp only [C2];omega) ?_
  rintro self i _ _ ⟨t,off,b0,rfl,rfl,ht,hb0,hi⟩ ih
  (refine Zq ?_;intros)
  (refine E2 (f:=sg) aS (A3 a3b) fun _ _ _=>?_)
  (refine Zq ?_;with_reducible repeat' first|intro _|apply aI)
  ·(refine E2 (f:=sg) aS (A3 a3b) fun _ _ _=>?_)
   (refine Zq ?_;intros)
   have hil:i < im.length:=oM
   have hs:=him.ok _ (List.getElem_mem hil)
   have hds:=him.dist i
   refine j3 hva ⟨im[i],hs.2.2.1,hs.2.2.2⟩ (r:=.c (.b true)) (by show s8.ret (.c (.b (named im[i])))=_;rw [hs.1]) (.k (.a _ _ _ rfl aS) .nil) .nil fun _ _ _ _=>?_
   (refine Zq ?_;intros)
   refine j3 hho ⟨(Q4,im[i]),b28⟩ (r:=.c (.b true)) (by show s8.ret (.c (.b (H7 Q4 im[i])))=_;rw [hs.2.1]) (.k (.sl _ _ _ _ _ rfl aS) (.k (.a _ _ _ rfl aS) .nil)) .nil fun _ _ _ _=>?_
   (refine Zq ?_;intros)
   refine H0 (fun (k:Nat) vs bs=>∃ (t:j9 Q) (off:Nat) (b0 b1:Bx),vs=[.slice t 2 off 1 .no,.ptr 0 0,.int .i64 i,.ptr 1 0,.int .i64 k]∧bs=[b0,b1]∧r7 2 (Q4.map pg) t off∧RB [.s D1,.l (im.map sg)] b0∧RB [.s im[i].1,.s im[i].2] b1∧k≤i) (fun k=>i - k) 0 ⟨_,_,_,_,rfl,rfl,aS,.opa _ _ _ rfl aS,.opa _ _ _ rfl aS,Nat.zero_le _⟩ (by simp only [C2];omega) ?_
   rintro self2 k _ _ ⟨t,off,b0,b1,rfl,rfl,ht,hb0,hb1,hk⟩ ih2
   (refine Zq ?_;with_reducible repeat' first|intro _|apply aI)
   ·(refine E2 (f:=sg) aS (A3 a3b) fun _ _ _=>?_)
    (refine Zq ?_;with_reducible repeat' first|intro _|apply aI)
    ·exact absurd ‹im[k].2=im[i].2› (hds k hil oM)
    ·exact ih2 (k+1) _ _ ⟨_,_,_,_,rfl,rfl,aS,.opa _ _ _ rfl aS,.opa _ _ _ rfl aS,oM⟩ oM
   ·exact ih (i+1) _ _ ⟨_,_,_,rfl,rfl,aS,.opa _ _ _ rfl aS,oM⟩ oM
  ·refine sAT (xs:=[]) (ys:=Q4.map pg) (n:=2) (off:=0) (.nil _ _ _) aS rfl rfl dE fun t' ht'=>?_
   (refine Zq ?_;intros)
   refine a12 (xs:=Q4.map pg) (r:=pg (D1,im)) (n:=2) (off:=0) ht' (fun _=>a1a (by simp [pg]) aS) rfl rfl dE fun t2 ht2=>?_
   (refine Zq ?_;intros)
   exact k9 ⟨.ret _ _ (.t _ _ (.k (.sl _ _ _ _ _ rfl ht2) (.k (.i _ _) .nil))),.nil⟩
theorem f8q {a b c:Sy} {x y z:Q} (h1:A8 [.s a.1,.s a.2] x 0) (h2:A8 [.s b.1,.s b.2] y 0) (h3:A8 [.s c.1,.s c.2] z 0):r7 2 ([a,b,c].map sg) (.node x (.node y .nil .nil) (.node z .nil .nil)) 0:=.of fun j r h=>by
 match j,h with
 | 0,h=>simp at h;subst h;exact ⟨rfl,a1a (by simp [sg]) h1⟩
 | 1,h=>simp at h;subst h;exact ⟨rfl,a1a (by simp [sg]) h2⟩
 | 2,h=>simp at h;subst h;exact ⟨rfl,a1a (by simp [sg]) h3⟩
 | j+3,h=>simp at h
theorem X5:K0 D2:=⟨dE,fun p hp=>by
 rcases List.mem_cons.1 hp with rfl | hp
 ·decide
 ·cases List.mem_singleton.1 hp;decide⟩
end
end Go.Proofs.YtffaodopiifbkaaGreatDoor
