/- The reference's reader: all objects of a text; the only one. -/
import Derived.Test.YtdldcfllnohkeaaGreatDoorCJ1
import Derived.Test.YtdldcfllnohkeaaGreatDoorCJ0
set_option linter.all false
namespace Go.Proofs.YtdldcfllnohkeaaGreatDoor
open Go.Abs LQ
set_option maxRecDepth 100000
set_option maxHeartbeats 16000000
noncomputable section
set_option maxHeartbeats 8000000
abbrev e0c:List Sy:=[(x7,[99,97,114]),(x7,[110,105,108]),(x7,[116])]
abbrev Q9:List Pk:=[(x7,[])]
abbrev L9:List Pk:=[(x7,[]),(D4,e0c)]
structure d4g (l:List Sy):Prop where
 len:l.length≤200
 ok:∀ s ∈ l,named s=true∧O5 Q9 s=true∧s.1.length < 90000∧s.2.length < 90000
 dist:∀ i k (hi:i < l.length) (hk:k < i),(l[k]'(Nat.lt_trans hk hi)).2 ≠ l[i].2
theorem e6g:d4g e0c where
 len:=dE
 ok s h:=by
  rcases List.mem_cons.1 h with rfl | h
  ·exact ⟨kR,kR,dE,dE⟩
  rcases List.mem_cons.1 h with rfl | h
  ·exact ⟨kR,kR,dE,dE⟩
  rcases List.mem_cons.1 h with rfl | h
  ·exact ⟨kR,kR,dE,dE⟩
  ·cases h
 dist i k hi hk:=by
  have hi:i < 3:=hi
  match i,k,hi,hk with
  | 1,0,_,_=>exact (by decide:([99,97,114]:i6) ≠ [110,105,108])
  | 2,0,_,_=>exact (by decide:([99,97,114]:i6) ≠ [116])
  | 2,1,_,_=>exact (by decide:([110,105,108]:i6) ≠ [116])
def f9r:Sp where
 ι:={ l:List Sy // d4g l }
 A l:=[.sl 2 (Q9.map pg),.a (pg (D4,l.1))]
 B _:=[]
 R l:=.ret (.t [.sl 2 ([(x7,[]),(D4,l.1)].map pg),.c (.i .i64 0)])
 B' _:=[]
 inj i j vs bs h k _ _:=by
  obtain ⟨_,_,h1,k1,h,k⟩:=h.two k
  obtain ⟨_,_,h2,k2,h,k⟩:=h.two k
  have e:=h2.a_inj k2
  simp only [pg,List.cons.injEq,G.l.injEq,true_and,and_true] at e
  rw [a9e e];exact ⟨rfl,rfl⟩
theorem e3x:t6 D4=true:=kR
theorem d3m:J2 Q9 D4=.t [.a [.s [],.l []],.c (.b false)]:=by rfl
theorem e6k:k9 27 f9r:=n9 (fun fn h=>f2y h) [(58,_),(29,_),(59,_),(60,_)] (.cons c0l (.cons d6w (.cons e6y (.cons f0x .nil)))) fun U fn hfn ⟨im,him⟩ vs bs hv hb=>by
 have hvp:=hfn 58 _ rfl
 have hfi:=hfn 29 _ rfl
 have hva:=hfn 59 _ rfl
 have hho:=hfn 60 _ rfl
 have him:d4g im:=him
 have hl:=him.len
 have hv:l7 [.sl 2 (Q9.map pg),.a [.s D4,.l (im.map sg)]] vs:=hv
 have hb:RBs [] bs:=hb
 show j5 U _ fun v bs'=>l8 (.ret (.t [.sl 2 ([(x7,[]),(D4,im)].map pg),.c (.i .i64 0)])) v∧RBs [] bs'
 unfold r27
 (refine Zq ?_;intros)
 refine j4 hvp ⟨D4,dE⟩ (r:=.c (.b true)) (by show r7.ret (.c (.b (t6 D4)))=_;rw [e3x]) (.k (.q _ _ aS) .nil) .nil fun _ _ _ _=>?_
 (refine Zq ?_;intros)
 refine j4 hfi ⟨(Q9,D4),b20⟩ (r:=.t [.a [.s [],.l []],.c (.b false)]) (by show r7.ret (J2 Q9 D4)=_;rw [d3m]) (.k (.sl _ _ _ _ _ rfl aS) (.k (.q _ _ aS) .nil)) .nil fun _ _ _ _=>?_
 (refine Zq ?_;intros)
 (refine E8 (f:=sg) aS (A0 a29) fun _ _ _=>?_)
 (refine Zq ?_;with_reducible repeat' first|intro _|apply aI)
 ·have h:200 < ((im.length:Nat):Int):=‹_›
  omega
 ·refine H2 (fun (i:Nat) vs bs=>∃ (t:j8 Q) (off:Nat) (b0:Bx),vs=[.slice t 2 off 1 .no,.ptr 0 0,.int .i64 i]∧bs=[b0]∧p9 2 (Q9.map pg) t off∧RB [.s D4,.l (im.map sg)] b0∧i≤im.length) (fun i=>im.length - i) 0 ⟨_,_,_,rfl,rfl,aS,.opa _ _ _ rfl aS,Nat.zero_le _⟩ (by simp only [C4];omega) ?_
  rintro self i _ _ ⟨t,off,b0,rfl,rfl,ht,hb0,hi⟩ ih
  (refine Zq ?_;intros)
  (refine E8 (f:=sg) aS (A0 a29) fun _ _ _=>?_)
  (refine Zq ?_;with_reducible repeat' first|intro _|apply aI)
  ·(refine E8 (f:=sg) aS (A0 a29) fun _ _ _=>?_)
   (refine Zq ?_;intros)
   have hil:i < im.length:=oM
   have hs:=him.ok _ (List.getElem_mem hil)
   have hds:=him.dist i
   refine j4 hva ⟨im[i],hs.2.2.1,hs.2.2.2⟩ (r:=.c (.b true)) (by show r7.ret (.c (.b (named im[i])))=_;rw [hs.1]) (.k (.a _ _ _ rfl aS) .nil) .nil fun _ _ _ _=>?_
   (refine Zq ?_;intros)
   refine j4 hho ⟨(Q9,im[i]),b20⟩ (r:=.c (.b true)) (by show r7.ret (.c (.b (O5 Q9 im[i])))=_;rw [hs.2.1]) (.k (.sl _ _ _ _ _ rfl aS) (.k (.a _ _ _ rfl aS) .nil)) .nil fun _ _ _ _=>?_
   (refine Zq ?_;intros)
   refine H2 (fun (k:Nat) vs bs=>∃ (t:j8 Q) (off:Nat) (b0 b1:Bx),vs=[.slice t 2 off 1 .no,.ptr 0 0,.int .i64 i,.ptr 1 0,.int .i64 k]∧bs=[b0,b1]∧p9 2 (Q9.map pg) t off∧RB [.s D4,.l (im.map sg)] b0∧RB [.s im[i].1,.s im[i].2] b1∧k≤i) (fun k=>i - k) 0 ⟨_,_,_,_,rfl,rfl,aS,.opa _ _ _ rfl aS,.opa _ _ _ rfl aS,Nat.zero_le _⟩ (by simp only [C4];omega) ?_
   rintro self2 k _ _ ⟨t,off,b0,b1,rfl,rfl,ht,hb0,hb1,hk⟩ ih2
   (refine Zq ?_;with_reducible repeat' first|intro _|apply aI)
   ·(refine E8 (f:=sg) aS (A0 a29) fun _ _ _=>?_)
    (refine Zq ?_;with_reducible repeat' first|intro _|apply aI)
    ·exact absurd ‹im[k].2=im[i].2› (hds k hil oM)
    ·exact ih2 (k+1) _ _ ⟨_,_,_,_,rfl,rfl,aS,.opa _ _ _ rfl aS,.opa _ _ _ rfl aS,oM⟩ oM
   ·exact ih (i+1) _ _ ⟨_,_,_,rfl,rfl,aS,.opa _ _ _ rfl aS,oM⟩ oM
  ·refine sAT (xs:=[]) (ys:=Q9.map pg) (n:=2) (off:=0) (.nil _ _ _) aS rfl rfl dE fun t' ht'=>?_
   (refine Zq ?_;intros)
   refine a2b (xs:=Q9.map pg) (r:=pg (D4,im)) (n:=2) (off:=0) ht' (fun _=>a1h (by simp [pg]) aS) rfl rfl dE fun t2 ht2=>?_
   (refine Zq ?_;intros)
   exact j9 ⟨.ret _ _ (.t _ _ (.k (.sl _ _ _ _ _ rfl ht2) (.k (.i _ _) .nil))),.nil⟩
theorem f9m {a b c:Sy} {x y z:Q} (h1:A6 [.s a.1,.s a.2] x 0) (h2:A6 [.s b.1,.s b.2] y 0) (h3:A6 [.s c.1,.s c.2] z 0):p9 2 ([a,b,c].map sg) (.node x (.node y .nil .nil) (.node z .nil .nil)) 0:=.of fun j r h=>by
 match j,h with
 | 0,h=>simp at h;subst h;exact ⟨rfl,a1h (by simp [sg]) h1⟩
 | 1,h=>simp at h;subst h;exact ⟨rfl,a1h (by simp [sg]) h2⟩
 | 2,h=>simp at h;subst h;exact ⟨rfl,a1h (by simp [sg]) h3⟩
 | j+3,h=>simp at h
theorem b2z:H7 L9:=⟨dE,fun p hp=>by
 rcases List.mem_cons.1 hp with rfl | hp
 ·decide
 ·cases List.mem_singleton.1 hp;decide⟩
end
end Go.Proofs.YtdldcfllnohkeaaGreatDoor
