/- The program's reader: comments, blanks. -/
import Derived.Test.YtdldcfllnohkeaaGreatDoorKEA
set_option linter.all false
namespace Go.Proofs.YtdldcfllnohkeaaGreatDoor
open Go.Abs LQ
set_option maxRecDepth 100000
set_option maxHeartbeats 4000000
noncomputable section
abbrev a1m (e p:Int):n6:=.pan (.fl 107 e p)
theorem b5y:j3 45 { ι:=Int × Int,A:=fun p=>[.c (.i .i64 p.1),.c (.i .i64 p.2)],B:=fun _=>[],R:=fun p=>a1m p.1 p.2,B':=fun _=>[],inj:=fun i j vs bs h k _ _=>(by
  obtain ⟨_,_,h1,k1,h,k⟩:=h.two k
  obtain ⟨_,_,h2,k2,h,k⟩:=h.two k
  rw [a0l h1 k1,a0l h2 k2];exact ⟨rfl,rfl⟩) }:=k7 (fun fn h=>e90 h) [] .nil fun U fn hfn ⟨e,p⟩ vs bs hv hb=>by
 have hv:j5 [.c (.i .i64 e),.c (.i .i64 p)] vs:=hv
 have hb:RBs [] bs:=hb
 show g7 U _ fun v bs'=>j6 (a1m e p) v∧RBs [] bs'
 unfold r45
 (refine Zq ?_;intros)
 exact g9 ⟨.pan _ _ (.fl _ _ _ _ j4),.nil⟩
def f6n (ok:f5→Nat→Prop) (R:f5→Nat→n6) (b:f5→Nat→Nat):Sp where
 ι:={ p:ScI // ok p.1.1 p.1.2 }
 A _:=[.p 0 0]
 B p:=[H3 p.1.1.1 p.1.1.2]
 R p:=R p.1.1.1 p.1.1.2
 B' p:=[H3 p.1.1.1 (b p.1.1.1 p.1.1.2)]
 inj i j vs bs _ _ h k:=by
  have:=a4z (RBs.one_inj h k)
  rw [this.1,this.2];exact ⟨rfl,rfl⟩
theorem d1h {s:f5} {i:Nat} {a b:UInt8} (hi:i≤s.length):R5 (s.drop i) [a,b]=has s i a.toNat b.toNat:=by
 unfold R5 has
 by_cases h:i+1 < s.length
 ·have e:(s.drop i).take 2=[s[i],s[i+1]]:=by
   rw [List.drop_eq_getElem_cons oM,List.drop_eq_getElem_cons oM];rfl
  have b0:bt s i=s[i].toNat:=by unfold bt;simp [List.getD,List.getElem?_eq_getElem (show i < s.length by omega)]
  have b1:bt s (i+1)=s[i+1].toNat:=by unfold bt;simp [List.getD,List.getElem?_eq_getElem h]
  rw [Bool.eq_iff_iff,decide_eq_true_iff,decide_eq_true_iff,b0,b1]
  simp only [List.length_cons,List.length_nil,List.length_drop,e,List.cons.injEq,and_true]
  constructor
  ·rintro ⟨_,h1,h2⟩;rw [h1,h2];exact ⟨h,rfl,rfl⟩
  ·rintro ⟨_,h1,h2⟩
   exact ⟨oM,UInt8.toNat_inj.1 oM,UInt8.toNat_inj.1 oM⟩
 ·rw [Bool.eq_iff_iff,decide_eq_true_iff,decide_eq_true_iff]
  simp only [List.length_cons,List.length_nil,List.length_drop]
  constructor
  ·rintro ⟨h1,_⟩;omega
  ·rintro ⟨h1,_⟩;omega
theorem d27:k6 2 31779=[35,124]:=dE
theorem e62:k6 2 9084=[124,35]:=dE
theorem e65:k6 2 14906=[58,58]:=dE
def a62 (s:f5) (i:Nat):Option Nat:=D4 s (i+2) 1
def a63 (s:f5) (i:Nat):n6:=match a62 s i with
 | some _=>.ret (.t [])
 | none=>a1m 11 s.length
def a8y (s:f5) (i:Nat):Nat:=(a62 s i).getD i
theorem e60 {s:f5} {j d:Nat} (h:j < s.length) (hh:has s j 35 124=true):D4 s j (d+1)=D4 s (j+2) (d+2):=by rw [D4,if_neg oM,if_pos h,if_pos hh]
theorem c7j {s:f5} {j d:Nat} (h:j < s.length) (hh:¬has s j 35 124=true) (h2:has s j 124 35=true):D4 s j (d+1)=D4 s (j+2) d:=by rw [D4,if_neg oM,if_pos h,if_neg hh,if_pos h2];rfl
theorem e61 {s:f5} {j d:Nat} (h:j < s.length) (hh:¬has s j 35 124=true) (h2:¬has s j 124 35=true):D4 s j (d+1)=D4 s (j+1) (d+1):=by rw [D4,if_neg oM,if_pos h,if_neg hh,if_neg h2]
theorem e2u {s:f5} {j d:Nat} (h:¬j < s.length):D4 s j (d+1)=none:=by rw [D4,if_neg oM,if_neg h]
theorem f5j (s:f5) (j:Nat):D4 s j 0=some j:=by rw [D4,if_pos rfl]
theorem d7e:j3 135 (f6n (fun s i=>has s i 35 124=true) a63 a8y):=k7 (fun fn h=>e42 h) [(108,_),(134,_),(45,_)] (.cons b51 (.cons b75 (.cons b5y .nil))) fun U fn hfn ⟨⟨(s,i),h1,h2⟩,h3⟩ vs bs hv hb=>by
 have hm:=hfn 108 _ rfl
 have hs:=hfn 134 _ rfl
 have hf:=hfn 45 _ rfl
 have hv:j5 [.p 0 0] vs:=hv
 have hb:RBs [[.s s,.i .i64 (i:Int)]] bs:=hb
 have h1:i≤s.length:=h1
 have h2:s.length < 90000:=h2
 have h3:has s i 35 124=true:=h3
 show g7 U _ fun v bs'=>j6 (a63 s i) v∧RBs [H3 s (a8y s i)] bs'
 unfold d88
 (refine Zq ?_;intros)
 have h4:=X3 h3
 refine E1 (fun (p:Nat × Nat) vs bs=>vs=[.ptr 0 0,.int .i64 (p.2:Int)]∧RBs [H3 s p.1] bs∧p.1≤s.length∧(p=(i,0)∨∃ d,p.2=d+1∧d≤p.1∧D4 s p.1 (d+1)=a62 s i)) (fun p=>s.length - p.1) (i,0) ⟨rfl,Z3 rfl,h1,.inl rfl⟩ (by simp only [x8];omega) ?_
 rintro self ⟨j,d⟩ vs bs ⟨rfl,hb,hj,hd⟩ ih
 have hb:RBs [[.s s,.i .i64 (j:Int)]] bs:=hb
 have hj:j≤s.length:=hj
 have hdj:d≤j+1:=by
  rcases hd with hd | ⟨d',hd,h,_⟩
  ·injection hd with _ hd;omega
  ·have hd:d=d'+1:=hd
   have h:d'≤j:=h
   omega
 (refine Zq ?_;intros)
 refine f6 hm ⟨(s,j),hj,h2⟩ (r:=.c (.b (decide (j < s.length)))) rfl j4 (RB.bx aS rfl) fun _ _ _ hb=>?_
 have hb:RBs [[.s s,.i .i64 (j:Int)]] _:=hb
 (refine Zq ?_;with_reducible repeat' first|intro _|apply aI)
 ·have hlt:j < s.length:=of_decide_eq_true ‹_›
  refine f6 hs ⟨⟨(s,j),hj,h2⟩,k6 2 31779⟩ (r:=.c (.b (R5 (s.drop j) (k6 2 31779)))) rfl j4 (RB.bx aS rfl) fun _ _ hv hb=>?_
  have hb:RBs [[.s s,.i .i64 (j:Int)]] _:=hb
  rw [d27,d1h hj] at hv
  (refine Zq ?_;with_reducible repeat' first|intro _|apply aI)
  ·have hh:has s j 35 124=true:=‹_›
   have hlt2:=X3 hh
   refine fun e=>ih (j+2,d+1) _ _ ⟨by simp,scQ e aS oM,by simp;omega,.inr ⟨d,rfl,by simp;omega,?_⟩⟩ (by simp;omega) e
   rcases hd with hd | ⟨d',hd,h,he⟩
   ·injection hd with h1 hd;subst h1 hd;rfl
   ·have hd:d=d'+1:=hd
    subst hd
    rw [← he];exact (e60 hlt hh).symm
  ·have hh:¬has s j 35 124=true:=‹_›
   refine f6 hs ⟨⟨(s,j),hj,h2⟩,k6 2 9084⟩ (r:=.c (.b (R5 (s.drop j) (k6 2 9084)))) rfl j4 (RB.bx aS rfl) fun _ _ hv hb=>?_
   have hb:RBs [[.s s,.i .i64 (j:Int)]] _:=hb
   rw [e62,d1h hj] at hv
   obtain ⟨d',hd,h,he⟩:∃ d',d=d'+1∧d'≤j∧D4 s j (d'+1)=a62 s i:=by
    rcases hd with hd | hd
    ·injection hd with h1 hd;subst h1;exact absurd h3 hh
    ·exact hd
   subst hd
   (refine Zq ?_;with_reducible repeat' first|intro _|apply aI)
   ·have hk:has s j 124 35=true:=‹_›
    have hlt2:=X3 hk
    have hz:d'=0:=oM
    subst hz
    have ho:a62 s i=some (j+2):=by rw [← he,c7j hlt hh hk,f5j]
    have e1:a63 s i=.ret (.t []):=by unfold a63;rw [ho]
    have e2:a8y s i=j+2:=by unfold a8y;rw [ho];rfl
    rw [e1,e2]
    exact G7 fun e=>⟨.ret _ _ (.t _ _ .nil),scQ e aS oM⟩
   ·have hk:has s j 124 35=true:=‹_›
    have hlt2:=X3 hk
    refine fun e=>ih (j+2,d') _ _ ⟨by simp,scQ e aS oM,by simp;omega,.inr ⟨d' - 1,by simp;omega,by simp;omega,?_⟩⟩ (by simp;omega) e
    rw [← he,c7j hlt hh hk,show d' - 1+1=d' by omega]
   ·have hk:¬has s j 124 35=true:=‹_›
    refine fun e=>ih (j+1,d'+1) _ _ ⟨by simp,scQ e aS oM,by simp;omega,.inr ⟨d',rfl,by simp;omega,?_⟩⟩ (by simp;omega) e
    rw [← he,e61 hlt hh hk]
 ·have hlt:¬j < s.length:=fun h=>‹¬decide (j < s.length)=true› (decide_eq_true h)
  obtain ⟨d',hd,h,he⟩:∃ d',d=d'+1∧d'≤j∧D4 s j (d'+1)=a62 s i:=by
   rcases hd with hd | hd
   ·injection hd with h1 hd;subst h1;omega
   ·exact hd
  have ho:a62 s i=none:=by rw [← he,e2u hlt]
  have e1:a63 s i=a1m 11 s.length:=by unfold a63;rw [ho]
  have e2:a8y s i=i:=by unfold a8y;rw [ho];rfl
  rw [e1,e2]
  refine Q9 hf (11,(s.length:Int)) (r:=.fl 107 11 s.length) rfl j4 .nil fun _ hv=>?_
  exact a1p hv (Z3 rfl)
def d10:Sp:=e0a .i32 (fun s r=>0≤r∧(r < 128∨r < 256∧s=k6 4 218761504)) fun s r=>.c (.b (decide (r < 128∧0≤Lib.indexByte s r.toNat.toUInt8)))
theorem d2p (c:Int) (h1:0≤c) (h2:c < 256):(decide (c < 128∧0≤Lib.indexByte (k6 4 218761504) c.toNat.toUInt8))=G5 c:=by
 obtain ⟨n,rfl⟩:∃ n:Nat,c=n:=⟨c.toNat,oM⟩
 rw [Int.toNat_natCast]
 have h3:n < 256:=oM
 have key:∀ n:Fin 256,(decide ((n.1:Int) < 128∧0≤Lib.indexByte (k6 4 218761504) n.1.toUInt8))=G5 n.1:=dE
 exact key ⟨n,h3⟩
def a1v (s:f5) (i:Nat):n6:=match LQ.skip s i with
 | some _=>.ret (.t [])
 | none=>a1m 11 s.length
def a26 (s:f5) (i:Nat):Nat:=(LQ.skip s i).getD i
theorem c6b (s:f5) (i:Nat) (hi:i≤s.length):(L9 s i:Int)=i+(if Lib.indexByte (s.drop i) 10 < 0 then (s.length:Int) - i else Lib.indexByte (s.drop i) 10):=by
 generalize hm:s.length - i=m
 induction m generalizing i with
 | zero =>
  have:i=s.length:=oM
  subst this
  rw [L9,if_neg oM,List.drop_length]
  simp [Lib.indexByte]
 | succ m ih =>
  have hlt:i < s.length:=oM
  have b0:bt s i=s[i].toNat:=by unfold bt;simp [List.getD,List.getElem?_eq_getElem hlt]
  have hge:=(T4 (s.drop (i+1)) 10).2
  have ex:Lib.indexByte (s.drop i) 10=if s[i]=10 then 0 else if Lib.indexByte (s.drop (i+1)) 10=-1 then -1 else Lib.indexByte (s.drop (i+1)) 10+1:=by
   rw [List.drop_eq_getElem_cons hlt]
   simp only [Lib.indexByte,beq_iff_eq]
  rw [ex,L9,if_pos hlt]
  by_cases h:s[i]=10
  ·rw [if_pos (by rw [b0,h];rfl)];simp [h]
  ·have h':¬bt s i=10:=fun e=>h (UInt8.toNat_inj.1 (by rw [b0] at e;show s[i].toNat=10;omega))
   rw [if_neg h',ih (i+1) oM oM]
   simp only [h,if_false]
   generalize Lib.indexByte (s.drop (i+1)) 10=x at *
   by_cases hz:x=-1
   ·subst hz;simp;omega
   ·simp only [hz,if_false]
    rw [if_neg oM,if_neg oM];push_cast;omega
theorem f51 (hcr:j3 132 d10):j3 107 (e0b a1v a26):=k7 (fun fn h=>e4k h) [(108,_),(132,_),(133,_),(134,_),(135,_)] (.cons b51 (.cons hcr (.cons d0m (.cons b75 (.cons d7e .nil))))) fun U fn hfn ⟨(s,i),h1,h2⟩ vs bs hv hb=>by
 have hm:=hfn 108 _ rfl
 have hc:=hfn 132 _ rfl
 have hx:=hfn 133 _ rfl
 have hs:=hfn 134 _ rfl
 have hk:=hfn 135 _ rfl
 have hv:j5 [.p 0 0] vs:=hv
 have hb:RBs [[.s s,.i .i64 (i:Int)]] bs:=hb
 have h1:i≤s.length:=h1
 have h2:s.length < 90000:=h2
 show g7 U _ fun v bs'=>j6 (a1v s i) v∧RBs [H3 s (a26 s i)] bs'
 unfold d8q
 (refine Zq ?_;intros)
 refine E1 (fun (j:Nat) vs bs=>vs=[.ptr 0 0]∧RBs [H3 s j] bs∧j≤s.length∧LQ.skip s j=LQ.skip s i) (fun j=>s.length - j) i ⟨rfl,Z3 rfl,h1,rfl⟩ (by simp only [x8];omega) ?_
 rintro self j vs bs ⟨rfl,hb,hj,he⟩ ih
 have hb:RBs [[.s s,.i .i64 (j:Int)]] bs:=hb
 have stop:∀ {x:Q},LQ.skip s j=some j→u6 [.s s,.i .i64 (j:Int)] x 0→g7 U (some (.ret (.tuple []),[.opa x 2])) fun v bs'=>j6 (a1v s i) v∧RBs [H3 s (a26 s i)] bs':=fun h hq=>by
  have ho:LQ.skip s i=some j:=by rw [← he,h]
  have e1:a1v s i=.ret (.t []):=by unfold a1v;rw [ho]
  have e2:a26 s i=j:=by unfold a26;rw [ho];rfl
  rw [e1,e2]
  exact g9 ⟨.ret _ _ (.t _ _ .nil),RB.bx hq rfl⟩
 (refine Zq ?_;intros)
 refine f6 hm ⟨(s,j),hj,h2⟩ (r:=.c (.b (decide (j < s.length)))) rfl j4 (RB.bx aS rfl) fun _ _ _ hb=>?_
 have hb:RBs [[.s s,.i .i64 (j:Int)]] _:=hb
 (refine Zq ?_;with_reducible repeat' first|intro _|apply aI)
 ·have hlt:j < s.length:=of_decide_eq_true ‹_›
  have hbt:((s.getD j 0).toNat:Int)=bt s j:=rfl
  have hb0:=a57 s j
  have hb1:=c1k s j
  (refine Zq ?_;intros)
  refine d5b (m:=bt s j) rfl oM ?_
  refine f6 hc ⟨(k6 4 218761504,bt s j),hb0,.inr ⟨hb1,rfl⟩⟩ (r:=.c (.b (G5 (bt s j)))) (congrArg (fun b=>n6.ret (.c (.b b))) (d2p _ hb0 hb1)) j4 .nil fun _ _ _ _=>?_
  (refine Zq ?_;with_reducible repeat' first|intro _|apply aI)
  ·have hbl:G5 (bt s j)=true:=‹_›
   exact fun e=>ih (j+1) _ _ ⟨rfl,scQ e aS oM,oM,by rw [← d1z hlt hbl];exact he⟩ oM e
  ·have hbl:G5 (bt s j)=false:=by simpa using ‹¬G5 (bt s j)=true›
   have h59:bt s j=59:=‹_›
   rw [Int.toNat_natCast]
   refine f6 hx ⟨(s.drop j,10),oM,oM⟩ (r:=.c (.i .i64 (Lib.indexByte (s.drop j) 10))) rfl j4 .nil fun _ _ _ _=>?_
   have hi:=T4 (s.drop j) 10
   have hle:=c6b s j hj
   have hll:=a88 s j hj
   have hl2:=b54 s j hlt oM
   simp only [List.length_drop] at hi
   (refine Zq ?_;with_reducible repeat' first|intro _|apply aI)
   ·rw [if_pos ‹_›] at hle
    exact fun e=>ih (L9 s j) _ _ ⟨rfl,scQ e aS oM,oM,by rw [← c0p hlt hbl h59];exact he⟩ oM e
   ·rw [if_neg ‹_›] at hle
    exact fun e=>ih (L9 s j) _ _ ⟨rfl,scQ e aS oM,oM,by rw [← c0p hlt hbl h59];exact he⟩ oM e
  ·have hbl:G5 (bt s j)=false:=by simpa using ‹¬G5 (bt s j)=true›
   have h59:¬bt s j=59:=‹_›
   refine f6 hs ⟨⟨(s,j),hj,h2⟩,k6 2 31779⟩ (r:=.c (.b (R5 (s.drop j) (k6 2 31779)))) rfl j4 (RB.bx aS rfl) fun _ _ hv hb=>?_
   have hb:RBs [[.s s,.i .i64 (j:Int)]] _:=hb
   rw [d27,d1h hj] at hv
   (refine Zq ?_;with_reducible repeat' first|intro _|apply aI)
   ·have hh:has s j 35 124=true:=‹_›
    have hlt2:=X3 hh
    cases hcm:D4 s (j+2) 1 with
    | some k =>
     have hkl:=b0v s (j+2) 1 k oM hcm
     refine f6 hk ⟨⟨(s,j),hj,h2⟩,hh⟩ (r:=.t []) (by show a63 s j=_;unfold a63 a62;rw [hcm]) j4 (RB.bx aS rfl) fun _ _ _ hb=>?_
     have hb:RBs [H3 s (a8y s j)] _:=hb
     have e2:a8y s j=k:=by unfold a8y a62;rw [hcm];rfl
     rw [e2] at hb
     have hb:RBs [[.s s,.i .i64 (k:Int)]] _:=hb
     (refine Zq ?_;intros)
     exact fun e=>ih k _ _ ⟨rfl,RB.bx aS rfl,oM,by rw [← d99 hlt hbl h59 hh hcm];exact he⟩ oM e
    | none =>
     refine Q9 hk ⟨⟨(s,j),hj,h2⟩,hh⟩ (r:=.fl 107 11 s.length) (by show a63 s j=_;unfold a63 a62;rw [hcm]) j4 (RB.bx aS rfl) fun _ hv=>?_
     have ho:LQ.skip s i=none:=by rw [← he,d5f hlt hbl h59 hh hcm]
     have e1:a1v s i=a1m 11 s.length:=by unfold a1v;rw [ho]
     have e2:a26 s i=i:=by unfold a26;rw [ho];rfl
     rw [e1,e2]
     exact a1p hv (Z3 rfl)
   ·exact stop (b1x hlt hbl h59 (by simpa using ‹¬has s j 35 124=true›)) aS
 ·have hlt:¬j < s.length:=fun h=>‹¬decide (j < s.length)=true› (decide_eq_true h)
  exact stop (c5b hlt) aS
theorem b5b:k6 1 45=[45]:=dE
theorem V6 (s:f5):D1 s [45]=s.drop (g8 s):=by
 unfold D1 R5 g8
 cases s with
 | nil=>simp
 | cons c s =>
  have hb:bt (c :: s) 0=c.toNat:=rfl
  by_cases h:c=45
  ·subst h;simp [hb]
  ·have h':¬(c.toNat:Int)=45:=fun e=>h (UInt8.toNat_inj.1 (by show c.toNat=45;omega))
   simp [h,hb,h']
theorem a2d (s:f5) (a k:Nat):bt (s.drop a) k=bt s (a+k):=by unfold bt;simp [List.getD]
theorem c55 (s:f5) (a k:Nat) (h:a+k≤s.length):j7 s (a+k)=a+j7 (s.drop a) k:=by
 generalize hm:s.length - (a+k)=m
 induction m generalizing k with
 | zero=>rw [j7,if_neg oM,j7,if_neg (by simp;omega)]
 | succ m ih =>
  have hb:bt (s.drop a) k=bt s (a+k):=a2d s a k
  rw [j7,if_pos oM]
  conv=>rhs;rw [j7,if_pos (by rw [List.length_drop];omega),hb]
  by_cases hc:Q4 (bt s (a+k))=true
  ·rw [if_pos hc,if_pos hc];exact ih (k+1) oM oM
  ·rw [if_neg hc,if_neg hc]
theorem c8d:j3 142 (sp1 fun s=>.ret (.c (.b (x9 s)))):=k7 (fun fn h=>e47 h) [(159,_)] (.cons a0a .nil) fun U fn hfn ⟨s,hs⟩ vs bs hv hb=>by
 have hp:=hfn 159 _ rfl
 have hv:j5 [.c (.s s)] vs:=hv
 have hb:RBs [] bs:=hb
 show g7 U _ fun v bs'=>j6 (.ret (.c (.b (x9 s)))) v∧RBs [] bs'
 obtain ⟨d,hd⟩:∃ d,s.drop (g8 s)=d:=⟨_,rfl⟩
 unfold d9d
 (refine Zq ?_;intros)
 refine f6 hp ⟨(s,k6 1 45),trivial⟩ (r:=.c (.s d)) (by show n6.ret (.c (.s (D1 s (k6 1 45))))=_;rw [b5b,V6,hd]) j4 .nil fun _ _ _ _=>?_
 have hsl:=O0 s
 have hdl:d.length=s.length - g8 s:=by rw [← hd];simp
 have hb0:((d.getD 0 0).toNat:Int)=bt s (g8 s):=by rw [← hd];exact (a2d s (g8 s) 0).trans (by rw [Nat.add_zero])
 have hb0':((d.getD (Int.toNat 0) 0).toNat:Int)=bt s (g8 s):=hb0
 have zz:∀ b:Bool,x9 s=b→∀ x:Bool,(U=CU→x=b)→g7 U (some (.ret (.bool x),[])) fun v bs'=>j6 (.ret (.c (.b (x9 s)))) v∧RBs [] bs':=fun b h x hx=>G7 fun e=>⟨.ret _ _ (P9 (by rw [h,hx e])),.nil⟩
 have zs:(d=[]∨bt s (g8 s)=48)→∀ x:Bool,(U=CU→x=decide (s=k6 1 48))→g7 U (some (.ret (.bool x),[])) fun v bs'=>j6 (.ret (.c (.b (x9 s)))) v∧RBs [] bs':=fun h x hx=>by
  refine zz (decide (s=k6 1 48)) ?_ x hx
  have:¬(g8 s < s.length∧bt s (g8 s) ≠ 48):=by
   rcases h with h | h
   ·rw [h] at hdl;simp at hdl;omega
   ·exact fun k=>k.2 h
  unfold x9
  rw [decide_eq_false this,Bool.false_and,Bool.or_false];rfl
 (refine Zq ?_;with_reducible repeat' first|intro _|apply aI)
 ·exact zs (.inl ‹d=k6 0 0›) _ fun e=>by subst e;exact b0w s 1 48
 ·have hne:d ≠ []:=‹¬d=k6 0 0›
  have hpos:0 < d.length:=List.length_pos_iff.2 hne
  (refine Zq ?_;with_reducible repeat' first|intro _|apply aI)
  ·exact zs (.inr (hb0.symm.trans aS)) _ fun e=>by subst e;exact b0w s 1 48
  ·have h48:¬((d.getD 0 0).toNat:Int)=48:=aS
   have e0:x9 s=decide (j7 d 0=d.length):=by
    have hz:¬s=x5:=fun e=>h48 (by rw [hb0];subst e;decide)
    have h1:g8 s < s.length∧bt s (g8 s) ≠ 48:=⟨oM,oM⟩
    have h2:=c55 s (g8 s) 0 oM
    rw [Nat.add_zero,hd] at h2
    unfold x9
    rw [decide_eq_true h1,Bool.true_and,decide_eq_false hz,Bool.false_or]
    rw [Bool.eq_iff_iff,decide_eq_true_iff,decide_eq_true_iff];omega
   have hl:d.length < 90000:=by have:s.length < 90000:=hs;omega
   refine E1 (fun (i:Nat) vs bs=>vs=[.str d.length (j9 d),.int .i64 d.length,.int .i64 i]∧bs=[]∧i≤d.length∧j7 d i=j7 d 0) (fun i=>d.length - i) 0 ⟨rfl,rfl,oM,rfl⟩ (by simp only [x8];omega) ?_
   rintro self i vs bs ⟨rfl,rfl,hi,he⟩ ih
   (refine Zq ?_;with_reducible repeat' first|intro _|apply aI)
   ·exact g9 ⟨.ret _ _ (G2 (by rw [e0,← he,b5d (i:=i) oM oM];exact decide_eq_false oM)),.nil⟩
   ·exact g9 ⟨.ret _ _ (G2 (by rw [e0,← he,b5d (i:=i) oM oM];exact decide_eq_false oM)),.nil⟩
   ·exact ih (i+1) _ _ ⟨rfl,rfl,oM,by rw [← he,c2w (i:=i) oM ‹_› ‹_›]⟩ oM
   ·exact g9 ⟨.ret _ _ (G2 (by rw [e0,← he,b7t (i:=i) oM];exact decide_eq_true oM)),.nil⟩
theorem a5i:j3 151 (sp1 fun s=>.ret (.c (.s (K7 s)))):=k7 (fun fn h=>e49 h) [(142,_)] (.cons c8d .nil) fun U fn hfn ⟨s,hs⟩ vs bs hv hb=>by
 have hp:=hfn 142 _ rfl
 have hv:j5 [.c (.s s)] vs:=hv
 have hb:RBs [] bs:=hb
 show g7 U _ fun v bs'=>j6 (.ret (.c (.s (K7 s)))) v∧RBs [] bs'
 unfold d9f
 (refine Zq ?_;intros)
 refine f6 hp ⟨s,hs⟩ (r:=.c (.b (x9 s))) rfl j4 .nil fun _ _ _ _=>?_
 (refine Zq ?_;with_reducible repeat' first|intro _|apply aI)
 ·have e:K7 s=s:=by unfold K7;rw [if_pos ‹_›]
  rw [e];exact g9 ⟨.ret _ _ (.s _ _ _ rfl rfl),.nil⟩
 ·have e:K7 s=k6 1 48:=by unfold K7;rw [if_neg ‹_›];rfl
  rw [e];exact g9 ⟨.ret _ _ (.s _ _ _ rfl rfl),.nil⟩
theorem a8z (s:f5):(K7 s).length≤s.length∨(K7 s).length≤1:=by unfold K7;split;exact .inl (Nat.le_refl _);exact .inr dE
theorem c2l (s:f5):(K7 s).drop (g8 (K7 s))=f8 (f7 s).natAbs:=by
 rw [a03,a1s]
 have h:=c60 (f7 s) (f7 s).natAbs []
 rw [List.append_nil] at h
 rw [h,List.drop_left]
theorem c3c:j3 141 (sp1 fun s=>.ret (.c (.i .i64 ((f8 (f7 s).natAbs).length:Nat)))):=k7 (fun fn h=>e46 h) [(151,_),(159,_)] (.cons a5i (.cons a0a .nil)) fun U fn hfn ⟨s,hs⟩ vs bs hv hb=>by
 have hp:=hfn 151 _ rfl
 have ht:=hfn 159 _ rfl
 have hv:j5 [.c (.s s)] vs:=hv
 have hb:RBs [] bs:=hb
 show g7 U _ fun v bs'=>j6 (.ret (.c (.i .i64 ((f8 (f7 s).natAbs).length:Nat)))) v∧RBs [] bs'
 unfold d9c
 (refine Zq ?_;intros)
 refine f6 hp ⟨s,hs⟩ (r:=.c (.s (K7 s))) rfl j4 .nil fun _ _ _ _=>?_
 (refine Zq ?_;intros)
 refine f6 ht ⟨(K7 s,k6 1 45),trivial⟩ (r:=.c (.s (f8 (f7 s).natAbs))) (by show n6.ret (.c (.s (D1 (K7 s) (k6 1 45))))=_;rw [b5b,V6,c2l]) j4 .nil fun _ _ _ _=>?_
 (refine Zq ?_;intros)
 exact g9 ⟨.ret _ _ (.i _ _),.nil⟩
def lg (d:Nat):List G:=[.i .u32 (d:Int)]
theorem e7w {a b:Nat} (h:lg a=lg b):a=b:=by simp only [lg,List.cons.injEq,G.i.injEq,and_true,true_and] at h;omega
theorem a3g:∀ {l m:List Nat},l.map lg=m.map lg→l=m
 | [],[],_=>rfl
 | [],_ :: _,h=>by simp at h
 | _ :: _,[],h=>by simp at h
 | a :: l,b :: m,h=>by simp only [List.map_cons,List.cons.injEq] at h;exact congr (congrArg List.cons (e7w h.1)) (a3g h.2)
section
variable {U:s7} {P:J7→List Bx→Prop}
theorem b8q {l:List Nat} {t:i7 Q} {off:Nat} {i:Int} (n:Nat) {K:Q→Om} (ht:m7 1 (l.map lg) t off) (hn:i=n) (hi:n < l.length) (h:∀ x,u6 (lg (l.getD n 0)) x 0→g7 U (K x) P):g7 U (U.fQ (U.tQ t (U.nAdd off (U.iNat i))) K) P:=by
 subst hn
 refine d1v (y:=l.getD n 0) ht ?_ h
 rw [Int.toNat_natCast,List.getElem?_eq_getElem hi]
 simp [List.getD,List.getElem?_eq_getElem hi]
end
def spM (R:List Nat→n6):Sp where
 ι:={ l:List Nat // l.length < 20000 }
 A l:=[.sl 1 (l.1.map lg)]
 B _:=[]
 R l:=R l.1
 B' _:=[]
 inj i j vs bs h k _ _:=by
  obtain ⟨_,_,h1,k1,h,k⟩:=h.two k
  rw [a3g (h1.sl_inj k1)];exact ⟨rfl,rfl⟩
def f3m (ok:List Nat→List Nat→Prop) (R:List Nat→List Nat→n6):Sp where
 ι:={ p:List Nat × List Nat // p.1.length < 20000∧p.2.length < 20000∧ok p.1 p.2 }
 A p:=[.sl 1 (p.1.1.map lg),.sl 1 (p.1.2.map lg)]
 B _:=[]
 R p:=R p.1.1 p.1.2
 B' _:=[]
 inj i j vs bs h k _ _:=by
  obtain ⟨_,_,h1,k1,h,k⟩:=h.two k
  obtain ⟨_,_,h2,k2,h,k⟩:=h.two k
  rw [a3g (h1.sl_inj k1),a3g (h2.sl_inj k2)];exact ⟨rfl,rfl⟩
theorem b52:j3 192 (spM fun l=>.ret (.sl 1 ((E3 l).map lg))):=k7 (fun fn h=>e5n h) [] .nil fun U fn hfn ⟨l,hs⟩ vs bs hv hb=>by
 have hv:j5 [.sl 1 (l.map lg)] vs:=hv
 have hb:RBs [] bs:=hb
 have hs:l.length < 20000:=hs
 show g7 U _ fun v bs'=>j6 (.ret (.sl 1 ((E3 l).map lg))) v∧RBs [] bs'
 unfold d9s
 (refine Zx ?_;intros)
 refine E1 (fun (m:Nat) vs bs=>∃ (t:i7 Q) (off:Nat),vs=[.slice t 1 off m .no]∧bs=[]∧m7 1 (l.map lg) t off∧m≤l.length∧S7 l m=S7 l l.length) (fun m=>m) l.length ⟨_,_,rfl,rfl,aS,oM,rfl⟩ (by simp only [x8];omega) ?_
 rintro self m _ _ ⟨t,off,rfl,rfl,ht,hm,he⟩ ih
 have fin:¬(0 < m∧l.getD (m - 1) 0=0)→g7 U (some (.ret (.slice t 1 off m .no),[])) fun v bs'=>j6 (.ret (.sl 1 ((E3 l).map lg))) v∧RBs [] bs':=fun h=>by
  have e:E3 l=l.take m:=by
   unfold E3
   rw [← he]
   cases m with
   | zero=>rfl
   | succ m=>rw [S7,if_neg (fun k=>h ⟨oM,by simpa using k⟩)]
  rw [e,List.map_take]
  exact g9 ⟨.ret _ _ (.sl _ _ _ _ _ (by simp;omega) (ht.take m)),.nil⟩
 (refine Zx ?_;with_reducible repeat' first|intro _|apply aI)
 ·refine b8q (m - 1) aS oM oM fun _ _=>?_
  (refine Zx ?_;with_reducible repeat' first|intro _|apply aI)
  ·have h0:=‹((l.getD (m - 1) 0:Nat):Int)=0›
   simp only [Int.toNat_zero,Nat.add_zero,Nat.sub_zero]
   refine ih (m - 1) _ _ ⟨t,off,by rw [show ((m:Int) - 1).toNat=m - 1 by omega],rfl,ht,oM,?_⟩ oM
   obtain ⟨m,rfl⟩:∃ n,m=n+1:=⟨m - 1,oM⟩
   rw [← he,S7,if_pos (by simpa using h0)];rfl
  ·exact fin fun h=>‹¬((l.getD (m - 1) 0:Nat):Int)=0› oM
 ·exact fin fun h=>oM
theorem b5x:j3 193 (f3m (fun _ _=>True) fun a b=>.ret (.c (.i .i64 (Q0 a b)))):=k7 (fun fn h=>e5o h) [] .nil fun U fn hfn ⟨(a,b),ha,hbl,_⟩ vs bs hv hb=>by
 have ha:a.length < 20000:=ha
 have hbl:b.length < 20000:=hbl
 have hv:j5 [.sl 1 (a.map lg),.sl 1 (b.map lg)] vs:=hv
 have hb:RBs [] bs:=hb
 show g7 U _ fun v bs'=>j6 (.ret (.c (.i .i64 (Q0 a b)))) v∧RBs [] bs'
 unfold d9t
 (refine Zx ?_;with_reducible repeat' first|intro _|apply aI)
 ·have hl:a.length=b.length:=oM
  have e:Q0 a b=F3 a b a.length:=by unfold Q0;rw [if_pos hl]
  rw [e]
  refine E1 (fun (m:Nat) vs bs=>∃ (t:i7 Q) (off:Nat) (t':i7 Q) (off':Nat) (i:Int),vs=[.slice t 1 off a.length .no,.slice t' 1 off' b.length .no,.int .i64 i]∧bs=[]∧i=m - 1∧m7 1 (a.map lg) t off∧m7 1 (b.map lg) t' off'∧m≤a.length∧F3 a b m=F3 a b a.length) (fun m=>m) a.length ⟨_,_,_,_,_,rfl,rfl,rfl,aS,aS,oM,rfl⟩ (by simp only [x8];omega) ?_
  rintro self m _ _ ⟨t,off,t',off',i,rfl,rfl,rfl,ht,ht',hm,he⟩ ih
  (refine Zx ?_;with_reducible repeat' first|intro _|apply aI)
  ·refine b8q (m - 1) aS oM oM fun _ _=>?_
   (refine Zx ?_;intros)
   refine b8q (m - 1) aS oM oM fun _ _=>?_
   (refine Zx ?_;with_reducible repeat' first|intro _|apply aI)
   ·refine ih (m - 1) _ _ ?_ oM
    obtain ⟨m,rfl⟩:∃ n,m=n+1:=⟨m - 1,oM⟩
    exact ⟨_,_,_,_,_,rfl,rfl,oM,ht,ht',oM,by rw [← he,Nat.add_sub_cancel];conv=>rhs;rw [F3,if_neg (by simp only [Nat.add_sub_cancel] at *;omega),if_neg (by simp only [Nat.add_sub_cancel] at *;omega)]⟩
   ·refine b8q (m - 1) aS oM oM fun _ _=>?_
    (refine Zx ?_;intros)
    refine b8q (m - 1) aS oM oM fun _ _=>?_
    (refine Zx ?_;with_reducible repeat' first|intro _|apply aI)
    ·obtain ⟨m,rfl⟩:∃ n,m=n+1:=⟨m - 1,oM⟩
     exact g9 ⟨.ret _ _ (rvI (by rw [← he,F3,if_pos (by simp only [Nat.add_sub_cancel] at *;omega)])),.nil⟩
    ·obtain ⟨m,rfl⟩:∃ n,m=n+1:=⟨m - 1,oM⟩
     exact g9 ⟨.ret _ _ (rvI (by rw [← he,F3,if_neg (by simp only [Nat.add_sub_cancel] at *;omega),if_pos (by simp only [Nat.add_sub_cancel] at *;omega)])),.nil⟩
  ·have em:m=0:=oM
   subst em
   exact g9 ⟨.ret _ _ (rvI (by rw [← he];rfl)),.nil⟩
 ·exact g9 ⟨.ret _ _ (rvI (by unfold Q0;rw [if_neg oM,if_pos oM])),.nil⟩
 ·exact g9 ⟨.ret _ _ (rvI (by unfold Q0;rw [if_neg oM,if_neg oM])),.nil⟩
section
variable {U:s7} {P:J7→List Bx→Prop}
theorem f4b {e:Int} (h1:0≤e) (h2:e < 4294967296):wr .u32 e=e:=by
 rw [a16];show e % 4294967296=e;omega
theorem b7k {e:Int} (h1:0≤e) (h2:e < 18446744073709551616):wr .u64 e=e:=by
 rw [a16];show e % 18446744073709551616=e;omega
theorem a4d {e m:Int} {K:Int→Om} (he:e=m) (hr:0≤m∧m < 4294967296) (h:g7 U (K m) P):g7 U (U.fI (U.wr .u32 e) K) P:=fun e'=>by
 have:=h e';subst e' he;rw [W2]
 show ∃ v bs,K (wr .u32 e)=some (v,bs)∧P v bs
 rw [f4b hr.1 hr.2];exact this
theorem c1y {e m:Int} {K:Int→Om} (he:e=m) (hr:0≤m∧m < 18446744073709551616) (h:g7 U (K m) P):g7 U (U.fI (U.wr .u64 e) K) P:=fun e'=>by
 have:=h e';subst e' he;rw [W2]
 show ∃ v bs,K (wr .u64 e)=some (v,bs)∧P v bs
 rw [b7k hr.1 hr.2];exact this
end
def u3 (n:Nat):List (List G):=(k8 n).map lg
theorem a71 {a b:Nat} (h:u3 a=u3 b):a=b:=b8a (a3g h)
def f3r (ok:Nat→Nat→Prop) (R:Nat→Nat→n6):Sp where
 ι:={ p:Nat × Nat // (k8 p.1).length < 20000∧(k8 p.2).length < 20000∧ok p.1 p.2 }
 A p:=[.sl 1 (u3 p.1.1),.sl 1 (u3 p.1.2)]
 B _:=[]
 R p:=R p.1.1 p.1.2
 B' _:=[]
 inj i j vs bs h k _ _:=by
  obtain ⟨_,_,h1,k1,h,k⟩:=h.two k
  obtain ⟨_,_,h2,k2,h,k⟩:=h.two k
  rw [a71 (h1.sl_inj k1),a71 (h2.sl_inj k2)];exact ⟨rfl,rfl⟩
theorem M3 (l:List Nat) (i:Nat):k5 (l.take (i+1))=k5 (l.take i)+B9 ^ i * l.getD i 0:=by
 rcases Nat.lt_or_ge i l.length with h | h
 ·exact b8b l i h
 ·rw [List.take_of_length_le h,List.take_of_length_le oM];simp [List.getD,List.getElem?_eq_none h]
theorem e0f (l:List Nat) (i x:Nat):(l.set i x).take i=l.take i:=by
 rw [List.take_set_of_le (Nat.le_refl _)]
theorem a89 {x y:Nat} (h:y≤x):(k8 y).length≤(k8 x).length:=by
 have h1:=V8 (k8 x) (N0 x)
 rw [G0] at h1
 exact a73 oM
theorem b3x (n:Nat):LQ.LB (List.replicate n 0):=fun d h=>by rw [List.eq_of_mem_replicate h];decide
theorem c07 {l:List Nat} {i x:Nat} (h:i < l.length):(l.set i x).getD i 0=x:=by simp [List.getD,List.getElem?_set,h]
theorem a35 {a b out:List Nat} {i bor bor' x:Nat} (hi:i < out.length) (he:k5 (a.take i)+B9 ^ i * bor=k5 (out.take i)+k5 (b.take i)) (hx:a.getD i 0+1000000000 * bor'=x+b.getD i 0+bor) :
  k5 (a.take (i+1))+B9 ^ (i+1) * bor'=k5 ((out.set i x).take (i+1))+k5 (b.take (i+1)):=by
 rw [M3 a,M3 b,M3 (out.set i x),e0f,c07 hi,Nat.pow_succ,Nat.mul_assoc]
 have h:=congrArg (B9 ^ i * ·) hx
 rw [show (1000000000:Nat)=B9 from rfl] at h
 simp only [Nat.mul_add] at h
 omega
theorem gD {l:List Nat} {i:Nat} (h:i < l.length):l[i]=l.getD i 0:=by simp only [List.getD,List.getElem?_eq_getElem h,Option.getD_some]
theorem gD0 {l:List Nat} {i:Nat} (h:l.length≤i):l.getD i 0=0:=by simp only [List.getD,List.getElem?_eq_none h,Option.getD_none]
theorem d4d {a b out:List Nat} {bor:Nat} (hol:out.length=a.length) (hyx:b.length≤a.length) (hxy:k5 b≤k5 a) (hLo:LQ.LB out) (hb:bor≤1) (he:k5 (a.take a.length)+B9 ^ a.length * bor=k5 (out.take a.length)+k5 (b.take a.length)):k5 out=k5 a - k5 b:=by
 rw [List.take_of_length_le (Nat.le_refl _),List.take_of_length_le oM,List.take_of_length_le oM] at he
 have h:=V8 out hLo
 rw [hol] at h
 rcases Nat.lt_or_ge bor 1 with h1 | h1
 ·have:bor=0:=oM
  subst this;omega
 ·have:bor=1:=oM
  subst this;omega
theorem e70 {U:s7} {fn:FF} {vs:List V} {bs:List Bx} (ht:Ans fn 192 (spM fun l=>.ret (.sl 1 ((E3 l).map lg)))) {a b:List Nat} (hx:a.length < 20000) (hyx:b.length≤a.length) (hxy:k5 b≤k5 a) (hLa:LQ.LB a) (hLb:LQ.LB b) (hv:j5 [.sl 1 (a.map lg),.sl 1 (b.map lg)] vs) (hb:RBs [] bs) :
  g7 U (d1l U fn vs bs) fun v bs'=>j6 (.ret (.sl 1 (u3 (k5 a - k5 b)))) v∧RBs [] bs':=by
 unfold d1l
 (refine Zx ?_;intros)
 refine sZT (n:=1) (r:=lg 0) (fun _=>E7 (.i _ _)) rfl oM fun t' ht'=>?_
 (refine Zx ?_;intros)
 refine E1 (fun (i:Nat) vs bs=>∃ (t1:i7 Q) (o1:Nat) (t2:i7 Q) (o2:Nat) (t3:i7 Q) (out:List Nat) (bor:Nat),vs=[.slice t1 1 o1 a.length .no,.slice t2 1 o2 b.length .no,.bslice 0 a.length,.int .i64 bor,.int .i64 a.length,.int .i64 i]∧bs=[.row t3 a.length]∧m7 1 (a.map lg) t1 o1∧m7 1 (b.map lg) t2 o2∧m7 1 (out.map lg) t3 0∧out.length=a.length∧LQ.LB out∧i≤a.length∧bor≤1∧k5 (a.take i)+B9 ^ i * bor=k5 (out.take i)+k5 (b.take i)) (fun i=>a.length - i) 0 ?_ (by simp only [x8];omega) ?_
 ·exact ⟨_,_,_,_,t',List.replicate a.length 0,0,by simp only [Int.toNat_natCast];rfl,by simp,aS,aS,by simpa [List.map_replicate] using ht',by simp,b3x _,oM,oM,by simp [k5]⟩
 rintro self i _ _ ⟨t1,o1,t2,o2,t3,out,bor,rfl,rfl,h1,h2,h3,hol,hLo,hi,hbor,he⟩ ih
 (refine Zx ?_;with_reducible repeat' first|intro _|apply aI)
 ·have q1:a.getD i 0 < 1000000000:=a4o hLa i
  have q2:b.getD i 0 < 1000000000:=a4o hLb i
  rw [gD (l:=a) oM]
  refine b1v rfl oM ?_
  (refine Zx ?_;with_reducible repeat' first|intro _|apply aI)
  ·rw [gD (l:=b) oM]
   refine b1v rfl oM ?_
   (refine Zx ?_;with_reducible repeat' first|intro _|apply aI)
   ·(refine a4d (m:=((a.getD i 0+1000000000 - bor - b.getD i 0:Nat):Int)) oM oM ?_;(refine Zx ?_;with_reducible repeat' first|intro _|apply aI);refine a9r (r:=lg (a.getD i 0+1000000000 - bor - b.getD i 0)) h3 (fun _=>E7 (.i _ _)) rfl (by simp;omega) oM fun t9 h9=>?_;(refine Zx ?_;with_reducible repeat' first|intro _|apply aI);refine ih (i+1) _ _ ?_ oM;exact ⟨t1,o1,t2,o2,t9,out.set i (a.getD i 0+1000000000 - bor - b.getD i 0),1,by simp,by simp,h1,h2,by rw [List.map_set];simpa using h9,by simp [hol],a29 hLo _ _ (by show _ < 1000000000;omega),oM,oM,a35 oM he oM⟩)
   ·(refine a4d (m:=((a.getD i 0 - bor - b.getD i 0:Nat):Int)) oM oM ?_;(refine Zx ?_;with_reducible repeat' first|intro _|apply aI);refine a9r (r:=lg (a.getD i 0 - bor - b.getD i 0)) h3 (fun _=>E7 (.i _ _)) rfl (by simp;omega) oM fun t9 h9=>?_;(refine Zx ?_;with_reducible repeat' first|intro _|apply aI);refine ih (i+1) _ _ ?_ oM;exact ⟨t1,o1,t2,o2,t9,out.set i (a.getD i 0 - bor - b.getD i 0),0,by simp,by simp,h1,h2,by rw [List.map_set];simpa using h9,by simp [hol],a29 hLo _ _ (by show _ < 1000000000;omega),oM,oM,a35 oM he oM⟩)
  ·have e2:b.getD i 0=0:=gD0 oM
   (refine a4d (m:=((a.getD i 0+1000000000 - bor:Nat):Int)) oM oM ?_;(refine Zx ?_;with_reducible repeat' first|intro _|apply aI);refine a9r (r:=lg (a.getD i 0+1000000000 - bor)) h3 (fun _=>E7 (.i _ _)) rfl (by simp;omega) oM fun t9 h9=>?_;(refine Zx ?_;with_reducible repeat' first|intro _|apply aI);refine ih (i+1) _ _ ?_ oM;exact ⟨t1,o1,t2,o2,t9,out.set i (a.getD i 0+1000000000 - bor),1,by simp,by simp,h1,h2,by rw [List.map_set];simpa using h9,by simp [hol],a29 hLo _ _ (by show _ < 1000000000;omega),oM,oM,a35 oM he oM⟩)
  ·have e2:b.getD i 0=0:=gD0 oM
   (refine a4d (m:=((a.getD i 0 - bor:Nat):Int)) oM oM ?_;(refine Zx ?_;with_reducible repeat' first|intro _|apply aI);refine a9r (r:=lg (a.getD i 0 - bor)) h3 (fun _=>E7 (.i _ _)) rfl (by simp;omega) oM fun t9 h9=>?_;(refine Zx ?_;with_reducible repeat' first|intro _|apply aI);refine ih (i+1) _ _ ?_ oM;exact ⟨t1,o1,t2,o2,t9,out.set i (a.getD i 0 - bor),0,by simp,by simp,h1,h2,by rw [List.map_set];simpa using h9,by simp [hol],a29 hLo _ _ (by show _ < 1000000000;omega),oM,oM,a35 oM he oM⟩)
 ·have em:i=a.length:=oM
  subst em
  refine f6 ht ⟨out,by show out.length < 20000;omega⟩ (r:=.sl 1 (u3 (k5 a - k5 b))) (by rw [← d4d hol hyx hxy hLo hbor he];show n6.ret (.sl 1 ((E3 out).map lg))=_;rw [a1a out hLo];rfl) (.k (.sl _ _ _ _ _ (by simp [hol]) h3) .nil) .nil fun _ _ _ _=>?_
  (refine Zx ?_;intros)
  exact g9 ⟨.ret _ _ (.sl _ _ _ _ _ (by simp [u3]) aS),.nil⟩
theorem e3l:j3 181 (f3r (fun x y=>y≤x) fun x y=>.ret (.sl 1 (u3 (x - y)))):=k7 (fun fn h=>e5j h) [(192,_)] (.cons b52 .nil) fun U fn hfn ⟨(x,y),hx,hy,hxy⟩ vs bs hv hb=>by
 have h:=e70 (U:=U) (hfn 192 _ rfl) (a:=k8 x) (b:=k8 y) hx (a89 hxy) (by rw [G0,G0];exact hxy) (N0 x) (N0 y) hv hb
 rw [G0,G0] at h;exact h
end
end Go.Proofs.YtdldcfllnohkeaaGreatDoor
