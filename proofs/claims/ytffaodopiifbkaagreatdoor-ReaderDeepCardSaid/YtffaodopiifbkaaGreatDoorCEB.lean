/- The program's reader: comments, blanks. -/
import Derived.Test.YtffaodopiifbkaaGreatDoorCEA
set_option linter.all false
namespace Go.Proofs.YtffaodopiifbkaaGreatDoor
open Go.Abs LQ
set_option maxRecDepth 100000
set_option maxHeartbeats 4000000
noncomputable section
abbrev O7 (e p:Int):t7:=.pan (.fl 122 e p)
theorem b2a:l6 51 { ι:=Int × Int,A:=fun p=>[.c (.i .i64 p.1),.c (.i .i64 p.2)],B:=fun _=>[],R:=fun p=>O7 p.1 p.2,B':=fun _=>[],inj:=fun i j vs bs h k _ _=>(by
  obtain ⟨_,_,h1,k1,h,k⟩:=h.two k
  obtain ⟨_,_,h2,k2,h,k⟩:=h.two k
  rw [K7 h1 k1,K7 h2 k2];exact ⟨rfl,rfl⟩) }:=o7 (fun fn h=>e6b h) [] .nil fun U fn hfn ⟨e,p⟩ vs bs hv hb=>by
 have hv:l8 [.c (.i .i64 e),.c (.i .i64 p)] vs:=hv
 have hb:RBs [] bs:=hb
 show j3 U _ fun v bs'=>l7 (O7 e p) v∧RBs [] bs'
 unfold r51
 (refine Zq ?_;intros)
 exact k9 ⟨.pan _ _ (.fl _ _ _ _ j7),.nil⟩
def f1b (ok:j0→Nat→Prop) (R:j0→Nat→t7) (b:j0→Nat→Nat):Sp where
 ι:={ p:ScI // ok p.1.1 p.1.2 }
 A _:=[.p 0 0]
 B p:=[G0 p.1.1.1 p.1.1.2]
 R p:=R p.1.1.1 p.1.1.2
 B' p:=[G0 p.1.1.1 (b p.1.1.1 p.1.1.2)]
 inj i j vs bs _ _ h k:=by
  have:=a45 (RBs.one_inj h k)
  rw [this.1,this.2];exact ⟨rfl,rfl⟩
theorem c9w {s:j0} {i:Nat} {a b:UInt8} (hi:i≤s.length):Q1 (s.drop i) [a,b]=has s i a.toNat b.toNat:=by
 unfold Q1 has
 by_cases h:i+1 < s.length
 ·have e:(s.drop i).take 2=[s[i],s[i+1]]:=by
   rw [List.drop_eq_getElem_cons oM,List.drop_eq_getElem_cons oM];rfl
  have b0:bt s i=s[i].toNat:=by unfold bt;simp [List.getD,List.getElem?_eq_getElem (show i < s.length by omega)]
  have b1:bt s (i+1)=s[i+1].toNat:=by unfold bt;simp [List.getD,List.getElem?_eq_getElem h]
  rw [Bool.eq_iff_iff,decide_eq_true_iff,decide_eq_true_iff,b0,b1]
  simp only [List.length_cons,List.length_nil,List.length_drop,e,List.cons.injEq,and_true]
  constructor
  ·rintro ⟨_,h1,h2⟩;rw [h1,h2];exact ⟨h,rfl,rfl⟩
  ·rintro ⟨_,h1,h2⟩
   exact ⟨oM,UInt8.toNat_inj.1 oM,UInt8.toNat_inj.1 oM⟩
 ·rw [Bool.eq_iff_iff,decide_eq_true_iff,decide_eq_true_iff]
  simp only [List.length_cons,List.length_nil,List.length_drop]
  constructor
  ·rintro ⟨h1,_⟩;omega
  ·rintro ⟨h1,_⟩;omega
theorem d1n:q8 2 31779=[35,124]:=dE
theorem e5u:q8 2 9084=[124,35]:=dE
theorem e70:q8 2 14906=[58,58]:=dE
def a7c (s:j0) (i:Nat):Option Nat:=y9 s (i+2) 1
def a7m (s:j0) (i:Nat):t7:=match a7c s i with
 | some _=>.ret (.t [])
 | none=>O7 11 s.length
def a82 (s:j0) (i:Nat):Nat:=(a7c s i).getD i
theorem e9w {s:j0} {j d:Nat} (h:j < s.length) (hh:has s j 35 124=true):y9 s j (d+1)=y9 s (j+2) (d+2):=by rw [y9,if_neg oM,if_pos h,if_pos hh]
theorem c70 {s:j0} {j d:Nat} (h:j < s.length) (hh:¬has s j 35 124=true) (h2:has s j 124 35=true):y9 s j (d+1)=y9 s (j+2) d:=by rw [y9,if_neg oM,if_pos h,if_neg hh,if_pos h2];rfl
theorem e6l {s:j0} {j d:Nat} (h:j < s.length) (hh:¬has s j 35 124=true) (h2:¬has s j 124 35=true):y9 s j (d+1)=y9 s (j+1) (d+1):=by rw [y9,if_neg oM,if_pos h,if_neg hh,if_neg h2]
theorem e1h {s:j0} {j d:Nat} (h:¬j < s.length):y9 s j (d+1)=none:=by rw [y9,if_neg oM,if_neg h]
theorem f2j (s:j0) (j:Nat):y9 s j 0=some j:=by rw [y9,if_pos rfl]
theorem d50:l6 161 (f1b (fun s i=>has s i 35 124=true) a7m a82):=o7 (fun fn h=>e0v h) [(135,_),(160,_),(51,_)] (.cons b51 (.cons b7l (.cons b2a .nil))) fun U fn hfn ⟨⟨(s,i),h1,h2⟩,h3⟩ vs bs hv hb=>by
 have hm:=hfn 135 _ rfl
 have hs:=hfn 160 _ rfl
 have hf:=hfn 51 _ rfl
 have hv:l8 [.p 0 0] vs:=hv
 have hb:RBs [[.s s,.i .i64 (i:Int)]] bs:=hb
 have h1:i≤s.length:=h1
 have h2:s.length < 90000:=h2
 have h3:has s i 35 124=true:=h3
 show j3 U _ fun v bs'=>l7 (a7m s i) v∧RBs [G0 s (a82 s i)] bs'
 unfold d64
 (refine Zq ?_;intros)
 have h4:=P9 h3
 refine C7 (fun (p:Nat × Nat) vs bs=>vs=[.ptr 0 0,.int .i64 (p.2:Int)]∧RBs [G0 s p.1] bs∧p.1≤s.length∧(p=(i,0)∨∃ d,p.2=d+1∧d≤p.1∧y9 s p.1 (d+1)=a7c s i)) (fun p=>s.length - p.1) (i,0) ⟨rfl,Z2 rfl,h1,.inl rfl⟩ (by simp only [x8];omega) ?_
 rintro self ⟨j,d⟩ vs bs ⟨rfl,hb,hj,hd⟩ ih
 have hb:RBs [[.s s,.i .i64 (j:Int)]] bs:=hb
 have hj:j≤s.length:=hj
 have hdj:d≤j+1:=by
  rcases hd with hd | ⟨d',hd,h,_⟩
  ·injection hd with _ hd;omega
  ·have hd:d=d'+1:=hd
   have h:d'≤j:=h
   omega
 (refine Zq ?_;intros)
 refine i6 hm ⟨(s,j),hj,h2⟩ (r:=.c (.b (decide (j < s.length)))) rfl j7 (RB.bx aS rfl) fun _ _ _ hb=>?_
 have hb:RBs [[.s s,.i .i64 (j:Int)]] _:=hb
 (refine Zq ?_;with_reducible repeat' first|intro _|apply aI)
 ·have hlt:j < s.length:=of_decide_eq_true ‹_›
  refine i6 hs ⟨⟨(s,j),hj,h2⟩,q8 2 31779⟩ (r:=.c (.b (Q1 (s.drop j) (q8 2 31779)))) rfl j7 (RB.bx aS rfl) fun _ _ hv hb=>?_
  have hb:RBs [[.s s,.i .i64 (j:Int)]] _:=hb
  rw [d1n,c9w hj] at hv
  (refine Zq ?_;with_reducible repeat' first|intro _|apply aI)
  ·have hh:has s j 35 124=true:=‹_›
   have hlt2:=P9 hh
   refine fun e=>ih (j+2,d+1) _ _ ⟨by simp,scQ e aS oM,by simp;omega,.inr ⟨d,rfl,by simp;omega,?_⟩⟩ (by simp;omega) e
   rcases hd with hd | ⟨d',hd,h,he⟩
   ·injection hd with h1 hd;subst h1 hd;rfl
   ·have hd:d=d'+1:=hd
    subst hd
    rw [← he];exact (e9w hlt hh).symm
  ·have hh:¬has s j 35 124=true:=‹_›
   refine i6 hs ⟨⟨(s,j),hj,h2⟩,q8 2 9084⟩ (r:=.c (.b (Q1 (s.drop j) (q8 2 9084)))) rfl j7 (RB.bx aS rfl) fun _ _ hv hb=>?_
   have hb:RBs [[.s s,.i .i64 (j:Int)]] _:=hb
   rw [e5u,c9w hj] at hv
   obtain ⟨d',hd,h,he⟩:∃ d',d=d'+1∧d'≤j∧y9 s j (d'+1)=a7c s i:=by
    rcases hd with hd | hd
    ·injection hd with h1 hd;subst h1;exact absurd h3 hh
    ·exact hd
   subst hd
   (refine Zq ?_;with_reducible repeat' first|intro _|apply aI)
   ·have hk:has s j 124 35=true:=‹_›
    have hlt2:=P9 hk
    have hz:d'=0:=oM
    subst hz
    have ho:a7c s i=some (j+2):=by rw [← he,c70 hlt hh hk,f2j]
    have e1:a7m s i=.ret (.t []):=by unfold a7m;rw [ho]
    have e2:a82 s i=j+2:=by unfold a82;rw [ho];rfl
    rw [e1,e2]
    exact I7 fun e=>⟨.ret _ _ (.t _ _ .nil),scQ e aS oM⟩
   ·have hk:has s j 124 35=true:=‹_›
    have hlt2:=P9 hk
    refine fun e=>ih (j+2,d') _ _ ⟨by simp,scQ e aS oM,by simp;omega,.inr ⟨d' - 1,by simp;omega,by simp;omega,?_⟩⟩ (by simp;omega) e
    rw [← he,c70 hlt hh hk,show d' - 1+1=d' by omega]
   ·have hk:¬has s j 124 35=true:=‹_›
    refine fun e=>ih (j+1,d'+1) _ _ ⟨by simp,scQ e aS oM,by simp;omega,.inr ⟨d',rfl,by simp;omega,?_⟩⟩ (by simp;omega) e
    rw [← he,e6l hlt hh hk]
 ·have hlt:¬j < s.length:=fun h=>‹¬decide (j < s.length)=true› (decide_eq_true h)
  obtain ⟨d',hd,h,he⟩:∃ d',d=d'+1∧d'≤j∧y9 s j (d'+1)=a7c s i:=by
   rcases hd with hd | hd
   ·injection hd with h1 hd;subst h1;omega
   ·exact hd
  have ho:a7c s i=none:=by rw [← he,e1h hlt]
  have e1:a7m s i=O7 11 s.length:=by unfold a7m;rw [ho]
  have e2:a82 s i=i:=by unfold a82;rw [ho];rfl
  rw [e1,e2]
  refine E4 hf (11,(s.length:Int)) (r:=.fl 122 11 s.length) rfl j7 .nil fun _ hv=>?_
  exact M6 hv (Z2 rfl)
def c10:Sp:=d8a .i32 (fun s r=>0≤r∧(r < 128∨r < 256∧s=q8 4 218761504)) fun s r=>.c (.b (decide (r < 128∧0≤Lib.indexByte s r.toNat.toUInt8)))
theorem d3o (c:Int) (h1:0≤c) (h2:c < 256):(decide (c < 128∧0≤Lib.indexByte (q8 4 218761504) c.toNat.toUInt8))=B6 c:=by
 obtain ⟨n,rfl⟩:∃ n:Nat,c=n:=⟨c.toNat,oM⟩
 rw [Int.toNat_natCast]
 have h3:n < 256:=oM
 have key:∀ n:Fin 256,(decide ((n.1:Int) < 128∧0≤Lib.indexByte (q8 4 218761504) n.1.toUInt8))=B6 n.1:=dE
 exact key ⟨n,h3⟩
def a1g (s:j0) (i:Nat):t7:=match LQ.skip s i with
 | some _=>.ret (.t [])
 | none=>O7 11 s.length
def a2u (s:j0) (i:Nat):Nat:=(LQ.skip s i).getD i
theorem c5z (s:j0) (i:Nat) (hi:i≤s.length):(D6 s i:Int)=i+(if Lib.indexByte (s.drop i) 10 < 0 then (s.length:Int) - i else Lib.indexByte (s.drop i) 10):=by
 generalize hm:s.length - i=m
 induction m generalizing i with
 | zero =>
  have:i=s.length:=oM
  subst this
  rw [D6,if_neg oM,List.drop_length]
  simp [Lib.indexByte]
 | succ m ih =>
  have hlt:i < s.length:=oM
  have b0:bt s i=s[i].toNat:=by unfold bt;simp [List.getD,List.getElem?_eq_getElem hlt]
  have hge:=(R6 (s.drop (i+1)) 10).2
  have ex:Lib.indexByte (s.drop i) 10=if s[i]=10 then 0 else if Lib.indexByte (s.drop (i+1)) 10=-1 then -1 else Lib.indexByte (s.drop (i+1)) 10+1:=by
   rw [List.drop_eq_getElem_cons hlt]
   simp only [Lib.indexByte,beq_iff_eq]
  rw [ex,D6,if_pos hlt]
  by_cases h:s[i]=10
  ·rw [if_pos (by rw [b0,h];rfl)];simp [h]
  ·have h':¬bt s i=10:=fun e=>h (UInt8.toNat_inj.1 (by rw [b0] at e;show s[i].toNat=10;omega))
   rw [if_neg h',ih (i+1) oM oM]
   simp only [h,if_false]
   generalize Lib.indexByte (s.drop (i+1)) 10=x at *
   by_cases hz:x=-1
   ·subst hz;simp;omega
   ·simp only [hz,if_false]
    rw [if_neg oM,if_neg oM];push_cast;omega
theorem f1t (hcr:l6 158 c10):l6 134 (d6n a1g a2u):=o7 (fun fn h=>e0o h) [(135,_),(158,_),(159,_),(160,_),(161,_)] (.cons b51 (.cons hcr (.cons d0j (.cons b7l (.cons d50 .nil))))) fun U fn hfn ⟨(s,i),h1,h2⟩ vs bs hv hb=>by
 have hm:=hfn 135 _ rfl
 have hc:=hfn 158 _ rfl
 have hx:=hfn 159 _ rfl
 have hs:=hfn 160 _ rfl
 have hk:=hfn 161 _ rfl
 have hv:l8 [.p 0 0] vs:=hv
 have hb:RBs [[.s s,.i .i64 (i:Int)]] bs:=hb
 have h1:i≤s.length:=h1
 have h2:s.length < 90000:=h2
 show j3 U _ fun v bs'=>l7 (a1g s i) v∧RBs [G0 s (a2u s i)] bs'
 unfold d4u
 (refine Zq ?_;intros)
 refine C7 (fun (j:Nat) vs bs=>vs=[.ptr 0 0]∧RBs [G0 s j] bs∧j≤s.length∧LQ.skip s j=LQ.skip s i) (fun j=>s.length - j) i ⟨rfl,Z2 rfl,h1,rfl⟩ (by simp only [x8];omega) ?_
 rintro self j vs bs ⟨rfl,hb,hj,he⟩ ih
 have hb:RBs [[.s s,.i .i64 (j:Int)]] bs:=hb
 have stop:∀ {x:Q},LQ.skip s j=some j→x4 [.s s,.i .i64 (j:Int)] x 0→j3 U (some (.ret (.tuple []),[.opa x 2])) fun v bs'=>l7 (a1g s i) v∧RBs [G0 s (a2u s i)] bs':=fun h hq=>by
  have ho:LQ.skip s i=some j:=by rw [← he,h]
  have e1:a1g s i=.ret (.t []):=by unfold a1g;rw [ho]
  have e2:a2u s i=j:=by unfold a2u;rw [ho];rfl
  rw [e1,e2]
  exact k9 ⟨.ret _ _ (.t _ _ .nil),RB.bx hq rfl⟩
 (refine Zq ?_;intros)
 refine i6 hm ⟨(s,j),hj,h2⟩ (r:=.c (.b (decide (j < s.length)))) rfl j7 (RB.bx aS rfl) fun _ _ _ hb=>?_
 have hb:RBs [[.s s,.i .i64 (j:Int)]] _:=hb
 (refine Zq ?_;with_reducible repeat' first|intro _|apply aI)
 ·have hlt:j < s.length:=of_decide_eq_true ‹_›
  have hbt:((s.getD j 0).toNat:Int)=bt s j:=rfl
  have hb0:=a6q s j
  have hb1:=c03 s j
  (refine Zq ?_;intros)
  refine d1w (m:=bt s j) rfl oM ?_
  refine i6 hc ⟨(q8 4 218761504,bt s j),hb0,.inr ⟨hb1,rfl⟩⟩ (r:=.c (.b (B6 (bt s j)))) (congrArg (fun b=>t7.ret (.c (.b b))) (d3o _ hb0 hb1)) j7 .nil fun _ _ _ _=>?_
  (refine Zq ?_;with_reducible repeat' first|intro _|apply aI)
  ·have hbl:B6 (bt s j)=true:=‹_›
   exact fun e=>ih (j+1) _ _ ⟨rfl,scQ e aS oM,oM,by rw [← b6q hlt hbl];exact he⟩ oM e
  ·have hbl:B6 (bt s j)=false:=by simpa using ‹¬B6 (bt s j)=true›
   have h59:bt s j=59:=‹_›
   rw [Int.toNat_natCast]
   refine i6 hx ⟨(s.drop j,10),oM,oM⟩ (r:=.c (.i .i64 (Lib.indexByte (s.drop j) 10))) rfl j7 .nil fun _ _ _ _=>?_
   have hi:=R6 (s.drop j) 10
   have hle:=c5z s j hj
   have hll:=a30 s j hj
   have hl2:=a9g s j hlt oM
   simp only [List.length_drop] at hi
   (refine Zq ?_;with_reducible repeat' first|intro _|apply aI)
   ·rw [if_pos ‹_›] at hle
    exact fun e=>ih (D6 s j) _ _ ⟨rfl,scQ e aS oM,oM,by rw [← b1m hlt hbl h59];exact he⟩ oM e
   ·rw [if_neg ‹_›] at hle
    exact fun e=>ih (D6 s j) _ _ ⟨rfl,scQ e aS oM,oM,by rw [← b1m hlt hbl h59];exact he⟩ oM e
  ·have hbl:B6 (bt s j)=false:=by simpa using ‹¬B6 (bt s j)=true›
   have h59:¬bt s j=59:=‹_›
   refine i6 hs ⟨⟨(s,j),hj,h2⟩,q8 2 31779⟩ (r:=.c (.b (Q1 (s.drop j) (q8 2 31779)))) rfl j7 (RB.bx aS rfl) fun _ _ hv hb=>?_
   have hb:RBs [[.s s,.i .i64 (j:Int)]] _:=hb
   rw [d1n,c9w hj] at hv
   (refine Zq ?_;with_reducible repeat' first|intro _|apply aI)
   ·have hh:has s j 35 124=true:=‹_›
    have hlt2:=P9 hh
    cases hcm:y9 s (j+2) 1 with
    | some k =>
     have hkl:=b1f s (j+2) 1 k oM hcm
     refine i6 hk ⟨⟨(s,j),hj,h2⟩,hh⟩ (r:=.t []) (by show a7m s j=_;unfold a7m a7c;rw [hcm]) j7 (RB.bx aS rfl) fun _ _ _ hb=>?_
     have hb:RBs [G0 s (a82 s j)] _:=hb
     have e2:a82 s j=k:=by unfold a82 a7c;rw [hcm];rfl
     rw [e2] at hb
     have hb:RBs [[.s s,.i .i64 (k:Int)]] _:=hb
     (refine Zq ?_;intros)
     exact fun e=>ih k _ _ ⟨rfl,RB.bx aS rfl,oM,by rw [← c12 hlt hbl h59 hh hcm];exact he⟩ oM e
    | none =>
     refine E4 hk ⟨⟨(s,j),hj,h2⟩,hh⟩ (r:=.fl 122 11 s.length) (by show a7m s j=_;unfold a7m a7c;rw [hcm]) j7 (RB.bx aS rfl) fun _ hv=>?_
     have ho:LQ.skip s i=none:=by rw [← he,b9g hlt hbl h59 hh hcm]
     have e1:a1g s i=O7 11 s.length:=by unfold a1g;rw [ho]
     have e2:a2u s i=i:=by unfold a2u;rw [ho];rfl
     rw [e1,e2]
     exact M6 hv (Z2 rfl)
   ·exact stop (b89 hlt hbl h59 (by simpa using ‹¬has s j 35 124=true›)) aS
 ·have hlt:¬j < s.length:=fun h=>‹¬decide (j < s.length)=true› (decide_eq_true h)
  exact stop (d72 hlt) aS
theorem b6t:q8 1 45=[45]:=dE
theorem U7 (s:j0):D3 s [45]=s.drop (j4 s):=by
 unfold D3 Q1 j4
 cases s with
 | nil=>simp
 | cons c s =>
  have hb:bt (c :: s) 0=c.toNat:=rfl
  by_cases h:c=45
  ·subst h;simp [hb]
  ·have h':¬(c.toNat:Int)=45:=fun e=>h (UInt8.toNat_inj.1 (by show c.toNat=45;omega))
   simp [h,hb,h']
theorem a2c (s:j0) (a k:Nat):bt (s.drop a) k=bt s (a+k):=by unfold bt;simp [List.getD]
theorem c5e (s:j0) (a k:Nat) (h:a+k≤s.length):m7 s (a+k)=a+m7 (s.drop a) k:=by
 generalize hm:s.length - (a+k)=m
 induction m generalizing k with
 | zero=>rw [m7,if_neg oM,m7,if_neg (by simp;omega)]
 | succ m ih =>
  have hb:bt (s.drop a) k=bt s (a+k):=a2c s a k
  rw [m7,if_pos oM]
  conv=>rhs;rw [m7,if_pos (by rw [List.length_drop];omega),hb]
  by_cases hc:P5 (bt s (a+k))=true
  ·rw [if_pos hc,if_pos hc];exact ih (k+1) oM oM
  ·rw [if_neg hc,if_neg hc]
theorem c7s:l6 193 (sp1 fun s=>.ret (.c (.b (z6 s)))):=o7 (fun fn h=>e3x h) [(184,_)] (.cons a0b .nil) fun U fn hfn ⟨s,hs⟩ vs bs hv hb=>by
 have hp:=hfn 184 _ rfl
 have hv:l8 [.c (.s s)] vs:=hv
 have hb:RBs [] bs:=hb
 show j3 U _ fun v bs'=>l7 (.ret (.c (.b (z6 s)))) v∧RBs [] bs'
 obtain ⟨d,hd⟩:∃ d,s.drop (j4 s)=d:=⟨_,rfl⟩
 unfold d7l
 (refine Zq ?_;intros)
 refine i6 hp ⟨(s,q8 1 45),trivial⟩ (r:=.c (.s d)) (by show t7.ret (.c (.s (D3 s (q8 1 45))))=_;rw [b6t,U7,hd]) j7 .nil fun _ _ _ _=>?_
 have hsl:=K5 s
 have hdl:d.length=s.length - j4 s:=by rw [← hd];simp
 have hb0:((d.getD 0 0).toNat:Int)=bt s (j4 s):=by rw [← hd];exact (a2c s (j4 s) 0).trans (by rw [Nat.add_zero])
 have hb0':((d.getD (Int.toNat 0) 0).toNat:Int)=bt s (j4 s):=hb0
 have zz:∀ b:Bool,z6 s=b→∀ x:Bool,(U=CU→x=b)→j3 U (some (.ret (.bool x),[])) fun v bs'=>l7 (.ret (.c (.b (z6 s)))) v∧RBs [] bs':=fun b h x hx=>I7 fun e=>⟨.ret _ _ (J3 (by rw [h,hx e])),.nil⟩
 have zs:(d=[]∨bt s (j4 s)=48)→∀ x:Bool,(U=CU→x=decide (s=q8 1 48))→j3 U (some (.ret (.bool x),[])) fun v bs'=>l7 (.ret (.c (.b (z6 s)))) v∧RBs [] bs':=fun h x hx=>by
  refine zz (decide (s=q8 1 48)) ?_ x hx
  have:¬(j4 s < s.length∧bt s (j4 s) ≠ 48):=by
   rcases h with h | h
   ·rw [h] at hdl;simp at hdl;omega
   ·exact fun k=>k.2 h
  unfold z6
  rw [decide_eq_false this,Bool.false_and,Bool.or_false];rfl
 (refine Zq ?_;with_reducible repeat' first|intro _|apply aI)
 ·exact zs (.inl ‹d=q8 0 0›) _ fun e=>by subst e;exact c2m s 1 48
 ·have hne:d ≠ []:=‹¬d=q8 0 0›
  have hpos:0 < d.length:=List.length_pos_iff.2 hne
  (refine Zq ?_;with_reducible repeat' first|intro _|apply aI)
  ·exact zs (.inr (hb0.symm.trans aS)) _ fun e=>by subst e;exact c2m s 1 48
  ·have h48:¬((d.getD 0 0).toNat:Int)=48:=aS
   have e0:z6 s=decide (m7 d 0=d.length):=by
    have hz:¬s=x6:=fun e=>h48 (by rw [hb0];subst e;decide)
    have h1:j4 s < s.length∧bt s (j4 s) ≠ 48:=⟨oM,oM⟩
    have h2:=c5e s (j4 s) 0 oM
    rw [Nat.add_zero,hd] at h2
    unfold z6
    rw [decide_eq_true h1,Bool.true_and,decide_eq_false hz,Bool.false_or]
    rw [Bool.eq_iff_iff,decide_eq_true_iff,decide_eq_true_iff];omega
   have hl:d.length < 90000:=by have:s.length < 90000:=hs;omega
   refine C7 (fun (i:Nat) vs bs=>vs=[.str d.length (m8 d),.int .i64 d.length,.int .i64 i]∧bs=[]∧i≤d.length∧m7 d i=m7 d 0) (fun i=>d.length - i) 0 ⟨rfl,rfl,oM,rfl⟩ (by simp only [x8];omega) ?_
   rintro self i vs bs ⟨rfl,rfl,hi,he⟩ ih
   (refine Zq ?_;with_reducible repeat' first|intro _|apply aI)
   ·exact k9 ⟨.ret _ _ (I8 (by rw [e0,← he,b60 (i:=i) oM oM];exact decide_eq_false oM)),.nil⟩
   ·exact k9 ⟨.ret _ _ (I8 (by rw [e0,← he,b60 (i:=i) oM oM];exact decide_eq_false oM)),.nil⟩
   ·exact ih (i+1) _ _ ⟨rfl,rfl,oM,by rw [← he,c2k (i:=i) oM ‹_› ‹_›]⟩ oM
   ·exact k9 ⟨.ret _ _ (I8 (by rw [e0,← he,b7d (i:=i) oM];exact decide_eq_true oM)),.nil⟩
theorem a6a:l6 176 (sp1 fun s=>.ret (.c (.s (J8 s)))):=o7 (fun fn h=>e3f h) [(193,_)] (.cons c7s .nil) fun U fn hfn ⟨s,hs⟩ vs bs hv hb=>by
 have hp:=hfn 193 _ rfl
 have hv:l8 [.c (.s s)] vs:=hv
 have hb:RBs [] bs:=hb
 show j3 U _ fun v bs'=>l7 (.ret (.c (.s (J8 s)))) v∧RBs [] bs'
 unfold d4f
 (refine Zq ?_;intros)
 refine i6 hp ⟨s,hs⟩ (r:=.c (.b (z6 s))) rfl j7 .nil fun _ _ _ _=>?_
 (refine Zq ?_;with_reducible repeat' first|intro _|apply aI)
 ·have e:J8 s=s:=by unfold J8;rw [if_pos ‹_›]
  rw [e];exact k9 ⟨.ret _ _ (.s _ _ _ rfl rfl),.nil⟩
 ·have e:J8 s=q8 1 48:=by unfold J8;rw [if_neg ‹_›];rfl
  rw [e];exact k9 ⟨.ret _ _ (.s _ _ _ rfl rfl),.nil⟩
theorem a88 (s:j0):(J8 s).length≤s.length∨(J8 s).length≤1:=by unfold J8;split;exact .inl (Nat.le_refl _);exact .inr dE
theorem c4q (s:j0):(J8 s).drop (j4 (J8 s))=j5 (i7 s).natAbs:=by
 rw [a02,a32]
 have h:=c5d (i7 s) (i7 s).natAbs []
 rw [List.append_nil] at h
 rw [h,List.drop_left]
theorem c4h:l6 167 (sp1 fun s=>.ret (.c (.i .i64 ((j5 (i7 s).natAbs).length:Nat)))):=o7 (fun fn h=>e0t h) [(176,_),(184,_)] (.cons a6a (.cons a0b .nil)) fun U fn hfn ⟨s,hs⟩ vs bs hv hb=>by
 have hp:=hfn 176 _ rfl
 have ht:=hfn 184 _ rfl
 have hv:l8 [.c (.s s)] vs:=hv
 have hb:RBs [] bs:=hb
 show j3 U _ fun v bs'=>l7 (.ret (.c (.i .i64 ((j5 (i7 s).natAbs).length:Nat)))) v∧RBs [] bs'
 unfold d6q
 (refine Zq ?_;intros)
 refine i6 hp ⟨s,hs⟩ (r:=.c (.s (J8 s))) rfl j7 .nil fun _ _ _ _=>?_
 (refine Zq ?_;intros)
 refine i6 ht ⟨(J8 s,q8 1 45),trivial⟩ (r:=.c (.s (j5 (i7 s).natAbs))) (by show t7.ret (.c (.s (D3 (J8 s) (q8 1 45))))=_;rw [b6t,U7,c4q]) j7 .nil fun _ _ _ _=>?_
 (refine Zq ?_;intros)
 exact k9 ⟨.ret _ _ (.i _ _),.nil⟩
def lg (d:Nat):List G:=[.i .u32 (d:Int)]
theorem e79 {a b:Nat} (h:lg a=lg b):a=b:=by simp only [lg,List.cons.injEq,G.i.injEq,and_true,true_and] at h;omega
theorem a29:∀ {l m:List Nat},l.map lg=m.map lg→l=m
 | [],[],_=>rfl
 | [],_ :: _,h=>by simp at h
 | _ :: _,[],h=>by simp at h
 | a :: l,b :: m,h=>by simp only [List.map_cons,List.cons.injEq] at h;exact congr (congrArg List.cons (e79 h.1)) (a29 h.2)
section
variable {U:t6} {P:E6→List Bx→Prop}
theorem b7h {l:List Nat} {t:j9 Q} {off:Nat} {i:Int} (n:Nat) {K:Q→Om} (ht:p5 1 (l.map lg) t off) (hn:i=n) (hi:n < l.length) (h:∀ x,x4 (lg (l.getD n 0)) x 0→j3 U (K x) P):j3 U (U.fQ (U.tQ t (U.nAdd off (U.iNat i))) K) P:=by
 subst hn
 refine b1r (y:=l.getD n 0) ht ?_ h
 rw [Int.toNat_natCast,List.getElem?_eq_getElem hi]
 simp [List.getD,List.getElem?_eq_getElem hi]
end
def spM (R:List Nat→t7):Sp where
 ι:={ l:List Nat // l.length < 20000 }
 A l:=[.sl 1 (l.1.map lg)]
 B _:=[]
 R l:=R l.1
 B' _:=[]
 inj i j vs bs h k _ _:=by
  obtain ⟨_,_,h1,k1,h,k⟩:=h.two k
  rw [a29 (h1.sl_inj k1)];exact ⟨rfl,rfl⟩
def e5b (ok:List Nat→List Nat→Prop) (R:List Nat→List Nat→t7):Sp where
 ι:={ p:List Nat × List Nat // p.1.length < 20000∧p.2.length < 20000∧ok p.1 p.2 }
 A p:=[.sl 1 (p.1.1.map lg),.sl 1 (p.1.2.map lg)]
 B _:=[]
 R p:=R p.1.1 p.1.2
 B' _:=[]
 inj i j vs bs h k _ _:=by
  obtain ⟨_,_,h1,k1,h,k⟩:=h.two k
  obtain ⟨_,_,h2,k2,h,k⟩:=h.two k
  rw [a29 (h1.sl_inj k1),a29 (h2.sl_inj k2)];exact ⟨rfl,rfl⟩
theorem b5i:l6 222 (spM fun l=>.ret (.sl 1 ((E0 l).map lg))):=o7 (fun fn h=>e3b h) [] .nil fun U fn hfn ⟨l,hs⟩ vs bs hv hb=>by
 have hv:l8 [.sl 1 (l.map lg)] vs:=hv
 have hb:RBs [] bs:=hb
 have hs:l.length < 20000:=hs
 show j3 U _ fun v bs'=>l7 (.ret (.sl 1 ((E0 l).map lg))) v∧RBs [] bs'
 unfold d4i
 (refine Zx ?_;intros)
 refine C7 (fun (m:Nat) vs bs=>∃ (t:j9 Q) (off:Nat),vs=[.slice t 1 off m .no]∧bs=[]∧p5 1 (l.map lg) t off∧m≤l.length∧Q4 l m=Q4 l l.length) (fun m=>m) l.length ⟨_,_,rfl,rfl,aS,oM,rfl⟩ (by simp only [x8];omega) ?_
 rintro self m _ _ ⟨t,off,rfl,rfl,ht,hm,he⟩ ih
 have fin:¬(0 < m∧l.getD (m - 1) 0=0)→j3 U (some (.ret (.slice t 1 off m .no),[])) fun v bs'=>l7 (.ret (.sl 1 ((E0 l).map lg))) v∧RBs [] bs':=fun h=>by
  have e:E0 l=l.take m:=by
   unfold E0
   rw [← he]
   cases m with
   | zero=>rfl
   | succ m=>rw [Q4,if_neg (fun k=>h ⟨oM,by simpa using k⟩)]
  rw [e,List.map_take]
  exact k9 ⟨.ret _ _ (.sl _ _ _ _ _ (by simp;omega) (ht.take m)),.nil⟩
 (refine Zx ?_;with_reducible repeat' first|intro _|apply aI)
 ·refine b7h (m - 1) aS oM oM fun _ _=>?_
  (refine Zx ?_;with_reducible repeat' first|intro _|apply aI)
  ·have h0:=‹((l.getD (m - 1) 0:Nat):Int)=0›
   simp only [Int.toNat_zero,Nat.add_zero,Nat.sub_zero]
   refine ih (m - 1) _ _ ⟨t,off,by rw [show ((m:Int) - 1).toNat=m - 1 by omega],rfl,ht,oM,?_⟩ oM
   obtain ⟨m,rfl⟩:∃ n,m=n+1:=⟨m - 1,oM⟩
   rw [← he,Q4,if_pos (by simpa using h0)];rfl
  ·exact fin fun h=>‹¬((l.getD (m - 1) 0:Nat):Int)=0› oM
 ·exact fin fun h=>oM
theorem b6v:l6 223 (e5b (fun _ _=>True) fun a b=>.ret (.c (.i .i64 (P0 a b)))):=o7 (fun fn h=>d95 h) [] .nil fun U fn hfn ⟨(a,b),ha,hbl,_⟩ vs bs hv hb=>by
 have ha:a.length < 20000:=ha
 have hbl:b.length < 20000:=hbl
 have hv:l8 [.sl 1 (a.map lg),.sl 1 (b.map lg)] vs:=hv
 have hb:RBs [] bs:=hb
 show j3 U _ fun v bs'=>l7 (.ret (.c (.i .i64 (P0 a b)))) v∧RBs [] bs'
 unfold d7w
 (refine Zx ?_;with_reducible repeat' first|intro _|apply aI)
 ·have hl:a.length=b.length:=oM
  have e:P0 a b=F0 a b a.length:=by unfold P0;rw [if_pos hl]
  rw [e]
  refine C7 (fun (m:Nat) vs bs=>∃ (t:j9 Q) (off:Nat) (t':j9 Q) (off':Nat) (i:Int),vs=[.slice t 1 off a.length .no,.slice t' 1 off' b.length .no,.int .i64 i]∧bs=[]∧i=m - 1∧p5 1 (a.map lg) t off∧p5 1 (b.map lg) t' off'∧m≤a.length∧F0 a b m=F0 a b a.length) (fun m=>m) a.length ⟨_,_,_,_,_,rfl,rfl,rfl,aS,aS,oM,rfl⟩ (by simp only [x8];omega) ?_
  rintro self m _ _ ⟨t,off,t',off',i,rfl,rfl,rfl,ht,ht',hm,he⟩ ih
  (refine Zx ?_;with_reducible repeat' first|intro _|apply aI)
  ·refine b7h (m - 1) aS oM oM fun _ _=>?_
   (refine Zx ?_;intros)
   refine b7h (m - 1) aS oM oM fun _ _=>?_
   (refine Zx ?_;with_reducible repeat' first|intro _|apply aI)
   ·refine ih (m - 1) _ _ ?_ oM
    obtain ⟨m,rfl⟩:∃ n,m=n+1:=⟨m - 1,oM⟩
    exact ⟨_,_,_,_,_,rfl,rfl,oM,ht,ht',oM,by rw [← he,Nat.add_sub_cancel];conv=>rhs;rw [F0,if_neg (by simp only [Nat.add_sub_cancel] at *;omega),if_neg (by simp only [Nat.add_sub_cancel] at *;omega)]⟩
   ·refine b7h (m - 1) aS oM oM fun _ _=>?_
    (refine Zx ?_;intros)
    refine b7h (m - 1) aS oM oM fun _ _=>?_
    (refine Zx ?_;with_reducible repeat' first|intro _|apply aI)
    ·obtain ⟨m,rfl⟩:∃ n,m=n+1:=⟨m - 1,oM⟩
     exact k9 ⟨.ret _ _ (S7 (by rw [← he,F0,if_pos (by simp only [Nat.add_sub_cancel] at *;omega)])),.nil⟩
    ·obtain ⟨m,rfl⟩:∃ n,m=n+1:=⟨m - 1,oM⟩
     exact k9 ⟨.ret _ _ (S7 (by rw [← he,F0,if_neg (by simp only [Nat.add_sub_cancel] at *;omega),if_pos (by simp only [Nat.add_sub_cancel] at *;omega)])),.nil⟩
  ·have em:m=0:=oM
   subst em
   exact k9 ⟨.ret _ _ (S7 (by rw [← he];rfl)),.nil⟩
 ·exact k9 ⟨.ret _ _ (S7 (by unfold P0;rw [if_neg oM,if_pos oM])),.nil⟩
 ·exact k9 ⟨.ret _ _ (S7 (by unfold P0;rw [if_neg oM,if_neg oM])),.nil⟩
section
variable {U:t6} {P:E6→List Bx→Prop}
theorem e8h {e:Int} (h1:0≤e) (h2:e < 4294967296):wr .u32 e=e:=by
 rw [a1j];show e % 4294967296=e;omega
theorem b5w {e:Int} (h1:0≤e) (h2:e < 18446744073709551616):wr .u64 e=e:=by
 rw [a1j];show e % 18446744073709551616=e;omega
theorem a4n {e m:Int} {K:Int→Om} (he:e=m) (hr:0≤m∧m < 4294967296) (h:j3 U (K m) P):j3 U (U.fI (U.wr .u32 e) K) P:=fun e'=>by
 have:=h e';subst e' he;rw [V7]
 show ∃ v bs,K (wr .u32 e)=some (v,bs)∧P v bs
 rw [e8h hr.1 hr.2];exact this
theorem c0z {e m:Int} {K:Int→Om} (he:e=m) (hr:0≤m∧m < 18446744073709551616) (h:j3 U (K m) P):j3 U (U.fI (U.wr .u64 e) K) P:=fun e'=>by
 have:=h e';subst e' he;rw [V7]
 show ∃ v bs,K (wr .u64 e)=some (v,bs)∧P v bs
 rw [b5w hr.1 hr.2];exact this
end
def w9 (n:Nat):List (List G):=(n8 n).map lg
theorem a8f {a b:Nat} (h:w9 a=w9 b):a=b:=b7o (a29 h)
def e4r (ok:Nat→Nat→Prop) (R:Nat→Nat→t7):Sp where
 ι:={ p:Nat × Nat // (n8 p.1).length < 20000∧(n8 p.2).length < 20000∧ok p.1 p.2 }
 A p:=[.sl 1 (w9 p.1.1),.sl 1 (w9 p.1.2)]
 B _:=[]
 R p:=R p.1.1 p.1.2
 B' _:=[]
 inj i j vs bs h k _ _:=by
  obtain ⟨_,_,h1,k1,h,k⟩:=h.two k
  obtain ⟨_,_,h2,k2,h,k⟩:=h.two k
  rw [a8f (h1.sl_inj k1),a8f (h2.sl_inj k2)];exact ⟨rfl,rfl⟩
theorem L2 (l:List Nat) (i:Nat):n6 (l.take (i+1))=n6 (l.take i)+B9 ^ i * l.getD i 0:=by
 rcases Nat.lt_or_ge i l.length with h | h
 ·exact b77 l i h
 ·rw [List.take_of_length_le h,List.take_of_length_le oM];simp [List.getD,List.getElem?_eq_none h]
theorem d31 (l:List Nat) (i x:Nat):(l.set i x).take i=l.take i:=by
 rw [List.take_set_of_le (Nat.le_refl _)]
theorem a9s {x y:Nat} (h:y≤x):(n8 y).length≤(n8 x).length:=by
 have h1:=V2 (n8 x) (L7 x)
 rw [F2] at h1
 exact a8e oM
theorem b4s (n:Nat):LQ.LB (List.replicate n 0):=fun d h=>by rw [List.eq_of_mem_replicate h];decide
theorem c0l {l:List Nat} {i x:Nat} (h:i < l.length):(l.set i x).getD i 0=x:=by simp [List.getD,List.getElem?_set,h]
theorem a4a {a b out:List Nat} {i bor bor' x:Nat} (hi:i < out.length) (he:n6 (a.take i)+B9 ^ i * bor=n6 (out.take i)+n6 (b.take i)) (hx:a.getD i 0+1000000000 * bor'=x+b.getD i 0+bor) :
  n6 (a.take (i+1))+B9 ^ (i+1) * bor'=n6 ((out.set i x).take (i+1))+n6 (b.take (i+1)):=by
 rw [L2 a,L2 b,L2 (out.set i x),d31,c0l hi,Nat.pow_succ,Nat.mul_assoc]
 have h:=congrArg (B9 ^ i * ·) hx
 rw [show (1000000000:Nat)=B9 from rfl] at h
 simp only [Nat.mul_add] at h
 omega
theorem gD {l:List Nat} {i:Nat} (h:i < l.length):l[i]=l.getD i 0:=by simp only [List.getD,List.getElem?_eq_getElem h,Option.getD_some]
theorem gD0 {l:List Nat} {i:Nat} (h:l.length≤i):l.getD i 0=0:=by simp only [List.getD,List.getElem?_eq_none h,Option.getD_none]
theorem d2t {a b out:List Nat} {bor:Nat} (hol:out.length=a.length) (hyx:b.length≤a.length) (hxy:n6 b≤n6 a) (hLo:LQ.LB out) (hb:bor≤1) (he:n6 (a.take a.length)+B9 ^ a.length * bor=n6 (out.take a.length)+n6 (b.take a.length)):n6 out=n6 a - n6 b:=by
 rw [List.take_of_length_le (Nat.le_refl _),List.take_of_length_le oM,List.take_of_length_le oM] at he
 have h:=V2 out hLo
 rw [hol] at h
 rcases Nat.lt_or_ge bor 1 with h1 | h1
 ·have:bor=0:=oM
  subst this;omega
 ·have:bor=1:=oM
  subst this;omega
theorem e7a {U:t6} {fn:FF} {vs:List V} {bs:List Bx} (ht:Ans fn 222 (spM fun l=>.ret (.sl 1 ((E0 l).map lg)))) {a b:List Nat} (hx:a.length < 20000) (hyx:b.length≤a.length) (hxy:n6 b≤n6 a) (hLa:LQ.LB a) (hLb:LQ.LB b) (hv:l8 [.sl 1 (a.map lg),.sl 1 (b.map lg)] vs) (hb:RBs [] bs) :
  j3 U (c9v U fn vs bs) fun v bs'=>l7 (.ret (.sl 1 (w9 (n6 a - n6 b)))) v∧RBs [] bs':=by
 unfold c9v
 (refine Zx ?_;intros)
 refine sZT (n:=1) (r:=lg 0) (fun _=>G7 (.i _ _)) rfl oM fun t' ht'=>?_
 (refine Zx ?_;intros)
 refine C7 (fun (i:Nat) vs bs=>∃ (t1:j9 Q) (o1:Nat) (t2:j9 Q) (o2:Nat) (t3:j9 Q) (out:List Nat) (bor:Nat),vs=[.slice t1 1 o1 a.length .no,.slice t2 1 o2 b.length .no,.bslice 0 a.length,.int .i64 bor,.int .i64 a.length,.int .i64 i]∧bs=[.row t3 a.length]∧p5 1 (a.map lg) t1 o1∧p5 1 (b.map lg) t2 o2∧p5 1 (out.map lg) t3 0∧out.length=a.length∧LQ.LB out∧i≤a.length∧bor≤1∧n6 (a.take i)+B9 ^ i * bor=n6 (out.take i)+n6 (b.take i)) (fun i=>a.length - i) 0 ?_ (by simp only [x8];omega) ?_
 ·exact ⟨_,_,_,_,t',List.replicate a.length 0,0,by simp only [Int.toNat_natCast];rfl,by simp,aS,aS,by simpa [List.map_replicate] using ht',by simp,b4s _,oM,oM,by simp [n6]⟩
 rintro self i _ _ ⟨t1,o1,t2,o2,t3,out,bor,rfl,rfl,h1,h2,h3,hol,hLo,hi,hbor,he⟩ ih
 (refine Zx ?_;with_reducible repeat' first|intro _|apply aI)
 ·have q1:a.getD i 0 < 1000000000:=a41 hLa i
  have q2:b.getD i 0 < 1000000000:=a41 hLb i
  rw [gD (l:=a) oM]
  refine b0q rfl oM ?_
  (refine Zx ?_;with_reducible repeat' first|intro _|apply aI)
  ·rw [gD (l:=b) oM]
   refine b0q rfl oM ?_
   (refine Zx ?_;with_reducible repeat' first|intro _|apply aI)
   ·(refine a4n (m:=((a.getD i 0+1000000000 - bor - b.getD i 0:Nat):Int)) oM oM ?_;(refine Zx ?_;with_reducible repeat' first|intro _|apply aI);refine a8q (r:=lg (a.getD i 0+1000000000 - bor - b.getD i 0)) h3 (fun _=>G7 (.i _ _)) rfl (by simp;omega) oM fun t9 h9=>?_;(refine Zx ?_;with_reducible repeat' first|intro _|apply aI);refine ih (i+1) _ _ ?_ oM;exact ⟨t1,o1,t2,o2,t9,out.set i (a.getD i 0+1000000000 - bor - b.getD i 0),1,by simp,by simp,h1,h2,by rw [List.map_set];simpa using h9,by simp [hol],a3j hLo _ _ (by show _ < 1000000000;omega),oM,oM,a4a oM he oM⟩)
   ·(refine a4n (m:=((a.getD i 0 - bor - b.getD i 0:Nat):Int)) oM oM ?_;(refine Zx ?_;with_reducible repeat' first|intro _|apply aI);refine a8q (r:=lg (a.getD i 0 - bor - b.getD i 0)) h3 (fun _=>G7 (.i _ _)) rfl (by simp;omega) oM fun t9 h9=>?_;(refine Zx ?_;with_reducible repeat' first|intro _|apply aI);refine ih (i+1) _ _ ?_ oM;exact ⟨t1,o1,t2,o2,t9,out.set i (a.getD i 0 - bor - b.getD i 0),0,by simp,by simp,h1,h2,by rw [List.map_set];simpa using h9,by simp [hol],a3j hLo _ _ (by show _ < 1000000000;omega),oM,oM,a4a oM he oM⟩)
  ·have e2:b.getD i 0=0:=gD0 oM
   (refine a4n (m:=((a.getD i 0+1000000000 - bor:Nat):Int)) oM oM ?_;(refine Zx ?_;with_reducible repeat' first|intro _|apply aI);refine a8q (r:=lg (a.getD i 0+1000000000 - bor)) h3 (fun _=>G7 (.i _ _)) rfl (by simp;omega) oM fun t9 h9=>?_;(refine Zx ?_;with_reducible repeat' first|intro _|apply aI);refine ih (i+1) _ _ ?_ oM;exact ⟨t1,o1,t2,o2,t9,out.set i (a.getD i 0+1000000000 - bor),1,by simp,by simp,h1,h2,by rw [List.map_set];simpa using h9,by simp [hol],a3j hLo _ _ (by show _ < 1000000000;omega),oM,oM,a4a oM he oM⟩)
  ·have e2:b.getD i 0=0:=gD0 oM
   (refine a4n (m:=((a.getD i 0 - bor:Nat):Int)) oM oM ?_;(refine Zx ?_;with_reducible repeat' first|intro _|apply aI);refine a8q (r:=lg (a.getD i 0 - bor)) h3 (fun _=>G7 (.i _ _)) rfl (by simp;omega) oM fun t9 h9=>?_;(refine Zx ?_;with_reducible repeat' first|intro _|apply aI);refine ih (i+1) _ _ ?_ oM;exact ⟨t1,o1,t2,o2,t9,out.set i (a.getD i 0 - bor),0,by simp,by simp,h1,h2,by rw [List.map_set];simpa using h9,by simp [hol],a3j hLo _ _ (by show _ < 1000000000;omega),oM,oM,a4a oM he oM⟩)
 ·have em:i=a.length:=oM
  subst em
  refine i6 ht ⟨out,by show out.length < 20000;omega⟩ (r:=.sl 1 (w9 (n6 a - n6 b))) (by rw [← d2t hol hyx hxy hLo hbor he];show t7.ret (.sl 1 ((E0 out).map lg))=_;rw [a03 out hLo];rfl) (.k (.sl _ _ _ _ _ (by simp [hol]) h3) .nil) .nil fun _ _ _ _=>?_
  (refine Zx ?_;intros)
  exact k9 ⟨.ret _ _ (.sl _ _ _ _ _ (by simp [w9]) aS),.nil⟩
theorem e1n:l6 205 (e4r (fun x y=>y≤x) fun x y=>.ret (.sl 1 (w9 (x - y)))):=o7 (fun fn h=>e2n h) [(222,_)] (.cons b5i .nil) fun U fn hfn ⟨(x,y),hx,hy,hxy⟩ vs bs hv hb=>by
 have h:=e7a (U:=U) (hfn 222 _ rfl) (a:=n8 x) (b:=n8 y) hx (a9s hxy) (by rw [F2,F2];exact hxy) (L7 x) (L7 y) hv hb
 rw [F2,F2] at h;exact h
end
end Go.Proofs.YtffaodopiifbkaaGreatDoor
