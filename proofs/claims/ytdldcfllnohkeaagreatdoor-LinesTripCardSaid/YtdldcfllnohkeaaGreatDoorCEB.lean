/- The program's reader: comments, blanks. -/
import Derived.Test.YtdldcfllnohkeaaGreatDoorCEA
set_option linter.all false
namespace Go.Proofs.YtdldcfllnohkeaaGreatDoor
open Go.Abs LQ
set_option maxRecDepth 100000
set_option maxHeartbeats 4000000
noncomputable section
abbrev T3 (e p:Int):r7:=.pan (.fl 107 e p)
theorem b39:k9 45 { ι:=Int × Int,A:=fun p=>[.c (.i .i64 p.1),.c (.i .i64 p.2)],B:=fun _=>[],R:=fun p=>T3 p.1 p.2,B':=fun _=>[],inj:=fun i j vs bs h k _ _=>(by
  obtain ⟨_,_,h1,k1,h,k⟩:=h.two k
  obtain ⟨_,_,h2,k2,h,k⟩:=h.two k
  rw [a2v h1 k1,a2v h2 k2];exact ⟨rfl,rfl⟩) }:=n9 (fun fn h=>f3w h) [] .nil fun U fn hfn ⟨e,p⟩ vs bs hv hb=>by
 have hv:l7 [.c (.i .i64 e),.c (.i .i64 p)] vs:=hv
 have hb:RBs [] bs:=hb
 show j5 U _ fun v bs'=>l8 (T3 e p) v∧RBs [] bs'
 unfold r45
 (refine Zq ?_;intros)
 exact j9 ⟨.pan _ _ (.fl _ _ _ _ l5),.nil⟩
def f9u (ok:i6→Nat→Prop) (R:i6→Nat→r7) (b:i6→Nat→Nat):Sp where
 ι:={ p:ScI // ok p.1.1 p.1.2 }
 A _:=[.p 0 0]
 B p:=[J4 p.1.1.1 p.1.1.2]
 R p:=R p.1.1.1 p.1.1.2
 B' p:=[J4 p.1.1.1 (b p.1.1.1 p.1.1.2)]
 inj i j vs bs _ _ h k:=by
  have:=a6t (RBs.one_inj h k)
  rw [this.1,this.2];exact ⟨rfl,rfl⟩
theorem d4q {s:i6} {i:Nat} {a b:UInt8} (hi:i≤s.length):V1 (s.drop i) [a,b]=has s i a.toNat b.toNat:=by
 unfold V1 has
 by_cases h:i+1 < s.length
 ·have e:(s.drop i).take 2=[s[i],s[i+1]]:=by
   rw [List.drop_eq_getElem_cons oM,List.drop_eq_getElem_cons oM];rfl
  have b0:bt s i=s[i].toNat:=by unfold bt;simp [List.getD,List.getElem?_eq_getElem (show i < s.length by omega)]
  have b1:bt s (i+1)=s[i+1].toNat:=by unfold bt;simp [List.getD,List.getElem?_eq_getElem h]
  rw [Bool.eq_iff_iff,decide_eq_true_iff,decide_eq_true_iff,b0,b1]
  simp only [List.length_cons,List.length_nil,List.length_drop,e,List.cons.injEq,and_true]
  constructor
  ·rintro ⟨_,h1,h2⟩;rw [h1,h2];exact ⟨h,rfl,rfl⟩
  ·rintro ⟨_,h1,h2⟩
   exact ⟨oM,UInt8.toNat_inj.1 oM,UInt8.toNat_inj.1 oM⟩
 ·rw [Bool.eq_iff_iff,decide_eq_true_iff,decide_eq_true_iff]
  simp only [List.length_cons,List.length_nil,List.length_drop]
  constructor
  ·rintro ⟨h1,_⟩;omega
  ·rintro ⟨h1,_⟩;omega
theorem d6b:m8 2 31779=[35,124]:=dE
theorem f0l:m8 2 9084=[124,35]:=dE
theorem f0m:m8 2 14906=[58,58]:=dE
def a8y (s:i6) (i:Nat):Option Nat:=F7 s (i+2) 1
def a8z (s:i6) (i:Nat):r7:=match a8y s i with
 | some _=>.ret (.t [])
 | none=>T3 11 s.length
def b0l (s:i6) (i:Nat):Nat:=(a8y s i).getD i
theorem f0j {s:i6} {j d:Nat} (h:j < s.length) (hh:has s j 35 124=true):F7 s j (d+1)=F7 s (j+2) (d+2):=by rw [F7,if_neg oM,if_pos h,if_pos hh]
theorem d0r {s:i6} {j d:Nat} (h:j < s.length) (hh:¬has s j 35 124=true) (h2:has s j 124 35=true):F7 s j (d+1)=F7 s (j+2) d:=by rw [F7,if_neg oM,if_pos h,if_neg hh,if_pos h2];rfl
theorem f0k {s:i6} {j d:Nat} (h:j < s.length) (hh:¬has s j 35 124=true) (h2:¬has s j 124 35=true):F7 s j (d+1)=F7 s (j+1) (d+1):=by rw [F7,if_neg oM,if_pos h,if_neg hh,if_neg h2]
theorem e55 {s:i6} {j d:Nat} (h:¬j < s.length):F7 s j (d+1)=none:=by rw [F7,if_neg oM,if_neg h]
theorem f8o (s:i6) (j:Nat):F7 s j 0=some j:=by rw [F7,if_pos rfl]
theorem e0g:k9 135 (f9u (fun s i=>has s i 35 124=true) a8z b0l):=n9 (fun fn h=>e8d h) [(108,_),(134,_),(45,_)] (.cons b71 (.cons c0j (.cons b39 .nil))) fun U fn hfn ⟨⟨(s,i),h1,h2⟩,h3⟩ vs bs hv hb=>by
 have hm:=hfn 108 _ rfl
 have hs:=hfn 134 _ rfl
 have hf:=hfn 45 _ rfl
 have hv:l7 [.p 0 0] vs:=hv
 have hb:RBs [[.s s,.i .i64 (i:Int)]] bs:=hb
 have h1:i≤s.length:=h1
 have h2:s.length < 90000:=h2
 have h3:has s i 35 124=true:=h3
 show j5 U _ fun v bs'=>l8 (a8z s i) v∧RBs [J4 s (b0l s i)] bs'
 unfold e2b
 (refine Zq ?_;intros)
 have h4:=a0p h3
 refine H2 (fun (p:Nat × Nat) vs bs=>vs=[.ptr 0 0,.int .i64 (p.2:Int)]∧RBs [J4 s p.1] bs∧p.1≤s.length∧(p=(i,0)∨∃ d,p.2=d+1∧d≤p.1∧F7 s p.1 (d+1)=a8y s i)) (fun p=>s.length - p.1) (i,0) ⟨rfl,scC rfl,h1,.inl rfl⟩ (by simp only [C4];omega) ?_
 rintro self ⟨j,d⟩ vs bs ⟨rfl,hb,hj,hd⟩ ih
 have hb:RBs [[.s s,.i .i64 (j:Int)]] bs:=hb
 have hj:j≤s.length:=hj
 have hdj:d≤j+1:=by
  rcases hd with hd | ⟨d',hd,h,_⟩
  ·injection hd with _ hd;omega
  ·have hd:d=d'+1:=hd
   have h:d'≤j:=h
   omega
 (refine Zq ?_;intros)
 refine j4 hm ⟨(s,j),hj,h2⟩ (r:=.c (.b (decide (j < s.length)))) rfl l5 (RB.bx aS rfl) fun _ _ _ hb=>?_
 have hb:RBs [[.s s,.i .i64 (j:Int)]] _:=hb
 (refine Zq ?_;with_reducible repeat' first|intro _|apply aI)
 ·have hlt:j < s.length:=of_decide_eq_true ‹_›
  refine j4 hs ⟨⟨(s,j),hj,h2⟩,m8 2 31779⟩ (r:=.c (.b (V1 (s.drop j) (m8 2 31779)))) rfl l5 (RB.bx aS rfl) fun _ _ hv hb=>?_
  have hb:RBs [[.s s,.i .i64 (j:Int)]] _:=hb
  rw [d6b,d4q hj] at hv
  (refine Zq ?_;with_reducible repeat' first|intro _|apply aI)
  ·have hh:has s j 35 124=true:=‹_›
   have hlt2:=a0p hh
   refine fun e=>ih (j+2,d+1) _ _ ⟨by simp,scQ e aS oM,by simp;omega,.inr ⟨d,rfl,by simp;omega,?_⟩⟩ (by simp;omega) e
   rcases hd with hd | ⟨d',hd,h,he⟩
   ·injection hd with h1 hd;subst h1 hd;rfl
   ·have hd:d=d'+1:=hd
    subst hd
    rw [← he];exact (f0j hlt hh).symm
  ·have hh:¬has s j 35 124=true:=‹_›
   refine j4 hs ⟨⟨(s,j),hj,h2⟩,m8 2 9084⟩ (r:=.c (.b (V1 (s.drop j) (m8 2 9084)))) rfl l5 (RB.bx aS rfl) fun _ _ hv hb=>?_
   have hb:RBs [[.s s,.i .i64 (j:Int)]] _:=hb
   rw [f0l,d4q hj] at hv
   obtain ⟨d',hd,h,he⟩:∃ d',d=d'+1∧d'≤j∧F7 s j (d'+1)=a8y s i:=by
    rcases hd with hd | hd
    ·injection hd with h1 hd;subst h1;exact absurd h3 hh
    ·exact hd
   subst hd
   (refine Zq ?_;with_reducible repeat' first|intro _|apply aI)
   ·have hk:has s j 124 35=true:=‹_›
    have hlt2:=a0p hk
    have hz:d'=0:=oM
    subst hz
    have ho:a8y s i=some (j+2):=by rw [← he,d0r hlt hh hk,f8o]
    have e1:a8z s i=.ret (.t []):=by unfold a8z;rw [ho]
    have e2:b0l s i=j+2:=by unfold b0l;rw [ho];rfl
    rw [e1,e2]
    exact J3 fun e=>⟨.ret _ _ (.t _ _ .nil),scQ e aS oM⟩
   ·have hk:has s j 124 35=true:=‹_›
    have hlt2:=a0p hk
    refine fun e=>ih (j+2,d') _ _ ⟨by simp,scQ e aS oM,by simp;omega,.inr ⟨d' - 1,by simp;omega,by simp;omega,?_⟩⟩ (by simp;omega) e
    rw [← he,d0r hlt hh hk,show d' - 1+1=d' by omega]
   ·have hk:¬has s j 124 35=true:=‹_›
    refine fun e=>ih (j+1,d'+1) _ _ ⟨by simp,scQ e aS oM,by simp;omega,.inr ⟨d',rfl,by simp;omega,?_⟩⟩ (by simp;omega) e
    rw [← he,f0k hlt hh hk]
 ·have hlt:¬j < s.length:=fun h=>‹¬decide (j < s.length)=true› (decide_eq_true h)
  obtain ⟨d',hd,h,he⟩:∃ d',d=d'+1∧d'≤j∧F7 s j (d'+1)=a8y s i:=by
   rcases hd with hd | hd
   ·injection hd with h1 hd;subst h1;omega
   ·exact hd
  have ho:a8y s i=none:=by rw [← he,e55 hlt]
  have e1:a8z s i=T3 11 s.length:=by unfold a8z;rw [ho]
  have e2:b0l s i=i:=by unfold b0l;rw [ho];rfl
  rw [e1,e2]
  refine G6 hf (11,(s.length:Int)) (r:=.fl 107 11 s.length) rfl l5 .nil fun _ hv=>?_
  exact R0 hv (scC rfl)
def c8h:Sp:=e3g .i32 (fun s r=>0≤r∧(r < 128∨r < 256∧s=m8 4 218761504)) fun s r=>.c (.b (decide (r < 128∧0≤Lib.indexByte s r.toNat.toUInt8)))
theorem d5t (c:Int) (h1:0≤c) (h2:c < 256):(decide (c < 128∧0≤Lib.indexByte (m8 4 218761504) c.toNat.toUInt8))=G9 c:=by
 obtain ⟨n,rfl⟩:∃ n:Nat,c=n:=⟨c.toNat,oM⟩
 rw [Int.toNat_natCast]
 have h3:n < 256:=oM
 have key:∀ n:Fin 256,(decide ((n.1:Int) < 128∧0≤Lib.indexByte (m8 4 218761504) n.1.toUInt8))=G9 n.1:=dE
 exact key ⟨n,h3⟩
def a3c (s:i6) (i:Nat):r7:=match LQ.skip s i with
 | some _=>.ret (.t [])
 | none=>T3 11 s.length
def a4n (s:i6) (i:Nat):Nat:=(LQ.skip s i).getD i
theorem c9i (s:i6) (i:Nat) (hi:i≤s.length):(P4 s i:Int)=i+(if Lib.indexByte (s.drop i) 10 < 0 then (s.length:Int) - i else Lib.indexByte (s.drop i) 10):=by
 generalize hm:s.length - i=m
 induction m generalizing i with
 | zero =>
  have:i=s.length:=oM
  subst this
  rw [P4,if_neg oM,List.drop_length]
  simp [Lib.indexByte]
 | succ m ih =>
  have hlt:i < s.length:=oM
  have b0:bt s i=s[i].toNat:=by unfold bt;simp [List.getD,List.getElem?_eq_getElem hlt]
  have hge:=(W6 (s.drop (i+1)) 10).2
  have ex:Lib.indexByte (s.drop i) 10=if s[i]=10 then 0 else if Lib.indexByte (s.drop (i+1)) 10=-1 then -1 else Lib.indexByte (s.drop (i+1)) 10+1:=by
   rw [List.drop_eq_getElem_cons hlt]
   simp only [Lib.indexByte,beq_iff_eq]
  rw [ex,P4,if_pos hlt]
  by_cases h:s[i]=10
  ·rw [if_pos (by rw [b0,h];rfl)];simp [h]
  ·have h':¬bt s i=10:=fun e=>h (UInt8.toNat_inj.1 (by rw [b0] at e;show s[i].toNat=10;omega))
   rw [if_neg h',ih (i+1) oM oM]
   simp only [h,if_false]
   generalize Lib.indexByte (s.drop (i+1)) 10=x at *
   by_cases hz:x=-1
   ·subst hz;simp;omega
   ·simp only [hz,if_false]
    rw [if_neg oM,if_neg oM];push_cast;omega
theorem f9a (hcr:k9 132 c8h):k9 107 (e3h a3c a4n):=n9 (fun fn h=>e7v h) [(108,_),(132,_),(133,_),(134,_),(135,_)] (.cons b71 (.cons hcr (.cons d3u (.cons c0j (.cons e0g .nil))))) fun U fn hfn ⟨(s,i),h1,h2⟩ vs bs hv hb=>by
 have hm:=hfn 108 _ rfl
 have hc:=hfn 132 _ rfl
 have hx:=hfn 133 _ rfl
 have hs:=hfn 134 _ rfl
 have hk:=hfn 135 _ rfl
 have hv:l7 [.p 0 0] vs:=hv
 have hb:RBs [[.s s,.i .i64 (i:Int)]] bs:=hb
 have h1:i≤s.length:=h1
 have h2:s.length < 90000:=h2
 show j5 U _ fun v bs'=>l8 (a3c s i) v∧RBs [J4 s (a4n s i)] bs'
 unfold e1r
 (refine Zq ?_;intros)
 refine H2 (fun (j:Nat) vs bs=>vs=[.ptr 0 0]∧RBs [J4 s j] bs∧j≤s.length∧LQ.skip s j=LQ.skip s i) (fun j=>s.length - j) i ⟨rfl,scC rfl,h1,rfl⟩ (by simp only [C4];omega) ?_
 rintro self j vs bs ⟨rfl,hb,hj,he⟩ ih
 have hb:RBs [[.s s,.i .i64 (j:Int)]] bs:=hb
 have stop:∀ {x:Q},LQ.skip s j=some j→A6 [.s s,.i .i64 (j:Int)] x 0→j5 U (some (.ret (.tuple []),[.opa x 2])) fun v bs'=>l8 (a3c s i) v∧RBs [J4 s (a4n s i)] bs':=fun h hq=>by
  have ho:LQ.skip s i=some j:=by rw [← he,h]
  have e1:a3c s i=.ret (.t []):=by unfold a3c;rw [ho]
  have e2:a4n s i=j:=by unfold a4n;rw [ho];rfl
  rw [e1,e2]
  exact j9 ⟨.ret _ _ (.t _ _ .nil),RB.bx hq rfl⟩
 (refine Zq ?_;intros)
 refine j4 hm ⟨(s,j),hj,h2⟩ (r:=.c (.b (decide (j < s.length)))) rfl l5 (RB.bx aS rfl) fun _ _ _ hb=>?_
 have hb:RBs [[.s s,.i .i64 (j:Int)]] _:=hb
 (refine Zq ?_;with_reducible repeat' first|intro _|apply aI)
 ·have hlt:j < s.length:=of_decide_eq_true ‹_›
  have hbt:((s.getD j 0).toNat:Int)=bt s j:=rfl
  have hb0:=a74 s j
  have hb1:=c4c s j
  (refine Zq ?_;intros)
  refine d8f (m:=bt s j) rfl oM ?_
  refine j4 hc ⟨(m8 4 218761504,bt s j),hb0,.inr ⟨hb1,rfl⟩⟩ (r:=.c (.b (G9 (bt s j)))) (congrArg (fun b=>r7.ret (.c (.b b))) (d5t _ hb0 hb1)) l5 .nil fun _ _ _ _=>?_
  (refine Zq ?_;with_reducible repeat' first|intro _|apply aI)
  ·have hbl:G9 (bt s j)=true:=‹_›
   exact fun e=>ih (j+1) _ _ ⟨rfl,scQ e aS oM,oM,by rw [← b9a hlt hbl];exact he⟩ oM e
  ·have hbl:G9 (bt s j)=false:=by simpa using ‹¬G9 (bt s j)=true›
   have h59:bt s j=59:=‹_›
   rw [Int.toNat_natCast]
   refine j4 hx ⟨(s.drop j,10),oM,oM⟩ (r:=.c (.i .i64 (Lib.indexByte (s.drop j) 10))) rfl l5 .nil fun _ _ _ _=>?_
   have hi:=W6 (s.drop j) 10
   have hle:=c9i s j hj
   have hll:=b0u s j hj
   have hl2:=b74 s j hlt oM
   simp only [List.length_drop] at hi
   (refine Zq ?_;with_reducible repeat' first|intro _|apply aI)
   ·rw [if_pos ‹_›] at hle
    exact fun e=>ih (P4 s j) _ _ ⟨rfl,scQ e aS oM,oM,by rw [← c3e hlt hbl h59];exact he⟩ oM e
   ·rw [if_neg ‹_›] at hle
    exact fun e=>ih (P4 s j) _ _ ⟨rfl,scQ e aS oM,oM,by rw [← c3e hlt hbl h59];exact he⟩ oM e
  ·have hbl:G9 (bt s j)=false:=by simpa using ‹¬G9 (bt s j)=true›
   have h59:¬bt s j=59:=‹_›
   refine j4 hs ⟨⟨(s,j),hj,h2⟩,m8 2 31779⟩ (r:=.c (.b (V1 (s.drop j) (m8 2 31779)))) rfl l5 (RB.bx aS rfl) fun _ _ hv hb=>?_
   have hb:RBs [[.s s,.i .i64 (j:Int)]] _:=hb
   rw [d6b,d4q hj] at hv
   (refine Zq ?_;with_reducible repeat' first|intro _|apply aI)
   ·have hh:has s j 35 124=true:=‹_›
    have hlt2:=a0p hh
    cases hcm:F7 s (j+2) 1 with
    | some k =>
     have hkl:=b2d s (j+2) 1 k oM hcm
     refine j4 hk ⟨⟨(s,j),hj,h2⟩,hh⟩ (r:=.t []) (by show a8z s j=_;unfold a8z a8y;rw [hcm]) l5 (RB.bx aS rfl) fun _ _ _ hb=>?_
     have hb:RBs [J4 s (b0l s j)] _:=hb
     have e2:b0l s j=k:=by unfold b0l a8y;rw [hcm];rfl
     rw [e2] at hb
     have hb:RBs [[.s s,.i .i64 (k:Int)]] _:=hb
     (refine Zq ?_;intros)
     exact fun e=>ih k _ _ ⟨rfl,RB.bx aS rfl,oM,by rw [← e3c hlt hbl h59 hh hcm];exact he⟩ oM e
    | none =>
     refine G6 hk ⟨⟨(s,j),hj,h2⟩,hh⟩ (r:=.fl 107 11 s.length) (by show a8z s j=_;unfold a8z a8y;rw [hcm]) l5 (RB.bx aS rfl) fun _ hv=>?_
     have ho:LQ.skip s i=none:=by rw [← he,d8l hlt hbl h59 hh hcm]
     have e1:a3c s i=T3 11 s.length:=by unfold a3c;rw [ho]
     have e2:a4n s i=i:=by unfold a4n;rw [ho];rfl
     rw [e1,e2]
     exact R0 hv (scC rfl)
   ·exact stop (b3j hlt hbl h59 (by simpa using ‹¬has s j 35 124=true›)) aS
 ·have hlt:¬j < s.length:=fun h=>‹¬decide (j < s.length)=true› (decide_eq_true h)
  exact stop (c8f hlt) aS
theorem b7e:m8 1 45=[45]:=dE
theorem Z1 (s:i6):F3 s [45]=s.drop (j6 s):=by
 unfold F3 V1 j6
 cases s with
 | nil=>simp
 | cons c s =>
  have hb:bt (c :: s) 0=c.toNat:=rfl
  by_cases h:c=45
  ·subst h;simp [hb]
  ·have h':¬(c.toNat:Int)=45:=fun e=>h (UInt8.toNat_inj.1 (by show c.toNat=45;omega))
   simp [h,hb,h']
theorem a3s (s:i6) (a k:Nat):bt (s.drop a) k=bt s (a+k):=by unfold bt;simp [List.getD]
theorem c9c (s:i6) (a k:Nat) (h:a+k≤s.length):s8 s (a+k)=a+s8 (s.drop a) k:=by
 generalize hm:s.length - (a+k)=m
 induction m generalizing k with
 | zero=>rw [s8,if_neg oM,s8,if_neg (by simp;omega)]
 | succ m ih =>
  have hb:bt (s.drop a) k=bt s (a+k):=a3s s a k
  rw [s8,if_pos oM]
  conv=>rhs;rw [s8,if_pos (by rw [List.length_drop];omega),hb]
  by_cases hc:a02 (bt s (a+k))=true
  ·rw [if_pos hc,if_pos hc];exact ih (k+1) oM oM
  ·rw [if_neg hc,if_neg hc]
theorem d1k:k9 142 (sp1 fun s=>.ret (.c (.b (C1 s)))):=n9 (fun fn h=>e8i h) [(159,_)] (.cons a1m .nil) fun U fn hfn ⟨s,hs⟩ vs bs hv hb=>by
 have hp:=hfn 159 _ rfl
 have hv:l7 [.c (.s s)] vs:=hv
 have hb:RBs [] bs:=hb
 show j5 U _ fun v bs'=>l8 (.ret (.c (.b (C1 s)))) v∧RBs [] bs'
 obtain ⟨d,hd⟩:∃ d,s.drop (j6 s)=d:=⟨_,rfl⟩
 unfold e2g
 (refine Zq ?_;intros)
 refine j4 hp ⟨(s,m8 1 45),trivial⟩ (r:=.c (.s d)) (by show r7.ret (.c (.s (F3 s (m8 1 45))))=_;rw [b7e,Z1,hd]) l5 .nil fun _ _ _ _=>?_
 have hsl:=Y1 s
 have hdl:d.length=s.length - j6 s:=by rw [← hd];simp
 have hb0:((d.getD 0 0).toNat:Int)=bt s (j6 s):=by rw [← hd];exact (a3s s (j6 s) 0).trans (by rw [Nat.add_zero])
 have hb0':((d.getD (Int.toNat 0) 0).toNat:Int)=bt s (j6 s):=hb0
 have zz:∀ b:Bool,C1 s=b→∀ x:Bool,(U=CU→x=b)→j5 U (some (.ret (.bool x),[])) fun v bs'=>l8 (.ret (.c (.b (C1 s)))) v∧RBs [] bs':=fun b h x hx=>J3 fun e=>⟨.ret _ _ (U6 (by rw [h,hx e])),.nil⟩
 have zs:(d=[]∨bt s (j6 s)=48)→∀ x:Bool,(U=CU→x=decide (s=m8 1 48))→j5 U (some (.ret (.bool x),[])) fun v bs'=>l8 (.ret (.c (.b (C1 s)))) v∧RBs [] bs':=fun h x hx=>by
  refine zz (decide (s=m8 1 48)) ?_ x hx
  have:¬(j6 s < s.length∧bt s (j6 s) ≠ 48):=by
   rcases h with h | h
   ·rw [h] at hdl;simp at hdl;omega
   ·exact fun k=>k.2 h
  unfold C1
  rw [decide_eq_false this,Bool.false_and,Bool.or_false];rfl
 (refine Zq ?_;with_reducible repeat' first|intro _|apply aI)
 ·exact zs (.inl ‹d=m8 0 0›) _ fun e=>by subst e;exact b5z s 1 48
 ·have hne:d ≠ []:=‹¬d=m8 0 0›
  have hpos:0 < d.length:=List.length_pos_iff.2 hne
  (refine Zq ?_;with_reducible repeat' first|intro _|apply aI)
  ·exact zs (.inr (hb0.symm.trans aS)) _ fun e=>by subst e;exact b5z s 1 48
  ·have h48:¬((d.getD 0 0).toNat:Int)=48:=aS
   have e0:C1 s=decide (s8 d 0=d.length):=by
    have hz:¬s=B5:=fun e=>h48 (by rw [hb0];subst e;decide)
    have h1:j6 s < s.length∧bt s (j6 s) ≠ 48:=⟨oM,oM⟩
    have h2:=c9c s (j6 s) 0 oM
    rw [Nat.add_zero,hd] at h2
    unfold C1
    rw [decide_eq_true h1,Bool.true_and,decide_eq_false hz,Bool.false_or]
    rw [Bool.eq_iff_iff,decide_eq_true_iff,decide_eq_true_iff];omega
   have hl:d.length < 90000:=by have:s.length < 90000:=hs;omega
   refine H2 (fun (i:Nat) vs bs=>vs=[.str d.length (n7 d),.int .i64 d.length,.int .i64 i]∧bs=[]∧i≤d.length∧s8 d i=s8 d 0) (fun i=>d.length - i) 0 ⟨rfl,rfl,oM,rfl⟩ (by simp only [C4];omega) ?_
   rintro self i vs bs ⟨rfl,rfl,hi,he⟩ ih
   (refine Zq ?_;with_reducible repeat' first|intro _|apply aI)
   ·exact j9 ⟨.ret _ _ (N7 (by rw [e0,← he,b7g (i:=i) oM oM];exact decide_eq_false oM)),.nil⟩
   ·exact j9 ⟨.ret _ _ (N7 (by rw [e0,← he,b7g (i:=i) oM oM];exact decide_eq_false oM)),.nil⟩
   ·exact ih (i+1) _ _ ⟨rfl,rfl,oM,by rw [← he,c5r (i:=i) oM ‹_› ‹_›]⟩ oM
   ·exact j9 ⟨.ret _ _ (N7 (by rw [e0,← he,b95 (i:=i) oM];exact decide_eq_true oM)),.nil⟩
theorem a7e:k9 151 (sp1 fun s=>.ret (.c (.s (N9 s)))):=n9 (fun fn h=>e8j h) [(142,_)] (.cons d1k .nil) fun U fn hfn ⟨s,hs⟩ vs bs hv hb=>by
 have hp:=hfn 142 _ rfl
 have hv:l7 [.c (.s s)] vs:=hv
 have hb:RBs [] bs:=hb
 show j5 U _ fun v bs'=>l8 (.ret (.c (.s (N9 s)))) v∧RBs [] bs'
 unfold e2h
 (refine Zq ?_;intros)
 refine j4 hp ⟨s,hs⟩ (r:=.c (.b (C1 s))) rfl l5 .nil fun _ _ _ _=>?_
 (refine Zq ?_;with_reducible repeat' first|intro _|apply aI)
 ·have e:N9 s=s:=by unfold N9;rw [if_pos ‹_›]
  rw [e];exact j9 ⟨.ret _ _ (.s _ _ _ rfl rfl),.nil⟩
 ·have e:N9 s=m8 1 48:=by unfold N9;rw [if_neg ‹_›];rfl
  rw [e];exact j9 ⟨.ret _ _ (.s _ _ _ rfl rfl),.nil⟩
theorem b0m (s:i6):(N9 s).length≤s.length∨(N9 s).length≤1:=by unfold N9;split;exact .inl (Nat.le_refl _);exact .inr dE
theorem c5g (s:i6):(N9 s).drop (j6 (N9 s))=i7 (j0 s).natAbs:=by
 rw [a2e,I8]
 have h:=a4m (j0 s) (j0 s).natAbs []
 rw [List.append_nil] at h
 rw [h,List.drop_left]
theorem c56:k9 141 (sp1 fun s=>.ret (.c (.i .i64 ((i7 (j0 s).natAbs).length:Nat)))):=n9 (fun fn h=>e8h h) [(151,_),(159,_)] (.cons a7e (.cons a1m .nil)) fun U fn hfn ⟨s,hs⟩ vs bs hv hb=>by
 have hp:=hfn 151 _ rfl
 have ht:=hfn 159 _ rfl
 have hv:l7 [.c (.s s)] vs:=hv
 have hb:RBs [] bs:=hb
 show j5 U _ fun v bs'=>l8 (.ret (.c (.i .i64 ((i7 (j0 s).natAbs).length:Nat)))) v∧RBs [] bs'
 unfold e2f
 (refine Zq ?_;intros)
 refine j4 hp ⟨s,hs⟩ (r:=.c (.s (N9 s))) rfl l5 .nil fun _ _ _ _=>?_
 (refine Zq ?_;intros)
 refine j4 ht ⟨(N9 s,m8 1 45),trivial⟩ (r:=.c (.s (i7 (j0 s).natAbs))) (by show r7.ret (.c (.s (F3 (N9 s) (m8 1 45))))=_;rw [b7e,Z1,c5g]) l5 .nil fun _ _ _ _=>?_
 (refine Zq ?_;intros)
 exact j9 ⟨.ret _ _ (.i _ _),.nil⟩
def lg (d:Nat):List G:=[.i .u32 (d:Int)]
theorem f1d {a b:Nat} (h:lg a=lg b):a=b:=by simp only [lg,List.cons.injEq,G.i.injEq,and_true,true_and] at h;omega
theorem a41:∀ {l m:List Nat},l.map lg=m.map lg→l=m
 | [],[],_=>rfl
 | [],_ :: _,h=>by simp at h
 | _ :: _,[],h=>by simp at h
 | a :: l,b :: m,h=>by simp only [List.map_cons,List.cons.injEq] at h;exact congr (congrArg List.cons (f1d h.1)) (a41 h.2)
section
variable {U:v8} {P:L6→List Bx→Prop}
theorem c1d {l:List Nat} {t:j8 Q} {off:Nat} {i:Int} (n:Nat) {K:Q→Om} (ht:p9 1 (l.map lg) t off) (hn:i=n) (hi:n < l.length) (h:∀ x,A6 (lg (l.getD n 0)) x 0→j5 U (K x) P):j5 U (U.fQ (U.tQ t (U.nAdd off (U.iNat i))) K) P:=by
 subst hn
 refine c1e (y:=l.getD n 0) ht ?_ h
 rw [Int.toNat_natCast,List.getElem?_eq_getElem hi]
 simp [List.getD,List.getElem?_eq_getElem hi]
end
def spM (R:List Nat→r7):Sp where
 ι:={ l:List Nat // l.length < 20000 }
 A l:=[.sl 1 (l.1.map lg)]
 B _:=[]
 R l:=R l.1
 B' _:=[]
 inj i j vs bs h k _ _:=by
  obtain ⟨_,_,h1,k1,h,k⟩:=h.two k
  rw [a41 (h1.sl_inj k1)];exact ⟨rfl,rfl⟩
def f60 (ok:List Nat→List Nat→Prop) (R:List Nat→List Nat→r7):Sp where
 ι:={ p:List Nat × List Nat // p.1.length < 20000∧p.2.length < 20000∧ok p.1 p.2 }
 A p:=[.sl 1 (p.1.1.map lg),.sl 1 (p.1.2.map lg)]
 B _:=[]
 R p:=R p.1.1 p.1.2
 B' _:=[]
 inj i j vs bs h k _ _:=by
  obtain ⟨_,_,h1,k1,h,k⟩:=h.two k
  obtain ⟨_,_,h2,k2,h,k⟩:=h.two k
  rw [a41 (h1.sl_inj k1),a41 (h2.sl_inj k2)];exact ⟨rfl,rfl⟩
theorem b72:k9 192 (spM fun l=>.ret (.sl 1 ((G0 l).map lg))):=n9 (fun fn h=>e8x h) [] .nil fun U fn hfn ⟨l,hs⟩ vs bs hv hb=>by
 have hv:l7 [.sl 1 (l.map lg)] vs:=hv
 have hb:RBs [] bs:=hb
 have hs:l.length < 20000:=hs
 show j5 U _ fun v bs'=>l8 (.ret (.sl 1 ((G0 l).map lg))) v∧RBs [] bs'
 unfold e2u
 (refine Zx ?_;intros)
 refine H2 (fun (m:Nat) vs bs=>∃ (t:j8 Q) (off:Nat),vs=[.slice t 1 off m .no]∧bs=[]∧p9 1 (l.map lg) t off∧m≤l.length∧V9 l m=V9 l l.length) (fun m=>m) l.length ⟨_,_,rfl,rfl,aS,oM,rfl⟩ (by simp only [C4];omega) ?_
 rintro self m _ _ ⟨t,off,rfl,rfl,ht,hm,he⟩ ih
 have fin:¬(0 < m∧l.getD (m - 1) 0=0)→j5 U (some (.ret (.slice t 1 off m .no),[])) fun v bs'=>l8 (.ret (.sl 1 ((G0 l).map lg))) v∧RBs [] bs':=fun h=>by
  have e:G0 l=l.take m:=by
   unfold G0
   rw [← he]
   cases m with
   | zero=>rfl
   | succ m=>rw [V9,if_neg (fun k=>h ⟨oM,by simpa using k⟩)]
  rw [e,List.map_take]
  exact j9 ⟨.ret _ _ (.sl _ _ _ _ _ (by simp;omega) (ht.take m)),.nil⟩
 (refine Zx ?_;with_reducible repeat' first|intro _|apply aI)
 ·refine c1d (m - 1) aS oM oM fun _ _=>?_
  (refine Zx ?_;with_reducible repeat' first|intro _|apply aI)
  ·have h0:=‹((l.getD (m - 1) 0:Nat):Int)=0›
   simp only [Int.toNat_zero,Nat.add_zero,Nat.sub_zero]
   refine ih (m - 1) _ _ ⟨t,off,by rw [show ((m:Int) - 1).toNat=m - 1 by omega],rfl,ht,oM,?_⟩ oM
   obtain ⟨m,rfl⟩:∃ n,m=n+1:=⟨m - 1,oM⟩
   rw [← he,V9,if_pos (by simpa using h0)];rfl
  ·exact fin fun h=>‹¬((l.getD (m - 1) 0:Nat):Int)=0› oM
 ·exact fin fun h=>oM
theorem b70:k9 193 (f60 (fun _ _=>True) fun a b=>.ret (.c (.i .i64 (T7 a b)))):=n9 (fun fn h=>e8y h) [] .nil fun U fn hfn ⟨(a,b),ha,hbl,_⟩ vs bs hv hb=>by
 have ha:a.length < 20000:=ha
 have hbl:b.length < 20000:=hbl
 have hv:l7 [.sl 1 (a.map lg),.sl 1 (b.map lg)] vs:=hv
 have hb:RBs [] bs:=hb
 show j5 U _ fun v bs'=>l8 (.ret (.c (.i .i64 (T7 a b)))) v∧RBs [] bs'
 unfold e2v
 (refine Zx ?_;with_reducible repeat' first|intro _|apply aI)
 ·have hl:a.length=b.length:=oM
  have e:T7 a b=H0 a b a.length:=by unfold T7;rw [if_pos hl]
  rw [e]
  refine H2 (fun (m:Nat) vs bs=>∃ (t:j8 Q) (off:Nat) (t':j8 Q) (off':Nat) (i:Int),vs=[.slice t 1 off a.length .no,.slice t' 1 off' b.length .no,.int .i64 i]∧bs=[]∧i=m - 1∧p9 1 (a.map lg) t off∧p9 1 (b.map lg) t' off'∧m≤a.length∧H0 a b m=H0 a b a.length) (fun m=>m) a.length ⟨_,_,_,_,_,rfl,rfl,rfl,aS,aS,oM,rfl⟩ (by simp only [C4];omega) ?_
  rintro self m _ _ ⟨t,off,t',off',i,rfl,rfl,rfl,ht,ht',hm,he⟩ ih
  (refine Zx ?_;with_reducible repeat' first|intro _|apply aI)
  ·refine c1d (m - 1) aS oM oM fun _ _=>?_
   (refine Zx ?_;intros)
   refine c1d (m - 1) aS oM oM fun _ _=>?_
   (refine Zx ?_;with_reducible repeat' first|intro _|apply aI)
   ·refine ih (m - 1) _ _ ?_ oM
    obtain ⟨m,rfl⟩:∃ n,m=n+1:=⟨m - 1,oM⟩
    exact ⟨_,_,_,_,_,rfl,rfl,oM,ht,ht',oM,by rw [← he,Nat.add_sub_cancel];conv=>rhs;rw [H0,if_neg (by simp only [Nat.add_sub_cancel] at *;omega),if_neg (by simp only [Nat.add_sub_cancel] at *;omega)]⟩
   ·refine c1d (m - 1) aS oM oM fun _ _=>?_
    (refine Zx ?_;intros)
    refine c1d (m - 1) aS oM oM fun _ _=>?_
    (refine Zx ?_;with_reducible repeat' first|intro _|apply aI)
    ·obtain ⟨m,rfl⟩:∃ n,m=n+1:=⟨m - 1,oM⟩
     exact j9 ⟨.ret _ _ (rvI (by rw [← he,H0,if_pos (by simp only [Nat.add_sub_cancel] at *;omega)])),.nil⟩
    ·obtain ⟨m,rfl⟩:∃ n,m=n+1:=⟨m - 1,oM⟩
     exact j9 ⟨.ret _ _ (rvI (by rw [← he,H0,if_neg (by simp only [Nat.add_sub_cancel] at *;omega),if_pos (by simp only [Nat.add_sub_cancel] at *;omega)])),.nil⟩
  ·have em:m=0:=oM
   subst em
   exact j9 ⟨.ret _ _ (rvI (by rw [← he];rfl)),.nil⟩
 ·exact j9 ⟨.ret _ _ (rvI (by unfold T7;rw [if_neg oM,if_pos oM])),.nil⟩
 ·exact j9 ⟨.ret _ _ (rvI (by unfold T7;rw [if_neg oM,if_neg oM])),.nil⟩
section
variable {U:v8} {P:L6→List Bx→Prop}
theorem f7g {e:Int} (h1:0≤e) (h2:e < 4294967296):wr .u32 e=e:=by
 rw [a3l];show e % 4294967296=e;omega
theorem b9t {e:Int} (h1:0≤e) (h2:e < 18446744073709551616):wr .u64 e=e:=by
 rw [a3l];show e % 18446744073709551616=e;omega
theorem a56 {e m:Int} {K:Int→Om} (he:e=m) (hr:0≤m∧m < 4294967296) (h:j5 U (K m) P):j5 U (U.fI (U.wr .u32 e) K) P:=fun e'=>by
 have:=h e';subst e' he;rw [a0c]
 show ∃ v bs,K (wr .u32 e)=some (v,bs)∧P v bs
 rw [f7g hr.1 hr.2];exact this
theorem c4s {e m:Int} {K:Int→Om} (he:e=m) (hr:0≤m∧m < 18446744073709551616) (h:j5 U (K m) P):j5 U (U.fI (U.wr .u64 e) K) P:=fun e'=>by
 have:=h e';subst e' he;rw [a0c]
 show ∃ v bs,K (wr .u64 e)=some (v,bs)∧P v bs
 rw [b9t hr.1 hr.2];exact this
end
def z8 (n:Nat):List (List G):=(m9 n).map lg
theorem a9x {a b:Nat} (h:z8 a=z8 b):a=b:=c0q (a41 h)
def f67 (ok:Nat→Nat→Prop) (R:Nat→Nat→r7):Sp where
 ι:={ p:Nat × Nat // (m9 p.1).length < 20000∧(m9 p.2).length < 20000∧ok p.1 p.2 }
 A p:=[.sl 1 (z8 p.1.1),.sl 1 (z8 p.1.2)]
 B _:=[]
 R p:=R p.1.1 p.1.2
 B' _:=[]
 inj i j vs bs h k _ _:=by
  obtain ⟨_,_,h1,k1,h,k⟩:=h.two k
  obtain ⟨_,_,h2,k2,h,k⟩:=h.two k
  rw [a9x (h1.sl_inj k1),a9x (h2.sl_inj k2)];exact ⟨rfl,rfl⟩
theorem P5 (l:List Nat) (i:Nat):m7 (l.take (i+1))=m7 (l.take i)+B9 ^ i * l.getD i 0:=by
 rcases Nat.lt_or_ge i l.length with h | h
 ·exact c0t l i h
 ·rw [List.take_of_length_le h,List.take_of_length_le oM];simp [List.getD,List.getElem?_eq_none h]
theorem e3m (l:List Nat) (i x:Nat):(l.set i x).take i=l.take i:=by
 rw [List.take_set_of_le (Nat.le_refl _)]
theorem b0v {x y:Nat} (h:y≤x):(m9 y).length≤(m9 x).length:=by
 have h1:=Z3 (m9 x) (Q1 x)
 rw [H6] at h1
 exact a9y oM
theorem b5p (n:Nat):LQ.LB (List.replicate n 0):=fun d h=>by rw [List.eq_of_mem_replicate h];decide
theorem c3z {l:List Nat} {i x:Nat} (h:i < l.length):(l.set i x).getD i 0=x:=by simp [List.getD,List.getElem?_set,h]
theorem a5v {a b out:List Nat} {i bor bor' x:Nat} (hi:i < out.length) (he:m7 (a.take i)+B9 ^ i * bor=m7 (out.take i)+m7 (b.take i)) (hx:a.getD i 0+1000000000 * bor'=x+b.getD i 0+bor) :
  m7 (a.take (i+1))+B9 ^ (i+1) * bor'=m7 ((out.set i x).take (i+1))+m7 (b.take (i+1)):=by
 rw [P5 a,P5 b,P5 (out.set i x),e3m,c3z hi,Nat.pow_succ,Nat.mul_assoc]
 have h:=congrArg (B9 ^ i * ·) hx
 rw [show (1000000000:Nat)=B9 from rfl] at h
 simp only [Nat.mul_add] at h
 omega
theorem gD {l:List Nat} {i:Nat} (h:i < l.length):l[i]=l.getD i 0:=by simp only [List.getD,List.getElem?_eq_getElem h,Option.getD_some]
theorem gD0 {l:List Nat} {i:Nat} (h:l.length≤i):l.getD i 0=0:=by simp only [List.getD,List.getElem?_eq_none h,Option.getD_none]
theorem d7h {a b out:List Nat} {bor:Nat} (hol:out.length=a.length) (hyx:b.length≤a.length) (hxy:m7 b≤m7 a) (hLo:LQ.LB out) (hb:bor≤1) (he:m7 (a.take a.length)+B9 ^ a.length * bor=m7 (out.take a.length)+m7 (b.take a.length)):m7 out=m7 a - m7 b:=by
 rw [List.take_of_length_le (Nat.le_refl _),List.take_of_length_le oM,List.take_of_length_le oM] at he
 have h:=Z3 out hLo
 rw [hol] at h
 rcases Nat.lt_or_ge bor 1 with h1 | h1
 ·have:bor=0:=oM
  subst this;omega
 ·have:bor=1:=oM
  subst this;omega
theorem f1h {U:v8} {fn:FF} {vs:List V} {bs:List Bx} (ht:Ans fn 192 (spM fun l=>.ret (.sl 1 ((G0 l).map lg)))) {a b:List Nat} (hx:a.length < 20000) (hyx:b.length≤a.length) (hxy:m7 b≤m7 a) (hLa:LQ.LB a) (hLb:LQ.LB b) (hv:l7 [.sl 1 (a.map lg),.sl 1 (b.map lg)] vs) (hb:RBs [] bs) :
  j5 U (d4u U fn vs bs) fun v bs'=>l8 (.ret (.sl 1 (z8 (m7 a - m7 b)))) v∧RBs [] bs':=by
 unfold d4u
 (refine Zx ?_;intros)
 refine sZT (n:=1) (r:=lg 0) (fun _=>L4 (.i _ _)) rfl oM fun t' ht'=>?_
 (refine Zx ?_;intros)
 refine H2 (fun (i:Nat) vs bs=>∃ (t1:j8 Q) (o1:Nat) (t2:j8 Q) (o2:Nat) (t3:j8 Q) (out:List Nat) (bor:Nat),vs=[.slice t1 1 o1 a.length .no,.slice t2 1 o2 b.length .no,.bslice 0 a.length,.int .i64 bor,.int .i64 a.length,.int .i64 i]∧bs=[.row t3 a.length]∧p9 1 (a.map lg) t1 o1∧p9 1 (b.map lg) t2 o2∧p9 1 (out.map lg) t3 0∧out.length=a.length∧LQ.LB out∧i≤a.length∧bor≤1∧m7 (a.take i)+B9 ^ i * bor=m7 (out.take i)+m7 (b.take i)) (fun i=>a.length - i) 0 ?_ (by simp only [C4];omega) ?_
 ·exact ⟨_,_,_,_,t',List.replicate a.length 0,0,by simp only [Int.toNat_natCast];rfl,by simp,aS,aS,by simpa [List.map_replicate] using ht',by simp,b5p _,oM,oM,by simp [m7]⟩
 rintro self i _ _ ⟨t1,o1,t2,o2,t3,out,bor,rfl,rfl,h1,h2,h3,hol,hLo,hi,hbor,he⟩ ih
 (refine Zx ?_;with_reducible repeat' first|intro _|apply aI)
 ·have q1:a.getD i 0 < 1000000000:=a6i hLa i
  have q2:b.getD i 0 < 1000000000:=a6i hLb i
  rw [gD (l:=a) oM]
  refine b3g rfl oM ?_
  (refine Zx ?_;with_reducible repeat' first|intro _|apply aI)
  ·rw [gD (l:=b) oM]
   refine b3g rfl oM ?_
   (refine Zx ?_;with_reducible repeat' first|intro _|apply aI)
   ·(refine a56 (m:=((a.getD i 0+1000000000 - bor - b.getD i 0:Nat):Int)) oM oM ?_;(refine Zx ?_;with_reducible repeat' first|intro _|apply aI);refine b09 (r:=lg (a.getD i 0+1000000000 - bor - b.getD i 0)) h3 (fun _=>L4 (.i _ _)) rfl (by simp;omega) oM fun t9 h9=>?_;(refine Zx ?_;with_reducible repeat' first|intro _|apply aI);refine ih (i+1) _ _ ?_ oM;exact ⟨t1,o1,t2,o2,t9,out.set i (a.getD i 0+1000000000 - bor - b.getD i 0),1,by simp,by simp,h1,h2,by rw [List.map_set];simpa using h9,by simp [hol],a4q hLo _ _ (by show _ < 1000000000;omega),oM,oM,a5v oM he oM⟩)
   ·(refine a56 (m:=((a.getD i 0 - bor - b.getD i 0:Nat):Int)) oM oM ?_;(refine Zx ?_;with_reducible repeat' first|intro _|apply aI);refine b09 (r:=lg (a.getD i 0 - bor - b.getD i 0)) h3 (fun _=>L4 (.i _ _)) rfl (by simp;omega) oM fun t9 h9=>?_;(refine Zx ?_;with_reducible repeat' first|intro _|apply aI);refine ih (i+1) _ _ ?_ oM;exact ⟨t1,o1,t2,o2,t9,out.set i (a.getD i 0 - bor - b.getD i 0),0,by simp,by simp,h1,h2,by rw [List.map_set];simpa using h9,by simp [hol],a4q hLo _ _ (by show _ < 1000000000;omega),oM,oM,a5v oM he oM⟩)
  ·have e2:b.getD i 0=0:=gD0 oM
   (refine a56 (m:=((a.getD i 0+1000000000 - bor:Nat):Int)) oM oM ?_;(refine Zx ?_;with_reducible repeat' first|intro _|apply aI);refine b09 (r:=lg (a.getD i 0+1000000000 - bor)) h3 (fun _=>L4 (.i _ _)) rfl (by simp;omega) oM fun t9 h9=>?_;(refine Zx ?_;with_reducible repeat' first|intro _|apply aI);refine ih (i+1) _ _ ?_ oM;exact ⟨t1,o1,t2,o2,t9,out.set i (a.getD i 0+1000000000 - bor),1,by simp,by simp,h1,h2,by rw [List.map_set];simpa using h9,by simp [hol],a4q hLo _ _ (by show _ < 1000000000;omega),oM,oM,a5v oM he oM⟩)
  ·have e2:b.getD i 0=0:=gD0 oM
   (refine a56 (m:=((a.getD i 0 - bor:Nat):Int)) oM oM ?_;(refine Zx ?_;with_reducible repeat' first|intro _|apply aI);refine b09 (r:=lg (a.getD i 0 - bor)) h3 (fun _=>L4 (.i _ _)) rfl (by simp;omega) oM fun t9 h9=>?_;(refine Zx ?_;with_reducible repeat' first|intro _|apply aI);refine ih (i+1) _ _ ?_ oM;exact ⟨t1,o1,t2,o2,t9,out.set i (a.getD i 0 - bor),0,by simp,by simp,h1,h2,by rw [List.map_set];simpa using h9,by simp [hol],a4q hLo _ _ (by show _ < 1000000000;omega),oM,oM,a5v oM he oM⟩)
 ·have em:i=a.length:=oM
  subst em
  refine j4 ht ⟨out,by show out.length < 20000;omega⟩ (r:=.sl 1 (z8 (m7 a - m7 b))) (by rw [← d7h hol hyx hxy hLo hbor he];show r7.ret (.sl 1 ((G0 out).map lg))=_;rw [a2k out hLo];rfl) (.k (.sl _ _ _ _ _ (by simp [hol]) h3) .nil) .nil fun _ _ _ _=>?_
  (refine Zx ?_;intros)
  exact j9 ⟨.ret _ _ (.sl _ _ _ _ _ (by simp [z8]) aS),.nil⟩
theorem e6q:k9 181 (f67 (fun x y=>y≤x) fun x y=>.ret (.sl 1 (z8 (x - y)))):=n9 (fun fn h=>e8t h) [(192,_)] (.cons b72 .nil) fun U fn hfn ⟨(x,y),hx,hy,hxy⟩ vs bs hv hb=>by
 have h:=f1h (U:=U) (hfn 192 _ rfl) (a:=m9 x) (b:=m9 y) hx (b0v hxy) (by rw [H6,H6];exact hxy) (Q1 x) (Q1 y) hv hb
 rw [H6,H6] at h;exact h
end
end Go.Proofs.YtdldcfllnohkeaaGreatDoor
