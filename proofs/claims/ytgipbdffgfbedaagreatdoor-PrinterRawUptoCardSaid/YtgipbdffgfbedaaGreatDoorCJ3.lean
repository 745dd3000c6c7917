/- The program's reader: comments, blanks. -/
import Derived.Test.YtgipbdffgfbedaaGreatDoorCJ2
set_option linter.all false
namespace Go.Proofs.YtgipbdffgfbedaaGreatDoor
open Go.Abs LQ
set_option maxRecDepth 100000
set_option maxHeartbeats 4000000
noncomputable section
abbrev a05 (e p:Int):o8:=.pan (.fl 117 e p)
theorem b4o:j4 101 { ι:=Int × Int,A:=fun p=>[.c (.i .i64 p.1),.c (.i .i64 p.2)],B:=fun _=>[],R:=fun p=>a05 p.1 p.2,B':=fun _=>[],inj:=fun i j vs bs h k _ _=>(by
  obtain ⟨_,_,h1,k1,h,k⟩:=h.two k
  obtain ⟨_,_,h2,k2,h,k⟩:=h.two k
  rw [Z7 h1 k1,Z7 h2 k2];exact ⟨rfl,rfl⟩) }:=l9 (fun fn h=>d91 h) [] .nil fun U fn hfn ⟨e,p⟩ vs bs hv hb=>by
 have hv:j6 [.c (.i .i64 e),.c (.i .i64 p)] vs:=hv
 have hb:RBs [] bs:=hb
 show g8 U _ fun v bs'=>j7 (a05 e p) v∧RBs [] bs'
 unfold e3m
 (refine Zq ?_;intros)
 exact i7 ⟨.pan _ _ (.fl _ _ _ _ j3),.nil⟩
def e9g (ok:f6→Nat→Prop) (R:f6→Nat→o8) (b:f6→Nat→Nat):Sp where
 ι:={ p:ScI // ok p.1.1 p.1.2 }
 A _:=[.p 0 0]
 B p:=[G6 p.1.1.1 p.1.1.2]
 R p:=R p.1.1.1 p.1.1.2
 B' p:=[G6 p.1.1.1 (b p.1.1.1 p.1.1.2)]
 inj i j vs bs _ _ h k:=by
  have:=a4h (RBs.one_inj h k)
  rw [this.1,this.2];exact ⟨rfl,rfl⟩
theorem c82 {s:f6} {i:Nat} {a b:UInt8} (hi:i≤s.length):Q3 (s.drop i) [a,b]=has s i a.toNat b.toNat:=by
 unfold Q3 has
 by_cases h:i+1 < s.length
 ·have e:(s.drop i).take 2=[s[i],s[i+1]]:=by
   rw [List.drop_eq_getElem_cons oM,List.drop_eq_getElem_cons oM];rfl
  have b0:bt s i=s[i].toNat:=by unfold bt;simp [List.getD,List.getElem?_eq_getElem (show i < s.length by omega)]
  have b1:bt s (i+1)=s[i+1].toNat:=by unfold bt;simp [List.getD,List.getElem?_eq_getElem h]
  rw [Bool.eq_iff_iff,decide_eq_true_iff,decide_eq_true_iff,b0,b1]
  simp only [List.length_cons,List.length_nil,List.length_drop,e,List.cons.injEq,and_true]
  constructor
  ·rintro ⟨_,h1,h2⟩;rw [h1,h2];exact ⟨h,rfl,rfl⟩
  ·rintro ⟨_,h1,h2⟩
   exact ⟨oM,UInt8.toNat_inj.1 oM,UInt8.toNat_inj.1 oM⟩
 ·rw [Bool.eq_iff_iff,decide_eq_true_iff,decide_eq_true_iff]
  simp only [List.length_cons,List.length_nil,List.length_drop]
  constructor
  ·rintro ⟨h1,_⟩;omega
  ·rintro ⟨h1,_⟩;omega
theorem d0l:n5 2 31779=[35,124]:=dE
theorem e14:n5 2 9084=[124,35]:=dE
theorem e17:n5 2 14906=[58,58]:=dE
def a57 (s:f6) (i:Nat):Option Nat:=D1 s (i+2) 1
def a58 (s:f6) (i:Nat):o8:=match a57 s i with
 | some _=>.ret (.t [])
 | none=>a05 11 s.length
def a71 (s:f6) (i:Nat):Nat:=(a57 s i).getD i
theorem e12 {s:f6} {j d:Nat} (h:j < s.length) (hh:has s j 35 124=true):D1 s j (d+1)=D1 s (j+2) (d+2):=by rw [D1,if_neg oM,if_pos h,if_pos hh]
theorem c5n {s:f6} {j d:Nat} (h:j < s.length) (hh:¬has s j 35 124=true) (h2:has s j 124 35=true):D1 s j (d+1)=D1 s (j+2) d:=by rw [D1,if_neg oM,if_pos h,if_neg hh,if_pos h2];rfl
theorem e13 {s:f6} {j d:Nat} (h:j < s.length) (hh:¬has s j 35 124=true) (h2:¬has s j 124 35=true):D1 s j (d+1)=D1 s (j+1) (d+1):=by rw [D1,if_neg oM,if_pos h,if_neg hh,if_neg h2]
theorem d8n {s:f6} {j d:Nat} (h:¬j < s.length):D1 s j (d+1)=none:=by rw [D1,if_neg oM,if_neg h]
theorem e8e (s:f6) (j:Nat):D1 s j 0=some j:=by rw [D1,if_pos rfl]
theorem d4e:j4 135 (e9g (fun s i=>has s i 35 124=true) a58 a71):=l9 (fun fn h=>e0k h) [(115,_),(134,_),(101,_)] (.cons b4q (.cons b6s (.cons b4o .nil))) fun U fn hfn ⟨⟨(s,i),h1,h2⟩,h3⟩ vs bs hv hb=>by
 have hm:=hfn 115 _ rfl
 have hs:=hfn 134 _ rfl
 have hf:=hfn 101 _ rfl
 have hv:j6 [.p 0 0] vs:=hv
 have hb:RBs [[.s s,.i .i64 (i:Int)]] bs:=hb
 have h1:i≤s.length:=h1
 have h2:s.length < 21600000:=h2
 have h3:has s i 35 124=true:=h3
 show g8 U _ fun v bs'=>j7 (a58 s i) v∧RBs [G6 s (a71 s i)] bs'
 unfold e38
 (refine Zq ?_;intros)
 have h4:=V8 h3
 refine F3 (fun (p:Nat × Nat) vs bs=>vs=[.ptr 0 0,.int .i64 (p.2:Int)]∧RBs [G6 s p.1] bs∧p.1≤s.length∧(p=(i,0)∨∃ d,p.2=d+1∧d≤p.1∧D1 s p.1 (d+1)=a57 s i)) (fun p=>s.length - p.1) (i,0) ⟨rfl,Y2 rfl,h1,.inl rfl⟩ (by simp only [y8];omega) ?_
 rintro self ⟨j,d⟩ vs bs ⟨rfl,hb,hj,hd⟩ ih
 have hb:RBs [[.s s,.i .i64 (j:Int)]] bs:=hb
 have hj:j≤s.length:=hj
 have hdj:d≤j+1:=by
  rcases hd with hd | ⟨d',hd,h,_⟩
  ·injection hd with _ hd;omega
  ·have hd:d=d'+1:=hd
   have h:d'≤j:=h
   omega
 (refine Zq ?_;intros)
 refine f9 hm ⟨(s,j),hj,h2⟩ (r:=.c (.b (decide (j < s.length)))) rfl j3 (RB.bx aS rfl) fun _ _ _ hb=>?_
 have hb:RBs [[.s s,.i .i64 (j:Int)]] _:=hb
 (refine Zq ?_;with_reducible repeat' first|intro _|apply aI)
 ·have hlt:j < s.length:=of_decide_eq_true ‹_›
  refine f9 hs ⟨⟨(s,j),hj,h2⟩,n5 2 31779⟩ (r:=.c (.b (Q3 (s.drop j) (n5 2 31779)))) rfl j3 (RB.bx aS rfl) fun _ _ hv hb=>?_
  have hb:RBs [[.s s,.i .i64 (j:Int)]] _:=hb
  rw [d0l,c82 hj] at hv
  (refine Zq ?_;with_reducible repeat' first|intro _|apply aI)
  ·have hh:has s j 35 124=true:=‹_›
   have hlt2:=V8 hh
   refine fun e=>ih (j+2,d+1) _ _ ⟨by simp,scQ e aS oM,by simp;omega,.inr ⟨d,rfl,by simp;omega,?_⟩⟩ (by simp;omega) e
   rcases hd with hd | ⟨d',hd,h,he⟩
   ·injection hd with h1 hd;subst h1 hd;rfl
   ·have hd:d=d'+1:=hd
    subst hd
    rw [← he];exact (e12 hlt hh).symm
  ·have hh:¬has s j 35 124=true:=‹_›
   refine f9 hs ⟨⟨(s,j),hj,h2⟩,n5 2 9084⟩ (r:=.c (.b (Q3 (s.drop j) (n5 2 9084)))) rfl j3 (RB.bx aS rfl) fun _ _ hv hb=>?_
   have hb:RBs [[.s s,.i .i64 (j:Int)]] _:=hb
   rw [e14,c82 hj] at hv
   obtain ⟨d',hd,h,he⟩:∃ d',d=d'+1∧d'≤j∧D1 s j (d'+1)=a57 s i:=by
    rcases hd with hd | hd
    ·injection hd with h1 hd;subst h1;exact absurd h3 hh
    ·exact hd
   subst hd
   (refine Zq ?_;with_reducible repeat' first|intro _|apply aI)
   ·have hk:has s j 124 35=true:=‹_›
    have hlt2:=V8 hk
    have hz:d'=0:=oM
    subst hz
    have ho:a57 s i=some (j+2):=by rw [← he,c5n hlt hh hk,e8e]
    have e1:a58 s i=.ret (.t []):=by unfold a58;rw [ho]
    have e2:a71 s i=j+2:=by unfold a71;rw [ho];rfl
    rw [e1,e2]
    exact D5 fun e=>⟨.ret _ _ (.t _ _ .nil),scQ e aS oM⟩
   ·have hk:has s j 124 35=true:=‹_›
    have hlt2:=V8 hk
    refine fun e=>ih (j+2,d') _ _ ⟨by simp,scQ e aS oM,by simp;omega,.inr ⟨d' - 1,by simp;omega,by simp;omega,?_⟩⟩ (by simp;omega) e
    rw [← he,c5n hlt hh hk,show d' - 1+1=d' by omega]
   ·have hk:¬has s j 124 35=true:=‹_›
    refine fun e=>ih (j+1,d'+1) _ _ ⟨by simp,scQ e aS oM,by simp;omega,.inr ⟨d',rfl,by simp;omega,?_⟩⟩ (by simp;omega) e
    rw [← he,e13 hlt hh hk]
 ·have hlt:¬j < s.length:=fun h=>‹¬decide (j < s.length)=true› (decide_eq_true h)
  obtain ⟨d',hd,h,he⟩:∃ d',d=d'+1∧d'≤j∧D1 s j (d'+1)=a57 s i:=by
   rcases hd with hd | hd
   ·injection hd with h1 hd;subst h1;omega
   ·exact hd
  have ho:a57 s i=none:=by rw [← he,d8n hlt]
  have e1:a58 s i=a05 11 s.length:=by unfold a58;rw [ho]
  have e2:a71 s i=i:=by unfold a71;rw [ho];rfl
  rw [e1,e2]
  refine P6 hf (11,(s.length:Int)) (r:=.fl 117 11 s.length) rfl j3 .nil fun _ hv=>?_
  exact a09 hv (Y2 rfl)
def c9k:Sp:=d54 .i32 (fun s r=>0≤r∧(r < 128∨r < 256∧s=n5 4 218761504)) fun s r=>.c (.b (decide (r < 128∧0≤Lib.indexByte s r.toNat.toUInt8)))
theorem c95 (c:Int) (h1:0≤c) (h2:c < 256):(decide (c < 128∧0≤Lib.indexByte (n5 4 218761504) c.toNat.toUInt8))=G1 c:=by
 obtain ⟨n,rfl⟩:∃ n:Nat,c=n:=⟨c.toNat,oM⟩
 rw [Int.toNat_natCast]
 have h3:n < 256:=oM
 have key:∀ n:Fin 256,(decide ((n.1:Int) < 128∧0≤Lib.indexByte (n5 4 218761504) n.1.toUInt8))=G1 n.1:=dE
 exact key ⟨n,h3⟩
def a1f (s:f6) (i:Nat):o8:=match LQ.skip s i with
 | some _=>.ret (.t [])
 | none=>a05 11 s.length
def a2i (s:f6) (i:Nat):Nat:=(LQ.skip s i).getD i
theorem c4l (s:f6) (i:Nat) (hi:i≤s.length):(L4 s i:Int)=i+(if Lib.indexByte (s.drop i) 10 < 0 then (s.length:Int) - i else Lib.indexByte (s.drop i) 10):=by
 generalize hm:s.length - i=m
 induction m generalizing i with
 | zero =>
  have:i=s.length:=oM
  subst this
  rw [L4,if_neg oM,List.drop_length]
  simp [Lib.indexByte]
 | succ m ih =>
  have hlt:i < s.length:=oM
  have b0:bt s i=s[i].toNat:=by unfold bt;simp [List.getD,List.getElem?_eq_getElem hlt]
  have hge:=(R5 (s.drop (i+1)) 10).2
  have ex:Lib.indexByte (s.drop i) 10=if s[i]=10 then 0 else if Lib.indexByte (s.drop (i+1)) 10=-1 then -1 else Lib.indexByte (s.drop (i+1)) 10+1:=by
   rw [List.drop_eq_getElem_cons hlt]
   simp only [Lib.indexByte,beq_iff_eq]
  rw [ex,L4,if_pos hlt]
  by_cases h:s[i]=10
  ·rw [if_pos (by rw [b0,h];rfl)];simp [h]
  ·have h':¬bt s i=10:=fun e=>h (UInt8.toNat_inj.1 (by rw [b0] at e;show s[i].toNat=10;omega))
   rw [if_neg h',ih (i+1) oM oM]
   simp only [h,if_false]
   generalize Lib.indexByte (s.drop (i+1)) 10=x at *
   by_cases hz:x=-1
   ·subst hz;simp;omega
   ·simp only [hz,if_false]
    rw [if_neg oM,if_neg oM];push_cast;omega
theorem e8u (hcr:j4 132 c9k):j4 114 (d55 a1f a2i):=l9 (fun fn h=>d97 h) [(115,_),(132,_),(133,_),(134,_),(135,_)] (.cons b4q (.cons hcr (.cons c78 (.cons b6s (.cons d4e .nil))))) fun U fn hfn ⟨(s,i),h1,h2⟩ vs bs hv hb=>by
 have hm:=hfn 115 _ rfl
 have hc:=hfn 132 _ rfl
 have hx:=hfn 133 _ rfl
 have hs:=hfn 134 _ rfl
 have hk:=hfn 135 _ rfl
 have hv:j6 [.p 0 0] vs:=hv
 have hb:RBs [[.s s,.i .i64 (i:Int)]] bs:=hb
 have h1:i≤s.length:=h1
 have h2:s.length < 21600000:=h2
 show g8 U _ fun v bs'=>j7 (a1f s i) v∧RBs [G6 s (a2i s i)] bs'
 unfold e3s
 (refine Zq ?_;intros)
 refine F3 (fun (j:Nat) vs bs=>vs=[.ptr 0 0]∧RBs [G6 s j] bs∧j≤s.length∧LQ.skip s j=LQ.skip s i) (fun j=>s.length - j) i ⟨rfl,Y2 rfl,h1,rfl⟩ (by simp only [y8];omega) ?_
 rintro self j vs bs ⟨rfl,hb,hj,he⟩ ih
 have hb:RBs [[.s s,.i .i64 (j:Int)]] bs:=hb
 have stop:∀ {x:Q},LQ.skip s j=some j→u3 [.s s,.i .i64 (j:Int)] x 0→g8 U (some (.ret (.tuple []),[.opa x 2])) fun v bs'=>j7 (a1f s i) v∧RBs [G6 s (a2i s i)] bs':=fun h hq=>by
  have ho:LQ.skip s i=some j:=by rw [← he,h]
  have e1:a1f s i=.ret (.t []):=by unfold a1f;rw [ho]
  have e2:a2i s i=j:=by unfold a2i;rw [ho];rfl
  rw [e1,e2]
  exact i7 ⟨.ret _ _ (.t _ _ .nil),RB.bx hq rfl⟩
 (refine Zq ?_;intros)
 refine f9 hm ⟨(s,j),hj,h2⟩ (r:=.c (.b (decide (j < s.length)))) rfl j3 (RB.bx aS rfl) fun _ _ _ hb=>?_
 have hb:RBs [[.s s,.i .i64 (j:Int)]] _:=hb
 (refine Zq ?_;with_reducible repeat' first|intro _|apply aI)
 ·have hlt:j < s.length:=of_decide_eq_true ‹_›
  have hbt:((s.getD j 0).toNat:Int)=bt s j:=rfl
  have hb0:=a5f s j
  have hb1:=b9x s j
  (refine Zq ?_;intros)
  refine d2l (m:=bt s j) rfl oM ?_
  refine f9 hc ⟨(n5 4 218761504,bt s j),hb0,.inr ⟨hb1,rfl⟩⟩ (r:=.c (.b (G1 (bt s j)))) (congrArg (fun b=>o8.ret (.c (.b b))) (c95 _ hb0 hb1)) j3 .nil fun _ _ _ _=>?_
  (refine Zq ?_;with_reducible repeat' first|intro _|apply aI)
  ·have hbl:G1 (bt s j)=true:=‹_›
   exact fun e=>ih (j+1) _ _ ⟨rfl,scQ e aS oM,oM,by rw [← c9j hlt hbl];exact he⟩ oM e
  ·have hbl:G1 (bt s j)=false:=by simpa using ‹¬G1 (bt s j)=true›
   have h59:bt s j=59:=‹_›
   rw [Int.toNat_natCast]
   refine f9 hx ⟨(s.drop j,10),oM,oM⟩ (r:=.c (.i .i64 (Lib.indexByte (s.drop j) 10))) rfl j3 .nil fun _ _ _ _=>?_
   have hi:=R5 (s.drop j) 10
   have hle:=c4l s j hj
   have hll:=a8e s j hj
   have hl2:=b4t s j hlt oM
   simp only [List.length_drop] at hi
   (refine Zq ?_;with_reducible repeat' first|intro _|apply aI)
   ·rw [if_pos ‹_›] at hle
    exact fun e=>ih (L4 s j) _ _ ⟨rfl,scQ e aS oM,oM,by rw [← b86 hlt hbl h59];exact he⟩ oM e
   ·rw [if_neg ‹_›] at hle
    exact fun e=>ih (L4 s j) _ _ ⟨rfl,scQ e aS oM,oM,by rw [← b86 hlt hbl h59];exact he⟩ oM e
  ·have hbl:G1 (bt s j)=false:=by simpa using ‹¬G1 (bt s j)=true›
   have h59:¬bt s j=59:=‹_›
   refine f9 hs ⟨⟨(s,j),hj,h2⟩,n5 2 31779⟩ (r:=.c (.b (Q3 (s.drop j) (n5 2 31779)))) rfl j3 (RB.bx aS rfl) fun _ _ hv hb=>?_
   have hb:RBs [[.s s,.i .i64 (j:Int)]] _:=hb
   rw [d0l,c82 hj] at hv
   (refine Zq ?_;with_reducible repeat' first|intro _|apply aI)
   ·have hh:has s j 35 124=true:=‹_›
    have hlt2:=V8 hh
    cases hcm:D1 s (j+2) 1 with
    | some k =>
     have hkl:=a9t s (j+2) 1 k oM hcm
     refine f9 hk ⟨⟨(s,j),hj,h2⟩,hh⟩ (r:=.t []) (by show a58 s j=_;unfold a58 a57;rw [hcm]) j3 (RB.bx aS rfl) fun _ _ _ hb=>?_
     have hb:RBs [G6 s (a71 s j)] _:=hb
     have e2:a71 s j=k:=by unfold a71 a57;rw [hcm];rfl
     rw [e2] at hb
     have hb:RBs [[.s s,.i .i64 (k:Int)]] _:=hb
     (refine Zq ?_;intros)
     exact fun e=>ih k _ _ ⟨rfl,RB.bx aS rfl,oM,by rw [← d53 hlt hbl h59 hh hcm];exact he⟩ oM e
    | none =>
     refine P6 hk ⟨⟨(s,j),hj,h2⟩,hh⟩ (r:=.fl 117 11 s.length) (by show a58 s j=_;unfold a58 a57;rw [hcm]) j3 (RB.bx aS rfl) fun _ hv=>?_
     have ho:LQ.skip s i=none:=by rw [← he,d2p hlt hbl h59 hh hcm]
     have e1:a1f s i=a05 11 s.length:=by unfold a1f;rw [ho]
     have e2:a2i s i=i:=by unfold a2i;rw [ho];rfl
     rw [e1,e2]
     exact a09 hv (Y2 rfl)
   ·exact stop (b0u hlt hbl h59 (by simpa using ‹¬has s j 35 124=true›)) aS
 ·have hlt:¬j < s.length:=fun h=>‹¬decide (j < s.length)=true› (decide_eq_true h)
  exact stop (c3h hlt) aS
theorem b33:n5 1 45=[45]:=dE
theorem U2 (s:f6):C9 s [45]=s.drop (g9 s):=by
 unfold C9 Q3 g9
 cases s with
 | nil=>simp
 | cons c s =>
  have hb:bt (c :: s) 0=c.toNat:=rfl
  by_cases h:c=45
  ·subst h;simp [hb]
  ·have h':¬(c.toNat:Int)=45:=fun e=>h (UInt8.toNat_inj.1 (by show c.toNat=45;omega))
   simp [h,hb,h']
theorem a1v (s:f6) (a k:Nat):bt (s.drop a) k=bt s (a+k):=by unfold bt;simp [List.getD]
theorem c4e (s:f6) (a k:Nat) (h:a+k≤s.length):j8 s (a+k)=a+j8 (s.drop a) k:=by
 generalize hm:s.length - (a+k)=m
 induction m generalizing k with
 | zero=>rw [j8,if_neg oM,j8,if_neg (by simp;omega)]
 | succ m ih =>
  have hb:bt (s.drop a) k=bt s (a+k):=a1v s a k
  rw [j8,if_pos oM]
  conv=>rhs;rw [j8,if_pos (by rw [List.length_drop];omega),hb]
  by_cases hc:P3 (bt s (a+k))=true
  ·rw [if_pos hc,if_pos hc];exact ih (k+1) oM oM
  ·rw [if_neg hc,if_neg hc]
theorem c6e:j4 81 (sp1 fun s=>.ret (.c (.b (x8 s)))):=l9 (fun fn h=>e53 h) [(91,_)] (.cons Y7 .nil) fun U fn hfn ⟨s,hs⟩ vs bs hv hb=>by
 have hp:=hfn 91 _ rfl
 have hv:j6 [.c (.s s)] vs:=hv
 have hb:RBs [] bs:=hb
 show g8 U _ fun v bs'=>j7 (.ret (.c (.b (x8 s)))) v∧RBs [] bs'
 obtain ⟨d,hd⟩:∃ d,s.drop (g9 s)=d:=⟨_,rfl⟩
 unfold r81
 (refine Zq ?_;intros)
 refine f9 hp ⟨(s,n5 1 45),trivial⟩ (r:=.c (.s d)) (by show o8.ret (.c (.s (C9 s (n5 1 45))))=_;rw [b33,U2,hd]) j3 .nil fun _ _ _ _=>?_
 have hsl:=N2 s
 have hdl:d.length=s.length - g9 s:=by rw [← hd];simp
 have hb0:((d.getD 0 0).toNat:Int)=bt s (g9 s):=by rw [← hd];exact (a1v s (g9 s) 0).trans (by rw [Nat.add_zero])
 have hb0':((d.getD (Int.toNat 0) 0).toNat:Int)=bt s (g9 s):=hb0
 have zz:∀ b:Bool,x8 s=b→∀ x:Bool,(U=CU→x=b)→g8 U (some (.ret (.bool x),[])) fun v bs'=>j7 (.ret (.c (.b (x8 s)))) v∧RBs [] bs':=fun b h x hx=>D5 fun e=>⟨.ret _ _ (M5 (by rw [h,hx e])),.nil⟩
 have zs:(d=[]∨bt s (g9 s)=48)→∀ x:Bool,(U=CU→x=decide (s=n5 1 48))→g8 U (some (.ret (.bool x),[])) fun v bs'=>j7 (.ret (.c (.b (x8 s)))) v∧RBs [] bs':=fun h x hx=>by
  refine zz (decide (s=n5 1 48)) ?_ x hx
  have:¬(g9 s < s.length∧bt s (g9 s) ≠ 48):=by
   rcases h with h | h
   ·rw [h] at hdl;simp at hdl;omega
   ·exact fun k=>k.2 h
  unfold x8
  rw [decide_eq_false this,Bool.false_and,Bool.or_false];rfl
 (refine Zq ?_;with_reducible repeat' first|intro _|apply aI)
 ·exact zs (.inl ‹d=n5 0 0›) _ fun e=>by subst e;exact a9u s 1 48
 ·have hne:d ≠ []:=‹¬d=n5 0 0›
  have hpos:0 < d.length:=List.length_pos_iff.2 hne
  (refine Zq ?_;with_reducible repeat' first|intro _|apply aI)
  ·exact zs (.inr (hb0.symm.trans aS)) _ fun e=>by subst e;exact a9u s 1 48
  ·have h48:¬((d.getD 0 0).toNat:Int)=48:=aS
   have e0:x8 s=decide (j8 d 0=d.length):=by
    have hz:¬s=w9:=fun e=>h48 (by rw [hb0];subst e;decide)
    have h1:g9 s < s.length∧bt s (g9 s) ≠ 48:=⟨oM,oM⟩
    have h2:=c4e s (g9 s) 0 oM
    rw [Nat.add_zero,hd] at h2
    unfold x8
    rw [decide_eq_true h1,Bool.true_and,decide_eq_false hz,Bool.false_or]
    rw [Bool.eq_iff_iff,decide_eq_true_iff,decide_eq_true_iff];omega
   have hl:d.length < 21600000:=by have:s.length < 21600000:=hs;omega
   refine F3 (fun (i:Nat) vs bs=>vs=[.str d.length (j9 d),.int .i64 d.length,.int .i64 i]∧bs=[]∧i≤d.length∧j8 d i=j8 d 0) (fun i=>d.length - i) 0 ⟨rfl,rfl,oM,rfl⟩ (by simp only [y8];omega) ?_
   rintro self i vs bs ⟨rfl,rfl,hi,he⟩ ih
   (refine Zq ?_;with_reducible repeat' first|intro _|apply aI)
   ·exact i7 ⟨.ret _ _ (F2 (by rw [e0,← he,b35 (i:=i) oM oM];exact decide_eq_false oM)),.nil⟩
   ·exact i7 ⟨.ret _ _ (F2 (by rw [e0,← he,b35 (i:=i) oM oM];exact decide_eq_false oM)),.nil⟩
   ·exact ih (i+1) _ _ ⟨rfl,rfl,oM,by rw [← he,c1e (i:=i) oM ‹_› ‹_›]⟩ oM
   ·exact i7 ⟨.ret _ _ (F2 (by rw [e0,← he,b6f (i:=i) oM];exact decide_eq_true oM)),.nil⟩
theorem a4w:j4 92 (sp1 fun s=>.ret (.c (.s (J8 s)))):=l9 (fun fn h=>e59 h) [(81,_)] (.cons c6e .nil) fun U fn hfn ⟨s,hs⟩ vs bs hv hb=>by
 have hp:=hfn 81 _ rfl
 have hv:j6 [.c (.s s)] vs:=hv
 have hb:RBs [] bs:=hb
 show g8 U _ fun v bs'=>j7 (.ret (.c (.s (J8 s)))) v∧RBs [] bs'
 unfold r92
 (refine Zq ?_;intros)
 refine f9 hp ⟨s,hs⟩ (r:=.c (.b (x8 s))) rfl j3 .nil fun _ _ _ _=>?_
 (refine Zq ?_;with_reducible repeat' first|intro _|apply aI)
 ·have e:J8 s=s:=by unfold J8;rw [if_pos ‹_›]
  rw [e];exact i7 ⟨.ret _ _ (.s _ _ _ rfl rfl),.nil⟩
 ·have e:J8 s=n5 1 48:=by unfold J8;rw [if_neg ‹_›];rfl
  rw [e];exact i7 ⟨.ret _ _ (.s _ _ _ rfl rfl),.nil⟩
theorem a74 (s:f6):(J8 s).length≤s.length∨(J8 s).length≤1:=by unfold J8;split;exact .inl (Nat.le_refl _);exact .inr dE
theorem c03 (s:f6):(J8 s).drop (g9 (J8 s))=f7 (f8 s).natAbs:=by
 rw [a0l,a1c]
 have h:=c46 (f8 s) (f8 s).natAbs []
 rw [List.append_nil] at h
 rw [h,List.drop_left]
theorem c1t:j4 82 (sp1 fun s=>.ret (.c (.i .i64 ((f7 (f8 s).natAbs).length:Nat)))):=l9 (fun fn h=>e54 h) [(92,_),(91,_)] (.cons a4w (.cons Y7 .nil)) fun U fn hfn ⟨s,hs⟩ vs bs hv hb=>by
 have hp:=hfn 92 _ rfl
 have ht:=hfn 91 _ rfl
 have hv:j6 [.c (.s s)] vs:=hv
 have hb:RBs [] bs:=hb
 show g8 U _ fun v bs'=>j7 (.ret (.c (.i .i64 ((f7 (f8 s).natAbs).length:Nat)))) v∧RBs [] bs'
 unfold r82
 (refine Zq ?_;intros)
 refine f9 hp ⟨s,hs⟩ (r:=.c (.s (J8 s))) rfl j3 .nil fun _ _ _ _=>?_
 (refine Zq ?_;intros)
 refine f9 ht ⟨(J8 s,n5 1 45),trivial⟩ (r:=.c (.s (f7 (f8 s).natAbs))) (by show o8.ret (.c (.s (C9 (J8 s) (n5 1 45))))=_;rw [b33,U2,c03]) j3 .nil fun _ _ _ _=>?_
 (refine Zq ?_;intros)
 exact i7 ⟨.ret _ _ (.i _ _),.nil⟩
def lg (d:Nat):List G:=[.i .u32 (d:Int)]
theorem e2z {a b:Nat} (h:lg a=lg b):a=b:=by simp only [lg,List.cons.injEq,G.i.injEq,and_true,true_and] at h;omega
theorem a2t:∀ {l m:List Nat},l.map lg=m.map lg→l=m
 | [],[],_=>rfl
 | [],_ :: _,h=>by simp at h
 | _ :: _,[],h=>by simp at h
 | a :: l,b :: m,h=>by simp only [List.map_cons,List.cons.injEq] at h;exact congr (congrArg List.cons (e2z h.1)) (a2t h.2)
section
variable {U:q7} {P:J0→List Bx→Prop}
theorem b7f {l:List Nat} {t:j0 Q} {off:Nat} {i:Int} (n:Nat) {K:Q→Om} (ht:n7 1 (l.map lg) t off) (hn:i=n) (hi:n < l.length) (h:∀ x,u3 (lg (l.getD n 0)) x 0→g8 U (K x) P):g8 U (U.fQ (U.tQ t (U.nAdd off (U.iNat i))) K) P:=by
 subst hn
 refine c9f (y:=l.getD n 0) ht ?_ h
 rw [Int.toNat_natCast,List.getElem?_eq_getElem hi]
 simp [List.getD,List.getElem?_eq_getElem hi]
end
def spM (R:List Nat→o8):Sp where
 ι:={ l:List Nat // l.length < 4800000 }
 A l:=[.sl 1 (l.1.map lg)]
 B _:=[]
 R l:=R l.1
 B' _:=[]
 inj i j vs bs h k _ _:=by
  obtain ⟨_,_,h1,k1,h,k⟩:=h.two k
  rw [a2t (h1.sl_inj k1)];exact ⟨rfl,rfl⟩
def e7e (ok:List Nat→List Nat→Prop) (R:List Nat→List Nat→o8):Sp where
 ι:={ p:List Nat × List Nat // p.1.length < 4800000∧p.2.length < 4800000∧ok p.1 p.2 }
 A p:=[.sl 1 (p.1.1.map lg),.sl 1 (p.1.2.map lg)]
 B _:=[]
 R p:=R p.1.1 p.1.2
 B' _:=[]
 inj i j vs bs h k _ _:=by
  obtain ⟨_,_,h1,k1,h,k⟩:=h.two k
  obtain ⟨_,_,h2,k2,h,k⟩:=h.two k
  rw [a2t (h1.sl_inj k1),a2t (h2.sl_inj k2)];exact ⟨rfl,rfl⟩
theorem b4r:j4 123 (spM fun l=>.ret (.sl 1 ((D6 l).map lg))):=l9 (fun fn h=>e0e h) [] .nil fun U fn hfn ⟨l,hs⟩ vs bs hv hb=>by
 have hv:j6 [.sl 1 (l.map lg)] vs:=hv
 have hb:RBs [] bs:=hb
 have hs:l.length < 4800000:=hs
 show g8 U _ fun v bs'=>j7 (.ret (.sl 1 ((D6 l).map lg))) v∧RBs [] bs'
 unfold e30
 (refine Zx ?_;intros)
 refine F3 (fun (m:Nat) vs bs=>∃ (t:j0 Q) (off:Nat),vs=[.slice t 1 off m .no]∧bs=[]∧n7 1 (l.map lg) t off∧m≤l.length∧R0 l m=R0 l l.length) (fun m=>m) l.length ⟨_,_,rfl,rfl,aS,oM,rfl⟩ (by simp only [y8];omega) ?_
 rintro self m _ _ ⟨t,off,rfl,rfl,ht,hm,he⟩ ih
 have fin:¬(0 < m∧l.getD (m - 1) 0=0)→g8 U (some (.ret (.slice t 1 off m .no),[])) fun v bs'=>j7 (.ret (.sl 1 ((D6 l).map lg))) v∧RBs [] bs':=fun h=>by
  have e:D6 l=l.take m:=by
   unfold D6
   rw [← he]
   cases m with
   | zero=>rfl
   | succ m=>rw [R0,if_neg (fun k=>h ⟨oM,by simpa using k⟩)]
  rw [e,List.map_take]
  exact i7 ⟨.ret _ _ (.sl _ _ _ _ _ (by simp;omega) (ht.take m)),.nil⟩
 (refine Zx ?_;with_reducible repeat' first|intro _|apply aI)
 ·refine b7f (m - 1) aS oM oM fun _ _=>?_
  (refine Zx ?_;with_reducible repeat' first|intro _|apply aI)
  ·have h0:=‹((l.getD (m - 1) 0:Nat):Int)=0›
   simp only [Int.toNat_zero,Nat.add_zero,Nat.sub_zero]
   refine ih (m - 1) _ _ ⟨t,off,by rw [show ((m:Int) - 1).toNat=m - 1 by omega],rfl,ht,oM,?_⟩ oM
   obtain ⟨m,rfl⟩:∃ n,m=n+1:=⟨m - 1,oM⟩
   rw [← he,R0,if_pos (by simpa using h0)];rfl
  ·exact fin fun h=>‹¬((l.getD (m - 1) 0:Nat):Int)=0› oM
 ·exact fin fun h=>oM
theorem b4n:j4 124 (e7e (fun _ _=>True) fun a b=>.ret (.c (.i .i64 (O9 a b)))):=l9 (fun fn h=>e0f h) [] .nil fun U fn hfn ⟨(a,b),ha,hbl,_⟩ vs bs hv hb=>by
 have ha:a.length < 4800000:=ha
 have hbl:b.length < 4800000:=hbl
 have hv:j6 [.sl 1 (a.map lg),.sl 1 (b.map lg)] vs:=hv
 have hb:RBs [] bs:=hb
 show g8 U _ fun v bs'=>j7 (.ret (.c (.i .i64 (O9 a b)))) v∧RBs [] bs'
 unfold e33
 (refine Zx ?_;with_reducible repeat' first|intro _|apply aI)
 ·have hl:a.length=b.length:=oM
  have e:O9 a b=E9 a b a.length:=by unfold O9;rw [if_pos hl]
  rw [e]
  refine F3 (fun (m:Nat) vs bs=>∃ (t:j0 Q) (off:Nat) (t':j0 Q) (off':Nat) (i:Int),vs=[.slice t 1 off a.length .no,.slice t' 1 off' b.length .no,.int .i64 i]∧bs=[]∧i=m - 1∧n7 1 (a.map lg) t off∧n7 1 (b.map lg) t' off'∧m≤a.length∧E9 a b m=E9 a b a.length) (fun m=>m) a.length ⟨_,_,_,_,_,rfl,rfl,rfl,aS,aS,oM,rfl⟩ (by simp only [y8];omega) ?_
  rintro self m _ _ ⟨t,off,t',off',i,rfl,rfl,rfl,ht,ht',hm,he⟩ ih
  (refine Zx ?_;with_reducible repeat' first|intro _|apply aI)
  ·refine b7f (m - 1) aS oM oM fun _ _=>?_
   (refine Zx ?_;intros)
   refine b7f (m - 1) aS oM oM fun _ _=>?_
   (refine Zx ?_;with_reducible repeat' first|intro _|apply aI)
   ·refine ih (m - 1) _ _ ?_ oM
    obtain ⟨m,rfl⟩:∃ n,m=n+1:=⟨m - 1,oM⟩
    exact ⟨_,_,_,_,_,rfl,rfl,oM,ht,ht',oM,by rw [← he,Nat.add_sub_cancel];conv=>rhs;rw [E9,if_neg (by simp only [Nat.add_sub_cancel] at *;omega),if_neg (by simp only [Nat.add_sub_cancel] at *;omega)]⟩
   ·refine b7f (m - 1) aS oM oM fun _ _=>?_
    (refine Zx ?_;intros)
    refine b7f (m - 1) aS oM oM fun _ _=>?_
    (refine Zx ?_;with_reducible repeat' first|intro _|apply aI)
    ·obtain ⟨m,rfl⟩:∃ n,m=n+1:=⟨m - 1,oM⟩
     exact i7 ⟨.ret _ _ (Y1 (by rw [← he,E9,if_pos (by simp only [Nat.add_sub_cancel] at *;omega)])),.nil⟩
    ·obtain ⟨m,rfl⟩:∃ n,m=n+1:=⟨m - 1,oM⟩
     exact i7 ⟨.ret _ _ (Y1 (by rw [← he,E9,if_neg (by simp only [Nat.add_sub_cancel] at *;omega),if_pos (by simp only [Nat.add_sub_cancel] at *;omega)])),.nil⟩
  ·have em:m=0:=oM
   subst em
   exact i7 ⟨.ret _ _ (Y1 (by rw [← he];rfl)),.nil⟩
 ·exact i7 ⟨.ret _ _ (Y1 (by unfold O9;rw [if_neg oM,if_pos oM])),.nil⟩
 ·exact i7 ⟨.ret _ _ (Y1 (by unfold O9;rw [if_neg oM,if_neg oM])),.nil⟩
section
variable {U:q7} {P:J0→List Bx→Prop}
theorem e7t {e:Int} (h1:0≤e) (h2:e < 4294967296):wr .u32 e=e:=by
 rw [a1p];show e % 4294967296=e;omega
theorem b58 {e:Int} (h1:0≤e) (h2:e < 18446744073709551616):wr .u64 e=e:=by
 rw [a1p];show e % 18446744073709551616=e;omega
theorem a3s {e m:Int} {K:Int→Om} (he:e=m) (hr:0≤m∧m < 4294967296) (h:g8 U (K m) P):g8 U (U.fI (U.wr .u32 e) K) P:=fun e'=>by
 have:=h e';subst e' he;rw [U9]
 show ∃ v bs,K (wr .u32 e)=some (v,bs)∧P v bs
 rw [e7t hr.1 hr.2];exact this
theorem c0f {e m:Int} {K:Int→Om} (he:e=m) (hr:0≤m∧m < 18446744073709551616) (h:g8 U (K m) P):g8 U (U.fI (U.wr .u64 e) K) P:=fun e'=>by
 have:=h e';subst e' he;rw [U9]
 show ∃ v bs,K (wr .u64 e)=some (v,bs)∧P v bs
 rw [b58 hr.1 hr.2];exact this
end
def u1 (n:Nat):List (List G):=(k9 n).map lg
theorem a64 {a b:Nat} (h:u1 a=u1 b):a=b:=b6z (a2t h)
def e7j (ok:Nat→Nat→Prop) (R:Nat→Nat→o8):Sp where
 ι:={ p:Nat × Nat // (k9 p.1).length < 4800000∧(k9 p.2).length < 4800000∧ok p.1 p.2 }
 A p:=[.sl 1 (u1 p.1.1),.sl 1 (u1 p.1.2)]
 B _:=[]
 R p:=R p.1.1 p.1.2
 B' _:=[]
 inj i j vs bs h k _ _:=by
  obtain ⟨_,_,h1,k1,h,k⟩:=h.two k
  obtain ⟨_,_,h2,k2,h,k⟩:=h.two k
  rw [a64 (h1.sl_inj k1),a64 (h2.sl_inj k2)];exact ⟨rfl,rfl⟩
theorem L5 (l:List Nat) (i:Nat):k7 (l.take (i+1))=k7 (l.take i)+B9 ^ i * l.getD i 0:=by
 rcases Nat.lt_or_ge i l.length with h | h
 ·exact b60 l i h
 ·rw [List.take_of_length_le h,List.take_of_length_le oM];simp [List.getD,List.getElem?_eq_none h]
theorem d59 (l:List Nat) (i x:Nat):(l.set i x).take i=l.take i:=by
 rw [List.take_set_of_le (Nat.le_refl _)]
theorem a8f {x y:Nat} (h:y≤x):(k9 y).length≤(k9 x).length:=by
 have h1:=U5 (k9 x) (M3 x)
 rw [F8] at h1
 exact a68 oM
theorem b2u (n:Nat):LQ.LB (List.replicate n 0):=fun d h=>by rw [List.eq_of_mem_replicate h];decide
theorem b9l {l:List Nat} {i x:Nat} (h:i < l.length):(l.set i x).getD i 0=x:=by simp [List.getD,List.getElem?_set,h]
theorem a3m {a b out:List Nat} {i bor bor' x:Nat} (hi:i < out.length) (he:k7 (a.take i)+B9 ^ i * bor=k7 (out.take i)+k7 (b.take i)) (hx:a.getD i 0+1000000000 * bor'=x+b.getD i 0+bor) :
  k7 (a.take (i+1))+B9 ^ (i+1) * bor'=k7 ((out.set i x).take (i+1))+k7 (b.take (i+1)):=by
 rw [L5 a,L5 b,L5 (out.set i x),d59,b9l hi,Nat.pow_succ,Nat.mul_assoc]
 have h:=congrArg (B9 ^ i * ·) hx
 rw [show (1000000000:Nat)=B9 from rfl] at h
 simp only [Nat.mul_add] at h
 omega
theorem gD {l:List Nat} {i:Nat} (h:i < l.length):l[i]=l.getD i 0:=by simp only [List.getD,List.getElem?_eq_getElem h,Option.getD_some]
theorem gD0 {l:List Nat} {i:Nat} (h:l.length≤i):l.getD i 0=0:=by simp only [List.getD,List.getElem?_eq_none h,Option.getD_none]
theorem d1m {a b out:List Nat} {bor:Nat} (hol:out.length=a.length) (hyx:b.length≤a.length) (hxy:k7 b≤k7 a) (hLo:LQ.LB out) (hb:bor≤1) (he:k7 (a.take a.length)+B9 ^ a.length * bor=k7 (out.take a.length)+k7 (b.take a.length)):k7 out=k7 a - k7 b:=by
 rw [List.take_of_length_le (Nat.le_refl _),List.take_of_length_le oM,List.take_of_length_le oM] at he
 have h:=U5 out hLo
 rw [hol] at h
 rcases Nat.lt_or_ge bor 1 with h1 | h1
 ·have:bor=0:=oM
  subst this;omega
 ·have:bor=1:=oM
  subst this;omega
theorem e22 {U:q7} {fn:FF} {vs:List V} {bs:List Bx} (ht:Ans fn 123 (spM fun l=>.ret (.sl 1 ((D6 l).map lg)))) {a b:List Nat} (hx:a.length < 4800000) (hyx:b.length≤a.length) (hxy:k7 b≤k7 a) (hLa:LQ.LB a) (hLb:LQ.LB b) (hv:j6 [.sl 1 (a.map lg),.sl 1 (b.map lg)] vs) (hb:RBs [] bs) :
  g8 U (d5r U fn vs bs) fun v bs'=>j7 (.ret (.sl 1 (u1 (k7 a - k7 b)))) v∧RBs [] bs':=by
 unfold d5r
 (refine Zx ?_;intros)
 refine sZT (n:=1) (r:=lg 0) (fun _=>E7 (.i _ _)) rfl oM fun t' ht'=>?_
 (refine Zx ?_;intros)
 refine F3 (fun (i:Nat) vs bs=>∃ (t1:j0 Q) (o1:Nat) (t2:j0 Q) (o2:Nat) (t3:j0 Q) (out:List Nat) (bor:Nat),vs=[.slice t1 1 o1 a.length .no,.slice t2 1 o2 b.length .no,.bslice 0 a.length,.int .i64 bor,.int .i64 a.length,.int .i64 i]∧bs=[.row t3 a.length]∧n7 1 (a.map lg) t1 o1∧n7 1 (b.map lg) t2 o2∧n7 1 (out.map lg) t3 0∧out.length=a.length∧LQ.LB out∧i≤a.length∧bor≤1∧k7 (a.take i)+B9 ^ i * bor=k7 (out.take i)+k7 (b.take i)) (fun i=>a.length - i) 0 ?_ (by simp only [y8];omega) ?_
 ·exact ⟨_,_,_,_,t',List.replicate a.length 0,0,by simp only [Int.toNat_natCast];rfl,by simp,aS,aS,by simpa [List.map_replicate] using ht',by simp,b2u _,oM,oM,by simp [k7]⟩
 rintro self i _ _ ⟨t1,o1,t2,o2,t3,out,bor,rfl,rfl,h1,h2,h3,hol,hLo,hi,hbor,he⟩ ih
 (refine Zx ?_;with_reducible repeat' first|intro _|apply aI)
 ·have q1:a.getD i 0 < 1000000000:=a35 hLa i
  have q2:b.getD i 0 < 1000000000:=a35 hLb i
  rw [gD (l:=a) oM]
  refine b0s rfl oM ?_
  (refine Zx ?_;with_reducible repeat' first|intro _|apply aI)
  ·rw [gD (l:=b) oM]
   refine b0s rfl oM ?_
   (refine Zx ?_;with_reducible repeat' first|intro _|apply aI)
   ·(refine a3s (m:=((a.getD i 0+1000000000 - bor - b.getD i 0:Nat):Int)) oM oM ?_;(refine Zx ?_;with_reducible repeat' first|intro _|apply aI);refine a8u (r:=lg (a.getD i 0+1000000000 - bor - b.getD i 0)) h3 (fun _=>E7 (.i _ _)) rfl (by simp;omega) oM fun t9 h9=>?_;(refine Zx ?_;with_reducible repeat' first|intro _|apply aI);refine ih (i+1) _ _ ?_ oM;exact ⟨t1,o1,t2,o2,t9,out.set i (a.getD i 0+1000000000 - bor - b.getD i 0),1,by simp,by simp,h1,h2,by rw [List.map_set];simpa using h9,by simp [hol],a2m hLo _ _ (by show _ < 1000000000;omega),oM,oM,a3m oM he oM⟩)
   ·(refine a3s (m:=((a.getD i 0 - bor - b.getD i 0:Nat):Int)) oM oM ?_;(refine Zx ?_;with_reducible repeat' first|intro _|apply aI);refine a8u (r:=lg (a.getD i 0 - bor - b.getD i 0)) h3 (fun _=>E7 (.i _ _)) rfl (by simp;omega) oM fun t9 h9=>?_;(refine Zx ?_;with_reducible repeat' first|intro _|apply aI);refine ih (i+1) _ _ ?_ oM;exact ⟨t1,o1,t2,o2,t9,out.set i (a.getD i 0 - bor - b.getD i 0),0,by simp,by simp,h1,h2,by rw [List.map_set];simpa using h9,by simp [hol],a2m hLo _ _ (by show _ < 1000000000;omega),oM,oM,a3m oM he oM⟩)
  ·have e2:b.getD i 0=0:=gD0 oM
   (refine a3s (m:=((a.getD i 0+1000000000 - bor:Nat):Int)) oM oM ?_;(refine Zx ?_;with_reducible repeat' first|intro _|apply aI);refine a8u (r:=lg (a.getD i 0+1000000000 - bor)) h3 (fun _=>E7 (.i _ _)) rfl (by simp;omega) oM fun t9 h9=>?_;(refine Zx ?_;with_reducible repeat' first|intro _|apply aI);refine ih (i+1) _ _ ?_ oM;exact ⟨t1,o1,t2,o2,t9,out.set i (a.getD i 0+1000000000 - bor),1,by simp,by simp,h1,h2,by rw [List.map_set];simpa using h9,by simp [hol],a2m hLo _ _ (by show _ < 1000000000;omega),oM,oM,a3m oM he oM⟩)
  ·have e2:b.getD i 0=0:=gD0 oM
   (refine a3s (m:=((a.getD i 0 - bor:Nat):Int)) oM oM ?_;(refine Zx ?_;with_reducible repeat' first|intro _|apply aI);refine a8u (r:=lg (a.getD i 0 - bor)) h3 (fun _=>E7 (.i _ _)) rfl (by simp;omega) oM fun t9 h9=>?_;(refine Zx ?_;with_reducible repeat' first|intro _|apply aI);refine ih (i+1) _ _ ?_ oM;exact ⟨t1,o1,t2,o2,t9,out.set i (a.getD i 0 - bor),0,by simp,by simp,h1,h2,by rw [List.map_set];simpa using h9,by simp [hol],a2m hLo _ _ (by show _ < 1000000000;omega),oM,oM,a3m oM he oM⟩)
 ·have em:i=a.length:=oM
  subst em
  refine f9 ht ⟨out,by show out.length < 4800000;omega⟩ (r:=.sl 1 (u1 (k7 a - k7 b))) (by rw [← d1m hol hyx hxy hLo hbor he];show o8.ret (.sl 1 ((D6 out).map lg))=_;rw [a0r out hLo];rfl) (.k (.sl _ _ _ _ _ (by simp [hol]) h3) .nil) .nil fun _ _ _ _=>?_
  (refine Zx ?_;intros)
  exact i7 ⟨.ret _ _ (.sl _ _ _ _ _ (by simp [u1]) aS),.nil⟩
theorem d88:j4 108 (e7j (fun x y=>y≤x) fun x y=>.ret (.sl 1 (u1 (x - y)))):=l9 (fun fn h=>d96 h) [(123,_)] (.cons b4r .nil) fun U fn hfn ⟨(x,y),hx,hy,hxy⟩ vs bs hv hb=>by
 have h:=e22 (U:=U) (hfn 123 _ rfl) (a:=k9 x) (b:=k9 y) hx (a8f hxy) (by rw [F8,F8];exact hxy) (M3 x) (M3 y) hv hb
 rw [F8,F8] at h;exact h
section
variable {U:q7} {P:J0→List Bx→Prop}
theorem d2k {a b m:Int} {K:Int→Om} (he:a+b=m) (hr:0≤m∧m < 18446744073709551616) (h:g8 U (K m) P):g8 U (U.fI (U.wr .u64 (U.iAdd a b)) K) P:=fun e'=>by
 have:=h e';subst e';rw [U9]
 show ∃ v bs,K (wr .u64 (iAdd a b))=some (v,bs)∧P v bs
 rw [b6m,he,b58 hr.1 hr.2];exact this
theorem e6w {a b m:Int} {K:Int→Om} (he:a * b=m) (hr:0≤m∧m < 18446744073709551616) (h:g8 U (K m) P):g8 U (U.fI (U.wr .u64 (U.iMul a b)) K) P:=fun e'=>by
 have:=h e';subst e';rw [U9]
 show ∃ v bs,K (wr .u64 (iMul a b))=some (v,bs)∧P v bs
 rw [c53,he,b58 hr.1 hr.2];exact this
theorem e6x {n m:Nat} {K:Int→Om} (hn:n < 18446744073709551616) (h:g8 U (K ((n / m:Nat):Int)) P):g8 U (U.fI (U.wr .u64 (U.iQuo (n:Int) (m:Int))) K) P:=fun e'=>by
 have:=h e';subst e';rw [U9]
 show ∃ v bs,K (wr .u64 (iQuo (n:Int) (m:Int)))=some (v,bs)∧P v bs
 have hd:=Nat.div_le_self n m
 rw [b1f,show (n:Int).tdiv m=((n / m:Nat):Int) from (Int.ofNat_tdiv n m).symm,b58 (Int.natCast_nonneg _) oM];exact this
theorem sQV {x:Q} {K:Q→Om} (h:g8 U (K x) P):g8 U (U.uQ (.q x) K) P:=fun e=>by have:=h e;subst e;exact this
end
theorem c2c (l:List Nat) (n:Nat):k7 (l.take n)≤k7 l:=by
 have h:=Q2 (l.take n) (l.drop n)
 rw [List.take_append_drop] at h;omega
theorem d0x {l:List Nat} {k:Nat} (h:k7 l < B9 ^ k):l.getD k 0=0:=by
 have h1:=c2c l (k+1)
 rw [L5] at h1
 rcases Nat.eq_zero_or_pos (l.getD k 0) with h2 | h2
 ·exact h2
 ·have:=Nat.le_mul_of_pos_right (B9 ^ k) h2
  omega
theorem d9l {x y:Nat} (hx:x < 1000000000) (hy:y < 1000000000):x * y≤999999998000000001 :=
 Nat.le_trans (Nat.mul_le_mul (show x≤999999999 by omega) (show y≤999999999 by omega)) dE
theorem c9s {out b:List Nat} {i j c x L:Nat} (hj:i+j < out.length) (he:k7 out+B9 ^ (i+j) * c=L+B9 ^ i * x * k7 (b.take j)) :
  k7 (out.set (i+j) ((out.getD (i+j) 0+x * b.getD j 0+c) % 1000000000))+B9 ^ (i+(j+1)) * ((out.getD (i+j) 0+x * b.getD j 0+c) / 1000000000)=L+B9 ^ i * x * k7 (b.take (j+1)):=by
 have h:=c2b out (i+j) ((out.getD (i+j) 0+x * b.getD j 0+c) % 1000000000) hj
 rw [L5 b,Nat.mul_add,show i+(j+1)=(i+j)+1 by omega,Nat.pow_succ]
 have hd:=Nat.div_add_mod (out.getD (i+j) 0+x * b.getD j 0+c) 1000000000
 have h2:=congrArg (B9 ^ (i+j) * ·) hd
 simp only [Nat.mul_add] at h2
 rw [show B9 ^ i * x * (B9 ^ j * b.getD j 0)=B9 ^ (i+j) * (x * b.getD j 0) by rw [Nat.pow_add];ac_rfl,show B9 ^ (i+j) * B9 * ((out.getD (i+j) 0+x * b.getD j 0+c) / 1000000000)=B9 ^ (i+j) * (1000000000 * ((out.getD (i+j) 0+x * b.getD j 0+c) / 1000000000)) by rw [Nat.mul_assoc];rfl]
 omega
theorem d2y {out a b:List Nat} {i c:Nat} (hi:i+b.length < out.length) (hz:out.getD (i+b.length) 0=0) (he:k7 out+B9 ^ (i+b.length) * c=k7 (a.take i) * k7 b+B9 ^ i * a.getD i 0 * k7 (b.take b.length)) :
  k7 (out.set (i+b.length) c)=k7 (a.take (i+1)) * k7 b:=by
 have h:=c2b out (i+b.length) c hi
 rw [hz,Nat.mul_zero,Nat.add_zero] at h
 rw [List.take_of_length_le (Nat.le_refl _)] at he
 rw [L5 a,Nat.add_mul]
 omega
theorem c9t {out a b:List Nat} {i:Nat} (ha:LQ.LB a) (hb:LQ.LB b) (he:k7 out=k7 (a.take i) * k7 b) (hi:i≤a.length):out.getD (i+b.length) 0=0:=by
 refine d0x ?_
 have h1:=U5 (a.take i) (fun d hd=>ha d (List.mem_of_mem_take hd))
 rw [List.length_take,Nat.min_eq_left hi] at h1
 have h2:=U5 b hb
 rw [he,Nat.pow_add]
 exact Nat.mul_lt_mul'' h1 h2
section
theorem e7o {U:q7} {fn:FF} {vs:List V} {bs:List Bx} (ht:Ans fn 123 (spM fun l=>.ret (.sl 1 ((D6 l).map lg)))) {a b:List Nat} (hab:a.length+b.length < 4800000) (hLa:LQ.LB a) (hLb:LQ.LB b) (hv:j6 [.sl 1 (a.map lg),.sl 1 (b.map lg)] vs) (hb:RBs [] bs) :
  g8 U (d5s U fn vs bs) fun v bs'=>j7 (.ret (.sl 1 (u1 (k7 a * k7 b)))) v∧RBs [] bs':=by
 unfold d5s
 (refine Zx ?_;intros)
 refine sZT (n:=1) (r:=lg 0) (fun _=>E7 (.i _ _)) rfl oM fun t' ht'=>?_
 (refine Zx ?_;intros)
 refine F3 (fun (i:Nat) vs bs=>∃ (t1:j0 Q) (o1:Nat) (t2:j0 Q) (o2:Nat) (t3:j0 Q) (out:List Nat),vs=[.slice t2 1 o2 b.length .no,.bslice 0 (a.length+b.length),.slice t1 1 o1 a.length .no,.int .i64 a.length,.int .i64 i]∧bs=[.row t3 (a.length+b.length)]∧n7 1 (a.map lg) t1 o1∧n7 1 (b.map lg) t2 o2∧n7 1 (out.map lg) t3 0∧out.length=a.length+b.length∧LQ.LB out∧i≤a.length∧k7 out=k7 (a.take i) * k7 b) (fun i=>a.length - i) 0 ?_ (by simp only [y8];omega) ?_
 ·exact ⟨_,_,_,_,t',List.replicate (a.length+b.length) 0,by simp only [← Int.natCast_add,Int.toNat_natCast];rfl,by simp only [← Int.natCast_add,Int.toNat_natCast],aS,aS,by simpa [← Int.natCast_add,List.map_replicate] using ht',by simp,b2u _,oM,by simp [k7,c8g]⟩
 rintro self i _ _ ⟨t1,o1,t2,o2,t3,out,rfl,rfl,h1,h2,h3,hol,hLo,hi,he⟩ ih
 (refine Zx ?_;with_reducible repeat' first|intro _|apply aI)
 ·have hi':i < a.length:=oM
  have q1:a.getD i 0 < 1000000000:=a35 hLa i
  have hz:=c9t hLa hLb he hi
  rename_i x1 hx1 x2 hx2
  rw [gD (l:=a) hi'] at hx2
  refine F3 (fun (j:Nat) vs bs=>∃ (t1:j0 Q) (o1:Nat) (t2:j0 Q) (o2:Nat) (t4:j0 Q) (o4:Nat) (t3:j0 Q) (o:List Nat) (c:Nat),vs=[.slice t2 1 o2 b.length .no,.bslice 0 (a.length+b.length),.int .i64 i,.q x2,.int .u64 c,.slice t1 1 o1 a.length .no,.int .i64 a.length,.int .i64 i,.slice t4 1 o4 b.length .no,.int .i64 b.length,.int .i64 j]∧bs=[.row t3 (a.length+b.length)]∧n7 1 (a.map lg) t1 o1∧n7 1 (b.map lg) t2 o2∧n7 1 (b.map lg) t4 o4∧n7 1 (o.map lg) t3 0∧o.length=a.length+b.length∧LQ.LB o∧j≤b.length∧c < 1000000000∧o.getD (i+b.length) 0=0∧k7 o+B9 ^ (i+j) * c=k7 (a.take i) * k7 b+B9 ^ i * a.getD i 0 * k7 (b.take j)) (fun j=>b.length - j) 0 ⟨t1,o1,t2,o2,t2,o2,t3,out,0,rfl,rfl,h1,h2,h2,h3,hol,hLo,oM,oM,hz,by simp [k7,he]⟩ (by simp only [y8];omega) ?_
  clear h1 h2 h3
  rintro self' j _ _ ⟨t1,o1,t2,o2,t4,o4,t3,o,c,rfl,rfl,h1,h2,h4,h3,hol,hLo,hj,hc,hz,he⟩ ih'
  (refine Zx ?_;intros)
  refine sQV ?_
  (refine Zx ?_;with_reducible repeat' first|intro _|apply aI)
  ·have hj':j < b.length:=oM
   have q2:b.getD j 0 < 1000000000:=a35 hLb j
   have q3:o.getD (i+j) 0 < 1000000000:=a35 hLo (i+j)
   have q4:=d9l q1 q2
   rw [show ((i:Int)+j).toNat * 1=i+j by omega]
   refine e6v (g:=.i .u32 (o.getD (i+j) 0)) h3 (by rw [List.getElem?_map,List.getElem?_eq_getElem oM,gD oM];rfl) fun x98 hx98=>?_
   refine sCI hx98 ?_
   refine c0f rfl oM ?_
   refine sCI hx2 ?_
   refine c0f rfl oM ?_
   (refine Zx ?_;intros)
   rw [gD (l:=b) hj']
   refine c0f rfl oM ?_
   refine e6w (m:=((a.getD i 0 * b.getD j 0:Nat):Int)) (by rw [Int.natCast_mul]) oM ?_
   refine d2k (m:=((o.getD (i+j) 0+a.getD i 0 * b.getD j 0:Nat):Int)) (by rw [← Int.natCast_add]) oM ?_
   refine d2k (m:=((o.getD (i+j) 0+a.getD i 0 * b.getD j 0+c:Nat):Int)) (by rw [← Int.natCast_add]) oM ?_
   (refine Zx ?_;intros)
   have st:=c9s (out:=o) (b:=b) (x:=a.getD i 0) (L:=k7 (a.take i) * k7 b) oM he
   generalize hT:o.getD (i+j) 0+a.getD i 0 * b.getD j 0+c=T at st ⊢
   refine e6u (n:=T) (m:=1000000000) rfl rfl ?_
   refine a3s (m:=((T % 1000000000:Nat):Int)) rfl oM ?_
   (refine Zx ?_;intros)
   refine e6x (n:=T) (m:=1000000000) oM ?_
   (refine Zx ?_;intros)
   refine a8u (r:=lg (T % 1000000000)) h3 (fun _=>E7 (.i _ _)) rfl (by simp;omega) oM fun t9 h9=>?_
   (refine Zx ?_;intros)
   refine ih' (j+1) _ _ ?_ oM
   exact ⟨t1,o1,t2,o2,t4,o4,t9,o.set (i+j) (T % 1000000000),T / 1000000000,by simp,by simp,h1,h2,h4,by rw [List.map_set];simpa [← Int.natCast_add] using h9,by simp [hol],a2m hLo _ _ (by show _ < 1000000000;omega),oM,oM,by rw [b16 oM];exact hz,st⟩
  ·have ej:j=b.length:=oM
   subst ej
   refine a3s rfl oM ?_
   (refine Zx ?_;intros)
   refine a8u (r:=lg c) h3 (fun _=>E7 (.i _ _)) rfl (by simp;omega) oM fun t9 h9=>?_
   (refine Zx ?_;intros)
   refine ih (i+1) _ _ ?_ oM
   exact ⟨t1,o1,t2,o2,t9,o.set (i+b.length) c,by simp,by simp,h1,h2,by rw [List.map_set];simpa [← Int.natCast_add] using h9,by simp [hol],a2m hLo _ _ (by show _ < 1000000000;omega),oM,d2y oM hz he⟩
 ·have em:i=a.length:=oM
  subst em
  rw [List.take_of_length_le (Nat.le_refl _)] at he
  refine f9 ht ⟨out,by show out.length < 4800000;omega⟩ (r:=.sl 1 (u1 (k7 a * k7 b))) (by rw [← he];show o8.ret (.sl 1 ((D6 out).map lg))=_;rw [a0r out hLo];rfl) (.k (.sl _ _ _ _ _ (by simp [hol]) h3) .nil) .nil fun _ _ _ _=>?_
  (refine Zx ?_;intros)
  exact i7 ⟨.ret _ _ (.sl _ _ _ _ _ (by simp [u1]) aS),.nil⟩
theorem c6c:j4 127 (e7e (fun a b=>LQ.LB a∧LQ.LB b∧a.length+b.length < 4800000) fun a b=>.ret (.sl 1 (u1 (k7 a * k7 b)))):=l9 (fun fn h=>e0i h) [(123,_)] (.cons b4r .nil) fun U fn hfn ⟨(a,b),_,_,ha,hb',hl⟩ vs bs hv hb =>
 e7o (U:=U) (hfn 123 _ rfl) (a:=a) (b:=b) hl ha hb' hv hb
end
section
variable {U:q7} {P:J0→List Bx→Prop}
theorem e6r {g:Nat} {l cs:List V} {v:V} {K:List V→List V→Om} (hv:RV (.raw (.func (.func g) l cs)) v) (h:g8 U (K l cs) P):g8 U (U.uFn g v K) P:=fun e=>by
 cases hv
 have:=h e;subst e
 show ∃ v bs,cond (Nat.beq g g) (K l cs) none=some (v,bs)∧P v bs
 rw [Nat.beq_refl];exact this
theorem e6t {n m:Nat} {e M:Int} {K:Int→Om} (he:e=n) (hM:M=m) (h:g8 U (K ((n / m:Nat):Int)) P):g8 U (U.fI (U.iQuo e M) K) P:=by
 subst he hM
 exact e9a (by rw [Int.ofNat_tdiv] at *;exact h)
theorem f4j {g:Nat} {l cs:List V} {K:List V→List V→Om} (h:g8 U (K l cs) P):g8 U (U.uFn g (.func (.func g) l cs) K) P:=e6r (.raw _) h
theorem a3r {n:Nat} {v:V} {K:j0 Q→Nat→Nat→Om} (hv:RV (.c (.l (u1 n))) v) (h:∀ t off,n7 1 ((k9 n).map lg) t off→g8 U (K t off (k9 n).length) P):g8 U (U.uSl 1 0 v K) P :=
 f4l hv (fun r hr=>by obtain ⟨d,_,rfl⟩:=List.mem_map.1 hr;rfl) fun t off ht=>by
  have:=h t off ht
  rwa [show (u1 n).length=(k9 n).length by simp [u1]]
end
def clo:V:=.func (.func 126) [] [.ptr 0 0,.ptr 1 0]
theorem b3g {n:Nat} {t:j0 Q} {off k:Nat} (h:n7 1 ((k9 n).map lg) t off) (hk:k=(k9 n).length):RB [.l (u1 n)] (.cells [.slice t 1 off k .no]):=.cells _ _ (.k (.cl _ _ _ _ _ (by simp [u1,hk]) h) .nil)
theorem d9h {d:Nat} (h:d < 1000000000):(k9 d).length≤1:=a68 (k:=1) (by rw [Nat.pow_one];exact h)
theorem lb1 {d:Nat} (h:d < 1000000000):LQ.LB [d]:=fun x hx=>by simp at hx;subst hx;exact h
theorem c8f (d:Nat):k7 [d]=d:=by simp [k7]
theorem e6m {d:Nat}:n7 1 ([d].map lg) (.node (.int .u32 (d:Int)) .nil .nil) 0:=.cons _ _ _ _ _ rfl (E7 (.i _ _)).1 (fun g e=>(E7 (.i _ _)).2 g e) (.nil _ _ _)
theorem c4m {y m:Nat} (h:m < 1000000000):(k9 (y * m)).length≤(k9 y).length+1:=by
 have h1:=U5 (k9 y) (M3 y)
 rw [F8] at h1
 refine a68 ?_
 rw [Nat.pow_succ]
 exact Nat.mul_lt_mul'' h1 h
abbrev D1I:={ p:(Nat × Nat) × Nat // (k9 p.1.1).length < 2400000∧(k9 p.1.2).length < 4799999∧p.2 < 1000000000 }
theorem c2w {a b c d:Nat} {bs:List Bx} (h:RBs [[.l (u1 a)],[.l (u1 b)]] bs) (k:RBs [[.l (u1 c)],[.l (u1 d)]] bs):a=c∧b=d:=by
 cases h with
 | cons _ _ b1 bs h1 h2=>cases k with
  | cons _ _ _ _ k1 k2=>cases h2 with
   | cons _ _ _ _ h2 _=>cases k2 with
    | cons _ _ _ _ k2 _ =>
     have e1:=h1.inj k1
     have e2:=h2.inj k2
     injection e1 with e1;injection e1 with e1
     injection e2 with e2;injection e2 with e2
     exact ⟨a64 e1,a64 e2⟩
def f4p:Sp where
 ι:=D1I
 A p:=[.c (.i .i64 p.1.2),.p 0 0,.p 1 0]
 B p:=[[.l (u1 p.1.1.1)],[.l (u1 p.1.1.2)]]
 R p:=.ret (.c (.b (decide (p.1.1.2 < p.1.1.1 * p.1.2))))
 B' p:=[[.l (u1 p.1.1.1)],[.l (u1 p.1.1.2)]]
 inj i j vs bs h k hb kb:=by
  obtain ⟨e1,e2⟩:=c2w hb kb
  obtain ⟨_,_,h1,k1,h,k⟩:=h.two k
  have e3:=Z7 h1 k1
  have e3:i.1.2=j.1.2:=oM
  rw [e1,e2,e3];exact ⟨rfl,rfl⟩
def f4v:Sp where
 ι:={ p:Nat × Nat // (k9 p.1).length < 2400000∧(k9 p.2).length < 4799999∧p.1 ≠ 0∧p.2 < p.1 * 1000000000 }
 A p:=[.c (.i .i64 1000000000),.raw clo]
 B p:=[[.l (u1 p.1.1)],[.l (u1 p.1.2)]]
 R p:=.ret (.c (.i .i64 ((p.1.2 / p.1.1+1:Nat):Int)))
 B' p:=[[.l (u1 p.1.1)],[.l (u1 p.1.2)]]
 inj i j vs bs h k hb kb:=by
  obtain ⟨e1,e2⟩:=c2w hb kb
  rw [e1,e2];exact ⟨rfl,rfl⟩
section
theorem kD1:j4 126 f4p:=l9 (fun fn h=>e0h h) [(127,_),(124,_)] (.cons c6c (.cons b4n .nil)) fun U fn hfn ⟨((y,r),m),hy,hr,hm⟩ vs bs hv hb=>by
 have hv:j6 [.c (.i .i64 (m:Int)),.p 0 0,.p 1 0] vs:=hv
 have hb:RBs [[.l (u1 y)],[.l (u1 r)]] bs:=hb
 have hy:(k9 y).length < 2400000:=hy
 have hr:(k9 r).length < 4799999:=hr
 have hm:m < 1000000000:=hm
 show g8 U _ fun v bs'=>j7 (.ret (.c (.b (decide (r < y * m))))) v∧RBs [[.l (u1 y)],[.l (u1 r)]] bs'
 unfold e35
 (refine Zq ?_;intros)
 have ht:=hfn 127 _ rfl
 have hc:=hfn 124 _ rfl
 refine a3r aS fun tb ob htb=>?_
 (refine Zq ?_;intros)
 refine a3r aS fun tr or htr=>?_
 (refine Zq ?_;intros)
 refine a3s rfl oM ?_
 (refine Zq ?_;intros)
 have hl:=c4m (y:=y) hm
 refine f9 ht ⟨(k9 y,[m]),by show (k9 y).length < 4800000;omega,by show 1 < 4800000;omega,M3 y,lb1 hm,by show (k9 y).length+1 < 4800000;omega⟩ (r:=.sl 1 (u1 (y * m))) (by show o8.ret (.sl 1 (u1 (k7 (k9 y) * k7 [m])))=_;rw [F8,c8f]) (.k (.sl _ _ _ _ _ (by simp) htb) (.k (.sl _ _ _ _ _ rfl e6m) .nil)) .nil fun _ _ _ _=>?_
 (refine Zq ?_;intros)
 refine f9 hc ⟨(k9 (y * m),k9 r),by show (k9 (y * m)).length < 4800000;omega,by show (k9 r).length < 4800000;omega,trivial⟩ (r:=.c (.i .i64 (O9 (k9 (y * m)) (k9 r)))) rfl (.k (.sl _ _ _ _ _ (by simp [u1]) aS) (.k (.sl _ _ _ _ _ (by simp) htr) .nil)) .nil fun _ _ _ _=>?_
 (refine Zq ?_;intros)
 refine D5 fun e=>⟨.ret _ _ ?_,.k (b3g htb rfl) (.k (b3g htr rfl) .nil)⟩
 have eb:U.iLt 0 (O9 (k9 (y * m)) (k9 r))=decide (r < y * m):=by
  subst e
  show iLt 0 (O9 (k9 (y * m)) (k9 r))=_
  rw [Y6,c2r]
  by_cases h1:r < y * m
  ·rw [if_neg oM,if_pos h1];simp [h1]
  ·by_cases h2:y * m < r
   ·rw [if_pos h2];simp [h1]
   ·rw [if_neg h2,if_neg h1];simp [h1]
 rw [eb];exact .b _
theorem kSr:j4 125 f4v:=l9 (fun fn h=>e0g h) [(126,_)] (.cons kD1 .nil) fun U fn hfn ⟨(y,r),hy,hr,hy0,hr9⟩ vs bs hv hb=>by
 have hv:j6 [.c (.i .i64 1000000000),.raw clo] vs:=hv
 have hb:RBs [[.l (u1 y)],[.l (u1 r)]] bs:=hb
 have hy:(k9 y).length < 2400000:=hy
 have hr:(k9 r).length < 4799999:=hr
 have hy0:y ≠ 0:=hy0
 have hr9:r < y * 1000000000:=hr9
 show g8 U _ fun v bs'=>j7 (.ret (.c (.i .i64 ((r / y+1:Nat):Int)))) v∧RBs [[.l (u1 y)],[.l (u1 r)]] bs'
 have hd:=hfn 126 _ rfl
 have hq:r / y < 1000000000:=(Nat.div_lt_iff_lt_mul oM).2 (by rw [Nat.mul_comm];exact hr9)
 unfold e34
 (refine Zq ?_;intros)
 refine e6r aS ?_
 (refine Zq ?_;intros)
 refine a3r aS fun tb ob htb=>?_
 (refine Zq ?_;intros)
 refine a3r aS fun tr or htr=>?_
 (refine Zq ?_;intros)
 refine F3 (fun (k:Nat) vs bs=>∃ (i j:Nat) (tb:j0 Q) (ob:Nat) (tr:j0 Q) (or:Nat),vs=[.func (.func 126) [] [.ptr 0 0,.ptr 1 0],.int .i64 i,.int .i64 j]∧bs=[.cells [.slice tb 1 ob (k9 y).length .no],.cells [.slice tr 1 or (k9 r).length .no]]∧n7 1 ((k9 y).map lg) tb ob∧n7 1 ((k9 r).map lg) tr or∧i≤r / y+1∧r / y+1≤j∧j≤1000000000∧j - i < 2 ^ k) (fun k=>k) 30 ⟨0,1000000000,tb,ob,tr,or,rfl,rfl,htb,htr,Nat.zero_le _,oM,oM,dE⟩ dE ?_
 clear htb htr
 rintro self k _ _ ⟨i,j,tb,ob,tr,or,rfl,rfl,htb,htr,hi,hj,hj9,hk⟩ ih
 (refine Zq ?_;intros)
 refine f4j ?_
 (refine Zq ?_;with_reducible repeat' first|intro _|apply aI)
 ·refine c0f rfl oM ?_
  (refine Zq ?_;intros)
  refine e6t (n:=i+j) (m:=2) oM rfl ?_
  have hm:(i+j) / 2 < 1000000000:=oM
  refine b0s rfl oM ?_
  obtain ⟨k,rfl⟩:∃ n,k=n+1:=by
   cases k with
   | zero=>exact absurd hk oM
   | succ n=>exact ⟨n,rfl⟩
  have hk':(2:Nat) ^ (k+1)=2 * 2 ^ k:=by rw [Nat.pow_succ];omega
  refine f9 hd ⟨((y,r),(i+j) / 2),hy,hr,hm⟩ (r:=.c (.b (decide (r < y * ((i+j) / 2))))) rfl (.k (.i _ _) (.k (.p _ _) (.k (.p _ _) .nil))) (.k (b3g htb rfl) (.k (b3g htr rfl) .nil)) fun _ _ _ hb9=>?_
  have hb9:RBs [[.l (u1 y)],[.l (u1 r)]] _:=hb9
  have hdiv:r < y * ((i+j) / 2)↔r / y < (i+j) / 2:=by rw [Nat.div_lt_iff_lt_mul oM,Nat.mul_comm]
  (refine Zq ?_;intros)
  refine a3r aS fun tb ob htb=>?_
  (refine Zq ?_;intros)
  refine a3r aS fun tr or htr=>?_
  (refine Zq ?_;with_reducible repeat' first|intro _|apply aI)
  ·have hc:r < y * ((i+j) / 2):=of_decide_eq_true ‹_›
   exact ih k _ _ ⟨i,(i+j) / 2,tb,ob,tr,or,rfl,rfl,htb,htr,hi,hdiv.1 hc,oM,oM⟩ oM
  ·have hc:¬r < y * ((i+j) / 2):=fun h=>‹¬decide (r < y * ((i+j) / 2))=true› (decide_eq_true h)
   have hc':¬r / y < (i+j) / 2:=fun h=>hc (hdiv.2 h)
   exact ih k _ _ ⟨(i+j) / 2+1,j,tb,ob,tr,or,rfl,rfl,htb,htr,oM,hj,hj9,oM⟩ oM
 ·have e:i=r / y+1:=oM
  subst e
  exact i7 ⟨.ret _ _ (.i _ _),.k (b3g htb rfl) (.k (b3g htr rfl) .nil)⟩
end
theorem b9k {l:List Nat} {i x:Nat} (h:i < l.length):(l.set i x).drop i=x :: l.drop (i+1):=by
 rw [List.drop_eq_getElem_cons (by simpa using h)]
 simp [List.drop_set_of_lt (show i < i+1 by omega)]
theorem d3x {out a:List Nat} {m r y:Nat} (ho:m < out.length) (ha:m < a.length) (he:k7 (out.drop (m+1)) * y+r=k7 (a.drop (m+1))) :
  k7 ((out.set m ((a.getD m 0+B9 * r) / y)).drop m) * y+(a.getD m 0+B9 * r) % y=k7 (a.drop m):=by
 rw [b9k ho,d1h a m ha,← he]
 show ((a.getD m 0+B9 * r) / y+B9 * k7 (out.drop (m+1))) * y+_=_
 have h:=Nat.div_add_mod (a.getD m 0+B9 * r) y
 rw [Nat.add_mul,Nat.mul_add,show (a.getD m 0+B9 * r) / y * y=y * ((a.getD m 0+B9 * r) / y) from Nat.mul_comm _ _,Nat.mul_assoc]
 omega
theorem d8q {out a:List Nat} {r y:Nat} (hr:r < y) (he:k7 out * y+r=k7 a):k7 out=k7 a / y∧r=k7 a % y:=by
 have hy:0 < y:=oM
 rw [← he,Nat.mul_comm,Nat.mul_add_div hy,Nat.mul_add_mod,Nat.div_eq_of_lt hr,Nat.mod_eq_of_lt hr];simp
theorem e2a {a r y:Nat} (ha:a < 1000000000) (hr:r < y):(a+B9 * r) / y < 1000000000:=by
 refine (Nat.div_lt_iff_lt_mul oM).2 ?_
 have:B9 * r+B9≤B9 * y:=by rw [← Nat.mul_succ];exact Nat.mul_le_mul_left _ hr
 have e:1000000000 * y=B9 * y:=rfl
 have e':B9=1000000000:=rfl
 omega
theorem c19 {d r:Nat} (h:d < B9):(k9 (d+B9 * r)).length≤(k9 r).length+1:=by
 have h1:=U5 (k9 r) (M3 r)
 rw [F8] at h1
 refine a68 ?_
 rw [Nat.pow_succ,Nat.mul_comm (B9 ^ _) B9]
 have e':B9=1000000000:=rfl
 have:B9 * r+B9≤B9 * B9 ^ (k9 r).length:=by rw [← Nat.mul_succ];exact Nat.mul_le_mul_left _ h1
 omega
def f4f (x y:Nat):Prop:=y ≠ 0∧(k9 x).length < 2160000∧(k9 y).length < 2160000
section
theorem c1u:j4 105 (e7j f4f fun x y=>.ret (.t [.sl 1 (u1 (x / y)),.sl 1 (u1 (x % y))])):=l9 (fun fn h=>d95 h) [(123,_),(127,_),(124,_),(108,_),(125,_)] (.cons b4r (.cons c6c (.cons b4n (.cons d88 (.cons kSr .nil))))) fun U fn hfn ⟨(x,y),_,_,hy0,hx,hy⟩ vs bs hv hb=>by
 have hv:j6 [.sl 1 (u1 x),.sl 1 (u1 y)] vs:=hv
 have hb:RBs [] bs:=hb
 have hy0:y ≠ 0:=hy0
 have hx:(k9 x).length < 2160000:=hx
 have hy:(k9 y).length < 2160000:=hy
 show g8 U _ fun v bs'=>j7 (.ret (.t [.sl 1 (u1 (x / y)),.sl 1 (u1 (x % y))])) v∧RBs [] bs'
 have htr:=hfn 123 _ rfl
 have hti:=hfn 127 _ rfl
 have hco:=hfn 124 _ rfl
 have hmi:=hfn 108 _ rfl
 have hse:=hfn 125 _ rfl
 unfold u1 at hv
 have hLa:=M3 x
 have hLb:=M3 y
 unfold e3q
 (refine Zq ?_;intros)
 refine sZT (n:=1) (r:=lg 0) (fun _=>E7 (.i _ _)) rfl oM fun t' ht'=>?_
 (refine Zq ?_;intros)
 refine F3 (fun (m:Nat) vs bs=>∃ (i:Int) (t1:j0 Q) (o1:Nat) (tb:j0 Q) (ob:Nat) (vr:V) (t3:j0 Q) (out:List Nat) (r:Nat) (v6:V),vs=[.slice t1 1 o1 (k9 x).length .no,.ptr 0 0,.bslice 1 (k9 x).length,.ptr 2 0,.int .i64 i,v6]∧bs=[.cells [.slice tb 1 ob (k9 y).length .no],.row t3 (k9 x).length,.cells [vr]]∧i=m - 1∧RV (.c (.l (u1 r))) vr∧n7 1 ((k9 x).map lg) t1 o1∧n7 1 ((k9 y).map lg) tb ob∧n7 1 (out.map lg) t3 0∧out.length=(k9 x).length∧LQ.LB out∧m≤(k9 x).length∧r < y∧k7 (out.drop m) * y+r=k7 ((k9 x).drop m)) (fun m=>m) (k9 x).length ?_ (by simp only [y8];omega) ?_
 ·exact ⟨_,_,_,_,_,_,t',List.replicate (k9 x).length 0,0,_,by simp only [Int.toNat_natCast];rfl,by simp only [Int.toNat_natCast];rfl,rfl,.cl _ _ _ _ _ (by simp [u1,F7]) (by simp only [u1,F7];exact .nil _ _ _),aS,aS,by simpa [List.map_replicate] using ht',by simp,b2u _,oM,oM,by simp [k7]⟩
 rintro self m _ _ ⟨i,t1,o1,tb,ob,vr,t3,out,r,v6,rfl,rfl,hi,hvr,h1,hbb,h3,hol,hLo,hm,hry,he⟩ ih
 have hrl:(k9 r).length≤(k9 y).length:=a8f oM
 (refine Zq ?_;intros)
 refine a3r aS fun tr or htr'=>?_
 (refine Zq ?_;with_reducible repeat' first|intro _|apply aI)
 ·obtain ⟨n,rfl⟩:∃ n:Nat,i=n:=⟨i.toNat,oM⟩
  have em:m=n+1:=oM
  subst em
  have q1:(k9 x).getD n 0 < 1000000000:=a35 hLa n
  refine b7f n h1 rfl oM fun x59 hx59=>?_
  refine b5o hx59 rfl fun x60 hx60=>?_
  (refine Zq ?_;intros)
  refine sAT (n:=1) (xs:=[lg ((k9 x).getD n 0)]) (ys:=(k9 r).map lg) (.cons _ _ _ _ _ rfl (E7 hx60).1 (fun g e=>(E7 hx60).2 g e) (.nil _ _ _)) htr' rfl (by simp) (by simp;omega) fun t62 h62=>?_
  have hR:=c19 (d:=(k9 x).getD n 0) (r:=r) q1
  have hRl:=d4u ((k9 x).getD n 0) r q1
  have hst:=d3x (out:=out) (a:=k9 x) (m:=n) (r:=r) (y:=y) oM oM he
  have hdl:=e2a q1 hry
  generalize hRR:(k9 x).getD n 0+B9 * r=R at *
  refine f9 htr ⟨(k9 x).getD n 0 :: k9 r,by show (k9 r).length+1 < 4800000;omega⟩ (r:=.sl 1 (u1 R)) (by show o8.ret (.sl 1 ((D6 ((k9 x).getD n 0 :: k9 r)).map lg))=_;rw [hRl];rfl) (.k (.sl _ _ _ _ _ (by simp;omega) h62) .nil) .nil fun _ _ _ _=>?_
  (refine Zq ?_;intros)
  refine f9 hco ⟨(k9 R,k9 y),by show (k9 R).length < 4800000;omega,by show (k9 y).length < 4800000;omega,trivial⟩ (r:=.c (.i .i64 (if R < y then -1 else if y < R then 1 else 0))) (by show o8.ret (.c (.i .i64 (O9 (k9 R) (k9 y))))=_;rw [c2r]) (.k (.sl _ _ _ _ _ (by simp [u1]) aS) (.k (.sl _ _ _ _ _ (by simp) hbb) .nil)) .nil fun _ _ _ _=>?_
  (refine Zq ?_;with_reducible repeat' first|intro _|apply aI)
  ·have hge:¬R < y:=fun h=>by
    rw [if_pos h] at *
    omega
   obtain ⟨q,hqe⟩:∃ q,q=R / y:=⟨_,rfl⟩
   rw [← hqe] at hst
   have hdl9:=hdl
   rw [← hqe] at hdl
   refine f9 hse ⟨(y,R),by show (k9 y).length < 2400000;omega,by show (k9 R).length < 4799999;omega,hy0,(Nat.div_lt_iff_lt_mul oM).1 hdl9 |> fun h=>by rw [Nat.mul_comm];exact h⟩ (r:=.c (.i .i64 ((q+1:Nat):Int))) (by rw [hqe];rfl) (.k (.i _ _) (.k (.raw _) .nil)) (.k (b3g hbb rfl) (.k (.cells _ _ (.k (.cl _ _ _ _ _ (by simp [u1]) aS) .nil)) .nil)) fun _ _ _ hb9=>?_
   have hb9:RBs [[.l (u1 y)],[.l (u1 R)]] _:=hb9
   (refine Zq ?_;intros)
   refine a3r aS fun tb ob htb=>?_
   (refine Zq ?_;intros)
   refine a3r aS fun tR oR htR=>?_
   (refine Zq ?_;intros)
   refine a3s (m:=(q:Int)) oM oM ?_
   (refine Zq ?_;intros)
   refine f9 htr ⟨[q],by show 1 < 4800000;omega⟩ (r:=.sl 1 (u1 q)) (by show o8.ret (.sl 1 ((D6 [q]).map lg))=_;rw [a0r [q] (lb1 hdl),c8f];rfl) (.k (.sl _ _ _ _ _ rfl e6m) .nil) .nil fun _ _ _ _=>?_
   (refine Zq ?_;intros)
   have hq1:=d9h hdl
   refine f9 hti ⟨(k9 y,k9 q),by show (k9 y).length < 4800000;omega,by show (k9 q).length < 4800000;omega,M3 y,M3 q,by show (k9 y).length+(k9 q).length < 4800000;omega⟩ (r:=.sl 1 (u1 (y * q))) (by show o8.ret (.sl 1 (u1 (k7 (k9 y) * k7 (k9 q))))=_;rw [F8,F8]) (.k (.sl _ _ _ _ _ (by simp) htb) (.k (.sl _ _ _ _ _ (by simp [u1]) aS) .nil)) .nil fun _ _ _ _=>?_
   (refine Zq ?_;intros)
   have hle:y * q≤R:=by rw [hqe];exact Nat.mul_div_le R y
   have hsub:R - y * q=R % y:=by have:=Nat.div_add_mod R y;rw [← hqe] at this;omega
   have hml:=a8f hle
   refine f9 hmi ⟨(R,y * q),by show (k9 R).length < 4800000;omega,by show (k9 (y * q)).length < 4800000;omega,hle⟩ (r:=.sl 1 (u1 (R % y))) (by show o8.ret (.sl 1 (u1 (R - y * q)))=_;rw [hsub]) (.k (.sl _ _ _ _ _ (by simp [u1]) htR) (.k (.sl _ _ _ _ _ (by simp [u1]) aS) .nil)) .nil fun _ _ _ _=>?_
   (refine Zq ?_;intros)
   refine a8u (r:=lg (q)) h3 (fun _=>E7 (.i _ _)) rfl (by simp;omega) oM fun t9 h9=>?_
   (refine Zq ?_;intros)
   refine ih n _ _ ⟨_,t1,o1,_,_,_,t9,out.set n (q),R % y,_,rfl,rfl,rfl,.cl _ _ _ _ _ (by simp [u1]) aS,h1,aS,by rw [List.map_set];simpa using h9,by simp [hol],a2m hLo _ _ (by show _ < 1000000000;omega),oM,Nat.mod_lt _ oM,hst⟩ oM
  ·have hlt:R < y:=by
    by_cases h:R < y
    ·exact h
    ·exfalso;rw [if_neg h] at *;split at * <;> omega
   rw [Nat.div_eq_of_lt hlt] at hst
   have hmod:=Nat.mod_eq_of_lt hlt
   rw [hmod] at hst
   (refine Zq ?_;intros)
   refine a8u (r:=lg (0)) h3 (fun _=>E7 (.i _ _)) rfl (by simp;omega) oM fun t9 h9=>?_
   (refine Zq ?_;intros)
   refine ih n _ _ ⟨_,t1,o1,_,_,_,t9,out.set n (0),R,_,rfl,rfl,rfl,.cl _ _ _ _ _ (by simp [u1]) aS,h1,aS,by rw [List.map_set];simpa using h9,by simp [hol],a2m hLo _ _ (by show _ < 1000000000;omega),oM,hlt,hst⟩ oM
 ·have em:m=0:=oM
  subst em
  simp only [List.drop_zero] at he
  obtain ⟨hd1,hd2⟩:=d8q hry he
  rw [F8] at hd1 hd2
  refine f9 htr ⟨out,by show out.length < 4800000;omega⟩ (r:=.sl 1 (u1 (x / y))) (by rw [← hd1];show o8.ret (.sl 1 ((D6 out).map lg))=_;rw [a0r out hLo];rfl) (.k (.sl _ _ _ _ _ (by simp [hol]) h3) .nil) .nil fun _ _ _ _=>?_
  (refine Zq ?_;intros)
  rw [← hd2]
  exact i7 ⟨.ret _ _ (.t _ _ (.k (.sl _ _ _ _ _ (by simp [u1]) aS) (.k (.sl _ _ _ _ _ (by simp [u1]) aS) .nil))),.nil⟩
end
end
end Go.Proofs.YtgipbdffgfbedaaGreatDoor
