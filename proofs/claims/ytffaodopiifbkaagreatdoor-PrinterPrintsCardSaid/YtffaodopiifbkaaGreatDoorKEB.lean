/- The program's reader: comments, blanks. -/
import Derived.Test.YtffaodopiifbkaaGreatDoorKEA
set_option linter.all false
namespace Go.Proofs.YtffaodopiifbkaaGreatDoor
open Go.Abs LQ
set_option maxRecDepth 100000
set_option maxHeartbeats 4000000
noncomputable section
abbrev a1c (e p:Int):n5:=.pan (.fl 122 e p)
theorem b6b:j5 51 { ι:=Int × Int,A:=fun p=>[.c (.i .i64 p.1),.c (.i .i64 p.2)],B:=fun _=>[],R:=fun p=>a1c p.1 p.2,B':=fun _=>[],inj:=fun i j vs bs h k _ _=>(by
  obtain ⟨_,_,h1,k1,h,k⟩:=h.two k
  obtain ⟨_,_,h2,k2,h,k⟩:=h.two k
  rw [a1q h1 k1,a1q h2 k2];exact ⟨rfl,rfl⟩) }:=k8 (fun fn h=>e7b h) [] .nil fun U fn hfn ⟨e,p⟩ vs bs hv hb=>by
 have hv:j6 [.c (.i .i64 e),.c (.i .i64 p)] vs:=hv
 have hb:g9 [] bs:=hb
 show g8 U _ fun v bs'=>j7 (a1c e p) v∧g9 [] bs'
 unfold r51
 (refine Zq ?_;intros)
 exact i6 ⟨.pan _ _ (.fl _ _ _ _ j4),.nil⟩
def f4l (ok:f4→Nat→Prop) (R:f4→Nat→n5) (b:f4→Nat→Nat):Sp where
 ι:={ p:ScI // ok p.1.1 p.1.2 }
 A _:=[.p 0 0]
 B p:=[G1 p.1.1.1 p.1.1.2]
 R p:=R p.1.1.1 p.1.1.2
 B' p:=[G1 p.1.1.1 (b p.1.1.1 p.1.1.2)]
 inj i j vs bs _ _ h k:=by
  have:=a4k (g9.one_inj h k)
  rw [this.1,this.2];exact ⟨rfl,rfl⟩
theorem d0x {s:f4} {i:Nat} {a b:UInt8} (hi:i≤s.length):Q2 (s.drop i) [a,b]=has s i a.toNat b.toNat:=by
 unfold Q2 has
 by_cases h:i+1 < s.length
 ·have e:(s.drop i).take 2=[s[i],s[i+1]]:=by
   rw [List.drop_eq_getElem_cons oM,List.drop_eq_getElem_cons oM];rfl
  have b0:bt s i=s[i].toNat:=by unfold bt;simp [List.getD,List.getElem?_eq_getElem (show i < s.length by omega)]
  have b1:bt s (i+1)=s[i+1].toNat:=by unfold bt;simp [List.getD,List.getElem?_eq_getElem h]
  rw [Bool.eq_iff_iff,decide_eq_true_iff,decide_eq_true_iff,b0,b1]
  simp only [List.length_cons,List.length_nil,List.length_drop,e,List.cons.injEq,and_true]
  constructor
  ·rintro ⟨_,h1,h2⟩;rw [h1,h2];exact ⟨h,rfl,rfl⟩
  ·rintro ⟨_,h1,h2⟩
   exact ⟨oM,UInt8.toNat_inj.1 oM,UInt8.toNat_inj.1 oM⟩
 ·rw [Bool.eq_iff_iff,decide_eq_true_iff,decide_eq_true_iff]
  simp only [List.length_cons,List.length_nil,List.length_drop]
  constructor
  ·rintro ⟨h1,_⟩;omega
  ·rintro ⟨h1,_⟩;omega
theorem d2k:k7 2 31779=[35,124]:=dE
theorem e98:k7 2 9084=[124,35]:=dE
theorem f2k:k7 2 14906=[58,58]:=dE
def a6k (s:f4) (i:Nat):Option Nat:=C7 s (i+2) 1
def a6h (s:f4) (i:Nat):n5:=match a6k s i with
 | some _=>.ret (.t [])
 | none=>a1c 11 s.length
def a9b (s:f4) (i:Nat):Nat:=(a6k s i).getD i
theorem e8u {s:f4} {j d:Nat} (h:j < s.length) (hh:has s j 35 124=true):C7 s j (d+1)=C7 s (j+2) (d+2):=by rw [C7,if_neg oM,if_pos h,if_pos hh]
theorem c73 {s:f4} {j d:Nat} (h:j < s.length) (hh:¬has s j 35 124=true) (h2:has s j 124 35=true):C7 s j (d+1)=C7 s (j+2) d:=by rw [C7,if_neg oM,if_pos h,if_neg hh,if_pos h2];rfl
theorem e6x {s:f4} {j d:Nat} (h:j < s.length) (hh:¬has s j 35 124=true) (h2:¬has s j 124 35=true):C7 s j (d+1)=C7 s (j+1) (d+1):=by rw [C7,if_neg oM,if_pos h,if_neg hh,if_neg h2]
theorem e5y {s:f4} {j d:Nat} (h:¬j < s.length):C7 s j (d+1)=none:=by rw [C7,if_neg oM,if_neg h]
theorem f4q (s:f4) (j:Nat):C7 s j 0=some j:=by rw [C7,if_pos rfl]
theorem d47:j5 161 (f4l (fun s i=>has s i 35 124=true) a6h a9b):=k8 (fun fn h=>e4f h) [(135,_),(160,_),(51,_)] (.cons b5a (.cons b7m (.cons b6b .nil))) fun U fn hfn ⟨⟨(s,i),h1,h2⟩,h3⟩ vs bs hv hb=>by
 have hm:=hfn 135 _ rfl
 have hs:=hfn 160 _ rfl
 have hf:=hfn 51 _ rfl
 have hv:j6 [.p 0 0] vs:=hv
 have hb:g9 [[.s s,.i .i64 (i:Int)]] bs:=hb
 have h1:i≤s.length:=h1
 have h2:s.length < 90000:=h2
 have h3:has s i 35 124=true:=h3
 show g8 U _ fun v bs'=>j7 (a6h s i) v∧g9 [G1 s (a9b s i)] bs'
 unfold d90
 (refine Zq ?_;intros)
 have h4:=W6 h3
 refine D3 (fun (p:Nat × Nat) vs bs=>vs=[.ptr 0 0,.int .i64 (p.2:Int)]∧g9 [G1 s p.1] bs∧p.1≤s.length∧(p=(i,0)∨∃ d,p.2=d+1∧d≤p.1∧C7 s p.1 (d+1)=a6k s i)) (fun p=>s.length - p.1) (i,0) ⟨rfl,Y1 rfl,h1,.inl rfl⟩ (by simp only [v8];omega) ?_
 rintro self ⟨j,d⟩ vs bs ⟨rfl,hb,hj,hd⟩ ih
 have hb:g9 [[.s s,.i .i64 (j:Int)]] bs:=hb
 have hj:j≤s.length:=hj
 have hdj:d≤j+1:=by
  rcases hd with hd | ⟨d',hd,h,_⟩
  ·injection hd with _ hd;omega
  ·have hd:d=d'+1:=hd
   have h:d'≤j:=h
   omega
 (refine Zq ?_;intros)
 refine f5 hm ⟨(s,j),hj,h2⟩ (r:=.c (.b (decide (j < s.length)))) rfl j4 (RB.bx aS rfl) fun _ _ _ hb=>?_
 have hb:g9 [[.s s,.i .i64 (j:Int)]] _:=hb
 (refine Zq ?_;with_reducible repeat' first|intro _|apply aI)
 ·have hlt:j < s.length:=of_decide_eq_true ‹_›
  refine f5 hs ⟨⟨(s,j),hj,h2⟩,k7 2 31779⟩ (r:=.c (.b (Q2 (s.drop j) (k7 2 31779)))) rfl j4 (RB.bx aS rfl) fun _ _ hv hb=>?_
  have hb:g9 [[.s s,.i .i64 (j:Int)]] _:=hb
  rw [d2k,d0x hj] at hv
  (refine Zq ?_;with_reducible repeat' first|intro _|apply aI)
  ·have hh:has s j 35 124=true:=‹_›
   have hlt2:=W6 hh
   refine fun e=>ih (j+2,d+1) _ _ ⟨by simp,scQ e aS oM,by simp;omega,.inr ⟨d,rfl,by simp;omega,?_⟩⟩ (by simp;omega) e
   rcases hd with hd | ⟨d',hd,h,he⟩
   ·injection hd with h1 hd;subst h1 hd;rfl
   ·have hd:d=d'+1:=hd
    subst hd
    rw [← he];exact (e8u hlt hh).symm
  ·have hh:¬has s j 35 124=true:=‹_›
   refine f5 hs ⟨⟨(s,j),hj,h2⟩,k7 2 9084⟩ (r:=.c (.b (Q2 (s.drop j) (k7 2 9084)))) rfl j4 (RB.bx aS rfl) fun _ _ hv hb=>?_
   have hb:g9 [[.s s,.i .i64 (j:Int)]] _:=hb
   rw [e98,d0x hj] at hv
   obtain ⟨d',hd,h,he⟩:∃ d',d=d'+1∧d'≤j∧C7 s j (d'+1)=a6k s i:=by
    rcases hd with hd | hd
    ·injection hd with h1 hd;subst h1;exact absurd h3 hh
    ·exact hd
   subst hd
   (refine Zq ?_;with_reducible repeat' first|intro _|apply aI)
   ·have hk:has s j 124 35=true:=‹_›
    have hlt2:=W6 hk
    have hz:d'=0:=oM
    subst hz
    have ho:a6k s i=some (j+2):=by rw [← he,c73 hlt hh hk,f4q]
    have e1:a6h s i=.ret (.t []):=by unfold a6h;rw [ho]
    have e2:a9b s i=j+2:=by unfold a9b;rw [ho];rfl
    rw [e1,e2]
    exact D8 fun e=>⟨.ret _ _ (.t _ _ .nil),scQ e aS oM⟩
   ·have hk:has s j 124 35=true:=‹_›
    have hlt2:=W6 hk
    refine fun e=>ih (j+2,d') _ _ ⟨by simp,scQ e aS oM,by simp;omega,.inr ⟨d' - 1,by simp;omega,by simp;omega,?_⟩⟩ (by simp;omega) e
    rw [← he,c73 hlt hh hk,show d' - 1+1=d' by omega]
   ·have hk:¬has s j 124 35=true:=‹_›
    refine fun e=>ih (j+1,d'+1) _ _ ⟨by simp,scQ e aS oM,by simp;omega,.inr ⟨d',rfl,by simp;omega,?_⟩⟩ (by simp;omega) e
    rw [← he,e6x hlt hh hk]
 ·have hlt:¬j < s.length:=fun h=>‹¬decide (j < s.length)=true› (decide_eq_true h)
  obtain ⟨d',hd,h,he⟩:∃ d',d=d'+1∧d'≤j∧C7 s j (d'+1)=a6k s i:=by
   rcases hd with hd | hd
   ·injection hd with h1 hd;subst h1;omega
   ·exact hd
  have ho:a6k s i=none:=by rw [← he,e5y hlt]
  have e1:a6h s i=a1c 11 s.length:=by unfold a6h;rw [ho]
  have e2:a9b s i=i:=by unfold a9b;rw [ho];rfl
  rw [e1,e2]
  refine P7 hf (11,(s.length:Int)) (r:=.fl 122 11 s.length) rfl j4 .nil fun _ hv=>?_
  exact a1k hv (Y1 rfl)
def c9c:Sp:=d7o .i32 (fun s r=>0≤r∧(r < 128∨r < 256∧s=k7 4 218761504)) fun s r=>.c (.b (decide (r < 128∧0≤Lib.indexByte s r.toNat.toUInt8)))
theorem d3a (c:Int) (h1:0≤c) (h2:c < 256):(decide (c < 128∧0≤Lib.indexByte (k7 4 218761504) c.toNat.toUInt8))=F4 c:=by
 obtain ⟨n,rfl⟩:∃ n:Nat,c=n:=⟨c.toNat,oM⟩
 rw [Int.toNat_natCast]
 have h3:n < 256:=oM
 have key:∀ n:Fin 256,(decide ((n.1:Int) < 128∧0≤Lib.indexByte (k7 4 218761504) n.1.toUInt8))=F4 n.1:=dE
 exact key ⟨n,h3⟩
def a01 (s:f4) (i:Nat):n5:=match LQ.skip s i with
 | some _=>.ret (.t [])
 | none=>a1c 11 s.length
def a2f (s:f4) (i:Nat):Nat:=(LQ.skip s i).getD i
theorem c5h (s:f4) (i:Nat) (hi:i≤s.length):(K7 s i:Int)=i+(if Lib.indexByte (s.drop i) 10 < 0 then (s.length:Int) - i else Lib.indexByte (s.drop i) 10):=by
 generalize hm:s.length - i=m
 induction m generalizing i with
 | zero =>
  have:i=s.length:=oM
  subst this
  rw [K7,if_neg oM,List.drop_length]
  simp [Lib.indexByte]
 | succ m ih =>
  have hlt:i < s.length:=oM
  have b0:bt s i=s[i].toNat:=by unfold bt;simp [List.getD,List.getElem?_eq_getElem hlt]
  have hge:=(R7 (s.drop (i+1)) 10).2
  have ex:Lib.indexByte (s.drop i) 10=if s[i]=10 then 0 else if Lib.indexByte (s.drop (i+1)) 10=-1 then -1 else Lib.indexByte (s.drop (i+1)) 10+1:=by
   rw [List.drop_eq_getElem_cons hlt]
   simp only [Lib.indexByte,beq_iff_eq]
  rw [ex,K7,if_pos hlt]
  by_cases h:s[i]=10
  ·rw [if_pos (by rw [b0,h];rfl)];simp [h]
  ·have h':¬bt s i=10:=fun e=>h (UInt8.toNat_inj.1 (by rw [b0] at e;show s[i].toNat=10;omega))
   rw [if_neg h',ih (i+1) oM oM]
   simp only [h,if_false]
   generalize Lib.indexByte (s.drop (i+1)) 10=x at *
   by_cases hz:x=-1
   ·subst hz;simp;omega
   ·simp only [hz,if_false]
    rw [if_neg oM,if_neg oM];push_cast;omega
theorem f50 (hcr:j5 158 c9c):j5 134 (d60 a01 a2f):=k8 (fun fn h=>e36 h) [(135,_),(158,_),(159,_),(160,_),(161,_)] (.cons b5a (.cons hcr (.cons c9b (.cons b7m (.cons d47 .nil))))) fun U fn hfn ⟨(s,i),h1,h2⟩ vs bs hv hb=>by
 have hm:=hfn 135 _ rfl
 have hc:=hfn 158 _ rfl
 have hx:=hfn 159 _ rfl
 have hs:=hfn 160 _ rfl
 have hk:=hfn 161 _ rfl
 have hv:j6 [.p 0 0] vs:=hv
 have hb:g9 [[.s s,.i .i64 (i:Int)]] bs:=hb
 have h1:i≤s.length:=h1
 have h2:s.length < 90000:=h2
 show g8 U _ fun v bs'=>j7 (a01 s i) v∧g9 [G1 s (a2f s i)] bs'
 unfold d8m
 (refine Zq ?_;intros)
 refine D3 (fun (j:Nat) vs bs=>vs=[.ptr 0 0]∧g9 [G1 s j] bs∧j≤s.length∧LQ.skip s j=LQ.skip s i) (fun j=>s.length - j) i ⟨rfl,Y1 rfl,h1,rfl⟩ (by simp only [v8];omega) ?_
 rintro self j vs bs ⟨rfl,hb,hj,he⟩ ih
 have hb:g9 [[.s s,.i .i64 (j:Int)]] bs:=hb
 have stop:∀ {x:Q},LQ.skip s j=some j→u1 [.s s,.i .i64 (j:Int)] x 0→g8 U (some (.ret (.tuple []),[.opa x 2])) fun v bs'=>j7 (a01 s i) v∧g9 [G1 s (a2f s i)] bs':=fun h hq=>by
  have ho:LQ.skip s i=some j:=by rw [← he,h]
  have e1:a01 s i=.ret (.t []):=by unfold a01;rw [ho]
  have e2:a2f s i=j:=by unfold a2f;rw [ho];rfl
  rw [e1,e2]
  exact i6 ⟨.ret _ _ (.t _ _ .nil),RB.bx hq rfl⟩
 (refine Zq ?_;intros)
 refine f5 hm ⟨(s,j),hj,h2⟩ (r:=.c (.b (decide (j < s.length)))) rfl j4 (RB.bx aS rfl) fun _ _ _ hb=>?_
 have hb:g9 [[.s s,.i .i64 (j:Int)]] _:=hb
 (refine Zq ?_;with_reducible repeat' first|intro _|apply aI)
 ·have hlt:j < s.length:=of_decide_eq_true ‹_›
  have hbt:((s.getD j 0).toNat:Int)=bt s j:=rfl
  have hb0:=a5u s j
  have hb1:=c0n s j
  (refine Zq ?_;intros)
  refine d12 (m:=bt s j) rfl oM ?_
  refine f5 hc ⟨(k7 4 218761504,bt s j),hb0,.inr ⟨hb1,rfl⟩⟩ (r:=.c (.b (F4 (bt s j)))) (congrArg (fun b=>n5.ret (.c (.b b))) (d3a _ hb0 hb1)) j4 .nil fun _ _ _ _=>?_
  (refine Zq ?_;with_reducible repeat' first|intro _|apply aI)
  ·have hbl:F4 (bt s j)=true:=‹_›
   exact fun e=>ih (j+1) _ _ ⟨rfl,scQ e aS oM,oM,by rw [← c8i hlt hbl];exact he⟩ oM e
  ·have hbl:F4 (bt s j)=false:=by simpa using ‹¬F4 (bt s j)=true›
   have h59:bt s j=59:=‹_›
   rw [Int.toNat_natCast]
   refine f5 hx ⟨(s.drop j,10),oM,oM⟩ (r:=.c (.i .i64 (Lib.indexByte (s.drop j) 10))) rfl j4 .nil fun _ _ _ _=>?_
   have hi:=R7 (s.drop j) 10
   have hle:=c5h s j hj
   have hll:=a86 s j hj
   have hl2:=b5k s j hlt oM
   simp only [List.length_drop] at hi
   (refine Zq ?_;with_reducible repeat' first|intro _|apply aI)
   ·rw [if_pos ‹_›] at hle
    exact fun e=>ih (K7 s j) _ _ ⟨rfl,scQ e aS oM,oM,by rw [← b9m hlt hbl h59];exact he⟩ oM e
   ·rw [if_neg ‹_›] at hle
    exact fun e=>ih (K7 s j) _ _ ⟨rfl,scQ e aS oM,oM,by rw [← b9m hlt hbl h59];exact he⟩ oM e
  ·have hbl:F4 (bt s j)=false:=by simpa using ‹¬F4 (bt s j)=true›
   have h59:¬bt s j=59:=‹_›
   refine f5 hs ⟨⟨(s,j),hj,h2⟩,k7 2 31779⟩ (r:=.c (.b (Q2 (s.drop j) (k7 2 31779)))) rfl j4 (RB.bx aS rfl) fun _ _ hv hb=>?_
   have hb:g9 [[.s s,.i .i64 (j:Int)]] _:=hb
   rw [d2k,d0x hj] at hv
   (refine Zq ?_;with_reducible repeat' first|intro _|apply aI)
   ·have hh:has s j 35 124=true:=‹_›
    have hlt2:=W6 hh
    cases hcm:C7 s (j+2) 1 with
    | some k =>
     have hkl:=b1g s (j+2) 1 k oM hcm
     refine f5 hk ⟨⟨(s,j),hj,h2⟩,hh⟩ (r:=.t []) (by show a6h s j=_;unfold a6h a6k;rw [hcm]) j4 (RB.bx aS rfl) fun _ _ _ hb=>?_
     have hb:g9 [G1 s (a9b s j)] _:=hb
     have e2:a9b s j=k:=by unfold a9b a6k;rw [hcm];rfl
     rw [e2] at hb
     have hb:g9 [[.s s,.i .i64 (k:Int)]] _:=hb
     (refine Zq ?_;intros)
     exact fun e=>ih k _ _ ⟨rfl,RB.bx aS rfl,oM,by rw [← d7a hlt hbl h59 hh hcm];exact he⟩ oM e
    | none =>
     refine P7 hk ⟨⟨(s,j),hj,h2⟩,hh⟩ (r:=.fl 122 11 s.length) (by show a6h s j=_;unfold a6h a6k;rw [hcm]) j4 (RB.bx aS rfl) fun _ hv=>?_
     have ho:LQ.skip s i=none:=by rw [← he,d3p hlt hbl h59 hh hcm]
     have e1:a01 s i=a1c 11 s.length:=by unfold a01;rw [ho]
     have e2:a2f s i=i:=by unfold a2f;rw [ho];rfl
     rw [e1,e2]
     exact a1k hv (Y1 rfl)
   ·exact stop (a9w hlt hbl h59 (by simpa using ‹¬has s j 35 124=true›)) aS
 ·have hlt:¬j < s.length:=fun h=>‹¬decide (j < s.length)=true› (decide_eq_true h)
  exact stop (c3z hlt) aS
theorem b6g:k7 1 45=[45]:=dE
theorem U1 (s:f4):C4 s [45]=s.drop (g7 s):=by
 unfold C4 Q2 g7
 cases s with
 | nil=>simp
 | cons c s =>
  have hb:bt (c :: s) 0=c.toNat:=rfl
  by_cases h:c=45
  ·subst h;simp [hb]
  ·have h':¬(c.toNat:Int)=45:=fun e=>h (UInt8.toNat_inj.1 (by show c.toNat=45;omega))
   simp [h,hb,h']
theorem a10 (s:f4) (a k:Nat):bt (s.drop a) k=bt s (a+k):=by unfold bt;simp [List.getD]
theorem c5s (s:f4) (a k:Nat) (h:a+k≤s.length):j8 s (a+k)=a+j8 (s.drop a) k:=by
 generalize hm:s.length - (a+k)=m
 induction m generalizing k with
 | zero=>rw [j8,if_neg oM,j8,if_neg (by simp;omega)]
 | succ m ih =>
  have hb:bt (s.drop a) k=bt s (a+k):=a10 s a k
  rw [j8,if_pos oM]
  conv=>rhs;rw [j8,if_pos (by rw [List.length_drop];omega),hb]
  by_cases hc:P8 (bt s (a+k))=true
  ·rw [if_pos hc,if_pos hc];exact ih (k+1) oM oM
  ·rw [if_neg hc,if_neg hc]
theorem c8e:j5 193 (sp1 fun s=>.ret (.c (.b (w9 s)))):=k8 (fun fn h=>e4r h) [(184,_)] (.cons Y3 .nil) fun U fn hfn ⟨s,hs⟩ vs bs hv hb=>by
 have hp:=hfn 184 _ rfl
 have hv:j6 [.c (.s s)] vs:=hv
 have hb:g9 [] bs:=hb
 show g8 U _ fun v bs'=>j7 (.ret (.c (.b (w9 s)))) v∧g9 [] bs'
 obtain ⟨d,hd⟩:∃ d,s.drop (g7 s)=d:=⟨_,rfl⟩
 unfold d64
 (refine Zq ?_;intros)
 refine f5 hp ⟨(s,k7 1 45),trivial⟩ (r:=.c (.s d)) (by show n5.ret (.c (.s (C4 s (k7 1 45))))=_;rw [b6g,U1,hd]) j4 .nil fun _ _ _ _=>?_
 have hsl:=J8 s
 have hdl:d.length=s.length - g7 s:=by rw [← hd];simp
 have hb0:((d.getD 0 0).toNat:Int)=bt s (g7 s):=by rw [← hd];exact (a10 s (g7 s) 0).trans (by rw [Nat.add_zero])
 have hb0':((d.getD (Int.toNat 0) 0).toNat:Int)=bt s (g7 s):=hb0
 have zz:∀ b:Bool,w9 s=b→∀ x:Bool,(U=CU→x=b)→g8 U (some (.ret (.bool x),[])) fun v bs'=>j7 (.ret (.c (.b (w9 s)))) v∧g9 [] bs':=fun b h x hx=>D8 fun e=>⟨.ret _ _ (K9 (by rw [h,hx e])),.nil⟩
 have zs:(d=[]∨bt s (g7 s)=48)→∀ x:Bool,(U=CU→x=decide (s=k7 1 48))→g8 U (some (.ret (.bool x),[])) fun v bs'=>j7 (.ret (.c (.b (w9 s)))) v∧g9 [] bs':=fun h x hx=>by
  refine zz (decide (s=k7 1 48)) ?_ x hx
  have:¬(g7 s < s.length∧bt s (g7 s) ≠ 48):=by
   rcases h with h | h
   ·rw [h] at hdl;simp at hdl;omega
   ·exact fun k=>k.2 h
  unfold w9
  rw [decide_eq_false this,Bool.false_and,Bool.or_false];rfl
 (refine Zq ?_;with_reducible repeat' first|intro _|apply aI)
 ·exact zs (.inl ‹d=k7 0 0›) _ fun e=>by subst e;exact b0j s 1 48
 ·have hne:d ≠ []:=‹¬d=k7 0 0›
  have hpos:0 < d.length:=List.length_pos_iff.2 hne
  (refine Zq ?_;with_reducible repeat' first|intro _|apply aI)
  ·exact zs (.inr (hb0.symm.trans aS)) _ fun e=>by subst e;exact b0j s 1 48
  ·have h48:¬((d.getD 0 0).toNat:Int)=48:=aS
   have e0:w9 s=decide (j8 d 0=d.length):=by
    have hz:¬s=u6:=fun e=>h48 (by rw [hb0];subst e;decide)
    have h1:g7 s < s.length∧bt s (g7 s) ≠ 48:=⟨oM,oM⟩
    have h2:=c5s s (g7 s) 0 oM
    rw [Nat.add_zero,hd] at h2
    unfold w9
    rw [decide_eq_true h1,Bool.true_and,decide_eq_false hz,Bool.false_or]
    rw [Bool.eq_iff_iff,decide_eq_true_iff,decide_eq_true_iff];omega
   have hl:d.length < 90000:=by have:s.length < 90000:=hs;omega
   refine D3 (fun (i:Nat) vs bs=>vs=[.str d.length (j9 d),.int .i64 d.length,.int .i64 i]∧bs=[]∧i≤d.length∧j8 d i=j8 d 0) (fun i=>d.length - i) 0 ⟨rfl,rfl,oM,rfl⟩ (by simp only [v8];omega) ?_
   rintro self i vs bs ⟨rfl,rfl,hi,he⟩ ih
   (refine Zq ?_;with_reducible repeat' first|intro _|apply aI)
   ·exact i6 ⟨.ret _ _ (F1 (by rw [e0,← he,b5p (i:=i) oM oM];exact decide_eq_false oM)),.nil⟩
   ·exact i6 ⟨.ret _ _ (F1 (by rw [e0,← he,b5p (i:=i) oM oM];exact decide_eq_false oM)),.nil⟩
   ·exact ih (i+1) _ _ ⟨rfl,rfl,oM,by rw [← he,c16 (i:=i) oM ‹_› ‹_›]⟩ oM
   ·exact i6 ⟨.ret _ _ (F1 (by rw [e0,← he,b65 (i:=i) oM];exact decide_eq_true oM)),.nil⟩
theorem a4q:j5 176 (sp1 fun s=>.ret (.c (.s (J4 s)))):=k8 (fun fn h=>e53 h) [(193,_)] (.cons c8e .nil) fun U fn hfn ⟨s,hs⟩ vs bs hv hb=>by
 have hp:=hfn 193 _ rfl
 have hv:j6 [.c (.s s)] vs:=hv
 have hb:g9 [] bs:=hb
 show g8 U _ fun v bs'=>j7 (.ret (.c (.s (J4 s)))) v∧g9 [] bs'
 unfold d8p
 (refine Zq ?_;intros)
 refine f5 hp ⟨s,hs⟩ (r:=.c (.b (w9 s))) rfl j4 .nil fun _ _ _ _=>?_
 (refine Zq ?_;with_reducible repeat' first|intro _|apply aI)
 ·have e:J4 s=s:=by unfold J4;rw [if_pos ‹_›]
  rw [e];exact i6 ⟨.ret _ _ (.s _ _ _ rfl rfl),.nil⟩
 ·have e:J4 s=k7 1 48:=by unfold J4;rw [if_neg ‹_›];rfl
  rw [e];exact i6 ⟨.ret _ _ (.s _ _ _ rfl rfl),.nil⟩
theorem a8q (s:f4):(J4 s).length≤s.length∨(J4 s).length≤1:=by unfold J4;split;exact .inl (Nat.le_refl _);exact .inr dE
theorem c2t (s:f4):(J4 s).drop (g7 (J4 s))=f7 (f6 s).natAbs:=by
 rw [a0u,a1l]
 have h:=c54 (f6 s) (f6 s).natAbs []
 rw [List.append_nil] at h
 rw [h,List.drop_left]
theorem c3h:j5 167 (sp1 fun s=>.ret (.c (.i .i64 ((f7 (f6 s).natAbs).length:Nat)))):=k8 (fun fn h=>e4z h) [(176,_),(184,_)] (.cons a4q (.cons Y3 .nil)) fun U fn hfn ⟨s,hs⟩ vs bs hv hb=>by
 have hp:=hfn 176 _ rfl
 have ht:=hfn 184 _ rfl
 have hv:j6 [.c (.s s)] vs:=hv
 have hb:g9 [] bs:=hb
 show g8 U _ fun v bs'=>j7 (.ret (.c (.i .i64 ((f7 (f6 s).natAbs).length:Nat)))) v∧g9 [] bs'
 unfold d4y
 (refine Zq ?_;intros)
 refine f5 hp ⟨s,hs⟩ (r:=.c (.s (J4 s))) rfl j4 .nil fun _ _ _ _=>?_
 (refine Zq ?_;intros)
 refine f5 ht ⟨(J4 s,k7 1 45),trivial⟩ (r:=.c (.s (f7 (f6 s).natAbs))) (by show n5.ret (.c (.s (C4 (J4 s) (k7 1 45))))=_;rw [b6g,U1,c2t]) j4 .nil fun _ _ _ _=>?_
 (refine Zq ?_;intros)
 exact i6 ⟨.ret _ _ (.i _ _),.nil⟩
def lg (d:Nat):List G:=[.i .u32 (d:Int)]
theorem f1l {a b:Nat} (h:lg a=lg b):a=b:=by simp only [lg,List.cons.injEq,G.i.injEq,and_true,true_and] at h;omega
theorem a2r:∀ {l m:List Nat},l.map lg=m.map lg→l=m
 | [],[],_=>rfl
 | [],_ :: _,h=>by simp at h
 | _ :: _,[],h=>by simp at h
 | a :: l,b :: m,h=>by simp only [List.map_cons,List.cons.injEq] at h;exact congr (congrArg List.cons (f1l h.1)) (a2r h.2)
section
variable {U:q8} {P:H6→List Bx→Prop}
theorem b7e {l:List Nat} {t:j0 Q} {off:Nat} {i:Int} (n:Nat) {K:Q→Om} (ht:m8 1 (l.map lg) t off) (hn:i=n) (hi:n < l.length) (h:∀ x,u1 (lg (l.getD n 0)) x 0→g8 U (K x) P):g8 U (U.fQ (U.tQ t (U.nAdd off (U.iNat i))) K) P:=by
 subst hn
 refine c8j (y:=l.getD n 0) ht ?_ h
 rw [Int.toNat_natCast,List.getElem?_eq_getElem hi]
 simp [List.getD,List.getElem?_eq_getElem hi]
end
def spM (R:List Nat→n5):Sp where
 ι:={ l:List Nat // l.length < 20000 }
 A l:=[.sl 1 (l.1.map lg)]
 B _:=[]
 R l:=R l.1
 B' _:=[]
 inj i j vs bs h k _ _:=by
  obtain ⟨_,_,h1,k1,h,k⟩:=h.two k
  rw [a2r (h1.sl_inj k1)];exact ⟨rfl,rfl⟩
def e8x (ok:List Nat→List Nat→Prop) (R:List Nat→List Nat→n5):Sp where
 ι:={ p:List Nat × List Nat // p.1.length < 20000∧p.2.length < 20000∧ok p.1 p.2 }
 A p:=[.sl 1 (p.1.1.map lg),.sl 1 (p.1.2.map lg)]
 B _:=[]
 R p:=R p.1.1 p.1.2
 B' _:=[]
 inj i j vs bs h k _ _:=by
  obtain ⟨_,_,h1,k1,h,k⟩:=h.two k
  obtain ⟨_,_,h2,k2,h,k⟩:=h.two k
  rw [a2r (h1.sl_inj k1),a2r (h2.sl_inj k2)];exact ⟨rfl,rfl⟩
theorem b5i:j5 222 (spM fun l=>.ret (.sl 1 ((D4 l).map lg))):=k8 (fun fn h=>e3y h) [] .nil fun U fn hfn ⟨l,hs⟩ vs bs hv hb=>by
 have hv:j6 [.sl 1 (l.map lg)] vs:=hv
 have hb:g9 [] bs:=hb
 have hs:l.length < 20000:=hs
 show g8 U _ fun v bs'=>j7 (.ret (.sl 1 ((D4 l).map lg))) v∧g9 [] bs'
 unfold d8z
 (refine Zx ?_;intros)
 refine D3 (fun (m:Nat) vs bs=>∃ (t:j0 Q) (off:Nat),vs=[.slice t 1 off m .no]∧bs=[]∧m8 1 (l.map lg) t off∧m≤l.length∧R0 l m=R0 l l.length) (fun m=>m) l.length ⟨_,_,rfl,rfl,aS,oM,rfl⟩ (by simp only [v8];omega) ?_
 rintro self m _ _ ⟨t,off,rfl,rfl,ht,hm,he⟩ ih
 have fin:¬(0 < m∧l.getD (m - 1) 0=0)→g8 U (some (.ret (.slice t 1 off m .no),[])) fun v bs'=>j7 (.ret (.sl 1 ((D4 l).map lg))) v∧g9 [] bs':=fun h=>by
  have e:D4 l=l.take m:=by
   unfold D4
   rw [← he]
   cases m with
   | zero=>rfl
   | succ m=>rw [R0,if_neg (fun k=>h ⟨oM,by simpa using k⟩)]
  rw [e,List.map_take]
  exact i6 ⟨.ret _ _ (.sl _ _ _ _ _ (by simp;omega) (ht.take m)),.nil⟩
 (refine Zx ?_;with_reducible repeat' first|intro _|apply aI)
 ·refine b7e (m - 1) aS oM oM fun _ _=>?_
  (refine Zx ?_;with_reducible repeat' first|intro _|apply aI)
  ·have h0:=‹((l.getD (m - 1) 0:Nat):Int)=0›
   simp only [Int.toNat_zero,Nat.add_zero,Nat.sub_zero]
   refine ih (m - 1) _ _ ⟨t,off,by rw [show ((m:Int) - 1).toNat=m - 1 by omega],rfl,ht,oM,?_⟩ oM
   obtain ⟨m,rfl⟩:∃ n,m=n+1:=⟨m - 1,oM⟩
   rw [← he,R0,if_pos (by simpa using h0)];rfl
  ·exact fin fun h=>‹¬((l.getD (m - 1) 0:Nat):Int)=0› oM
 ·exact fin fun h=>oM
theorem b4v:j5 223 (e8x (fun _ _=>True) fun a b=>.ret (.c (.i .i64 (O6 a b)))):=k8 (fun fn h=>e3m h) [] .nil fun U fn hfn ⟨(a,b),ha,hbl,_⟩ vs bs hv hb=>by
 have ha:a.length < 20000:=ha
 have hbl:b.length < 20000:=hbl
 have hv:j6 [.sl 1 (a.map lg),.sl 1 (b.map lg)] vs:=hv
 have hb:g9 [] bs:=hb
 show g8 U _ fun v bs'=>j7 (.ret (.c (.i .i64 (O6 a b)))) v∧g9 [] bs'
 unfold d5t
 (refine Zx ?_;with_reducible repeat' first|intro _|apply aI)
 ·have hl:a.length=b.length:=oM
  have e:O6 a b=E3 a b a.length:=by unfold O6;rw [if_pos hl]
  rw [e]
  refine D3 (fun (m:Nat) vs bs=>∃ (t:j0 Q) (off:Nat) (t':j0 Q) (off':Nat) (i:Int),vs=[.slice t 1 off a.length .no,.slice t' 1 off' b.length .no,.int .i64 i]∧bs=[]∧i=m - 1∧m8 1 (a.map lg) t off∧m8 1 (b.map lg) t' off'∧m≤a.length∧E3 a b m=E3 a b a.length) (fun m=>m) a.length ⟨_,_,_,_,_,rfl,rfl,rfl,aS,aS,oM,rfl⟩ (by simp only [v8];omega) ?_
  rintro self m _ _ ⟨t,off,t',off',i,rfl,rfl,rfl,ht,ht',hm,he⟩ ih
  (refine Zx ?_;with_reducible repeat' first|intro _|apply aI)
  ·refine b7e (m - 1) aS oM oM fun _ _=>?_
   (refine Zx ?_;intros)
   refine b7e (m - 1) aS oM oM fun _ _=>?_
   (refine Zx ?_;with_reducible repeat' first|intro _|apply aI)
   ·refine ih (m - 1) _ _ ?_ oM
    obtain ⟨m,rfl⟩:∃ n,m=n+1:=⟨m - 1,oM⟩
    exact ⟨_,_,_,_,_,rfl,rfl,oM,ht,ht',oM,by rw [← he,Nat.add_sub_cancel];conv=>rhs;rw [E3,if_neg (by simp only [Nat.add_sub_cancel] at *;omega),if_neg (by simp only [Nat.add_sub_cancel] at *;omega)]⟩
   ·refine b7e (m - 1) aS oM oM fun _ _=>?_
    (refine Zx ?_;intros)
    refine b7e (m - 1) aS oM oM fun _ _=>?_
    (refine Zx ?_;with_reducible repeat' first|intro _|apply aI)
    ·obtain ⟨m,rfl⟩:∃ n,m=n+1:=⟨m - 1,oM⟩
     exact i6 ⟨.ret _ _ (rvI (by rw [← he,E3,if_pos (by simp only [Nat.add_sub_cancel] at *;omega)])),.nil⟩
    ·obtain ⟨m,rfl⟩:∃ n,m=n+1:=⟨m - 1,oM⟩
     exact i6 ⟨.ret _ _ (rvI (by rw [← he,E3,if_neg (by simp only [Nat.add_sub_cancel] at *;omega),if_pos (by simp only [Nat.add_sub_cancel] at *;omega)])),.nil⟩
  ·have em:m=0:=oM
   subst em
   exact i6 ⟨.ret _ _ (rvI (by rw [← he];rfl)),.nil⟩
 ·exact i6 ⟨.ret _ _ (rvI (by unfold O6;rw [if_neg oM,if_pos oM])),.nil⟩
 ·exact i6 ⟨.ret _ _ (rvI (by unfold O6;rw [if_neg oM,if_neg oM])),.nil⟩
section
variable {U:q8} {P:H6→List Bx→Prop}
theorem e6f {e:Int} (h1:0≤e) (h2:e < 4294967296):wr .u32 e=e:=by
 rw [a1i];show e % 4294967296=e;omega
theorem b52 {e:Int} (h1:0≤e) (h2:e < 18446744073709551616):wr .u64 e=e:=by
 rw [a1i];show e % 18446744073709551616=e;omega
theorem a3x {e m:Int} {K:Int→Om} (he:e=m) (hr:0≤m∧m < 4294967296) (h:g8 U (K m) P):g8 U (U.fI (U.wr .u32 e) K) P:=fun e'=>by
 have:=h e';subst e' he;rw [U7]
 show ∃ v bs,K (wr .u32 e)=some (v,bs)∧P v bs
 rw [e6f hr.1 hr.2];exact this
theorem c0y {e m:Int} {K:Int→Om} (he:e=m) (hr:0≤m∧m < 18446744073709551616) (h:g8 U (K m) P):g8 U (U.fI (U.wr .u64 e) K) P:=fun e'=>by
 have:=h e';subst e' he;rw [U7]
 show ∃ v bs,K (wr .u64 e)=some (v,bs)∧P v bs
 rw [b52 hr.1 hr.2];exact this
end
def t8 (n:Nat):List (List G):=(k9 n).map lg
theorem a7i {a b:Nat} (h:t8 a=t8 b):a=b:=b7b (a2r h)
def e67 (ok:Nat→Nat→Prop) (R:Nat→Nat→n5):Sp where
 ι:={ p:Nat × Nat // (k9 p.1).length < 20000∧(k9 p.2).length < 20000∧ok p.1 p.2 }
 A p:=[.sl 1 (t8 p.1.1),.sl 1 (t8 p.1.2)]
 B _:=[]
 R p:=R p.1.1 p.1.2
 B' _:=[]
 inj i j vs bs h k _ _:=by
  obtain ⟨_,_,h1,k1,h,k⟩:=h.two k
  obtain ⟨_,_,h2,k2,h,k⟩:=h.two k
  rw [a7i (h1.sl_inj k1),a7i (h2.sl_inj k2)];exact ⟨rfl,rfl⟩
theorem L1 (l:List Nat) (i:Nat):k5 (l.take (i+1))=k5 (l.take i)+B9 ^ i * l.getD i 0:=by
 rcases Nat.lt_or_ge i l.length with h | h
 ·exact b67 l i h
 ·rw [List.take_of_length_le h,List.take_of_length_le oM];simp [List.getD,List.getElem?_eq_none h]
theorem d8t (l:List Nat) (i x:Nat):(l.set i x).take i=l.take i:=by
 rw [List.take_set_of_le (Nat.le_refl _)]
theorem a8e {x y:Nat} (h:y≤x):(k9 y).length≤(k9 x).length:=by
 have h1:=U0 (k9 x) (L5 x)
 rw [E8] at h1
 exact a7y oM
theorem b3n (n:Nat):LQ.LB (List.replicate n 0):=fun d h=>by rw [List.eq_of_mem_replicate h];decide
theorem c0e {l:List Nat} {i x:Nat} (h:i < l.length):(l.set i x).getD i 0=x:=by simp [List.getD,List.getElem?_set,h]
theorem a3p {a b out:List Nat} {i bor bor' x:Nat} (hi:i < out.length) (he:k5 (a.take i)+B9 ^ i * bor=k5 (out.take i)+k5 (b.take i)) (hx:a.getD i 0+1000000000 * bor'=x+b.getD i 0+bor) :
  k5 (a.take (i+1))+B9 ^ (i+1) * bor'=k5 ((out.set i x).take (i+1))+k5 (b.take (i+1)):=by
 rw [L1 a,L1 b,L1 (out.set i x),d8t,c0e hi,Nat.pow_succ,Nat.mul_assoc]
 have h:=congrArg (B9 ^ i * ·) hx
 rw [show (1000000000:Nat)=B9 from rfl] at h
 simp only [Nat.mul_add] at h
 omega
theorem gD {l:List Nat} {i:Nat} (h:i < l.length):l[i]=l.getD i 0:=by simp only [List.getD,List.getElem?_eq_getElem h,Option.getD_some]
theorem gD0 {l:List Nat} {i:Nat} (h:l.length≤i):l.getD i 0=0:=by simp only [List.getD,List.getElem?_eq_none h,Option.getD_none]
theorem d3z {a b out:List Nat} {bor:Nat} (hol:out.length=a.length) (hyx:b.length≤a.length) (hxy:k5 b≤k5 a) (hLo:LQ.LB out) (hb:bor≤1) (he:k5 (a.take a.length)+B9 ^ a.length * bor=k5 (out.take a.length)+k5 (b.take a.length)):k5 out=k5 a - k5 b:=by
 rw [List.take_of_length_le (Nat.le_refl _),List.take_of_length_le oM,List.take_of_length_le oM] at he
 have h:=U0 out hLo
 rw [hol] at h
 rcases Nat.lt_or_ge bor 1 with h1 | h1
 ·have:bor=0:=oM
  subst this;omega
 ·have:bor=1:=oM
  subst this;omega
theorem f00 {U:q8} {fn:FF} {vs:List V} {bs:List Bx} (ht:Ans fn 222 (spM fun l=>.ret (.sl 1 ((D4 l).map lg)))) {a b:List Nat} (hx:a.length < 20000) (hyx:b.length≤a.length) (hxy:k5 b≤k5 a) (hLa:LQ.LB a) (hLb:LQ.LB b) (hv:j6 [.sl 1 (a.map lg),.sl 1 (b.map lg)] vs) (hb:g9 [] bs) :
  g8 U (d02 U fn vs bs) fun v bs'=>j7 (.ret (.sl 1 (t8 (k5 a - k5 b)))) v∧g9 [] bs':=by
 unfold d02
 (refine Zx ?_;intros)
 refine sZT (n:=1) (r:=lg 0) (fun _=>E2 (.i _ _)) rfl oM fun t' ht'=>?_
 (refine Zx ?_;intros)
 refine D3 (fun (i:Nat) vs bs=>∃ (t1:j0 Q) (o1:Nat) (t2:j0 Q) (o2:Nat) (t3:j0 Q) (out:List Nat) (bor:Nat),vs=[.slice t1 1 o1 a.length .no,.slice t2 1 o2 b.length .no,.bslice 0 a.length,.int .i64 bor,.int .i64 a.length,.int .i64 i]∧bs=[.row t3 a.length]∧m8 1 (a.map lg) t1 o1∧m8 1 (b.map lg) t2 o2∧m8 1 (out.map lg) t3 0∧out.length=a.length∧LQ.LB out∧i≤a.length∧bor≤1∧k5 (a.take i)+B9 ^ i * bor=k5 (out.take i)+k5 (b.take i)) (fun i=>a.length - i) 0 ?_ (by simp only [v8];omega) ?_
 ·exact ⟨_,_,_,_,t',List.replicate a.length 0,0,by simp only [Int.toNat_natCast];rfl,by simp,aS,aS,by simpa [List.map_replicate] using ht',by simp,b3n _,oM,oM,by simp [k5]⟩
 rintro self i _ _ ⟨t1,o1,t2,o2,t3,out,bor,rfl,rfl,h1,h2,h3,hol,hLo,hi,hbor,he⟩ ih
 (refine Zx ?_;with_reducible repeat' first|intro _|apply aI)
 ·have q1:a.getD i 0 < 1000000000:=a4h hLa i
  have q2:b.getD i 0 < 1000000000:=a4h hLb i
  rw [gD (l:=a) oM]
  refine b0r rfl oM ?_
  (refine Zx ?_;with_reducible repeat' first|intro _|apply aI)
  ·rw [gD (l:=b) oM]
   refine b0r rfl oM ?_
   (refine Zx ?_;with_reducible repeat' first|intro _|apply aI)
   ·(refine a3x (m:=((a.getD i 0+1000000000 - bor - b.getD i 0:Nat):Int)) oM oM ?_;(refine Zx ?_;with_reducible repeat' first|intro _|apply aI);refine a9i (r:=lg (a.getD i 0+1000000000 - bor - b.getD i 0)) h3 (fun _=>E2 (.i _ _)) rfl (by simp;omega) oM fun t9 h9=>?_;(refine Zx ?_;with_reducible repeat' first|intro _|apply aI);refine ih (i+1) _ _ ?_ oM;exact ⟨t1,o1,t2,o2,t9,out.set i (a.getD i 0+1000000000 - bor - b.getD i 0),1,by simp,by simp,h1,h2,by rw [List.map_set];simpa using h9,by simp [hol],a2y hLo _ _ (by show _ < 1000000000;omega),oM,oM,a3p oM he oM⟩)
   ·(refine a3x (m:=((a.getD i 0 - bor - b.getD i 0:Nat):Int)) oM oM ?_;(refine Zx ?_;with_reducible repeat' first|intro _|apply aI);refine a9i (r:=lg (a.getD i 0 - bor - b.getD i 0)) h3 (fun _=>E2 (.i _ _)) rfl (by simp;omega) oM fun t9 h9=>?_;(refine Zx ?_;with_reducible repeat' first|intro _|apply aI);refine ih (i+1) _ _ ?_ oM;exact ⟨t1,o1,t2,o2,t9,out.set i (a.getD i 0 - bor - b.getD i 0),0,by simp,by simp,h1,h2,by rw [List.map_set];simpa using h9,by simp [hol],a2y hLo _ _ (by show _ < 1000000000;omega),oM,oM,a3p oM he oM⟩)
  ·have e2:b.getD i 0=0:=gD0 oM
   (refine a3x (m:=((a.getD i 0+1000000000 - bor:Nat):Int)) oM oM ?_;(refine Zx ?_;with_reducible repeat' first|intro _|apply aI);refine a9i (r:=lg (a.getD i 0+1000000000 - bor)) h3 (fun _=>E2 (.i _ _)) rfl (by simp;omega) oM fun t9 h9=>?_;(refine Zx ?_;with_reducible repeat' first|intro _|apply aI);refine ih (i+1) _ _ ?_ oM;exact ⟨t1,o1,t2,o2,t9,out.set i (a.getD i 0+1000000000 - bor),1,by simp,by simp,h1,h2,by rw [List.map_set];simpa using h9,by simp [hol],a2y hLo _ _ (by show _ < 1000000000;omega),oM,oM,a3p oM he oM⟩)
  ·have e2:b.getD i 0=0:=gD0 oM
   (refine a3x (m:=((a.getD i 0 - bor:Nat):Int)) oM oM ?_;(refine Zx ?_;with_reducible repeat' first|intro _|apply aI);refine a9i (r:=lg (a.getD i 0 - bor)) h3 (fun _=>E2 (.i _ _)) rfl (by simp;omega) oM fun t9 h9=>?_;(refine Zx ?_;with_reducible repeat' first|intro _|apply aI);refine ih (i+1) _ _ ?_ oM;exact ⟨t1,o1,t2,o2,t9,out.set i (a.getD i 0 - bor),0,by simp,by simp,h1,h2,by rw [List.map_set];simpa using h9,by simp [hol],a2y hLo _ _ (by show _ < 1000000000;omega),oM,oM,a3p oM he oM⟩)
 ·have em:i=a.length:=oM
  subst em
  refine f5 ht ⟨out,by show out.length < 20000;omega⟩ (r:=.sl 1 (t8 (k5 a - k5 b))) (by rw [← d3z hol hyx hxy hLo hbor he];show n5.ret (.sl 1 ((D4 out).map lg))=_;rw [a0y out hLo];rfl) (.k (.sl _ _ _ _ _ (by simp [hol]) h3) .nil) .nil fun _ _ _ _=>?_
  (refine Zx ?_;intros)
  exact i6 ⟨.ret _ _ (.sl _ _ _ _ _ (by simp [t8]) aS),.nil⟩
theorem e5x:j5 205 (e67 (fun x y=>y≤x) fun x y=>.ret (.sl 1 (t8 (x - y)))):=k8 (fun fn h=>e3u h) [(222,_)] (.cons b5i .nil) fun U fn hfn ⟨(x,y),hx,hy,hxy⟩ vs bs hv hb=>by
 have h:=f00 (U:=U) (hfn 222 _ rfl) (a:=k9 x) (b:=k9 y) hx (a8e hxy) (by rw [E8,E8];exact hxy) (L5 x) (L5 y) hv hb
 rw [E8,E8] at h;exact h
end
end Go.Proofs.YtffaodopiifbkaaGreatDoor
