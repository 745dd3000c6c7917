/- The program's reader: comments, blanks. -/
import Derived.Test.YtffaodopiifbkaaGreatDoorCEA
set_option linter.all false
namespace Go.Proofs.YtffaodopiifbkaaGreatDoor
open Go.Abs LQ
set_option maxRecDepth 100000
set_option maxHeartbeats 4000000
noncomputable section
abbrev S3 (e p:Int):s8:=.pan (.fl 122 e p)
theorem b3w:l5 51 { ι:=Int × Int,A:=fun p=>[.c (.i .i64 p.1),.c (.i .i64 p.2)],B:=fun _=>[],R:=fun p=>S3 p.1 p.2,B':=fun _=>[],inj:=fun i j vs bs h k _ _=>(by
  obtain ⟨_,_,h1,k1,h,k⟩:=h.two k
  obtain ⟨_,_,h2,k2,h,k⟩:=h.two k
  rw [a4h h1 k1,a4h h2 k2];exact ⟨rfl,rfl⟩) }:=n6 (fun fn h=>f2t h) [] .nil fun U fn hfn ⟨e,p⟩ vs bs hv hb=>by
 have hv:l8 [.c (.i .i64 e),.c (.i .i64 p)] vs:=hv
 have hb:j5 [] bs:=hb
 show j6 U _ fun v bs'=>l9 (S3 e p) v∧j5 [] bs'
 unfold r51
 (refine Zq ?_;intros)
 exact k9 ⟨.pan _ _ (.fl _ _ _ _ l6),.nil⟩
def f8x (ok:i6→Nat→Prop) (R:i6→Nat→s8) (b:i6→Nat→Nat):Sp where
 ι:={ p:ScI // ok p.1.1 p.1.2 }
 A _:=[.p 0 0]
 B p:=[J4 p.1.1.1 p.1.1.2]
 R p:=R p.1.1.1 p.1.1.2
 B' p:=[J4 p.1.1.1 (b p.1.1.1 p.1.1.2)]
 inj i j vs bs _ _ h k:=by
  have:=a6g (j5.one_inj h k)
  rw [this.1,this.2];exact ⟨rfl,rfl⟩
theorem d44 {s:i6} {i:Nat} {a b:UInt8} (hi:i≤s.length):U0 (s.drop i) [a,b]=has s i a.toNat b.toNat:=by
 unfold U0 has
 by_cases h:i+1 < s.length
 ·have e:(s.drop i).take 2=[s[i],s[i+1]]:=by
   rw [List.drop_eq_getElem_cons oM,List.drop_eq_getElem_cons oM];rfl
  have b0:bt s i=s[i].toNat:=by unfold bt;simp [List.getD,List.getElem?_eq_getElem (show i < s.length by omega)]
  have b1:bt s (i+1)=s[i+1].toNat:=by unfold bt;simp [List.getD,List.getElem?_eq_getElem h]
  rw [Bool.eq_iff_iff,decide_eq_true_iff,decide_eq_true_iff,b0,b1]
  simp only [List.length_cons,List.length_nil,List.length_drop,e,List.cons.injEq,and_true]
  constructor
  ·rintro ⟨_,h1,h2⟩;rw [h1,h2];exact ⟨h,rfl,rfl⟩
  ·rintro ⟨_,h1,h2⟩
   exact ⟨oM,UInt8.toNat_inj.1 oM,UInt8.toNat_inj.1 oM⟩
 ·rw [Bool.eq_iff_iff,decide_eq_true_iff,decide_eq_true_iff]
  simp only [List.length_cons,List.length_nil,List.length_drop]
  constructor
  ·rintro ⟨h1,_⟩;omega
  ·rintro ⟨h1,_⟩;omega
theorem d7y:n5 2 31779=[35,124]:=dE
theorem f1d:n5 2 9084=[124,35]:=dE
theorem f05:n5 2 14906=[58,58]:=dE
def a8r (s:i6) (i:Nat):Option Nat:=F8 s (i+2) 1
def a83 (s:i6) (i:Nat):s8:=match a8r s i with
 | some _=>.ret (.t [])
 | none=>S3 11 s.length
def b05 (s:i6) (i:Nat):Nat:=(a8r s i).getD i
theorem f4x {s:i6} {j d:Nat} (h:j < s.length) (hh:has s j 35 124=true):F8 s j (d+1)=F8 s (j+2) (d+2):=by rw [F8,if_neg oM,if_pos h,if_pos hh]
theorem d1p {s:i6} {j d:Nat} (h:j < s.length) (hh:¬has s j 35 124=true) (h2:has s j 124 35=true):F8 s j (d+1)=F8 s (j+2) d:=by rw [F8,if_neg oM,if_pos h,if_neg hh,if_pos h2];rfl
theorem f03 {s:i6} {j d:Nat} (h:j < s.length) (hh:¬has s j 35 124=true) (h2:¬has s j 124 35=true):F8 s j (d+1)=F8 s (j+1) (d+1):=by rw [F8,if_neg oM,if_pos h,if_neg hh,if_neg h2]
theorem f0i {s:i6} {j d:Nat} (h:¬j < s.length):F8 s j (d+1)=none:=by rw [F8,if_neg oM,if_neg h]
theorem f8m (s:i6) (j:Nat):F8 s j 0=some j:=by rw [F8,if_pos rfl]
theorem d97:l5 161 (f8x (fun s i=>has s i 35 124=true) a83 b05):=n6 (fun fn h=>e8j h) [(135,_),(160,_),(51,_)] (.cons b7d (.cons c0j (.cons b3w .nil))) fun U fn hfn ⟨⟨(s,i),h1,h2⟩,h3⟩ vs bs hv hb=>by
 have hm:=hfn 135 _ rfl
 have hs:=hfn 160 _ rfl
 have hf:=hfn 51 _ rfl
 have hv:l8 [.p 0 0] vs:=hv
 have hb:j5 [[.s s,.i .i64 (i:Int)]] bs:=hb
 have h1:i≤s.length:=h1
 have h2:s.length < 90000:=h2
 have h3:has s i 35 124=true:=h3
 show j6 U _ fun v bs'=>l9 (a83 s i) v∧j5 [J4 s (b05 s i)] bs'
 unfold e1u
 (refine Zq ?_;intros)
 have h4:=a0q h3
 refine H0 (fun (p:Nat × Nat) vs bs=>vs=[.ptr 0 0,.int .i64 (p.2:Int)]∧j5 [J4 s p.1] bs∧p.1≤s.length∧(p=(i,0)∨∃ d,p.2=d+1∧d≤p.1∧F8 s p.1 (d+1)=a8r s i)) (fun p=>s.length - p.1) (i,0) ⟨rfl,scC rfl,h1,.inl rfl⟩ (by simp only [C2];omega) ?_
 rintro self ⟨j,d⟩ vs bs ⟨rfl,hb,hj,hd⟩ ih
 have hb:j5 [[.s s,.i .i64 (j:Int)]] bs:=hb
 have hj:j≤s.length:=hj
 have hdj:d≤j+1:=by
  rcases hd with hd | ⟨d',hd,h,_⟩
  ·injection hd with _ hd;omega
  ·have hd:d=d'+1:=hd
   have h:d'≤j:=h
   omega
 (refine Zq ?_;intros)
 refine j3 hm ⟨(s,j),hj,h2⟩ (r:=.c (.b (decide (j < s.length)))) rfl l6 (RB.bx aS rfl) fun _ _ _ hb=>?_
 have hb:j5 [[.s s,.i .i64 (j:Int)]] _:=hb
 (refine Zq ?_;with_reducible repeat' first|intro _|apply aI)
 ·have hlt:j < s.length:=of_decide_eq_true ‹_›
  refine j3 hs ⟨⟨(s,j),hj,h2⟩,n5 2 31779⟩ (r:=.c (.b (U0 (s.drop j) (n5 2 31779)))) rfl l6 (RB.bx aS rfl) fun _ _ hv hb=>?_
  have hb:j5 [[.s s,.i .i64 (j:Int)]] _:=hb
  rw [d7y,d44 hj] at hv
  (refine Zq ?_;with_reducible repeat' first|intro _|apply aI)
  ·have hh:has s j 35 124=true:=‹_›
   have hlt2:=a0q hh
   refine fun e=>ih (j+2,d+1) _ _ ⟨by simp,scQ e aS oM,by simp;omega,.inr ⟨d,rfl,by simp;omega,?_⟩⟩ (by simp;omega) e
   rcases hd with hd | ⟨d',hd,h,he⟩
   ·injection hd with h1 hd;subst h1 hd;rfl
   ·have hd:d=d'+1:=hd
    subst hd
    rw [← he];exact (f4x hlt hh).symm
  ·have hh:¬has s j 35 124=true:=‹_›
   refine j3 hs ⟨⟨(s,j),hj,h2⟩,n5 2 9084⟩ (r:=.c (.b (U0 (s.drop j) (n5 2 9084)))) rfl l6 (RB.bx aS rfl) fun _ _ hv hb=>?_
   have hb:j5 [[.s s,.i .i64 (j:Int)]] _:=hb
   rw [f1d,d44 hj] at hv
   obtain ⟨d',hd,h,he⟩:∃ d',d=d'+1∧d'≤j∧F8 s j (d'+1)=a8r s i:=by
    rcases hd with hd | hd
    ·injection hd with h1 hd;subst h1;exact absurd h3 hh
    ·exact hd
   subst hd
   (refine Zq ?_;with_reducible repeat' first|intro _|apply aI)
   ·have hk:has s j 124 35=true:=‹_›
    have hlt2:=a0q hk
    have hz:d'=0:=oM
    subst hz
    have ho:a8r s i=some (j+2):=by rw [← he,d1p hlt hh hk,f8m]
    have e1:a83 s i=.ret (.t []):=by unfold a83;rw [ho]
    have e2:b05 s i=j+2:=by unfold b05;rw [ho];rfl
    rw [e1,e2]
    exact L7 fun e=>⟨.ret _ _ (.t _ _ .nil),scQ e aS oM⟩
   ·have hk:has s j 124 35=true:=‹_›
    have hlt2:=a0q hk
    refine fun e=>ih (j+2,d') _ _ ⟨by simp,scQ e aS oM,by simp;omega,.inr ⟨d' - 1,by simp;omega,by simp;omega,?_⟩⟩ (by simp;omega) e
    rw [← he,d1p hlt hh hk,show d' - 1+1=d' by omega]
   ·have hk:¬has s j 124 35=true:=‹_›
    refine fun e=>ih (j+1,d'+1) _ _ ⟨by simp,scQ e aS oM,by simp;omega,.inr ⟨d',rfl,by simp;omega,?_⟩⟩ (by simp;omega) e
    rw [← he,f03 hlt hh hk]
 ·have hlt:¬j < s.length:=fun h=>‹¬decide (j < s.length)=true› (decide_eq_true h)
  obtain ⟨d',hd,h,he⟩:∃ d',d=d'+1∧d'≤j∧F8 s j (d'+1)=a8r s i:=by
   rcases hd with hd | hd
   ·injection hd with h1 hd;subst h1;omega
   ·exact hd
  have ho:a8r s i=none:=by rw [← he,f0i hlt]
  have e1:a83 s i=S3 11 s.length:=by unfold a83;rw [ho]
  have e2:b05 s i=i:=by unfold b05;rw [ho];rfl
  rw [e1,e2]
  refine G6 hf (11,(s.length:Int)) (r:=.fl 122 11 s.length) rfl l6 .nil fun _ hv=>?_
  exact Q2 hv (scC rfl)
def c7r:Sp:=e3r .i32 (fun s r=>0≤r∧(r < 128∨r < 256∧s=n5 4 218761504)) fun s r=>.c (.b (decide (r < 128∧0≤Lib.indexByte s r.toNat.toUInt8)))
theorem d8b (c:Int) (h1:0≤c) (h2:c < 256):(decide (c < 128∧0≤Lib.indexByte (n5 4 218761504) c.toNat.toUInt8))=H3 c:=by
 obtain ⟨n,rfl⟩:∃ n:Nat,c=n:=⟨c.toNat,oM⟩
 rw [Int.toNat_natCast]
 have h3:n < 256:=oM
 have key:∀ n:Fin 256,(decide ((n.1:Int) < 128∧0≤Lib.indexByte (n5 4 218761504) n.1.toUInt8))=H3 n.1:=dE
 exact key ⟨n,h3⟩
def a2w (s:i6) (i:Nat):s8:=match LQ.skip s i with
 | some _=>.ret (.t [])
 | none=>S3 11 s.length
def a4j (s:i6) (i:Nat):Nat:=(LQ.skip s i).getD i
theorem c9v (s:i6) (i:Nat) (hi:i≤s.length):(O7 s i:Int)=i+(if Lib.indexByte (s.drop i) 10 < 0 then (s.length:Int) - i else Lib.indexByte (s.drop i) 10):=by
 generalize hm:s.length - i=m
 induction m generalizing i with
 | zero =>
  have:i=s.length:=oM
  subst this
  rw [O7,if_neg oM,List.drop_length]
  simp [Lib.indexByte]
 | succ m ih =>
  have hlt:i < s.length:=oM
  have b0:bt s i=s[i].toNat:=by unfold bt;simp [List.getD,List.getElem?_eq_getElem hlt]
  have hge:=(V3 (s.drop (i+1)) 10).2
  have ex:Lib.indexByte (s.drop i) 10=if s[i]=10 then 0 else if Lib.indexByte (s.drop (i+1)) 10=-1 then -1 else Lib.indexByte (s.drop (i+1)) 10+1:=by
   rw [List.drop_eq_getElem_cons hlt]
   simp only [Lib.indexByte,beq_iff_eq]
  rw [ex,O7,if_pos hlt]
  by_cases h:s[i]=10
  ·rw [if_pos (by rw [b0,h];rfl)];simp [h]
  ·have h':¬bt s i=10:=fun e=>h (UInt8.toNat_inj.1 (by rw [b0] at e;show s[i].toNat=10;omega))
   rw [if_neg h',ih (i+1) oM oM]
   simp only [h,if_false]
   generalize Lib.indexByte (s.drop (i+1)) 10=x at *
   by_cases hz:x=-1
   ·subst hz;simp;omega
   ·simp only [hz,if_false]
    rw [if_neg oM,if_neg oM];push_cast;omega
theorem f9a (hcr:l5 158 c7r):l5 134 (e0b a2w a4j):=n6 (fun fn h=>e9u h) [(135,_),(158,_),(159,_),(160,_),(161,_)] (.cons b7d (.cons hcr (.cons d22 (.cons c0j (.cons d97 .nil))))) fun U fn hfn ⟨(s,i),h1,h2⟩ vs bs hv hb=>by
 have hm:=hfn 135 _ rfl
 have hc:=hfn 158 _ rfl
 have hx:=hfn 159 _ rfl
 have hs:=hfn 160 _ rfl
 have hk:=hfn 161 _ rfl
 have hv:l8 [.p 0 0] vs:=hv
 have hb:j5 [[.s s,.i .i64 (i:Int)]] bs:=hb
 have h1:i≤s.length:=h1
 have h2:s.length < 90000:=h2
 show j6 U _ fun v bs'=>l9 (a2w s i) v∧j5 [J4 s (a4j s i)] bs'
 unfold e2g
 (refine Zq ?_;intros)
 refine H0 (fun (j:Nat) vs bs=>vs=[.ptr 0 0]∧j5 [J4 s j] bs∧j≤s.length∧LQ.skip s j=LQ.skip s i) (fun j=>s.length - j) i ⟨rfl,scC rfl,h1,rfl⟩ (by simp only [C2];omega) ?_
 rintro self j vs bs ⟨rfl,hb,hj,he⟩ ih
 have hb:j5 [[.s s,.i .i64 (j:Int)]] bs:=hb
 have stop:∀ {x:Q},LQ.skip s j=some j→A8 [.s s,.i .i64 (j:Int)] x 0→j6 U (some (.ret (.tuple []),[.opa x 2])) fun v bs'=>l9 (a2w s i) v∧j5 [J4 s (a4j s i)] bs':=fun h hq=>by
  have ho:LQ.skip s i=some j:=by rw [← he,h]
  have e1:a2w s i=.ret (.t []):=by unfold a2w;rw [ho]
  have e2:a4j s i=j:=by unfold a4j;rw [ho];rfl
  rw [e1,e2]
  exact k9 ⟨.ret _ _ (.t _ _ .nil),RB.bx hq rfl⟩
 (refine Zq ?_;intros)
 refine j3 hm ⟨(s,j),hj,h2⟩ (r:=.c (.b (decide (j < s.length)))) rfl l6 (RB.bx aS rfl) fun _ _ _ hb=>?_
 have hb:j5 [[.s s,.i .i64 (j:Int)]] _:=hb
 (refine Zq ?_;with_reducible repeat' first|intro _|apply aI)
 ·have hlt:j < s.length:=of_decide_eq_true ‹_›
  have hbt:((s.getD j 0).toNat:Int)=bt s j:=rfl
  have hb0:=a7w s j
  have hb1:=c4b s j
  (refine Zq ?_;intros)
  refine d6t (m:=bt s j) rfl oM ?_
  refine j3 hc ⟨(n5 4 218761504,bt s j),hb0,.inr ⟨hb1,rfl⟩⟩ (r:=.c (.b (H3 (bt s j)))) (congrArg (fun b=>s8.ret (.c (.b b))) (d8b _ hb0 hb1)) l6 .nil fun _ _ _ _=>?_
  (refine Zq ?_;with_reducible repeat' first|intro _|apply aI)
  ·have hbl:H3 (bt s j)=true:=‹_›
   exact fun e=>ih (j+1) _ _ ⟨rfl,scQ e aS oM,oM,by rw [← b9e hlt hbl];exact he⟩ oM e
  ·have hbl:H3 (bt s j)=false:=by simpa using ‹¬H3 (bt s j)=true›
   have h59:bt s j=59:=‹_›
   rw [Int.toNat_natCast]
   refine j3 hx ⟨(s.drop j,10),oM,oM⟩ (r:=.c (.i .i64 (Lib.indexByte (s.drop j) 10))) rfl l6 .nil fun _ _ _ _=>?_
   have hi:=V3 (s.drop j) 10
   have hle:=c9v s j hj
   have hll:=b02 s j hj
   have hl2:=b7w s j hlt oM
   simp only [List.length_drop] at hi
   (refine Zq ?_;with_reducible repeat' first|intro _|apply aI)
   ·rw [if_pos ‹_›] at hle
    exact fun e=>ih (O7 s j) _ _ ⟨rfl,scQ e aS oM,oM,by rw [← c2s hlt hbl h59];exact he⟩ oM e
   ·rw [if_neg ‹_›] at hle
    exact fun e=>ih (O7 s j) _ _ ⟨rfl,scQ e aS oM,oM,by rw [← c2s hlt hbl h59];exact he⟩ oM e
  ·have hbl:H3 (bt s j)=false:=by simpa using ‹¬H3 (bt s j)=true›
   have h59:¬bt s j=59:=‹_›
   refine j3 hs ⟨⟨(s,j),hj,h2⟩,n5 2 31779⟩ (r:=.c (.b (U0 (s.drop j) (n5 2 31779)))) rfl l6 (RB.bx aS rfl) fun _ _ hv hb=>?_
   have hb:j5 [[.s s,.i .i64 (j:Int)]] _:=hb
   rw [d7y,d44 hj] at hv
   (refine Zq ?_;with_reducible repeat' first|intro _|apply aI)
   ·have hh:has s j 35 124=true:=‹_›
    have hlt2:=a0q hh
    cases hcm:F8 s (j+2) 1 with
    | some k =>
     have hkl:=b1z s (j+2) 1 k oM hcm
     refine j3 hk ⟨⟨(s,j),hj,h2⟩,hh⟩ (r:=.t []) (by show a83 s j=_;unfold a83 a8r;rw [hcm]) l6 (RB.bx aS rfl) fun _ _ _ hb=>?_
     have hb:j5 [J4 s (b05 s j)] _:=hb
     have e2:b05 s j=k:=by unfold b05 a8r;rw [hcm];rfl
     rw [e2] at hb
     have hb:j5 [[.s s,.i .i64 (k:Int)]] _:=hb
     (refine Zq ?_;intros)
     exact fun e=>ih k _ _ ⟨rfl,RB.bx aS rfl,oM,by rw [← e1j hlt hbl h59 hh hcm];exact he⟩ oM e
    | none =>
     refine G6 hk ⟨⟨(s,j),hj,h2⟩,hh⟩ (r:=.fl 122 11 s.length) (by show a83 s j=_;unfold a83 a8r;rw [hcm]) l6 (RB.bx aS rfl) fun _ hv=>?_
     have ho:LQ.skip s i=none:=by rw [← he,d69 hlt hbl h59 hh hcm]
     have e1:a2w s i=S3 11 s.length:=by unfold a2w;rw [ho]
     have e2:a4j s i=i:=by unfold a4j;rw [ho];rfl
     rw [e1,e2]
     exact Q2 hv (scC rfl)
   ·exact stop (b2y hlt hbl h59 (by simpa using ‹¬has s j 35 124=true›)) aS
 ·have hlt:¬j < s.length:=fun h=>‹¬decide (j < s.length)=true› (decide_eq_true h)
  exact stop (c8o hlt) aS
theorem b70:n5 1 45=[45]:=dE
theorem Z0 (s:i6):F3 s [45]=s.drop (j7 s):=by
 unfold F3 U0 j7
 cases s with
 | nil=>simp
 | cons c s =>
  have hb:bt (c :: s) 0=c.toNat:=rfl
  by_cases h:c=45
  ·subst h;simp [hb]
  ·have h':¬(c.toNat:Int)=45:=fun e=>h (UInt8.toNat_inj.1 (by show c.toNat=45;omega))
   simp [h,hb,h']
theorem a3w (s:i6) (a k:Nat):bt (s.drop a) k=bt s (a+k):=by unfold bt;simp [List.getD]
theorem d0j (s:i6) (a k:Nat) (h:a+k≤s.length):s9 s (a+k)=a+s9 (s.drop a) k:=by
 generalize hm:s.length - (a+k)=m
 induction m generalizing k with
 | zero=>rw [s9,if_neg oM,s9,if_neg (by simp;omega)]
 | succ m ih =>
  have hb:bt (s.drop a) k=bt s (a+k):=a3w s a k
  rw [s9,if_pos oM]
  conv=>rhs;rw [s9,if_pos (by rw [List.length_drop];omega),hb]
  by_cases hc:a0x (bt s (a+k))=true
  ·rw [if_pos hc,if_pos hc];exact ih (k+1) oM oM
  ·rw [if_neg hc,if_neg hc]
theorem d1l:l5 193 (sp1 fun s=>.ret (.c (.b (B8 s)))):=n6 (fun fn h=>e90 h) [(184,_)] (.cons a1i .nil) fun U fn hfn ⟨s,hs⟩ vs bs hv hb=>by
 have hp:=hfn 184 _ rfl
 have hv:l8 [.c (.s s)] vs:=hv
 have hb:j5 [] bs:=hb
 show j6 U _ fun v bs'=>l9 (.ret (.c (.b (B8 s)))) v∧j5 [] bs'
 obtain ⟨d,hd⟩:∃ d,s.drop (j7 s)=d:=⟨_,rfl⟩
 unfold e11
 (refine Zq ?_;intros)
 refine j3 hp ⟨(s,n5 1 45),trivial⟩ (r:=.c (.s d)) (by show s8.ret (.c (.s (F3 s (n5 1 45))))=_;rw [b70,Z0,hd]) l6 .nil fun _ _ _ _=>?_
 have hsl:=W1 s
 have hdl:d.length=s.length - j7 s:=by rw [← hd];simp
 have hb0:((d.getD 0 0).toNat:Int)=bt s (j7 s):=by rw [← hd];exact (a3w s (j7 s) 0).trans (by rw [Nat.add_zero])
 have hb0':((d.getD (Int.toNat 0) 0).toNat:Int)=bt s (j7 s):=hb0
 have zz:∀ b:Bool,B8 s=b→∀ x:Bool,(U=CU→x=b)→j6 U (some (.ret (.bool x),[])) fun v bs'=>l9 (.ret (.c (.b (B8 s)))) v∧j5 [] bs':=fun b h x hx=>L7 fun e=>⟨.ret _ _ (V9 (by rw [h,hx e])),.nil⟩
 have zs:(d=[]∨bt s (j7 s)=48)→∀ x:Bool,(U=CU→x=decide (s=n5 1 48))→j6 U (some (.ret (.bool x),[])) fun v bs'=>l9 (.ret (.c (.b (B8 s)))) v∧j5 [] bs':=fun h x hx=>by
  refine zz (decide (s=n5 1 48)) ?_ x hx
  have:¬(j7 s < s.length∧bt s (j7 s) ≠ 48):=by
   rcases h with h | h
   ·rw [h] at hdl;simp at hdl;omega
   ·exact fun k=>k.2 h
  unfold B8
  rw [decide_eq_false this,Bool.false_and,Bool.or_false];rfl
 (refine Zq ?_;with_reducible repeat' first|intro _|apply aI)
 ·exact zs (.inl ‹d=n5 0 0›) _ fun e=>by subst e;exact b55 s 1 48
 ·have hne:d ≠ []:=‹¬d=n5 0 0›
  have hpos:0 < d.length:=List.length_pos_iff.2 hne
  (refine Zq ?_;with_reducible repeat' first|intro _|apply aI)
  ·exact zs (.inr (hb0.symm.trans aS)) _ fun e=>by subst e;exact b55 s 1 48
  ·have h48:¬((d.getD 0 0).toNat:Int)=48:=aS
   have e0:B8 s=decide (s9 d 0=d.length):=by
    have hz:¬s=A9:=fun e=>h48 (by rw [hb0];subst e;decide)
    have h1:j7 s < s.length∧bt s (j7 s) ≠ 48:=⟨oM,oM⟩
    have h2:=d0j s (j7 s) 0 oM
    rw [Nat.add_zero,hd] at h2
    unfold B8
    rw [decide_eq_true h1,Bool.true_and,decide_eq_false hz,Bool.false_or]
    rw [Bool.eq_iff_iff,decide_eq_true_iff,decide_eq_true_iff];omega
   have hl:d.length < 90000:=by have:s.length < 90000:=hs;omega
   refine H0 (fun (i:Nat) vs bs=>vs=[.str d.length (p9 d),.int .i64 d.length,.int .i64 i]∧bs=[]∧i≤d.length∧s9 d i=s9 d 0) (fun i=>d.length - i) 0 ⟨rfl,rfl,oM,rfl⟩ (by simp only [C2];omega) ?_
   rintro self i vs bs ⟨rfl,rfl,hi,he⟩ ih
   (refine Zq ?_;with_reducible repeat' first|intro _|apply aI)
   ·exact k9 ⟨.ret _ _ (M5 (by rw [e0,← he,b7v (i:=i) oM oM];exact decide_eq_false oM)),.nil⟩
   ·exact k9 ⟨.ret _ _ (M5 (by rw [e0,← he,b7v (i:=i) oM oM];exact decide_eq_false oM)),.nil⟩
   ·exact ih (i+1) _ _ ⟨rfl,rfl,oM,by rw [← he,c57 (i:=i) oM ‹_› ‹_›]⟩ oM
   ·exact k9 ⟨.ret _ _ (M5 (by rw [e0,← he,b9y (i:=i) oM];exact decide_eq_true oM)),.nil⟩
theorem a62:l5 176 (sp1 fun s=>.ret (.c (.s (N4 s)))):=n6 (fun fn h=>e7u h) [(193,_)] (.cons d1l .nil) fun U fn hfn ⟨s,hs⟩ vs bs hv hb=>by
 have hp:=hfn 193 _ rfl
 have hv:l8 [.c (.s s)] vs:=hv
 have hb:j5 [] bs:=hb
 show j6 U _ fun v bs'=>l9 (.ret (.c (.s (N4 s)))) v∧j5 [] bs'
 unfold e29
 (refine Zq ?_;intros)
 refine j3 hp ⟨s,hs⟩ (r:=.c (.b (B8 s))) rfl l6 .nil fun _ _ _ _=>?_
 (refine Zq ?_;with_reducible repeat' first|intro _|apply aI)
 ·have e:N4 s=s:=by unfold N4;rw [if_pos ‹_›]
  rw [e];exact k9 ⟨.ret _ _ (.s _ _ _ rfl rfl),.nil⟩
 ·have e:N4 s=n5 1 48:=by unfold N4;rw [if_neg ‹_›];rfl
  rw [e];exact k9 ⟨.ret _ _ (.s _ _ _ rfl rfl),.nil⟩
theorem b1f (s:i6):(N4 s).length≤s.length∨(N4 s).length≤1:=by unfold N4;split;exact .inl (Nat.le_refl _);exact .inr dE
theorem c7p (s:i6):(N4 s).drop (j7 (N4 s))=i7 (j0 s).natAbs:=by
 rw [a2b,I8]
 have h:=a35 (j0 s) (j0 s).natAbs []
 rw [List.append_nil] at h
 rw [h,List.drop_left]
theorem c5q:l5 167 (sp1 fun s=>.ret (.c (.i .i64 ((i7 (j0 s).natAbs).length:Nat)))):=n6 (fun fn h=>e9r h) [(176,_),(184,_)] (.cons a62 (.cons a1i .nil)) fun U fn hfn ⟨s,hs⟩ vs bs hv hb=>by
 have hp:=hfn 176 _ rfl
 have ht:=hfn 184 _ rfl
 have hv:l8 [.c (.s s)] vs:=hv
 have hb:j5 [] bs:=hb
 show j6 U _ fun v bs'=>l9 (.ret (.c (.i .i64 ((i7 (j0 s).natAbs).length:Nat)))) v∧j5 [] bs'
 unfold e2x
 (refine Zq ?_;intros)
 refine j3 hp ⟨s,hs⟩ (r:=.c (.s (N4 s))) rfl l6 .nil fun _ _ _ _=>?_
 (refine Zq ?_;intros)
 refine j3 ht ⟨(N4 s,n5 1 45),trivial⟩ (r:=.c (.s (i7 (j0 s).natAbs))) (by show s8.ret (.c (.s (F3 (N4 s) (n5 1 45))))=_;rw [b70,Z0,c7p]) l6 .nil fun _ _ _ _=>?_
 (refine Zq ?_;intros)
 exact k9 ⟨.ret _ _ (.i _ _),.nil⟩
def lg (d:Nat):List G:=[.i .u32 (d:Int)]
theorem f68 {a b:Nat} (h:lg a=lg b):a=b:=by simp only [lg,List.cons.injEq,G.i.injEq,and_true,true_and] at h;omega
theorem a4v:∀ {l m:List Nat},l.map lg=m.map lg→l=m
 | [],[],_=>rfl
 | [],_ :: _,h=>by simp at h
 | _ :: _,[],h=>by simp at h
 | a :: l,b :: m,h=>by simp only [List.map_cons,List.cons.injEq] at h;exact congr (congrArg List.cons (f68 h.1)) (a4v h.2)
section
variable {U:x5} {P:L3→List Bx→Prop}
theorem c02 {l:List Nat} {t:j9 Q} {off:Nat} {i:Int} (n:Nat) {K:Q→Om} (ht:r7 1 (l.map lg) t off) (hn:i=n) (hi:n < l.length) (h:∀ x,A8 (lg (l.getD n 0)) x 0→j6 U (K x) P):j6 U (U.fQ (U.tQ t (U.nAdd off (U.iNat i))) K) P:=by
 subst hn
 refine b93 (y:=l.getD n 0) ht ?_ h
 rw [Int.toNat_natCast,List.getElem?_eq_getElem hi]
 simp [List.getD,List.getElem?_eq_getElem hi]
end
def spM (R:List Nat→s8):Sp where
 ι:={ l:List Nat // l.length < 20000 }
 A l:=[.sl 1 (l.1.map lg)]
 B _:=[]
 R l:=R l.1
 B' _:=[]
 inj i j vs bs h k _ _:=by
  obtain ⟨_,_,h1,k1,h,k⟩:=h.two k
  rw [a4v (h1.sl_inj k1)];exact ⟨rfl,rfl⟩
def f6z (ok:List Nat→List Nat→Prop) (R:List Nat→List Nat→s8):Sp where
 ι:={ p:List Nat × List Nat // p.1.length < 20000∧p.2.length < 20000∧ok p.1 p.2 }
 A p:=[.sl 1 (p.1.1.map lg),.sl 1 (p.1.2.map lg)]
 B _:=[]
 R p:=R p.1.1 p.1.2
 B' _:=[]
 inj i j vs bs h k _ _:=by
  obtain ⟨_,_,h1,k1,h,k⟩:=h.two k
  obtain ⟨_,_,h2,k2,h,k⟩:=h.two k
  rw [a4v (h1.sl_inj k1),a4v (h2.sl_inj k2)];exact ⟨rfl,rfl⟩
theorem b8o:l5 222 (spM fun l=>.ret (.sl 1 ((G0 l).map lg))):=n6 (fun fn h=>e8b h) [] .nil fun U fn hfn ⟨l,hs⟩ vs bs hv hb=>by
 have hv:l8 [.sl 1 (l.map lg)] vs:=hv
 have hb:j5 [] bs:=hb
 have hs:l.length < 20000:=hs
 show j6 U _ fun v bs'=>l9 (.ret (.sl 1 ((G0 l).map lg))) v∧j5 [] bs'
 unfold e0w
 (refine Zx ?_;intros)
 refine H0 (fun (m:Nat) vs bs=>∃ (t:j9 Q) (off:Nat),vs=[.slice t 1 off m .no]∧bs=[]∧r7 1 (l.map lg) t off∧m≤l.length∧U5 l m=U5 l l.length) (fun m=>m) l.length ⟨_,_,rfl,rfl,aS,oM,rfl⟩ (by simp only [C2];omega) ?_
 rintro self m _ _ ⟨t,off,rfl,rfl,ht,hm,he⟩ ih
 have fin:¬(0 < m∧l.getD (m - 1) 0=0)→j6 U (some (.ret (.slice t 1 off m .no),[])) fun v bs'=>l9 (.ret (.sl 1 ((G0 l).map lg))) v∧j5 [] bs':=fun h=>by
  have e:G0 l=l.take m:=by
   unfold G0
   rw [← he]
   cases m with
   | zero=>rfl
   | succ m=>rw [U5,if_neg (fun k=>h ⟨oM,by simpa using k⟩)]
  rw [e,List.map_take]
  exact k9 ⟨.ret _ _ (.sl _ _ _ _ _ (by simp;omega) (ht.take m)),.nil⟩
 (refine Zx ?_;with_reducible repeat' first|intro _|apply aI)
 ·refine c02 (m - 1) aS oM oM fun _ _=>?_
  (refine Zx ?_;with_reducible repeat' first|intro _|apply aI)
  ·have h0:=‹((l.getD (m - 1) 0:Nat):Int)=0›
   simp only [Int.toNat_zero,Nat.add_zero,Nat.sub_zero]
   refine ih (m - 1) _ _ ⟨t,off,by rw [show ((m:Int) - 1).toNat=m - 1 by omega],rfl,ht,oM,?_⟩ oM
   obtain ⟨m,rfl⟩:∃ n,m=n+1:=⟨m - 1,oM⟩
   rw [← he,U5,if_pos (by simpa using h0)];rfl
  ·exact fin fun h=>‹¬((l.getD (m - 1) 0:Nat):Int)=0› oM
 ·exact fin fun h=>oM
theorem b9u:l5 223 (f6z (fun _ _=>True) fun a b=>.ret (.c (.i .i64 (S5 a b)))):=n6 (fun fn h=>e61 h) [] .nil fun U fn hfn ⟨(a,b),ha,hbl,_⟩ vs bs hv hb=>by
 have ha:a.length < 20000:=ha
 have hbl:b.length < 20000:=hbl
 have hv:l8 [.sl 1 (a.map lg),.sl 1 (b.map lg)] vs:=hv
 have hb:j5 [] bs:=hb
 show j6 U _ fun v bs'=>l9 (.ret (.c (.i .i64 (S5 a b)))) v∧j5 [] bs'
 unfold e3e
 (refine Zx ?_;with_reducible repeat' first|intro _|apply aI)
 ·have hl:a.length=b.length:=oM
  have e:S5 a b=H4 a b a.length:=by unfold S5;rw [if_pos hl]
  rw [e]
  refine H0 (fun (m:Nat) vs bs=>∃ (t:j9 Q) (off:Nat) (t':j9 Q) (off':Nat) (i:Int),vs=[.slice t 1 off a.length .no,.slice t' 1 off' b.length .no,.int .i64 i]∧bs=[]∧i=m - 1∧r7 1 (a.map lg) t off∧r7 1 (b.map lg) t' off'∧m≤a.length∧H4 a b m=H4 a b a.length) (fun m=>m) a.length ⟨_,_,_,_,_,rfl,rfl,rfl,aS,aS,oM,rfl⟩ (by simp only [C2];omega) ?_
  rintro self m _ _ ⟨t,off,t',off',i,rfl,rfl,rfl,ht,ht',hm,he⟩ ih
  (refine Zx ?_;with_reducible repeat' first|intro _|apply aI)
  ·refine c02 (m - 1) aS oM oM fun _ _=>?_
   (refine Zx ?_;intros)
   refine c02 (m - 1) aS oM oM fun _ _=>?_
   (refine Zx ?_;with_reducible repeat' first|intro _|apply aI)
   ·refine ih (m - 1) _ _ ?_ oM
    obtain ⟨m,rfl⟩:∃ n,m=n+1:=⟨m - 1,oM⟩
    exact ⟨_,_,_,_,_,rfl,rfl,oM,ht,ht',oM,by rw [← he,Nat.add_sub_cancel];conv=>rhs;rw [H4,if_neg (by simp only [Nat.add_sub_cancel] at *;omega),if_neg (by simp only [Nat.add_sub_cancel] at *;omega)]⟩
   ·refine c02 (m - 1) aS oM oM fun _ _=>?_
    (refine Zx ?_;intros)
    refine c02 (m - 1) aS oM oM fun _ _=>?_
    (refine Zx ?_;with_reducible repeat' first|intro _|apply aI)
    ·obtain ⟨m,rfl⟩:∃ n,m=n+1:=⟨m - 1,oM⟩
     exact k9 ⟨.ret _ _ (rvI (by rw [← he,H4,if_pos (by simp only [Nat.add_sub_cancel] at *;omega)])),.nil⟩
    ·obtain ⟨m,rfl⟩:∃ n,m=n+1:=⟨m - 1,oM⟩
     exact k9 ⟨.ret _ _ (rvI (by rw [← he,H4,if_neg (by simp only [Nat.add_sub_cancel] at *;omega),if_pos (by simp only [Nat.add_sub_cancel] at *;omega)])),.nil⟩
  ·have em:m=0:=oM
   subst em
   exact k9 ⟨.ret _ _ (rvI (by rw [← he];rfl)),.nil⟩
 ·exact k9 ⟨.ret _ _ (rvI (by unfold S5;rw [if_neg oM,if_pos oM])),.nil⟩
 ·exact k9 ⟨.ret _ _ (rvI (by unfold S5;rw [if_neg oM,if_neg oM])),.nil⟩
section
variable {U:x5} {P:L3→List Bx→Prop}
theorem f2x {e:Int} (h1:0≤e) (h2:e < 4294967296):wr .u32 e=e:=by
 rw [a3e];show e % 4294967296=e;omega
theorem b9d {e:Int} (h1:0≤e) (h2:e < 18446744073709551616):wr .u64 e=e:=by
 rw [a3e];show e % 18446744073709551616=e;omega
theorem a6a {e m:Int} {K:Int→Om} (he:e=m) (hr:0≤m∧m < 4294967296) (h:j6 U (K m) P):j6 U (U.fI (U.wr .u32 e) K) P:=fun e'=>by
 have:=h e';subst e' he;rw [Z6]
 show ∃ v bs,K (wr .u32 e)=some (v,bs)∧P v bs
 rw [f2x hr.1 hr.2];exact this
theorem c4k {e m:Int} {K:Int→Om} (he:e=m) (hr:0≤m∧m < 18446744073709551616) (h:j6 U (K m) P):j6 U (U.fI (U.wr .u64 e) K) P:=fun e'=>by
 have:=h e';subst e' he;rw [Z6]
 show ∃ v bs,K (wr .u64 e)=some (v,bs)∧P v bs
 rw [b9d hr.1 hr.2];exact this
end
def A5 (n:Nat):List (List G):=(n7 n).map lg
theorem a92 {a b:Nat} (h:A5 a=A5 b):a=b:=c08 (a4v h)
def f3i (ok:Nat→Nat→Prop) (R:Nat→Nat→s8):Sp where
 ι:={ p:Nat × Nat // (n7 p.1).length < 20000∧(n7 p.2).length < 20000∧ok p.1 p.2 }
 A p:=[.sl 1 (A5 p.1.1),.sl 1 (A5 p.1.2)]
 B _:=[]
 R p:=R p.1.1 p.1.2
 B' _:=[]
 inj i j vs bs h k _ _:=by
  obtain ⟨_,_,h1,k1,h,k⟩:=h.two k
  obtain ⟨_,_,h2,k2,h,k⟩:=h.two k
  rw [a92 (h1.sl_inj k1),a92 (h2.sl_inj k2)];exact ⟨rfl,rfl⟩
theorem O6 (l:List Nat) (i:Nat):m8 (l.take (i+1))=m8 (l.take i)+B9 ^ i * l.getD i 0:=by
 rcases Nat.lt_or_ge i l.length with h | h
 ·exact c0i l i h
 ·rw [List.take_of_length_le h,List.take_of_length_le oM];simp [List.getD,List.getElem?_eq_none h]
theorem e1f (l:List Nat) (i x:Nat):(l.set i x).take i=l.take i:=by
 rw [List.take_set_of_le (Nat.le_refl _)]
theorem b0h {x y:Nat} (h:y≤x):(n7 y).length≤(n7 x).length:=by
 have h1:=Y4 (n7 x) (P3 x)
 rw [H9] at h1
 exact a91 oM
theorem b6x (n:Nat):LQ.LB (List.replicate n 0):=fun d h=>by rw [List.eq_of_mem_replicate h];decide
theorem c31 {l:List Nat} {i x:Nat} (h:i < l.length):(l.set i x).getD i 0=x:=by simp [List.getD,List.getElem?_set,h]
theorem a5p {a b out:List Nat} {i bor bor' x:Nat} (hi:i < out.length) (he:m8 (a.take i)+B9 ^ i * bor=m8 (out.take i)+m8 (b.take i)) (hx:a.getD i 0+1000000000 * bor'=x+b.getD i 0+bor) :
  m8 (a.take (i+1))+B9 ^ (i+1) * bor'=m8 ((out.set i x).take (i+1))+m8 (b.take (i+1)):=by
 rw [O6 a,O6 b,O6 (out.set i x),e1f,c31 hi,Nat.pow_succ,Nat.mul_assoc]
 have h:=congrArg (B9 ^ i * ·) hx
 rw [show (1000000000:Nat)=B9 from rfl] at h
 simp only [Nat.mul_add] at h
 omega
theorem gD {l:List Nat} {i:Nat} (h:i < l.length):l[i]=l.getD i 0:=by simp only [List.getD,List.getElem?_eq_getElem h,Option.getD_some]
theorem gD0 {l:List Nat} {i:Nat} (h:l.length≤i):l.getD i 0=0:=by simp only [List.getD,List.getElem?_eq_none h,Option.getD_none]
theorem d81 {a b out:List Nat} {bor:Nat} (hol:out.length=a.length) (hyx:b.length≤a.length) (hxy:m8 b≤m8 a) (hLo:LQ.LB out) (hb:bor≤1) (he:m8 (a.take a.length)+B9 ^ a.length * bor=m8 (out.take a.length)+m8 (b.take a.length)):m8 out=m8 a - m8 b:=by
 rw [List.take_of_length_le (Nat.le_refl _),List.take_of_length_le oM,List.take_of_length_le oM] at he
 have h:=Y4 out hLo
 rw [hol] at h
 rcases Nat.lt_or_ge bor 1 with h1 | h1
 ·have:bor=0:=oM
  subst this;omega
 ·have:bor=1:=oM
  subst this;omega
theorem f1s {U:x5} {fn:FF} {vs:List V} {bs:List Bx} (ht:Ans fn 222 (spM fun l=>.ret (.sl 1 ((G0 l).map lg)))) {a b:List Nat} (hx:a.length < 20000) (hyx:b.length≤a.length) (hxy:m8 b≤m8 a) (hLa:LQ.LB a) (hLb:LQ.LB b) (hv:l8 [.sl 1 (a.map lg),.sl 1 (b.map lg)] vs) (hb:j5 [] bs) :
  j6 U (d4j U fn vs bs) fun v bs'=>l9 (.ret (.sl 1 (A5 (m8 a - m8 b)))) v∧j5 [] bs':=by
 unfold d4j
 (refine Zx ?_;intros)
 refine sZT (n:=1) (r:=lg 0) (fun _=>L8 (.i _ _)) rfl oM fun t' ht'=>?_
 (refine Zx ?_;intros)
 refine H0 (fun (i:Nat) vs bs=>∃ (t1:j9 Q) (o1:Nat) (t2:j9 Q) (o2:Nat) (t3:j9 Q) (out:List Nat) (bor:Nat),vs=[.slice t1 1 o1 a.length .no,.slice t2 1 o2 b.length .no,.bslice 0 a.length,.int .i64 bor,.int .i64 a.length,.int .i64 i]∧bs=[.row t3 a.length]∧r7 1 (a.map lg) t1 o1∧r7 1 (b.map lg) t2 o2∧r7 1 (out.map lg) t3 0∧out.length=a.length∧LQ.LB out∧i≤a.length∧bor≤1∧m8 (a.take i)+B9 ^ i * bor=m8 (out.take i)+m8 (b.take i)) (fun i=>a.length - i) 0 ?_ (by simp only [C2];omega) ?_
 ·exact ⟨_,_,_,_,t',List.replicate a.length 0,0,by simp only [Int.toNat_natCast];rfl,by simp,aS,aS,by simpa [List.map_replicate] using ht',by simp,b6x _,oM,oM,by simp [m8]⟩
 rintro self i _ _ ⟨t1,o1,t2,o2,t3,out,bor,rfl,rfl,h1,h2,h3,hol,hLo,hi,hbor,he⟩ ih
 (refine Zx ?_;with_reducible repeat' first|intro _|apply aI)
 ·have q1:a.getD i 0 < 1000000000:=a6s hLa i
  have q2:b.getD i 0 < 1000000000:=a6s hLb i
  rw [gD (l:=a) oM]
  refine b2n rfl oM ?_
  (refine Zx ?_;with_reducible repeat' first|intro _|apply aI)
  ·rw [gD (l:=b) oM]
   refine b2n rfl oM ?_
   (refine Zx ?_;with_reducible repeat' first|intro _|apply aI)
   ·(refine a6a (m:=((a.getD i 0+1000000000 - bor - b.getD i 0:Nat):Int)) oM oM ?_;(refine Zx ?_;with_reducible repeat' first|intro _|apply aI);refine b1j (r:=lg (a.getD i 0+1000000000 - bor - b.getD i 0)) h3 (fun _=>L8 (.i _ _)) rfl (by simp;omega) oM fun t9 h9=>?_;(refine Zx ?_;with_reducible repeat' first|intro _|apply aI);refine ih (i+1) _ _ ?_ oM;exact ⟨t1,o1,t2,o2,t9,out.set i (a.getD i 0+1000000000 - bor - b.getD i 0),1,by simp,by simp,h1,h2,by rw [List.map_set];simpa using h9,by simp [hol],a4k hLo _ _ (by show _ < 1000000000;omega),oM,oM,a5p oM he oM⟩)
   ·(refine a6a (m:=((a.getD i 0 - bor - b.getD i 0:Nat):Int)) oM oM ?_;(refine Zx ?_;with_reducible repeat' first|intro _|apply aI);refine b1j (r:=lg (a.getD i 0 - bor - b.getD i 0)) h3 (fun _=>L8 (.i _ _)) rfl (by simp;omega) oM fun t9 h9=>?_;(refine Zx ?_;with_reducible repeat' first|intro _|apply aI);refine ih (i+1) _ _ ?_ oM;exact ⟨t1,o1,t2,o2,t9,out.set i (a.getD i 0 - bor - b.getD i 0),0,by simp,by simp,h1,h2,by rw [List.map_set];simpa using h9,by simp [hol],a4k hLo _ _ (by show _ < 1000000000;omega),oM,oM,a5p oM he oM⟩)
  ·have e2:b.getD i 0=0:=gD0 oM
   (refine a6a (m:=((a.getD i 0+1000000000 - bor:Nat):Int)) oM oM ?_;(refine Zx ?_;with_reducible repeat' first|intro _|apply aI);refine b1j (r:=lg (a.getD i 0+1000000000 - bor)) h3 (fun _=>L8 (.i _ _)) rfl (by simp;omega) oM fun t9 h9=>?_;(refine Zx ?_;with_reducible repeat' first|intro _|apply aI);refine ih (i+1) _ _ ?_ oM;exact ⟨t1,o1,t2,o2,t9,out.set i (a.getD i 0+1000000000 - bor),1,by simp,by simp,h1,h2,by rw [List.map_set];simpa using h9,by simp [hol],a4k hLo _ _ (by show _ < 1000000000;omega),oM,oM,a5p oM he oM⟩)
  ·have e2:b.getD i 0=0:=gD0 oM
   (refine a6a (m:=((a.getD i 0 - bor:Nat):Int)) oM oM ?_;(refine Zx ?_;with_reducible repeat' first|intro _|apply aI);refine b1j (r:=lg (a.getD i 0 - bor)) h3 (fun _=>L8 (.i _ _)) rfl (by simp;omega) oM fun t9 h9=>?_;(refine Zx ?_;with_reducible repeat' first|intro _|apply aI);refine ih (i+1) _ _ ?_ oM;exact ⟨t1,o1,t2,o2,t9,out.set i (a.getD i 0 - bor),0,by simp,by simp,h1,h2,by rw [List.map_set];simpa using h9,by simp [hol],a4k hLo _ _ (by show _ < 1000000000;omega),oM,oM,a5p oM he oM⟩)
 ·have em:i=a.length:=oM
  subst em
  refine j3 ht ⟨out,by show out.length < 20000;omega⟩ (r:=.sl 1 (A5 (m8 a - m8 b))) (by rw [← d81 hol hyx hxy hLo hbor he];show s8.ret (.sl 1 ((G0 out).map lg))=_;rw [a2f out hLo];rfl) (.k (.sl _ _ _ _ _ (by simp [hol]) h3) .nil) .nil fun _ _ _ _=>?_
  (refine Zx ?_;intros)
  exact k9 ⟨.ret _ _ (.sl _ _ _ _ _ (by simp [A5]) aS),.nil⟩
theorem e9w:l5 205 (f3i (fun x y=>y≤x) fun x y=>.ret (.sl 1 (A5 (x - y)))):=n6 (fun fn h=>f0x h) [(222,_)] (.cons b8o .nil) fun U fn hfn ⟨(x,y),hx,hy,hxy⟩ vs bs hv hb=>by
 have h:=f1s (U:=U) (hfn 222 _ rfl) (a:=n7 x) (b:=n7 y) hx (b0h hxy) (by rw [H9,H9];exact hxy) (P3 x) (P3 y) hv hb
 rw [H9,H9] at h;exact h
end
end Go.Proofs.YtffaodopiifbkaaGreatDoor
