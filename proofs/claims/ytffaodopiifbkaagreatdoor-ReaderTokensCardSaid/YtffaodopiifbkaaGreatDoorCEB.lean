/- The program's reader: comments, blanks. -/
import Derived.Test.YtffaodopiifbkaaGreatDoorCEA
import Derived.Test.YtffaodopiifbkaaGreatDoorCN
set_option linter.all false
namespace Go.Proofs.YtffaodopiifbkaaGreatDoor
open Go.Abs LQ
set_option maxRecDepth 100000
set_option maxHeartbeats 4000000
noncomputable section
abbrev P4 (e p:Int):y4:=.pan (.fl 122 e p)
theorem b1s:l5 51 { ι:=Int × Int,A:=fun p=>[.c (.i .i64 p.1),.c (.i .i64 p.2)],B:=fun _=>[],R:=fun p=>P4 p.1 p.2,B':=fun _=>[],inj:=fun i j vs bs h k _ _=>(by
  obtain ⟨_,_,h1,k1,h,k⟩:=h.two k
  obtain ⟨_,_,h2,k2,h,k⟩:=h.two k
  rw [M7 h1 k1,M7 h2 k2];exact ⟨rfl,rfl⟩) }:=v7 (fun fn h=>e6o h) [] .nil fun U fn hfn ⟨e,p⟩ vs bs hv hb=>by
 have hv:l9 [.c (.i .i64 e),.c (.i .i64 p)] vs:=hv
 have hb:RBs [] bs:=hb
 show j3 U _ fun v bs'=>m8 (P4 e p) v∧RBs [] bs'
 unfold r51
 (refine Zq ?_;with_reducible repeat' first|intro _|apply aI)
 exact l6 ⟨.pan _ _ (.fl _ _ _ _ j9),.nil⟩
def e8k (ok:i7→Nat→Prop) (R:i7→Nat→y4) (b:i7→Nat→Nat):Sp where
 ι:={ p:ScI // ok p.1.1 p.1.2 }
 A _:=[.p 0 0]
 B p:=[H7 p.1.1.1 p.1.1.2]
 R p:=R p.1.1.1 p.1.1.2
 B' p:=[H7 p.1.1.1 (b p.1.1.1 p.1.1.2)]
 inj i j vs bs _ _ h k:=by
  have:=a4p (RBs.one_inj h k)
  rw [this.1,this.2];exact ⟨rfl,rfl⟩
theorem c7n {s:i7} {i:Nat} {a b:UInt8} (hi:i≤s.length):Q7 (s.drop i) [a,b]=has s i a.toNat b.toNat:=by
 unfold Q7 has
 by_cases h:i+1 < s.length
 ·have e:(s.drop i).take 2=[s[i],s[i+1]]:=by
   rw [List.drop_eq_getElem_cons (by omega),List.drop_eq_getElem_cons (by omega)];rfl
  have b0:bt s i=s[i].toNat:=by unfold bt;simp [List.getD,List.getElem?_eq_getElem (show i < s.length by omega)]
  have b1:bt s (i+1)=s[i+1].toNat:=by unfold bt;simp [List.getD,List.getElem?_eq_getElem h]
  rw [Bool.eq_iff_iff,decide_eq_true_iff,decide_eq_true_iff,b0,b1]
  simp only [List.length_cons,List.length_nil,List.length_drop,e,List.cons.injEq,and_true]
  constructor
  ·rintro ⟨_,h1,h2⟩;rw [h1,h2];exact ⟨h,rfl,rfl⟩
  ·rintro ⟨_,h1,h2⟩
   exact ⟨by omega,UInt8.toNat_inj.1 (by omega),UInt8.toNat_inj.1 (by omega)⟩
 ·rw [Bool.eq_iff_iff,decide_eq_true_iff,decide_eq_true_iff]
  simp only [List.length_cons,List.length_nil,List.length_drop]
  constructor
  ·rintro ⟨h1,_⟩;omega
  ·rintro ⟨h1,_⟩;omega
theorem d0u:u7 2 31779=[35,124]:=by decide
theorem e5f:u7 2 9084=[124,35]:=by decide
theorem e60:u7 2 14906=[58,58]:=by decide
def a6w (s:i7) (i:Nat):Option Nat:=z7 s (i+2) 1
def a7i (s:i7) (i:Nat):y4:=match a6w s i with
 | some _=>.ret (.t [])
 | none=>P4 11 s.length
def a88 (s:i7) (i:Nat):Nat:=(a6w s i).getD i
theorem e4z {s:i7} {j d:Nat} (h:j < s.length) (hh:has s j 35 124=true):z7 s j (d+1)=z7 s (j+2) (d+2):=by rw [z7,if_neg (by omega),if_pos h,if_pos hh]
theorem c6i {s:i7} {j d:Nat} (h:j < s.length) (hh:¬has s j 35 124=true) (h2:has s j 124 35=true):z7 s j (d+1)=z7 s (j+2) d:=by rw [z7,if_neg (by omega),if_pos h,if_neg hh,if_pos h2];rfl
theorem e6n {s:i7} {j d:Nat} (h:j < s.length) (hh:¬has s j 35 124=true) (h2:¬has s j 124 35=true):z7 s j (d+1)=z7 s (j+1) (d+1):=by rw [z7,if_neg (by omega),if_pos h,if_neg hh,if_neg h2]
theorem d89 {s:i7} {j d:Nat} (h:¬j < s.length):z7 s j (d+1)=none:=by rw [z7,if_neg (by omega),if_neg h]
theorem e76 (s:i7) (j:Nat):z7 s j 0=some j:=by rw [z7,if_pos rfl]
theorem d22:l5 161 (e8k (fun s i=>has s i 35 124=true) a7i a88):=v7 (fun fn h=>d81 h) [(135,_),(160,_),(51,_)] (.cons b5s (.cons b6x (.cons b1s .nil))) fun U fn hfn ⟨⟨(s,i),h1,h2⟩,h3⟩ vs bs hv hb=>by
 have hm:=hfn 135 _ rfl
 have hs:=hfn 160 _ rfl
 have hf:=hfn 51 _ rfl
 have hv:l9 [.p 0 0] vs:=hv
 have hb:RBs [[.s s,.i .i64 (i:Int)]] bs:=hb
 have h1:i≤s.length:=h1
 have h2:s.length < 90000:=h2
 have h3:has s i 35 124=true:=h3
 show j3 U _ fun v bs'=>m8 (a7i s i) v∧RBs [H7 s (a88 s i)] bs'
 unfold d4u
 (refine Zq ?_;with_reducible repeat' first|intro _|apply aI)
 have h4:=K5 h3
 refine F8 (fun (p:Nat × Nat) vs bs=>vs=[.ptr 0 0,.int .i64 (p.2:Int)]∧RBs [H7 s p.1] bs∧p.1≤s.length∧(p=(i,0)∨∃ d,p.2=d+1∧d≤p.1∧z7 s p.1 (d+1)=a6w s i)) (fun p=>s.length - p.1) (i,0) ⟨rfl,Z0 rfl,h1,.inl rfl⟩ (by simp only [B8];omega) ?_
 rintro self ⟨j,d⟩ vs bs ⟨rfl,hb,hj,hd⟩ ih
 have hb:RBs [[.s s,.i .i64 (j:Int)]] bs:=hb
 have hj:j≤s.length:=hj
 have hdj:d≤j+1:=by
  rcases hd with hd | ⟨d',hd,h,_⟩
  ·injection hd with _ hd;omega
  ·have hd:d=d'+1:=hd
   have h:d'≤j:=h
   omega
 (refine Zq ?_;with_reducible repeat' first|intro _|apply aI)
 refine j4 hm ⟨(s,j),hj,h2⟩ (r:=.c (.b (decide (j < s.length)))) rfl j9 (RB.bx (by assumption) rfl) fun _ _ _ hb=>?_
 have hb:RBs [[.s s,.i .i64 (j:Int)]] _:=hb
 (refine Zq ?_;with_reducible repeat' first|intro _|apply aI)
 ·have hlt:j < s.length:=of_decide_eq_true ‹_›
  refine j4 hs ⟨⟨(s,j),hj,h2⟩,u7 2 31779⟩ (r:=.c (.b (Q7 (s.drop j) (u7 2 31779)))) rfl j9 (RB.bx (by assumption) rfl) fun _ _ hv hb=>?_
  have hb:RBs [[.s s,.i .i64 (j:Int)]] _:=hb
  rw [d0u,c7n hj] at hv
  (refine Zq ?_;with_reducible repeat' first|intro _|apply aI)
  ·have hh:has s j 35 124=true:=‹_›
   have hlt2:=K5 hh
   refine fun e=>ih (j+2,d+1) _ _ ⟨by simp,scQ e (by assumption) (by omega),by simp;omega,.inr ⟨d,rfl,by simp;omega,?_⟩⟩ (by simp;omega) e
   rcases hd with hd | ⟨d',hd,h,he⟩
   ·injection hd with h1 hd;subst h1 hd;rfl
   ·have hd:d=d'+1:=hd
    subst hd
    rw [← he];exact (e4z hlt hh).symm
  ·have hh:¬has s j 35 124=true:=‹_›
   refine j4 hs ⟨⟨(s,j),hj,h2⟩,u7 2 9084⟩ (r:=.c (.b (Q7 (s.drop j) (u7 2 9084)))) rfl j9 (RB.bx (by assumption) rfl) fun _ _ hv hb=>?_
   have hb:RBs [[.s s,.i .i64 (j:Int)]] _:=hb
   rw [e5f,c7n hj] at hv
   obtain ⟨d',hd,h,he⟩:∃ d',d=d'+1∧d'≤j∧z7 s j (d'+1)=a6w s i:=by
    rcases hd with hd | hd
    ·injection hd with h1 hd;subst h1;exact absurd h3 hh
    ·exact hd
   subst hd
   (refine Zq ?_;with_reducible repeat' first|intro _|apply aI)
   ·have hk:has s j 124 35=true:=‹_›
    have hlt2:=K5 hk
    have hz:d'=0:=by omega
    subst hz
    have ho:a6w s i=some (j+2):=by rw [← he,c6i hlt hh hk,e76]
    have e1:a7i s i=.ret (.t []):=by unfold a7i;rw [ho]
    have e2:a88 s i=j+2:=by unfold a88;rw [ho];rfl
    rw [e1,e2]
    exact N5 fun e=>⟨.ret _ _ (.t _ _ .nil),scQ e (by assumption) (by omega)⟩
   ·have hk:has s j 124 35=true:=‹_›
    have hlt2:=K5 hk
    refine fun e=>ih (j+2,d') _ _ ⟨by simp,scQ e (by assumption) (by omega),by simp;omega,.inr ⟨d' - 1,by simp;omega,by simp;omega,?_⟩⟩ (by simp;omega) e
    rw [← he,c6i hlt hh hk,show d' - 1+1=d' by omega]
   ·have hk:¬has s j 124 35=true:=‹_›
    refine fun e=>ih (j+1,d'+1) _ _ ⟨by simp,scQ e (by assumption) (by omega),by simp;omega,.inr ⟨d',rfl,by simp;omega,?_⟩⟩ (by simp;omega) e
    rw [← he,e6n hlt hh hk]
 ·have hlt:¬j < s.length:=fun h=>‹¬decide (j < s.length)=true› (decide_eq_true h)
  obtain ⟨d',hd,h,he⟩:∃ d',d=d'+1∧d'≤j∧z7 s j (d'+1)=a6w s i:=by
   rcases hd with hd | hd
   ·injection hd with h1 hd;subst h1;omega
   ·exact hd
  have ho:a6w s i=none:=by rw [← he,d89 hlt]
  have e1:a7i s i=P4 11 s.length:=by unfold a7i;rw [ho]
  have e2:a88 s i=i:=by unfold a88;rw [ho];rfl
  rw [e1,e2]
  refine G1 hf (11,(s.length:Int)) (r:=.fl 122 11 s.length) rfl j9 .nil fun _ hv=>?_
  exact N6 hv (Z0 rfl)
def c3h:Sp:=d4q .i32 (fun s r=>0≤r∧(r < 128∨r < 256∧s=u7 4 218761504)) fun s r=>.c (.b (decide (r < 128∧0≤Lib.indexByte s r.toNat.toUInt8)))
theorem c95 (c:Int) (h1:0≤c) (h2:c < 256):(decide (c < 128∧0≤Lib.indexByte (u7 4 218761504) c.toNat.toUInt8))=D0 c:=by
 obtain ⟨n,rfl⟩:∃ n:Nat,c=n:=⟨c.toNat,by omega⟩
 rw [Int.toNat_natCast]
 have h3:n < 256:=by omega
 have key:∀ n:Fin 256,(decide ((n.1:Int) < 128∧0≤Lib.indexByte (u7 4 218761504) n.1.toUInt8))=D0 n.1:=by decide
 exact key ⟨n,h3⟩
def a1c (s:i7) (i:Nat):y4:=match LQ.skip s i with
 | some _=>.ret (.t [])
 | none=>P4 11 s.length
def a2i (s:i7) (i:Nat):Nat:=(LQ.skip s i).getD i
theorem c4y (s:i7) (i:Nat) (hi:i≤s.length):(C3 s i:Int)=i+(if Lib.indexByte (s.drop i) 10 < 0 then (s.length:Int) - i else Lib.indexByte (s.drop i) 10):=by
 generalize hm:s.length - i=m
 induction m generalizing i with
 | zero =>
  have:i=s.length:=by omega
  subst this
  rw [C3,if_neg (by omega),List.drop_length]
  simp [Lib.indexByte]
 | succ m ih =>
  have hlt:i < s.length:=by omega
  have b0:bt s i=s[i].toNat:=by unfold bt;simp [List.getD,List.getElem?_eq_getElem hlt]
  have hge:=(S9 (s.drop (i+1)) 10).2
  have ex:Lib.indexByte (s.drop i) 10=if s[i]=10 then 0 else if Lib.indexByte (s.drop (i+1)) 10=-1 then -1 else Lib.indexByte (s.drop (i+1)) 10+1:=by
   rw [List.drop_eq_getElem_cons hlt]
   simp only [Lib.indexByte,beq_iff_eq]
  rw [ex,C3,if_pos hlt]
  by_cases h:s[i]=10
  ·rw [if_pos (by rw [b0,h];rfl)];simp [h]
  ·have h':¬bt s i=10:=fun e=>h (UInt8.toNat_inj.1 (by rw [b0] at e;show s[i].toNat=10;omega))
   rw [if_neg h',ih (i+1) (by omega) (by omega)]
   simp only [h,if_false]
   generalize Lib.indexByte (s.drop (i+1)) 10=x at *
   by_cases hz:x=-1
   ·subst hz;simp;omega
   ·simp only [hz,if_false]
    rw [if_neg (by omega),if_neg (by omega)];push_cast;omega
theorem e9b (hcr:l5 158 c3h):l5 134 (d6o a1c a2i):=v7 (fun fn h=>e07 h) [(135,_),(158,_),(159,_),(160,_),(161,_)] (.cons b5s (.cons hcr (.cons c7q (.cons b6x (.cons d22 .nil))))) fun U fn hfn ⟨(s,i),h1,h2⟩ vs bs hv hb=>by
 have hm:=hfn 135 _ rfl
 have hc:=hfn 158 _ rfl
 have hx:=hfn 159 _ rfl
 have hs:=hfn 160 _ rfl
 have hk:=hfn 161 _ rfl
 have hv:l9 [.p 0 0] vs:=hv
 have hb:RBs [[.s s,.i .i64 (i:Int)]] bs:=hb
 have h1:i≤s.length:=h1
 have h2:s.length < 90000:=h2
 show j3 U _ fun v bs'=>m8 (a1c s i) v∧RBs [H7 s (a2i s i)] bs'
 unfold d2c
 (refine Zq ?_;with_reducible repeat' first|intro _|apply aI)
 refine F8 (fun (j:Nat) vs bs=>vs=[.ptr 0 0]∧RBs [H7 s j] bs∧j≤s.length∧LQ.skip s j=LQ.skip s i) (fun j=>s.length - j) i ⟨rfl,Z0 rfl,h1,rfl⟩ (by simp only [B8];omega) ?_
 rintro self j vs bs ⟨rfl,hb,hj,he⟩ ih
 have hb:RBs [[.s s,.i .i64 (j:Int)]] bs:=hb
 have stop:∀ {x:Q},LQ.skip s j=some j→B6 [.s s,.i .i64 (j:Int)] x 0→j3 U (some (.ret (.tuple []),[.opa x 2])) fun v bs'=>m8 (a1c s i) v∧RBs [H7 s (a2i s i)] bs':=fun h hq=>by
  have ho:LQ.skip s i=some j:=by rw [← he,h]
  have e1:a1c s i=.ret (.t []):=by unfold a1c;rw [ho]
  have e2:a2i s i=j:=by unfold a2i;rw [ho];rfl
  rw [e1,e2]
  exact l6 ⟨.ret _ _ (.t _ _ .nil),RB.bx hq rfl⟩
 (refine Zq ?_;with_reducible repeat' first|intro _|apply aI)
 refine j4 hm ⟨(s,j),hj,h2⟩ (r:=.c (.b (decide (j < s.length)))) rfl j9 (RB.bx (by assumption) rfl) fun _ _ _ hb=>?_
 have hb:RBs [[.s s,.i .i64 (j:Int)]] _:=hb
 (refine Zq ?_;with_reducible repeat' first|intro _|apply aI)
 ·have hlt:j < s.length:=of_decide_eq_true ‹_›
  have hbt:((s.getD j 0).toNat:Int)=bt s j:=rfl
  have hb0:=a6n s j
  have hb1:=c0d s j
  (refine Zq ?_;with_reducible repeat' first|intro _|apply aI)
  refine d1x (m:=bt s j) rfl (by omega) ?_
  refine j4 hc ⟨(u7 4 218761504,bt s j),hb0,.inr ⟨hb1,rfl⟩⟩ (r:=.c (.b (D0 (bt s j)))) (congrArg (fun b=>y4.ret (.c (.b b))) (c95 _ hb0 hb1)) j9 .nil fun _ _ _ _=>?_
  (refine Zq ?_;with_reducible repeat' first|intro _|apply aI)
  ·have hbl:D0 (bt s j)=true:=‹_›
   exact fun e=>ih (j+1) _ _ ⟨rfl,scQ e (by assumption) (by omega),by omega,by rw [← a4h hlt hbl];exact he⟩ (by omega) e
  ·have hbl:D0 (bt s j)=false:=by simpa using ‹¬D0 (bt s j)=true›
   have h59:bt s j=59:=‹_›
   rw [Int.toNat_natCast]
   refine j4 hx ⟨(s.drop j,10),by omega,by omega⟩ (r:=.c (.i .i64 (Lib.indexByte (s.drop j) 10))) rfl j9 .nil fun _ _ _ _=>?_
   have hi:=S9 (s.drop j) 10
   have hle:=c4y s j hj
   have hll:=a1q s j hj
   have hl2:=a4j s j hlt (by omega)
   simp only [List.length_drop] at hi
   (refine Zq ?_;with_reducible repeat' first|intro _|apply aI)
   ·rw [if_pos ‹_›] at hle
    exact fun e=>ih (C3 s j) _ _ ⟨rfl,scQ e (by assumption) (by omega),by omega,by rw [← a3h hlt hbl h59];exact he⟩ (by omega) e
   ·rw [if_neg ‹_›] at hle
    exact fun e=>ih (C3 s j) _ _ ⟨rfl,scQ e (by assumption) (by omega),by omega,by rw [← a3h hlt hbl h59];exact he⟩ (by omega) e
  ·have hbl:D0 (bt s j)=false:=by simpa using ‹¬D0 (bt s j)=true›
   have h59:¬bt s j=59:=‹_›
   refine j4 hs ⟨⟨(s,j),hj,h2⟩,u7 2 31779⟩ (r:=.c (.b (Q7 (s.drop j) (u7 2 31779)))) rfl j9 (RB.bx (by assumption) rfl) fun _ _ hv hb=>?_
   have hb:RBs [[.s s,.i .i64 (j:Int)]] _:=hb
   rw [d0u,c7n hj] at hv
   (refine Zq ?_;with_reducible repeat' first|intro _|apply aI)
   ·have hh:has s j 35 124=true:=‹_›
    have hlt2:=K5 hh
    cases hcm:z7 s (j+2) 1 with
    | some k =>
     have hkl:=a6k s (j+2) 1 k (by omega) hcm
     refine j4 hk ⟨⟨(s,j),hj,h2⟩,hh⟩ (r:=.t []) (by show a7i s j=_;unfold a7i a6w;rw [hcm]) j9 (RB.bx (by assumption) rfl) fun _ _ _ hb=>?_
     have hb:RBs [H7 s (a88 s j)] _:=hb
     have e2:a88 s j=k:=by unfold a88 a6w;rw [hcm];rfl
     rw [e2] at hb
     have hb:RBs [[.s s,.i .i64 (k:Int)]] _:=hb
     (refine Zq ?_;with_reducible repeat' first|intro _|apply aI)
     exact fun e=>ih k _ _ ⟨rfl,RB.bx (by assumption) rfl,by omega,by rw [← a8b hlt hbl h59 hh hcm];exact he⟩ (by omega) e
    | none =>
     refine G1 hk ⟨⟨(s,j),hj,h2⟩,hh⟩ (r:=.fl 122 11 s.length) (by show a7i s j=_;unfold a7i a6w;rw [hcm]) j9 (RB.bx (by assumption) rfl) fun _ hv=>?_
     have ho:LQ.skip s i=none:=by rw [← he,b0o hlt hbl h59 hh hcm]
     have e1:a1c s i=P4 11 s.length:=by unfold a1c;rw [ho]
     have e2:a2i s i=i:=by unfold a2i;rw [ho];rfl
     rw [e1,e2]
     exact N6 hv (Z0 rfl)
   ·exact stop (a6h hlt hbl h59 (by simpa using ‹¬has s j 35 124=true›)) (by assumption)
 ·have hlt:¬j < s.length:=fun h=>‹¬decide (j < s.length)=true› (decide_eq_true h)
  exact stop (b35 hlt) (by assumption)
end
end Go.Proofs.YtffaodopiifbkaaGreatDoor
namespace Go.Proofs.YtffaodopiifbkaaGreatDoor
open Go.Abs LQ
set_option maxRecDepth 100000
set_option maxHeartbeats 4000000
noncomputable section
theorem b5p:u7 1 45=[45]:=by decide
theorem U6 (s:i7):E9 s [45]=s.drop (j0 s):=by
 unfold E9 Q7 j0
 cases s with
 | nil=>simp
 | cons c s =>
  have hb:bt (c :: s) 0=c.toNat:=rfl
  by_cases h:c=45
  ·subst h;simp [hb]
  ·have h':¬(c.toNat:Int)=45:=fun e=>h (UInt8.toNat_inj.1 (by show c.toNat=45;omega))
   simp [h,hb,h']
theorem a14 (s:i7) (a k:Nat):bt (s.drop a) k=bt s (a+k):=by unfold bt;simp [List.getD]
theorem c4d (s:i7) (a k:Nat) (h:a+k≤s.length):m6 s (a+k)=a+m6 (s.drop a) k:=by
 generalize hm:s.length - (a+k)=m
 induction m generalizing k with
 | zero=>rw [m6,if_neg (by omega),m6,if_neg (by simp;omega)]
 | succ m ih =>
  have hb:bt (s.drop a) k=bt s (a+k):=a14 s a k
  rw [m6,if_pos (by omega)]
  conv=>rhs;rw [m6,if_pos (by rw [List.length_drop];omega),hb]
  by_cases hc:Q2 (bt s (a+k))=true
  ·rw [if_pos hc,if_pos hc];exact ih (k+1) (by omega) (by omega)
  ·rw [if_neg hc,if_neg hc]
theorem c5v:l5 193 (sp1 fun s=>.ret (.c (.b (C0 s)))):=v7 (fun fn h=>d9c h) [(184,_)] (.cons a0e .nil) fun U fn hfn ⟨s,hs⟩ vs bs hv hb=>by
 have hp:=hfn 184 _ rfl
 have hv:l9 [.c (.s s)] vs:=hv
 have hb:RBs [] bs:=hb
 show j3 U _ fun v bs'=>m8 (.ret (.c (.b (C0 s)))) v∧RBs [] bs'
 obtain ⟨d,hd⟩:∃ d,s.drop (j0 s)=d:=⟨_,rfl⟩
 unfold d4j
 (refine Zq ?_;with_reducible repeat' first|intro _|apply aI)
 refine j4 hp ⟨(s,u7 1 45),trivial⟩ (r:=.c (.s d)) (by show y4.ret (.c (.s (E9 s (u7 1 45))))=_;rw [b5p,U6,hd]) j9 .nil fun _ _ _ _=>?_
 have hsl:=L6 s
 have hdl:d.length=s.length - j0 s:=by rw [← hd];simp
 have hb0:((d.getD 0 0).toNat:Int)=bt s (j0 s):=by rw [← hd];exact (a14 s (j0 s) 0).trans (by rw [Nat.add_zero])
 have hb0':((d.getD (Int.toNat 0) 0).toNat:Int)=bt s (j0 s):=hb0
 have zz:∀ b:Bool,C0 s=b→∀ x:Bool,(U=CU→x=b)→j3 U (some (.ret (.bool x),[])) fun v bs'=>m8 (.ret (.c (.b (C0 s)))) v∧RBs [] bs':=fun b h x hx=>N5 fun e=>⟨.ret _ _ (Q1 (by rw [h,hx e])),.nil⟩
 have zs:(d=[]∨bt s (j0 s)=48)→∀ x:Bool,(U=CU→x=decide (s=u7 1 48))→j3 U (some (.ret (.bool x),[])) fun v bs'=>m8 (.ret (.c (.b (C0 s)))) v∧RBs [] bs':=fun h x hx=>by
  refine zz (decide (s=u7 1 48)) ?_ x hx
  have:¬(j0 s < s.length∧bt s (j0 s) ≠ 48):=by
   rcases h with h | h
   ·rw [h] at hdl;simp at hdl;omega
   ·exact fun k=>k.2 h
  unfold C0
  rw [decide_eq_false this,Bool.false_and,Bool.or_false];rfl
 (refine Zq ?_;with_reducible repeat' first|intro _|apply aI)
 ·exact zs (.inl ‹d=u7 0 0›) _ fun e=>by subst e;exact c3v s 1 48
 ·have hne:d ≠ []:=‹¬d=u7 0 0›
  have hpos:0 < d.length:=List.length_pos_iff.2 hne
  (refine Zq ?_;with_reducible repeat' first|intro _|apply aI)
  ·exact zs (.inr (hb0.symm.trans (by assumption))) _ fun e=>by subst e;exact c3v s 1 48
  ·have h48:¬((d.getD 0 0).toNat:Int)=48:=by assumption
   have e0:C0 s=decide (m6 d 0=d.length):=by
    have hz:¬s=A5:=fun e=>h48 (by rw [hb0];subst e;decide)
    have h1:j0 s < s.length∧bt s (j0 s) ≠ 48:=⟨by omega,by omega⟩
    have h2:=c4d s (j0 s) 0 (by omega)
    rw [Nat.add_zero,hd] at h2
    unfold C0
    rw [decide_eq_true h1,Bool.true_and,decide_eq_false hz,Bool.false_or]
    rw [Bool.eq_iff_iff,decide_eq_true_iff,decide_eq_true_iff];omega
   have hl:d.length < 90000:=by have:s.length < 90000:=hs;omega
   refine F8 (fun (i:Nat) vs bs=>vs=[.str d.length (n6 d),.int .i64 d.length,.int .i64 i]∧bs=[]∧i≤d.length∧m6 d i=m6 d 0) (fun i=>d.length - i) 0 ⟨rfl,rfl,by omega,rfl⟩ (by simp only [B8];omega) ?_
   rintro self i vs bs ⟨rfl,rfl,hi,he⟩ ih
   (refine Zq ?_;with_reducible repeat' first|intro _|apply aI)
   ·exact l6 ⟨.ret _ _ (M6 (by rw [e0,← he,b5k (i:=i) (by omega) (by omega)];exact decide_eq_false (by omega))),.nil⟩
   ·exact l6 ⟨.ret _ _ (M6 (by rw [e0,← he,b5k (i:=i) (by omega) (by omega)];exact decide_eq_false (by omega))),.nil⟩
   ·exact ih (i+1) _ _ ⟨rfl,rfl,by omega,by rw [← he,c1q (i:=i) (by omega) ‹_› ‹_›]⟩ (by omega)
   ·exact l6 ⟨.ret _ _ (M6 (by rw [e0,← he,b7w (i:=i) (by omega)];exact decide_eq_true (by omega))),.nil⟩
theorem a5c:l5 176 (sp1 fun s=>.ret (.c (.s (L2 s)))):=v7 (fun fn h=>e0h h) [(193,_)] (.cons c5v .nil) fun U fn hfn ⟨s,hs⟩ vs bs hv hb=>by
 have hp:=hfn 193 _ rfl
 have hv:l9 [.c (.s s)] vs:=hv
 have hb:RBs [] bs:=hb
 show j3 U _ fun v bs'=>m8 (.ret (.c (.s (L2 s)))) v∧RBs [] bs'
 unfold d45
 (refine Zq ?_;with_reducible repeat' first|intro _|apply aI)
 refine j4 hp ⟨s,hs⟩ (r:=.c (.b (C0 s))) rfl j9 .nil fun _ _ _ _=>?_
 (refine Zq ?_;with_reducible repeat' first|intro _|apply aI)
 ·have e:L2 s=s:=by unfold L2;rw [if_pos ‹_›]
  rw [e];exact l6 ⟨.ret _ _ (.s _ _ _ rfl rfl),.nil⟩
 ·have e:L2 s=u7 1 48:=by unfold L2;rw [if_neg ‹_›];rfl
  rw [e];exact l6 ⟨.ret _ _ (.s _ _ _ rfl rfl),.nil⟩
theorem a8m (s:i7):(L2 s).length≤s.length∨(L2 s).length≤1:=by unfold L2;split;exact .inl (Nat.le_refl _);exact .inr (by decide)
theorem c1g (s:i7):(L2 s).drop (j0 (L2 s))=j5 (i6 s).natAbs:=by
 rw [a02,a3z]
 have h:=c4n (i6 s) (i6 s).natAbs []
 rw [List.append_nil] at h
 rw [h,List.drop_left]
theorem c1i:l5 167 (sp1 fun s=>.ret (.c (.i .i64 ((j5 (i6 s).natAbs).length:Nat)))):=v7 (fun fn h=>d8d h) [(176,_),(184,_)] (.cons a5c (.cons a0e .nil)) fun U fn hfn ⟨s,hs⟩ vs bs hv hb=>by
 have hp:=hfn 176 _ rfl
 have ht:=hfn 184 _ rfl
 have hv:l9 [.c (.s s)] vs:=hv
 have hb:RBs [] bs:=hb
 show j3 U _ fun v bs'=>m8 (.ret (.c (.i .i64 ((j5 (i6 s).natAbs).length:Nat)))) v∧RBs [] bs'
 unfold d2r
 (refine Zq ?_;with_reducible repeat' first|intro _|apply aI)
 refine j4 hp ⟨s,hs⟩ (r:=.c (.s (L2 s))) rfl j9 .nil fun _ _ _ _=>?_
 (refine Zq ?_;with_reducible repeat' first|intro _|apply aI)
 refine j4 ht ⟨(L2 s,u7 1 45),trivial⟩ (r:=.c (.s (j5 (i6 s).natAbs))) (by show y4.ret (.c (.s (E9 (L2 s) (u7 1 45))))=_;rw [b5p,U6,c1g]) j9 .nil fun _ _ _ _=>?_
 (refine Zq ?_;with_reducible repeat' first|intro _|apply aI)
 exact l6 ⟨.ret _ _ (.i _ _),.nil⟩
end
end Go.Proofs.YtffaodopiifbkaaGreatDoor
namespace Go.Proofs.YtffaodopiifbkaaGreatDoor
open Go.Abs LQ
set_option maxRecDepth 100000
set_option maxHeartbeats 4000000
noncomputable section
def lg (d:Nat):List G:=[.i .u32 (d:Int)]
theorem e5s {a b:Nat} (h:lg a=lg b):a=b:=by simp only [lg,List.cons.injEq,G.i.injEq,and_true,true_and] at h;omega
theorem a29:∀ {l m:List Nat},l.map lg=m.map lg→l=m
 | [],[],_=>rfl
 | [],_ :: _,h=>by simp at h
 | _ :: _,[],h=>by simp at h
 | a :: l,b :: m,h=>by simp only [List.map_cons,List.cons.injEq] at h;exact congr (congrArg List.cons (e5s h.1)) (a29 h.2)
section
variable {U:w7} {P:G3→List Bx→Prop}
theorem b60 {l:List Nat} {t:j8 Q} {off:Nat} {i:Int} (n:Nat) {K:Q→Om} (ht:u6 1 (l.map lg) t off) (hn:i=n) (hi:n < l.length) (h:∀ x,B6 (lg (l.getD n 0)) x 0→j3 U (K x) P):j3 U (U.fQ (U.tQ t (U.nAdd off (U.iNat i))) K) P:=by
 subst hn
 refine b3i (y:=l.getD n 0) ht ?_ h
 rw [Int.toNat_natCast,List.getElem?_eq_getElem hi]
 simp [List.getD,List.getElem?_eq_getElem hi]
end
def spM (R:List Nat→y4):Sp where
 ι:={ l:List Nat // l.length < 20000 }
 A l:=[.sl 1 (l.1.map lg)]
 B _:=[]
 R l:=R l.1
 B' _:=[]
 inj i j vs bs h k _ _:=by
  obtain ⟨_,_,h1,k1,h,k⟩:=h.two k
  rw [a29 (h1.sl_inj k1)];exact ⟨rfl,rfl⟩
def e4r (ok:List Nat→List Nat→Prop) (R:List Nat→List Nat→y4):Sp where
 ι:={ p:List Nat × List Nat // p.1.length < 20000∧p.2.length < 20000∧ok p.1 p.2 }
 A p:=[.sl 1 (p.1.1.map lg),.sl 1 (p.1.2.map lg)]
 B _:=[]
 R p:=R p.1.1 p.1.2
 B' _:=[]
 inj i j vs bs h k _ _:=by
  obtain ⟨_,_,h1,k1,h,k⟩:=h.two k
  obtain ⟨_,_,h2,k2,h,k⟩:=h.two k
  rw [a29 (h1.sl_inj k1),a29 (h2.sl_inj k2)];exact ⟨rfl,rfl⟩
theorem b5z:l5 222 (spM fun l=>.ret (.sl 1 ((F2 l).map lg))):=v7 (fun fn h=>e12 h) [] .nil fun U fn hfn ⟨l,hs⟩ vs bs hv hb=>by
 have hv:l9 [.sl 1 (l.map lg)] vs:=hv
 have hb:RBs [] bs:=hb
 have hs:l.length < 20000:=hs
 show j3 U _ fun v bs'=>m8 (.ret (.sl 1 ((F2 l).map lg))) v∧RBs [] bs'
 unfold d2x
 (refine Zx ?_;with_reducible repeat' first|intro _|apply aI)
 refine F8 (fun (m:Nat) vs bs=>∃ (t:j8 Q) (off:Nat),vs=[.slice t 1 off m .no]∧bs=[]∧u6 1 (l.map lg) t off∧m≤l.length∧R1 l m=R1 l l.length) (fun m=>m) l.length ⟨_,_,rfl,rfl,by assumption,by omega,rfl⟩ (by simp only [B8];omega) ?_
 rintro self m _ _ ⟨t,off,rfl,rfl,ht,hm,he⟩ ih
 have fin:¬(0 < m∧l.getD (m - 1) 0=0)→j3 U (some (.ret (.slice t 1 off m .no),[])) fun v bs'=>m8 (.ret (.sl 1 ((F2 l).map lg))) v∧RBs [] bs':=fun h=>by
  have e:F2 l=l.take m:=by
   unfold F2
   rw [← he]
   cases m with
   | zero=>rfl
   | succ m=>rw [R1,if_neg (fun k=>h ⟨by omega,by simpa using k⟩)]
  rw [e,List.map_take]
  exact l6 ⟨.ret _ _ (.sl _ _ _ _ _ (by simp;omega) (ht.take m)),.nil⟩
 (refine Zx ?_;with_reducible repeat' first|intro _|apply aI)
 ·refine b60 (m - 1) (by assumption) (by omega) (by omega) fun _ _=>?_
  (refine Zx ?_;with_reducible repeat' first|intro _|apply aI)
  ·have h0:=‹((l.getD (m - 1) 0:Nat):Int)=0›
   simp only [Int.toNat_zero,Nat.add_zero,Nat.sub_zero]
   refine ih (m - 1) _ _ ⟨t,off,by rw [show ((m:Int) - 1).toNat=m - 1 by omega],rfl,ht,by omega,?_⟩ (by omega)
   obtain ⟨m,rfl⟩:∃ n,m=n+1:=⟨m - 1,by omega⟩
   rw [← he,R1,if_pos (by simpa using h0)];rfl
  ·exact fin fun h=>‹¬((l.getD (m - 1) 0:Nat):Int)=0› (by omega)
 ·exact fin fun h=>by omega
theorem b50:l5 223 (e4r (fun _ _=>True) fun a b=>.ret (.c (.i .i64 (P8 a b)))):=v7 (fun fn h=>d82 h) [] .nil fun U fn hfn ⟨(a,b),ha,hbl,_⟩ vs bs hv hb=>by
 have ha:a.length < 20000:=ha
 have hbl:b.length < 20000:=hbl
 have hv:l9 [.sl 1 (a.map lg),.sl 1 (b.map lg)] vs:=hv
 have hb:RBs [] bs:=hb
 show j3 U _ fun v bs'=>m8 (.ret (.c (.i .i64 (P8 a b)))) v∧RBs [] bs'
 unfold d47
 (refine Zx ?_;with_reducible repeat' first|intro _|apply aI)
 ·have hl:a.length=b.length:=by omega
  have e:P8 a b=G6 a b a.length:=by unfold P8;rw [if_pos hl]
  rw [e]
  refine F8 (fun (m:Nat) vs bs=>∃ (t:j8 Q) (off:Nat) (t':j8 Q) (off':Nat) (i:Int),vs=[.slice t 1 off a.length .no,.slice t' 1 off' b.length .no,.int .i64 i]∧bs=[]∧i=m - 1∧u6 1 (a.map lg) t off∧u6 1 (b.map lg) t' off'∧m≤a.length∧G6 a b m=G6 a b a.length) (fun m=>m) a.length ⟨_,_,_,_,_,rfl,rfl,rfl,by assumption,by assumption,by omega,rfl⟩ (by simp only [B8];omega) ?_
  rintro self m _ _ ⟨t,off,t',off',i,rfl,rfl,rfl,ht,ht',hm,he⟩ ih
  (refine Zx ?_;with_reducible repeat' first|intro _|apply aI)
  ·refine b60 (m - 1) (by assumption) (by omega) (by omega) fun _ _=>?_
   (refine Zx ?_;with_reducible repeat' first|intro _|apply aI)
   refine b60 (m - 1) (by assumption) (by omega) (by omega) fun _ _=>?_
   (refine Zx ?_;with_reducible repeat' first|intro _|apply aI)
   ·refine ih (m - 1) _ _ ?_ (by omega)
    obtain ⟨m,rfl⟩:∃ n,m=n+1:=⟨m - 1,by omega⟩
    exact ⟨_,_,_,_,_,rfl,rfl,by omega,ht,ht',by omega,by rw [← he,Nat.add_sub_cancel];conv=>rhs;rw [G6,if_neg (by simp only [Nat.add_sub_cancel] at *;omega),if_neg (by simp only [Nat.add_sub_cancel] at *;omega)]⟩
   ·refine b60 (m - 1) (by assumption) (by omega) (by omega) fun _ _=>?_
    (refine Zx ?_;with_reducible repeat' first|intro _|apply aI)
    refine b60 (m - 1) (by assumption) (by omega) (by omega) fun _ _=>?_
    (refine Zx ?_;with_reducible repeat' first|intro _|apply aI)
    ·obtain ⟨m,rfl⟩:∃ n,m=n+1:=⟨m - 1,by omega⟩
     exact l6 ⟨.ret _ _ (rvI (by rw [← he,G6,if_pos (by simp only [Nat.add_sub_cancel] at *;omega)])),.nil⟩
    ·obtain ⟨m,rfl⟩:∃ n,m=n+1:=⟨m - 1,by omega⟩
     exact l6 ⟨.ret _ _ (rvI (by rw [← he,G6,if_neg (by simp only [Nat.add_sub_cancel] at *;omega),if_pos (by simp only [Nat.add_sub_cancel] at *;omega)])),.nil⟩
  ·have em:m=0:=by omega
   subst em
   exact l6 ⟨.ret _ _ (rvI (by rw [← he];rfl)),.nil⟩
 ·exact l6 ⟨.ret _ _ (rvI (by unfold P8;rw [if_neg (by omega),if_pos (by omega)])),.nil⟩
 ·exact l6 ⟨.ret _ _ (rvI (by unfold P8;rw [if_neg (by omega),if_neg (by omega)])),.nil⟩
end
end Go.Proofs.YtffaodopiifbkaaGreatDoor
namespace Go.Proofs.YtffaodopiifbkaaGreatDoor
open Go.Abs LQ
set_option maxRecDepth 100000
set_option maxHeartbeats 4000000
noncomputable section
section
variable {U:w7} {P:G3→List Bx→Prop}
theorem e4q {e:Int} (h1:0≤e) (h2:e < 4294967296):wr .u32 e=e:=by
 rw [a1e];show e % 4294967296=e;omega
theorem b5u {e:Int} (h1:0≤e) (h2:e < 18446744073709551616):wr .u64 e=e:=by
 rw [a1e];show e % 18446744073709551616=e;omega
theorem a4i {e m:Int} {K:Int→Om} (he:e=m) (hr:0≤m∧m < 4294967296) (h:j3 U (K m) P):j3 U (U.fI (U.wr .u32 e) K) P:=fun e'=>by
 have:=h e';subst e' he;rw [V8]
 show ∃ v bs,K (wr .u32 e)=some (v,bs)∧P v bs
 rw [e4q hr.1 hr.2];exact this
theorem b98 {e m:Int} {K:Int→Om} (he:e=m) (hr:0≤m∧m < 18446744073709551616) (h:j3 U (K m) P):j3 U (U.fI (U.wr .u64 e) K) P:=fun e'=>by
 have:=h e';subst e' he;rw [V8]
 show ∃ v bs,K (wr .u64 e)=some (v,bs)∧P v bs
 rw [b5u hr.1 hr.2];exact this
end
def z8 (n:Nat):List (List G):=(n7 n).map lg
theorem a7o {a b:Nat} (h:z8 a=z8 b):a=b:=b6s (a29 h)
def e4g (ok:Nat→Nat→Prop) (R:Nat→Nat→y4):Sp where
 ι:={ p:Nat × Nat // (n7 p.1).length < 20000∧(n7 p.2).length < 20000∧ok p.1 p.2 }
 A p:=[.sl 1 (z8 p.1.1),.sl 1 (z8 p.1.2)]
 B _:=[]
 R p:=R p.1.1 p.1.2
 B' _:=[]
 inj i j vs bs h k _ _:=by
  obtain ⟨_,_,h1,k1,h,k⟩:=h.two k
  obtain ⟨_,_,h2,k2,h,k⟩:=h.two k
  rw [a7o (h1.sl_inj k1),a7o (h2.sl_inj k2)];exact ⟨rfl,rfl⟩
theorem M4 (l:List Nat) (i:Nat):m9 (l.take (i+1))=m9 (l.take i)+B9 ^ i * l.getD i 0:=by
 rcases Nat.lt_or_ge i l.length with h | h
 ·exact b6n l i h
 ·rw [List.take_of_length_le h,List.take_of_length_le (by omega)];simp [List.getD,List.getElem?_eq_none h]
theorem d4h (l:List Nat) (i x:Nat):(l.set i x).take i=l.take i:=by
 rw [List.take_set_of_le (Nat.le_refl _)]
theorem a81 {x y:Nat} (h:y≤x):(n7 y).length≤(n7 x).length:=by
 have h1:=U8 (n7 x) (N1 x)
 rw [G8] at h1
 exact a7m (by omega)
theorem b3u (n:Nat):LQ.LB (List.replicate n 0):=fun d h=>by rw [List.eq_of_mem_replicate h];decide
theorem b9r {l:List Nat} {i x:Nat} (h:i < l.length):(l.set i x).getD i 0=x:=by simp [List.getD,List.getElem?_set,h]
theorem a3x {a b out:List Nat} {i bor bor' x:Nat} (hi:i < out.length) (he:m9 (a.take i)+B9 ^ i * bor=m9 (out.take i)+m9 (b.take i)) (hx:a.getD i 0+1000000000 * bor'=x+b.getD i 0+bor) :
  m9 (a.take (i+1))+B9 ^ (i+1) * bor'=m9 ((out.set i x).take (i+1))+m9 (b.take (i+1)):=by
 rw [M4 a,M4 b,M4 (out.set i x),d4h,b9r hi,Nat.pow_succ,Nat.mul_assoc]
 have h:=congrArg (B9 ^ i * ·) hx
 rw [show (1000000000:Nat)=B9 from rfl] at h
 simp only [Nat.mul_add] at h
 omega
theorem gD {l:List Nat} {i:Nat} (h:i < l.length):l[i]=l.getD i 0:=by simp only [List.getD,List.getElem?_eq_getElem h,Option.getD_some]
theorem gD0 {l:List Nat} {i:Nat} (h:l.length≤i):l.getD i 0=0:=by simp only [List.getD,List.getElem?_eq_none h,Option.getD_none]
theorem d0m {a b out:List Nat} {bor:Nat} (hol:out.length=a.length) (hyx:b.length≤a.length) (hxy:m9 b≤m9 a) (hLo:LQ.LB out) (hb:bor≤1) (he:m9 (a.take a.length)+B9 ^ a.length * bor=m9 (out.take a.length)+m9 (b.take a.length)):m9 out=m9 a - m9 b:=by
 rw [List.take_of_length_le (Nat.le_refl _),List.take_of_length_le (by omega),List.take_of_length_le (by omega)] at he
 have h:=U8 out hLo
 rw [hol] at h
 rcases Nat.lt_or_ge bor 1 with h1 | h1
 ·have:bor=0:=by omega
  subst this;omega
 ·have:bor=1:=by omega
  subst this;omega
theorem e55 {U:w7} {fn:FF} {vs:List V} {bs:List Bx} (ht:Ans fn 222 (spM fun l=>.ret (.sl 1 ((F2 l).map lg)))) {a b:List Nat} (hx:a.length < 20000) (hyx:b.length≤a.length) (hxy:m9 b≤m9 a) (hLa:LQ.LB a) (hLb:LQ.LB b) (hv:l9 [.sl 1 (a.map lg),.sl 1 (b.map lg)] vs) (hb:RBs [] bs) :
  j3 U (c8f U fn vs bs) fun v bs'=>m8 (.ret (.sl 1 (z8 (m9 a - m9 b)))) v∧RBs [] bs':=by
 unfold c8f
 (refine Zx ?_;with_reducible repeat' first|intro _|apply aI)
 refine sZT (n:=1) (r:=lg 0) (fun _=>I9 (.i _ _)) rfl (by omega) fun t' ht'=>?_
 (refine Zx ?_;with_reducible repeat' first|intro _|apply aI)
 refine F8 (fun (i:Nat) vs bs=>∃ (t1:j8 Q) (o1:Nat) (t2:j8 Q) (o2:Nat) (t3:j8 Q) (out:List Nat) (bor:Nat),vs=[.slice t1 1 o1 a.length .no,.slice t2 1 o2 b.length .no,.bslice 0 a.length,.int .i64 bor,.int .i64 a.length,.int .i64 i]∧bs=[.row t3 a.length]∧u6 1 (a.map lg) t1 o1∧u6 1 (b.map lg) t2 o2∧u6 1 (out.map lg) t3 0∧out.length=a.length∧LQ.LB out∧i≤a.length∧bor≤1∧m9 (a.take i)+B9 ^ i * bor=m9 (out.take i)+m9 (b.take i)) (fun i=>a.length - i) 0 ?_ (by simp only [B8];omega) ?_
 ·exact ⟨_,_,_,_,t',List.replicate a.length 0,0,by simp only [Int.toNat_natCast];rfl,by simp,by assumption,by assumption,by simpa [List.map_replicate] using ht',by simp,b3u _,by omega,by omega,by simp [m9]⟩
 rintro self i _ _ ⟨t1,o1,t2,o2,t3,out,bor,rfl,rfl,h1,h2,h3,hol,hLo,hi,hbor,he⟩ ih
 (refine Zx ?_;with_reducible repeat' first|intro _|apply aI)
 ·have q1:a.getD i 0 < 1000000000:=a4s hLa i
  have q2:b.getD i 0 < 1000000000:=a4s hLb i
  rw [gD (l:=a) (by omega)]
  refine b1a rfl (by omega) ?_
  (refine Zx ?_;with_reducible repeat' first|intro _|apply aI)
  ·rw [gD (l:=b) (by omega)]
   refine b1a rfl (by omega) ?_
   (refine Zx ?_;with_reducible repeat' first|intro _|apply aI)
   ·(refine a4i (m:=((a.getD i 0+1000000000 - bor - b.getD i 0:Nat):Int)) (by omega) (by omega) ?_;(refine Zx ?_;with_reducible repeat' first|intro _|apply aI);refine a86 (r:=lg (a.getD i 0+1000000000 - bor - b.getD i 0)) h3 (fun _=>I9 (.i _ _)) rfl (by simp;omega) (by omega) fun t9 h9=>?_;(refine Zx ?_;with_reducible repeat' first|intro _|apply aI);refine ih (i+1) _ _ ?_ (by omega);exact ⟨t1,o1,t2,o2,t9,out.set i (a.getD i 0+1000000000 - bor - b.getD i 0),1,by simp,by simp,h1,h2,by rw [List.map_set];simpa using h9,by simp [hol],a28 hLo _ _ (by show _ < 1000000000;omega),by omega,by omega,a3x (by omega) he (by omega)⟩)
   ·(refine a4i (m:=((a.getD i 0 - bor - b.getD i 0:Nat):Int)) (by omega) (by omega) ?_;(refine Zx ?_;with_reducible repeat' first|intro _|apply aI);refine a86 (r:=lg (a.getD i 0 - bor - b.getD i 0)) h3 (fun _=>I9 (.i _ _)) rfl (by simp;omega) (by omega) fun t9 h9=>?_;(refine Zx ?_;with_reducible repeat' first|intro _|apply aI);refine ih (i+1) _ _ ?_ (by omega);exact ⟨t1,o1,t2,o2,t9,out.set i (a.getD i 0 - bor - b.getD i 0),0,by simp,by simp,h1,h2,by rw [List.map_set];simpa using h9,by simp [hol],a28 hLo _ _ (by show _ < 1000000000;omega),by omega,by omega,a3x (by omega) he (by omega)⟩)
  ·have e2:b.getD i 0=0:=gD0 (by omega)
   (refine a4i (m:=((a.getD i 0+1000000000 - bor:Nat):Int)) (by omega) (by omega) ?_;(refine Zx ?_;with_reducible repeat' first|intro _|apply aI);refine a86 (r:=lg (a.getD i 0+1000000000 - bor)) h3 (fun _=>I9 (.i _ _)) rfl (by simp;omega) (by omega) fun t9 h9=>?_;(refine Zx ?_;with_reducible repeat' first|intro _|apply aI);refine ih (i+1) _ _ ?_ (by omega);exact ⟨t1,o1,t2,o2,t9,out.set i (a.getD i 0+1000000000 - bor),1,by simp,by simp,h1,h2,by rw [List.map_set];simpa using h9,by simp [hol],a28 hLo _ _ (by show _ < 1000000000;omega),by omega,by omega,a3x (by omega) he (by omega)⟩)
  ·have e2:b.getD i 0=0:=gD0 (by omega)
   (refine a4i (m:=((a.getD i 0 - bor:Nat):Int)) (by omega) (by omega) ?_;(refine Zx ?_;with_reducible repeat' first|intro _|apply aI);refine a86 (r:=lg (a.getD i 0 - bor)) h3 (fun _=>I9 (.i _ _)) rfl (by simp;omega) (by omega) fun t9 h9=>?_;(refine Zx ?_;with_reducible repeat' first|intro _|apply aI);refine ih (i+1) _ _ ?_ (by omega);exact ⟨t1,o1,t2,o2,t9,out.set i (a.getD i 0 - bor),0,by simp,by simp,h1,h2,by rw [List.map_set];simpa using h9,by simp [hol],a28 hLo _ _ (by show _ < 1000000000;omega),by omega,by omega,a3x (by omega) he (by omega)⟩)
 ·have em:i=a.length:=by omega
  subst em
  refine j4 ht ⟨out,by show out.length < 20000;omega⟩ (r:=.sl 1 (z8 (m9 a - m9 b))) (by rw [← d0m hol hyx hxy hLo hbor he];show y4.ret (.sl 1 ((F2 out).map lg))=_;rw [a01 out hLo];rfl) (.cons _ _ _ _ (.sl _ _ _ _ _ (by simp [hol]) h3) .nil) .nil fun _ _ _ _=>?_
  (refine Zx ?_;with_reducible repeat' first|intro _|apply aI)
  exact l6 ⟨.ret _ _ (.sl _ _ _ _ _ (by simp [z8]) (by assumption)),.nil⟩
theorem d8x:l5 205 (e4g (fun x y=>y≤x) fun x y=>.ret (.sl 1 (z8 (x - y)))):=v7 (fun fn h=>e1t h) [(222,_)] (.cons b5z .nil) fun U fn hfn ⟨(x,y),hx,hy,hxy⟩ vs bs hv hb=>by
 have h:=e55 (U:=U) (hfn 222 _ rfl) (a:=n7 x) (b:=n7 y) hx (a81 hxy) (by rw [G8,G8];exact hxy) (N1 x) (N1 y) hv hb
 rw [G8,G8] at h;exact h
end
end Go.Proofs.YtffaodopiifbkaaGreatDoor
