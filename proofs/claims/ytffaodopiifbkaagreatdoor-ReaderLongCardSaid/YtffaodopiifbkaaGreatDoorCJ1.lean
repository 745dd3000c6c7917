/- The reference's reader: bytes, blanks, words. -/
import Derived.Test.YtffaodopiifbkaaGreatDoorCTB
set_option linter.all false
namespace Go.Proofs.YtffaodopiifbkaaGreatDoor
open Go.Abs LQ
set_option maxRecDepth 100000
set_option maxHeartbeats 4000000
noncomputable section
def e85 (g:Int→GV):Sp where
 ι:=Int
 A c:=[.c (.i .u8 c)]
 B _:=[]
 R c:=.ret (g c)
 B' _:=[]
 inj i j vs bs h k _ _:=by
  obtain ⟨_,_,h1,k1,h,k⟩:=h.two k
  rw [K7 h1 k1];exact ⟨rfl,rfl⟩
theorem e2c:l6 94 (e85 fun c=>.c (.b (B6 c))):=o7 (fun fn h=>e9v h) [] .nil fun U fn hfn (c:Int) vs bs hv hb=>by
 have hv:l8 [.c (.i .u8 c)] vs:=hv
 have hb:RBs [] bs:=hb
 show j3 U _ fun v bs'=>l7 (.ret (.c (.b (B6 c)))) v∧RBs [] bs'
 unfold r94
 (refine Zq ?_;with_reducible repeat' first|intro _|apply aI)
 ·exact k9 ⟨.ret _ _ (I8 (by simp [B6, *])),.nil⟩
 ·exact k9 ⟨.ret _ _ (I8 (by simp [B6, *])),.nil⟩
 ·exact k9 ⟨.ret _ _ (I8 (by simp [B6, *])),.nil⟩
 ·refine I7 fun e=>?_
  subst e
  exact ⟨.ret _ _ (J3 (by rw [T8];simp [B6, *])),.nil⟩
theorem b0d:l6 98 (e85 fun c=>.c (.b (x5 c))):=o7 (fun fn h=>e89 h) [] .nil fun U fn hfn (c:Int) vs bs hv hb=>by
 have hv:l8 [.c (.i .u8 c)] vs:=hv
 have hb:RBs [] bs:=hb
 show j3 U _ fun v bs'=>l7 (.ret (.c (.b (x5 c)))) v∧RBs [] bs'
 unfold r98
 (refine Zq ?_;with_reducible repeat' first|intro _|apply aI)
 all_goals first
  | exact k9 ⟨.ret _ _ (I8 (by unfold x5;apply decide_eq_false;rintro ⟨_,_,_,_,_,_,_,_,_⟩;omega)),.nil⟩
  | (refine I7 fun e=>?_
     subst e
     exact ⟨.ret _ _ (J3 (by rw [a1h,T8];unfold x5;rw [Bool.eq_iff_iff];simp;omega)),.nil⟩)
abbrev StI:={ p:j0 × Nat // p.2≤p.1.length∧p.1.length < 90000 }
def e8p (R:j0→Nat→t7):Sp where
 ι:=StI
 A p:=[.c (.s p.1.1),.c (.i .i64 (p.1.2:Int))]
 B _:=[]
 R p:=R p.1.1 p.1.2
 B' _:=[]
 inj i j vs bs h k _ _:=by
  obtain ⟨_,_,h1,k1,h,k⟩:=h.two k
  obtain ⟨_,_,h2,k2,h,k⟩:=h.two k
  have e2:=K7 h2 k2
  rw [F1 h1 k1,show i.1.2=j.1.2 by omega];exact ⟨rfl,rfl⟩
def f06:Sp where
 ι:={ p:(j0 × Nat) × Int × Int // p.1.2≤p.1.1.length∧p.1.1.length < 90000 }
 A p:=[.c (.s p.1.1.1),.c (.i .i64 (p.1.1.2:Int)),.c (.i .u8 p.1.2.1),.c (.i .u8 p.1.2.2)]
 B _:=[]
 R p:=.ret (.c (.b (has p.1.1.1 p.1.1.2 p.1.2.1 p.1.2.2)))
 B' _:=[]
 inj i j vs bs h k _ _:=by
  obtain ⟨_,_,h1,k1,h,k⟩:=h.two k
  obtain ⟨_,_,h2,k2,h,k⟩:=h.two k
  obtain ⟨_,_,h3,k3,h,k⟩:=h.two k
  obtain ⟨_,_,h4,k4,h,k⟩:=h.two k
  have e2:=K7 h2 k2
  rw [F1 h1 k1,show i.1.1.2=j.1.1.2 by omega,K7 h3 k3,K7 h4 k4];exact ⟨rfl,rfl⟩
theorem d8n:l6 95 f06:=o7 (fun fn h=>e61 h) [] .nil fun U fn hfn ⟨((s,i),a,b),h1,h2⟩ vs bs hv hb=>by
 have hv:l8 [.c (.s s),.c (.i .i64 (i:Int)),.c (.i .u8 a),.c (.i .u8 b)] vs:=hv
 have hb:RBs [] bs:=hb
 have h1:i≤s.length:=h1
 have h2:s.length < 90000:=h2
 show j3 U _ fun v bs'=>l7 (.ret (.c (.b (has s i a b)))) v∧RBs [] bs'
 have hbt:((s.getD i 0).toNat:Int)=bt s i:=rfl
 have hbt1:((s.getD (i+1) 0).toNat:Int)=bt s (i+1):=rfl
 have e1:((i:Int)+1).toNat=i+1:=oM
 unfold r95
 (refine Zq ?_;with_reducible repeat' first|intro _|apply aI)
 all_goals first
  | exact k9 ⟨.ret _ _ (I8 (by unfold has;apply decide_eq_false;omega)),.nil⟩
  | (refine I7 fun e=>?_
     subst e
     exact ⟨.ret _ _ (J3 (by rw [T8];unfold has;rw [Bool.eq_iff_iff];simp only [decide_eq_true_eq];omega)),.nil⟩)
def a6e (s:j0) (i:Nat):t7:=match LQ.skip s i with
 | some j=>.ret (.t [.c (.i .i64 (j:Int)),.c (.b true)])
 | none=>.ret (.t [.c (.i .i64 (s.length:Int)),.c (.b false)])
theorem d1d:l6 99 (e8p fun s i=>.ret (.c (.i .i64 (n7 s i:Int)))):=o7 (fun fn h=>e77 h) [(98,_)] (.cons b0d .nil) fun U fn hfn ⟨(s,i),h1,h2⟩ vs bs hv hb=>by
 have hc:=hfn 98 _ rfl
 have hv:l8 [.c (.s s),.c (.i .i64 (i:Int))] vs:=hv
 have hb:RBs [] bs:=hb
 have h1:i≤s.length:=h1
 have h2:s.length < 90000:=h2
 show j3 U _ fun v bs'=>l7 (.ret (.c (.i .i64 (n7 s i:Int)))) v∧RBs [] bs'
 unfold r99
 (refine Zq ?_;intros)
 refine C7 (fun (j:Nat) vs bs=>vs=[.str s.length (m8 s),.int .i64 j]∧bs=[]∧i≤j∧j≤s.length∧n7 s j=n7 s i) (fun j=>s.length - j) i ⟨rfl,rfl,Nat.le_refl _,h1,rfl⟩ (by simp only [x8];omega) ?_
 rintro self j vs bs ⟨rfl,rfl,hij,hj,he⟩ ih
 (refine Zy ?_;intros)
 refine C9 (fun vs bs=>∃ (b:Bool) (v:V),vs=[.str s.length (m8 s),.int .i64 j,v]∧bs=[]∧RV (.c (.b b)) v∧(b=true↔(j < s.length∧x5 (bt s j)=true))) ?_ ?_
 ·rintro _ _ ⟨b,v,rfl,rfl,hbv,hbe⟩
  (refine Zq ?_;with_reducible repeat' first|intro _|apply aI)
  ·have hh:=hbe.1 ‹_›
   exact ih (j+1) _ _ ⟨rfl,rfl,oM,oM,by rw [← c8j hh.1 hh.2];exact he⟩ oM
  ·have hh:¬(j < s.length∧x5 (bt s j)=true):=fun h=>‹¬b=true› (hbe.2 h)
   have e:n7 s j=j:=by
    rw [n7]
    split
    ·rename_i hlt
     rw [if_neg (fun h=>hh ⟨hlt,h⟩)]
    ·rfl
   rw [← he,e]
   exact k9 ⟨.ret _ _ (.i _ _),.nil⟩
 ·intro c hcc
  have hbt:((s.getD j 0).toNat:Int)=bt s j:=rfl
  (refine Zq ?_;with_reducible repeat' first|intro _|apply aI)
  ·refine i6 hc (bt s j) (r:=.c (.b (x5 (bt s j)))) rfl j7 .nil fun _ _ hv1 _=>?_
   (refine Zq ?_;intros)
   exact hcc _ _ ⟨x5 (bt s j),_,rfl,rfl,.b _,⟨fun h=>⟨oM,h⟩,fun h=>h.2⟩⟩
  ·exact hcc _ _ ⟨false,_,rfl,rfl,.kn _,by simp;omega⟩
theorem e1k {s:j0} {j:Nat} (h:j < s.length) (h10:bt s j ≠ 10):D6 s (j+1)=D6 s j:=by
 conv=>rhs;rw [D6,if_pos h,if_neg h10]
theorem e1z {s:j0} {k d:Nat} (hd:d ≠ 0) (hk:k < s.length) (h1:has s k 35 124=true):y9 s (k+2) (d+1)=y9 s k d:=by
 conv=>rhs;rw [y9,if_neg hd,if_pos hk,if_pos h1]
theorem e3r {s:j0} {k d:Nat} (hd:d ≠ 0) (hk:k < s.length) (h1:¬has s k 35 124=true) (h2:has s k 124 35=true):y9 s (k+2) (d - 1)=y9 s k d:=by
 conv=>rhs;rw [y9,if_neg hd,if_pos hk,if_neg h1,if_pos h2]
theorem e0g {s:j0} {k d:Nat} (hd:d ≠ 0) (hk:k < s.length) (h1:¬has s k 35 124=true) (h2:¬has s k 124 35=true):y9 s (k+1) d=y9 s k d:=by
 conv=>rhs;rw [y9,if_neg hd,if_pos hk,if_neg h1,if_neg h2]
theorem e7z:l6 56 (e8p a6e):=o7 (fun fn h=>e6x h) [(94,_),(95,_)] (.cons e2c (.cons d8n .nil)) fun U fn hfn ⟨(s,i),h1,h2⟩ vs bs hv hb=>by
 have hbl:=hfn 94 _ rfl
 have hh:=hfn 95 _ rfl
 have hv:l8 [.c (.s s),.c (.i .i64 (i:Int))] vs:=hv
 have hb:RBs [] bs:=hb
 have h1:i≤s.length:=h1
 have h2:s.length < 90000:=h2
 show j3 U _ fun v bs'=>l7 (a6e s i) v∧RBs [] bs'
 unfold r56
 (refine Zq ?_;intros)
 refine C7 (fun (j:Nat) vs bs=>vs=[.str s.length (m8 s),.int .i64 j]∧bs=[]∧j≤s.length∧LQ.skip s j=LQ.skip s i) (fun j=>s.length - j) i ⟨rfl,rfl,h1,rfl⟩ (by simp only [x8];omega) ?_
 rintro self j vs bs ⟨rfl,rfl,hj,he⟩ ih
 have stop:LQ.skip s j=some j→j3 U (some (.ret (.tuple [.int .i64 j,.known true]),[])) fun v bs'=>l7 (a6e s i) v∧RBs [] bs':=fun h=>by
  have ho:LQ.skip s i=some j:=by rw [← he,h]
  have e1:a6e s i=.ret (.t [.c (.i .i64 (j:Int)),.c (.b true)]):=by unfold a6e;rw [ho]
  rw [e1]
  exact k9 ⟨.ret _ _ (.t _ _ (.k (.i _ _) (.k (.kn _) .nil))),.nil⟩
 have hbt:((s.getD j 0).toNat:Int)=bt s j:=rfl
 (refine Zq ?_;with_reducible repeat' first|intro _|apply aI)
 ·have hlt:j < s.length:=oM
  refine i6 hbl (bt s j) (r:=.c (.b (B6 (bt s j)))) rfl j7 .nil fun _ _ _ _=>?_
  (refine Zq ?_;with_reducible repeat' first|intro _|apply aI)
  ·have hb1:B6 (bt s j)=true:=‹_›
   exact ih (j+1) _ _ ⟨rfl,rfl,oM,by rw [← b6q hlt hb1];exact he⟩ oM
  ·have hb1:B6 (bt s j)=false:=by simpa using ‹¬B6 (bt s j)=true›
   have h59:bt s j=59:=‹_›
   have hl2:=a9g s j hlt oM
   have hle:=a30 s j hj
   refine C7 (fun (k:Nat) vs bs=>vs=[.str s.length (m8 s),.int .i64 k]∧bs=[]∧j≤k∧k≤s.length∧D6 s k=D6 s j) (fun k=>s.length - k) j ⟨rfl,rfl,oM,hj,rfl⟩ (by simp only [x8];omega) ?_
   rintro self2 k vs bs ⟨rfl,rfl,hjk,hk,hek⟩ ih2
   (refine Zy ?_;intros)
   refine C9 (fun vs bs=>∃ (b:Bool) (v:V),vs=[.str s.length (m8 s),.int .i64 k,v]∧bs=[]∧RV (.c (.b b)) v∧(b=true↔(k < s.length∧bt s k ≠ 10))) ?_ ?_
   ·rintro _ _ ⟨b,v,rfl,rfl,hbv,hbe⟩
    (refine Zq ?_;with_reducible repeat' first|intro _|apply aI)
    ·have h9:=hbe.1 ‹_›
     exact ih2 (k+1) _ _ ⟨rfl,rfl,oM,oM,by rw [e1k h9.1 h9.2];exact hek⟩ oM
    ·have h9:¬(k < s.length∧bt s k ≠ 10):=fun h=>‹¬b=true› (hbe.2 h)
     have ek:k=D6 s j:=by
      rw [← hek,D6]
      split
      ·rename_i hlt
       rw [if_pos (Decidable.byContradiction fun h=>h9 ⟨hlt,h⟩)]
      ·rfl
     subst ek
     exact ih (D6 s j) _ _ ⟨rfl,rfl,oM,by rw [← b1m hlt hb1 h59];exact he⟩ oM
   ·intro c hcc
    have hbt2:((s.getD k 0).toNat:Int)=bt s k:=rfl
    (refine Zq ?_;with_reducible repeat' first|intro _|apply aI)
    ·refine fun e=>?_
     subst e
     exact hcc _ _ ⟨!decide (bt s k=10),_,rfl,rfl,J3 (by rw [a1h,T8];rfl),by simp;omega⟩ rfl
    ·exact hcc _ _ ⟨false,_,rfl,rfl,.kn _,by simp;omega⟩
  ·have hb1:B6 (bt s j)=false:=by simpa using ‹¬B6 (bt s j)=true›
   have h59:¬bt s j=59:=‹_›
   refine i6 hh ⟨((s,j),35,124),hj,h2⟩ (r:=.c (.b (has s j 35 124))) rfl j7 .nil fun _ _ _ _=>?_
   (refine Zq ?_;with_reducible repeat' first|intro _|apply aI)
   ·have h35:has s j 35 124=true:=‹_›
    have hlt2:=P9 h35
    refine C7 (fun (p:Nat × Nat) vs bs=>vs=[.str s.length (m8 s),.int .i64 (p.1:Int),.int .i64 (p.2:Int)]∧bs=[]∧j < p.1∧p.1≤s.length∧p.2≤p.1∧y9 s p.1 p.2=y9 s (j+2) 1) (fun p=>s.length - p.1) (j+2,1) ⟨by simp,rfl,oM,oM,oM,rfl⟩ (by simp only [x8];omega) ?_
    rintro self2 ⟨k,d⟩ vs bs ⟨rfl,rfl,hjk,hk,hd,hek⟩ ih2
    simp only [] at hjk hk hd hek
    have hbt2:((s.getD k 0).toNat:Int)=bt s k:=rfl
    (refine Zq ?_;with_reducible repeat' first|intro _|apply aI)
    ·have hd0:¬d=0:=oM
     have hkl:s.length≤k:=oM
     have e0:y9 s (j+2) 1=none:=by rw [← hek,y9,if_neg hd0,if_neg oM]
     have ho:LQ.skip s i=none:=by rw [← he,b9g hlt hb1 h59 h35 e0]
     have e1:a6e s i=.ret (.t [.c (.i .i64 (s.length:Int)),.c (.b false)]):=by unfold a6e;rw [ho]
     rw [e1,show s.length=k by omega]
     exact k9 ⟨.ret _ _ (.t _ _ (.k (.i _ _) (.k (.kn _) .nil))),.nil⟩
    ·have hd0:d ≠ 0:=oM
     have hkl:k < s.length:=oM
     refine i6 hh ⟨((s,k),35,124),hk,h2⟩ (r:=.c (.b (has s k 35 124))) rfl j7 .nil fun _ _ _ _=>?_
     (refine Zq ?_;with_reducible repeat' first|intro _|apply aI)
     ·have q1:has s k 35 124=true:=‹_›
      have q2:=P9 q1
      exact ih2 (k+2,d+1) _ _ ⟨by simp,rfl,oM,oM,oM,by rw [e1z hd0 hkl q1];exact hek⟩ (by simp only [];omega)
     ·refine i6 hh ⟨((s,k),124,35),hk,h2⟩ (r:=.c (.b (has s k 124 35))) rfl j7 .nil fun _ _ _ _=>?_
      (refine Zq ?_;with_reducible repeat' first|intro _|apply aI)
      ·have q1:has s k 124 35=true:=‹_›
       have q2:=P9 q1
       exact ih2 (k+2,d - 1) _ _ ⟨by simp;omega,rfl,oM,oM,oM,by rw [e3r hd0 hkl ‹_› q1];exact hek⟩ (by simp only [];omega)
      ·exact ih2 (k+1,d) _ _ ⟨by simp,rfl,oM,oM,oM,by rw [e0g hd0 hkl ‹_› ‹_›];exact hek⟩ (by simp only [];omega)
    ·have hd0:d=0:=oM
     subst hd0
     have e0:y9 s (j+2) 1=some k:=by rw [← hek,y9,if_pos rfl]
     exact ih k _ _ ⟨rfl,rfl,hk,by rw [← c12 hlt hb1 h59 h35 e0];exact he⟩ oM
   ·exact stop (b89 hlt hb1 h59 (by simpa using ‹¬has s j 35 124=true›))
 ·have hlt:¬j < s.length:=oM
  exact stop (by rw [LQ.skip,if_neg hlt])
set_option maxHeartbeats 8000000
theorem a4h:l6 53 { ι:=Int × Int,A:=fun p=>[.c (.i .i64 p.1),.c (.i .i64 p.2)],B:=fun _=>[],R:=fun p=>.ret (v8 p.1 p.2),B':=fun _=>[],inj:=fun i j vs bs h k _ _=>(by
  obtain ⟨_,_,h1,k1,h,k⟩:=h.two k
  obtain ⟨_,_,h2,k2,h,k⟩:=h.two k
  rw [K7 h1 k1,K7 h2 k2];exact ⟨rfl,rfl⟩) }:=o7 (fun fn h=>e4u h) [] .nil fun U fn hfn ⟨e,p⟩ vs bs hv hb=>by
 have hv:l8 [.c (.i .i64 e),.c (.i .i64 p)] vs:=hv
 have hb:RBs [] bs:=hb
 show j3 U _ fun v bs'=>l7 (.ret (v8 e p)) v∧RBs [] bs'
 unfold r53
 (refine Zq ?_;intros)
 exact k9 ⟨.ret _ _ (N8 e p),.nil⟩
def a00 (s:j0) (c:Int) (i:Nat):Nat :=
 if i < s.length then
  if bt s i=c then i+1
  else if bt s i ≠ 92 then a00 s c (i+1)
  else if i+1 < s.length then
   if bt s (i+1) ≠ c∧bt s (i+1) ≠ 92 then i
   else a00 s c (i+2)
  else i
 else i
termination_by s.length - i
theorem e1r {s:j0} {c:Int}:∀ {i:Nat} {acc l:List Int} {j:Nat},C1 s c i acc=.ok (l,j)→a00 s c i=j:=by
 intro i
 generalize hn:s.length - i=n
 induction n using Nat.strongRecOn generalizing i with
 | _ n ih =>
  intro acc l j h
  rw [C1] at h
  rw [a00]
  split at h
  ·rename_i h1
   rw [if_pos h1]
   split at h
   ·rename_i h2
    rw [if_pos h2]
    injection h with h
    injection h with _ h
   ·rename_i h2
    rw [if_neg h2]
    split at h
    ·rename_i h3
     rw [if_pos h3]
     exact ih _ oM rfl h
    ·rename_i h3
     rw [if_neg h3]
     split at h
     ·rename_i h4
      rw [if_pos h4]
      split at h
      ·cases h
      ·rename_i h5
       rw [if_neg h5]
       exact ih _ oM rfl h
     ·cases h
  ·cases h
def L5 (s:j0) (c:Int) (i:Nat) (acc:List Int):t7:=match C1 s c i acc with
 | .ok (l,_)=>.ret (.t [.c (.s (D5 l)),.c (.i .i64 (a00 s c i:Int)),v8 0 0])
 | .error (e,p)=>.ret (.t [.c (.s []),.c (.i .i64 (a00 s c i:Int)),v8 e p])
def f05:Sp where
 ι:={ p:(j0 × Nat) × Int // (p.1.2≤p.1.1.length∧p.1.1.length < 90000)∧p.2 ≠ 92 }
 A p:=[.c (.s p.1.1.1),.c (.i .i64 (p.1.1.2:Int)),.c (.i .u8 p.1.2)]
 B _:=[]
 R p:=L5 p.1.1.1 p.1.2 p.1.1.2 []
 B' _:=[]
 inj i j vs bs h k _ _:=by
  obtain ⟨_,_,h1,k1,h,k⟩:=h.two k
  obtain ⟨_,_,h2,k2,h,k⟩:=h.two k
  obtain ⟨_,_,h3,k3,h,k⟩:=h.two k
  have e2:=K7 h2 k2
  rw [F1 h1 k1,show i.1.1.2=j.1.1.2 by omega,K7 h3 k3];exact ⟨rfl,rfl⟩
theorem d4b {s:j0} {c:Int} {j:Nat} {acc:List Int} (h:¬j < s.length):L5 s c j acc=.ret (.t [.c (.s []),.c (.i .i64 (j:Int)),v8 11 s.length]):=by
 unfold L5;rw [C1,if_neg h,a00,if_neg h]
theorem d8f {s:j0} {c:Int} {j:Nat} {acc:List Int} (h:j < s.length) (h1:bt s j=c):L5 s c j acc=.ret (.t [.c (.s (D5 acc)),.c (.i .i64 ((j+1:Nat):Int)),v8 0 0]):=by
 unfold L5;rw [C1,if_pos h,if_pos h1,a00,if_pos h,if_pos h1]
theorem d7j {s:j0} {c:Int} {j:Nat} {acc:List Int} (h:j < s.length) (h1:¬bt s j=c) (h2:bt s j ≠ 92):L5 s c (j+1) (acc ++ [bt s j])=L5 s c j acc:=by
 unfold L5
 conv=>rhs;rw [C1,if_pos h,if_neg h1,if_pos h2,a00,if_pos h,if_neg h1,if_pos h2]
theorem d76 {s:j0} {c:Int} {j:Nat} {acc:List Int} (h:j < s.length) (h1:¬bt s j=c) (h2:¬bt s j ≠ 92) (h3:¬j+1 < s.length):L5 s c j acc=.ret (.t [.c (.s []),.c (.i .i64 (j:Int)),v8 11 s.length]):=by
 unfold L5;rw [C1,if_pos h,if_neg h1,if_neg h2,if_neg h3,a00,if_pos h,if_neg h1,if_neg h2,if_neg h3]
theorem d4p {s:j0} {c:Int} {j:Nat} {acc:List Int} (h:j < s.length) (h1:¬bt s j=c) (h2:¬bt s j ≠ 92) (h3:j+1 < s.length) (h4:bt s (j+1) ≠ c∧bt s (j+1) ≠ 92):L5 s c j acc=.ret (.t [.c (.s []),.c (.i .i64 (j:Int)),v8 12 j]):=by
 unfold L5;rw [C1,if_pos h,if_neg h1,if_neg h2,if_pos h3,if_pos h4,a00,if_pos h,if_neg h1,if_neg h2,if_pos h3,if_pos h4]
theorem d4x {s:j0} {c:Int} {j:Nat} {acc:List Int} (h:j < s.length) (h1:¬bt s j=c) (h2:¬bt s j ≠ 92) (h3:j+1 < s.length) (h4:¬(bt s (j+1) ≠ c∧bt s (j+1) ≠ 92)):L5 s c (j+2) (acc ++ [bt s (j+1)])=L5 s c j acc:=by
 unfold L5
 conv=>rhs;rw [C1,if_pos h,if_neg h1,if_neg h2,if_pos h3,if_neg h4,a00,if_pos h,if_neg h1,if_neg h2,if_pos h3,if_neg h4]
theorem c7p (acc:j0) (s:j0) (j:Nat):acc.map bg ++ [[.i .u8 (bt s j)]]=(acc ++ [s.getD j 0]).map bg:=a83 rfl
theorem b5h (acc:j0) (s:j0) (j:Nat):a5o (acc ++ [s.getD j 0])=a5o acc ++ [bt s j]:=by simp [a5o,bt]
theorem d9e:l6 96 f05:=o7 (fun fn h=>e6j h) [(53,_)] (.cons a4h .nil) fun U fn hfn ⟨((s,i),c),⟨h1,h2⟩,hc⟩ vs bs hv hb=>by
 have hbd:=hfn 53 _ rfl
 have hv:l8 [.c (.s s),.c (.i .i64 (i:Int)),.c (.i .u8 c)] vs:=hv
 have hb:RBs [] bs:=hb
 have h1:i≤s.length:=h1
 have h2:s.length < 90000:=h2
 have hc:c ≠ 92:=hc
 show j3 U _ fun v bs'=>l7 (L5 s c i []) v∧RBs [] bs'
 unfold r96
 (refine Zq ?_;intros)
 refine C7 (fun (j:Nat) vs bs=>∃ (v:V) (b:Bx) (acc:j0),vs=[.str s.length (m8 s),.int .i64 j,.int .u8 c,.ptr 0 0,v]∧bs=[b,.tok acc.length 1]∧V4 1 1 (acc.map bg) v∧RB [.i .i64 0,.i .i64 0] b∧j≤s.length∧acc.length≤j∧L5 s c j (a5o acc)=L5 s c i []) (fun j=>s.length - j) i ⟨_,_,[],rfl,rfl,.b rfl,.cells _ _ j7,h1,by simp,rfl⟩ (by simp only [x8];omega) ?_
 rintro self j vs bs ⟨v,b,acc,rfl,rfl,ht,hbx,hj,hal,he⟩ ih
 have hbt:((s.getD j 0).toNat:Int)=bt s j:=rfl
 have hbt1:((s.getD (j+1) 0).toNat:Int)=bt s (j+1):=rfl
 have e1:((j:Int)+1).toNat=j+1:=oM
 have bad:∀ {e p:Int} {x:Q},L5 s c j (a5o acc)=.ret (.t [.c (.s []),.c (.i .i64 (j:Int)),v8 e p])→x4 [.i .i64 e,.i .i64 p] x 0→j3 U (some (.ret (.tuple [.str 0 0,.int .i64 j,.a x 2]),[])) fun v bs'=>l7 (L5 s c i []) v∧RBs [] bs':=fun {e p x} h hx=>by
  rw [← he,h]
  exact k9 ⟨.ret _ _ (.t _ _ (.k (.s _ _ _ rfl rfl) (.k (.i _ _) (.k (.a _ _ _ rfl hx) .nil)))),.nil⟩
 (refine Zy ?_;with_reducible repeat' first|intro _|apply aI)
 ·have hlt:¬j < s.length:=oM
  refine i6 hbd (11,(s.length:Int)) (r:=v8 11 s.length) rfl j7 .nil fun _ _ hv5 _=>?_
  have hv5:RV (.a [.i .i64 11,.i .i64 (s.length:Int)]) _:=hv5
  (refine Zq ?_;intros)
  exact bad (d4b hlt) aS
 ·have hlt:j < s.length:=oM
  have hbc:bt s j=c:=‹_›
  refine sBT (ys:=acc) aS rfl ?_
  (refine Zq ?_;intros)
  rw [← he,d8f hlt hbc,b9p]
  refine k9 ⟨.ret _ _ (.t _ _ (.k (.s _ _ _ rfl rfl) (.k ?_ (.k (N8 0 0) .nil)))),.nil⟩
  exact (by rw [Int.natCast_add];exact .i _ _)
 ·have hlt:j < s.length:=oM
  have hbc:¬bt s j=c:=‹_›
  have h92:¬bt s j ≠ 92:=fun h=>h ‹_›
  refine i6 hbd (11,(s.length:Int)) (r:=v8 11 s.length) rfl j7 .nil fun _ _ hv5 _=>?_
  have hv5:RV (.a [.i .i64 11,.i .i64 (s.length:Int)]) _:=hv5
  (refine Zq ?_;intros)
  exact bad (d76 hlt hbc h92 oM) aS
 ·have hlt:j < s.length:=oM
  have hbc:¬bt s j=c:=‹_›
  have h92:¬bt s j ≠ 92:=fun h=>h ‹_›
  have hj1:j+1 < s.length:=oM
  rename_i t0 ht0 x0 hx0 _ _ _ _
  refine C9 (fun vs bs=>∃ (b:Bool) (v:V),vs=[.str s.length (m8 s),.int .i64 j,.int .u8 c,.ptr 0 0,.slice t0 1 0 acc.length (.tok 1),v]∧bs=[.opa x0 2,.tok acc.length 1]∧RV (.c (.b b)) v∧(b=true↔(bt s (j+1) ≠ c∧bt s (j+1) ≠ 92))) ?_ ?_
  ·rintro _ _ ⟨b,v,rfl,rfl,hbv,hbe⟩
   (refine Zy ?_;with_reducible repeat' first|intro _|apply aI)
   ·refine i6 hbd (12,(j:Int)) (r:=v8 12 j) rfl j7 .nil fun _ _ hv5 _=>?_
    have hv5:RV (.a [.i .i64 12,.i .i64 (j:Int)]) _:=hv5
    (refine Zq ?_;intros)
    exact bad (d4p hlt hbc h92 hj1 (hbe.1 ‹_›)) aS
   ·have hn:¬(bt s (j+1) ≠ c∧bt s (j+1) ≠ 92):=fun h=>‹¬b=true› (hbe.2 h)
    refine V8 aS (fun _=>G7 (by first | exact .i _ _ | exact .s _ _ _ rfl rfl | assumption)) (by rfl) (by simp) (by simp only [List.length_map];omega) fun _ _=>?_
    (refine Zq ?_;intros)
    refine ih (j+2) _ _ ⟨_,_,acc ++ [s.getD (j+1) 0],?_,?_,.a _ (acc.length+1) (by simp) (by rw [← c7p];assumption),.opa _ _ 2 rfl aS,oM,by simp;omega,by rw [b5h,d4x hlt hbc h92 hj1 hn];exact he⟩ oM
    ·rfl
    ·simp
  ·intro k hk
   (refine Zq ?_;with_reducible repeat' first|intro _|apply aI)
   ·refine hk _ _ ⟨false,_,rfl,rfl,.kn _,?_⟩
    have hh:bt s (j+1)=c:=‹_›
    simp [hh]
   ·have hh:¬bt s (j+1)=c:=‹_›
    refine fun e=>?_
    subst e
    exact hk _ _ ⟨!decide (bt s (j+1)=92),_,rfl,rfl,J3 (by rw [a1h,T8];rfl),by simp [hh]⟩ rfl
 ·have hlt:j < s.length:=oM
  have hbc:¬bt s j=c:=‹_›
  have h92:bt s j ≠ 92:=‹_›
  refine V8 aS (fun _=>G7 (by first | exact .i _ _ | exact .s _ _ _ rfl rfl | assumption)) (by rfl) (by simp) (by simp only [List.length_map];omega) fun _ _=>?_
  (refine Zq ?_;intros)
  refine ih (j+1) _ _ ⟨_,_,acc ++ [s.getD j 0],?_,?_,.a _ (acc.length+1) (by simp) (by rw [← c7p];assumption),.opa _ _ 2 rfl aS,oM,by simp;omega,by rw [b5h,d7j hlt hbc h92];exact he⟩ oM
  ·rfl
  ·simp
theorem e51 {a b:Bool} {v:V} (h:RV (.c (.b a)) v) (k:RV (.c (.b b)) v):a=b:=G.b.inj (h.c_inj k)
def A6 (t:y3) (bars:Bool):Int × Int:=if q7 t.text t.pkg bars=0 then (0,0) else (q7 t.text t.pkg bars,t.pos)
def f1e:Sp where
 ι:={ p:y3 × Bool // p.1.pkg.length < 90000 }
 A p:=[.a (p9 p.1.1),.c (.b p.1.2)]
 B _:=[]
 R p:=.ret (v8 (A6 p.1.1 p.1.2).1 (A6 p.1.1 p.1.2).2)
 B' _:=[]
 inj i j vs bs h k _ _:=by
  obtain ⟨_,_,h1,k1,h,k⟩:=h.two k
  obtain ⟨_,_,h2,k2,h,k⟩:=h.two k
  rw [a5c (h1.a_inj k1),e51 h2 k2];exact ⟨rfl,rfl⟩
theorem c79:l6 97 f1e:=o7 (fun fn h=>e7p h) [(53,_),(90,_)] (.cons a4h (.cons a77 .nil)) fun U fn hfn ⟨(t,bars),hp⟩ vs bs hv hb=>by
 have hbd:=hfn 53 _ rfl
 have hvp:=hfn 90 _ rfl
 have hp:t.pkg.length < 90000:=hp
 have hv:l8 [.a [.i .i64 t.kind,.i .i64 (t.pos:Int),.s t.pkg,.s t.text,.s t.den],.c (.b bars)] vs:=hv
 have hb:RBs [] bs:=hb
 show j3 U _ fun v bs'=>l7 (.ret (v8 (A6 t bars).1 (A6 t bars).2)) v∧RBs [] bs'
 unfold r97
 have bad:∀ {e:Int} {x:Q},e ≠ 0→q7 t.text t.pkg bars=e→x4 [.i .i64 e,.i .i64 (t.pos:Int)] x 0→j3 U (some (.ret (.a x 2),[])) fun v bs'=>l7 (.ret (v8 (A6 t bars).1 (A6 t bars).2)) v∧RBs [] bs':=fun {e x} h0 he hx=>by
  unfold A6
  rw [he,if_neg h0]
  exact k9 ⟨.ret _ _ (.a _ _ _ rfl hx),.nil⟩
 have ok:q7 t.text t.pkg bars=0→j3 U (some (.ret (.agg [.int .i64 0,.int .i64 0]),[])) fun v bs'=>l7 (.ret (v8 (A6 t bars).1 (A6 t bars).2)) v∧RBs [] bs':=fun he=>by
  unfold A6
  rw [if_pos he]
  exact k9 ⟨.ret _ _ (N8 0 0),.nil⟩
 (refine Zy ?_;with_reducible repeat' first|intro _|apply aI)
 ·refine i6 hbd (2,(t.pos:Int)) (r:=v8 2 t.pos) rfl (.k (.i _ _) (.k (.q _ _ aS) .nil)) .nil fun _ _ hv5 _=>?_
  have hv5:RV (.a [.i .i64 2,.i .i64 (t.pos:Int)]) _:=hv5
  (refine Zq ?_;intros)
  exact bad (e:=2) dE (by unfold q7;rw [if_pos oM]) aS
 ·have hl:¬40 < t.text.length:=oM
  refine C9 (fun vs bs=>∃ b:Bool,l8 [.p 0 0,.p 1 0,.c (.b b)] vs∧RBs [[.i .i64 t.kind,.i .i64 (t.pos:Int),.s t.pkg,.s t.text,.s t.den],[.i .i64 0,.i .i64 0]] bs∧(b=true↔((bars=true∧t.text.length=0)∨(t.pkg.length ≠ 0∧u5 t.pkg=false)))) ?_ ?_
  ·rintro vs' bs' ⟨b,hv',hb',hbe⟩
   (refine Zq ?_;with_reducible repeat' first|intro _|apply aI)
   ·refine i6 hbd (3,(t.pos:Int)) (r:=v8 3 t.pos) rfl (.k (.i _ _) (.k (.q _ _ aS) .nil)) .nil fun _ _ hv5 _=>?_
    have hv5:RV (.a [.i .i64 3,.i .i64 (t.pos:Int)]) _:=hv5
    (refine Zq ?_;intros)
    exact bad (e:=3) dE (by unfold q7;rw [if_neg hl,if_pos (hbe.1 ‹_›)]) aS
   ·exact ok (by unfold q7;rw [if_neg hl,if_neg fun h=>‹¬b=true› (hbe.2 h)])
  ·intro k hk
   have box:∀ {x:Q},x4 [.i .i64 t.kind,.i .i64 (t.pos:Int),.s t.pkg,.s t.text,.s t.den] x 0→RBs [[.i .i64 t.kind,.i .i64 (t.pos:Int),.s t.pkg,.s t.text,.s t.den],[.i .i64 0,.i .i64 0]] [Bx.opa x 5,Bx.cells [V.int .i64 0,V.int .i64 0]]:=fun hx=>.k (.opa _ _ _ rfl hx) (.k (.cells _ _ j7) .nil)
   (refine Zq ?_;with_reducible repeat' first|intro _|apply aI)
   ·have hbr:bars=true:=‹_›
    have e:t.text=[]:=‹_›
    exact hk _ _ ⟨true,by (exact j7),box aS,by simp [hbr,e]⟩
   ·have hbr:bars=true:=‹_›
    have e:¬t.text=[]:=‹_›
    have e2:t.pkg=[]:=‹_›
    exact hk _ _ ⟨false,by (exact j7),box aS,by simp [e,e2]⟩
   ·have hbr:bars=true:=‹_›
    have e:¬t.text=[]:=‹_›
    have e2:¬t.pkg=[]:=‹_›
    refine i6 hvp ⟨t.pkg,hp⟩ (r:=.c (.b (u5 t.pkg))) rfl (.k (.q _ _ aS) .nil) .nil fun _ _ _ _=>?_
    (refine Zq ?_;intros)
    refine fun e9=>?_
    subst e9
    exact hk _ _ ⟨!u5 t.pkg,.k (.p _ _) (.k (.p _ _) (.k (J3 (a1h _).symm) .nil)),box aS,by simp [e,e2]⟩ rfl
   ·have hbr:¬bars=true:=‹_›
    have e2:t.pkg=[]:=‹_›
    exact hk _ _ ⟨false,by (exact j7),box aS,by simp [hbr,e2]⟩
   ·have hbr:¬bars=true:=‹_›
    have e2:¬t.pkg=[]:=‹_›
    refine i6 hvp ⟨t.pkg,hp⟩ (r:=.c (.b (u5 t.pkg))) rfl (.k (.q _ _ aS) .nil) .nil fun _ _ _ _=>?_
    (refine Zq ?_;intros)
    refine fun e9=>?_
    subst e9
    exact hk _ _ ⟨!u5 t.pkg,.k (.p _ _) (.k (.p _ _) (.k (J3 (a1h _).symm) .nil)),box aS,by simp [hbr,e2]⟩ rfl
theorem f0m {U:t6} {P:E6→List Bx→Prop} {s:List UInt8} {a b:Int} {K:Nat→Om} (h:0≤a∧a≤b∧b≤s.length) (k:j3 U (K (m8 ((s.take b.toNat).drop a.toNat))) P):j3 U (U.fN (U.sSub (m8 s) (U.iNat a) (b.toNat - a.toNat)) K) P:=fun e=>by
 have:=k e
 subst e
 rw [a3u]
 show ∃ v bs,K (sSub (m8 s) (iNat a) (b.toNat - a.toNat))=some (v,bs)∧P v bs
 rw [D2,b9u (show a.toNat≤b.toNat by omega) oM]
 exact this
theorem e3h {s:j0} {j:Nat} (h:j < s.length) (h1:bt s j=48):A0 s (j+1)=A0 s j:=by
 conv=>rhs;rw [A0,if_pos h,if_pos h1]
theorem b34 (s:j0):j4 s=1↔(0 < s.length∧bt s 0=45):=by unfold j4;split <;> simp [*]
theorem d3a {s:j0} (h:¬j4 s=1):j4 s=0:=by have:=K5 s;omega
theorem e1y:l6 102 (sp1 fun s=>.ret (.c (.s (plain s)))):=o7 (fun fn h=>e2b h) [] .nil fun U fn hfn ⟨s,hs⟩ vs bs hv hb=>by
 have hv:l8 [.c (.s s)] vs:=hv
 have hb:RBs [] bs:=hb
 have hs:s.length < 90000:=hs
 show j3 U _ fun v bs'=>l7 (.ret (.c (.s (plain s)))) v∧RBs [] bs'
 unfold d7d
 have hsl:=K5 s
 have e1:plain s=if A0 s (j4 s)=s.length then x6 else if j4 s=1 then [45] ++ s.drop (A0 s (j4 s)) else s.drop (A0 s (j4 s)):=by unfold plain;simp only [List.take_length]
 (refine Zy ?_;intros)
 refine C9 (fun vs bs=>∃ (b:Bool) (v:V),vs=[.str s.length (m8 s),v]∧bs=[]∧RV (.c (.b b)) v∧(b=true↔j4 s=1)) ?_ ?_
 ·rintro _ _ ⟨b,v,rfl,rfl,hbv,hbe⟩
  (refine Zy ?_;intros)
  refine C9 (fun vs bs=>vs=[.str s.length (m8 s),.bool b,.int .i64 (j4 s:Int)]∧bs=[]) ?_ ?_
  ·rintro _ _ ⟨rfl,rfl⟩
   (refine Zq ?_;intros)
   refine C7 (fun (j:Nat) vs bs=>vs=[.str s.length (m8 s),.bool b,.int .i64 j]∧bs=[]∧j≤s.length∧A0 s j=A0 s (j4 s)) (fun j=>s.length - j) (j4 s) ⟨rfl,rfl,hsl.1,rfl⟩ (by simp only [x8];omega) ?_
   rintro self j vs bs ⟨rfl,rfl,hj,he⟩ ih
   (refine Zy ?_;intros)
   refine C9 (fun vs bs=>∃ (c:Bool) (v:V),vs=[.str s.length (m8 s),.bool b,.int .i64 j,v]∧bs=[]∧RV (.c (.b c)) v∧(c=true↔(j < s.length∧bt s j=48))) ?_ ?_
   ·rintro _ _ ⟨c,v,rfl,rfl,hcv,hce⟩
    (refine Zq ?_;with_reducible repeat' first|intro _|apply aI)
    ·have hh:=hce.1 ‹_›
     exact ih (j+1) _ _ ⟨rfl,rfl,oM,by rw [e3h hh.1 hh.2];exact he⟩ oM
    all_goals
     have hh:¬(j < s.length∧bt s j=48):=fun h=>‹¬c=true› (hce.2 h)
     have hz:=c1r hh
     rw [hz] at he
     rw [← he] at e1
    ·rw [e1,if_pos oM]
     exact k9 ⟨.ret _ _ (.s _ _ _ rfl rfl),.nil⟩
    ·rw [e1,if_neg oM,if_pos (hbe.1 ‹_›)]
     refine f0w (x:=[45]) (y:=s.drop j) rfl rfl rfl rfl (by simp only [List.length_cons,List.length_nil,List.length_drop];omega) ?_
     exact k9 ⟨.ret _ _ (.s _ _ _ rfl rfl),.nil⟩
    ·rw [e1,if_neg oM,if_neg (fun e=>‹¬b=true› (hbe.2 e))]
     exact k9 ⟨.ret _ _ (.s _ _ _ (by simp) (by simp)),.nil⟩
   ·intro c hcc
    have hbt:((s.getD j 0).toNat:Int)=bt s j:=rfl
    (refine Zq ?_;with_reducible repeat' first|intro _|apply aI)
    ·refine fun e=>?_
     subst e
     exact hcc _ _ ⟨decide (bt s j=48),_,rfl,rfl,J3 (by rw [T8];rfl),by simp;omega⟩ rfl
    ·exact hcc _ _ ⟨false,_,rfl,rfl,.kn _,by simp;omega⟩
  ·intro c hcc
   (refine Zq ?_;with_reducible repeat' first|intro _|apply aI)
   ·exact hcc _ _ ⟨by rw [hbe.1 ‹_›];rfl,rfl⟩
   ·exact hcc _ _ ⟨by rw [d3a (fun e=>‹¬b=true› (hbe.2 e))];rfl,rfl⟩
 ·intro c hcc
  have hbt:((s.getD 0 0).toNat:Int)=bt s 0:=rfl
  (refine Zq ?_;with_reducible repeat' first|intro _|apply aI)
  ·refine fun e=>?_
   subst e
   exact hcc _ _ ⟨decide (bt s 0=45),_,rfl,rfl,J3 (by rw [T8];rfl),by rw [b34];simp;omega⟩ rfl
  ·exact hcc _ _ ⟨false,_,rfl,rfl,.kn _,by rw [b34];simp;omega⟩
theorem e4a {s:j0} (h:m7 s (j4 s)=j4 s):m6 s=([],[],false):=by unfold m6;simp only [];rw [if_pos h];rfl
theorem e07 {s:j0} (h:¬m7 s (j4 s)=j4 s) (h1:m7 s (j4 s)=s.length):m6 s=(s,[49],true):=by unfold m6;simp only [];rw [if_neg h,if_pos h1];rfl
theorem e0c {s:j0} (h:¬m7 s (j4 s)=j4 s) (h1:¬m7 s (j4 s)=s.length) (h2:bt s (m7 s (j4 s)) ≠ 47∨m7 s (j4 s)+1=s.length):m6 s=([],[],false):=by unfold m6;simp only [];rw [if_neg h,if_neg h1,if_pos h2];rfl
theorem d5z {s:j0} (h:¬m7 s (j4 s)=j4 s) (h1:¬m7 s (j4 s)=s.length) (h2:¬(bt s (m7 s (j4 s)) ≠ 47∨m7 s (j4 s)+1=s.length)):m6 s=if m7 s (m7 s (j4 s)+1)=s.length then (s.take (m7 s (j4 s)),s.drop (m7 s (j4 s)+1),true) else ([],[],false):=by
 unfold m6
 simp only []
 rw [if_neg h,if_neg h1,if_neg h2,List.take_length]
 rfl
def d6z (p:j0 × j0 × Bool):t7:=.ret (.t [.c (.s p.1),.c (.s p.2.1),.c (.b p.2.2)])
theorem d2y:l6 101 (sp1 fun s=>d6z (m6 s)):=o7 (fun fn h=>e1p h) [] .nil fun U fn hfn ⟨s,hs⟩ vs bs hv hb=>by
 have hv:l8 [.c (.s s)] vs:=hv
 have hb:RBs [] bs:=hb
 have hs:s.length < 90000:=hs
 show j3 U _ fun v bs'=>l7 (d6z (m6 s)) v∧RBs [] bs'
 unfold d7q
 have hsl:=K5 s
 have no:m6 s=([],[],false)→j3 U (some (.ret (.tuple [.str 0 0,.str 0 0,.known false]),[])) fun v bs'=>l7 (d6z (m6 s)) v∧RBs [] bs':=fun h=>by
  rw [h]
  exact k9 ⟨.ret _ _ j7,.nil⟩
 (refine Zy ?_;intros)
 refine C9 (fun vs bs=>vs=[.str s.length (m8 s),.int .i64 (j4 s:Int)]∧bs=[]) ?_ ?_
 ·rintro _ _ ⟨rfl,rfl⟩
  (refine Zy ?_;intros)
  generalize hg:j4 s=g at *
  refine C7 (fun (j:Nat) vs bs=>vs=[.str s.length (m8 s),.int .i64 g,.int .i64 j]∧bs=[]∧g≤j∧j≤s.length∧m7 s j=m7 s g) (fun j=>s.length - j) g ⟨rfl,rfl,Nat.le_refl _,hsl.1,rfl⟩ (by simp only [x8];omega) ?_
  rintro self j vs bs ⟨rfl,rfl,hgj,hj,he⟩ ih
  (refine Zy ?_;intros)
  refine C9 (fun vs bs=>∃ (c:Bool) (v:V),vs=[.str s.length (m8 s),.int .i64 g,.int .i64 j,v]∧bs=[]∧RV (.c (.b c)) v∧(c=true↔(j < s.length∧P5 (bt s j)=true))) ?_ ?_
  ·rintro _ _ ⟨c,v,rfl,rfl,hcv,hce⟩
   have hbt:((s.getD j 0).toNat:Int)=bt s j:=rfl
   (refine Zy ?_;with_reducible repeat' first|intro _|apply aI)
   ·have hh:=hce.1 ‹_›
    exact ih (j+1) _ _ ⟨rfl,rfl,oM,oM,by rw [← he];conv=>rhs;rw [m7,if_pos hh.1,if_pos hh.2]⟩ oM
   all_goals
    have hh:¬(j < s.length∧P5 (bt s j)=true):=fun h=>‹¬c=true› (hce.2 h)
    have hz:m7 s j=j:=by
     rw [m7]
     split
     ·rw [if_neg (fun h=>hh ⟨‹_›,h⟩)]
     ·rfl
    rw [hz] at he
    have he':m7 s (j4 s)=j:=by rw [hg,← he]
   ·exact no (e4a (by rw [he',hg];omega))
   ·rw [e07 (by rw [he',hg];omega) (by rw [he'];omega)]
    exact k9 ⟨.ret _ _ j7,.nil⟩
   ·have q1:¬m7 s (j4 s)=j4 s:=by rw [he',hg];omega
    have q2:¬m7 s (j4 s)=s.length:=by rw [he'];omega
    refine C9 (fun vs bs=>∃ (c:Bool) (v:V),vs=[.str s.length (m8 s),.int .i64 j,v]∧bs=[]∧RV (.c (.b c)) v∧(c=true↔(bt s j ≠ 47∨j+1=s.length))) ?_ ?_
    ·rintro _ _ ⟨d,v,rfl,rfl,hdv,hde⟩
     (refine Zq ?_;with_reducible repeat' first|intro _|apply aI)
     ·exact no (e0c q1 q2 (by rw [he'];exact hde.1 ‹_›))
     ·have q3:¬(bt s (m7 s (j4 s)) ≠ 47∨m7 s (j4 s)+1=s.length):=by rw [he'];exact fun h=>‹¬d=true› (hde.2 h)
      have q4:=d5z q1 q2 q3
      rw [he'] at q4
      refine C7 (fun (k:Nat) vs bs=>vs=[.str s.length (m8 s),.int .i64 j,.int .i64 k]∧bs=[]∧j < k∧k≤s.length∧m7 s k=m7 s (j+1)) (fun k=>s.length - k) (j+1) ⟨rfl,rfl,oM,oM,rfl⟩ (by simp only [x8];omega) ?_
      rintro self2 k vs bs ⟨rfl,rfl,hjk,hk,hek⟩ ih2
      (refine Zy ?_;with_reducible repeat' first|intro _|apply aI)
      ·refine C9 (fun vs bs=>∃ (c:Bool) (v:V),vs=[.str s.length (m8 s),.int .i64 j,.int .i64 k,v]∧bs=[]∧RV (.c (.b c)) v∧(c=true↔¬P5 (bt s k)=true)) ?_ ?_
       ·rintro _ _ ⟨d2,v,rfl,rfl,hdv2,hde2⟩
        (refine Zq ?_;with_reducible repeat' first|intro _|apply aI)
        ·refine no ?_
         have hk2:=hde2.1 ‹_›
         have:m7 s k=k:=by rw [m7,if_pos oM,if_neg hk2]
         rw [q4,if_neg oM]
        ·have hk2:P5 (bt s k)=true:=Decidable.byContradiction fun h=>‹¬d2=true› (hde2.2 h)
         exact ih2 (k+1) _ _ ⟨rfl,rfl,oM,oM,by rw [← hek];conv=>rhs;rw [m7,if_pos (show k < s.length by omega),if_pos hk2]⟩ oM
       ·intro c hcc
        have hbt:((s.getD k 0).toNat:Int)=bt s k:=rfl
        (refine Zq ?_;with_reducible repeat' first|intro _|apply aI)
        ·exact hcc _ _ ⟨true,_,rfl,rfl,.kn _,by rw [a4w];simp;omega⟩
        ·refine fun e=>?_
         subst e
         exact hcc _ _ ⟨decide (57 < bt s k),_,rfl,rfl,J3 (by rw [b0s];rfl),by rw [a4w];simp;omega⟩ rfl
      ·have:m7 s k=k:=by rw [m7,if_neg oM]
       rw [q4,if_pos oM]
       refine f0m (s:=s) (a:=0) (b:=(j:Int)) oM ?_
       (refine Zq ?_;intros)
       have ej:((j:Int)+1).toNat=j+1:=oM
       rw [ej]
       exact k9 ⟨.ret _ _ (.t _ _ (.k (.s _ _ _ (by simp;omega) rfl) (.k (.s _ _ _ rfl rfl) (.k (.kn _) .nil)))),.nil⟩
    ·intro c hcc
     (refine Zq ?_;with_reducible repeat' first|intro _|apply aI)
     ·refine fun e=>?_
      subst e
      exact hcc _ _ ⟨decide ((j:Int)+1=s.length),_,rfl,rfl,J3 (by rw [T8]),by simp;omega⟩ rfl
     ·exact hcc _ _ ⟨true,_,rfl,rfl,.kn _,by simp;omega⟩
  ·intro c hcc
   have hbt:((s.getD j 0).toNat:Int)=bt s j:=rfl
   (refine Zq ?_;with_reducible repeat' first|intro _|apply aI)
   ·refine fun e=>?_
    subst e
    exact hcc _ _ ⟨decide (bt s j≤57),_,rfl,rfl,J3 (by rw [d8g];rfl),by rw [a4w];simp;omega⟩ rfl
   ·exact hcc _ _ ⟨false,_,rfl,rfl,.kn _,by rw [a4w];simp;omega⟩
   ·exact hcc _ _ ⟨false,_,rfl,rfl,.kn _,by simp;omega⟩
 ·intro c hcc
  have hbt:((s.getD 0 0).toNat:Int)=bt s 0:=rfl
  have hsi:=b34 s
  have hsz:¬(0 < s.length∧bt s 0=45)→j4 s=0:=fun h=>d3a fun e=>h (hsi.1 e)
  (refine Zq ?_;with_reducible repeat' first|intro _|apply aI)
  ·have h45:bt s 0=45:=‹_›
   exact hcc _ _ ⟨by rw [hsi.2 ⟨oM,h45⟩];rfl,rfl⟩
  ·have h45:¬bt s 0=45:=‹_›
   exact hcc _ _ ⟨by rw [hsz (fun h=>h45 h.2)];rfl,rfl⟩
  ·exact hcc _ _ ⟨by rw [hsz oM];rfl,rfl⟩
end
end Go.Proofs.YtffaodopiifbkaaGreatDoor
