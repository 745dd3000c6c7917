/- The reference's reader: bytes, blanks, words. -/
import Derived.Test.YtffaodopiifbkaaGreatDoorCEH
import Derived.Test.YtffaodopiifbkaaGreatDoorCN
import Derived.Test.YtffaodopiifbkaaGreatDoorCTB
import Derived.Test.YtffaodopiifbkaaGreatDoorCEG
import Derived.Test.YtffaodopiifbkaaGreatDoorCED
set_option linter.all false
namespace Go.Proofs.YtffaodopiifbkaaGreatDoor
open Go.Abs LQ
set_option maxRecDepth 100000
set_option maxHeartbeats 4000000
noncomputable section
def e2y (g:Int→GV):Sp where
 ι:=Int
 A c:=[.c (.i .u8 c)]
 B _:=[]
 R c:=.ret (g c)
 B' _:=[]
 inj i j vs bs h k _ _:=by
  obtain ⟨_,_,h1,k1,h,k⟩:=h.two k
  rw [M7 h1 k1];exact ⟨rfl,rfl⟩
theorem d87:l5 94 (e2y fun c=>.c (.b (D0 c))):=v7 (fun fn h=>e6g h) [] .nil fun U fn hfn (c:Int) vs bs hv hb=>by
 have hv:l9 [.c (.i .u8 c)] vs:=hv
 have hb:RBs [] bs:=hb
 show j3 U _ fun v bs'=>m8 (.ret (.c (.b (D0 c)))) v∧RBs [] bs'
 unfold r94
 (refine Zq ?_;with_reducible repeat' first|intro _|apply And.intro)
 ·exact l6 ⟨.ret _ _ (M6 (by simp [D0, *])),.nil⟩
 ·exact l6 ⟨.ret _ _ (M6 (by simp [D0, *])),.nil⟩
 ·exact l6 ⟨.ret _ _ (M6 (by simp [D0, *])),.nil⟩
 ·refine N5 fun e=>?_
  subst e
  exact ⟨.ret _ _ (Q1 (by rw [a0r];simp [D0, *])),.nil⟩
theorem b0j:l5 98 (e2y fun c=>.c (.b (y8 c))):=v7 (fun fn h=>e47 h) [] .nil fun U fn hfn (c:Int) vs bs hv hb=>by
 have hv:l9 [.c (.i .u8 c)] vs:=hv
 have hb:RBs [] bs:=hb
 show j3 U _ fun v bs'=>m8 (.ret (.c (.b (y8 c)))) v∧RBs [] bs'
 unfold r98
 (refine Zq ?_;with_reducible repeat' first|intro _|apply And.intro)
 all_goals first
  | exact l6 ⟨.ret _ _ (M6 (by unfold y8;apply decide_eq_false;rintro ⟨_,_,_,_,_,_,_,_,_⟩;omega)),.nil⟩
  | (refine N5 fun e=>?_
     subst e
     exact ⟨.ret _ _ (Q1 (by rw [a4k,a0r];unfold y8;rw [Bool.eq_iff_iff];simp;omega)),.nil⟩)
abbrev StI:={ p:i7 × Nat // p.2≤p.1.length∧p.1.length < 90000 }
def e4v (R:i7→Nat→y4):Sp where
 ι:=StI
 A p:=[.c (.s p.1.1),.c (.i .i64 (p.1.2:Int))]
 B _:=[]
 R p:=R p.1.1 p.1.2
 B' _:=[]
 inj i j vs bs h k _ _:=by
  obtain ⟨_,_,h1,k1,h,k⟩:=h.two k
  obtain ⟨_,_,h2,k2,h,k⟩:=h.two k
  have e2:=M7 h2 k2
  rw [H3 h1 k1,show i.1.2=j.1.2 by omega];exact ⟨rfl,rfl⟩
def e7p:Sp where
 ι:={ p:(i7 × Nat) × Int × Int // p.1.2≤p.1.1.length∧p.1.1.length < 90000 }
 A p:=[.c (.s p.1.1.1),.c (.i .i64 (p.1.1.2:Int)),.c (.i .u8 p.1.2.1),.c (.i .u8 p.1.2.2)]
 B _:=[]
 R p:=.ret (.c (.b (has p.1.1.1 p.1.1.2 p.1.2.1 p.1.2.2)))
 B' _:=[]
 inj i j vs bs h k _ _:=by
  obtain ⟨_,_,h1,k1,h,k⟩:=h.two k
  obtain ⟨_,_,h2,k2,h,k⟩:=h.two k
  obtain ⟨_,_,h3,k3,h,k⟩:=h.two k
  obtain ⟨_,_,h4,k4,h,k⟩:=h.two k
  have e2:=M7 h2 k2
  rw [H3 h1 k1,show i.1.1.2=j.1.1.2 by omega,M7 h3 k3,M7 h4 k4];exact ⟨rfl,rfl⟩
theorem d7w:l5 95 e7p:=v7 (fun fn h=>e3h h) [] .nil fun U fn hfn ⟨((s,i),a,b),h1,h2⟩ vs bs hv hb=>by
 have hv:l9 [.c (.s s),.c (.i .i64 (i:Int)),.c (.i .u8 a),.c (.i .u8 b)] vs:=hv
 have hb:RBs [] bs:=hb
 have h1:i≤s.length:=h1
 have h2:s.length < 90000:=h2
 show j3 U _ fun v bs'=>m8 (.ret (.c (.b (has s i a b)))) v∧RBs [] bs'
 have hbt:((s.getD i 0).toNat:Int)=bt s i:=rfl
 have hbt1:((s.getD (i+1) 0).toNat:Int)=bt s (i+1):=rfl
 have e1:((i:Int)+1).toNat=i+1:=by omega
 unfold r95
 (refine Zq ?_;with_reducible repeat' first|intro _|apply And.intro)
 all_goals first
  | exact l6 ⟨.ret _ _ (M6 (by unfold has;apply decide_eq_false;omega)),.nil⟩
  | (refine N5 fun e=>?_
     subst e
     exact ⟨.ret _ _ (Q1 (by rw [a0r];unfold has;rw [Bool.eq_iff_iff];simp only [decide_eq_true_eq];omega)),.nil⟩)
def a5n (s:i7) (i:Nat):y4:=match LQ.skip s i with
 | some j=>.ret (.t [.c (.i .i64 (j:Int)),.c (.b true)])
 | none=>.ret (.t [.c (.i .i64 (s.length:Int)),.c (.b false)])
theorem c9h:l5 99 (e4v fun s i=>.ret (.c (.i .i64 (l7 s i:Int)))):=v7 (fun fn h=>e6p h) [(98,_)] (.cons b0j .nil) fun U fn hfn ⟨(s,i),h1,h2⟩ vs bs hv hb=>by
 have hc:=hfn 98 _ rfl
 have hv:l9 [.c (.s s),.c (.i .i64 (i:Int))] vs:=hv
 have hb:RBs [] bs:=hb
 have h1:i≤s.length:=h1
 have h2:s.length < 90000:=h2
 show j3 U _ fun v bs'=>m8 (.ret (.c (.i .i64 (l7 s i:Int)))) v∧RBs [] bs'
 unfold r99
 (refine Zq ?_;with_reducible repeat' first|intro _|apply And.intro)
 refine F8 (fun (j:Nat) vs bs=>vs=[.str s.length (n6 s),.int .i64 j]∧bs=[]∧i≤j∧j≤s.length∧l7 s j=l7 s i) (fun j=>s.length - j) i ⟨rfl,rfl,Nat.le_refl _,h1,rfl⟩ (by simp only [B8];omega) ?_
 rintro self j vs bs ⟨rfl,rfl,hij,hj,he⟩ ih
 (refine Zy ?_;with_reducible repeat' first|intro _|apply And.intro)
 refine H6 (fun vs bs=>∃ (b:Bool) (v:V),vs=[.str s.length (n6 s),.int .i64 j,v]∧bs=[]∧RV (.c (.b b)) v∧(b=true↔(j < s.length∧y8 (bt s j)=true))) ?_ ?_
 ·rintro _ _ ⟨b,v,rfl,rfl,hbv,hbe⟩
  (refine Zq ?_;with_reducible repeat' first|intro _|apply And.intro)
  ·have hh:=hbe.1 ‹_›
   exact ih (j+1) _ _ ⟨rfl,rfl,by omega,by omega,by rw [← c87 hh.1 hh.2];exact he⟩ (by omega)
  ·have hh:¬(j < s.length∧y8 (bt s j)=true):=fun h=>‹¬b=true› (hbe.2 h)
   have e:l7 s j=j:=by
    rw [l7]
    split
    ·rename_i hlt
     rw [if_neg (fun h=>hh ⟨hlt,h⟩)]
    ·rfl
   rw [← he,e]
   exact l6 ⟨.ret _ _ (.i _ _),.nil⟩
 ·intro c hcc
  have hbt:((s.getD j 0).toNat:Int)=bt s j:=rfl
  (refine Zq ?_;with_reducible repeat' first|intro _|apply And.intro)
  ·refine j4 hc (bt s j) (r:=.c (.b (y8 (bt s j)))) rfl (by (exact j9)) .nil fun _ _ hv1 _=>?_
   (refine Zq ?_;with_reducible repeat' first|intro _|apply And.intro)
   exact hcc _ _ ⟨y8 (bt s j),_,rfl,rfl,.b _,⟨fun h=>⟨by omega,h⟩,fun h=>h.2⟩⟩
  ·exact hcc _ _ ⟨false,_,rfl,rfl,.kn _,by simp;omega⟩
theorem e1l {s:i7} {j:Nat} (h:j < s.length) (h10:bt s j ≠ 10):C3 s (j+1)=C3 s j:=by
 conv=>rhs;rw [C3,if_pos h,if_neg h10]
theorem e1h {s:i7} {k d:Nat} (hd:d ≠ 0) (hk:k < s.length) (h1:has s k 35 124=true):z7 s (k+2) (d+1)=z7 s k d:=by
 conv=>rhs;rw [z7,if_neg hd,if_pos hk,if_pos h1]
theorem e0t {s:i7} {k d:Nat} (hd:d ≠ 0) (hk:k < s.length) (h1:¬has s k 35 124=true) (h2:has s k 124 35=true):z7 s (k+2) (d - 1)=z7 s k d:=by
 conv=>rhs;rw [z7,if_neg hd,if_pos hk,if_neg h1,if_pos h2]
theorem e1c {s:i7} {k d:Nat} (hd:d ≠ 0) (hk:k < s.length) (h1:¬has s k 35 124=true) (h2:¬has s k 124 35=true):z7 s (k+1) d=z7 s k d:=by
 conv=>rhs;rw [z7,if_neg hd,if_pos hk,if_neg h1,if_neg h2]
theorem e6l:l5 56 (e4v a5n):=v7 (fun fn h=>e2n h) [(94,_),(95,_)] (.cons d87 (.cons d7w .nil)) fun U fn hfn ⟨(s,i),h1,h2⟩ vs bs hv hb=>by
 have hbl:=hfn 94 _ rfl
 have hh:=hfn 95 _ rfl
 have hv:l9 [.c (.s s),.c (.i .i64 (i:Int))] vs:=hv
 have hb:RBs [] bs:=hb
 have h1:i≤s.length:=h1
 have h2:s.length < 90000:=h2
 show j3 U _ fun v bs'=>m8 (a5n s i) v∧RBs [] bs'
 unfold r56
 (refine Zq ?_;with_reducible repeat' first|intro _|apply And.intro)
 refine F8 (fun (j:Nat) vs bs=>vs=[.str s.length (n6 s),.int .i64 j]∧bs=[]∧j≤s.length∧LQ.skip s j=LQ.skip s i) (fun j=>s.length - j) i ⟨rfl,rfl,h1,rfl⟩ (by simp only [B8];omega) ?_
 rintro self j vs bs ⟨rfl,rfl,hj,he⟩ ih
 have stop:LQ.skip s j=some j→j3 U (some (.ret (.tuple [.int .i64 j,.known true]),[])) fun v bs'=>m8 (a5n s i) v∧RBs [] bs':=fun h=>by
  have ho:LQ.skip s i=some j:=by rw [← he,h]
  have e1:a5n s i=.ret (.t [.c (.i .i64 (j:Int)),.c (.b true)]):=by unfold a5n;rw [ho]
  rw [e1]
  exact l6 ⟨.ret _ _ (.t _ _ (.cons _ _ _ _ (.i _ _) (.cons _ _ _ _ (.kn _) .nil))),.nil⟩
 have hbt:((s.getD j 0).toNat:Int)=bt s j:=rfl
 (refine Zq ?_;with_reducible repeat' first|intro _|apply And.intro)
 ·have hlt:j < s.length:=by omega
  refine j4 hbl (bt s j) (r:=.c (.b (D0 (bt s j)))) rfl (by (exact j9)) .nil fun _ _ _ _=>?_
  (refine Zq ?_;with_reducible repeat' first|intro _|apply And.intro)
  ·have hb1:D0 (bt s j)=true:=‹_›
   exact ih (j+1) _ _ ⟨rfl,rfl,by omega,by rw [← a4h hlt hb1];exact he⟩ (by omega)
  ·have hb1:D0 (bt s j)=false:=by simpa using ‹¬D0 (bt s j)=true›
   have h59:bt s j=59:=‹_›
   have hl2:=a4j s j hlt (by omega)
   have hle:=a1q s j hj
   refine F8 (fun (k:Nat) vs bs=>vs=[.str s.length (n6 s),.int .i64 k]∧bs=[]∧j≤k∧k≤s.length∧C3 s k=C3 s j) (fun k=>s.length - k) j ⟨rfl,rfl,by omega,hj,rfl⟩ (by simp only [B8];omega) ?_
   rintro self2 k vs bs ⟨rfl,rfl,hjk,hk,hek⟩ ih2
   (refine Zy ?_;with_reducible repeat' first|intro _|apply And.intro)
   refine H6 (fun vs bs=>∃ (b:Bool) (v:V),vs=[.str s.length (n6 s),.int .i64 k,v]∧bs=[]∧RV (.c (.b b)) v∧(b=true↔(k < s.length∧bt s k ≠ 10))) ?_ ?_
   ·rintro _ _ ⟨b,v,rfl,rfl,hbv,hbe⟩
    (refine Zq ?_;with_reducible repeat' first|intro _|apply And.intro)
    ·have h9:=hbe.1 ‹_›
     exact ih2 (k+1) _ _ ⟨rfl,rfl,by omega,by omega,by rw [e1l h9.1 h9.2];exact hek⟩ (by omega)
    ·have h9:¬(k < s.length∧bt s k ≠ 10):=fun h=>‹¬b=true› (hbe.2 h)
     have ek:k=C3 s j:=by
      rw [← hek,C3]
      split
      ·rename_i hlt
       rw [if_pos (Decidable.byContradiction fun h=>h9 ⟨hlt,h⟩)]
      ·rfl
     subst ek
     exact ih (C3 s j) _ _ ⟨rfl,rfl,by omega,by rw [← a3h hlt hb1 h59];exact he⟩ (by omega)
   ·intro c hcc
    have hbt2:((s.getD k 0).toNat:Int)=bt s k:=rfl
    (refine Zq ?_;with_reducible repeat' first|intro _|apply And.intro)
    ·refine fun e=>?_
     subst e
     exact hcc _ _ ⟨!decide (bt s k=10),_,rfl,rfl,Q1 (by rw [a4k,a0r];rfl),by simp;omega⟩ rfl
    ·exact hcc _ _ ⟨false,_,rfl,rfl,.kn _,by simp;omega⟩
  ·have hb1:D0 (bt s j)=false:=by simpa using ‹¬D0 (bt s j)=true›
   have h59:¬bt s j=59:=‹_›
   refine j4 hh ⟨((s,j),35,124),hj,h2⟩ (r:=.c (.b (has s j 35 124))) rfl (by (exact j9)) .nil fun _ _ _ _=>?_
   (refine Zq ?_;with_reducible repeat' first|intro _|apply And.intro)
   ·have h35:has s j 35 124=true:=‹_›
    have hlt2:=K5 h35
    refine F8 (fun (p:Nat × Nat) vs bs=>vs=[.str s.length (n6 s),.int .i64 (p.1:Int),.int .i64 (p.2:Int)]∧bs=[]∧j < p.1∧p.1≤s.length∧p.2≤p.1∧z7 s p.1 p.2=z7 s (j+2) 1) (fun p=>s.length - p.1) (j+2,1) ⟨by simp,rfl,by omega,by omega,by omega,rfl⟩ (by simp only [B8];omega) ?_
    rintro self2 ⟨k,d⟩ vs bs ⟨rfl,rfl,hjk,hk,hd,hek⟩ ih2
    simp only [] at hjk hk hd hek
    have hbt2:((s.getD k 0).toNat:Int)=bt s k:=rfl
    (refine Zq ?_;with_reducible repeat' first|intro _|apply And.intro)
    ·have hd0:¬d=0:=by omega
     have hkl:s.length≤k:=by omega
     have e0:z7 s (j+2) 1=none:=by rw [← hek,z7,if_neg hd0,if_neg (by omega)]
     have ho:LQ.skip s i=none:=by rw [← he,b0o hlt hb1 h59 h35 e0]
     have e1:a5n s i=.ret (.t [.c (.i .i64 (s.length:Int)),.c (.b false)]):=by unfold a5n;rw [ho]
     rw [e1,show s.length=k by omega]
     exact l6 ⟨.ret _ _ (.t _ _ (.cons _ _ _ _ (.i _ _) (.cons _ _ _ _ (.kn _) .nil))),.nil⟩
    ·have hd0:d ≠ 0:=by omega
     have hkl:k < s.length:=by omega
     refine j4 hh ⟨((s,k),35,124),hk,h2⟩ (r:=.c (.b (has s k 35 124))) rfl (by (exact j9)) .nil fun _ _ _ _=>?_
     (refine Zq ?_;with_reducible repeat' first|intro _|apply And.intro)
     ·have q1:has s k 35 124=true:=‹_›
      have q2:=K5 q1
      exact ih2 (k+2,d+1) _ _ ⟨by simp,rfl,by omega,by omega,by omega,by rw [e1h hd0 hkl q1];exact hek⟩ (by simp only [];omega)
     ·refine j4 hh ⟨((s,k),124,35),hk,h2⟩ (r:=.c (.b (has s k 124 35))) rfl (by (exact j9)) .nil fun _ _ _ _=>?_
      (refine Zq ?_;with_reducible repeat' first|intro _|apply And.intro)
      ·have q1:has s k 124 35=true:=‹_›
       have q2:=K5 q1
       exact ih2 (k+2,d - 1) _ _ ⟨by simp;omega,rfl,by omega,by omega,by omega,by rw [e0t hd0 hkl ‹_› q1];exact hek⟩ (by simp only [];omega)
      ·exact ih2 (k+1,d) _ _ ⟨by simp,rfl,by omega,by omega,by omega,by rw [e1c hd0 hkl ‹_› ‹_›];exact hek⟩ (by simp only [];omega)
    ·have hd0:d=0:=by omega
     subst hd0
     have e0:z7 s (j+2) 1=some k:=by rw [← hek,z7,if_pos rfl]
     exact ih k _ _ ⟨rfl,rfl,hk,by rw [← a8b hlt hb1 h59 h35 e0];exact he⟩ (by omega)
   ·exact stop (a6h hlt hb1 h59 (by simpa using ‹¬has s j 35 124=true›))
 ·have hlt:¬j < s.length:=by omega
  exact stop (by rw [LQ.skip,if_neg hlt])
end
end Go.Proofs.YtffaodopiifbkaaGreatDoor
namespace Go.Proofs.YtffaodopiifbkaaGreatDoor
open Go.Abs LQ
set_option maxRecDepth 100000
set_option maxHeartbeats 8000000
noncomputable section
theorem b5v:l5 53 { ι:=Int × Int,A:=fun p=>[.c (.i .i64 p.1),.c (.i .i64 p.2)],B:=fun _=>[],R:=fun p=>.ret (D1 p.1 p.2),B':=fun _=>[],inj:=fun i j vs bs h k _ _=>(by
  obtain ⟨_,_,h1,k1,h,k⟩:=h.two k
  obtain ⟨_,_,h2,k2,h,k⟩:=h.two k
  rw [M7 h1 k1,M7 h2 k2];exact ⟨rfl,rfl⟩) }:=v7 (fun fn h=>e46 h) [] .nil fun U fn hfn ⟨e,p⟩ vs bs hv hb=>by
 have hv:l9 [.c (.i .i64 e),.c (.i .i64 p)] vs:=hv
 have hb:RBs [] bs:=hb
 show j3 U _ fun v bs'=>m8 (.ret (D1 e p)) v∧RBs [] bs'
 unfold r53
 (refine Zq ?_;with_reducible repeat' first|intro _|apply And.intro)
 exact l6 ⟨.ret _ _ (a0b e p),.nil⟩
def a0p (s:i7) (c:Int) (i:Nat):Nat :=
 if i < s.length then
  if bt s i=c then i+1
  else if bt s i ≠ 92 then a0p s c (i+1)
  else if i+1 < s.length then
   if bt s (i+1) ≠ c∧bt s (i+1) ≠ 92 then i
   else a0p s c (i+2)
  else i
 else i
termination_by s.length - i
theorem e1r {s:i7} {c:Int}:∀ {i:Nat} {acc l:List Int} {j:Nat},encl s c i acc=.ok (l,j)→a0p s c i=j:=by
 intro i
 generalize hn:s.length - i=n
 induction n using Nat.strongRecOn generalizing i with
 | _ n ih =>
  intro acc l j h
  rw [encl] at h
  rw [a0p]
  split at h
  ·rename_i h1
   rw [if_pos h1]
   split at h
   ·rename_i h2
    rw [if_pos h2]
    injection h with h
    injection h with _ h
   ·rename_i h2
    rw [if_neg h2]
    split at h
    ·rename_i h3
     rw [if_pos h3]
     exact ih _ (by omega) rfl h
    ·rename_i h3
     rw [if_neg h3]
     split at h
     ·rename_i h4
      rw [if_pos h4]
      split at h
      ·cases h
      ·rename_i h5
       rw [if_neg h5]
       exact ih _ (by omega) rfl h
     ·cases h
  ·cases h
def N0 (s:i7) (c:Int) (i:Nat) (acc:List Int):y4:=match encl s c i acc with
 | .ok (l,_)=>.ret (.t [.c (.s (F1 l)),.c (.i .i64 (a0p s c i:Int)),D1 0 0])
 | .error (e,p)=>.ret (.t [.c (.s []),.c (.i .i64 (a0p s c i:Int)),D1 e p])
def e7s:Sp where
 ι:={ p:(i7 × Nat) × Int // (p.1.2≤p.1.1.length∧p.1.1.length < 90000)∧p.2 ≠ 92 }
 A p:=[.c (.s p.1.1.1),.c (.i .i64 (p.1.1.2:Int)),.c (.i .u8 p.1.2)]
 B _:=[]
 R p:=N0 p.1.1.1 p.1.2 p.1.1.2 []
 B' _:=[]
 inj i j vs bs h k _ _:=by
  obtain ⟨_,_,h1,k1,h,k⟩:=h.two k
  obtain ⟨_,_,h2,k2,h,k⟩:=h.two k
  obtain ⟨_,_,h3,k3,h,k⟩:=h.two k
  have e2:=M7 h2 k2
  rw [H3 h1 k1,show i.1.1.2=j.1.1.2 by omega,M7 h3 k3];exact ⟨rfl,rfl⟩
theorem d50 {s:i7} {c:Int} {j:Nat} {acc:List Int} (h:¬j < s.length):N0 s c j acc=.ret (.t [.c (.s []),.c (.i .i64 (j:Int)),D1 11 s.length]):=by
 unfold N0;rw [encl,if_neg h,a0p,if_neg h]
theorem d6f {s:i7} {c:Int} {j:Nat} {acc:List Int} (h:j < s.length) (h1:bt s j=c):N0 s c j acc=.ret (.t [.c (.s (F1 acc)),.c (.i .i64 ((j+1:Nat):Int)),D1 0 0]):=by
 unfold N0;rw [encl,if_pos h,if_pos h1,a0p,if_pos h,if_pos h1]
theorem d5h {s:i7} {c:Int} {j:Nat} {acc:List Int} (h:j < s.length) (h1:¬bt s j=c) (h2:bt s j ≠ 92):N0 s c (j+1) (acc ++ [bt s j])=N0 s c j acc:=by
 unfold N0
 conv=>rhs;rw [encl,if_pos h,if_neg h1,if_pos h2,a0p,if_pos h,if_neg h1,if_pos h2]
theorem d5q {s:i7} {c:Int} {j:Nat} {acc:List Int} (h:j < s.length) (h1:¬bt s j=c) (h2:¬bt s j ≠ 92) (h3:¬j+1 < s.length):N0 s c j acc=.ret (.t [.c (.s []),.c (.i .i64 (j:Int)),D1 11 s.length]):=by
 unfold N0;rw [encl,if_pos h,if_neg h1,if_neg h2,if_neg h3,a0p,if_pos h,if_neg h1,if_neg h2,if_neg h3]
theorem d2o {s:i7} {c:Int} {j:Nat} {acc:List Int} (h:j < s.length) (h1:¬bt s j=c) (h2:¬bt s j ≠ 92) (h3:j+1 < s.length) (h4:bt s (j+1) ≠ c∧bt s (j+1) ≠ 92):N0 s c j acc=.ret (.t [.c (.s []),.c (.i .i64 (j:Int)),D1 12 j]):=by
 unfold N0;rw [encl,if_pos h,if_neg h1,if_neg h2,if_pos h3,if_pos h4,a0p,if_pos h,if_neg h1,if_neg h2,if_pos h3,if_pos h4]
theorem d2g {s:i7} {c:Int} {j:Nat} {acc:List Int} (h:j < s.length) (h1:¬bt s j=c) (h2:¬bt s j ≠ 92) (h3:j+1 < s.length) (h4:¬(bt s (j+1) ≠ c∧bt s (j+1) ≠ 92)):N0 s c (j+2) (acc ++ [bt s (j+1)])=N0 s c j acc:=by
 unfold N0
 conv=>rhs;rw [encl,if_pos h,if_neg h1,if_neg h2,if_pos h3,if_neg h4,a0p,if_pos h,if_neg h1,if_neg h2,if_pos h3,if_neg h4]
theorem c5g (acc:i7) (s:i7) (j:Nat):acc.map bg ++ [[.i .u8 (bt s j)]]=(acc ++ [s.getD j 0]).map bg:=a9a rfl
theorem b6d (acc:i7) (s:i7) (j:Nat):a5s (acc ++ [s.getD j 0])=a5s acc ++ [bt s j]:=by simp [a5s,bt]
theorem d60:l5 96 e7s:=v7 (fun fn h=>e4w h) [(53,_)] (.cons b5v .nil) fun U fn hfn ⟨((s,i),c),⟨h1,h2⟩,hc⟩ vs bs hv hb=>by
 have hbd:=hfn 53 _ rfl
 have hv:l9 [.c (.s s),.c (.i .i64 (i:Int)),.c (.i .u8 c)] vs:=hv
 have hb:RBs [] bs:=hb
 have h1:i≤s.length:=h1
 have h2:s.length < 90000:=h2
 have hc:c ≠ 92:=hc
 show j3 U _ fun v bs'=>m8 (N0 s c i []) v∧RBs [] bs'
 unfold r96
 (refine Zq ?_;with_reducible repeat' first|intro _|apply And.intro)
 refine F8 (fun (j:Nat) vs bs=>∃ (v:V) (b:Bx) (acc:i7),vs=[.str s.length (n6 s),.int .i64 j,.int .u8 c,.ptr 0 0,v]∧bs=[b,.tok acc.length 1]∧Z4 1 1 (acc.map bg) v∧RB [.i .i64 0,.i .i64 0] b∧j≤s.length∧acc.length≤j∧N0 s c j (a5s acc)=N0 s c i []) (fun j=>s.length - j) i ⟨_,_,[],rfl,rfl,.b rfl,.cells _ _ (by (exact j9)),h1,by simp,rfl⟩ (by simp only [B8];omega) ?_
 rintro self j vs bs ⟨v,b,acc,rfl,rfl,ht,hbx,hj,hal,he⟩ ih
 have hbt:((s.getD j 0).toNat:Int)=bt s j:=rfl
 have hbt1:((s.getD (j+1) 0).toNat:Int)=bt s (j+1):=rfl
 have e1:((j:Int)+1).toNat=j+1:=by omega
 have bad:∀ {e p:Int} {x:Q},N0 s c j (a5s acc)=.ret (.t [.c (.s []),.c (.i .i64 (j:Int)),D1 e p])→B6 [.i .i64 e,.i .i64 p] x 0→j3 U (some (.ret (.tuple [.str 0 0,.int .i64 j,.a x 2]),[])) fun v bs'=>m8 (N0 s c i []) v∧RBs [] bs':=fun {e p x} h hx=>by
  rw [← he,h]
  exact l6 ⟨.ret _ _ (.t _ _ (.cons _ _ _ _ (.s _ _ _ rfl rfl) (.cons _ _ _ _ (.i _ _) (.cons _ _ _ _ (.a _ _ _ rfl hx) .nil)))),.nil⟩
 (refine Zy ?_;with_reducible repeat' first|intro _|apply And.intro)
 ·have hlt:¬j < s.length:=by omega
  refine j4 hbd (11,(s.length:Int)) (r:=D1 11 s.length) rfl (by (exact j9)) .nil fun _ _ hv5 _=>?_
  have hv5:RV (.a [.i .i64 11,.i .i64 (s.length:Int)]) _:=hv5
  (refine Zq ?_;with_reducible repeat' first|intro _|apply And.intro)
  exact bad (d50 hlt) (by assumption)
 ·have hlt:j < s.length:=by omega
  have hbc:bt s j=c:=‹_›
  refine sBT (ys:=acc) (by assumption) rfl ?_
  (refine Zq ?_;with_reducible repeat' first|intro _|apply And.intro)
  rw [← he,d6f hlt hbc,b8q]
  refine l6 ⟨.ret _ _ (.t _ _ (.cons _ _ _ _ (.s _ _ _ rfl rfl) (.cons _ _ _ _ ?_ (.cons _ _ _ _ (a0b 0 0) .nil)))),.nil⟩
  exact (by rw [Int.natCast_add];exact .i _ _)
 ·have hlt:j < s.length:=by omega
  have hbc:¬bt s j=c:=‹_›
  have h92:¬bt s j ≠ 92:=fun h=>h ‹_›
  refine j4 hbd (11,(s.length:Int)) (r:=D1 11 s.length) rfl (by (exact j9)) .nil fun _ _ hv5 _=>?_
  have hv5:RV (.a [.i .i64 11,.i .i64 (s.length:Int)]) _:=hv5
  (refine Zq ?_;with_reducible repeat' first|intro _|apply And.intro)
  exact bad (d5q hlt hbc h92 (by omega)) (by assumption)
 ·have hlt:j < s.length:=by omega
  have hbc:¬bt s j=c:=‹_›
  have h92:¬bt s j ≠ 92:=fun h=>h ‹_›
  have hj1:j+1 < s.length:=by omega
  rename_i t0 ht0 x0 hx0 _ _ _ _
  refine H6 (fun vs bs=>∃ (b:Bool) (v:V),vs=[.str s.length (n6 s),.int .i64 j,.int .u8 c,.ptr 0 0,.slice t0 1 0 acc.length (.tok 1),v]∧bs=[.opa x0 2,.tok acc.length 1]∧RV (.c (.b b)) v∧(b=true↔(bt s (j+1) ≠ c∧bt s (j+1) ≠ 92))) ?_ ?_
  ·rintro _ _ ⟨b,v,rfl,rfl,hbv,hbe⟩
   (refine Zy ?_;with_reducible repeat' first|intro _|apply And.intro)
   ·refine j4 hbd (12,(j:Int)) (r:=D1 12 j) rfl (by (exact j9)) .nil fun _ _ hv5 _=>?_
    have hv5:RV (.a [.i .i64 12,.i .i64 (j:Int)]) _:=hv5
    (refine Zq ?_;with_reducible repeat' first|intro _|apply And.intro)
    exact bad (d2o hlt hbc h92 hj1 (hbe.1 ‹_›)) (by assumption)
   ·have hn:¬(bt s (j+1) ≠ c∧bt s (j+1) ≠ 92):=fun h=>‹¬b=true› (hbe.2 h)
    refine Z5 (by assumption) (fun _=>I9 (by first | exact .i _ _ | exact .s _ _ _ rfl rfl | assumption)) (by rfl) (by simp) (by simp only [List.length_map];omega) fun _ _=>?_
    (refine Zq ?_;with_reducible repeat' first|intro _|apply And.intro)
    refine ih (j+2) _ _ ⟨_,_,acc ++ [s.getD (j+1) 0],?_,?_,.a _ (acc.length+1) (by simp) (by rw [← c5g];assumption),.opa _ _ 2 rfl (by assumption),by omega,by simp;omega,by rw [b6d,d2g hlt hbc h92 hj1 hn];exact he⟩ (by omega)
    ·rfl
    ·simp
  ·intro k hk
   (refine Zq ?_;with_reducible repeat' first|intro _|apply And.intro)
   ·refine hk _ _ ⟨false,_,rfl,rfl,.kn _,?_⟩
    have hh:bt s (j+1)=c:=‹_›
    simp [hh]
   ·have hh:¬bt s (j+1)=c:=‹_›
    refine fun e=>?_
    subst e
    exact hk _ _ ⟨!decide (bt s (j+1)=92),_,rfl,rfl,Q1 (by rw [a4k,a0r];rfl),by simp [hh]⟩ rfl
 ·have hlt:j < s.length:=by omega
  have hbc:¬bt s j=c:=‹_›
  have h92:bt s j ≠ 92:=‹_›
  refine Z5 (by assumption) (fun _=>I9 (by first | exact .i _ _ | exact .s _ _ _ rfl rfl | assumption)) (by rfl) (by simp) (by simp only [List.length_map];omega) fun _ _=>?_
  (refine Zq ?_;with_reducible repeat' first|intro _|apply And.intro)
  refine ih (j+1) _ _ ⟨_,_,acc ++ [s.getD j 0],?_,?_,.a _ (acc.length+1) (by simp) (by rw [← c5g];assumption),.opa _ _ 2 rfl (by assumption),by omega,by simp;omega,by rw [b6d,d5h hlt hbc h92];exact he⟩ (by omega)
  ·rfl
  ·simp
theorem e4k {a b:Bool} {v:V} (h:RV (.c (.b a)) v) (k:RV (.c (.b b)) v):a=b:=G.b.inj (h.c_inj k)
def C8 (t:B5) (bars:Bool):Int × Int:=if p9 t.text t.pkg bars=0 then (0,0) else (p9 t.text t.pkg bars,t.pos)
def e7y:Sp where
 ι:={ p:B5 × Bool // p.1.pkg.length < 90000 }
 A p:=[.a (x3 p.1.1),.c (.b p.1.2)]
 B _:=[]
 R p:=.ret (D1 (C8 p.1.1 p.1.2).1 (C8 p.1.1 p.1.2).2)
 B' _:=[]
 inj i j vs bs h k _ _:=by
  obtain ⟨_,_,h1,k1,h,k⟩:=h.two k
  obtain ⟨_,_,h2,k2,h,k⟩:=h.two k
  rw [a4r (h1.a_inj k1),e4k h2 k2];exact ⟨rfl,rfl⟩
theorem c5x:l5 97 e7y:=v7 (fun fn h=>e61 h) [(53,_),(90,_)] (.cons b5v (.cons b7y .nil)) fun U fn hfn ⟨(t,bars),hp⟩ vs bs hv hb=>by
 have hbd:=hfn 53 _ rfl
 have hvp:=hfn 90 _ rfl
 have hp:t.pkg.length < 90000:=hp
 have hv:l9 [.a [.i .i64 t.kind,.i .i64 (t.pos:Int),.s t.pkg,.s t.text,.s t.den],.c (.b bars)] vs:=hv
 have hb:RBs [] bs:=hb
 show j3 U _ fun v bs'=>m8 (.ret (D1 (C8 t bars).1 (C8 t bars).2)) v∧RBs [] bs'
 unfold r97
 have bad:∀ {e:Int} {x:Q},e ≠ 0→p9 t.text t.pkg bars=e→B6 [.i .i64 e,.i .i64 (t.pos:Int)] x 0→j3 U (some (.ret (.a x 2),[])) fun v bs'=>m8 (.ret (D1 (C8 t bars).1 (C8 t bars).2)) v∧RBs [] bs':=fun {e x} h0 he hx=>by
  unfold C8
  rw [he,if_neg h0]
  exact l6 ⟨.ret _ _ (.a _ _ _ rfl hx),.nil⟩
 have ok:p9 t.text t.pkg bars=0→j3 U (some (.ret (.agg [.int .i64 0,.int .i64 0]),[])) fun v bs'=>m8 (.ret (D1 (C8 t bars).1 (C8 t bars).2)) v∧RBs [] bs':=fun he=>by
  unfold C8
  rw [if_pos he]
  exact l6 ⟨.ret _ _ (a0b 0 0),.nil⟩
 (refine Zy ?_;with_reducible repeat' first|intro _|apply And.intro)
 ·refine j4 hbd (2,(t.pos:Int)) (r:=D1 2 t.pos) rfl (.cons _ _ _ _ (.i _ _) (.cons _ _ _ _ (.q _ _ (by assumption)) .nil)) .nil fun _ _ hv5 _=>?_
  have hv5:RV (.a [.i .i64 2,.i .i64 (t.pos:Int)]) _:=hv5
  (refine Zq ?_;with_reducible repeat' first|intro _|apply And.intro)
  exact bad (e:=2) (by decide) (by unfold p9;rw [if_pos (by omega)]) (by assumption)
 ·have hl:¬40 < t.text.length:=by omega
  refine H6 (fun vs bs=>∃ b:Bool,l9 [.p 0 0,.p 1 0,.c (.b b)] vs∧RBs [[.i .i64 t.kind,.i .i64 (t.pos:Int),.s t.pkg,.s t.text,.s t.den],[.i .i64 0,.i .i64 0]] bs∧(b=true↔((bars=true∧t.text.length=0)∨(t.pkg.length ≠ 0∧A4 t.pkg=false)))) ?_ ?_
  ·rintro vs' bs' ⟨b,hv',hb',hbe⟩
   (refine Zq ?_;with_reducible repeat' first|intro _|apply And.intro)
   ·refine j4 hbd (3,(t.pos:Int)) (r:=D1 3 t.pos) rfl (.cons _ _ _ _ (.i _ _) (.cons _ _ _ _ (.q _ _ (by assumption)) .nil)) .nil fun _ _ hv5 _=>?_
    have hv5:RV (.a [.i .i64 3,.i .i64 (t.pos:Int)]) _:=hv5
    (refine Zq ?_;with_reducible repeat' first|intro _|apply And.intro)
    exact bad (e:=3) (by decide) (by unfold p9;rw [if_neg hl,if_pos (hbe.1 ‹_›)]) (by assumption)
   ·exact ok (by unfold p9;rw [if_neg hl,if_neg fun h=>‹¬b=true› (hbe.2 h)])
  ·intro k hk
   have box:∀ {x:Q},B6 [.i .i64 t.kind,.i .i64 (t.pos:Int),.s t.pkg,.s t.text,.s t.den] x 0→RBs [[.i .i64 t.kind,.i .i64 (t.pos:Int),.s t.pkg,.s t.text,.s t.den],[.i .i64 0,.i .i64 0]] [Bx.opa x 5,Bx.cells [V.int .i64 0,V.int .i64 0]]:=fun hx=>.cons _ _ _ _ (.opa _ _ _ rfl hx) (.cons _ _ _ _ (.cells _ _ (by (exact j9))) .nil)
   (refine Zq ?_;with_reducible repeat' first|intro _|apply And.intro)
   ·have hbr:bars=true:=‹_›
    have e:t.text=[]:=‹_›
    exact hk _ _ ⟨true,by (exact j9),box (by assumption),by simp [hbr,e]⟩
   ·have hbr:bars=true:=‹_›
    have e:¬t.text=[]:=‹_›
    have e2:t.pkg=[]:=‹_›
    exact hk _ _ ⟨false,by (exact j9),box (by assumption),by simp [e,e2]⟩
   ·have hbr:bars=true:=‹_›
    have e:¬t.text=[]:=‹_›
    have e2:¬t.pkg=[]:=‹_›
    refine j4 hvp ⟨t.pkg,hp⟩ (r:=.c (.b (A4 t.pkg))) rfl (.cons _ _ _ _ (.q _ _ (by assumption)) .nil) .nil fun _ _ _ _=>?_
    (refine Zq ?_;with_reducible repeat' first|intro _|apply And.intro)
    refine fun e9=>?_
    subst e9
    exact hk _ _ ⟨!A4 t.pkg,.cons _ _ _ _ (.p _ _) (.cons _ _ _ _ (.p _ _) (.cons _ _ _ _ (Q1 (a4k _).symm) .nil)),box (by assumption),by simp [e,e2]⟩ rfl
   ·have hbr:¬bars=true:=‹_›
    have e2:t.pkg=[]:=‹_›
    exact hk _ _ ⟨false,by (exact j9),box (by assumption),by simp [hbr,e2]⟩
   ·have hbr:¬bars=true:=‹_›
    have e2:¬t.pkg=[]:=‹_›
    refine j4 hvp ⟨t.pkg,hp⟩ (r:=.c (.b (A4 t.pkg))) rfl (.cons _ _ _ _ (.q _ _ (by assumption)) .nil) .nil fun _ _ _ _=>?_
    (refine Zq ?_;with_reducible repeat' first|intro _|apply And.intro)
    refine fun e9=>?_
    subst e9
    exact hk _ _ ⟨!A4 t.pkg,.cons _ _ _ _ (.p _ _) (.cons _ _ _ _ (.p _ _) (.cons _ _ _ _ (Q1 (a4k _).symm) .nil)),box (by assumption),by simp [hbr,e2]⟩ rfl
end
end Go.Proofs.YtffaodopiifbkaaGreatDoor
namespace Go.Proofs.YtffaodopiifbkaaGreatDoor
open Go.Abs LQ
set_option maxRecDepth 100000
set_option maxHeartbeats 8000000
noncomputable section
theorem e9h {U:w7} {P:G3→List Bx→Prop} {s:List UInt8} {a b:Int} {K:Nat→Om} (h:0≤a∧a≤b∧b≤s.length) (k:j3 U (K (n6 ((s.take b.toNat).drop a.toNat))) P):j3 U (U.fN (U.sSub (n6 s) (U.iNat a) (b.toNat - a.toNat)) K) P:=fun e=>by
 have:=k e
 subst e
 rw [a3l]
 show ∃ v bs,K (sSub (n6 s) (iNat a) (b.toNat - a.toNat))=some (v,bs)∧P v bs
 rw [E7,b9c (show a.toNat≤b.toNat by omega) (by omega)]
 exact this
theorem e19 {s:i7} {j:Nat} (h:j < s.length) (h1:bt s j=48):C5 s (j+1)=C5 s j:=by
 conv=>rhs;rw [C5,if_pos h,if_pos h1]
theorem b3w (s:i7):j0 s=1↔(0 < s.length∧bt s 0=45):=by unfold j0;split <;> simp [*]
theorem c9v {s:i7} (h:¬j0 s=1):j0 s=0:=by have:=L6 s;omega
theorem d95:l5 102 (sp1 fun s=>.ret (.c (.s (plain s)))):=v7 (fun fn h=>d9k h) [] .nil fun U fn hfn ⟨s,hs⟩ vs bs hv hb=>by
 have hv:l9 [.c (.s s)] vs:=hv
 have hb:RBs [] bs:=hb
 have hs:s.length < 90000:=hs
 show j3 U _ fun v bs'=>m8 (.ret (.c (.s (plain s)))) v∧RBs [] bs'
 unfold d3u
 have hsl:=L6 s
 have e1:plain s=if C5 s (j0 s)=s.length then A5 else if j0 s=1 then [45] ++ s.drop (C5 s (j0 s)) else s.drop (C5 s (j0 s)):=by unfold plain;simp only [List.take_length]
 (refine Zy ?_;with_reducible repeat' first|intro _|apply And.intro)
 refine H6 (fun vs bs=>∃ (b:Bool) (v:V),vs=[.str s.length (n6 s),v]∧bs=[]∧RV (.c (.b b)) v∧(b=true↔j0 s=1)) ?_ ?_
 ·rintro _ _ ⟨b,v,rfl,rfl,hbv,hbe⟩
  (refine Zy ?_;with_reducible repeat' first|intro _|apply And.intro)
  refine H6 (fun vs bs=>vs=[.str s.length (n6 s),.bool b,.int .i64 (j0 s:Int)]∧bs=[]) ?_ ?_
  ·rintro _ _ ⟨rfl,rfl⟩
   (refine Zq ?_;with_reducible repeat' first|intro _|apply And.intro)
   refine F8 (fun (j:Nat) vs bs=>vs=[.str s.length (n6 s),.bool b,.int .i64 j]∧bs=[]∧j≤s.length∧C5 s j=C5 s (j0 s)) (fun j=>s.length - j) (j0 s) ⟨rfl,rfl,hsl.1,rfl⟩ (by simp only [B8];omega) ?_
   rintro self j vs bs ⟨rfl,rfl,hj,he⟩ ih
   (refine Zy ?_;with_reducible repeat' first|intro _|apply And.intro)
   refine H6 (fun vs bs=>∃ (c:Bool) (v:V),vs=[.str s.length (n6 s),.bool b,.int .i64 j,v]∧bs=[]∧RV (.c (.b c)) v∧(c=true↔(j < s.length∧bt s j=48))) ?_ ?_
   ·rintro _ _ ⟨c,v,rfl,rfl,hcv,hce⟩
    (refine Zq ?_;with_reducible repeat' first|intro _|apply And.intro)
    ·have hh:=hce.1 ‹_›
     exact ih (j+1) _ _ ⟨rfl,rfl,by omega,by rw [e19 hh.1 hh.2];exact he⟩ (by omega)
    all_goals
     have hh:¬(j < s.length∧bt s j=48):=fun h=>‹¬c=true› (hce.2 h)
     have hz:=c1u hh
     rw [hz] at he
     rw [← he] at e1
    ·rw [e1,if_pos (by omega)]
     exact l6 ⟨.ret _ _ (.s _ _ _ rfl rfl),.nil⟩
    ·rw [e1,if_neg (by omega),if_pos (hbe.1 ‹_›)]
     refine e73 (x:=[45]) (y:=s.drop j) rfl rfl rfl rfl (by simp only [List.length_cons,List.length_nil,List.length_drop];omega) ?_
     exact l6 ⟨.ret _ _ (.s _ _ _ rfl rfl),.nil⟩
    ·rw [e1,if_neg (by omega),if_neg (fun e=>‹¬b=true› (hbe.2 e))]
     exact l6 ⟨.ret _ _ (.s _ _ _ (by simp) (by simp)),.nil⟩
   ·intro c hcc
    have hbt:((s.getD j 0).toNat:Int)=bt s j:=rfl
    (refine Zq ?_;with_reducible repeat' first|intro _|apply And.intro)
    ·refine fun e=>?_
     subst e
     exact hcc _ _ ⟨decide (bt s j=48),_,rfl,rfl,Q1 (by rw [a0r];rfl),by simp;omega⟩ rfl
    ·exact hcc _ _ ⟨false,_,rfl,rfl,.kn _,by simp;omega⟩
  ·intro c hcc
   (refine Zq ?_;with_reducible repeat' first|intro _|apply And.intro)
   ·exact hcc _ _ ⟨by rw [hbe.1 ‹_›];rfl,rfl⟩
   ·exact hcc _ _ ⟨by rw [c9v (fun e=>‹¬b=true› (hbe.2 e))];rfl,rfl⟩
 ·intro c hcc
  have hbt:((s.getD 0 0).toNat:Int)=bt s 0:=rfl
  (refine Zq ?_;with_reducible repeat' first|intro _|apply And.intro)
  ·refine fun e=>?_
   subst e
   exact hcc _ _ ⟨decide (bt s 0=45),_,rfl,rfl,Q1 (by rw [a0r];rfl),by rw [b3w];simp;omega⟩ rfl
  ·exact hcc _ _ ⟨false,_,rfl,rfl,.kn _,by rw [b3w];simp;omega⟩
theorem e3e {s:i7} (h:m6 s (j0 s)=j0 s):l8 s=([],[],false):=by unfold l8;simp only [];rw [if_pos h];rfl
theorem e13 {s:i7} (h:¬m6 s (j0 s)=j0 s) (h1:m6 s (j0 s)=s.length):l8 s=(s,[49],true):=by unfold l8;simp only [];rw [if_neg h,if_pos h1];rfl
theorem e09 {s:i7} (h:¬m6 s (j0 s)=j0 s) (h1:¬m6 s (j0 s)=s.length) (h2:bt s (m6 s (j0 s)) ≠ 47∨m6 s (j0 s)+1=s.length):l8 s=([],[],false):=by unfold l8;simp only [];rw [if_neg h,if_neg h1,if_pos h2];rfl
theorem d4i {s:i7} (h:¬m6 s (j0 s)=j0 s) (h1:¬m6 s (j0 s)=s.length) (h2:¬(bt s (m6 s (j0 s)) ≠ 47∨m6 s (j0 s)+1=s.length)):l8 s=if m6 s (m6 s (j0 s)+1)=s.length then (s.take (m6 s (j0 s)),s.drop (m6 s (j0 s)+1),true) else ([],[],false):=by
 unfold l8
 simp only []
 rw [if_neg h,if_neg h1,if_neg h2,List.take_length]
 rfl
def d6m (p:i7 × i7 × Bool):y4:=.ret (.t [.c (.s p.1),.c (.s p.2.1),.c (.b p.2.2)])
theorem c9u:l5 101 (sp1 fun s=>d6m (l8 s)):=v7 (fun fn h=>e03 h) [] .nil fun U fn hfn ⟨s,hs⟩ vs bs hv hb=>by
 have hv:l9 [.c (.s s)] vs:=hv
 have hb:RBs [] bs:=hb
 have hs:s.length < 90000:=hs
 show j3 U _ fun v bs'=>m8 (d6m (l8 s)) v∧RBs [] bs'
 unfold d5n
 have hsl:=L6 s
 have no:l8 s=([],[],false)→j3 U (some (.ret (.tuple [.str 0 0,.str 0 0,.known false]),[])) fun v bs'=>m8 (d6m (l8 s)) v∧RBs [] bs':=fun h=>by
  rw [h]
  exact l6 ⟨.ret _ _ (by (exact j9)),.nil⟩
 (refine Zy ?_;with_reducible repeat' first|intro _|apply And.intro)
 refine H6 (fun vs bs=>vs=[.str s.length (n6 s),.int .i64 (j0 s:Int)]∧bs=[]) ?_ ?_
 ·rintro _ _ ⟨rfl,rfl⟩
  (refine Zy ?_;with_reducible repeat' first|intro _|apply And.intro)
  generalize hg:j0 s=g at *
  refine F8 (fun (j:Nat) vs bs=>vs=[.str s.length (n6 s),.int .i64 g,.int .i64 j]∧bs=[]∧g≤j∧j≤s.length∧m6 s j=m6 s g) (fun j=>s.length - j) g ⟨rfl,rfl,Nat.le_refl _,hsl.1,rfl⟩ (by simp only [B8];omega) ?_
  rintro self j vs bs ⟨rfl,rfl,hgj,hj,he⟩ ih
  (refine Zy ?_;with_reducible repeat' first|intro _|apply And.intro)
  refine H6 (fun vs bs=>∃ (c:Bool) (v:V),vs=[.str s.length (n6 s),.int .i64 g,.int .i64 j,v]∧bs=[]∧RV (.c (.b c)) v∧(c=true↔(j < s.length∧Q2 (bt s j)=true))) ?_ ?_
  ·rintro _ _ ⟨c,v,rfl,rfl,hcv,hce⟩
   have hbt:((s.getD j 0).toNat:Int)=bt s j:=rfl
   (refine Zy ?_;with_reducible repeat' first|intro _|apply And.intro)
   ·have hh:=hce.1 ‹_›
    exact ih (j+1) _ _ ⟨rfl,rfl,by omega,by omega,by rw [← he];conv=>rhs;rw [m6,if_pos hh.1,if_pos hh.2]⟩ (by omega)
   all_goals
    have hh:¬(j < s.length∧Q2 (bt s j)=true):=fun h=>‹¬c=true› (hce.2 h)
    have hz:m6 s j=j:=by
     rw [m6]
     split
     ·rw [if_neg (fun h=>hh ⟨‹_›,h⟩)]
     ·rfl
    rw [hz] at he
    have he':m6 s (j0 s)=j:=by rw [hg,← he]
   ·exact no (e3e (by rw [he',hg];omega))
   ·rw [e13 (by rw [he',hg];omega) (by rw [he'];omega)]
    exact l6 ⟨.ret _ _ (by (exact j9)),.nil⟩
   ·have q1:¬m6 s (j0 s)=j0 s:=by rw [he',hg];omega
    have q2:¬m6 s (j0 s)=s.length:=by rw [he'];omega
    refine H6 (fun vs bs=>∃ (c:Bool) (v:V),vs=[.str s.length (n6 s),.int .i64 j,v]∧bs=[]∧RV (.c (.b c)) v∧(c=true↔(bt s j ≠ 47∨j+1=s.length))) ?_ ?_
    ·rintro _ _ ⟨d,v,rfl,rfl,hdv,hde⟩
     (refine Zq ?_;with_reducible repeat' first|intro _|apply And.intro)
     ·exact no (e09 q1 q2 (by rw [he'];exact hde.1 ‹_›))
     ·have q3:¬(bt s (m6 s (j0 s)) ≠ 47∨m6 s (j0 s)+1=s.length):=by rw [he'];exact fun h=>‹¬d=true› (hde.2 h)
      have q4:=d4i q1 q2 q3
      rw [he'] at q4
      refine F8 (fun (k:Nat) vs bs=>vs=[.str s.length (n6 s),.int .i64 j,.int .i64 k]∧bs=[]∧j < k∧k≤s.length∧m6 s k=m6 s (j+1)) (fun k=>s.length - k) (j+1) ⟨rfl,rfl,by omega,by omega,rfl⟩ (by simp only [B8];omega) ?_
      rintro self2 k vs bs ⟨rfl,rfl,hjk,hk,hek⟩ ih2
      (refine Zy ?_;with_reducible repeat' first|intro _|apply And.intro)
      ·refine H6 (fun vs bs=>∃ (c:Bool) (v:V),vs=[.str s.length (n6 s),.int .i64 j,.int .i64 k,v]∧bs=[]∧RV (.c (.b c)) v∧(c=true↔¬Q2 (bt s k)=true)) ?_ ?_
       ·rintro _ _ ⟨d2,v,rfl,rfl,hdv2,hde2⟩
        (refine Zq ?_;with_reducible repeat' first|intro _|apply And.intro)
        ·refine no ?_
         have hk2:=hde2.1 ‹_›
         have:m6 s k=k:=by rw [m6,if_pos (by omega),if_neg hk2]
         rw [q4,if_neg (by omega)]
        ·have hk2:Q2 (bt s k)=true:=Decidable.byContradiction fun h=>‹¬d2=true› (hde2.2 h)
         exact ih2 (k+1) _ _ ⟨rfl,rfl,by omega,by omega,by rw [← hek];conv=>rhs;rw [m6,if_pos (show k < s.length by omega),if_pos hk2]⟩ (by omega)
       ·intro c hcc
        have hbt:((s.getD k 0).toNat:Int)=bt s k:=rfl
        (refine Zq ?_;with_reducible repeat' first|intro _|apply And.intro)
        ·exact hcc _ _ ⟨true,_,rfl,rfl,.kn _,by rw [a4z];simp;omega⟩
        ·refine fun e=>?_
         subst e
         exact hcc _ _ ⟨decide (57 < bt s k),_,rfl,rfl,Q1 (by rw [b4b];rfl),by rw [a4z];simp;omega⟩ rfl
      ·have:m6 s k=k:=by rw [m6,if_neg (by omega)]
       rw [q4,if_pos (by omega)]
       refine e9h (s:=s) (a:=0) (b:=(j:Int)) (by omega) ?_
       (refine Zq ?_;with_reducible repeat' first|intro _|apply And.intro)
       have ej:((j:Int)+1).toNat=j+1:=by omega
       rw [ej]
       exact l6 ⟨.ret _ _ (.t _ _ (.cons _ _ _ _ (.s _ _ _ (by simp;omega) rfl) (.cons _ _ _ _ (.s _ _ _ rfl rfl) (.cons _ _ _ _ (.kn _) .nil)))),.nil⟩
    ·intro c hcc
     (refine Zq ?_;with_reducible repeat' first|intro _|apply And.intro)
     ·refine fun e=>?_
      subst e
      exact hcc _ _ ⟨decide ((j:Int)+1=s.length),_,rfl,rfl,Q1 (by rw [a0r]),by simp;omega⟩ rfl
     ·exact hcc _ _ ⟨true,_,rfl,rfl,.kn _,by simp;omega⟩
  ·intro c hcc
   have hbt:((s.getD j 0).toNat:Int)=bt s j:=rfl
   (refine Zq ?_;with_reducible repeat' first|intro _|apply And.intro)
   ·refine fun e=>?_
    subst e
    exact hcc _ _ ⟨decide (bt s j≤57),_,rfl,rfl,Q1 (by rw [e28];rfl),by rw [a4z];simp;omega⟩ rfl
   ·exact hcc _ _ ⟨false,_,rfl,rfl,.kn _,by rw [a4z];simp;omega⟩
   ·exact hcc _ _ ⟨false,_,rfl,rfl,.kn _,by simp;omega⟩
 ·intro c hcc
  have hbt:((s.getD 0 0).toNat:Int)=bt s 0:=rfl
  have hsi:=b3w s
  have hsz:¬(0 < s.length∧bt s 0=45)→j0 s=0:=fun h=>c9v fun e=>h (hsi.1 e)
  (refine Zq ?_;with_reducible repeat' first|intro _|apply And.intro)
  ·have h45:bt s 0=45:=‹_›
   exact hcc _ _ ⟨by rw [hsi.2 ⟨by omega,h45⟩];rfl,rfl⟩
  ·have h45:¬bt s 0=45:=‹_›
   exact hcc _ _ ⟨by rw [hsz (fun h=>h45 h.2)];rfl,rfl⟩
  ·exact hcc _ _ ⟨by rw [hsz (by omega)];rfl,rfl⟩
end
end Go.Proofs.YtffaodopiifbkaaGreatDoor
