/- What is printed is read as the same object. No program in sight. -/
import Derived.Test.YtgipbdffgfbedaaGreatDoorCJ5
set_option linter.all false
namespace Go.Proofs.YtgipbdffgfbedaaGreatDoor
open Go.Abs LQ
noncomputable section
open Classical
theorem d6c {s:f6} {acc:List A8}:y7 s s.length acc=.ok (acc ++ [⟨0,s.length,[],[],[]⟩]):=by
 rw [a7m (Nat.le_refl _),c3h oM]
 simp only []
 rw [if_neg oM]
 rfl
def eT (w:f6):A8:=⟨0,w.length,[],[],[]⟩
theorem b9c {w:f6} {N:List NT} (h:Lex w N) (hl:w.length≤6000):∃ T:List A8,T.map nt=N∧E6 w=.ok (T ++ [eT w]):=by
 obtain ⟨T,h1,h2⟩:=h w 0 [] (by unfold At;simp) (.inl rfl)
 refine ⟨T,h1,?_⟩
 unfold E6
 rw [if_neg oM,h2,Nat.zero_add,d6c,List.nil_append];rfl
open Classical
def A9:O→Option (List O)
 | .co a d=>(A9 d).map (a :: ·)
 | .sy s=>if s=(x9,[110,105,108]) then some [] else none
 | _=>none
def J6 (o:O):Option O:=match A9 o with
 | some [q,x]=>if q=z8 then some x else none
 | _=>none
theorem d01 {o:O} (h:A9 o=some []):o=A7:=by
 cases o with
 | sy s=>simp only [A9] at h;split at h;· rename_i e;subst e;rfl
         ·cases h
 | co a d=>simp only [A9] at h;cases hd:A9 d with
  | none=>rw [hd] at h;cases h
  | some l=>rw [hd] at h;cases h
 | _=>cases h
theorem b4m {o a:O} {l:List O} (h:A9 o=some (a :: l)):∃ d,o=.co a d∧A9 d=some l:=by
 cases o with
 | co x d=>simp only [A9] at h;cases hd:A9 d with
  | none=>rw [hd] at h;cases h
  | some m=>rw [hd] at h;simp only [Option.map_some,Option.some.injEq,List.cons.injEq] at h;obtain ⟨rfl,rfl⟩:=h;exact ⟨d,rfl,hd⟩
 | sy s=>simp only [A9] at h;split at h <;> cases h
 | _=>cases h
open Classical
def cT (t:A8):Nat:=2 * t.text.length+t.pkg.length+t.den.length+20
def OkT (t:A8):Prop:=(t.kind=5→∃ (n:Int) (d:Nat),t.text=g7 n∧t.den=f7 d∧0 < d∧Nat.gcd n.natAbs d=1∧(f7 n.natAbs).length≤100∧(f7 d).length≤100)∧(t.kind=7→t.text.length≤200)∧(t.kind=6→t.pkg=[]∨p8 t.pkg=true)
theorem a2u {k:Int} {p:Nat} (h5:k ≠ 5) (h7:k ≠ 7):OkT ⟨k,p,q8,q8,q8⟩:=⟨fun h=>absurd h h5,fun h=>absurd h h7,fun _=>.inl rfl⟩
theorem b42 {p a b:f6} {i:Nat} (h:p=[]∨p8 p=true):OkT ⟨6,i,p,a,b⟩:=⟨fun h=>absurd h (show ¬(6:Int)=5 by decide),fun h=>absurd h (show ¬(6:Int)=7 by decide),fun _=>h⟩
theorem e29 {p a b:f6} {i:Nat} (h:a.length≤200):OkT ⟨7,i,p,a,b⟩:=⟨fun h=>absurd h (show ¬(7:Int)=5 by decide),fun _=>h,fun h=>absurd h (show ¬(7:Int)=6 by decide)⟩
theorem d9r {p:f6} {i:Nat} {n:Int} {d:Nat} (h:0 < d∧Nat.gcd n.natAbs d=1∧(f7 n.natAbs).length≤100∧(f7 d).length≤100):OkT ⟨5,i,p,g7 n,f7 d⟩:=⟨fun _=>⟨n,d,rfl,rfl,h⟩,fun h=>absurd h (show ¬(5:Int)=7 by decide),fun h=>absurd h (show ¬(5:Int)=6 by decide)⟩
theorem sh1:f7 1=R6:=by unfold f7;rw [if_neg dE,E1 dE,show 1 / 10=0 from rfl,u7];rfl
theorem sh0:g7 0=w9:=by unfold g7 f7;rfl
theorem c5s (s:f6) (e:Nat):∀ (k:Nat) (acc:List Nat),(t8 s e k acc).length=acc.length+(k - e)
 | 0,acc=>by simp [t8]
 | k+1,acc=>by
  rw [t8]
  split
  ·rw [c5s s e k];simp;omega
  ·omega
theorem c5q (s:f6):(i6 (f8 s).natAbs).length≤s.length:=by
 have h:=congrArg Prod.snd (b1c s)
 simp only [] at h
 rw [← h]
 unfold Y3
 split
 ·simp only [c5s,List.length_nil];omega
 ·simp
theorem b72 {m n:Nat} (h:m≤n):(i6 m).length≤(i6 n).length:=by
 by_cases h0:m=0
 ·subst h0;rw [u7];simp
 ·have h1:=b1d m h0
  have h2:=a1m (i6 n) (C4 n)
  rw [B4] at h2
  have h3:10 ^ ((i6 m).length - 1) < 10 ^ (i6 n).length:=oM
  have:=(Nat.pow_lt_pow_iff_right (by decide:1 < 10)).1 h3
  omega
theorem b5v (m:Nat):(f7 m).length≤max 1 (i6 m).length:=by
 by_cases h:m=0
 ·subst h;show 1≤_;omega
 ·rw [L2 m h];omega
theorem a5n (s:f6):(plain s).length≤max 1 s.length:=by
 unfold plain
 have h1:=N2 s
 have h2:=a86 s (g9 s) h1.1
 simp only []
 split
 ·show 1≤_;omega
 ·split
  ·simp only [List.length_append,List.length_drop,List.length_take,List.length_cons,List.length_nil];omega
  ·simp only [List.length_drop,List.length_take];omega
theorem c4u (w:f6):(n6 w).1.length≤w.length∧(n6 w).2.1.length≤max 1 w.length:=by
 unfold n6
 simp only []
 repeat' split
 all_goals (simp only [q8,R6,List.length_nil,List.length_cons,List.length_drop,List.length_take];omega)
theorem b0g (a b:f6):∃ (n:Int) (d:Nat),m7 a b=(g7 n,f7 d)∧0 < d∧Nat.gcd n.natAbs d=1∧(f7 n.natAbs).length≤max 1 a.length∧(f7 d).length≤max 1 b.length:=by
 unfold m7
 by_cases h0:f8 b=0
 ·rw [if_pos h0]
  exact ⟨0,1,by rw [sh0,sh1],dE,dE,by show 1≤_;omega,by rw [sh1];show 1≤_;omega⟩
 ·rw [if_neg h0]
  simp only []
  have hd:0 < (f8 b).natAbs:=oM
  have hg:0 < Nat.gcd (f8 a).natAbs (f8 b).natAbs:=Nat.gcd_pos_of_pos_right _ hd
  refine ⟨_,_,rfl,Nat.div_pos (Nat.le_of_dvd hd (Nat.gcd_dvd_right _ _)) hg,?_,?_,?_⟩
  ·have e:∀ x:Nat,(((if (f8 a < 0)=(f8 b < 0) then (1:Int) else -1) * ((x:Nat):Int))).natAbs=x:=by
    intro x;split <;> omega
   rw [e]
   rw [Nat.gcd_div (Nat.gcd_dvd_left _ _) (Nat.gcd_dvd_right _ _),Nat.div_self hg]
  ·have e:∀ x:Nat,(((if (f8 a < 0)=(f8 b < 0) then (1:Int) else -1) * ((x:Nat):Int))).natAbs=x:=by
    intro x;split <;> omega
   rw [e]
   have h1:=b5v ((f8 a).natAbs / Nat.gcd (f8 a).natAbs (f8 b).natAbs)
   have h2:=b72 (Nat.div_le_self (f8 a).natAbs (Nat.gcd (f8 a).natAbs (f8 b).natAbs))
   have h3:=c5q a
   omega
  ·have h1:=b5v ((f8 b).natAbs / Nat.gcd (f8 a).natAbs (f8 b).natAbs)
   have h2:=b72 (Nat.div_le_self (f8 b).natAbs (Nat.gcd (f8 a).natAbs (f8 b).natAbs))
   have h3:=c5q b
   omega
theorem a4r {s:f6} {c:Int} {i:Nat} {acc l:List Int} {j:Nat} (h:H1 s c i acc=.ok (l,j)):l.length+i+1≤acc.length+j:=by
 fun_induction H1 s c i acc with
 | case1 i acc h1 h2=>injection h with h;injection h with h3 h4;subst h3;omega
 | case2 i acc h1 h2 h3 ih=>have:=ih h;simp at this;omega
 | case3=>cases h
 | case4 i acc h1 h2 h3 h4 h5 ih=>have:=ih h;simp at this;omega
 | case5=>cases h
 | case6=>cases h
theorem a0e (l:List Int):(E2 l).length=l.length:=by simp [E2]
theorem a9b {t p:f6} {b:Bool} (h:o7 t p b=0):p=[]∨p8 p=true:=by
 unfold o7 at h
 split at h
 ·cases h
 ·split at h
  ·cases h
  ·rename_i hc
   by_cases hp:p=[]
   ·exact .inl hp
   ·right
    cases hv:p8 p with
    | true=>rfl
    | false=>exact absurd (.inr ⟨fun e=>hp (List.length_eq_zero_iff.1 e),hv⟩) hc
theorem b9t {i k:Nat} {w:f6} {t:A8} {k':Nat} (h:G4 i w k=.ok (t,k')) (h0:0 < w.length):OkT t∧cT t≤26 * w.length∧k'=k:=by
 unfold G4 at h
 have hn:=c4u w
 split at h
 ·injection h with h;injection h with h1 h2;subst h1 h2
  exact ⟨a2u dE dE,by simp [cT,q8];omega,rfl⟩
 ·split at h
  ·split at h
   ·cases h
   ·simp only [] at h
    split at h
    ·cases h
    ·rename_i hdg
     injection h with h;injection h with h1 h2;subst h1 h2
     have p1:=a5n (n6 w).1
     have p2:=a5n (n6 w).2.1
     obtain ⟨n,d,e,hd,hg,l1,l2⟩:=b0g (plain (n6 w).1) (plain (n6 w).2.1)
     rw [e] at hdg ⊢
     rw [a6b,a19] at hdg
     refine ⟨d9r ⟨hd,hg,oM,oM⟩,?_,rfl⟩
     have l3:(g7 n).length≤1+(f7 n.natAbs).length:=by
      rw [a1c,List.length_append]
      have:(LQ.sgn n).length≤1:=by unfold LQ.sgn;split <;> simp
      omega
     simp only [cT,q8,List.length_nil]
     omega
  ·split at h
   ·rename_i he
    injection h with h;injection h with h1 h2;subst h1 h2
    exact ⟨b42 (.inl rfl),by simp [cT,q8];omega,rfl⟩
   ·cases h
theorem b9o {s p:f6} {i k k':Nat} {t:A8} (h:I7 s i p k=.ok (t,k')) (hp:p.length+i≤k):OkT t∧cT t≤26 * (k' - i):=by
 unfold I7 at h
 split at h
 ·rename_i hl
  split at h
  ·split at h
   ·cases h
   ·rename_i l j he
    split at h
    ·rename_i hz
     injection h with h;injection h with h1 h2;subst h1 h2
     have:=a4r he
     simp only [List.length_nil] at this
     refine ⟨b42 (a9b hz),?_⟩
     simp only [cT,q8,List.length_nil,a0e]
     omega
    ·cases h
  ·split at h
   ·rename_i hc
    simp only [] at h
    split at h
    ·rename_i hz
     injection h with h;injection h with h1 h2;subst h1 h2
     have hw:=G3 s (k+2) oM
     refine ⟨b42 (a9b hz),?_⟩
     simp only [cT,q8,List.length_nil,List.length_drop,List.length_take]
     omega
    ·cases h
   ·cases h
 ·cases h
theorem c3u {s:f6} {i k:Nat} {t:A8} (hi:i < s.length) (h:A4 s i=.ok (t,k)):OkT t∧cT t≤26 * (k - i):=by
 unfold A4 at h
 split at h
 ·injection h with h;injection h with h1 h2;subst h1 h2;exact ⟨a2u dE dE,by simp [cT,q8]⟩
 split at h
 ·injection h with h;injection h with h1 h2;subst h1 h2;exact ⟨a2u dE dE,by simp [cT,q8]⟩
 split at h
 ·injection h with h;injection h with h1 h2;subst h1 h2;exact ⟨a2u dE dE,by simp [cT,q8]⟩
 split at h
 ·split at h
  ·cases h
  ·rename_i l j he
   split at h
   ·cases h
   ·injection h with h;injection h with h1 h2;subst h1 h2
    have:=a4r he
    simp only [List.length_nil] at this
    exact ⟨e29 (by simp only [a0e];omega),by simp only [cT,q8,List.length_nil,a0e];omega⟩
 split at h
 ·split at h
  ·cases h
  ·rename_i l j he
   split at h
   ·injection h with h;injection h with h1 h2;subst h1 h2
    have:=a4r he
    simp only [List.length_nil] at this
    exact ⟨b42 (.inl rfl),by simp only [cT,q8,List.length_nil,a0e];omega⟩
   ·cases h
 split at h
 ·rename_i hc
  have hw:=G3 s i oM
  have hw2:i < l7 s i:=by rw [l7,if_pos hi,if_pos hc];have:=G3 s (i+1) oM;omega
  have hl:((s.take (l7 s i)).drop i).length=l7 s i - i:=by simp;omega
  split at h
  ·exact b9o h (by rw [hl];omega)
  ·obtain ⟨h1,h2,h3⟩:=b9t h (by rw [hl];omega)
   subst h3
   rw [hl] at h2
   exact ⟨h1,h2⟩
 ·cases h
theorem a8z {s:f6}:∀ (m:Nat) {i:Nat} {acc T:List A8},s.length - i≤m→i≤s.length→y7 s i acc=.ok T→∃ T',T=acc ++ T'∧(∀ t ∈ T',OkT t)∧(T'.map cT).sum≤26 * (s.length - i)+20∧T'.length≤s.length - i+1
 | m,i,acc,T,hm,hi,h=>by
  rw [a7m hi] at h
  split at h
  ·cases h
  ·rename_i j hs
   have hj:=a7l hi hs
   split at h
   ·rename_i hlt
    split at h
    ·cases h
    ·rename_i t k ht
     have h1:=a5v hlt ht
     have h2:=c3u hlt ht
     cases m with
     | zero=>omega
     | succ m =>
      obtain ⟨T',e1,e2,e3,e4⟩:=a8z m oM h1.2 h
      refine ⟨t :: T',by rw [e1];simp,?_,?_,?_⟩
      ·intro x hx
       rcases List.mem_cons.1 hx with rfl | hx
       ·exact h2.1
       ·exact e2 x hx
      ·simp only [List.map_cons,List.sum_cons];omega
      ·simp only [List.length_cons];omega
   ·injection h with h
    refine ⟨[⟨0,s.length,q8,q8,q8⟩],h.symm,?_,by simp [cT,q8],by simp⟩
    intro t ht
    rw [List.mem_singleton.1 ht];exact a2u dE dE
theorem c50 (c:UInt8) (l:f6):(F6 c l).length≤2 * l.length:=by
 induction l with
 | nil=>simp [F6]
 | cons b l ih =>
  have e:F6 c (b :: l)=(if b=c∨b=92 then [92,b] else [b]) ++ F6 c l:=by simp [F6]
  rw [e,List.length_append]
  split <;> simp <;> omega
theorem c5y (c:UInt8) (l:f6):(D3 c l).length≤2 * l.length+2:=by rw [a8c];have:=c50 c l;omega
theorem a84 (w:f6) (q:Bool):(D2 w q).length≤2 * w.length+2:=by
 unfold D2;split
 ·exact c5y _ _
 ·omega
theorem d4y (L:List Pk) (cur:f6) (s:Sy):(H3 L cur s).1.length≤s.1.length+2 * s.2.length+4:=by
 have h1:=a84 s.2 false
 have h2:=a84 s.2 true
 unfold H3
 repeat' split
 all_goals simp
 all_goals omega
theorem d45 (n:Int) (d:Nat):(b28 n d).length≤(g7 n).length+(f7 d).length+1:=by
 unfold b28
 split
 ·omega
 ·rw [List.length_append,List.length_cons];omega
section
variable {L:List Pk} {cur:f6} {T:List A8}
theorem c3p (a d:O):(pT L cur (.co a d)).1.length≤(pT L cur (.co a d)).2.1.length:=by
 simp only [pT]
 split
 ·split
  ·rename_i t ht
   obtain ⟨x,hx⟩:∃ x,d=.co x A7∧t=(pT L cur x).1:=by
    cases d with
    | co x y =>
     simp only [pT] at ht
     split at ht
     ·rename_i hz;injection ht with ht;exact ⟨x,by rw [hz],ht.symm⟩
     ·cases ht
    | _=>cases ht
   obtain ⟨rfl,rfl⟩:=hx
   simp only [pT,List.length_cons,List.length_append]
   omega
  ·simp
 ·simp
end
set_option maxRecDepth 100000
set_option maxHeartbeats 4000000
theorem a2f (n:Nat):g7 (n:Int)=f7 n:=by
 unfold g7
 rw [if_neg oM,Int.natAbs_natCast]
end
end Go.Proofs.YtgipbdffgfbedaaGreatDoor
namespace Go.Abs
noncomputable section
def one (f:G→Q→Bool) (r:List G) (q:Q):Bool:=match r with | [g]=>f g q | _=>true
end
end Go.Abs
namespace Go.Proofs.YtgipbdffgfbedaaGreatDoor
open Go.Abs LQ
set_option maxRecDepth 100000
set_option maxHeartbeats 4000000
noncomputable section
def s1 (s:f6):List G:=[.s s]
def ok (o:O):Prop:=o.size≤3000∧o.fm=true
end
end Go.Proofs.YtgipbdffgfbedaaGreatDoor
