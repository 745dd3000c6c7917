/- Packages and the reading of objects from D5: what they compute. No program in sight. -/
import Derived.Test.YtdldcfllnohkeaaGreatDoorKR5e
import Derived.Test.YtdldcfllnohkeaaGreatDoorKN
set_option linter.all false
namespace Go.Proofs.YtdldcfllnohkeaaGreatDoor
open Go.Abs LQ
abbrev Pk:=f5 × List Sy
def pg (p:Pk):List G:=[.s p.1,.l (p.2.map sg)]
def B0:List Pk→f5→Option Pk
 | [],_=>none
 | p :: l,n=>if p.1=n then some p else B0 l n
def a1n:List Sy→f5→Option Sy
 | [],_=>none
 | s :: l,n=>if s.2=n then some s else a1n l n
def B5 (L:List Pk) (cur nm:f5):Sy × Int :=
 match B0 L cur with
 | none=>(([],[]),13)
 | some p=>if nm.length < 1∨40 < nm.length then (([],[]),3) else
  match a1n p.2 nm with
  | some s=>(s,0)
  | none=>((cur,nm),0)
def a14 (L:List Pk) (cur:f5) (s:Sy):Bool:=decide ((B5 L cur s.2).2=0∧(B5 L cur s.2).1=s)
def F6 (L:List Pk) (s:Sy):Bool:=a14 L s.1 s
def t0:A6:=⟨0,0,[],[],[]⟩
def z7:O:=.sy (u0,[113,117,111,116,101])
def d0t:List O→O→O
 | [],e=>e
 | x :: l,e=>.co x (d0t l e)
def f9b (t:A6):O:=.num (f7 t.text) (f7 t.den).natAbs
mutual
/-- The object at a token, inside depth others, and the place behind it; or the error and its offset. -/
def d04 (L:List Pk) (cur:f5) (T:List A6):Nat→Nat→Nat→Except (Int × Nat) (O × Nat)
 | 0,_,_=>.error (0,0)
 | n+1,d,i =>
  let t:=T.getD i t0
  if t.kind=0 then .error (11,t.pos)
  else if t.kind=2∨t.kind=3 then .error (12,t.pos)
  else if t.kind=5 then .ok (f9b t,i+1)
  else if t.kind=7 then .ok (.tx t.text,i+1)
  else if t.kind=6 then
   let r:=B5 L (if t.pkg=[] then cur else t.pkg) t.text
   if r.2=0 then .ok (.sy r.1,i+1) else .error (r.2,t.pos)
  else if 200 < d then .error (2,t.pos)
  else if t.kind=4 then
   match d04 L cur T n (d+1) (i+1) with
   | .error e=>.error e
   | .ok (x,j)=>.ok (Q5 [z7,x],j)
  else e1g L cur T n (d+1) (i+1) []
/-- The rest of a list. -/
def e1g (L:List Pk) (cur:f5) (T:List A6):Nat→Nat→Nat→List O→Except (Int × Nat) (O × Nat)
 | 0,_,_,_=>.error (0,0)
 | n+1,d,i,acc =>
  let t:=T.getD i t0
  if t.kind=2 then .ok (d0t acc A5,i+1)
  else if t.kind=3∧acc ≠ [] then
   match d04 L cur T n d (i+1) with
   | .error e=>.error e
   | .ok (x,j) =>
    let u:=T.getD j t0
    if u.kind=2 then .ok (d0t acc x,j+1)
    else if u.kind=0 then .error (11,u.pos)
    else .error (12,u.pos)
  else
   match d04 L cur T n d i with
   | .error e=>.error e
   | .ok (x,j)=>e1g L cur T n d j (acc ++ [x])
end
def D7 (name:f5) (q:Bool):f5:=if L7 name=false∨(q=false∧(name=[46]∨(m6 name).2.2=true)) then D8 124 name else name
def H9 (L:List Pk) (cur:f5) (s:Sy):f5 × Int :=
 if named s=false then ([],1)
 else if B0 L cur=none∨F6 L s=false then ([],13)
 else if a14 L cur s=true then (D7 s.2 false,0)
 else (s.1 ++ 58 :: 58 :: D7 s.2 true,0)
def N2 (L:List Pk) (cur:f5):O→f5
 | .num n d=>b4f n d
 | .tx t=>D8 34 t
 | .sy s=>(H9 L cur s).1
 | _=>[]
noncomputable section
open Classical
def pT (L:List Pk) (cur:f5):O→f5 × f5 × Option f5
 | .co a d=>((if a=z7 then match (pT L cur d).2.2 with
   | some t=>39 :: t
   | none=>40 :: ((pT L cur a).1 ++ (pT L cur d).2.1)
   else 40 :: ((pT L cur a).1 ++ (pT L cur d).2.1)),32 :: ((pT L cur a).1 ++ (pT L cur d).2.1),if d=A5 then some (pT L cur a).1 else none)
 | o=>(N2 L cur o,(if o=A5 then [41] else 32 :: 46 :: 32 :: (N2 L cur o ++ [41])),none)
def o8 (L:List Pk) (cur:f5) (o:O):f5:=(pT L cur o).1
def t8 (L:List Pk):O→Bool
 | .sy s=>F6 L s
 | .co a d=>t8 L a && t8 L d
 | _=>true
structure NT where
 kind:Int
 pkg:f5
 text:f5
 den:f5
def nt (t:A6):NT:=⟨t.kind,t.pkg,t.text,t.den⟩
def okA (L:List Pk):O→Prop
 | .num n d=>0 < d∧Nat.gcd n.natAbs d=1∧(f8 n.natAbs).length≤100∧(f8 d).length≤100
 | .tx t=>t.length≤200
 | .sy s=>named s=true∧F6 L s=true
 | .co a d=>okA L a∧okA L d
 | .no=>False
theorem d8d {p:f5} (h:n5 p=true):a8q p∧p ≠ []:=by
 have hb:F4 p 0=true∧1≤p.length:=by simp [n5] at h;exact ⟨h.2,h.1.1⟩
 refine ⟨?_,fun e=>by rw [e] at hb;simp at hb⟩
 have key:∀ n k,p.length - k=n→F4 p k=true→∀ j,k≤j→j < p.length→a08 (bt p j)=true:=by
  intro n
  induction n with
  | zero=>intro k hk _ j h1 h2;omega
  | succ n ih =>
   intro k hk hp j h1 h2
   rw [F4,if_pos oM] at hp
   split at hp
   ·rename_i hc
    by_cases hj:j=k
    ·subst hj;exact hc
    ·exact ih (k+1) oM hp j oM h2
   ·cases hp
 intro j hj
 have:=key _ 0 rfl hb.1 j (Nat.zero_le _) hj
 simp [a08] at this
 simp [t6];omega
theorem a0v {s:Sy} (h:named s=true):n5 s.1=true∧s.2.length≤40∧0 < s.2.length:=by
 simp [named] at h;exact ⟨h.1,h.2.2,h.2.1⟩
def Lex (w:f5) (N:List NT):Prop:=∀ s i r,At s i w r→Del r→∃ T:List A6,T.map nt=N∧∀ acc,y8 s i acc=y8 s (i+w.length) (acc ++ T)
theorem c8g {w:f5} {n:NT} (h:∀ s i r,At s i w r→Del r→∃ t:A6,nt t=n∧∀ acc,y8 s i acc=y8 s (i+w.length) (acc ++ [t])):Lex w [n]:=fun s i r ha hr=>by
 obtain ⟨t,h1,h2⟩:=h s i r ha hr
 exact ⟨[t],by simp [h1],h2⟩
theorem d7m {w:f5} (h0:0 < w.length) (hl:w.length≤40):Lex (D7 w false) [⟨6,[],w,[]⟩]:=c8g fun s i r ha hr=>by
 unfold D7 at ha ⊢
 split at ha
 ·rename_i hc;rw [if_pos hc];exact ⟨_,rfl,fun acc=>e0h ha hl h0⟩
 ·rename_i hc
  rw [if_neg hc]
  have h1:L7 w=true:=by cases hs:L7 w with | true=>rfl | false=>exact absurd (.inl hs) hc
  have h2:w ≠ [46]:=fun e=>hc (.inr ⟨rfl,.inl e⟩)
  have h3:(m6 w).2.2=false:=by cases hs:(m6 w).2.2 with | false=>rfl | true=>exact absurd (.inr ⟨rfl,.inr hs⟩) hc
  exact ⟨_,rfl,fun acc=>d5v ha h1 hr h2 h3 hl⟩
theorem d7n {p w:f5} (hp:n5 p=true) (h0:0 < w.length) (hl:w.length≤40):Lex (p ++ 58 :: 58 :: D7 w true) [⟨6,p,w,[]⟩]:=c8g fun s i r ha hr=>by
 obtain ⟨g1,g2⟩:=d8d hp
 unfold D7 at ha ⊢
 split at ha
 ·rename_i hc;rw [if_pos hc];exact ⟨_,rfl,fun acc=>d5w ha g1 g2 hp hl h0⟩
 ·rename_i hc
  rw [if_neg hc]
  have h1:L7 w=true:=by cases hs:L7 w with | true=>rfl | false=>exact absurd (.inl hs) hc
  exact ⟨_,rfl,fun acc=>d5x ha g1 g2 hp h1 hr hl⟩
end
end Go.Proofs.YtdldcfllnohkeaaGreatDoor
namespace Go.Proofs.YtdldcfllnohkeaaGreatDoor
open Go.Abs LQ
noncomputable section
open Classical
def dO:O→Nat × Nat
 | .co a d=>(1+max (dO a).1 (dO d).2,max (dO a).1 (dO d).2)
 | _=>(0,0)
theorem e0i {s:f5} {acc:List A6}:y8 s s.length acc=.ok (acc ++ [⟨0,s.length,[],[],[]⟩]):=by
 rw [a8k (Nat.le_refl _),c5b oM]
 simp only []
 rw [if_neg oM]
 rfl
def eT (w:f5):A6:=⟨0,w.length,[],[],[]⟩
theorem c0v {w:f5} {N:List NT} (h:Lex w N) (hl:w.length≤6000):∃ T:List A6,T.map nt=N∧D5 w=.ok (T ++ [eT w]):=by
 obtain ⟨T,h1,h2⟩:=h w 0 [] (by unfold At;simp) (.inl rfl)
 refine ⟨T,h1,?_⟩
 unfold D5
 rw [if_neg oM,h2,Nat.zero_add,e0i,List.nil_append];rfl
open Classical
def m8:O→Option (List O)
 | .co a d=>(m8 d).map (a :: ·)
 | .sy s=>if s=(u0,[110,105,108]) then some [] else none
 | _=>none
def A7 (o:O):Option O:=match m8 o with
 | some [q,x]=>if q=z7 then some x else none
 | _=>none
def M9:List f5→List f5
 | []=>[]
 | [l]=>[l ++ [41]]
 | l :: r=>l :: M9 r
def C3:List f5→List f5
 | []=>[]
 | l :: r=>(40 :: l) :: r.map (32 :: ·)
def E9 (L:List Pk) (cur:f5):Nat→O→Int→List f5
 | 0,_,_=>[]
 | n+1,o,w=>match m8 o with
  | some l=>if ((o8 L cur o).length:Int)≤w∨l.length < 2∨A7 o ≠ none then [o8 L cur o] else M9 (C3 (l.flatMap fun x=>E9 L cur n x (w - 1)))
  | none=>[o8 L cur o]
inductive d6e:List f5→List NT→Prop
 | nil:d6e [] []
 | cons {l:f5} {N:List NT} {ls:List f5} {M:List NT}:Lex l N→d6e ls M→d6e (l :: ls) (N ++ M)
def L8 (l:List f5):f5:=l.flatMap (· ++ [10])
theorem b4j {a:List f5} (h:a ≠ []):C3 a ≠ []:=by cases a with | nil=>exact absurd rfl h | cons l r=>simp [C3]
theorem d2y:∀ {a:List f5},a ≠ []→M9 a ≠ []
 | [],h=>absurd rfl h
 | [l],_=>by simp [M9]
 | l :: m :: r,_=>by simp [M9]
theorem b9r {o:O} (h:m8 o=some []):o=A5:=by
 cases o with
 | sy s=>simp only [m8] at h;split at h;· rename_i e;subst e;rfl
         ·cases h
 | co a d=>simp only [m8] at h;cases hd:m8 d with
  | none=>rw [hd] at h;cases h
  | some l=>rw [hd] at h;cases h
 | _=>cases h
theorem N6 {o a:O} {l:List O} (h:m8 o=some (a :: l)):∃ d,o=.co a d∧m8 d=some l:=by
 cases o with
 | co x d=>simp only [m8] at h;cases hd:m8 d with
  | none=>rw [hd] at h;cases h
  | some m=>rw [hd] at h;simp only [Option.map_some,Option.some.injEq,List.cons.injEq] at h;obtain ⟨rfl,rfl⟩:=h;exact ⟨d,rfl,hd⟩
 | sy s=>simp only [m8] at h;split at h <;> cases h
 | _=>cases h
theorem G8:∀ {l:List O} {o:O},m8 o=some l→∀ x ∈ l,x.size < o.size
 | [],_,_,_,hx=>by cases hx
 | a :: l,o,h,x,hx=>by
  obtain ⟨d,rfl,hd⟩:=N6 h
  simp only [O.size]
  rcases List.mem_cons.1 hx with rfl | hx
  ·have:=O.size_pos d;omega
  ·have:=G8 hd x hx;omega
theorem c3x {L:List Pk} {cur:f5}:∀ {n:Nat} {o:O} {w:Int},o.size≤n→E9 L cur n o w ≠ []
 | 0,o,_,h=>by have:=O.size_pos o;omega
 | n+1,o,w,h=>by
  rw [E9]
  split
  ·rename_i l hl
   split
   ·simp
   ·rename_i hc
    refine d2y (b4j ?_)
    cases l with
    | nil=>exact absurd (.inr (.inl (by simp))) hc
    | cons a l =>
     have:=G8 hl a (by simp)
     have:=c3x (L:=L) (cur:=cur) (o:=a) (w:=w - 1) (n:=n) oM
     simp only [List.flatMap_cons]
     intro e
     exact this (List.append_eq_nil_iff.1 e).1
  ·simp
open Classical
def cT (t:A6):Nat:=2 * t.text.length+t.pkg.length+t.den.length+20
def OkT (t:A6):Prop:=(t.kind=5→∃ (n:Int) (d:Nat),t.text=f9 n∧t.den=f8 d∧0 < d∧Nat.gcd n.natAbs d=1∧(f8 n.natAbs).length≤100∧(f8 d).length≤100)∧(t.kind=7→t.text.length≤200)∧(t.kind=6→t.pkg=[]∨n5 t.pkg=true)
theorem a3i {k:Int} {p:Nat} (h5:k ≠ 5) (h7:k ≠ 7):OkT ⟨k,p,s8,s8,s8⟩:=⟨fun h=>absurd h h5,fun h=>absurd h h7,fun _=>.inl rfl⟩
theorem b6d {p a b:f5} {i:Nat} (h:p=[]∨n5 p=true):OkT ⟨6,i,p,a,b⟩:=⟨fun h=>absurd h (show ¬(6:Int)=5 by decide),fun h=>absurd h (show ¬(6:Int)=7 by decide),fun _=>h⟩
theorem e76 {p a b:f5} {i:Nat} (h:a.length≤200):OkT ⟨7,i,p,a,b⟩:=⟨fun h=>absurd h (show ¬(7:Int)=5 by decide),fun _=>h,fun h=>absurd h (show ¬(7:Int)=6 by decide)⟩
theorem e38 {p:f5} {i:Nat} {n:Int} {d:Nat} (h:0 < d∧Nat.gcd n.natAbs d=1∧(f8 n.natAbs).length≤100∧(f8 d).length≤100):OkT ⟨5,i,p,f9 n,f8 d⟩:=⟨fun _=>⟨n,d,rfl,rfl,h⟩,fun h=>absurd h (show ¬(5:Int)=7 by decide),fun h=>absurd h (show ¬(5:Int)=6 by decide)⟩
theorem sh1:f8 1=Q6:=by unfold f8;rw [if_neg dE,D6 dE,show 1 / 10=0 from rfl,u9];rfl
theorem sh0:f9 0=x5:=by unfold f9 f8;rfl
theorem c7o (s:f5) (e:Nat):∀ (k:Nat) (acc:List Nat),(u1 s e k acc).length=acc.length+(k - e)
 | 0,acc=>by simp [u1]
 | k+1,acc=>by
  rw [u1]
  split
  ·rw [c7o s e k];simp;omega
  ·omega
theorem c7m (s:f5):(i6 (f7 s).natAbs).length≤s.length:=by
 have h:=congrArg Prod.snd (b2h s)
 simp only [] at h
 rw [← h]
 unfold Z4
 split
 ·simp only [c7o,List.length_nil];omega
 ·simp
theorem b9g {m n:Nat} (h:m≤n):(i6 m).length≤(i6 n).length:=by
 by_cases h0:m=0
 ·subst h0;rw [u9];simp
 ·have h1:=a7v m h0
  have h2:=a13 (i6 n) (C2 n)
  rw [B6] at h2
  have h3:10 ^ ((i6 m).length - 1) < 10 ^ (i6 n).length:=oM
  have:=(Nat.pow_lt_pow_iff_right (by decide:1 < 10)).1 h3
  omega
theorem b67 (m:Nat):(f8 m).length≤max 1 (i6 m).length:=by
 by_cases h:m=0
 ·subst h;show 1≤_;omega
 ·rw [P2 m h];omega
theorem a6i (s:f5):(plain s).length≤max 1 s.length:=by
 unfold plain
 have h1:=O0 s
 have h2:=a97 s (g8 s) h1.1
 simp only []
 split
 ·show 1≤_;omega
 ·split
  ·simp only [List.length_append,List.length_drop,List.length_take,List.length_cons,List.length_nil];omega
  ·simp only [List.length_drop,List.length_take];omega
theorem c6n (w:f5):(m6 w).1.length≤w.length∧(m6 w).2.1.length≤max 1 w.length:=by
 unfold m6
 simp only []
 repeat' split
 all_goals (simp only [s8,Q6,List.length_nil,List.length_cons,List.length_drop,List.length_take];omega)
theorem b1i (a b:f5):∃ (n:Int) (d:Nat),o7 a b=(f9 n,f8 d)∧0 < d∧Nat.gcd n.natAbs d=1∧(f8 n.natAbs).length≤max 1 a.length∧(f8 d).length≤max 1 b.length:=by
 unfold o7
 by_cases h0:f7 b=0
 ·rw [if_pos h0]
  exact ⟨0,1,by rw [sh0,sh1],dE,dE,by show 1≤_;omega,by rw [sh1];show 1≤_;omega⟩
 ·rw [if_neg h0]
  simp only []
  have hd:0 < (f7 b).natAbs:=oM
  have hg:0 < Nat.gcd (f7 a).natAbs (f7 b).natAbs:=Nat.gcd_pos_of_pos_right _ hd
  refine ⟨_,_,rfl,Nat.div_pos (Nat.le_of_dvd hd (Nat.gcd_dvd_right _ _)) hg,?_,?_,?_⟩
  ·have e:∀ x:Nat,(((if (f7 a < 0)=(f7 b < 0) then (1:Int) else -1) * ((x:Nat):Int))).natAbs=x:=by
    intro x;split <;> omega
   rw [e]
   rw [Nat.gcd_div (Nat.gcd_dvd_left _ _) (Nat.gcd_dvd_right _ _),Nat.div_self hg]
  ·have e:∀ x:Nat,(((if (f7 a < 0)=(f7 b < 0) then (1:Int) else -1) * ((x:Nat):Int))).natAbs=x:=by
    intro x;split <;> omega
   rw [e]
   have h1:=b67 ((f7 a).natAbs / Nat.gcd (f7 a).natAbs (f7 b).natAbs)
   have h2:=b9g (Nat.div_le_self (f7 a).natAbs (Nat.gcd (f7 a).natAbs (f7 b).natAbs))
   have h3:=c7m a
   omega
  ·have h1:=b67 ((f7 b).natAbs / Nat.gcd (f7 a).natAbs (f7 b).natAbs)
   have h2:=b9g (Nat.div_le_self (f7 b).natAbs (Nat.gcd (f7 a).natAbs (f7 b).natAbs))
   have h3:=c7m b
   omega
theorem a5e {s:f5} {c:Int} {i:Nat} {acc l:List Int} {j:Nat} (h:H7 s c i acc=.ok (l,j)):l.length+i+1≤acc.length+j:=by
 fun_induction H7 s c i acc with
 | case1 i acc h1 h2=>injection h with h;injection h with h3 h4;subst h3;omega
 | case2 i acc h1 h2 h3 ih=>have:=ih h;simp at this;omega
 | case3=>cases h
 | case4 i acc h1 h2 h3 h4 h5 ih=>have:=ih h;simp at this;omega
 | case5=>cases h
 | case6=>cases h
theorem a0w (l:List Int):(E6 l).length=l.length:=by simp [E6]
theorem b0b {t p:f5} {b:Bool} (h:n8 t p b=0):p=[]∨n5 p=true:=by
 unfold n8 at h
 split at h
 ·cases h
 ·split at h
  ·cases h
  ·rename_i hc
   by_cases hp:p=[]
   ·exact .inl hp
   ·right
    cases hv:n5 p with
    | true=>rfl
    | false=>exact absurd (.inr ⟨fun e=>hp (List.length_eq_zero_iff.1 e),hv⟩) hc
theorem c1g {i k:Nat} {w:f5} {t:A6} {k':Nat} (h:H0 i w k=.ok (t,k')) (h0:0 < w.length):OkT t∧cT t≤26 * w.length∧k'=k:=by
 unfold H0 at h
 have hn:=c6n w
 split at h
 ·injection h with h;injection h with h1 h2;subst h1 h2
  exact ⟨a3i dE dE,by simp [cT,s8];omega,rfl⟩
 ·split at h
  ·split at h
   ·cases h
   ·simp only [] at h
    split at h
    ·cases h
    ·rename_i hdg
     injection h with h;injection h with h1 h2;subst h1 h2
     have p1:=a6i (m6 w).1
     have p2:=a6i (m6 w).2.1
     obtain ⟨n,d,e,hd,hg,l1,l2⟩:=b1i (plain (m6 w).1) (plain (m6 w).2.1)
     rw [e] at hdg ⊢
     rw [a68,a2t] at hdg
     refine ⟨e38 ⟨hd,hg,oM,oM⟩,?_,rfl⟩
     have l3:(f9 n).length≤1+(f8 n.natAbs).length:=by
      rw [a1s,List.length_append]
      have:(LQ.sgn n).length≤1:=by unfold LQ.sgn;split <;> simp
      omega
     simp only [cT,s8,List.length_nil]
     omega
  ·split at h
   ·rename_i he
    injection h with h;injection h with h1 h2;subst h1 h2
    exact ⟨b6d (.inl rfl),by simp [cT,s8];omega,rfl⟩
   ·cases h
theorem c1b {s p:f5} {i k k':Nat} {t:A6} (h:J5 s i p k=.ok (t,k')) (hp:p.length+i≤k):OkT t∧cT t≤26 * (k' - i):=by
 unfold J5 at h
 split at h
 ·rename_i hl
  split at h
  ·split at h
   ·cases h
   ·rename_i l j he
    split at h
    ·rename_i hz
     injection h with h;injection h with h1 h2;subst h1 h2
     have:=a5e he
     simp only [List.length_nil] at this
     refine ⟨b6d (b0b hz),?_⟩
     simp only [cT,s8,List.length_nil,a0w]
     omega
    ·cases h
  ·split at h
   ·rename_i hc
    simp only [] at h
    split at h
    ·rename_i hz
     injection h with h;injection h with h1 h2;subst h1 h2
     have hw:=G9 s (k+2) oM
     refine ⟨b6d (b0b hz),?_⟩
     simp only [cT,s8,List.length_nil,List.length_drop,List.length_take]
     omega
    ·cases h
   ·cases h
 ·cases h
theorem c5n {s:f5} {i k:Nat} {t:A6} (hi:i < s.length) (h:A0 s i=.ok (t,k)):OkT t∧cT t≤26 * (k - i):=by
 unfold A0 at h
 split at h
 ·injection h with h;injection h with h1 h2;subst h1 h2;exact ⟨a3i dE dE,by simp [cT,s8]⟩
 split at h
 ·injection h with h;injection h with h1 h2;subst h1 h2;exact ⟨a3i dE dE,by simp [cT,s8]⟩
 split at h
 ·injection h with h;injection h with h1 h2;subst h1 h2;exact ⟨a3i dE dE,by simp [cT,s8]⟩
 split at h
 ·split at h
  ·cases h
  ·rename_i l j he
   split at h
   ·cases h
   ·injection h with h;injection h with h1 h2;subst h1 h2
    have:=a5e he
    simp only [List.length_nil] at this
    exact ⟨e76 (by simp only [a0w];omega),by simp only [cT,s8,List.length_nil,a0w];omega⟩
 split at h
 ·split at h
  ·cases h
  ·rename_i l j he
   split at h
   ·injection h with h;injection h with h1 h2;subst h1 h2
    have:=a5e he
    simp only [List.length_nil] at this
    exact ⟨b6d (.inl rfl),by simp only [cT,s8,List.length_nil,a0w];omega⟩
   ·cases h
 split at h
 ·rename_i hc
  have hw:=G9 s i oM
  have hw2:i < k9 s i:=by rw [k9,if_pos hi,if_pos hc];have:=G9 s (i+1) oM;omega
  have hl:((s.take (k9 s i)).drop i).length=k9 s i - i:=by simp;omega
  split at h
  ·exact c1b h (by rw [hl];omega)
  ·obtain ⟨h1,h2,h3⟩:=c1g h (by rw [hl];omega)
   subst h3
   rw [hl] at h2
   exact ⟨h1,h2⟩
 ·cases h
theorem a9z {s:f5}:∀ (m:Nat) {i:Nat} {acc T:List A6},s.length - i≤m→i≤s.length→y8 s i acc=.ok T→∃ T',T=acc ++ T'∧(∀ t ∈ T',OkT t)∧(T'.map cT).sum≤26 * (s.length - i)+20∧T'.length≤s.length - i+1
 | m,i,acc,T,hm,hi,h=>by
  rw [a8k hi] at h
  split at h
  ·cases h
  ·rename_i j hs
   have hj:=a8i hi hs
   split at h
   ·rename_i hlt
    split at h
    ·cases h
    ·rename_i t k ht
     have h1:=a6s hlt ht
     have h2:=c5n hlt ht
     cases m with
     | zero=>omega
     | succ m =>
      obtain ⟨T',e1,e2,e3,e4⟩:=a9z m oM h1.2 h
      refine ⟨t :: T',by rw [e1];simp,?_,?_,?_⟩
      ·intro x hx
       rcases List.mem_cons.1 hx with rfl | hx
       ·exact h2.1
       ·exact e2 x hx
      ·simp only [List.map_cons,List.sum_cons];omega
      ·simp only [List.length_cons];omega
   ·injection h with h
    refine ⟨[⟨0,s.length,s8,s8,s8⟩],h.symm,?_,by simp [cT,s8],by simp⟩
    intro t ht
    rw [List.mem_singleton.1 ht];exact a3i dE dE
theorem c7v (c:UInt8) (l:f5):(F8 c l).length≤2 * l.length:=by
 induction l with
 | nil=>simp [F8]
 | cons b l ih =>
  have e:F8 c (b :: l)=(if b=c∨b=92 then [92,b] else [b]) ++ F8 c l:=by simp [F8]
  rw [e,List.length_append]
  split <;> simp <;> omega
theorem c7t (c:UInt8) (l:f5):(D8 c l).length≤2 * l.length+2:=by rw [a85];have:=c7v c l;omega
theorem a95 (w:f5) (q:Bool):(D7 w q).length≤2 * w.length+2:=by
 unfold D7;split
 ·exact c7t _ _
 ·omega
theorem d7u (L:List Pk) (cur:f5) (s:Sy):(H9 L cur s).1.length≤s.1.length+2 * s.2.length+4:=by
 have h1:=a95 s.2 false
 have h2:=a95 s.2 true
 unfold H9
 repeat' split
 all_goals simp
 all_goals omega
theorem d70 (n:Int) (d:Nat):(b4f n d).length≤(f9 n).length+(f8 d).length+1:=by
 unfold b4f
 split
 ·omega
 ·rw [List.length_append,List.length_cons];omega
structure g0r (L:List Pk) (cur:f5):Prop where
 home:∀ c n s,(c=cur∨n5 c=true)→B5 L c n=(s,0)→F6 L s=true∧named s=true∧s.1.length≤c.length+4
 cur4:cur.length≤4
 nilH:F6 L (u0,[110,105,108])=true
 quoteH:F6 L (u0,[113,117,111,116,101])=true
section
variable {L:List Pk} {cur:f5} {T:List A6}
theorem c5i (a d:O):(pT L cur (.co a d)).1.length≤(pT L cur (.co a d)).2.1.length:=by
 simp only [pT]
 split
 ·split
  ·rename_i t ht
   obtain ⟨x,hx⟩:∃ x,d=.co x A5∧t=(pT L cur x).1:=by
    cases d with
    | co x y =>
     simp only [pT] at ht
     split at ht
     ·rename_i hz;injection ht with ht;exact ⟨x,by rw [hz],ht.symm⟩
     ·cases ht
    | _=>cases ht
   obtain ⟨rfl,rfl⟩:=hx
   simp only [pT,List.length_cons,List.length_append]
   omega
  ·simp
 ·simp
end
open Classical
structure g0q (T:List A6):Prop where
 len:T.length < 8000
 ok:∀ t ∈ T,OkT t
 last:∀ i,i+1=T.length→(T.getD i t0).kind=0
 pos:0 < T.length
 kinds:∀ t ∈ T,0≤t.kind∧t.kind≤7
section
variable {L:List Pk} {cur:f5} {T:List A6}
def e75 (L:List Pk) (cur:f5) (T:List A6) (d i:Nat):Except (Int × Nat) (O × Nat):=d04 L cur T (2 * T.length+2) d i
end
end
end Go.Proofs.YtdldcfllnohkeaaGreatDoor
