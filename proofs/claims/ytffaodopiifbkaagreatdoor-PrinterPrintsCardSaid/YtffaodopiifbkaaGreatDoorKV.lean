/- Packages and the reading of objects from C6: what they compute. No program in sight. -/
import Derived.Test.YtffaodopiifbkaaGreatDoorKR5e
import Derived.Test.YtffaodopiifbkaaGreatDoorKN
set_option linter.all false
namespace Go.Proofs.YtffaodopiifbkaaGreatDoor
open Go.Abs LQ
abbrev Pk:=f4 × List Sy
def pg (p:Pk):List G:=[.s p.1,.l (p.2.map sg)]
def C1:List Pk→f4→Option Pk
 | [],_=>none
 | p :: l,n=>if p.1=n then some p else C1 l n
def a1s:List Sy→f4→Option Sy
 | [],_=>none
 | s :: l,n=>if s.2=n then some s else a1s l n
def A8 (L:List Pk) (cur nm:f4):Sy × Int :=
 match C1 L cur with
 | none=>(([],[]),13)
 | some p=>if nm.length < 1∨40 < nm.length then (([],[]),3) else
  match a1s p.2 nm with
  | some s=>(s,0)
  | none=>((cur,nm),0)
def a0z (L:List Pk) (cur:f4) (s:Sy):Bool:=decide ((A8 L cur s.2).2=0∧(A8 L cur s.2).1=s)
def E6 (L:List Pk) (s:Sy):Bool:=a0z L s.1 s
def t0:A0:=⟨0,0,[],[],[]⟩
def x7:O:=.sy (s7,[113,117,111,116,101])
def c89:List O→O→O
 | [],e=>e
 | x :: l,e=>.co x (c89 l e)
def f7r (t:A0):O:=.num (f6 t.text) (f6 t.den).natAbs
mutual
/-- The object at a token, inside depth others, and the place behind it; or the error and its offset. -/
def c8m (L:List Pk) (cur:f4) (T:List A0):Nat→Nat→Nat→Except (Int × Nat) (O × Nat)
 | 0,_,_=>.error (0,0)
 | n+1,d,i =>
  let t:=T.getD i t0
  if t.kind=0 then .error (11,t.pos)
  else if t.kind=2∨t.kind=3 then .error (12,t.pos)
  else if t.kind=5 then .ok (f7r t,i+1)
  else if t.kind=7 then .ok (.tx t.text,i+1)
  else if t.kind=6 then
   let r:=A8 L (if t.pkg=[] then cur else t.pkg) t.text
   if r.2=0 then .ok (.sy r.1,i+1) else .error (r.2,t.pos)
  else if 200 < d then .error (2,t.pos)
  else if t.kind=4 then
   match c8m L cur T n (d+1) (i+1) with
   | .error e=>.error e
   | .ok (x,j)=>.ok (P6 [x7,x],j)
  else e09 L cur T n (d+1) (i+1) []
/-- The rest of a list. -/
def e09 (L:List Pk) (cur:f4) (T:List A0):Nat→Nat→Nat→List O→Except (Int × Nat) (O × Nat)
 | 0,_,_,_=>.error (0,0)
 | n+1,d,i,acc =>
  let t:=T.getD i t0
  if t.kind=2 then .ok (c89 acc z8,i+1)
  else if t.kind=3∧acc ≠ [] then
   match c8m L cur T n d (i+1) with
   | .error e=>.error e
   | .ok (x,j) =>
    let u:=T.getD j t0
    if u.kind=2 then .ok (c89 acc x,j+1)
    else if u.kind=0 then .error (11,u.pos)
    else .error (12,u.pos)
  else
   match c8m L cur T n d i with
   | .error e=>.error e
   | .ok (x,j)=>e09 L cur T n d j (acc ++ [x])
end
def C8 (name:f4) (q:Bool):f4:=if K5 name=false∨(q=false∧(name=[46]∨(m6 name).2.2=true)) then D1 124 name else name
def G2 (L:List Pk) (cur:f4) (s:Sy):f4 × Int :=
 if named s=false then ([],1)
 else if C1 L cur=none∨E6 L s=false then ([],13)
 else if a0z L cur s=true then (C8 s.2 false,0)
 else (s.1 ++ 58 :: 58 :: C8 s.2 true,0)
def M5 (L:List Pk) (cur:f4):O→f4
 | .num n d=>b3f n d
 | .tx t=>D1 34 t
 | .sy s=>(G2 L cur s).1
 | _=>[]
noncomputable section
open Classical
def pT (L:List Pk) (cur:f4):O→f4 × f4 × Option f4
 | .co a d=>((if a=x7 then match (pT L cur d).2.2 with
   | some t=>39 :: t
   | none=>40 :: ((pT L cur a).1 ++ (pT L cur d).2.1)
   else 40 :: ((pT L cur a).1 ++ (pT L cur d).2.1)),32 :: ((pT L cur a).1 ++ (pT L cur d).2.1),if d=z8 then some (pT L cur a).1 else none)
 | o=>(M5 L cur o,(if o=z8 then [41] else 32 :: 46 :: 32 :: (M5 L cur o ++ [41])),none)
def x8 (L:List Pk) (cur:f4) (o:O):f4:=(pT L cur o).1
def u7 (L:List Pk):O→Bool
 | .sy s=>E6 L s
 | .co a d=>u7 L a && u7 L d
 | _=>true
structure NT where
 kind:Int
 pkg:f4
 text:f4
 den:f4
def nt (t:A0):NT:=⟨t.kind,t.pkg,t.text,t.den⟩
def okA (L:List Pk):O→Prop
 | .num n d=>0 < d∧Nat.gcd n.natAbs d=1∧(f7 n.natAbs).length≤100∧(f7 d).length≤100
 | .tx t=>t.length≤200
 | .sy s=>named s=true∧E6 L s=true
 | .co a d=>okA L a∧okA L d
 | .no=>False
theorem d5b {p:f4} (h:m7 p=true):a8b p∧p ≠ []:=by
 have hb:E5 p 0=true∧1≤p.length:=by simp [m7] at h;exact ⟨h.2,h.1.1⟩
 refine ⟨?_,fun e=>by rw [e] at hb;simp at hb⟩
 have key:∀ n k,p.length - k=n→E5 p k=true→∀ j,k≤j→j < p.length→a0w (bt p j)=true:=by
  intro n
  induction n with
  | zero=>intro k hk _ j h1 h2;omega
  | succ n ih =>
   intro k hk hp j h1 h2
   rw [E5,if_pos oM] at hp
   split at hp
   ·rename_i hc
    by_cases hj:j=k
    ·subst hj;exact hc
    ·exact ih (k+1) oM hp j oM h2
   ·cases hp
 intro j hj
 have:=key _ 0 rfl hb.1 j (Nat.zero_le _) hj
 simp [a0w] at this
 simp [r8];omega
theorem V8 {s:Sy} (h:named s=true):m7 s.1=true∧s.2.length≤40∧0 < s.2.length:=by
 simp [named] at h;exact ⟨h.1,h.2.2,h.2.1⟩
def Lex (w:f4) (N:List NT):Prop:=∀ s i r,At s i w r→Del r→∃ T:List A0,T.map nt=N∧∀ acc,x4 s i acc=x4 s (i+w.length) (acc ++ T)
theorem c6u {w:f4} {n:NT} (h:∀ s i r,At s i w r→Del r→∃ t:A0,nt t=n∧∀ acc,x4 s i acc=x4 s (i+w.length) (acc ++ [t])):Lex w [n]:=fun s i r ha hr=>by
 obtain ⟨t,h1,h2⟩:=h s i r ha hr
 exact ⟨[t],by simp [h1],h2⟩
theorem d9e {w:f4} (h0:0 < w.length) (hl:w.length≤40):Lex (C8 w false) [⟨6,[],w,[]⟩]:=c6u fun s i r ha hr=>by
 unfold C8 at ha ⊢
 split at ha
 ·rename_i hc;rw [if_pos hc];exact ⟨_,rfl,fun acc=>d49 ha hl h0⟩
 ·rename_i hc
  rw [if_neg hc]
  have h1:K5 w=true:=by cases hs:K5 w with | true=>rfl | false=>exact absurd (.inl hs) hc
  have h2:w ≠ [46]:=fun e=>hc (.inr ⟨rfl,.inl e⟩)
  have h3:(m6 w).2.2=false:=by cases hs:(m6 w).2.2 with | false=>rfl | true=>exact absurd (.inr ⟨rfl,.inr hs⟩) hc
  exact ⟨_,rfl,fun acc=>d13 ha h1 hr h2 h3 hl⟩
theorem d9r {p w:f4} (hp:m7 p=true) (h0:0 < w.length) (hl:w.length≤40):Lex (p ++ 58 :: 58 :: C8 w true) [⟨6,p,w,[]⟩]:=c6u fun s i r ha hr=>by
 obtain ⟨g1,g2⟩:=d5b hp
 unfold C8 at ha ⊢
 split at ha
 ·rename_i hc;rw [if_pos hc];exact ⟨_,rfl,fun acc=>d2l ha g1 g2 hp hl h0⟩
 ·rename_i hc
  rw [if_neg hc]
  have h1:K5 w=true:=by cases hs:K5 w with | true=>rfl | false=>exact absurd (.inl hs) hc
  exact ⟨_,rfl,fun acc=>d2c ha g1 g2 hp h1 hr hl⟩
end
end Go.Proofs.YtffaodopiifbkaaGreatDoor
namespace Go.Proofs.YtffaodopiifbkaaGreatDoor
open Go.Abs LQ
noncomputable section
open Classical
theorem d67 {s:f4} {acc:List A0}:x4 s s.length acc=.ok (acc ++ [⟨0,s.length,[],[],[]⟩]):=by
 rw [a7v (Nat.le_refl _),c3z oM]
 simp only []
 rw [if_neg oM]
 rfl
def eT (w:f4):A0:=⟨0,w.length,[],[],[]⟩
theorem b9i {w:f4} {N:List NT} (h:Lex w N) (hl:w.length≤6000):∃ T:List A0,T.map nt=N∧C6 w=.ok (T ++ [eT w]):=by
 obtain ⟨T,h1,h2⟩:=h w 0 [] (by unfold At;simp) (.inl rfl)
 refine ⟨T,h1,?_⟩
 unfold C6
 rw [if_neg oM,h2,Nat.zero_add,d67,List.nil_append];rfl
open Classical
def A3:O→Option (List O)
 | .co a d=>(A3 d).map (a :: ·)
 | .sy s=>if s=(s7,[110,105,108]) then some [] else none
 | _=>none
def J0 (o:O):Option O:=match A3 o with
 | some [q,x]=>if q=x7 then some x else none
 | _=>none
inductive d7e:List f4→List NT→Prop
 | nil:d7e [] []
 | cons {l:f4} {N:List NT} {ls:List f4} {M:List NT}:Lex l N→d7e ls M→d7e (l :: ls) (N ++ M)
theorem d3x {o:O} (h:A3 o=some []):o=z8:=by
 cases o with
 | sy s=>simp only [A3] at h;split at h;· rename_i e;subst e;rfl
         ·cases h
 | co a d=>simp only [A3] at h;cases hd:A3 d with
  | none=>rw [hd] at h;cases h
  | some l=>rw [hd] at h;cases h
 | _=>cases h
theorem b5x {o a:O} {l:List O} (h:A3 o=some (a :: l)):∃ d,o=.co a d∧A3 d=some l:=by
 cases o with
 | co x d=>simp only [A3] at h;cases hd:A3 d with
  | none=>rw [hd] at h;cases h
  | some m=>rw [hd] at h;simp only [Option.map_some,Option.some.injEq,List.cons.injEq] at h;obtain ⟨rfl,rfl⟩:=h;exact ⟨d,rfl,hd⟩
 | sy s=>simp only [A3] at h;split at h <;> cases h
 | _=>cases h
open Classical
def cT (t:A0):Nat:=2 * t.text.length+t.pkg.length+t.den.length+20
def OkT (t:A0):Prop:=(t.kind=5→∃ (n:Int) (d:Nat),t.text=f8 n∧t.den=f7 d∧0 < d∧Nat.gcd n.natAbs d=1∧(f7 n.natAbs).length≤100∧(f7 d).length≤100)∧(t.kind=7→t.text.length≤200)∧(t.kind=6→t.pkg=[]∨m7 t.pkg=true)
theorem a2z {k:Int} {p:Nat} (h5:k ≠ 5) (h7:k ≠ 7):OkT ⟨k,p,q7,q7,q7⟩:=⟨fun h=>absurd h h5,fun h=>absurd h h7,fun _=>.inl rfl⟩
theorem b5u {p a b:f4} {i:Nat} (h:p=[]∨m7 p=true):OkT ⟨6,i,p,a,b⟩:=⟨fun h=>absurd h (show ¬(6:Int)=5 by decide),fun h=>absurd h (show ¬(6:Int)=7 by decide),fun _=>h⟩
theorem e81 {p a b:f4} {i:Nat} (h:a.length≤200):OkT ⟨7,i,p,a,b⟩:=⟨fun h=>absurd h (show ¬(7:Int)=5 by decide),fun _=>h,fun h=>absurd h (show ¬(7:Int)=6 by decide)⟩
theorem e25 {p:f4} {i:Nat} {n:Int} {d:Nat} (h:0 < d∧Nat.gcd n.natAbs d=1∧(f7 n.natAbs).length≤100∧(f7 d).length≤100):OkT ⟨5,i,p,f8 n,f7 d⟩:=⟨fun _=>⟨n,d,rfl,rfl,h⟩,fun h=>absurd h (show ¬(5:Int)=7 by decide),fun h=>absurd h (show ¬(5:Int)=6 by decide)⟩
theorem sh1:f7 1=P5:=by unfold f7;rw [if_neg dE,C9 dE,show 1 / 10=0 from rfl,u3];rfl
theorem sh0:f8 0=u6:=by unfold f8 f7;rfl
theorem c6w (s:f4) (e:Nat):∀ (k:Nat) (acc:List Nat),(s9 s e k acc).length=acc.length+(k - e)
 | 0,acc=>by simp [s9]
 | k+1,acc=>by
  rw [s9]
  split
  ·rw [c6w s e k];simp;omega
  ·omega
theorem c6n (s:f4):(i7 (f6 s).natAbs).length≤s.length:=by
 have h:=congrArg Prod.snd (b1y s)
 simp only [] at h
 rw [← h]
 unfold Y2
 split
 ·simp only [c6w,List.length_nil];omega
 ·simp
theorem b9u {m n:Nat} (h:m≤n):(i7 m).length≤(i7 n).length:=by
 by_cases h0:m=0
 ·subst h0;rw [u3];simp
 ·have h1:=a7q m h0
  have h2:=a1h (i7 n) (B6 n)
  rw [A9] at h2
  have h3:10 ^ ((i7 m).length - 1) < 10 ^ (i7 n).length:=oM
  have:=(Nat.pow_lt_pow_iff_right (by decide:1 < 10)).1 h3
  omega
theorem b4x (m:Nat):(f7 m).length≤max 1 (i7 m).length:=by
 by_cases h:m=0
 ·subst h;show 1≤_;omega
 ·rw [N9 m h];omega
theorem a5t (s:f4):(plain s).length≤max 1 s.length:=by
 unfold plain
 have h1:=J8 s
 have h2:=a77 s (g7 s) h1.1
 simp only []
 split
 ·show 1≤_;omega
 ·split
  ·simp only [List.length_append,List.length_drop,List.length_take,List.length_cons,List.length_nil];omega
  ·simp only [List.length_drop,List.length_take];omega
theorem c55 (w:f4):(m6 w).1.length≤w.length∧(m6 w).2.1.length≤max 1 w.length:=by
 unfold m6
 simp only []
 repeat' split
 all_goals (simp only [q7,P5,List.length_nil,List.length_cons,List.length_drop,List.length_take];omega)
theorem a92 (a b:f4):∃ (n:Int) (d:Nat),n9 a b=(f8 n,f7 d)∧0 < d∧Nat.gcd n.natAbs d=1∧(f7 n.natAbs).length≤max 1 a.length∧(f7 d).length≤max 1 b.length:=by
 unfold n9
 by_cases h0:f6 b=0
 ·rw [if_pos h0]
  exact ⟨0,1,by rw [sh0,sh1],dE,dE,by show 1≤_;omega,by rw [sh1];show 1≤_;omega⟩
 ·rw [if_neg h0]
  simp only []
  have hd:0 < (f6 b).natAbs:=oM
  have hg:0 < Nat.gcd (f6 a).natAbs (f6 b).natAbs:=Nat.gcd_pos_of_pos_right _ hd
  refine ⟨_,_,rfl,Nat.div_pos (Nat.le_of_dvd hd (Nat.gcd_dvd_right _ _)) hg,?_,?_,?_⟩
  ·have e:∀ x:Nat,(((if (f6 a < 0)=(f6 b < 0) then (1:Int) else -1) * ((x:Nat):Int))).natAbs=x:=by
    intro x;split <;> omega
   rw [e]
   rw [Nat.gcd_div (Nat.gcd_dvd_left _ _) (Nat.gcd_dvd_right _ _),Nat.div_self hg]
  ·have e:∀ x:Nat,(((if (f6 a < 0)=(f6 b < 0) then (1:Int) else -1) * ((x:Nat):Int))).natAbs=x:=by
    intro x;split <;> omega
   rw [e]
   have h1:=b4x ((f6 a).natAbs / Nat.gcd (f6 a).natAbs (f6 b).natAbs)
   have h2:=b9u (Nat.div_le_self (f6 a).natAbs (Nat.gcd (f6 a).natAbs (f6 b).natAbs))
   have h3:=c6n a
   omega
  ·have h1:=b4x ((f6 b).natAbs / Nat.gcd (f6 a).natAbs (f6 b).natAbs)
   have h2:=b9u (Nat.div_le_self (f6 b).natAbs (Nat.gcd (f6 a).natAbs (f6 b).natAbs))
   have h3:=c6n b
   omega
theorem a5f {s:f4} {c:Int} {i:Nat} {acc l:List Int} {j:Nat} (h:G5 s c i acc=.ok (l,j)):l.length+i+1≤acc.length+j:=by
 fun_induction G5 s c i acc with
 | case1 i acc h1 h2=>injection h with h;injection h with h3 h4;subst h3;omega
 | case2 i acc h1 h2 h3 ih=>have:=ih h;simp at this;omega
 | case3=>cases h
 | case4 i acc h1 h2 h3 h4 h5 ih=>have:=ih h;simp at this;omega
 | case5=>cases h
 | case6=>cases h
theorem a0d (l:List Int):(D7 l).length=l.length:=by simp [D7]
theorem a9q {t p:f4} {b:Bool} (h:n7 t p b=0):p=[]∨m7 p=true:=by
 unfold n7 at h
 split at h
 ·cases h
 ·split at h
  ·cases h
  ·rename_i hc
   by_cases hp:p=[]
   ·exact .inl hp
   ·right
    cases hv:m7 p with
    | true=>rfl
    | false=>exact absurd (.inr ⟨fun e=>hp (List.length_eq_zero_iff.1 e),hv⟩) hc
theorem c0d {i k:Nat} {w:f4} {t:A0} {k':Nat} (h:F7 i w k=.ok (t,k')) (h0:0 < w.length):OkT t∧cT t≤26 * w.length∧k'=k:=by
 unfold F7 at h
 have hn:=c55 w
 split at h
 ·injection h with h;injection h with h1 h2;subst h1 h2
  exact ⟨a2z dE dE,by simp [cT,q7];omega,rfl⟩
 ·split at h
  ·split at h
   ·cases h
   ·simp only [] at h
    split at h
    ·cases h
    ·rename_i hdg
     injection h with h;injection h with h1 h2;subst h1 h2
     have p1:=a5t (m6 w).1
     have p2:=a5t (m6 w).2.1
     obtain ⟨n,d,e,hd,hg,l1,l2⟩:=a92 (plain (m6 w).1) (plain (m6 w).2.1)
     rw [e] at hdg ⊢
     rw [a6r,a2m] at hdg
     refine ⟨e25 ⟨hd,hg,oM,oM⟩,?_,rfl⟩
     have l3:(f8 n).length≤1+(f7 n.natAbs).length:=by
      rw [a1l,List.length_append]
      have:(LQ.sgn n).length≤1:=by unfold LQ.sgn;split <;> simp
      omega
     simp only [cT,q7,List.length_nil]
     omega
  ·split at h
   ·rename_i he
    injection h with h;injection h with h1 h2;subst h1 h2
    exact ⟨b5u (.inl rfl),by simp [cT,q7];omega,rfl⟩
   ·cases h
theorem c0g {s p:f4} {i k k':Nat} {t:A0} (h:H5 s i p k=.ok (t,k')) (hp:p.length+i≤k):OkT t∧cT t≤26 * (k' - i):=by
 unfold H5 at h
 split at h
 ·rename_i hl
  split at h
  ·split at h
   ·cases h
   ·rename_i l j he
    split at h
    ·rename_i hz
     injection h with h;injection h with h1 h2;subst h1 h2
     have:=a5f he
     simp only [List.length_nil] at this
     refine ⟨b5u (a9q hz),?_⟩
     simp only [cT,q7,List.length_nil,a0d]
     omega
    ·cases h
  ·split at h
   ·rename_i hc
    simp only [] at h
    split at h
    ·rename_i hz
     injection h with h;injection h with h1 h2;subst h1 h2
     have hw:=F3 s (k+2) oM
     refine ⟨b5u (a9q hz),?_⟩
     simp only [cT,q7,List.length_nil,List.length_drop,List.length_take]
     omega
    ·cases h
   ·cases h
 ·cases h
theorem c2y {s:f4} {i k:Nat} {t:A0} (hi:i < s.length) (h:y7 s i=.ok (t,k)):OkT t∧cT t≤26 * (k - i):=by
 unfold y7 at h
 split at h
 ·injection h with h;injection h with h1 h2;subst h1 h2;exact ⟨a2z dE dE,by simp [cT,q7]⟩
 split at h
 ·injection h with h;injection h with h1 h2;subst h1 h2;exact ⟨a2z dE dE,by simp [cT,q7]⟩
 split at h
 ·injection h with h;injection h with h1 h2;subst h1 h2;exact ⟨a2z dE dE,by simp [cT,q7]⟩
 split at h
 ·split at h
  ·cases h
  ·rename_i l j he
   split at h
   ·cases h
   ·injection h with h;injection h with h1 h2;subst h1 h2
    have:=a5f he
    simp only [List.length_nil] at this
    exact ⟨e81 (by simp only [a0d];omega),by simp only [cT,q7,List.length_nil,a0d];omega⟩
 split at h
 ·split at h
  ·cases h
  ·rename_i l j he
   split at h
   ·injection h with h;injection h with h1 h2;subst h1 h2
    have:=a5f he
    simp only [List.length_nil] at this
    exact ⟨b5u (.inl rfl),by simp only [cT,q7,List.length_nil,a0d];omega⟩
   ·cases h
 split at h
 ·rename_i hc
  have hw:=F3 s i oM
  have hw2:i < l5 s i:=by rw [l5,if_pos hi,if_pos hc];have:=F3 s (i+1) oM;omega
  have hl:((s.take (l5 s i)).drop i).length=l5 s i - i:=by simp;omega
  split at h
  ·exact c0g h (by rw [hl];omega)
  ·obtain ⟨h1,h2,h3⟩:=c0d h (by rw [hl];omega)
   subst h3
   rw [hl] at h2
   exact ⟨h1,h2⟩
 ·cases h
theorem a8z {s:f4}:∀ (m:Nat) {i:Nat} {acc T:List A0},s.length - i≤m→i≤s.length→x4 s i acc=.ok T→∃ T',T=acc ++ T'∧(∀ t ∈ T',OkT t)∧(T'.map cT).sum≤26 * (s.length - i)+20∧T'.length≤s.length - i+1
 | m,i,acc,T,hm,hi,h=>by
  rw [a7v hi] at h
  split at h
  ·cases h
  ·rename_i j hs
   have hj:=a7b hi hs
   split at h
   ·rename_i hlt
    split at h
    ·cases h
    ·rename_i t k ht
     have h1:=a5w hlt ht
     have h2:=c2y hlt ht
     cases m with
     | zero=>omega
     | succ m =>
      obtain ⟨T',e1,e2,e3,e4⟩:=a8z m oM h1.2 h
      refine ⟨t :: T',by rw [e1];simp,?_,?_,?_⟩
      ·intro x hx
       rcases List.mem_cons.1 hx with rfl | hx
       ·exact h2.1
       ·exact e2 x hx
      ·simp only [List.map_cons,List.sum_cons];omega
      ·simp only [List.length_cons];omega
   ·injection h with h
    refine ⟨[⟨0,s.length,q7,q7,q7⟩],h.symm,?_,by simp [cT,q7],by simp⟩
    intro t ht
    rw [List.mem_singleton.1 ht];exact a2z dE dE
theorem c6f (c:UInt8) (l:f4):(E9 c l).length≤2 * l.length:=by
 induction l with
 | nil=>simp [E9]
 | cons b l ih =>
  have e:E9 c (b :: l)=(if b=c∨b=92 then [92,b] else [b]) ++ E9 c l:=by simp [E9]
  rw [e,List.length_append]
  split <;> simp <;> omega
theorem c8f (c:UInt8) (l:f4):(D1 c l).length≤2 * l.length+2:=by rw [a8c];have:=c6f c l;omega
theorem a89 (w:f4) (q:Bool):(C8 w q).length≤2 * w.length+2:=by
 unfold C8;split
 ·exact c8f _ _
 ·omega
theorem d7n (L:List Pk) (cur:f4) (s:Sy):(G2 L cur s).1.length≤s.1.length+2 * s.2.length+4:=by
 have h1:=a89 s.2 false
 have h2:=a89 s.2 true
 unfold G2
 repeat' split
 all_goals simp
 all_goals omega
theorem d82 (n:Int) (d:Nat):(b3f n d).length≤(f8 n).length+(f7 d).length+1:=by
 unfold b3f
 split
 ·omega
 ·rw [List.length_append,List.length_cons];omega
structure f9a (L:List Pk) (cur:f4):Prop where
 home:∀ c n s,(c=cur∨m7 c=true)→A8 L c n=(s,0)→E6 L s=true∧named s=true∧s.1.length≤c.length+4
 cur4:cur.length≤4
 nilH:E6 L (s7,[110,105,108])=true
 quoteH:E6 L (s7,[113,117,111,116,101])=true
section
variable {L:List Pk} {cur:f4} {T:List A0}
theorem c4k (a d:O):(pT L cur (.co a d)).1.length≤(pT L cur (.co a d)).2.1.length:=by
 simp only [pT]
 split
 ·split
  ·rename_i t ht
   obtain ⟨x,hx⟩:∃ x,d=.co x z8∧t=(pT L cur x).1:=by
    cases d with
    | co x y =>
     simp only [pT] at ht
     split at ht
     ·rename_i hz;injection ht with ht;exact ⟨x,by rw [hz],ht.symm⟩
     ·cases ht
    | _=>cases ht
   obtain ⟨rfl,rfl⟩:=hx
   simp only [pT,List.length_cons,List.length_append]
   omega
  ·simp
 ·simp
end
open Classical
structure f9d (T:List A0):Prop where
 len:T.length < 8000
 ok:∀ t ∈ T,OkT t
 last:∀ i,i+1=T.length→(T.getD i t0).kind=0
 pos:0 < T.length
 kinds:∀ t ∈ T,0≤t.kind∧t.kind≤7
section
variable {L:List Pk} {cur:f4} {T:List A0}
def f1p (L:List Pk) (cur:f4) (T:List A0) (d i:Nat):Except (Int × Nat) (O × Nat):=c8m L cur T (2 * T.length+2) d i
end
end
end Go.Proofs.YtffaodopiifbkaaGreatDoor
