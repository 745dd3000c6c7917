/- Packages and the reading of objects from A7: what they compute. No program in sight. -/
import Derived.Test.YtffaodopiifbkaaGreatDoorCR5e
import Derived.Test.YtffaodopiifbkaaGreatDoorCN
set_option linter.all false
namespace Go.Proofs.YtffaodopiifbkaaGreatDoor
open Go.Abs LQ
abbrev Pk:=j0 × List Sy
def pg (p:Pk):List G:=[.s p.1,.l (p.2.map sg)]
theorem a1a (p:Pk):(pg p).length=2:=rfl
def K6:List Pk→j0→Option Pk
 | [],_=>none
 | p :: l,n=>if p.1=n then some p else K6 l n
def a10:List Sy→j0→Option Sy
 | [],_=>none
 | s :: l,n=>if s.2=n then some s else a10 l n
def y4 (L:List Pk) (cur nm:j0):Sy × Int :=
 match K6 L cur with
 | none=>(([],[]),13)
 | some p=>if nm.length < 1∨40 < nm.length then (([],[]),3) else
  match a10 p.2 nm with
  | some s=>(s,0)
  | none=>((cur,nm),0)
def b31 (L:List Pk) (cur:j0) (s:Sy):Bool:=decide ((y4 L cur s.2).2=0∧(y4 L cur s.2).1=s)
def a1p (L:List Pk) (s:Sy):Bool:=b31 L s.1 s
def t0:y3:=⟨0,0,[],[],[]⟩
def U4:O:=.sy (y8,[113,117,111,116,101])
def U1:List O→O→O
 | [],e=>e
 | x :: l,e=>.co x (U1 l e)
def b4u (t:y3):O:=.num (i7 t.text) (i7 t.den).natAbs
mutual
/-- The object at a token, inside depth others, and the place behind it; or the error and its offset. -/
def N7 (L:List Pk) (cur:j0) (T:List y3):Nat→Nat→Nat→Except (Int × Nat) (O × Nat)
 | 0,_,_=>.error (0,0)
 | n+1,d,i =>
  let t:=T.getD i t0
  if t.kind=0 then .error (11,t.pos)
  else if t.kind=2∨t.kind=3 then .error (12,t.pos)
  else if t.kind=5 then .ok (b4u t,i+1)
  else if t.kind=7 then .ok (.tx t.text,i+1)
  else if t.kind=6 then
   let r:=y4 L (if t.pkg=[] then cur else t.pkg) t.text
   if r.2=0 then .ok (.sy r.1,i+1) else .error (r.2,t.pos)
  else if 200 < d then .error (2,t.pos)
  else if t.kind=4 then
   match N7 L cur T n (d+1) (i+1) with
   | .error e=>.error e
   | .ok (x,j)=>.ok (Q3 [U4,x],j)
  else a0k L cur T n (d+1) (i+1) []
/-- The rest of a list. -/
def a0k (L:List Pk) (cur:j0) (T:List y3):Nat→Nat→Nat→List O→Except (Int × Nat) (O × Nat)
 | 0,_,_,_=>.error (0,0)
 | n+1,d,i,acc =>
  let t:=T.getD i t0
  if t.kind=2 then .ok (U1 acc R3,i+1)
  else if t.kind=3∧acc ≠ [] then
   match N7 L cur T n d (i+1) with
   | .error e=>.error e
   | .ok (x,j) =>
    let u:=T.getD j t0
    if u.kind=2 then .ok (U1 acc x,j+1)
    else if u.kind=0 then .error (11,u.pos)
    else .error (12,u.pos)
  else
   match N7 L cur T n d i with
   | .error e=>.error e
   | .ok (x,j)=>a0k L cur T n d j (acc ++ [x])
end
def D8 (L:List Pk) (cur:j0) (T:List y3):Nat→Nat→List (O × Nat)→Except (Int × Nat) (List (O × Nat))
 | 0,_,_=>.error (0,0)
 | m+1,i,acc =>
  let t:=T.getD i t0
  if t.kind=0 then .ok acc
  else if 100≤acc.length∧t.kind ≠ 2∧t.kind ≠ 3 then .error (2,t.pos)
  else
   match N7 L cur T (2 * T.length+2) 0 i with
   | .error e=>.error e
   | .ok (x,j)=>if 3000 < x.size then .error (2,t.pos) else D8 L cur T m j (acc ++ [(x,t.pos)])
def y7 (L:List Pk) (cur s:j0):Except (Int × Nat) (List (O × Nat)) :=
 match A7 s with
 | .error e=>.error e
 | .ok T=>D8 L cur T (T.length+1) 0 []
end Go.Proofs.YtffaodopiifbkaaGreatDoor
namespace Go.Proofs.YtffaodopiifbkaaGreatDoor
open Go.Abs LQ
noncomputable section
open Classical
structure NT where
 kind:Int
 pkg:j0
 text:j0
 den:j0
def nt (t:y3):NT:=⟨t.kind,t.pkg,t.text,t.den⟩
def Lex (w:j0) (N:List NT):Prop:=∀ s i r,At s i w r→Del r→∃ T:List y3,T.map nt=N∧∀ acc,D7 s i acc=D7 s (i+w.length) (acc ++ T)
open Classical
open Classical
inductive d7i:List j0→List NT→Prop
 | nil:d7i [] []
 | cons {l:j0} {N:List NT} {ls:List j0} {M:List NT}:Lex l N→d7i ls M→d7i (l :: ls) (N ++ M)
open Classical
def cT (t:y3):Nat:=2 * t.text.length+t.pkg.length+t.den.length+20
def OkT (t:y3):Prop:=(t.kind=5→∃ (n:Int) (d:Nat),t.text=j6 n∧t.den=j5 d∧0 < d∧Nat.gcd n.natAbs d=1∧(j5 n.natAbs).length≤100∧(j5 d).length≤100)∧(t.kind=7→t.text.length≤200)∧(t.kind=6→t.pkg=[]∨u5 t.pkg=true)
theorem a3c {k:Int} {p:Nat} (h5:k ≠ 5) (h7:k ≠ 7):OkT ⟨k,p,u4,u4,u4⟩:=⟨fun h=>absurd h h5,fun h=>absurd h h7,fun _=>.inl rfl⟩
theorem b6y {p a b:j0} {i:Nat} (h:p=[]∨u5 p=true):OkT ⟨6,i,p,a,b⟩:=⟨fun h=>absurd h (show ¬(6:Int)=5 by decide),fun h=>absurd h (show ¬(6:Int)=7 by decide),fun _=>h⟩
theorem e9p {p a b:j0} {i:Nat} (h:a.length≤200):OkT ⟨7,i,p,a,b⟩:=⟨fun h=>absurd h (show ¬(7:Int)=5 by decide),fun _=>h,fun h=>absurd h (show ¬(7:Int)=6 by decide)⟩
theorem e2o {p:j0} {i:Nat} {n:Int} {d:Nat} (h:0 < d∧Nat.gcd n.natAbs d=1∧(j5 n.natAbs).length≤100∧(j5 d).length≤100):OkT ⟨5,i,p,j6 n,j5 d⟩:=⟨fun _=>⟨n,d,rfl,rfl,h⟩,fun h=>absurd h (show ¬(5:Int)=7 by decide),fun h=>absurd h (show ¬(5:Int)=6 by decide)⟩
theorem sh1:j5 1=S5:=by unfold j5;rw [if_neg dE,F4 dE,show 1 / 10=0 from rfl,y6];rfl
theorem sh0:j6 0=x6:=by unfold j6 j5;rfl
theorem c7v (s:j0) (e:Nat):∀ (k:Nat) (acc:List Nat),(w6 s e k acc).length=acc.length+(k - e)
 | 0,acc=>by simp [w6]
 | k+1,acc=>by
  rw [w6]
  split
  ·rw [c7v s e k];simp;omega
  ·omega
theorem c7j (s:j0):(j8 (i7 s).natAbs).length≤s.length:=by
 have h:=congrArg Prod.snd (b2d s)
 simp only [] at h
 rw [← h]
 unfold Z7
 split
 ·simp only [c7v,List.length_nil];omega
 ·simp
theorem b9o {m n:Nat} (h:m≤n):(j8 m).length≤(j8 n).length:=by
 by_cases h0:m=0
 ·subst h0;rw [y6];simp
 ·have h1:=b1x m h0
  have h2:=a1q (j8 n) (C2 n)
  rw [B4] at h2
  have h3:10 ^ ((j8 m).length - 1) < 10 ^ (j8 n).length:=oM
  have:=(Nat.pow_lt_pow_iff_right (by decide:1 < 10)).1 h3
  omega
theorem b69 (m:Nat):(j5 m).length≤max 1 (j8 m).length:=by
 by_cases h:m=0
 ·subst h;show 1≤_;omega
 ·rw [O1 m h];omega
theorem a04 (s:j0):(plain s).length≤max 1 s.length:=by
 unfold plain
 have h1:=K5 s
 have h2:=a9q s (j4 s) h1.1
 simp only []
 split
 ·show 1≤_;omega
 ·split
  ·simp only [List.length_append,List.length_drop,List.length_take,List.length_cons,List.length_nil];omega
  ·simp only [List.length_drop,List.length_take];omega
theorem b29 (w:j0):(m6 w).1.length≤w.length∧(m6 w).2.1.length≤max 1 w.length:=by
 unfold m6
 simp only []
 repeat' split
 all_goals (simp only [u4,S5,List.length_nil,List.length_cons,List.length_drop,List.length_take];omega)
theorem a6b (a b:j0):∃ (n:Int) (d:Nat),s7 a b=(j6 n,j5 d)∧0 < d∧Nat.gcd n.natAbs d=1∧(j5 n.natAbs).length≤max 1 a.length∧(j5 d).length≤max 1 b.length:=by
 unfold s7
 by_cases h0:i7 b=0
 ·rw [if_pos h0]
  exact ⟨0,1,by rw [sh0,sh1],dE,dE,by show 1≤_;omega,by rw [sh1];show 1≤_;omega⟩
 ·rw [if_neg h0]
  simp only []
  have hd:0 < (i7 b).natAbs:=oM
  have hg:0 < Nat.gcd (i7 a).natAbs (i7 b).natAbs:=Nat.gcd_pos_of_pos_right _ hd
  refine ⟨_,_,rfl,Nat.div_pos (Nat.le_of_dvd hd (Nat.gcd_dvd_right _ _)) hg,?_,?_,?_⟩
  ·have e:∀ x:Nat,(((if (i7 a < 0)=(i7 b < 0) then (1:Int) else -1) * ((x:Nat):Int))).natAbs=x:=by
    intro x;split <;> omega
   rw [e]
   rw [Nat.gcd_div (Nat.gcd_dvd_left _ _) (Nat.gcd_dvd_right _ _),Nat.div_self hg]
  ·have e:∀ x:Nat,(((if (i7 a < 0)=(i7 b < 0) then (1:Int) else -1) * ((x:Nat):Int))).natAbs=x:=by
    intro x;split <;> omega
   rw [e]
   have h1:=b69 ((i7 a).natAbs / Nat.gcd (i7 a).natAbs (i7 b).natAbs)
   have h2:=b9o (Nat.div_le_self (i7 a).natAbs (Nat.gcd (i7 a).natAbs (i7 b).natAbs))
   have h3:=c7j a
   omega
  ·have h1:=b69 ((i7 b).natAbs / Nat.gcd (i7 a).natAbs (i7 b).natAbs)
   have h2:=b9o (Nat.div_le_self (i7 b).natAbs (Nat.gcd (i7 a).natAbs (i7 b).natAbs))
   have h3:=c7j b
   omega
theorem b3p {s:j0} {c:Int} {i:Nat} {acc l:List Int} {j:Nat} (h:C1 s c i acc=.ok (l,j)):l.length+i+1≤acc.length+j:=by
 fun_induction C1 s c i acc with
 | case1 i acc h1 h2=>injection h with h;injection h with h3 h4;subst h3;omega
 | case2 i acc h1 h2 h3 ih=>have:=ih h;simp at this;omega
 | case3=>cases h
 | case4 i acc h1 h2 h3 h4 h5 ih=>have:=ih h;simp at this;omega
 | case5=>cases h
 | case6=>cases h
theorem a5n (l:List Int):(D5 l).length=l.length:=by simp [D5]
theorem a91 {t p:j0} {b:Bool} (h:q7 t p b=0):p=[]∨u5 p=true:=by
 unfold q7 at h
 split at h
 ·cases h
 ·split at h
  ·cases h
  ·rename_i hc
   by_cases hp:p=[]
   ·exact .inl hp
   ·right
    cases hv:u5 p with
    | true=>rfl
    | false=>exact absurd (.inr ⟨fun e=>hp (List.length_eq_zero_iff.1 e),hv⟩) hc
theorem c0t {i k:Nat} {w:j0} {t:y3} {k':Nat} (h:G1 i w k=.ok (t,k')) (h0:0 < w.length):OkT t∧cT t≤26 * w.length∧k'=k:=by
 unfold G1 at h
 have hn:=b29 w
 split at h
 ·injection h with h;injection h with h1 h2;subst h1 h2
  exact ⟨a3c dE dE,by simp [cT,u4];omega,rfl⟩
 ·split at h
  ·split at h
   ·cases h
   ·simp only [] at h
    split at h
    ·cases h
    ·rename_i hdg
     injection h with h;injection h with h1 h2;subst h1 h2
     have p1:=a04 (m6 w).1
     have p2:=a04 (m6 w).2.1
     obtain ⟨n,d,e,hd,hg,l1,l2⟩:=a6b (plain (m6 w).1) (plain (m6 w).2.1)
     rw [e] at hdg ⊢
     rw [c5t,b3a] at hdg
     refine ⟨e2o ⟨hd,hg,oM,oM⟩,?_,rfl⟩
     have l3:(j6 n).length≤1+(j5 n.natAbs).length:=by
      rw [a32,List.length_append]
      have:(LQ.sgn n).length≤1:=by unfold LQ.sgn;split <;> simp
      omega
     simp only [cT,u4,List.length_nil]
     omega
  ·split at h
   ·rename_i he
    injection h with h;injection h with h1 h2;subst h1 h2
    exact ⟨b6y (.inl rfl),by simp [cT,u4];omega,rfl⟩
   ·cases h
theorem c0y {s p:j0} {i k k':Nat} {t:y3} (h:K4 s i p k=.ok (t,k')) (hp:p.length+i≤k):OkT t∧cT t≤26 * (k' - i):=by
 unfold K4 at h
 split at h
 ·rename_i hl
  split at h
  ·split at h
   ·cases h
   ·rename_i l j he
    split at h
    ·rename_i hz
     injection h with h;injection h with h1 h2;subst h1 h2
     have:=b3p he
     simp only [List.length_nil] at this
     refine ⟨b6y (a91 hz),?_⟩
     simp only [cT,u4,List.length_nil,a5n]
     omega
    ·cases h
  ·split at h
   ·rename_i hc
    simp only [] at h
    split at h
    ·rename_i hz
     injection h with h;injection h with h1 h2;subst h1 h2
     have hw:=E5 s (k+2) oM
     refine ⟨b6y (a91 hz),?_⟩
     simp only [cT,u4,List.length_nil,List.length_drop,List.length_take]
     omega
    ·cases h
   ·cases h
 ·cases h
theorem c3t {s:j0} {i k:Nat} {t:y3} (hi:i < s.length) (h:B3 s i=.ok (t,k)):OkT t∧cT t≤26 * (k - i):=by
 unfold B3 at h
 split at h
 ·injection h with h;injection h with h1 h2;subst h1 h2;exact ⟨a3c dE dE,by simp [cT,u4]⟩
 split at h
 ·injection h with h;injection h with h1 h2;subst h1 h2;exact ⟨a3c dE dE,by simp [cT,u4]⟩
 split at h
 ·injection h with h;injection h with h1 h2;subst h1 h2;exact ⟨a3c dE dE,by simp [cT,u4]⟩
 split at h
 ·split at h
  ·cases h
  ·rename_i l j he
   split at h
   ·cases h
   ·injection h with h;injection h with h1 h2;subst h1 h2
    have:=b3p he
    simp only [List.length_nil] at this
    exact ⟨e9p (by simp only [a5n];omega),by simp only [cT,u4,List.length_nil,a5n];omega⟩
 split at h
 ·split at h
  ·cases h
  ·rename_i l j he
   split at h
   ·injection h with h;injection h with h1 h2;subst h1 h2
    have:=b3p he
    simp only [List.length_nil] at this
    exact ⟨b6y (.inl rfl),by simp only [cT,u4,List.length_nil,a5n];omega⟩
   ·cases h
 split at h
 ·rename_i hc
  have hw:=E5 s i oM
  have hw2:i < n7 s i:=by rw [n7,if_pos hi,if_pos hc];have:=E5 s (i+1) oM;omega
  have hl:((s.take (n7 s i)).drop i).length=n7 s i - i:=by simp;omega
  split at h
  ·exact c0y h (by rw [hl];omega)
  ·obtain ⟨h1,h2,h3⟩:=c0t h (by rw [hl];omega)
   subst h3
   rw [hl] at h2
   exact ⟨h1,h2⟩
 ·cases h
theorem a9o {s:j0}:∀ (m:Nat) {i:Nat} {acc T:List y3},s.length - i≤m→i≤s.length→D7 s i acc=.ok T→∃ T',T=acc ++ T'∧(∀ t ∈ T',OkT t)∧(T'.map cT).sum≤26 * (s.length - i)+20∧T'.length≤s.length - i+1
 | m,i,acc,T,hm,hi,h=>by
  rw [Y5 hi] at h
  split at h
  ·cases h
  ·rename_i j hs
   have hj:=R5 hi hs
   split at h
   ·rename_i hlt
    split at h
    ·cases h
    ·rename_i t k ht
     have h1:=X5 hlt ht
     have h2:=c3t hlt ht
     cases m with
     | zero=>omega
     | succ m =>
      obtain ⟨T',e1,e2,e3,e4⟩:=a9o m oM h1.2 h
      refine ⟨t :: T',by rw [e1];simp,?_,?_,?_⟩
      ·intro x hx
       rcases List.mem_cons.1 hx with rfl | hx
       ·exact h2.1
       ·exact e2 x hx
      ·simp only [List.map_cons,List.sum_cons];omega
      ·simp only [List.length_cons];omega
   ·injection h with h
    refine ⟨[⟨0,s.length,u4,u4,u4⟩],h.symm,?_,by simp [cT,u4],by simp⟩
    intro t ht
    rw [List.mem_singleton.1 ht];exact a3c dE dE
structure f77 (L:List Pk) (cur:j0):Prop where
 home:∀ c n s,(c=cur∨u5 c=true)→y4 L c n=(s,0)→a1p L s=true∧named s=true∧s.1.length≤c.length+4
 cur4:cur.length≤4
 nilH:a1p L (y8,[110,105,108])=true
 quoteH:a1p L (y8,[113,117,111,116,101])=true
section
variable {L:List Pk} {cur:j0} {T:List y3}
end
open Classical
structure a5u (T:List y3):Prop where
 len:T.length < 8000
 ok:∀ t ∈ T,OkT t
 last:∀ i,i+1=T.length→(T.getD i t0).kind=0
 pos:0 < T.length
 kinds:∀ t ∈ T,0≤t.kind∧t.kind≤7
theorem c3c {s:j0} {i k:Nat} {t:y3} (h:B3 s i=.ok (t,k)):1≤t.kind∧t.kind≤7:=by
 have fin:∀ {x:y3} {y:Nat},1≤x.kind∧x.kind≤7→(Except.ok (x,y):Except (Int × Nat) (y3 × Nat))=.ok (t,k)→1≤t.kind∧t.kind≤7:=by
  intro x y hx h;injection h with h;injection h with h1 h2;rw [← h1];exact hx
 unfold B3 at h
 repeat' split at h
 all_goals try (cases h;done)
 all_goals try exact fin (show (1:Int)≤6∧(6:Int)≤7 by decide) h
 all_goals try exact fin (show (1:Int)≤7∧(7:Int)≤7 by decide) h
 all_goals try exact fin (show (1:Int)≤1∧(1:Int)≤7 by decide) h
 all_goals try exact fin (show (1:Int)≤2∧(2:Int)≤7 by decide) h
 all_goals try exact fin (show (1:Int)≤4∧(4:Int)≤7 by decide) h
 ·unfold K4 at h
  simp only [] at h
  repeat' split at h
  all_goals try (cases h;done)
  all_goals exact fin (show (1:Int)≤6∧(6:Int)≤7 by decide) h
 ·unfold G1 at h
  simp only [] at h
  repeat' split at h
  all_goals try (cases h;done)
  all_goals first | exact fin (show (1:Int)≤3∧(3:Int)≤7 by decide) h | exact fin (show (1:Int)≤5∧(5:Int)≤7 by decide) h | exact fin (show (1:Int)≤6∧(6:Int)≤7 by decide) h
section
variable {L:List Pk} {cur:j0} {T:List y3}
theorem b8i {i:Nat} (h:(T.getD i t0).kind ≠ 0):i < T.length:=by
 by_cases hi:i < T.length
 ·exact hi
 ·exfalso;apply h
  have:T.getD i t0=t0:=by simp [List.getD,List.getElem?_eq_none (by omega:T.length≤i)]
  rw [this];rfl
theorem c36:∀ n:Nat,(∀ d i o j,N7 L cur T n d i=.ok (o,j)→i < j∧(T.getD (j - 1) t0).kind ≠ 0)∧(∀ d i acc o j,a0k L cur T n d i acc=.ok (o,j)→i < j∧(T.getD (j - 1) t0).kind ≠ 0):=by
 intro n
 induction n with
 | zero=>exact ⟨fun d i o j h=>(by rw [N7] at h;cases h),fun d i acc o j h=>(by rw [a0k] at h;cases h)⟩
 | succ n ih =>
  obtain ⟨ih1,ih2⟩:=ih
  constructor
  ·intro d i o j h
   rw [N7] at h
   simp only [] at h
   split at h
   ·cases h
   rename_i k0
   split at h
   ·cases h
   split at h
   ·injection h with h;injection h with h1 h2;subst h2;exact ⟨oM,k0⟩
   split at h
   ·injection h with h;injection h with h1 h2;subst h2;exact ⟨oM,k0⟩
   split at h
   ·generalize (if (T.getD i t0).pkg=[] then cur else (T.getD i t0).pkg)=c at h
    split at h
    ·injection h with h;injection h with h1 h2;subst h2;exact ⟨oM,k0⟩
    ·cases h
   split at h
   ·cases h
   split at h
   ·split at h
    ·cases h
    ·rename_i x j' hx
     injection h with h;injection h with h1 h2;subst h2
     have:=ih1 _ _ _ _ hx
     exact ⟨oM,this.2⟩
   ·have:=ih2 _ _ _ _ _ h
    exact ⟨oM,this.2⟩
  ·intro d i acc o j h
   rw [a0k] at h
   simp only [] at h
   split at h
   ·rename_i k2
    injection h with h;injection h with h1 h2;subst h2
    exact ⟨oM,by show (T.getD i t0).kind ≠ 0;rw [k2];decide⟩
   split at h
   ·split at h
    ·cases h
    ·rename_i x j' hx
     split at h
     ·rename_i k2
      injection h with h;injection h with h1 h2;subst h2
      have:=ih1 _ _ _ _ hx
      exact ⟨oM,by show (T.getD j' t0).kind ≠ 0;rw [k2];decide⟩
     ·split at h <;> cases h
   ·split at h
    ·cases h
    ·rename_i x j' hx
     have h1:=ih1 _ _ _ _ hx
     have:=ih2 _ _ _ _ _ h
     exact ⟨oM,this.2⟩
theorem b1s:∀ n:Nat,(∀ m d i,n≤m→i≤T.length→2 * T.length+2≤n+2 * i→N7 L cur T m d i=N7 L cur T n d i)∧(∀ m d i acc,n≤m→i≤T.length→2 * T.length+3≤n+2 * i→a0k L cur T m d i acc=a0k L cur T n d i acc):=by
 have end0:∀ {n d i},T.length≤i→N7 L cur T (n+1) d i=.error (11,0):=by
  intro n d i h
  have e:T.getD i t0=t0:=by simp [List.getD,List.getElem?_eq_none h]
  rw [N7];simp only [];rw [e,if_pos (show t0.kind=0 from rfl)];rfl
 intro n
 induction n with
 | zero=>exact ⟨fun m d i _ h1 h2=>by omega,fun m d i acc _ h1 h2=>by omega⟩
 | succ n ih =>
  obtain ⟨ih1,ih2⟩:=ih
  constructor
  ·intro m d i hm hl hf
   obtain ⟨m,rfl⟩:∃ k,m=k+1:=⟨m - 1,oM⟩
   by_cases hi:i < T.length
   ·rw [N7,N7]
    simp only []
    rw [ih1 m (d+1) (i+1) oM oM oM,ih2 m (d+1) (i+1) [] oM oM oM]
   ·rw [end0 oM,end0 oM]
  ·intro m d i acc hm hl hf
   obtain ⟨m,rfl⟩:∃ k,m=k+1:=⟨m - 1,oM⟩
   rw [a0k,a0k]
   simp only []
   by_cases hi:i < T.length
   ·rw [ih1 m d (i+1) oM oM oM,ih1 m d i oM oM oM]
    cases ho:N7 L cur T n d i with
    | error e=>rfl
    | ok p =>
     obtain ⟨x,j⟩:=p
     have hj:=(c36 n).1 _ _ _ _ ho
     have hj2:=b8i hj.2
     simp only []
     rw [ih2 m d j _ oM oM oM]
   ·have e:T.getD i t0=t0:=by simp [List.getD,List.getElem?_eq_none (by omega:T.length≤i)]
    rw [e]
    obtain ⟨n,rfl⟩:∃ k,n=k+1:=⟨n - 1,oM⟩
    obtain ⟨m,rfl⟩:∃ k,m=k+1:=⟨m - 1,oM⟩
    have e2:¬(t0.kind=3∧acc ≠ []):=fun h=>absurd h.1 dE
    rw [if_neg e2,if_neg e2,end0 (n:=m) oM,end0 (n:=n) oM]
def v7 (L:List Pk) (cur:j0) (T:List y3) (d i:Nat):Except (Int × Nat) (O × Nat):=N7 L cur T (2 * T.length+2) d i
def C5 (L:List Pk) (cur:j0) (T:List y3) (d i:Nat) (acc:List O):Except (Int × Nat) (O × Nat):=a0k L cur T (2 * T.length+3) d i acc
theorem a73 {d i:Nat} (hi:i < T.length):v7 L cur T d i =
  if (T.getD i t0).kind=0 then .error (11,(T.getD i t0).pos)
  else if (T.getD i t0).kind=2∨(T.getD i t0).kind=3 then .error (12,(T.getD i t0).pos)
  else if (T.getD i t0).kind=5 then .ok (b4u (T.getD i t0),i+1)
  else if (T.getD i t0).kind=7 then .ok (.tx (T.getD i t0).text,i+1)
  else if (T.getD i t0).kind=6 then
   (if (y4 L (if (T.getD i t0).pkg=[] then cur else (T.getD i t0).pkg) (T.getD i t0).text).2=0 then .ok (.sy (y4 L (if (T.getD i t0).pkg=[] then cur else (T.getD i t0).pkg) (T.getD i t0).text).1,i+1) else .error ((y4 L (if (T.getD i t0).pkg=[] then cur else (T.getD i t0).pkg) (T.getD i t0).text).2,(T.getD i t0).pos))
  else if 200 < d then .error (2,(T.getD i t0).pos)
  else if (T.getD i t0).kind=4 then
   match v7 L cur T (d+1) (i+1) with
   | .error e=>.error e
   | .ok (x,j)=>.ok (Q3 [U4,x],j)
  else C5 L cur T (d+1) (i+1) []:=by
 have h1:v7 L cur T (d+1) (i+1)=N7 L cur T (2 * T.length+1) (d+1) (i+1):=(b1s _).1 _ _ _ oM oM oM
 have h2:C5 L cur T (d+1) (i+1) []=a0k L cur T (2 * T.length+1) (d+1) (i+1) []:=(b1s _).2 _ _ _ _ oM oM oM
 rw [h1,h2]
 exact N7.eq_2 L cur T d i _
theorem b4f {d i:Nat} {acc:List O} (hi:i < T.length):C5 L cur T d i acc =
  if (T.getD i t0).kind=2 then .ok (U1 acc R3,i+1)
  else if (T.getD i t0).kind=3∧acc ≠ [] then
   match v7 L cur T d (i+1) with
   | .error e=>.error e
   | .ok (x,j) =>
    if (T.getD j t0).kind=2 then .ok (U1 acc x,j+1)
    else if (T.getD j t0).kind=0 then .error (11,(T.getD j t0).pos)
    else .error (12,(T.getD j t0).pos)
  else
   match v7 L cur T d i with
   | .error e=>.error e
   | .ok (x,j)=>C5 L cur T d j (acc ++ [x]):=by
 have h1:N7 L cur T (2 * T.length+2) d (i+1)=v7 L cur T d (i+1):=rfl
 have h3:N7 L cur T (2 * T.length+2) d i=v7 L cur T d i:=rfl
 unfold C5
 rw [a0k]
 simp only []
 rw [h1,h3]
 cases ho:v7 L cur T d i with
 | error e=>rfl
 | ok p =>
  obtain ⟨x,j⟩:=p
  have hj:=(c36 _).1 _ _ _ _ ho
  have hj2:=b8i hj.2
  simp only []
  rw [(b1s (2 * T.length+2)).2 (2 * T.length+3) d j _ oM oM oM]
  first | done | rfl
theorem Y0 (hT:a5u T) {d i j:Nat} {o:O} (h:v7 L cur T d i=.ok (o,j)):i < j∧j < T.length:=by
 have h1:=(c36 _).1 _ _ _ _ h
 have h2:=b8i h1.2
 refine ⟨h1.1,?_⟩
 rcases Nat.lt_or_ge j T.length with h3 | h3
 ·exact h3
 ·exact absurd (hT.last (j - 1) oM) h1.2
end
theorem a6n {s:j0} {T:List y3} (h:A7 s=.ok T):a5u T:=by
 unfold A7 at h
 split at h
 ·cases h
 ·have key:∀ (m:Nat) {i:Nat} {acc T:List y3},s.length - i≤m→i≤s.length→D7 s i acc=.ok T→∃ T',T=acc ++ T' ++ [⟨0,s.length,u4,u4,u4⟩]∧∀ t ∈ T',0≤t.kind∧t.kind≤7:=by
   intro m
   induction m with
   | zero =>
    intro i acc T hm hi h
    rw [Y5 hi] at h
    split at h
    ·cases h
    ·rename_i j hs
     have hj:=R5 hi hs
     rw [if_neg oM] at h
     injection h with h
     exact ⟨[],by rw [← h];simp,by simp⟩
   | succ m ih =>
    intro i acc T hm hi h
    rw [Y5 hi] at h
    split at h
    ·cases h
    ·rename_i j hs
     have hj:=R5 hi hs
     split at h
     ·rename_i hlt
      split at h
      ·cases h
      ·rename_i t k ht
       have h1:=X5 hlt ht
       have h2:=c3c ht
       obtain ⟨T',e,hk⟩:=ih oM h1.2 h
       refine ⟨t :: T',by rw [e];simp,fun x hx=>?_⟩
       rcases List.mem_cons.1 hx with rfl | hx
       ·omega
       ·exact hk x hx
     ·injection h with h
      exact ⟨[],by rw [← h];simp,by simp⟩
  obtain ⟨T1,e1,e2,e3,e4⟩:=a9o _ (Nat.le_refl _) (Nat.zero_le _) h
  obtain ⟨T',e,hk⟩:=key _ (Nat.le_refl _) (Nat.zero_le _) h
  rw [List.nil_append] at e1 e
  subst e1
  refine ⟨oM,e2,fun i hi=>?_,by rw [e];simp,fun x hx=>?_⟩
  ·rw [e] at hi ⊢
   have:i=T'.length:=by simp at hi;omega
   subst this
   simp [List.getD]
  ·rw [e] at hx
   rcases List.mem_append.1 hx with hx | hx
   ·exact hk x hx
   ·rw [List.mem_singleton.1 hx];show (0:Int)≤0∧(0:Int)≤7;decide
end
end Go.Proofs.YtffaodopiifbkaaGreatDoor
