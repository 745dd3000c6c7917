/- Packages and the reading of objects from C4: what they compute. No program in sight. -/
import Derived.Test.YtffaodopiifbkaaGreatDoorCR5e
import Derived.Test.YtffaodopiifbkaaGreatDoorCP
import Derived.Test.YtffaodopiifbkaaGreatDoorCN
set_option linter.all false
namespace Go.Proofs.YtffaodopiifbkaaGreatDoor
open Go.Abs LQ
abbrev Pk:=i7 × List Sy
def pg (p:Pk):List G:=[.s p.1,.l (p.2.map sg)]
theorem a9z (p:Pk):(pg p).length=2:=rfl
def P6:List Pk→i7→Option Pk
 | [],_=>none
 | p :: l,n=>if p.1=n then some p else P6 l n
def a3o:List Sy→i7→Option Sy
 | [],_=>none
 | s :: l,n=>if s.2=n then some s else a3o l n
def F3 (L:List Pk) (cur nm:i7):Sy × Int :=
 match P6 L cur with
 | none=>(([],[]),13)
 | some p=>if nm.length < 1∨40 < nm.length then (([],[]),3) else
  match a3o p.2 nm with
  | some s=>(s,0)
  | none=>((cur,nm),0)
def f1u (L:List Pk) (cur:i7) (s:Sy):Bool:=decide ((F3 L cur s.2).2=0∧(F3 L cur s.2).1=s)
def c79 (L:List Pk) (s:Sy):Bool:=f1u L s.1 s
def t0:B5:=⟨0,0,[],[],[]⟩
def a5r:O:=.sy (E4,[113,117,111,116,101])
def a1w:List O→O→O
 | [],e=>e
 | x :: l,e=>.co x (a1w l e)
def c3d (t:B5):O:=.num (i6 t.text) (i6 t.den).natAbs
mutual
/-- The object at a token, inside depth others, and the place behind it; or the error and its offset. -/
def R7 (L:List Pk) (cur:i7) (T:List B5):Nat→Nat→Nat→Except (Int × Nat) (O × Nat)
 | 0,_,_=>.error (0,0)
 | n+1,d,i =>
  let t:=T.getD i t0
  if t.kind=0 then .error (11,t.pos)
  else if t.kind=2∨t.kind=3 then .error (12,t.pos)
  else if t.kind=5 then .ok (c3d t,i+1)
  else if t.kind=7 then .ok (.tx t.text,i+1)
  else if t.kind=6 then
   let r:=F3 L (if t.pkg=[] then cur else t.pkg) t.text
   if r.2=0 then .ok (.sy r.1,i+1) else .error (r.2,t.pos)
  else if 200 < d then .error (2,t.pos)
  else if t.kind=4 then
   match R7 L cur T n (d+1) (i+1) with
   | .error e=>.error e
   | .ok (x,j)=>.ok (T4 [a5r,x],j)
  else a0k L cur T n (d+1) (i+1) []
/-- The rest of a list. -/
def a0k (L:List Pk) (cur:i7) (T:List B5):Nat→Nat→Nat→List O→Except (Int × Nat) (O × Nat)
 | 0,_,_,_=>.error (0,0)
 | n+1,d,i,acc =>
  let t:=T.getD i t0
  if t.kind=2 then .ok (a1w acc Z3,i+1)
  else if t.kind=3∧acc ≠ [] then
   match R7 L cur T n d (i+1) with
   | .error e=>.error e
   | .ok (x,j) =>
    let u:=T.getD j t0
    if u.kind=2 then .ok (a1w acc x,j+1)
    else if u.kind=0 then .error (11,u.pos)
    else .error (12,u.pos)
  else
   match R7 L cur T n d i with
   | .error e=>.error e
   | .ok (x,j)=>a0k L cur T n d j (acc ++ [x])
end
def a5d (L:List Pk) (cur:i7) (T:List B5):Nat→Nat→List (O × Nat)→Except (Int × Nat) (List (O × Nat))
 | 0,_,_=>.error (0,0)
 | m+1,i,acc =>
  let t:=T.getD i t0
  if t.kind=0 then .ok acc
  else if 100≤acc.length∧t.kind ≠ 2∧t.kind ≠ 3 then .error (2,t.pos)
  else
   match R7 L cur T (2 * T.length+2) 0 i with
   | .error e=>.error e
   | .ok (x,j)=>if 3000 < x.size then .error (2,t.pos) else a5d L cur T m j (acc ++ [(x,t.pos)])
def M5 (L:List Pk) (cur s:i7):Except (Int × Nat) (List (O × Nat)) :=
 match C4 s with
 | .error e=>.error e
 | .ok T=>a5d L cur T (T.length+1) 0 []
end Go.Proofs.YtffaodopiifbkaaGreatDoor
namespace Go.Proofs.YtffaodopiifbkaaGreatDoor
open Go.Abs LQ
noncomputable section
open Classical
structure NT where
 kind:Int
 pkg:i7
 text:i7
 den:i7
def nt (t:B5):NT:=⟨t.kind,t.pkg,t.text,t.den⟩
def Lex (w:i7) (N:List NT):Prop:=∀ s i r,At s i w r→Del r→∃ T:List B5,T.map nt=N∧∀ acc,E8 s i acc=E8 s (i+w.length) (acc ++ T)
end
end Go.Proofs.YtffaodopiifbkaaGreatDoor
namespace Go.Proofs.YtffaodopiifbkaaGreatDoor
open Go.Abs LQ
noncomputable section
open Classical
end
end Go.Proofs.YtffaodopiifbkaaGreatDoor
namespace Go.Proofs.YtffaodopiifbkaaGreatDoor
open Go.Abs LQ
noncomputable section
end
end Go.Proofs.YtffaodopiifbkaaGreatDoor
namespace Go.Proofs.YtffaodopiifbkaaGreatDoor
open Go.Abs LQ
noncomputable section
open Classical
inductive d46:List i7→List NT→Prop
 | nil:d46 [] []
 | cons {l:i7} {N:List NT} {ls:List i7} {M:List NT}:Lex l N→d46 ls M→d46 (l :: ls) (N ++ M)
end
end Go.Proofs.YtffaodopiifbkaaGreatDoor
namespace Go.Proofs.YtffaodopiifbkaaGreatDoor
open Go.Abs LQ
noncomputable section
open Classical
def cT (t:B5):Nat:=2 * t.text.length+t.pkg.length+t.den.length+20
def OkT (t:B5):Prop:=(t.kind=5→∃ (n:Int) (d:Nat),t.text=j6 n∧t.den=j5 d∧0 < d∧Nat.gcd n.natAbs d=1∧(j5 n.natAbs).length≤100∧(j5 d).length≤100)∧(t.kind=7→t.text.length≤200)∧(t.kind=6→t.pkg=[]∨A4 t.pkg=true)
theorem a3b {k:Int} {p:Nat} (h5:k ≠ 5) (h7:k ≠ 7):OkT ⟨k,p,y3,y3,y3⟩:=⟨fun h=>absurd h h5,fun h=>absurd h h7,fun _=>.inl rfl⟩
theorem b45 {p a b:i7} {i:Nat} (h:p=[]∨A4 p=true):OkT ⟨6,i,p,a,b⟩:=⟨fun h=>absurd h (show ¬(6:Int)=5 by decide),fun h=>absurd h (show ¬(6:Int)=7 by decide),fun _=>h⟩
theorem e5p {p a b:i7} {i:Nat} (h:a.length≤200):OkT ⟨7,i,p,a,b⟩:=⟨fun h=>absurd h (show ¬(7:Int)=5 by decide),fun _=>h,fun h=>absurd h (show ¬(7:Int)=6 by decide)⟩
theorem e05 {p:i7} {i:Nat} {n:Int} {d:Nat} (h:0 < d∧Nat.gcd n.natAbs d=1∧(j5 n.natAbs).length≤100∧(j5 d).length≤100):OkT ⟨5,i,p,j6 n,j5 d⟩:=⟨fun _=>⟨n,d,rfl,rfl,h⟩,fun h=>absurd h (show ¬(5:Int)=7 by decide),fun h=>absurd h (show ¬(5:Int)=6 by decide)⟩
theorem sh1:j5 1=R4:=by unfold j5;rw [if_neg (by decide),G9 (by decide),show 1 / 10=0 from rfl,B4];rfl
theorem sh0:j6 0=A5:=by unfold j6 j5;rfl
theorem c5d (s:i7) (e:Nat):∀ (k:Nat) (acc:List Nat),(y9 s e k acc).length=acc.length+(k - e)
 | 0,acc=>by simp [y9]
 | k+1,acc=>by
  rw [y9]
  split
  ·rw [c5d s e k];simp;omega
  ·omega
theorem c6g (s:i7):(j7 (i6 s).natAbs).length≤s.length:=by
 have h:=congrArg Prod.snd (b1o s)
 simp only [] at h
 rw [← h]
 unfold Z2
 split
 ·simp only [c5d,List.length_nil];omega
 ·simp
theorem b82 {m n:Nat} (h:m≤n):(j7 m).length≤(j7 n).length:=by
 by_cases h0:m=0
 ·subst h0;rw [B4];simp
 ·have h1:=b1q m h0
  have h2:=a1n (j7 n) (D8 n)
  rw [D3] at h2
  have h3:10 ^ ((j7 m).length - 1) < 10 ^ (j7 n).length:=by omega
  have:=(Nat.pow_lt_pow_iff_right (by decide:1 < 10)).1 h3
  omega
theorem b4u (m:Nat):(j5 m).length≤max 1 (j7 m).length:=by
 by_cases h:m=0
 ·subst h;show 1≤_;omega
 ·rw [P1 m h];omega
theorem a00 (s:i7):(plain s).length≤max 1 s.length:=by
 unfold plain
 have h1:=L6 s
 have h2:=a89 s (j0 s) h1.1
 simp only []
 split
 ·show 1≤_;omega
 ·split
  ·simp only [List.length_append,List.length_drop,List.length_take,List.length_cons,List.length_nil];omega
  ·simp only [List.length_drop,List.length_take];omega
theorem b2w (w:i7):(l8 w).1.length≤w.length∧(l8 w).2.1.length≤max 1 w.length:=by
 unfold l8
 simp only []
 repeat' split
 all_goals (simp only [y3,R4,List.length_nil,List.length_cons,List.length_drop,List.length_take];omega)
theorem a5x (a b:i7):∃ (n:Int) (d:Nat),u9 a b=(j6 n,j5 d)∧0 < d∧Nat.gcd n.natAbs d=1∧(j5 n.natAbs).length≤max 1 a.length∧(j5 d).length≤max 1 b.length:=by
 unfold u9
 by_cases h0:i6 b=0
 ·rw [if_pos h0]
  exact ⟨0,1,by rw [sh0,sh1],by decide,by decide,by show 1≤_;omega,by rw [sh1];show 1≤_;omega⟩
 ·rw [if_neg h0]
  simp only []
  have hd:0 < (i6 b).natAbs:=by omega
  have hg:0 < Nat.gcd (i6 a).natAbs (i6 b).natAbs:=Nat.gcd_pos_of_pos_right _ hd
  refine ⟨_,_,rfl,Nat.div_pos (Nat.le_of_dvd hd (Nat.gcd_dvd_right _ _)) hg,?_,?_,?_⟩
  ·have e:∀ x:Nat,(((if (i6 a < 0)=(i6 b < 0) then (1:Int) else -1) * ((x:Nat):Int))).natAbs=x:=by
    intro x;split <;> omega
   rw [e]
   rw [Nat.gcd_div (Nat.gcd_dvd_left _ _) (Nat.gcd_dvd_right _ _),Nat.div_self hg]
  ·have e:∀ x:Nat,(((if (i6 a < 0)=(i6 b < 0) then (1:Int) else -1) * ((x:Nat):Int))).natAbs=x:=by
    intro x;split <;> omega
   rw [e]
   have h1:=b4u ((i6 a).natAbs / Nat.gcd (i6 a).natAbs (i6 b).natAbs)
   have h2:=b82 (Nat.div_le_self (i6 a).natAbs (Nat.gcd (i6 a).natAbs (i6 b).natAbs))
   have h3:=c6g a
   omega
  ·have h1:=b4u ((i6 b).natAbs / Nat.gcd (i6 a).natAbs (i6 b).natAbs)
   have h2:=b82 (Nat.div_le_self (i6 b).natAbs (Nat.gcd (i6 a).natAbs (i6 b).natAbs))
   have h3:=c6g b
   omega
theorem b32 {s:i7} {c:Int} {i:Nat} {acc l:List Int} {j:Nat} (h:encl s c i acc=.ok (l,j)):l.length+i+1≤acc.length+j:=by
 fun_induction encl s c i acc with
 | case1 i acc h1 h2=>injection h with h;injection h with h3 h4;subst h3;omega
 | case2 i acc h1 h2 h3 ih=>have:=ih h;simp at this;omega
 | case3=>cases h
 | case4 i acc h1 h2 h3 h4 h5 ih=>have:=ih h;simp at this;omega
 | case5=>cases h
 | case6=>cases h
theorem a5u (l:List Int):(F1 l).length=l.length:=by simp [F1]
theorem a9r {t p:i7} {b:Bool} (h:p9 t p b=0):p=[]∨A4 p=true:=by
 unfold p9 at h
 split at h
 ·cases h
 ·split at h
  ·cases h
  ·rename_i hc
   by_cases hp:p=[]
   ·exact .inl hp
   ·right
    cases hv:A4 p with
    | true=>rfl
    | false=>exact absurd (.inr ⟨fun e=>hp (List.length_eq_zero_iff.1 e),hv⟩) hc
theorem b9w {i k:Nat} {w:i7} {t:B5} {k':Nat} (h:F4 i w k=.ok (t,k')) (h0:0 < w.length):OkT t∧cT t≤26 * w.length∧k'=k:=by
 unfold F4 at h
 have hn:=b2w w
 split at h
 ·injection h with h;injection h with h1 h2;subst h1 h2
  exact ⟨a3b (by decide) (by decide),by simp [cT,y3];omega,rfl⟩
 ·split at h
  ·split at h
   ·cases h
   ·simp only [] at h
    split at h
    ·cases h
    ·rename_i hdg
     injection h with h;injection h with h1 h2;subst h1 h2
     have p1:=a00 (l8 w).1
     have p2:=a00 (l8 w).2.1
     obtain ⟨n,d,e,hd,hg,l1,l2⟩:=a5x (plain (l8 w).1) (plain (l8 w).2.1)
     rw [e] at hdg ⊢
     rw [c46,b2e] at hdg
     refine ⟨e05 ⟨hd,hg,by omega,by omega⟩,?_,rfl⟩
     have l3:(j6 n).length≤1+(j5 n.natAbs).length:=by
      rw [a3z,List.length_append]
      have:(LQ.sgn n).length≤1:=by unfold LQ.sgn;split <;> simp
      omega
     simp only [cT,y3,List.length_nil]
     omega
  ·split at h
   ·rename_i he
    injection h with h;injection h with h1 h2;subst h1 h2
    exact ⟨b45 (.inl rfl),by simp [cT,y3];omega,rfl⟩
   ·cases h
theorem b9z {s p:i7} {i k k':Nat} {t:B5} (h:H4 s i p k=.ok (t,k')) (hp:p.length+i≤k):OkT t∧cT t≤26 * (k' - i):=by
 unfold H4 at h
 split at h
 ·rename_i hl
  split at h
  ·split at h
   ·cases h
   ·rename_i l j he
    split at h
    ·rename_i hz
     injection h with h;injection h with h1 h2;subst h1 h2
     have:=b32 he
     simp only [List.length_nil] at this
     refine ⟨b45 (a9r hz),?_⟩
     simp only [cT,y3,List.length_nil,a5u]
     omega
    ·cases h
  ·split at h
   ·rename_i hc
    simp only [] at h
    split at h
    ·rename_i hz
     injection h with h;injection h with h1 h2;subst h1 h2
     have hw:=F9 s (k+2) (by omega)
     refine ⟨b45 (a9r hz),?_⟩
     simp only [cT,y3,List.length_nil,List.length_drop,List.length_take]
     omega
    ·cases h
   ·cases h
 ·cases h
theorem c1b {s:i7} {i k:Nat} {t:B5} (hi:i < s.length) (h:B7 s i=.ok (t,k)):OkT t∧cT t≤26 * (k - i):=by
 unfold B7 at h
 split at h
 ·injection h with h;injection h with h1 h2;subst h1 h2;exact ⟨a3b (by decide) (by decide),by simp [cT,y3]⟩
 split at h
 ·injection h with h;injection h with h1 h2;subst h1 h2;exact ⟨a3b (by decide) (by decide),by simp [cT,y3]⟩
 split at h
 ·injection h with h;injection h with h1 h2;subst h1 h2;exact ⟨a3b (by decide) (by decide),by simp [cT,y3]⟩
 split at h
 ·split at h
  ·cases h
  ·rename_i l j he
   split at h
   ·cases h
   ·injection h with h;injection h with h1 h2;subst h1 h2
    have:=b32 he
    simp only [List.length_nil] at this
    exact ⟨e5p (by simp only [a5u];omega),by simp only [cT,y3,List.length_nil,a5u];omega⟩
 split at h
 ·split at h
  ·cases h
  ·rename_i l j he
   split at h
   ·injection h with h;injection h with h1 h2;subst h1 h2
    have:=b32 he
    simp only [List.length_nil] at this
    exact ⟨b45 (.inl rfl),by simp only [cT,y3,List.length_nil,a5u];omega⟩
   ·cases h
 split at h
 ·rename_i hc
  have hw:=F9 s i (by omega)
  have hw2:i < l7 s i:=by rw [l7,if_pos hi,if_pos hc];have:=F9 s (i+1) (by omega);omega
  have hl:((s.take (l7 s i)).drop i).length=l7 s i - i:=by simp;omega
  split at h
  ·exact b9z h (by rw [hl];omega)
  ·obtain ⟨h1,h2,h3⟩:=b9w h (by rw [hl];omega)
   subst h3
   rw [hl] at h2
   exact ⟨h1,h2⟩
 ·cases h
theorem a83 {s:i7}:∀ (m:Nat) {i:Nat} {acc T:List B5},s.length - i≤m→i≤s.length→E8 s i acc=.ok T→∃ T',T=acc ++ T'∧(∀ t ∈ T',OkT t)∧(T'.map cT).sum≤26 * (s.length - i)+20∧T'.length≤s.length - i+1
 | m,i,acc,T,hm,hi,h=>by
  rw [X9 hi] at h
  split at h
  ·cases h
  ·rename_i j hs
   have hj:=V3 hi hs
   split at h
   ·rename_i hlt
    split at h
    ·cases h
    ·rename_i t k ht
     have h1:=W5 hlt ht
     have h2:=c1b hlt ht
     cases m with
     | zero=>omega
     | succ m =>
      obtain ⟨T',e1,e2,e3,e4⟩:=a83 m (by omega) h1.2 h
      refine ⟨t :: T',by rw [e1];simp,?_,?_,?_⟩
      ·intro x hx
       rcases List.mem_cons.1 hx with rfl | hx
       ·exact h2.1
       ·exact e2 x hx
      ·simp only [List.map_cons,List.sum_cons];omega
      ·simp only [List.length_cons];omega
   ·injection h with h
    refine ⟨[⟨0,s.length,y3,y3,y3⟩],h.symm,?_,by simp [cT,y3],by simp⟩
    intro t ht
    rw [List.mem_singleton.1 ht];exact a3b (by decide) (by decide)
structure f4z (L:List Pk) (cur:i7):Prop where
 home:∀ c n s,(c=cur∨A4 c=true)→F3 L c n=(s,0)→c79 L s=true∧named s=true∧s.1.length≤c.length+4
 cur4:cur.length≤4
 nilH:c79 L (E4,[110,105,108])=true
 quoteH:c79 L (E4,[113,117,111,116,101])=true
section
variable {L:List Pk} {cur:i7} {T:List B5}
end
end
end Go.Proofs.YtffaodopiifbkaaGreatDoor
namespace Go.Proofs.YtffaodopiifbkaaGreatDoor
open Go.Abs LQ
noncomputable section
open Classical
structure b3c (T:List B5):Prop where
 len:T.length < 8000
 ok:∀ t ∈ T,OkT t
 last:∀ i,i+1=T.length→(T.getD i t0).kind=0
 pos:0 < T.length
 kinds:∀ t ∈ T,0≤t.kind∧t.kind≤7
theorem c1k {s:i7} {i k:Nat} {t:B5} (h:B7 s i=.ok (t,k)):1≤t.kind∧t.kind≤7:=by
 have fin:∀ {x:B5} {y:Nat},1≤x.kind∧x.kind≤7→(Except.ok (x,y):Except (Int × Nat) (B5 × Nat))=.ok (t,k)→1≤t.kind∧t.kind≤7:=by
  intro x y hx h;injection h with h;injection h with h1 h2;rw [← h1];exact hx
 unfold B7 at h
 repeat' split at h
 all_goals try (cases h;done)
 all_goals try exact fin (show (1:Int)≤6∧(6:Int)≤7 by decide) h
 all_goals try exact fin (show (1:Int)≤7∧(7:Int)≤7 by decide) h
 all_goals try exact fin (show (1:Int)≤1∧(1:Int)≤7 by decide) h
 all_goals try exact fin (show (1:Int)≤2∧(2:Int)≤7 by decide) h
 all_goals try exact fin (show (1:Int)≤4∧(4:Int)≤7 by decide) h
 ·unfold H4 at h
  simp only [] at h
  repeat' split at h
  all_goals try (cases h;done)
  all_goals exact fin (show (1:Int)≤6∧(6:Int)≤7 by decide) h
 ·unfold F4 at h
  simp only [] at h
  repeat' split at h
  all_goals try (cases h;done)
  all_goals first | exact fin (show (1:Int)≤3∧(3:Int)≤7 by decide) h | exact fin (show (1:Int)≤5∧(5:Int)≤7 by decide) h | exact fin (show (1:Int)≤6∧(6:Int)≤7 by decide) h
section
variable {L:List Pk} {cur:i7} {T:List B5}
theorem b63 {i:Nat} (h:(T.getD i t0).kind ≠ 0):i < T.length:=by
 by_cases hi:i < T.length
 ·exact hi
 ·exfalso;apply h
  have:T.getD i t0=t0:=by simp [List.getD,List.getElem?_eq_none (by omega:T.length≤i)]
  rw [this];rfl
theorem c2i:∀ n:Nat,(∀ d i o j,R7 L cur T n d i=.ok (o,j)→i < j∧(T.getD (j - 1) t0).kind ≠ 0)∧(∀ d i acc o j,a0k L cur T n d i acc=.ok (o,j)→i < j∧(T.getD (j - 1) t0).kind ≠ 0):=by
 intro n
 induction n with
 | zero=>exact ⟨fun d i o j h=>(by rw [R7] at h;cases h),fun d i acc o j h=>(by rw [a0k] at h;cases h)⟩
 | succ n ih =>
  obtain ⟨ih1,ih2⟩:=ih
  constructor
  ·intro d i o j h
   rw [R7] at h
   simp only [] at h
   split at h
   ·cases h
   rename_i k0
   split at h
   ·cases h
   split at h
   ·injection h with h;injection h with h1 h2;subst h2;exact ⟨by omega,k0⟩
   split at h
   ·injection h with h;injection h with h1 h2;subst h2;exact ⟨by omega,k0⟩
   split at h
   ·generalize (if (T.getD i t0).pkg=[] then cur else (T.getD i t0).pkg)=c at h
    split at h
    ·injection h with h;injection h with h1 h2;subst h2;exact ⟨by omega,k0⟩
    ·cases h
   split at h
   ·cases h
   split at h
   ·split at h
    ·cases h
    ·rename_i x j' hx
     injection h with h;injection h with h1 h2;subst h2
     have:=ih1 _ _ _ _ hx
     exact ⟨by omega,this.2⟩
   ·have:=ih2 _ _ _ _ _ h
    exact ⟨by omega,this.2⟩
  ·intro d i acc o j h
   rw [a0k] at h
   simp only [] at h
   split at h
   ·rename_i k2
    injection h with h;injection h with h1 h2;subst h2
    exact ⟨by omega,by show (T.getD i t0).kind ≠ 0;rw [k2];decide⟩
   split at h
   ·split at h
    ·cases h
    ·rename_i x j' hx
     split at h
     ·rename_i k2
      injection h with h;injection h with h1 h2;subst h2
      have:=ih1 _ _ _ _ hx
      exact ⟨by omega,by show (T.getD j' t0).kind ≠ 0;rw [k2];decide⟩
     ·split at h <;> cases h
   ·split at h
    ·cases h
    ·rename_i x j' hx
     have h1:=ih1 _ _ _ _ hx
     have:=ih2 _ _ _ _ _ h
     exact ⟨by omega,this.2⟩
theorem a98:∀ n:Nat,(∀ m d i,n≤m→i≤T.length→2 * T.length+2≤n+2 * i→R7 L cur T m d i=R7 L cur T n d i)∧(∀ m d i acc,n≤m→i≤T.length→2 * T.length+3≤n+2 * i→a0k L cur T m d i acc=a0k L cur T n d i acc):=by
 have end0:∀ {n d i},T.length≤i→R7 L cur T (n+1) d i=.error (11,0):=by
  intro n d i h
  have e:T.getD i t0=t0:=by simp [List.getD,List.getElem?_eq_none h]
  rw [R7];simp only [];rw [e,if_pos (show t0.kind=0 from rfl)];rfl
 intro n
 induction n with
 | zero=>exact ⟨fun m d i _ h1 h2=>by omega,fun m d i acc _ h1 h2=>by omega⟩
 | succ n ih =>
  obtain ⟨ih1,ih2⟩:=ih
  constructor
  ·intro m d i hm hl hf
   obtain ⟨m,rfl⟩:∃ k,m=k+1:=⟨m - 1,by omega⟩
   by_cases hi:i < T.length
   ·rw [R7,R7]
    simp only []
    rw [ih1 m (d+1) (i+1) (by omega) (by omega) (by omega),ih2 m (d+1) (i+1) [] (by omega) (by omega) (by omega)]
   ·rw [end0 (by omega),end0 (by omega)]
  ·intro m d i acc hm hl hf
   obtain ⟨m,rfl⟩:∃ k,m=k+1:=⟨m - 1,by omega⟩
   rw [a0k,a0k]
   simp only []
   by_cases hi:i < T.length
   ·rw [ih1 m d (i+1) (by omega) (by omega) (by omega),ih1 m d i (by omega) (by omega) (by omega)]
    cases ho:R7 L cur T n d i with
    | error e=>rfl
    | ok p =>
     obtain ⟨x,j⟩:=p
     have hj:=(c2i n).1 _ _ _ _ ho
     have hj2:=b63 hj.2
     simp only []
     rw [ih2 m d j _ (by omega) (by omega) (by omega)]
   ·have e:T.getD i t0=t0:=by simp [List.getD,List.getElem?_eq_none (by omega:T.length≤i)]
    rw [e]
    obtain ⟨n,rfl⟩:∃ k,n=k+1:=⟨n - 1,by omega⟩
    obtain ⟨m,rfl⟩:∃ k,m=k+1:=⟨m - 1,by omega⟩
    have e2:¬(t0.kind=3∧acc ≠ []):=fun h=>absurd h.1 (by decide)
    rw [if_neg e2,if_neg e2,end0 (n:=m) (by omega),end0 (n:=n) (by omega)]
def F6 (L:List Pk) (cur:i7) (T:List B5) (d i:Nat):Except (Int × Nat) (O × Nat):=R7 L cur T (2 * T.length+2) d i
def N8 (L:List Pk) (cur:i7) (T:List B5) (d i:Nat) (acc:List O):Except (Int × Nat) (O × Nat):=a0k L cur T (2 * T.length+3) d i acc
theorem c56 {d i:Nat} (hi:i < T.length):F6 L cur T d i =
  if (T.getD i t0).kind=0 then .error (11,(T.getD i t0).pos)
  else if (T.getD i t0).kind=2∨(T.getD i t0).kind=3 then .error (12,(T.getD i t0).pos)
  else if (T.getD i t0).kind=5 then .ok (c3d (T.getD i t0),i+1)
  else if (T.getD i t0).kind=7 then .ok (.tx (T.getD i t0).text,i+1)
  else if (T.getD i t0).kind=6 then
   (if (F3 L (if (T.getD i t0).pkg=[] then cur else (T.getD i t0).pkg) (T.getD i t0).text).2=0 then .ok (.sy (F3 L (if (T.getD i t0).pkg=[] then cur else (T.getD i t0).pkg) (T.getD i t0).text).1,i+1) else .error ((F3 L (if (T.getD i t0).pkg=[] then cur else (T.getD i t0).pkg) (T.getD i t0).text).2,(T.getD i t0).pos))
  else if 200 < d then .error (2,(T.getD i t0).pos)
  else if (T.getD i t0).kind=4 then
   match F6 L cur T (d+1) (i+1) with
   | .error e=>.error e
   | .ok (x,j)=>.ok (T4 [a5r,x],j)
  else N8 L cur T (d+1) (i+1) []:=by
 have h1:F6 L cur T (d+1) (i+1)=R7 L cur T (2 * T.length+1) (d+1) (i+1):=(a98 _).1 _ _ _ (by omega) (by omega) (by omega)
 have h2:N8 L cur T (d+1) (i+1) []=a0k L cur T (2 * T.length+1) (d+1) (i+1) []:=(a98 _).2 _ _ _ _ (by omega) (by omega) (by omega)
 rw [h1,h2]
 exact R7.eq_2 L cur T d i _
theorem d4e {d i:Nat} {acc:List O} (hi:i < T.length):N8 L cur T d i acc =
  if (T.getD i t0).kind=2 then .ok (a1w acc Z3,i+1)
  else if (T.getD i t0).kind=3∧acc ≠ [] then
   match F6 L cur T d (i+1) with
   | .error e=>.error e
   | .ok (x,j) =>
    if (T.getD j t0).kind=2 then .ok (a1w acc x,j+1)
    else if (T.getD j t0).kind=0 then .error (11,(T.getD j t0).pos)
    else .error (12,(T.getD j t0).pos)
  else
   match F6 L cur T d i with
   | .error e=>.error e
   | .ok (x,j)=>N8 L cur T d j (acc ++ [x]):=by
 have h1:R7 L cur T (2 * T.length+2) d (i+1)=F6 L cur T d (i+1):=rfl
 have h3:R7 L cur T (2 * T.length+2) d i=F6 L cur T d i:=rfl
 unfold N8
 rw [a0k]
 simp only []
 rw [h1,h3]
 cases ho:F6 L cur T d i with
 | error e=>rfl
 | ok p =>
  obtain ⟨x,j⟩:=p
  have hj:=(c2i _).1 _ _ _ _ ho
  have hj2:=b63 hj.2
  simp only []
  rw [(a98 (2 * T.length+2)).2 (2 * T.length+3) d j _ (by omega) (by omega) (by omega)]
  first | done | rfl
theorem b6r (hT:b3c T) {d i j:Nat} {o:O} (h:F6 L cur T d i=.ok (o,j)):i < j∧j < T.length:=by
 have h1:=(c2i _).1 _ _ _ _ h
 have h2:=b63 h1.2
 refine ⟨h1.1,?_⟩
 rcases Nat.lt_or_ge j T.length with h3 | h3
 ·exact h3
 ·exact absurd (hT.last (j - 1) (by omega)) h1.2
end
theorem d1q {s:i7} {T:List B5} (h:C4 s=.ok T):b3c T:=by
 unfold C4 at h
 split at h
 ·cases h
 ·have key:∀ (m:Nat) {i:Nat} {acc T:List B5},s.length - i≤m→i≤s.length→E8 s i acc=.ok T→∃ T',T=acc ++ T' ++ [⟨0,s.length,y3,y3,y3⟩]∧∀ t ∈ T',0≤t.kind∧t.kind≤7:=by
   intro m
   induction m with
   | zero =>
    intro i acc T hm hi h
    rw [X9 hi] at h
    split at h
    ·cases h
    ·rename_i j hs
     have hj:=V3 hi hs
     rw [if_neg (by omega)] at h
     injection h with h
     exact ⟨[],by rw [← h];simp,by simp⟩
   | succ m ih =>
    intro i acc T hm hi h
    rw [X9 hi] at h
    split at h
    ·cases h
    ·rename_i j hs
     have hj:=V3 hi hs
     split at h
     ·rename_i hlt
      split at h
      ·cases h
      ·rename_i t k ht
       have h1:=W5 hlt ht
       have h2:=c1k ht
       obtain ⟨T',e,hk⟩:=ih (by omega) h1.2 h
       refine ⟨t :: T',by rw [e];simp,fun x hx=>?_⟩
       rcases List.mem_cons.1 hx with rfl | hx
       ·omega
       ·exact hk x hx
     ·injection h with h
      exact ⟨[],by rw [← h];simp,by simp⟩
  obtain ⟨T1,e1,e2,e3,e4⟩:=a83 _ (Nat.le_refl _) (Nat.zero_le _) h
  obtain ⟨T',e,hk⟩:=key _ (Nat.le_refl _) (Nat.zero_le _) h
  rw [List.nil_append] at e1 e
  subst e1
  refine ⟨by omega,e2,fun i hi=>?_,by rw [e];simp,fun x hx=>?_⟩
  ·rw [e] at hi ⊢
   have:i=T'.length:=by simp at hi;omega
   subst this
   simp [List.getD]
  ·rw [e] at hx
   rcases List.mem_append.1 hx with hx | hx
   ·exact hk x hx
   ·rw [List.mem_singleton.1 hx];show (0:Int)≤0∧(0:Int)≤7;decide
end
end Go.Proofs.YtffaodopiifbkaaGreatDoor
