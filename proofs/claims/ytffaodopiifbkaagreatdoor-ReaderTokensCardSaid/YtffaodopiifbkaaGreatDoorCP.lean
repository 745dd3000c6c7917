/- Plain functions on texts: C4. No program in sight. -/
import Derived.Test.YtffaodopiifbkaaGreatDoorCG
set_option linter.all false
namespace LQ
abbrev i7:=List UInt8
def bt (s:i7) (k:Nat):Int:=((s.getD k 0).toNat:Int)
theorem c0d (s:i7) (k:Nat):bt s k < 256:=by unfold bt;have:=(s.getD k 0).toNat_lt;omega
theorem a6n (s:i7) (k:Nat):0≤bt s k:=by unfold bt;omega
def y8 (c:Int):Bool:=decide (33≤c∧c≤126∧c ≠ 40∧c ≠ 41∧c ≠ 39∧c ≠ 34∧c ≠ 59∧c ≠ 124∧c ≠ 58)
def D0 (c:Int):Bool:=decide (c=32∨c=9∨c=10∨c=13)
def has (s:i7) (i:Nat) (a b:Int):Bool:=decide (i+1 < s.length∧bt s i=a∧bt s (i+1)=b)

def l7 (s:i7) (i:Nat):Nat :=
 if i < s.length then if y8 (bt s i) then l7 s (i+1) else i else i
termination_by s.length - i
def C3 (s:i7) (i:Nat):Nat :=
 if i < s.length then if bt s i=10 then i else C3 s (i+1) else i
termination_by s.length - i
def z7 (s:i7) (i depth:Nat):Option Nat :=
 if depth=0 then some i
 else if i < s.length then
  if has s i 35 124 then z7 s (i+2) (depth+1)
  else if has s i 124 35 then z7 s (i+2) (depth - 1)
  else z7 s (i+1) depth
 else none
termination_by s.length - i
theorem a1q (s:i7) (i:Nat) (h:i≤s.length):i≤C3 s i∧C3 s i≤s.length:=by
 fun_induction C3 s i <;> omega
theorem F9 (s:i7) (i:Nat) (h:i≤s.length):i≤l7 s i∧l7 s i≤s.length:=by
 fun_induction l7 s i <;> omega
theorem K5 {s:i7} {i:Nat} {a b:Int} (h:has s i a b=true):i+1 < s.length:=by simp [has] at h;exact h.1
theorem a6k (s:i7) (i depth j:Nat) (hi:i≤s.length) (h:z7 s i depth=some j):i≤j∧j≤s.length:=by
 fun_induction z7 s i depth
 ·simp at h;omega
 ·rename_i hh ih;have:=K5 hh;have:=ih (by omega) h;omega
 ·rename_i hh ih;have:=K5 hh;have:=ih (by omega) h;omega
 ·rename_i ih;have:=ih (by omega) h;omega
 ·simp at h
def skip (s:i7) (i:Nat):Option Nat :=
 if i < s.length then
  if D0 (bt s i) then skip s (i+1)
  else if bt s i=59 then (if i < C3 s i then skip s (C3 s i) else some i)
  else if has s i 35 124 then
   match z7 s (i+2) 1 with
   | none=>none
   | some j=>if i < j then skip s j else some i
  else some i
 else some i
termination_by s.length - i
theorem a4j (s:i7) (i:Nat) (h:i < s.length) (hb:bt s i ≠ 10):i < C3 s i:=by
 rw [C3,if_pos h,if_neg hb];have:=a1q s (i+1) (by omega);omega

def Q2 (c:Int):Bool:=decide (48≤c∧c≤57)
def m6 (s:i7) (k:Nat):Nat :=
 if k < s.length then if Q2 (bt s k) then m6 s (k+1) else k else k
termination_by s.length - k
theorem d1z (s:i7) (i:Nat) (h:i≤s.length):i≤m6 s i∧m6 s i≤s.length:=by
 fun_induction m6 s i <;> omega
def C5 (s:i7) (k:Nat):Nat :=
 if k < s.length then if bt s k=48 then C5 s (k+1) else k else k
termination_by s.length - k
theorem a89 (s:i7) (i:Nat) (h:i≤s.length):i≤C5 s i∧C5 s i≤s.length:=by
 fun_induction C5 s i <;> omega
def j0 (s:i7):Nat:=if 0 < s.length∧bt s 0=45 then 1 else 0
theorem L6 (s:i7):j0 s≤s.length∧j0 s≤1:=by unfold j0;split <;> omega
def y3:i7:=[]
def R4:i7:=[49]
def A5:i7:=[48]
def l8 (s:i7):i7 × i7 × Bool :=
 let i:=j0 s
 let k:=m6 s i
 if k=i then (y3,y3,false)
 else if k=s.length then (s,R4,true)
 else if bt s k ≠ 47∨k+1=s.length then (y3,y3,false)
 else if m6 s (k+1)=s.length then (((s.take (k)).drop (0)),((s.take (s.length)).drop ((k+1))),true)
 else (y3,y3,false)
def plain (s:i7):i7 :=
 let i:=C5 s (j0 s)
 if i=s.length then A5
 else if j0 s=1 then ([45]:i7) ++ ((s.take (s.length)).drop (i))
 else ((s.take (s.length)).drop (i))
end LQ
namespace LQ
def a4t (c:Int):Bool:=decide ((97≤c∧c≤122)∨(48≤c∧c≤57)∨c=45)
def J1 (s:i7) (k:Nat):Bool:=if k < s.length then if a4t (bt s k) then J1 s (k+1) else false else true
termination_by s.length - k
def A4 (s:i7):Bool:=decide (1≤s.length∧s.length≤40∧97≤bt s 0∧bt s 0≤122) && J1 s 0
end LQ
namespace LQ
def p9 (text pkg:i7) (bars:Bool):Int :=
 if 40 < text.length then 2
 else if (bars=true∧text.length=0)∨(pkg.length ≠ 0∧A4 pkg=false) then 3 else 0
end LQ
namespace LQ
def encl (s:i7) (c:Int) (i:Nat) (acc:List Int):Except (Int × Nat) (List Int × Nat) :=
 if i < s.length then
  if bt s i=c then .ok (acc,i+1)
  else if bt s i ≠ 92 then encl s c (i+1) (acc ++ [bt s i])
  else if i+1 < s.length then
   if bt s (i+1) ≠ c∧bt s (i+1) ≠ 92 then .error (12,i)
   else encl s c (i+2) (acc ++ [bt s (i+1)])
  else .error (11,s.length)
 else .error (11,s.length)
termination_by s.length - i
end LQ
namespace LQ
def C0 (s:i7):Bool :=
 decide (s=A5) || (decide (j0 s < s.length∧bt s (j0 s) ≠ 48) && decide (m6 s (j0 s)=s.length))
def A0 (s:i7) (k:Nat) (acc:Nat):Nat:=if k < s.length then A0 s (k+1) (10 * acc+(bt s k - 48).toNat) else acc
termination_by s.length - k
def i6 (s:i7):Int:=if C0 s then (if j0 s=1 then -(A0 s 1 0:Int) else (A0 s 0 0:Int)) else 0
def j7 (n:Nat):List Nat:=if h:n=0 then [] else n % 10 :: j7 (n / 10)
termination_by n
def j5 (n:Nat):i7:=if n=0 then A5 else ((j7 n).reverse.map fun d=>UInt8.ofNat (48+d))
def j6 (n:Int):i7:=if n < 0 then [45] ++ j5 n.natAbs else j5 n.natAbs
def u9 (num den:i7):i7 × i7 :=
 if i6 den=0 then (A5,R4)
 else
  let g:=Nat.gcd (i6 num).natAbs (i6 den).natAbs
  (j6 ((if (i6 num < 0)=(i6 den < 0) then 1 else -1) * (((i6 num).natAbs / g:Nat):Int)),j5 ((i6 den).natAbs / g))
def G4 (a:i7):Nat:=max 1 (j7 (i6 a).natAbs).length

structure B5 where
 kind:Int
 pos:Nat
 pkg:i7
 text:i7
 den:i7
def F1 (l:List Int):i7:=(l.map fun n=>UInt8.ofNat n.toNat)
def H4 (s:i7) (i:Nat) (pkg:i7) (k:Nat):Except (Int × Nat) (B5 × Nat) :=
 if k+2 < s.length then
  if bt s (k+2)=124 then
   match encl s 124 (k+2+1) [] with
   | .error e=>.error e
   | .ok (l,j)=>if p9 (F1 l) pkg true=0 then .ok (⟨6,i,pkg,F1 l,y3⟩,j) else .error (p9 (F1 l) pkg true,i)
  else if y8 (bt s (k+2)) then
   let j:=l7 s (k+2)
   let t:=((s.take (j)).drop ((k+2)))
   if p9 t pkg false=0 then .ok (⟨6,i,pkg,t,y3⟩,j) else .error (p9 t pkg false,i)
  else .error (12,k+2)
 else .error (11,s.length)
def F4 (i:Nat) (t:i7) (k:Nat):Except (Int × Nat) (B5 × Nat) :=
 if t=[46] then .ok (⟨3,i,y3,y3,y3⟩,k)
 else if (l8 t).2.2 then
  if plain (l8 t).2.1=A5 then .error (12,i)
  else
   let r:=u9 (plain (l8 t).1) (plain (l8 t).2.1)
   if 100 < G4 r.1∨100 < G4 r.2 then .error (2,i) else .ok (⟨5,i,y3,r.1,r.2⟩,k)
 else if p9 t y3 false=0 then .ok (⟨6,i,y3,t,y3⟩,k) else .error (p9 t y3 false,i)
def B7 (s:i7) (i:Nat):Except (Int × Nat) (B5 × Nat) :=
 if bt s i=40 then .ok (⟨1,i,y3,y3,y3⟩,i+1)
 else if bt s i=41 then .ok (⟨2,i,y3,y3,y3⟩,i+1)
 else if bt s i=39 then .ok (⟨4,i,y3,y3,y3⟩,i+1)
 else if bt s i=34 then
  match encl s 34 (i+1) [] with
  | .error e=>.error e
  | .ok (l,j)=>if 200 < l.length then .error (2,i) else .ok (⟨7,i,y3,F1 l,y3⟩,j)
 else if bt s i=124 then
  match encl s 124 (i+1) [] with
  | .error e=>.error e
  | .ok (l,j)=>if p9 (F1 l) y3 true=0 then .ok (⟨6,i,y3,F1 l,y3⟩,j) else .error (p9 (F1 l) y3 true,i)
 else if y8 (bt s i) then
  if has s (l7 s i) 58 58 then H4 s i (((s.take ((l7 s i))).drop (i))) (l7 s i)
  else F4 i (((s.take ((l7 s i))).drop (i))) (l7 s i)
 else .error (12,i)
end LQ
namespace LQ
def E8 (s:i7) (i:Nat) (acc:List B5):Except (Int × Nat) (List B5) :=
 match skip s i with
 | none=>.error (11,s.length)
 | some j =>
  if j < s.length then
   match B7 s j with
   | .error e=>.error e
   | .ok (t,k)=>if i < k∧i < s.length then E8 s k (acc ++ [t]) else .error (0,0)
  else .ok (acc ++ [⟨0,s.length,y3,y3,y3⟩])
termination_by s.length - i
def C4 (s:i7):Except (Int × Nat) (List B5):=if 6000 < s.length then .error (2,0) else E8 s 0 []
end LQ
namespace LQ
theorem Y3 (s:i7) (i j:Nat) (hi:i≤j) (hj:j < m6 s i):48≤bt s j∧bt s j≤57:=by
 fun_induction m6 s i with
 | case1 i h1 h2 ih =>
  by_cases h:j=i
  ·subst h;simpa [Q2] using h2
  ·exact ih (by omega) hj
 | case2=>omega
 | case3=>omega
def y9 (s:i7) (e:Nat):Nat→List Nat→List Nat
 | 0,acc=>acc
 | k+1,acc=>if e≤k then y9 s e k (acc ++ [(bt s k - 48).toNat]) else acc
def Z2 (s:i7):Bool × List Nat :=
 if C0 s=true∧s ≠ A5 then (decide (j0 s=1),y9 s (j0 s) s.length []) else (false,[])
def R1 (l:List Nat):Nat→Nat
 | 0=>0
 | n+1=>if l.getD n 0=0 then R1 l n else n+1
def F2 (l:List Nat):List Nat:=l.take (R1 l l.length)
def G6 (a b:List Nat):Nat→Int
 | 0=>0
 | k+1=>if a.getD k 0 < b.getD k 0 then -1 else if b.getD k 0 < a.getD k 0 then 1 else G6 a b k
def P8 (a b:List Nat):Int :=
 if a.length=b.length then G6 a b a.length else if a.length < b.length then -1 else 1
def J7 (a b:List Nat) (i bor:Nat):Int:=(a.getD i 0:Int) - bor - (if i < b.length then (b.getD i 0:Int) else 0)
def O5 (a b:List Nat) (i bor:Nat) (acc:List Nat):List Nat :=
 if i < a.length then
  if J7 a b i bor < 0 then O5 a b (i+1) 1 (acc ++ [(J7 a b i bor+10).toNat])
  else O5 a b (i+1) 0 (acc ++ [(J7 a b i bor).toNat])
 else acc
termination_by a.length - i
def b6z (a b:List Nat):List Nat:=F2 (O5 a b 0 0 [])
end LQ
namespace LQ
theorem b35 {s:i7} {k:Nat} (h:¬k < s.length):skip s k=some k:=by rw [skip,if_neg h]
theorem a4h {s:i7} {k:Nat} (h:k < s.length) (hb:D0 (bt s k)=true):skip s k=skip s (k+1):=by
 rw [skip,if_pos h,if_pos hb]
theorem a3h {s:i7} {k:Nat} (h:k < s.length) (hb:D0 (bt s k)=false) (h9:bt s k=59):skip s k=skip s (C3 s k):=by
 rw [skip,if_pos h,if_neg (by simp [hb]),if_pos h9,if_pos (a4j s k h (by omega))]
theorem a6h {s:i7} {k:Nat} (h:k < s.length) (hb:D0 (bt s k)=false) (h9:bt s k ≠ 59) (hh:has s k 35 124=false):skip s k=some k:=by
 rw [skip,if_pos h,if_neg (by simp [hb]),if_neg h9,if_neg (by simp [hh])]
theorem a8b {s:i7} {k j:Nat} (h:k < s.length) (hb:D0 (bt s k)=false) (h9:bt s k ≠ 59) (hh:has s k 35 124=true) (hc:z7 s (k+2) 1=some j):skip s k=skip s j:=by
 have:=K5 hh
 have:=a6k s (k+2) 1 j (by omega) hc
 rw [skip,if_pos h,if_neg (by simp [hb]),if_neg h9,if_pos hh,hc];simp only [];rw [if_pos (by omega)]
theorem b0o {s:i7} {k:Nat} (h:k < s.length) (hb:D0 (bt s k)=false) (h9:bt s k ≠ 59) (hh:has s k 35 124=true) (hc:z7 s (k+2) 1=none):skip s k=none:=by
 rw [skip,if_pos h,if_neg (by simp [hb]),if_neg h9,if_pos hh,hc]
end LQ
namespace LQ
end LQ
namespace LQ
def val:List Nat→Nat
 | []=>0
 | d :: t=>d+10 * val t
def D9 (l:List Nat):Prop:=∀ d ∈ l,d≤9
theorem B4:j7 0=[]:=by rw [j7];simp
theorem G9 {n:Nat} (h:n ≠ 0):j7 n=n % 10 :: j7 (n / 10):=by rw [j7,dif_neg h]
theorem D3 (n:Nat):val (j7 n)=n:=by
 induction n using Nat.strongRecOn with
 | _ n ih =>
  by_cases h:n=0
  ·subst h;rw [B4];rfl
  ·rw [G9 h,val,ih (n / 10) (by omega)];omega
theorem D8 (n:Nat):D9 (j7 n):=by
 induction n using Nat.strongRecOn with
 | _ n ih =>
  by_cases h:n=0
  ·subst h;rw [B4];intro d hd;simp at hd
  ·rw [G9 h];intro d hd;simp at hd
   rcases hd with rfl | hd
   ·omega
   ·exact ih (n / 10) (by omega) d hd
theorem b8e {d m:Nat} (hd:d≤9) (h:d ≠ 0∨m ≠ 0):j7 (d+10 * m)=d :: j7 m:=by
 rw [G9 (by omega)];congr 1
 ·omega
 ·congr 1;omega
theorem a31 (a b:List Nat):val (a ++ b)=val a+10 ^ a.length * val b:=by
 induction a with
 | nil=>simp [val]
 | cons d t ih=>simp only [List.cons_append,val,ih,List.length_cons,Nat.pow_succ];rw [Nat.mul_add,← Nat.mul_assoc,Nat.mul_comm (10 ^ t.length) 10];omega
theorem b8x (t:List Nat) (d:Nat) (h9:D9 (t ++ [d])) (hd:d ≠ 0):j7 (val (t ++ [d]))=t ++ [d]:=by
 induction t with
 | nil =>
  have:d≤9:=h9 d (by simp)
  simp only [List.nil_append,val]
  rw [Nat.mul_zero,← Nat.mul_zero 10,b8e this (.inl hd),B4]
 | cons x t ih =>
  simp only [List.cons_append,val]
  rw [b8e (h9 x (by simp)),ih (fun y hy=>h9 y (by simp at hy ⊢;exact .inr hy))]
  refine .inr fun h0=>hd ?_
  have h2:=a31 t [d]
  rw [h0] at h2
  simp only [val] at h2
  have h3:0 < 10 ^ t.length:=Nat.pow_pos (by omega)
  rw [Nat.mul_zero,Nat.add_zero] at h2
  have h4:10 ^ t.length * d=0:=by omega
  rcases Nat.mul_eq_zero.1 h4 with h | h <;> omega
theorem c8m (l:List Nat) (h9:D9 l) (n:Nat) (hn:n≤l.length):l.take (R1 l n)=j7 (val (l.take n)):=by
 induction n with
 | zero=>simp [R1,val,B4]
 | succ n ih =>
  have hlt:n < l.length:=by omega
  have htk:l.take (n+1)=l.take n ++ [l.getD n 0]:=by
   rw [List.take_succ_eq_append_getElem hlt];simp [List.getD,hlt]
  simp only [R1]
  split
  ·rename_i h0
   rw [ih (by omega),htk,h0,a31]
   simp [val]
  ·rename_i h0
   rw [htk,b8x _ _ _ h0]
   intro d hd
   rw [← htk] at hd
   exact h9 d (List.mem_of_mem_take hd)
theorem a38 (l:List Nat) (h9:D9 l):F2 l=j7 (val l):=by
 unfold F2;rw [c8m l h9 l.length (Nat.le_refl _),List.take_length]
def a3k:List Nat→List Nat→Nat→List Nat
 | [],_,_=>[]
 | x :: a,b,bor =>
  if (x:Int) - bor - (b.headD 0:Int) < 0 then ((x:Int) - bor - (b.headD 0:Int)+10).toNat :: a3k a b.tail 1
  else ((x:Int) - bor - (b.headD 0:Int)).toNat :: a3k a b.tail 0
theorem b2f (a b:List Nat) (i bor:Nat):J7 a b i bor=(a.getD i 0:Int) - bor - ((b.drop i).headD 0:Int):=by
 unfold J7
 rcases Nat.lt_or_ge i b.length with h | h
 ·rw [if_pos h,List.drop_eq_getElem_cons h];simp [List.getD,h]
 ·rw [if_neg (by omega),List.drop_eq_nil_of_le h];simp
theorem c72 (a b:List Nat) (i bor:Nat) (acc:List Nat) (hi:i≤a.length):O5 a b i bor acc=acc ++ a3k (a.drop i) (b.drop i) bor:=by
 fun_induction O5 a b i bor acc with
 | case1 i bor acc h1 h2 ih =>
  rw [ih (by omega),List.drop_eq_getElem_cons h1,a3k]
  rw [b2f] at h2 ⊢
  simp only [List.getD,List.getElem?_eq_getElem h1,Option.getD_some] at h2 ⊢
  rw [if_pos h2];simp
 | case2 i bor acc h1 h2 ih =>
  rw [ih (by omega),List.drop_eq_getElem_cons h1,a3k]
  rw [b2f] at h2 ⊢
  simp only [List.getD,List.getElem?_eq_getElem h1,Option.getD_some] at h2 ⊢
  rw [if_neg h2];simp
 | case3 i bor acc h1 =>
  rw [List.drop_eq_nil_of_le (by omega)];simp [a3k]
theorem d5c (b:List Nat):val b=b.headD 0+10 * val b.tail:=by cases b <;> simp [val]
theorem d55 (a b:List Nat) (bor:Nat) (ha:D9 a) (hb:D9 b) (hbor:bor≤1) (h:val b+bor≤val a):val (a3k a b bor)+val b+bor=val a:=by
 induction a generalizing b bor with
 | nil=>simp [val] at h;simp [a3k,val];omega
 | cons x a ih =>
  have hx:x≤9:=ha x (by simp)
  have ha':D9 a:=fun d hd=>ha d (by simp [hd])
  have hb':D9 b.tail:=fun d hd=>hb d (List.mem_of_mem_tail hd)
  have hy:b.headD 0≤9:=by
   cases b with
   | nil=>simp
   | cons y t=>exact hb y (by simp)
  have hvb:=d5c b
  simp only [val] at h
  simp only [a3k]
  split
  ·rename_i hz
   have:=ih b.tail 1 ha' hb' (by omega) (by omega)
   simp only [val]
   omega
  ·rename_i hz
   have:=ih b.tail 0 ha' hb' (by omega) (by omega)
   simp only [val]
   omega
theorem d92 (a b:List Nat) (bor:Nat) (ha:D9 a) (hb:D9 b) (hbor:bor≤1):D9 (a3k a b bor):=by
 induction a generalizing b bor with
 | nil=>intro d hd;simp [a3k] at hd
 | cons x a ih =>
  have hx:x≤9:=ha x (by simp)
  have ha':D9 a:=fun d hd=>ha d (by simp [hd])
  have hb':D9 b.tail:=fun d hd=>hb d (List.mem_of_mem_tail hd)
  simp only [a3k]
  split
  ·rename_i hz;intro d hd
   rcases List.mem_cons.1 hd with rfl | hd
   ·omega
   ·exact ih b.tail 1 ha' hb' (by omega) d hd
  ·rename_i hz;intro d hd
   rcases List.mem_cons.1 hd with rfl | hd
   ·omega
   ·exact ih b.tail 0 ha' hb' (by omega) d hd
theorem d1o (x y:Nat) (h:y≤x):b6z (j7 x) (j7 y)=j7 (x - y):=by
 unfold b6z
 rw [c72 _ _ _ _ _ (Nat.zero_le _)]
 simp only [List.nil_append,List.drop_zero]
 rw [a38 _ (d92 _ _ _ (D8 x) (D8 y) (by omega))]
 have:=d55 (j7 x) (j7 y) 0 (D8 x) (D8 y) (by omega) (by rw [D3,D3];omega)
 rw [D3,D3] at this
 congr 1;omega
theorem a1n (l:List Nat) (h9:D9 l):val l < 10 ^ l.length:=by
 induction l with
 | nil=>simp [val]
 | cons d t ih =>
  have h1:=ih (fun x hx=>h9 x (by simp [hx]))
  have h2:d≤9:=h9 d (by simp)
  simp only [val,List.length_cons,Nat.pow_succ]
  omega
theorem b1q (n:Nat) (h:n ≠ 0):10 ^ ((j7 n).length - 1)≤n:=by
 induction n using Nat.strongRecOn with
 | _ n ih =>
  rw [G9 h]
  simp only [List.length_cons,Nat.add_sub_cancel]
  by_cases h1:n / 10=0
  ·rw [h1,B4];simp;omega
  ·have:=ih (n / 10) (by omega) h1
   have h2:(j7 (n / 10)).length ≠ 0:=by rw [G9 h1];simp
   have h3:10 ^ (j7 (n / 10)).length=10 * 10 ^ ((j7 (n / 10)).length - 1):=by
    rw [← Nat.pow_succ'];congr 1;omega
   omega
theorem c39 (a b:List Nat) (ha:D9 a) (hb:D9 b) (n:Nat) (hna:n≤a.length) (hnb:n≤b.length) :
  G6 a b n=if val (a.take n) < val (b.take n) then -1 else if val (b.take n) < val (a.take n) then 1 else 0:=by
 induction n with
 | zero=>simp [G6,val]
 | succ n ih =>
  have hla:n < a.length:=by omega
  have hlb:n < b.length:=by omega
  have e1:a.take (n+1)=a.take n ++ [a.getD n 0]:=by rw [List.take_succ_eq_append_getElem hla];simp [List.getD,hla]
  have e2:b.take (n+1)=b.take n ++ [b.getD n 0]:=by rw [List.take_succ_eq_append_getElem hlb];simp [List.getD,hlb]
  have v1:=a31 (a.take n) [a.getD n 0]
  have v2:=a31 (b.take n) [b.getD n 0]
  have l1:(a.take n).length=n:=by simp;omega
  have l2:(b.take n).length=n:=by simp;omega
  have b1:=a1n (a.take n) (fun d hd=>ha d (List.mem_of_mem_take hd))
  have b2:=a1n (b.take n) (fun d hd=>hb d (List.mem_of_mem_take hd))
  rw [l1] at v1 b1
  rw [l2] at v2 b2
  simp only [val,Nat.mul_zero,Nat.add_zero] at v1 v2
  rw [e1,e2,v1,v2]
  simp only [G6]
  rw [ih (by omega) (by omega)]
  generalize a.getD n 0=x at *
  generalize b.getD n 0=y at *
  generalize val (a.take n)=p at *
  generalize val (b.take n)=q at *
  generalize 10 ^ n=P at *
  by_cases h1:x < y
  ·have:P * (x+1)≤P * y:=Nat.mul_le_mul_left P h1
   rw [Nat.mul_add,Nat.mul_one] at this
   rw [if_pos h1,if_pos (by omega)]
  ·rw [if_neg h1]
   by_cases h2:y < x
   ·have:P * (y+1)≤P * x:=Nat.mul_le_mul_left P h2
    rw [Nat.mul_add,Nat.mul_one] at this
    rw [if_pos h2,if_neg (by omega),if_pos (by omega)]
   ·rw [if_neg h2]
    have h3:x=y:=by omega
    subst h3
    simp only [Nat.add_lt_add_iff_right]
theorem d01 (x y:Nat):P8 (j7 x) (j7 y)=if x < y then -1 else if y < x then 1 else 0:=by
 unfold P8
 split
 ·rename_i h
  rw [c39 _ _ (D8 x) (D8 y) _ (Nat.le_refl _) (by omega),List.take_length,h,List.take_length,D3,D3]
 ·rename_i h
  have b1:=a1n (j7 x) (D8 x)
  have b2:=a1n (j7 y) (D8 y)
  rw [D3] at b1 b2
  split
  ·rename_i h2
   have hy:y ≠ 0:=by intro e;rw [e,B4] at h2;simp at h2
   have g2:=b1q y hy
   have:10 ^ (j7 x).length≤10 ^ ((j7 y).length - 1):=Nat.pow_le_pow_right (by omega) (by omega)
   rw [if_pos (by omega)]
  ·rename_i h2
   have hx:x ≠ 0:=by intro e;rw [e,B4] at h h2;simp only [List.length_nil] at h h2;omega
   have g1:=b1q x hx
   have:10 ^ (j7 y).length≤10 ^ ((j7 x).length - 1):=Nat.pow_le_pow_right (by omega) (by omega)
   rw [if_neg (by omega),if_pos (by omega)]

theorem c4x (s:i7) (e:Nat) (k:Nat) (acc:List Nat):y9 s e k acc=acc ++ y9 s e k []:=by
 induction k generalizing acc with
 | zero=>simp [y9]
 | succ k ih =>
  simp only [y9]
  split
  ·rw [ih (acc ++ _),ih ([] ++ _)];simp
  ·simp
theorem c35 (s:i7) (k acc:Nat) (hk:k≤s.length):A0 s k acc=acc * 10 ^ (s.length - k)+A0 s k 0:=by
 generalize hm:s.length - k=m
 induction m generalizing k acc with
 | zero=>rw [A0,if_neg (by omega),A0,if_neg (by omega)];simp
 | succ m ih =>
  rw [A0,if_pos (by omega),A0.eq_def s k 0,if_pos (by omega),ih (k+1) _ (by omega) (by omega),ih (k+1) (10 * 0+_) (by omega) (by omega),Nat.pow_succ]
  rw [Nat.mul_zero,Nat.zero_add,Nat.add_mul,Nat.mul_comm 10 acc,Nat.mul_assoc,Nat.mul_comm 10 (10 ^ m)]
  omega
end LQ
namespace LQ
theorem a5o (s:i7) (e k:Nat) (h:e≤k):y9 s e (k+1) []=(bt s k - 48).toNat :: y9 s e k []:=by
 rw [y9,if_pos h,c4x];simp
theorem c5k (s:i7) (e:Nat):y9 s e e []=[]:=by
 cases e with
 | zero=>rfl
 | succ e=>rw [y9,if_neg (by omega)]
theorem c4j (s:i7) (e k:Nat) (he:e≤k) (hk:k≤s.length):A0 s e 0=A0 s k (val (y9 s e k [])):=by
 induction k with
 | zero=>obtain rfl:e=0:=by omega
         rfl
 | succ k ih =>
  by_cases h:e=k+1
  ·subst h;rw [c5k];rfl
  ·rw [ih (by omega) (by omega),a5o s e k (by omega),A0,if_pos (by omega)]
   congr 1
   simp only [val];omega
theorem b2n (s:i7) (e:Nat) (he:e≤s.length):A0 s e 0=val (y9 s e s.length []):=by
 rw [c4j s e s.length he (Nat.le_refl _),A0,if_neg (by omega)]
theorem c1x (s:i7) (e k:Nat) (h:e < k):∃ t,y9 s e k []=t ++ [(bt s e - 48).toNat]:=by
 induction k with
 | zero=>omega
 | succ k ih =>
  rw [a5o s e k (by omega)]
  by_cases hk:e=k
  ·subst hk;exact ⟨[],by rw [c5k];rfl⟩
  ·obtain ⟨t,ht⟩:=ih (by omega)
   exact ⟨_ :: t,by rw [ht];rfl⟩
theorem e45 (s:i7) (e k:Nat) (h:∀ j,e≤j→j < k→48≤bt s j∧bt s j≤57):D9 (y9 s e k []):=by
 induction k with
 | zero=>intro d hd;simp [y9] at hd
 | succ k ih =>
  by_cases he:e≤k
  ·rw [a5o s e k he]
   intro d hd
   rcases List.mem_cons.1 hd with rfl | hd
   ·have:=h k he (by omega);omega
   ·exact ih (fun j h1 h2=>h j h1 (by omega)) d hd
  ·rw [y9,if_neg he];intro d hd;simp at hd
theorem a7c:i6 A5=0:=by
 have h1:j0 A5=0:=by decide
 have h2:A0 A5 0 0=0:=by rw [A0,if_pos (by decide),A0,if_neg (by decide)];decide
 unfold i6
 rw [h1,h2];simp
theorem b1o (s:i7):Z2 s=(decide (i6 s < 0),j7 (i6 s).natAbs):=by
 unfold Z2
 split
 ·rename_i h
  obtain ⟨h1,h2⟩:=h
  have h3:j0 s < s.length∧bt s (j0 s) ≠ 48∧m6 s (j0 s)=s.length:=by
   simp [C0,h2] at h1;exact ⟨h1.1.1,h1.1.2,h1.2⟩
  have hall:∀ j,j0 s≤j→j < s.length→48≤bt s j∧bt s j≤57:=fun j a b=>Y3 s (j0 s) j a (by omega)
  have h9:=e45 s (j0 s) s.length hall
  obtain ⟨t,ht⟩:=c1x s (j0 s) s.length h3.1
  have hd0:(bt s (j0 s) - 48).toNat ≠ 0:=by have:=hall (j0 s) (Nat.le_refl _) h3.1;omega
  have hcan:j7 (val (y9 s (j0 s) s.length []))=y9 s (j0 s) s.length []:=by
   rw [ht] at h9 ⊢;exact b8x t _ h9 hd0
  have hv:=b2n s (j0 s) (by omega)
  have hpos:0 < A0 s (j0 s) 0:=by
   rcases Nat.eq_zero_or_pos (A0 s (j0 s) 0) with h | h
   ·rw [← hv,h,B4] at hcan;rw [ht] at hcan;simp at hcan
   ·exact h
  unfold i6
  rw [if_pos h1]
  have hs1:=L6 s
  by_cases hsg:j0 s=1
  ·rw [if_pos hsg]
   rw [hsg] at hcan hv hpos ⊢
   rw [hv,Int.natAbs_neg,Int.natAbs_natCast,hcan]
   congr 1
   rw [← hv];simp;omega
  ·have hs0:j0 s=0:=by omega
   rw [if_neg hsg]
   rw [hs0] at hcan hv hpos ⊢
   rw [hv,Int.natAbs_natCast,hcan]
   congr 1
 ·rename_i h
  have:i6 s=0:=by
   by_cases h1:C0 s=true
   ·have:s=A5:=by
     by_cases h2:s=A5
     ·exact h2
     ·exact absurd ⟨h1,h2⟩ h
    rw [this];exact a7c
   ·unfold i6;rw [if_neg h1]
  rw [this];simp [B4]
end LQ
namespace LQ
theorem d14 (X a y:Nat) (hy:0 < y):(a+10 * X) / y=(a+10 * (X % y)) / y+10 * (X / y)∧(a+10 * X) % y=(a+10 * (X % y)) % y:=by
 have h:=Nat.div_add_mod X y
 have e:a+10 * X=(a+10 * (X % y))+y * (10 * (X / y)):=by
  have:y * (10 * (X / y))=10 * (y * (X / y)):=by rw [Nat.mul_left_comm]
  rw [this];omega
 rw [e]
 exact ⟨by rw [Nat.add_mul_div_left _ _ hy],by rw [Nat.add_mul_mod_self_left]⟩
theorem c8l (R t y:Nat) (hy:0 < y) (h1:t * y≤R) (h2:R - t * y < y):R / y=t∧R % y=R - t * y:=by
 have e:R=(R - t * y)+y * t:=by rw [Nat.mul_comm y t];omega
 constructor
 ·rw [e,Nat.add_mul_div_left _ _ hy,Nat.div_eq_of_lt h2];omega
 ·have:R % y=((R - t * y)+y * t) % y:=by rw [← e]
  rw [this,Nat.add_mul_mod_self_left,Nat.mod_eq_of_lt h2]
theorem d0c (x k:Nat) (h:k < (j7 x).length):val ((j7 x).drop k)=(j7 x).getD k 0+10 * val ((j7 x).drop (k+1)):=by
 rw [List.drop_eq_getElem_cons h];simp [val,List.getD,h]
theorem b6w (a r:Nat) (ha:a≤9):F2 (a :: j7 r)=j7 (a+10 * r):=by
 rw [a38]
 ·simp only [val,D3]
 ·intro d hd
  rcases List.mem_cons.1 hd with rfl | hd
  ·exact ha
  ·exact D8 r d hd
end LQ
namespace LQ
theorem a09 (n k:Nat) (h:n ≠ 0) (hk:k < (j7 n).length):bt (j5 n) k=48+((j7 n).getD ((j7 n).length - 1 - k) 0:Int):=by
 have hs:(j5 n).length=(j7 n).length:=by unfold j5;rw [if_neg h];simp
 have hbt:bt (j5 n) k=(((j5 n)[k]'(by omega)).toNat:Int):=by unfold bt;simp [List.getD,List.getElem?_eq_getElem (show k < (j5 n).length by omega)]
 rw [hbt]
 have h9:(j7 n).getD ((j7 n).length - 1 - k) 0≤9:=by
  have hlt:(j7 n).length - 1 - k < (j7 n).length:=by omega
  simp only [List.getD,List.getElem?_eq_getElem hlt,Option.getD_some]
  exact D8 n _ (List.getElem_mem hlt)
 have:(j5 n)[k]'(by omega)=UInt8.ofNat (48+(j7 n).getD ((j7 n).length - 1 - k) 0):=by
  have e:j5 n=((j7 n).reverse.map fun d=>UInt8.ofNat (48+d)):=by unfold j5;rw [if_neg h]
  simp only [e]
  simp [List.getD,show (j7 n).length - 1 - k < (j7 n).length by omega]
 rw [this]
 simp only [UInt8.toNat_ofNat']
 omega

theorem P1 (n:Nat) (h:n ≠ 0):(j5 n).length=(j7 n).length:=by unfold j5;rw [if_neg h];simp
theorem b9g (n:Nat) (h:n ≠ 0):(j7 n).getD ((j7 n).length - 1) 0 ≠ 0:=by
 induction n using Nat.strongRecOn with
 | _ n ih =>
  rw [G9 h]
  by_cases h1:n / 10=0
  ·rw [h1,B4];simp;omega
  ·have:=ih (n / 10) (by omega) h1
   have h2:(j7 (n / 10)).length ≠ 0:=by rw [G9 h1];simp
   obtain ⟨m,hm⟩:∃ m,(j7 (n / 10)).length=m+1:=⟨_,(Nat.succ_pred h2).symm⟩
   rw [hm] at this
   simp only [List.length_cons,hm,Nat.add_sub_cancel]
   simpa [List.getD] using this
theorem V2 (s:i7) (i:Nat) (hi:i≤s.length) (h:∀ j,i≤j→j < s.length→48≤bt s j∧bt s j≤57):m6 s i=s.length:=by
 fun_induction m6 s i with
 | case1 i h1 h2 ih=>exact ih (by omega) (fun j a b=>h j (by omega) b)
 | case2 i h1 h2=>exact absurd (by have:=h i (Nat.le_refl _) h1;simp [Q2];omega) h2
 | case3 i h1=>omega
theorem d20 (n k:Nat) (h:n ≠ 0) (hk:k≤(j7 n).length):y9 (j5 n) 0 k []=(j7 n).drop ((j7 n).length - k):=by
 induction k with
 | zero=>simp [y9]
 | succ k ih =>
  rw [a5o _ _ _ (Nat.zero_le _),ih (by omega),a09 n k h (by omega)]
  have hlt:(j7 n).length - (k+1) < (j7 n).length:=by omega
  rw [List.drop_eq_getElem_cons hlt]
  congr 1
  ·simp only [List.getD,show (j7 n).length - 1 - k=(j7 n).length - (k+1) by omega,List.getElem?_eq_getElem hlt,Option.getD_some];omega
  ·congr 1;omega
theorem E5 (n:Nat):i6 (j5 n)=n:=by
 by_cases h:n=0
 ·subst h;exact a7c
 ·have hs:=P1 n h
  have hl:(j7 n).length ≠ 0:=by rw [G9 h];simp
  have hall:∀ j,0≤j→j < (j5 n).length→48≤bt (j5 n) j∧bt (j5 n) j≤57:=by
   intro j _ hj
   rw [a09 n j h (by omega)]
   have hlt:(j7 n).length - 1 - j < (j7 n).length:=by omega
   have:=D8 n ((j7 n)[(j7 n).length - 1 - j]) (List.getElem_mem hlt)
   simp only [List.getD,List.getElem?_eq_getElem hlt,Option.getD_some]
   omega
  have h0:=hall 0 (Nat.le_refl _) (by omega)
  have hsg:j0 (j5 n)=0:=by unfold j0;rw [if_neg (by omega)]
  have hb0:bt (j5 n) 0 ≠ 48:=by
   rw [a09 n 0 h (by omega)]
   have:=b9g n h
   rw [Nat.sub_zero]
   omega
  have hok:C0 (j5 n)=true:=by
   unfold C0
   rw [hsg,V2 _ 0 (Nat.zero_le _) hall]
   simp [hb0];right;omega
  unfold i6
  rw [if_pos hok,hsg,if_neg (by omega),b2n _ 0 (Nat.zero_le _),hs,d20 n _ h (Nat.le_refl _),Nat.sub_self,List.drop_zero,D3]
end LQ
namespace LQ
theorem a04 (c:UInt8) (s:i7) (k:Nat):bt (c :: s) (k+1)=bt s k:=by simp [bt]
theorem c3o (c:UInt8) (s:i7) (k acc:Nat):A0 (c :: s) (k+1) acc=A0 s k acc:=by
 fun_induction A0 s k acc with
 | case1 k acc h ih=>rw [A0,if_pos (by simp;omega),a04,ih]
 | case2 k acc h=>rw [A0,if_neg (by simp;omega)]
theorem c48 (c:UInt8) (s:i7) (k:Nat):m6 (c :: s) (k+1)=m6 s k+1:=by
 fun_induction m6 s k with
 | case1 k h1 h2 ih=>rw [m6,if_pos (by simp;omega),a04,if_pos h2,ih]
 | case2 k h1 h2=>rw [m6,if_pos (by simp;omega),a04,if_neg h2]
 | case3 k h=>rw [m6,if_neg (by simp;omega)]
theorem a2k (n:Nat) (h:n ≠ 0):(∀ j,0≤j→j < (j5 n).length→48≤bt (j5 n) j∧bt (j5 n) j≤57)∧bt (j5 n) 0 ≠ 48∧0 < (j5 n).length:=by
 have hs:=P1 n h
 have hl:(j7 n).length ≠ 0:=by rw [G9 h];simp
 refine ⟨?_,?_,by omega⟩
 ·intro j _ hj
  rw [a09 n j h (by omega)]
  have hlt:(j7 n).length - 1 - j < (j7 n).length:=by omega
  have:=D8 n ((j7 n)[(j7 n).length - 1 - j]) (List.getElem_mem hlt)
  simp only [List.getD,List.getElem?_eq_getElem hlt,Option.getD_some]
  omega
 ·rw [a09 n 0 h (by omega)]
  have:=b9g n h
  rw [Nat.sub_zero]
  omega
theorem c7v (n:Nat) (h:n ≠ 0):i6 (45 :: j5 n)=-(n:Int):=by
 obtain ⟨h1,h2,h3⟩:=a2k n h
 have hsg:j0 (45 :: j5 n)=1:=by unfold j0;rw [if_pos];exact ⟨by simp,rfl⟩
 have hsg0:j0 (j5 n)=0:=by unfold j0;rw [if_neg];have:=h1 0 (Nat.le_refl _) h3;omega
 have hok:C0 (45 :: j5 n)=true:=by
  unfold C0
  rw [hsg,show (1:Nat)=0+1 from rfl,c48,a04,V2 _ 0 (Nat.zero_le _) h1]
  simp [h2];right;omega
 have hv:=E5 n
 have hok0:C0 (j5 n)=true:=by
  unfold C0
  rw [hsg0,V2 _ 0 (Nat.zero_le _) h1]
  simp [h2];right;omega
 unfold i6 at hv
 rw [if_pos hok0,hsg0,if_neg (by omega)] at hv
 unfold i6
 rw [if_pos hok,hsg,if_pos rfl,show (1:Nat)=0+1 from rfl,c3o,hv]
theorem B0 (n:Int):i6 (j6 n)=n:=by
 unfold j6
 split
 ·rename_i h
  show i6 (45 :: j5 n.natAbs)=n
  rw [c7v _ (by omega)];omega
 ·rw [E5];omega
theorem a0i {a b:Int} (h:j6 a=j6 b):a=b:=by rw [← B0 a,h,B0]
theorem a7d {a b:Nat} (h:j5 a=j5 b):a=b:=by
 have:=congrArg i6 h
 rw [E5,E5] at this
 omega
end LQ
namespace Go.Proofs.YtffaodopiifbkaaGreatDoor
open Go.Abs LQ
noncomputable section
abbrev Sy:=i7 × i7
inductive O where
 | num (n:Int) (d:Nat)
 | sy (s:Sy)
 | tx (s:i7)
 | co (a d:O)
 | no
namespace O
def k:O→Int
 | num _ _=>1
 | sy _=>2
 | tx _=>3
 | co _ _=>4
 | no=>0
def nu:O→i7
 | num n _=>j6 n
 | _=>[]
def de:O→i7
 | num _ d=>j5 d
 | _=>[]
def sym:O→Sy
 | sy s=>s
 | _=>([],[])
def txt:O→i7
 | tx s=>s
 | _=>[]
def ps:O→List O
 | co a d=>[a,d]
 | _=>[]
def g:O→List G
 | num n d=>[.i .i64 1,.s (j6 n),.s (j5 d),.s [],.s [],.s [],.l []]
 | sy s=>[.i .i64 2,.s [],.s [],.s s.1,.s s.2,.s [],.l []]
 | tx s=>[.i .i64 3,.s [],.s [],.s [],.s [],.s s,.l []]
 | co a d=>[.i .i64 4,.s [],.s [],.s [],.s [],.s [],.l [a.g,d.g]]
 | no=>[.i .i64 0,.s [],.s [],.s [],.s [],.s [],.l []]
theorem g_eq (a:O):a.g=[.i .i64 a.k,.s a.nu,.s a.de,.s a.sym.1,.s a.sym.2,.s a.txt,.l (a.ps.map O.g)]:=by cases a <;> rfl
theorem g_len (a:O):a.g.length=7:=by cases a <;> rfl
theorem ps_le (a:O):a.ps.length≤2:=by cases a <;> simp [ps]
theorem ps_fuel (a:O):a.ps.length - 0 < B8:=by cases a <;> simp [ps,B8]
theorem ext {a b:O} (h1:a.k=b.k) (h2:a.nu=b.nu) (h3:a.de=b.de) (h4:a.sym=b.sym) (h5:a.txt=b.txt) (h6:a.ps=b.ps):a=b:=by
 cases a <;> cases b <;> simp_all [k,nu,de,sym,txt,ps]
 exact ⟨a0i h2,a7d h3⟩
theorem g_inj:∀ {a b:O},a.g=b.g→a=b:=by
 intro a
 induction a with
 | num n d=>intro b h;cases b <;> simp only [g,List.cons.injEq,G.s.injEq,G.i.injEq,reduceCtorEq,and_true,true_and,false_and,and_false,Int.reduceEq] at h;exact (congrArg (O.num · _) (a0i h.1)).trans (congrArg (O.num _) (a7d h.2))
 | sy s=>intro b h;cases b <;> simp [g] at h;exact congrArg O.sy (Prod.ext h.1 h.2)
 | tx s=>intro b h;cases b <;> simp [g] at h;rw [h]
 | co a d iha ihd=>intro b h;cases b <;> simp [g] at h;rw [iha h.1,ihd h.2]
 | no=>intro b h;cases b <;> simp [g] at h;rfl
open Classical in
def eqb (a b:O):Bool:=decide (a=b)
theorem eqb_t {a b:O}:eqb a b=true↔a=b:=by unfold eqb;simp
theorem eqb_f {a b:O}:eqb a b=false↔¬a=b:=by unfold eqb;simp
def size:O→Nat
 | co a d=>1+a.size+d.size
 | _=>1
theorem ps_size (a:O):∀ x ∈ a.ps,x.size < a.size:=by cases a <;> simp [ps,size] <;> omega
end O
theorem c0w:∀ {l m:List O},l.map O.g=m.map O.g→l=m
 | [],[],_=>rfl
 | [],_ :: _,h=>by simp at h
 | _ :: _,[],h=>by simp at h
 | a :: l,b :: m,h=>by simp only [List.map_cons,List.cons.injEq] at h;exact congr (congrArg List.cons (O.g_inj h.1)) (c0w h.2)
theorem d15 {x y:O} {vs:List V} (h:l9 [.a x.g] vs) (k:l9 [.a y.g] vs):x=y:=by
 cases h with | cons _ _ v _ h _=>cases k with | cons _ _ _ _ k _=>exact O.g_inj (h.a_inj k)
theorem c9r {x y x' y':O} {vs:List V} (h:l9 [.a x.g,.a x'.g] vs) (k:l9 [.a y.g,.a y'.g] vs):x=y∧x'=y':=by
 cases h with | cons _ _ v _ h h'=>cases k with | cons _ _ _ _ k k'=>exact ⟨O.g_inj (h.a_inj k),d15 h' k'⟩
end
end Go.Proofs.YtffaodopiifbkaaGreatDoor
namespace Go.Proofs.YtffaodopiifbkaaGreatDoor
open Go.Abs LQ
structure Tr (p q:Prop):Prop where
 go:q→p
theorem Tr.refl {p:Prop}:Tr p p:=⟨id⟩
theorem Tr.b {p p' q:Prop} (f:p'→p) (h:Tr p' q):Tr p q:=⟨fun k=>f (h.go k)⟩
theorem Tr.all {α:Sort _} {p q:α→Prop} (h:∀ x,Tr (p x) (q x)):Tr (∀ x,p x) (∀ x,q x):=⟨fun k x=>(h x).go (k x)⟩
theorem Tr.chk {U:w7} {P:G3→List Bx→Prop} {b:Bool} {p q:Prop} {x:Om} (ht:J9 U b p) (hp:p) (h:Tr (j3 U x P) q):Tr (j3 U (U.chk b x) P) q:=⟨fun k=>c8p ht hp (h.go k)⟩
theorem Tr.cnd {U:w7} {P:G3→List Bx→Prop} {b:Bool} {p:Prop} {q1:p→Prop} {q2:¬p→Prop} {x y:Om} (ht:J9 U b p) (h:∀ a,Tr (j3 U x P) (q1 a)) (k:∀ a,Tr (j3 U y P) (q2 a)):Tr (j3 U (U.cnd b x y) P) ((∀ a,q1 a)∧(∀ a,q2 a)):=⟨fun g=>c7r ht (fun a=>(h a).go (g.1 a)) (fun a=>(k a).go (g.2 a))⟩
theorem Zx {p q:Prop} (k:q) (h:Tr p q:=by ((repeat' (first | (with_reducible apply Tr.all) | (with_reducible intro _) | (apply Tr.b;(case f=>first | exact b49 | exact a23 (by assumption) | exact c09 | exact b1j (by assumption) | exact b4i | exact a5v (by assumption) | exact b0q | exact b1h (by assumption) | exact sP | exact sPR (by assumption) | exact sIV | exact sI (by assumption) | exact sBV | exact sBK | exact sB (by assumption) | exact sSV | exact sS (by assumption) | exact sA | exact U4 (by assumption) (by rfl) | exact b7p (by rfl) | exact c12 (by rfl) | exact c0o (by assumption) (by rfl) | exact c2e (by assumption) (by rfl) | exact c68 (by assumption) | exact sSl (by assumption) | exact sTu (by assumption) | exact sBo | exact a1f (by assumption) (by rfl) | exact sBc | exact c88 (by assumption) | exact sBt | exact sBs | exact sBr | exact a07 (by assumption) | exact b5g (by assumption) | exact b6h (by assumption) (by rfl) | exact c9a (by assumption) (by rfl) | exact sCI' (by assumption) (by rfl) | exact sCB' (by assumption) (by rfl) | exact sCS (by assumption) | exact sCI (by assumption) | exact sCB (by assumption) | exact b5h (by first | omega | (simp only [List.length_map] at *;omega)) | exact b4k (by first | omega | (simp only [List.length_map] at *;omega)) | exact c0h | exact b1z | exact b17 | exact b99 | exact b6c | exact b4r | exact sfSubN | exact b1f | exact sfBSelE | exact sfB | exact sJn | exact c0m | exact c0i | exact c0f | exact M3 (by assumption) (by (first | exact C7 O.g_len | exact C7 (fun _=>rfl))) | exact a9y (by assumption) (by (first | exact C7 O.g_len | exact C7 (fun _=>rfl))) | exact c0p (by first | omega | (simp only [List.length_map] at *;omega)) | exact b41 (by first | omega | (simp only [List.length_map] at *;omega)) | exact c82 (by assumption) (by first | assumption | omega | (simp only [List.length_map] at *;omega)) | exact sfT (by assumption) (by rfl))) | (apply Tr.chk;(case ht=>(repeat' (first | exact trT | exact trF | apply a3w | apply a3t | exact a3y | exact a32 | exact a3p | exact a5l | exact a8h | exact a1r | exact a1x | exact a1g | exact a1z | exact a0m | exact a4b | exact a9d | exact a8y | exact trS | exact trV)));(case hp=>first | omega | (simp only [List.length_map] at *;omega))) | (apply Tr.cnd;(case ht=>(repeat' (first | exact trT | exact trF | apply a3w | apply a3t | exact a3y | exact a32 | exact a3p | exact a5l | exact a8h | exact a1r | exact a1x | exact a1g | exact a1z | exact a0m | exact a4b | exact a9d | exact a8y | exact trS | exact trV))))));all_goals exact Tr.refl)):p:=h.go k
theorem Zy {p q:Prop} (k:q) (h:Tr p q:=by ((repeat' (first | (with_reducible apply Tr.all) | (with_reducible intro _) | (apply Tr.b;(case f=>first | exact b49 | exact a23 (by assumption) | exact c09 | exact b1j (by assumption) | exact b4i | exact a5v (by assumption) | exact b0q | exact b1h (by assumption) | exact sP | exact sPR (by assumption) | exact sIV | exact sI (by assumption) | exact sBV | exact sBK | exact sB (by assumption) | exact sSV | exact sS (by assumption) | exact sA | exact U4 (by assumption) (by rfl) | exact b7p (by rfl) | exact c12 (by rfl) | exact c0o (by assumption) (by rfl) | exact c2e (by assumption) (by rfl) | exact c68 (by assumption) | exact sSl (by assumption) | exact sTu (by assumption) | exact sBo | exact a1f (by assumption) (by rfl) | exact sBc | exact c88 (by assumption) | exact sBt | exact sBs | exact sBr | exact a07 (by assumption) | exact b5g (by assumption) | exact b6h (by assumption) (by rfl) | exact c9a (by assumption) (by rfl) | exact sCI' (by assumption) (by rfl) | exact sCB' (by assumption) (by rfl) | exact sCS (by assumption) | exact sCI (by assumption) | exact sCB (by assumption) | exact b5h (by first | omega | (simp only [List.length_map] at *;omega)) | exact b4k (by first | omega | (simp only [List.length_map] at *;omega)) | exact c0h | exact b1z | exact b17 | exact b99 | exact b6c | exact b4r | exact sfSubN | exact b1f | exact sfBSelE | exact sfB | exact c0m | exact c0i | exact c0f | exact M3 (by assumption) (by (first | exact C7 O.g_len | exact C7 (fun _=>rfl))) | exact a9y (by assumption) (by (first | exact C7 O.g_len | exact C7 (fun _=>rfl))) | exact c0p (by first | omega | (simp only [List.length_map] at *;omega)) | exact b41 (by first | omega | (simp only [List.length_map] at *;omega)) | exact c82 (by assumption) (by first | assumption | omega | (simp only [List.length_map] at *;omega)) | exact sfT (by assumption) (by rfl))) | (apply Tr.chk;(case ht=>(repeat' (first | exact trT | exact trF | apply a3w | apply a3t | exact a3y | exact a32 | exact a3p | exact a5l | exact a8h | exact a1r | exact a1x | exact a1g | exact a1z | exact a0m | exact a4b | exact a9d | exact a8y | exact trS | exact trV)));(case hp=>first | omega | (simp only [List.length_map] at *;omega))) | (apply Tr.cnd;(case ht=>(repeat' (first | exact trT | exact trF | apply a3w | apply a3t | exact a3y | exact a32 | exact a3p | exact a5l | exact a8h | exact a1r | exact a1x | exact a1g | exact a1z | exact a0m | exact a4b | exact a9d | exact a8y | exact trS | exact trV))))));all_goals exact Tr.refl)):p:=h.go k
theorem j9 {p:Prop} (h:p:=by (repeat' (first | exact l9.nil | refine l9.cons _ _ _ _ ?_ ?_ | exact RBs.nil | assumption | exact RV.i _ _ | exact RV.b _ | exact RV.kn _ | exact RV.s _ _ _ rfl rfl | refine RV.a _ _ _ (by first | rfl | exact (O.g_len _).symm) (by assumption) | refine RV.sl _ _ _ _ _ (by first | rfl | simp) (by assumption) | refine RV.q _ _ (by assumption) | exact RV.p _ _ | exact RV.cl _ _ _ _ _ rfl (u6.nil _ _ _) | refine RV.ag _ _ ?_ | refine RV.t _ _ ?_ | refine RV.sl _ _ _ _ _ (by rfl) (u6.nil _ _ _) | exact RV.sl0 _ _ _ | refine RV.s _ _ _ (by rfl) (by rfl)))):p:=h
theorem W6 {p:Prop} (h:p:=by (repeat' (first | exact l9.nil | refine l9.cons _ _ _ _ ?_ ?_ | exact RBs.nil | assumption | exact RV.i _ _ | exact RV.b _ | exact RV.kn _ | exact RV.s _ _ _ rfl rfl | refine RV.q _ _ (B6.at (by assumption) (by rfl)) | refine RV.a _ _ _ (by first | rfl | exact (O.g_len _).symm) (by assumption) | refine RV.q _ _ (by assumption) | refine RV.cl _ _ _ _ _ rfl (u6.nil _ _ _) | refine RV.ag _ _ ?_ | refine RV.t _ _ ?_ | refine RV.s _ _ _ (by rfl) (by rfl)))):p:=h
theorem aI {a b:Prop} (left:a) (right:b):a∧b:=⟨left,right⟩
theorem oV {a:O} {x:Q} (h:B6 a.g x 0:=by assumption):RV (.a a.g) (.a x 7):=.a _ _ _ a.g_len.symm h
theorem oA {a:O} {x:Q} (h:B6 a.g x 0:=by assumption):l9 [.a a.g] [.a x 7]:=.cons _ _ _ _ (oV h) .nil
theorem oR {U:w7} {P:G3→List Bx→Prop} {a:O} {v:V} {K:Q→Om} (k:∀ q,B6 a.g q 0→j3 U (K q) P) (h:RV (.a a.g) v:=by assumption):j3 U (U.uA 7 v K) P:=U4 h a.g_len k
end Go.Proofs.YtffaodopiifbkaaGreatDoor
