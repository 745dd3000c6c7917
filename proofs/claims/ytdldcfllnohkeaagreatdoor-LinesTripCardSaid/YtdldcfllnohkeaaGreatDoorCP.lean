/- Plain functions on texts: C7. No program in sight. -/
import Derived.Test.YtdldcfllnohkeaaGreatDoorCG
set_option linter.all false
namespace LQ
abbrev i6:=List UInt8
def bt (s:i6) (k:Nat):Int:=((s.getD k 0).toNat:Int)
theorem c4c (s:i6) (k:Nat):bt s k < 256:=by unfold bt;have:=(s.getD k 0).toNat_lt;omega
theorem a74 (s:i6) (k:Nat):0≤bt s k:=by unfold bt;omega
def A5 (c:Int):Bool:=decide (33≤c∧c≤126∧c ≠ 40∧c ≠ 41∧c ≠ 39∧c ≠ 34∧c ≠ 59∧c ≠ 124∧c ≠ 58)
def G9 (c:Int):Bool:=decide (c=32∨c=9∨c=10∨c=13)
def has (s:i6) (i:Nat) (a b:Int):Bool:=decide (i+1 < s.length∧bt s i=a∧bt s (i+1)=b)

def n5 (s:i6) (i:Nat):Nat :=
 if i < s.length then if A5 (bt s i) then n5 s (i+1) else i else i
termination_by s.length - i
def P4 (s:i6) (i:Nat):Nat :=
 if i < s.length then if bt s i=10 then i else P4 s (i+1) else i
termination_by s.length - i
def F7 (s:i6) (i depth:Nat):Option Nat :=
 if depth=0 then some i
 else if i < s.length then
  if has s i 35 124 then F7 s (i+2) (depth+1)
  else if has s i 124 35 then F7 s (i+2) (depth - 1)
  else F7 s (i+1) depth
 else none
termination_by s.length - i
theorem b0u (s:i6) (i:Nat) (h:i≤s.length):i≤P4 s i∧P4 s i≤s.length:=by
 fun_induction P4 s i <;> omega
theorem I9 (s:i6) (i:Nat) (h:i≤s.length):i≤n5 s i∧n5 s i≤s.length:=by
 fun_induction n5 s i <;> omega
theorem a0p {s:i6} {i:Nat} {a b:Int} (h:has s i a b=true):i+1 < s.length:=by simp [has] at h;exact h.1
theorem b2d (s:i6) (i depth j:Nat) (hi:i≤s.length) (h:F7 s i depth=some j):i≤j∧j≤s.length:=by
 fun_induction F7 s i depth
 ·simp at h;omega
 ·rename_i hh ih;have:=a0p hh;have:=ih oM h;omega
 ·rename_i hh ih;have:=a0p hh;have:=ih oM h;omega
 ·rename_i ih;have:=ih oM h;omega
 ·simp at h
def skip (s:i6) (i:Nat):Option Nat :=
 if i < s.length then
  if G9 (bt s i) then skip s (i+1)
  else if bt s i=59 then (if i < P4 s i then skip s (P4 s i) else some i)
  else if has s i 35 124 then
   match F7 s (i+2) 1 with
   | none=>none
   | some j=>if i < j then skip s j else some i
  else some i
 else some i
termination_by s.length - i
theorem b74 (s:i6) (i:Nat) (h:i < s.length) (hb:bt s i ≠ 10):i < P4 s i:=by
 rw [P4,if_pos h,if_neg hb];have:=b0u s (i+1) oM;omega

def a02 (c:Int):Bool:=decide (48≤c∧c≤57)
def s8 (s:i6) (k:Nat):Nat :=
 if k < s.length then if a02 (bt s k) then s8 s (k+1) else k else k
termination_by s.length - k
theorem d6f (s:i6) (i:Nat) (h:i≤s.length):i≤s8 s i∧s8 s i≤s.length:=by
 fun_induction s8 s i <;> omega
def E9 (s:i6) (k:Nat):Nat :=
 if k < s.length then if bt s k=48 then E9 s (k+1) else k else k
termination_by s.length - k
theorem b1n (s:i6) (i:Nat) (h:i≤s.length):i≤E9 s i∧E9 s i≤s.length:=by
 fun_induction E9 s i <;> omega
def j6 (s:i6):Nat:=if 0 < s.length∧bt s 0=45 then 1 else 0
theorem Y1 (s:i6):j6 s≤s.length∧j6 s≤1:=by unfold j6;split <;> omega
def u7:i6:=[]
def Q3:i6:=[49]
def B5:i6:=[48]
def x9 (s:i6):i6 × i6 × Bool :=
 let i:=j6 s
 let k:=s8 s i
 if k=i then (u7,u7,false)
 else if k=s.length then (s,Q3,true)
 else if bt s k ≠ 47∨k+1=s.length then (u7,u7,false)
 else if s8 s (k+1)=s.length then (((s.take (k)).drop (0)),((s.take (s.length)).drop ((k+1))),true)
 else (u7,u7,false)
def plain (s:i6):i6 :=
 let i:=E9 s (j6 s)
 if i=s.length then B5
 else if j6 s=1 then ([45]:i6) ++ ((s.take (s.length)).drop (i))
 else ((s.take (s.length)).drop (i))
def a2j (c:Int):Bool:=decide ((97≤c∧c≤122)∨(48≤c∧c≤57)∨c=45)
def H1 (s:i6) (k:Nat):Bool:=if k < s.length then if a2j (bt s k) then H1 s (k+1) else false else true
termination_by s.length - k
def t6 (s:i6):Bool:=decide (1≤s.length∧s.length≤40∧97≤bt s 0∧bt s 0≤122) && H1 s 0
def u1 (text pkg:i6) (bars:Bool):Int :=
 if 40 < text.length then 2
 else if (bars=true∧text.length=0)∨(pkg.length ≠ 0∧t6 pkg=false) then 3 else 0
def J5 (s:i6) (c:Int) (i:Nat) (acc:List Int):Except (Int × Nat) (List Int × Nat) :=
 if i < s.length then
  if bt s i=c then .ok (acc,i+1)
  else if bt s i ≠ 92 then J5 s c (i+1) (acc ++ [bt s i])
  else if i+1 < s.length then
   if bt s (i+1) ≠ c∧bt s (i+1) ≠ 92 then .error (12,i)
   else J5 s c (i+2) (acc ++ [bt s (i+1)])
  else .error (11,s.length)
 else .error (11,s.length)
termination_by s.length - i
def C1 (s:i6):Bool :=
 decide (s=B5) || (decide (j6 s < s.length∧bt s (j6 s) ≠ 48) && decide (s8 s (j6 s)=s.length))
def A3 (s:i6) (k:Nat) (acc:Nat):Nat:=if k < s.length then A3 s (k+1) (10 * acc+(bt s k - 48).toNat) else acc
termination_by s.length - k
def j0 (s:i6):Int:=if C1 s then (if j6 s=1 then -(A3 s 1 0:Int) else (A3 s 0 0:Int)) else 0
def j7 (n:Nat):List Nat:=if h:n=0 then [] else n % 10 :: j7 (n / 10)
termination_by n
def i7 (n:Nat):i6:=if n=0 then B5 else ((j7 n).reverse.map fun d=>UInt8.ofNat (48+d))
def j3 (n:Int):i6:=if n < 0 then [45] ++ i7 n.natAbs else i7 n.natAbs
def u4 (num den:i6):i6 × i6 :=
 if j0 den=0 then (B5,Q3)
 else
  let g:=Nat.gcd (j0 num).natAbs (j0 den).natAbs
  (j3 ((if (j0 num < 0)=(j0 den < 0) then 1 else -1) * (((j0 num).natAbs / g:Nat):Int)),i7 ((j0 den).natAbs / g))
def G8 (a:i6):Nat:=max 1 (j7 (j0 a).natAbs).length

structure x5 where
 kind:Int
 pos:Nat
 pkg:i6
 text:i6
 den:i6
def G3 (l:List Int):i6:=(l.map fun n=>UInt8.ofNat n.toNat)
def L0 (s:i6) (i:Nat) (pkg:i6) (k:Nat):Except (Int × Nat) (x5 × Nat) :=
 if k+2 < s.length then
  if bt s (k+2)=124 then
   match J5 s 124 (k+2+1) [] with
   | .error e=>.error e
   | .ok (l,j)=>if u1 (G3 l) pkg true=0 then .ok (⟨6,i,pkg,G3 l,u7⟩,j) else .error (u1 (G3 l) pkg true,i)
  else if A5 (bt s (k+2)) then
   let j:=n5 s (k+2)
   let t:=((s.take (j)).drop ((k+2)))
   if u1 t pkg false=0 then .ok (⟨6,i,pkg,t,u7⟩,j) else .error (u1 t pkg false,i)
  else .error (12,k+2)
 else .error (11,s.length)
def F6 (i:Nat) (t:i6) (k:Nat):Except (Int × Nat) (x5 × Nat) :=
 if t=[46] then .ok (⟨3,i,u7,u7,u7⟩,k)
 else if (x9 t).2.2 then
  if plain (x9 t).2.1=B5 then .error (12,i)
  else
   let r:=u4 (plain (x9 t).1) (plain (x9 t).2.1)
   if 100 < G8 r.1∨100 < G8 r.2 then .error (2,i) else .ok (⟨5,i,u7,r.1,r.2⟩,k)
 else if u1 t u7 false=0 then .ok (⟨6,i,u7,t,u7⟩,k) else .error (u1 t u7 false,i)
def B7 (s:i6) (i:Nat):Except (Int × Nat) (x5 × Nat) :=
 if bt s i=40 then .ok (⟨1,i,u7,u7,u7⟩,i+1)
 else if bt s i=41 then .ok (⟨2,i,u7,u7,u7⟩,i+1)
 else if bt s i=39 then .ok (⟨4,i,u7,u7,u7⟩,i+1)
 else if bt s i=34 then
  match J5 s 34 (i+1) [] with
  | .error e=>.error e
  | .ok (l,j)=>if 200 < l.length then .error (2,i) else .ok (⟨7,i,u7,G3 l,u7⟩,j)
 else if bt s i=124 then
  match J5 s 124 (i+1) [] with
  | .error e=>.error e
  | .ok (l,j)=>if u1 (G3 l) u7 true=0 then .ok (⟨6,i,u7,G3 l,u7⟩,j) else .error (u1 (G3 l) u7 true,i)
 else if A5 (bt s i) then
  if has s (n5 s i) 58 58 then L0 s i (((s.take ((n5 s i))).drop (i))) (n5 s i)
  else F6 i (((s.take ((n5 s i))).drop (i))) (n5 s i)
 else .error (12,i)
def p8 (s:i6) (i:Nat) (acc:List x5):Except (Int × Nat) (List x5) :=
 match skip s i with
 | none=>.error (11,s.length)
 | some j =>
  if j < s.length then
   match B7 s j with
   | .error e=>.error e
   | .ok (t,k)=>if i < k∧i < s.length then p8 s k (acc ++ [t]) else .error (0,0)
  else .ok (acc ++ [⟨0,s.length,u7,u7,u7⟩])
termination_by s.length - i
def C7 (s:i6):Except (Int × Nat) (List x5):=if 6000 < s.length then .error (2,0) else p8 s 0 []
theorem a01 (s:i6) (i j:Nat) (hi:i≤j) (hj:j < s8 s i):48≤bt s j∧bt s j≤57:=by
 fun_induction s8 s i with
 | case1 i h1 h2 ih =>
  by_cases h:j=i
  ·subst h;simpa [a02] using h2
  ·exact ih oM hj
 | case2=>omega
 | case3=>omega
def y7 (s:i6) (e:Nat):Nat→List Nat→List Nat
 | 0,acc=>acc
 | k+1,acc=>if e≤k then y7 s e k (acc ++ [(bt s k - 48).toNat]) else acc
def a1g (s:i6):Bool × List Nat :=
 if C1 s=true∧s ≠ B5 then (decide (j6 s=1),y7 s (j6 s) s.length []) else (false,[])
def V9 (l:List Nat):Nat→Nat
 | 0=>0
 | n+1=>if l.getD n 0=0 then V9 l n else n+1
def G0 (l:List Nat):List Nat:=l.take (V9 l l.length)
def H0 (a b:List Nat):Nat→Int
 | 0=>0
 | k+1=>if a.getD k 0 < b.getD k 0 then -1 else if b.getD k 0 < a.getD k 0 then 1 else H0 a b k
def T7 (a b:List Nat):Int :=
 if a.length=b.length then H0 a b a.length else if a.length < b.length then -1 else 1
def M7 (a b:List Nat) (i bor:Nat):Int:=(a.getD i 0:Int) - bor - (if i < b.length then (b.getD i 0:Int) else 0)
def R6 (a b:List Nat) (i bor:Nat) (acc:List Nat):List Nat :=
 if i < a.length then
  if M7 a b i bor < 0 then R6 a b (i+1) 1 (acc ++ [(M7 a b i bor+10).toNat])
  else R6 a b (i+1) 0 (acc ++ [(M7 a b i bor).toNat])
 else acc
termination_by a.length - i
def c1g (a b:List Nat):List Nat:=G0 (R6 a b 0 0 [])
theorem c8f {s:i6} {k:Nat} (h:¬k < s.length):skip s k=some k:=by rw [skip,if_neg h]
theorem b9a {s:i6} {k:Nat} (h:k < s.length) (hb:G9 (bt s k)=true):skip s k=skip s (k+1):=by
 rw [skip,if_pos h,if_pos hb]
theorem c3e {s:i6} {k:Nat} (h:k < s.length) (hb:G9 (bt s k)=false) (h9:bt s k=59):skip s k=skip s (P4 s k):=by
 rw [skip,if_pos h,if_neg (by simp [hb]),if_pos h9,if_pos (b74 s k h oM)]
theorem b3j {s:i6} {k:Nat} (h:k < s.length) (hb:G9 (bt s k)=false) (h9:bt s k ≠ 59) (hh:has s k 35 124=false):skip s k=some k:=by
 rw [skip,if_pos h,if_neg (by simp [hb]),if_neg h9,if_neg (by simp [hh])]
theorem e3c {s:i6} {k j:Nat} (h:k < s.length) (hb:G9 (bt s k)=false) (h9:bt s k ≠ 59) (hh:has s k 35 124=true) (hc:F7 s (k+2) 1=some j):skip s k=skip s j:=by
 have:=a0p hh
 have:=b2d s (k+2) 1 j oM hc
 rw [skip,if_pos h,if_neg (by simp [hb]),if_neg h9,if_pos hh,hc];simp only [];rw [if_pos oM]
theorem d8l {s:i6} {k:Nat} (h:k < s.length) (hb:G9 (bt s k)=false) (h9:bt s k ≠ 59) (hh:has s k 35 124=true) (hc:F7 s (k+2) 1=none):skip s k=none:=by
 rw [skip,if_pos h,if_neg (by simp [hb]),if_neg h9,if_pos hh,hc]
def val:List Nat→Nat
 | []=>0
 | d :: t=>d+10 * val t
def D9 (l:List Nat):Prop:=∀ d ∈ l,d≤9
theorem y9:j7 0=[]:=by rw [j7];simp
theorem F4 {n:Nat} (h:n ≠ 0):j7 n=n % 10 :: j7 (n / 10):=by rw [j7,dif_neg h]
theorem D8 (n:Nat):val (j7 n)=n:=by
 induction n using Nat.strongRecOn with
 | _ n ih =>
  by_cases h:n=0
  ·subst h;rw [y9];rfl
  ·rw [F4 h,val,ih (n / 10) oM];omega
theorem E5 (n:Nat):D9 (j7 n):=by
 induction n using Nat.strongRecOn with
 | _ n ih =>
  by_cases h:n=0
  ·subst h;rw [y9];intro d hd;simp at hd
  ·rw [F4 h];intro d hd;simp at hd
   rcases hd with rfl | hd
   ·omega
   ·exact ih (n / 10) oM d hd
theorem c12 {d m:Nat} (hd:d≤9) (h:d ≠ 0∨m ≠ 0):j7 (d+10 * m)=d :: j7 m:=by
 rw [F4 oM];congr 1
 ·omega
 ·congr 1;omega
theorem a6f (a b:List Nat):val (a ++ b)=val a+10 ^ a.length * val b:=by
 induction a with
 | nil=>simp [val]
 | cons d t ih=>simp only [List.cons_append,val,ih,List.length_cons,Nat.pow_succ];rw [Nat.mul_add,← Nat.mul_assoc,Nat.mul_comm (10 ^ t.length) 10];omega
theorem c15 (t:List Nat) (d:Nat) (h9:D9 (t ++ [d])) (hd:d ≠ 0):j7 (val (t ++ [d]))=t ++ [d]:=by
 induction t with
 | nil =>
  have:d≤9:=h9 d (by simp)
  simp only [List.nil_append,val]
  rw [Nat.mul_zero,← Nat.mul_zero 10,c12 this (.inl hd),y9]
 | cons x t ih =>
  simp only [List.cons_append,val]
  rw [c12 (h9 x (by simp)),ih (fun y hy=>h9 y (by simp at hy ⊢;exact .inr hy))]
  refine .inr fun h0=>hd ?_
  have h2:=a6f t [d]
  rw [h0] at h2
  simp only [val] at h2
  have h3:0 < 10 ^ t.length:=Nat.pow_pos oM
  rw [Nat.mul_zero,Nat.add_zero] at h2
  have h4:10 ^ t.length * d=0:=oM
  rcases Nat.mul_eq_zero.1 h4 with h | h <;> omega
theorem d5i (l:List Nat) (h9:D9 l) (n:Nat) (hn:n≤l.length):l.take (V9 l n)=j7 (val (l.take n)):=by
 induction n with
 | zero=>simp [V9,val,y9]
 | succ n ih =>
  have hlt:n < l.length:=oM
  have htk:l.take (n+1)=l.take n ++ [l.getD n 0]:=by
   rw [List.take_succ_eq_append_getElem hlt];simp [List.getD,hlt]
  simp only [V9]
  split
  ·rename_i h0
   rw [ih oM,htk,h0,a6f]
   simp [val]
  ·rename_i h0
   rw [htk,c15 _ _ _ h0]
   intro d hd
   rw [← htk] at hd
   exact h9 d (List.mem_of_mem_take hd)
theorem a6d (l:List Nat) (h9:D9 l):G0 l=j7 (val l):=by
 unfold G0;rw [d5i l h9 l.length (Nat.le_refl _),List.take_length]
def a5j:List Nat→List Nat→Nat→List Nat
 | [],_,_=>[]
 | x :: a,b,bor =>
  if (x:Int) - bor - (b.headD 0:Int) < 0 then ((x:Int) - bor - (b.headD 0:Int)+10).toNat :: a5j a b.tail 1
  else ((x:Int) - bor - (b.headD 0:Int)).toNat :: a5j a b.tail 0
theorem b5g (a b:List Nat) (i bor:Nat):M7 a b i bor=(a.getD i 0:Int) - bor - ((b.drop i).headD 0:Int):=by
 unfold M7
 rcases Nat.lt_or_ge i b.length with h | h
 ·rw [if_pos h,List.drop_eq_getElem_cons h];simp [List.getD,h]
 ·rw [if_neg oM,List.drop_eq_nil_of_le h];simp
theorem d49 (a b:List Nat) (i bor:Nat) (acc:List Nat) (hi:i≤a.length):R6 a b i bor acc=acc ++ a5j (a.drop i) (b.drop i) bor:=by
 fun_induction R6 a b i bor acc with
 | case1 i bor acc h1 h2 ih =>
  rw [ih oM,List.drop_eq_getElem_cons h1,a5j]
  rw [b5g] at h2 ⊢
  simp only [List.getD,List.getElem?_eq_getElem h1,Option.getD_some] at h2 ⊢
  rw [if_pos h2];simp
 | case2 i bor acc h1 h2 ih =>
  rw [ih oM,List.drop_eq_getElem_cons h1,a5j]
  rw [b5g] at h2 ⊢
  simp only [List.getD,List.getElem?_eq_getElem h1,Option.getD_some] at h2 ⊢
  rw [if_neg h2];simp
 | case3 i bor acc h1 =>
  rw [List.drop_eq_nil_of_le oM];simp [a5j]
theorem e34 (b:List Nat):val b=b.headD 0+10 * val b.tail:=by cases b <;> simp [val]
theorem e3i (a b:List Nat) (bor:Nat) (ha:D9 a) (hb:D9 b) (hbor:bor≤1) (h:val b+bor≤val a):val (a5j a b bor)+val b+bor=val a:=by
 induction a generalizing b bor with
 | nil=>simp [val] at h;simp [a5j,val];omega
 | cons x a ih =>
  have hx:x≤9:=ha x (by simp)
  have ha':D9 a:=fun d hd=>ha d (by simp [hd])
  have hb':D9 b.tail:=fun d hd=>hb d (List.mem_of_mem_tail hd)
  have hy:b.headD 0≤9:=by
   cases b with
   | nil=>simp
   | cons y t=>exact hb y (by simp)
  have hvb:=e34 b
  simp only [val] at h
  simp only [a5j]
  split
  ·rename_i hz
   have:=ih b.tail 1 ha' hb' oM oM
   simp only [val]
   omega
  ·rename_i hz
   have:=ih b.tail 0 ha' hb' oM oM
   simp only [val]
   omega
theorem e9k (a b:List Nat) (bor:Nat) (ha:D9 a) (hb:D9 b) (hbor:bor≤1):D9 (a5j a b bor):=by
 induction a generalizing b bor with
 | nil=>intro d hd;simp [a5j] at hd
 | cons x a ih =>
  have hx:x≤9:=ha x (by simp)
  have ha':D9 a:=fun d hd=>ha d (by simp [hd])
  have hb':D9 b.tail:=fun d hd=>hb d (List.mem_of_mem_tail hd)
  simp only [a5j]
  split
  ·rename_i hz;intro d hd
   rcases List.mem_cons.1 hd with rfl | hd
   ·omega
   ·exact ih b.tail 1 ha' hb' oM d hd
  ·rename_i hz;intro d hd
   rcases List.mem_cons.1 hd with rfl | hd
   ·omega
   ·exact ih b.tail 0 ha' hb' oM d hd
theorem d8s (x y:Nat) (h:y≤x):c1g (j7 x) (j7 y)=j7 (x - y):=by
 unfold c1g
 rw [d49 _ _ _ _ _ (Nat.zero_le _)]
 simp only [List.nil_append,List.drop_zero]
 rw [a6d _ (e9k _ _ _ (E5 x) (E5 y) oM)]
 have:=e3i (j7 x) (j7 y) 0 (E5 x) (E5 y) oM (by rw [D8,D8];omega)
 rw [D8,D8] at this
 congr 1;omega
theorem a3j (l:List Nat) (h9:D9 l):val l < 10 ^ l.length:=by
 induction l with
 | nil=>simp [val]
 | cons d t ih =>
  have h1:=ih (fun x hx=>h9 x (by simp [hx]))
  have h2:d≤9:=h9 d (by simp)
  simp only [val,List.length_cons,Nat.pow_succ]
  omega
theorem a6m (n:Nat) (h:n ≠ 0):10 ^ ((j7 n).length - 1)≤n:=by
 induction n using Nat.strongRecOn with
 | _ n ih =>
  rw [F4 h]
  simp only [List.length_cons,Nat.add_sub_cancel]
  by_cases h1:n / 10=0
  ·rw [h1,y9];simp;omega
  ·have:=ih (n / 10) oM h1
   have h2:(j7 (n / 10)).length ≠ 0:=by rw [F4 h1];simp
   have h3:10 ^ (j7 (n / 10)).length=10 * 10 ^ ((j7 (n / 10)).length - 1):=by
    rw [← Nat.pow_succ'];congr 1;omega
   omega
theorem c90 (a b:List Nat) (ha:D9 a) (hb:D9 b) (n:Nat) (hna:n≤a.length) (hnb:n≤b.length) :
  H0 a b n=if val (a.take n) < val (b.take n) then -1 else if val (b.take n) < val (a.take n) then 1 else 0:=by
 induction n with
 | zero=>simp [H0,val]
 | succ n ih =>
  have hla:n < a.length:=oM
  have hlb:n < b.length:=oM
  have e1:a.take (n+1)=a.take n ++ [a.getD n 0]:=by rw [List.take_succ_eq_append_getElem hla];simp [List.getD,hla]
  have e2:b.take (n+1)=b.take n ++ [b.getD n 0]:=by rw [List.take_succ_eq_append_getElem hlb];simp [List.getD,hlb]
  have v1:=a6f (a.take n) [a.getD n 0]
  have v2:=a6f (b.take n) [b.getD n 0]
  have l1:(a.take n).length=n:=by simp;omega
  have l2:(b.take n).length=n:=by simp;omega
  have b1:=a3j (a.take n) (fun d hd=>ha d (List.mem_of_mem_take hd))
  have b2:=a3j (b.take n) (fun d hd=>hb d (List.mem_of_mem_take hd))
  rw [l1] at v1 b1
  rw [l2] at v2 b2
  simp only [val,Nat.mul_zero,Nat.add_zero] at v1 v2
  rw [e1,e2,v1,v2]
  simp only [H0]
  rw [ih oM oM]
  generalize a.getD n 0=x at *
  generalize b.getD n 0=y at *
  generalize val (a.take n)=p at *
  generalize val (b.take n)=q at *
  generalize 10 ^ n=P at *
  by_cases h1:x < y
  ·have:P * (x+1)≤P * y:=Nat.mul_le_mul_left P h1
   rw [Nat.mul_add,Nat.mul_one] at this
   rw [if_pos h1,if_pos oM]
  ·rw [if_neg h1]
   by_cases h2:y < x
   ·have:P * (y+1)≤P * x:=Nat.mul_le_mul_left P h2
    rw [Nat.mul_add,Nat.mul_one] at this
    rw [if_pos h2,if_neg oM,if_pos oM]
   ·rw [if_neg h2]
    have h3:x=y:=oM
    subst h3
    simp only [Nat.add_lt_add_iff_right]
theorem d7s (x y:Nat):T7 (j7 x) (j7 y)=if x < y then -1 else if y < x then 1 else 0:=by
 unfold T7
 split
 ·rename_i h
  rw [c90 _ _ (E5 x) (E5 y) _ (Nat.le_refl _) oM,List.take_length,h,List.take_length,D8,D8]
 ·rename_i h
  have b1:=a3j (j7 x) (E5 x)
  have b2:=a3j (j7 y) (E5 y)
  rw [D8] at b1 b2
  split
  ·rename_i h2
   have hy:y ≠ 0:=by intro e;rw [e,y9] at h2;simp at h2
   have g2:=a6m y hy
   have:10 ^ (j7 x).length≤10 ^ ((j7 y).length - 1):=Nat.pow_le_pow_right oM oM
   rw [if_pos oM]
  ·rename_i h2
   have hx:x ≠ 0:=by intro e;rw [e,y9] at h h2;simp only [List.length_nil] at h h2;omega
   have g1:=a6m x hx
   have:10 ^ (j7 y).length≤10 ^ ((j7 x).length - 1):=Nat.pow_le_pow_right oM oM
   rw [if_neg oM,if_pos oM]

theorem c9b (s:i6) (e:Nat) (k:Nat) (acc:List Nat):y7 s e k acc=acc ++ y7 s e k []:=by
 induction k generalizing acc with
 | zero=>simp [y7]
 | succ k ih =>
  simp only [y7]
  split
  ·rw [ih (acc ++ _),ih ([] ++ _)];simp
  ·simp
theorem c9s (s:i6) (k acc:Nat) (hk:k≤s.length):A3 s k acc=acc * 10 ^ (s.length - k)+A3 s k 0:=by
 generalize hm:s.length - k=m
 induction m generalizing k acc with
 | zero=>rw [A3,if_neg oM,A3,if_neg oM];simp
 | succ m ih =>
  rw [A3,if_pos oM,A3.eq_def s k 0,if_pos oM,ih (k+1) _ oM oM,ih (k+1) (10 * 0+_) oM oM,Nat.pow_succ]
  rw [Nat.mul_zero,Nat.zero_add,Nat.add_mul,Nat.mul_comm 10 acc,Nat.mul_assoc,Nat.mul_comm 10 (10 ^ m)]
  omega
theorem a64 (s:i6) (e k:Nat) (h:e≤k):y7 s e (k+1) []=(bt s k - 48).toNat :: y7 s e k []:=by
 rw [y7,if_pos h,c9b];simp
theorem d0y (s:i6) (e:Nat):y7 s e e []=[]:=by
 cases e with
 | zero=>rfl
 | succ e=>rw [y7,if_neg oM]
theorem c9u (s:i6) (e k:Nat) (he:e≤k) (hk:k≤s.length):A3 s e 0=A3 s k (val (y7 s e k [])):=by
 induction k with
 | zero=>obtain rfl:e=0:=oM
         rfl
 | succ k ih =>
  by_cases h:e=k+1
  ·subst h;rw [d0y];rfl
  ·rw [ih oM oM,a64 s e k oM,A3,if_pos oM]
   congr 1
   simp only [val];omega
theorem b47 (s:i6) (e:Nat) (he:e≤s.length):A3 s e 0=val (y7 s e s.length []):=by
 rw [c9u s e s.length he (Nat.le_refl _),A3,if_neg oM]
theorem c5q (s:i6) (e k:Nat) (h:e < k):∃ t,y7 s e k []=t ++ [(bt s e - 48).toNat]:=by
 induction k with
 | zero=>omega
 | succ k ih =>
  rw [a64 s e k oM]
  by_cases hk:e=k
  ·subst hk;exact ⟨[],by rw [d0y];rfl⟩
  ·obtain ⟨t,ht⟩:=ih oM
   exact ⟨_ :: t,by rw [ht];rfl⟩
theorem f0o (s:i6) (e k:Nat) (h:∀ j,e≤j→j < k→48≤bt s j∧bt s j≤57):D9 (y7 s e k []):=by
 induction k with
 | zero=>intro d hd;simp [y7] at hd
 | succ k ih =>
  by_cases he:e≤k
  ·rw [a64 s e k he]
   intro d hd
   rcases List.mem_cons.1 hd with rfl | hd
   ·have:=h k he oM;omega
   ·exact ih (fun j h1 h2=>h j h1 oM) d hd
  ·rw [y7,if_neg he];intro d hd;simp at hd
theorem a80:j0 B5=0:=by
 have h1:j6 B5=0:=dE
 have h2:A3 B5 0 0=0:=by rw [A3,if_pos dE,A3,if_neg dE];decide
 unfold j0
 rw [h1,h2];simp
theorem b34 (s:i6):a1g s=(decide (j0 s < 0),j7 (j0 s).natAbs):=by
 unfold a1g
 split
 ·rename_i h
  obtain ⟨h1,h2⟩:=h
  have h3:j6 s < s.length∧bt s (j6 s) ≠ 48∧s8 s (j6 s)=s.length:=by
   simp [C1,h2] at h1;exact ⟨h1.1.1,h1.1.2,h1.2⟩
  have hall:∀ j,j6 s≤j→j < s.length→48≤bt s j∧bt s j≤57:=fun j a b=>a01 s (j6 s) j a oM
  have h9:=f0o s (j6 s) s.length hall
  obtain ⟨t,ht⟩:=c5q s (j6 s) s.length h3.1
  have hd0:(bt s (j6 s) - 48).toNat ≠ 0:=by have:=hall (j6 s) (Nat.le_refl _) h3.1;omega
  have hcan:j7 (val (y7 s (j6 s) s.length []))=y7 s (j6 s) s.length []:=by
   rw [ht] at h9 ⊢;exact c15 t _ h9 hd0
  have hv:=b47 s (j6 s) oM
  have hpos:0 < A3 s (j6 s) 0:=by
   rcases Nat.eq_zero_or_pos (A3 s (j6 s) 0) with h | h
   ·rw [← hv,h,y9] at hcan;rw [ht] at hcan;simp at hcan
   ·exact h
  unfold j0
  rw [if_pos h1]
  have hs1:=Y1 s
  by_cases hsg:j6 s=1
  ·rw [if_pos hsg]
   rw [hsg] at hcan hv hpos ⊢
   rw [hv,Int.natAbs_neg,Int.natAbs_natCast,hcan]
   congr 1
   rw [← hv];simp;omega
  ·have hs0:j6 s=0:=oM
   rw [if_neg hsg]
   rw [hs0] at hcan hv hpos ⊢
   rw [hv,Int.natAbs_natCast,hcan]
   congr 1
 ·rename_i h
  have:j0 s=0:=by
   by_cases h1:C1 s=true
   ·have:s=B5:=by
     by_cases h2:s=B5
     ·exact h2
     ·exact absurd ⟨h1,h2⟩ h
    rw [this];exact a80
   ·unfold j0;rw [if_neg h1]
  rw [this];simp [y9]
theorem d7t (X a y:Nat) (hy:0 < y):(a+10 * X) / y=(a+10 * (X % y)) / y+10 * (X / y)∧(a+10 * X) % y=(a+10 * (X % y)) % y:=by
 have h:=Nat.div_add_mod X y
 have e:a+10 * X=(a+10 * (X % y))+y * (10 * (X / y)):=by
  have:y * (10 * (X / y))=10 * (y * (X / y)):=by rw [Nat.mul_left_comm]
  rw [this];omega
 rw [e]
 exact ⟨by rw [Nat.add_mul_div_left _ _ hy],by rw [Nat.add_mul_mod_self_left]⟩
theorem d4m (R t y:Nat) (hy:0 < y) (h1:t * y≤R) (h2:R - t * y < y):R / y=t∧R % y=R - t * y:=by
 have e:R=(R - t * y)+y * t:=by rw [Nat.mul_comm y t];omega
 constructor
 ·rw [e,Nat.add_mul_div_left _ _ hy,Nat.div_eq_of_lt h2];omega
 ·have:R % y=((R - t * y)+y * t) % y:=by rw [← e]
  rw [this,Nat.add_mul_mod_self_left,Nat.mod_eq_of_lt h2]
theorem d6h (x k:Nat) (h:k < (j7 x).length):val ((j7 x).drop k)=(j7 x).getD k 0+10 * val ((j7 x).drop (k+1)):=by
 rw [List.drop_eq_getElem_cons h];simp [val,List.getD,h]
theorem b96 (a r:Nat) (ha:a≤9):G0 (a :: j7 r)=j7 (a+10 * r):=by
 rw [a6d]
 ·simp only [val,D8]
 ·intro d hd
  rcases List.mem_cons.1 hd with rfl | hd
  ·exact ha
  ·exact E5 r d hd
theorem a3b (n k:Nat) (h:n ≠ 0) (hk:k < (j7 n).length):bt (i7 n) k=48+((j7 n).getD ((j7 n).length - 1 - k) 0:Int):=by
 have hs:(i7 n).length=(j7 n).length:=by unfold i7;rw [if_neg h];simp
 have hbt:bt (i7 n) k=(((i7 n)[k]'oM).toNat:Int):=by unfold bt;simp [List.getD,List.getElem?_eq_getElem (show k < (i7 n).length by omega)]
 rw [hbt]
 have h9:(j7 n).getD ((j7 n).length - 1 - k) 0≤9:=by
  have hlt:(j7 n).length - 1 - k < (j7 n).length:=oM
  simp only [List.getD,List.getElem?_eq_getElem hlt,Option.getD_some]
  exact E5 n _ (List.getElem_mem hlt)
 have:(i7 n)[k]'oM=UInt8.ofNat (48+(j7 n).getD ((j7 n).length - 1 - k) 0):=by
  have e:i7 n=((j7 n).reverse.map fun d=>UInt8.ofNat (48+d)):=by unfold i7;rw [if_neg h]
  simp only [e]
  simp [List.getD,show (j7 n).length - 1 - k < (j7 n).length by omega]
 rw [this]
 simp only [UInt8.toNat_ofNat']
 omega

theorem S5 (n:Nat) (h:n ≠ 0):(i7 n).length=(j7 n).length:=by unfold i7;rw [if_neg h];simp
theorem c13 (n:Nat) (h:n ≠ 0):(j7 n).getD ((j7 n).length - 1) 0 ≠ 0:=by
 induction n using Nat.strongRecOn with
 | _ n ih =>
  rw [F4 h]
  by_cases h1:n / 10=0
  ·rw [h1,y9];simp;omega
  ·have:=ih (n / 10) oM h1
   have h2:(j7 (n / 10)).length ≠ 0:=by rw [F4 h1];simp
   obtain ⟨m,hm⟩:∃ m,(j7 (n / 10)).length=m+1:=⟨_,(Nat.succ_pred h2).symm⟩
   rw [hm] at this
   simp only [List.length_cons,hm,Nat.add_sub_cancel]
   simpa [List.getD] using this
theorem U9 (s:i6) (i:Nat) (hi:i≤s.length) (h:∀ j,i≤j→j < s.length→48≤bt s j∧bt s j≤57):s8 s i=s.length:=by
 fun_induction s8 s i with
 | case1 i h1 h2 ih=>exact ih oM (fun j a b=>h j oM b)
 | case2 i h1 h2=>exact absurd (by have:=h i (Nat.le_refl _) h1;simp [a02];omega) h2
 | case3 i h1=>omega
theorem d9v (n k:Nat) (h:n ≠ 0) (hk:k≤(j7 n).length):y7 (i7 n) 0 k []=(j7 n).drop ((j7 n).length - k):=by
 induction k with
 | zero=>simp [y7]
 | succ k ih =>
  rw [a64 _ _ _ (Nat.zero_le _),ih oM,a3b n k h oM]
  have hlt:(j7 n).length - (k+1) < (j7 n).length:=oM
  rw [List.drop_eq_getElem_cons hlt]
  congr 1
  ·simp only [List.getD,show (j7 n).length - 1 - k=(j7 n).length - (k+1) by omega,List.getElem?_eq_getElem hlt,Option.getD_some];omega
  ·congr 1;omega
theorem B4 (n:Nat):j0 (i7 n)=n:=by
 by_cases h:n=0
 ·subst h;exact a80
 ·have hs:=S5 n h
  have hl:(j7 n).length ≠ 0:=by rw [F4 h];simp
  have hall:∀ j,0≤j→j < (i7 n).length→48≤bt (i7 n) j∧bt (i7 n) j≤57:=by
   intro j _ hj
   rw [a3b n j h oM]
   have hlt:(j7 n).length - 1 - j < (j7 n).length:=oM
   have:=E5 n ((j7 n)[(j7 n).length - 1 - j]) (List.getElem_mem hlt)
   simp only [List.getD,List.getElem?_eq_getElem hlt,Option.getD_some]
   omega
  have h0:=hall 0 (Nat.le_refl _) oM
  have hsg:j6 (i7 n)=0:=by unfold j6;rw [if_neg oM]
  have hb0:bt (i7 n) 0 ≠ 48:=by
   rw [a3b n 0 h oM]
   have:=c13 n h
   rw [Nat.sub_zero]
   omega
  have hok:C1 (i7 n)=true:=by
   unfold C1
   rw [hsg,U9 _ 0 (Nat.zero_le _) hall]
   simp [hb0];right;omega
  unfold j0
  rw [if_pos hok,hsg,if_neg oM,b47 _ 0 (Nat.zero_le _),hs,d9v n _ h (Nat.le_refl _),Nat.sub_self,List.drop_zero,D8]
theorem a0z (c:UInt8) (s:i6) (k:Nat):bt (c :: s) (k+1)=bt s k:=by simp [bt]
theorem c63 (c:UInt8) (s:i6) (k acc:Nat):A3 (c :: s) (k+1) acc=A3 s k acc:=by
 fun_induction A3 s k acc with
 | case1 k acc h ih=>rw [A3,if_pos (by simp;omega),a0z,ih]
 | case2 k acc h=>rw [A3,if_neg (by simp;omega)]
theorem b4w (c:UInt8) (s:i6) (k:Nat):s8 (c :: s) (k+1)=s8 s k+1:=by
 fun_induction s8 s k with
 | case1 k h1 h2 ih=>rw [s8,if_pos (by simp;omega),a0z,if_pos h2,ih]
 | case2 k h1 h2=>rw [s8,if_pos (by simp;omega),a0z,if_neg h2]
 | case3 k h=>rw [s8,if_neg (by simp;omega)]
theorem Z9 (n:Nat) (h:n ≠ 0):(∀ j,0≤j→j < (i7 n).length→48≤bt (i7 n) j∧bt (i7 n) j≤57)∧bt (i7 n) 0 ≠ 48∧0 < (i7 n).length:=by
 have hs:=S5 n h
 have hl:(j7 n).length ≠ 0:=by rw [F4 h];simp
 refine ⟨?_,?_,oM⟩
 ·intro j _ hj
  rw [a3b n j h oM]
  have hlt:(j7 n).length - 1 - j < (j7 n).length:=oM
  have:=E5 n ((j7 n)[(j7 n).length - 1 - j]) (List.getElem_mem hlt)
  simp only [List.getD,List.getElem?_eq_getElem hlt,Option.getD_some]
  omega
 ·rw [a3b n 0 h oM]
  have:=c13 n h
  rw [Nat.sub_zero]
  omega
theorem d3f (n:Nat) (h:n ≠ 0):j0 (45 :: i7 n)=-(n:Int):=by
 obtain ⟨h1,h2,h3⟩:=Z9 n h
 have hsg:j6 (45 :: i7 n)=1:=by unfold j6;rw [if_pos];exact ⟨by simp,rfl⟩
 have hsg0:j6 (i7 n)=0:=by unfold j6;rw [if_neg];have:=h1 0 (Nat.le_refl _) h3;omega
 have hok:C1 (45 :: i7 n)=true:=by
  unfold C1
  rw [hsg,show (1:Nat)=0+1 from rfl,b4w,a0z,U9 _ 0 (Nat.zero_le _) h1]
  simp [h2];right;omega
 have hv:=B4 n
 have hok0:C1 (i7 n)=true:=by
  unfold C1
  rw [hsg0,U9 _ 0 (Nat.zero_le _) h1]
  simp [h2];right;omega
 unfold j0 at hv
 rw [if_pos hok0,hsg0,if_neg oM] at hv
 unfold j0
 rw [if_pos hok,hsg,if_pos rfl,show (1:Nat)=0+1 from rfl,c63,hv]
theorem s7 (n:Int):j0 (j3 n)=n:=by
 unfold j3
 split
 ·rename_i h
  show j0 (45 :: i7 n.natAbs)=n
  rw [d3f _ oM];omega
 ·rw [B4];omega
theorem Z7 {a b:Int} (h:j3 a=j3 b):a=b:=by rw [← s7 a,h,s7]
theorem a0a {a b:Nat} (h:i7 a=i7 b):a=b:=by
 have:=congrArg j0 h
 rw [B4,B4] at this
 omega
end LQ
namespace Go.Proofs.YtdldcfllnohkeaaGreatDoor
open Go.Abs LQ
noncomputable section
abbrev Sy:=i6 × i6
inductive O where
 | num (n:Int) (d:Nat)
 | sy (s:Sy)
 | tx (s:i6)
 | co (a d:O)
 | no
namespace O
def k:O→Int
 | num _ _=>1
 | sy _=>2
 | tx _=>3
 | co _ _=>4
 | no=>0
def nu:O→i6
 | num n _=>j3 n
 | _=>[]
def de:O→i6
 | num _ d=>i7 d
 | _=>[]
def sym:O→Sy
 | sy s=>s
 | _=>([],[])
def txt:O→i6
 | tx s=>s
 | _=>[]
def ps:O→List O
 | co a d=>[a,d]
 | _=>[]
def g:O→List G
 | num n d=>[.i .i64 1,.s (j3 n),.s (i7 d),.s [],.s [],.s [],.l []]
 | sy s=>[.i .i64 2,.s [],.s [],.s s.1,.s s.2,.s [],.l []]
 | tx s=>[.i .i64 3,.s [],.s [],.s [],.s [],.s s,.l []]
 | co a d=>[.i .i64 4,.s [],.s [],.s [],.s [],.s [],.l [a.g,d.g]]
 | no=>[.i .i64 0,.s [],.s [],.s [],.s [],.s [],.l []]
theorem g_eq (a:O):a.g=[.i .i64 a.k,.s a.nu,.s a.de,.s a.sym.1,.s a.sym.2,.s a.txt,.l (a.ps.map O.g)]:=by cases a <;> rfl
theorem g_len (a:O):a.g.length=7:=by cases a <;> rfl
theorem ps_le (a:O):a.ps.length≤2:=by cases a <;> simp [ps]
theorem ps_fuel (a:O):a.ps.length - 0 < C4:=by cases a <;> simp [ps,C4]
theorem ext {a b:O} (h1:a.k=b.k) (h2:a.nu=b.nu) (h3:a.de=b.de) (h4:a.sym=b.sym) (h5:a.txt=b.txt) (h6:a.ps=b.ps):a=b:=by
 cases a <;> cases b <;> simp_all [k,nu,de,sym,txt,ps]
 exact ⟨Z7 h2,a0a h3⟩
theorem g_inj:∀ {a b:O},a.g=b.g→a=b:=by
 intro a
 induction a with
 | num n d=>intro b h;cases b <;> simp only [g,List.cons.injEq,G.s.injEq,G.i.injEq,reduceCtorEq,and_true,true_and,false_and,and_false,Int.reduceEq] at h;exact (congrArg (O.num · _) (Z7 h.1)).trans (congrArg (O.num _) (a0a h.2))
 | sy s=>intro b h;cases b <;> simp [g] at h;exact congrArg O.sy (Prod.ext h.1 h.2)
 | tx s=>intro b h;cases b <;> simp [g] at h;rw [h]
 | co a d iha ihd=>intro b h;cases b <;> simp [g] at h;rw [iha h.1,ihd h.2]
 | no=>intro b h;cases b <;> simp [g] at h;rfl
open Classical in
def eqb (a b:O):Bool:=decide (a=b)
theorem eqb_t {a b:O}:eqb a b=true↔a=b:=by unfold eqb;simp
theorem eqb_f {a b:O}:eqb a b=false↔¬a=b:=by unfold eqb;simp
def size:O→Nat
 | co a d=>1+a.size+d.size
 | _=>1
theorem size_pos (a:O):0 < a.size:=by cases a <;> simp [size] <;> omega
theorem ps_size (a:O):∀ x ∈ a.ps,x.size < a.size:=by cases a <;> simp [ps,size] <;> omega
end O
theorem c6y:∀ {l m:List O},l.map O.g=m.map O.g→l=m
 | [],[],_=>rfl
 | [],_ :: _,h=>by simp at h
 | _ :: _,[],h=>by simp at h
 | a :: l,b :: m,h=>by simp only [List.map_cons,List.cons.injEq] at h;exact congr (congrArg List.cons (O.g_inj h.1)) (c6y h.2)
theorem c42 {x y:O} {vs:List V} (h:l7 [.a x.g] vs) (k:l7 [.a y.g] vs):x=y:=by
 cases h with | cons _ _ v _ h _=>cases k with | cons _ _ _ _ k _=>exact O.g_inj (h.a_inj k)
theorem c43 {x y x' y':O} {vs:List V} (h:l7 [.a x.g,.a x'.g] vs) (k:l7 [.a y.g,.a y'.g] vs):x=y∧x'=y':=by
 cases h with | cons _ _ v _ h h'=>cases k with | cons _ _ _ _ k k'=>exact ⟨O.g_inj (h.a_inj k),c42 h' k'⟩
end
end Go.Proofs.YtdldcfllnohkeaaGreatDoor
namespace Go.Proofs.YtdldcfllnohkeaaGreatDoor
open Go.Abs LQ
structure Tr (p q:Prop):Prop where
 go:q→p
theorem Tr.refl {p:Prop}:Tr p p:=⟨id⟩
theorem Tr.b {p p' q:Prop} (f:p'→p) (h:Tr p' q):Tr p q:=⟨fun k=>f (h.go k)⟩
theorem Tr.all {α:Sort _} {p q:α→Prop} (h:∀ x,Tr (p x) (q x)):Tr (∀ x,p x) (∀ x,q x):=⟨fun k x=>(h x).go (k x)⟩
theorem Tr.chk {U:v8} {P:L6→List Bx→Prop} {b:Bool} {p q:Prop} {x:Om} (ht:M9 U b p) (hp:p) (h:Tr (j5 U x P) q):Tr (j5 U (U.chk b x) P) q:=⟨fun k=>f6e ht hp (h.go k)⟩
theorem Tr.cnd {U:v8} {P:L6→List Bx→Prop} {b:Bool} {p:Prop} {q1:p→Prop} {q2:¬p→Prop} {x y:Om} (ht:M9 U b p) (h:∀ a,Tr (j5 U x P) (q1 a)) (k:∀ a,Tr (j5 U y P) (q2 a)):Tr (j5 U (U.cnd b x y) P) ((∀ a,q1 a)∧(∀ a,q2 a)):=⟨fun g=>c1a ht (fun a=>(h a).go (g.1 a)) (fun a=>(k a).go (g.2 a))⟩
theorem Zx {p q:Prop} (k:q) (h:Tr p q:=by ((repeat' (first | (with_reducible apply Tr.all) | (with_reducible intro _) | (apply Tr.b;(case f=>first | exact b8y | exact a26 aS | exact c79 | exact b4k aS | exact b8z | exact a7r aS | exact b3a | exact b4j aS | exact sP | exact sPR aS | exact sIV | exact sI aS | exact sBV | exact sBK | exact sB aS | exact sSV | exact sS aS | exact sA | exact M5 aS (by rfl) | exact c1b (by rfl) | exact c8b (by rfl) | exact c4p aS (by rfl) | exact c8c aS (by rfl) | exact d40 aS | exact sSl aS | exact sTu aS | exact sBo | exact a7q aS (by rfl) | exact sBc | exact d4y aS | exact sBt | exact sBs | exact sBr | exact a28 aS | exact b85 aS | exact b81 aS (by rfl) | exact d4z aS (by rfl) | exact sCI' aS (by rfl) | exact sCB' aS (by rfl) | exact sCS aS | exact sCI aS | exact sCB aS | exact b83 (by first | omega | (simp only [List.length_map] at *;omega)) | exact b82 (by first | omega | (simp only [List.length_map] at *;omega)) | exact c4r | exact b4l | exact b4n | exact c4q | exact b84 | exact b80 | exact sfSubN | exact b4m | exact sfBSelE | exact sfB | exact sJn | exact c4o | exact c4m | exact c4n | exact E8 aS (by (first | exact A0 O.g_len | exact A0 (fun _=>rfl))) | exact b29 aS (by (first | exact A0 O.g_len | exact A0 (fun _=>rfl))) | exact c4t (by first | omega | (simp only [List.length_map] at *;omega)) | exact b86 (by first | omega | (simp only [List.length_map] at *;omega)) | exact d42 aS (by first | assumption | omega | (simp only [List.length_map] at *;omega)) | exact sfT aS (by rfl))) | (apply Tr.chk;(case ht=>(repeat' (first | exact trT | exact trF | apply a6c | apply a58 | exact a6b | exact a6a | exact a5l | exact a7u | exact a7t | exact a3h | exact a3i | exact a3g | exact a3f | exact a3e | exact a6e | exact b1i | exact b1h | exact trS | exact trV)));(case hp=>first | omega | (simp only [List.length_map] at *;omega))) | (apply Tr.cnd;(case ht=>(repeat' (first | exact trT | exact trF | apply a6c | apply a58 | exact a6b | exact a6a | exact a5l | exact a7u | exact a7t | exact a3h | exact a3i | exact a3g | exact a3f | exact a3e | exact a6e | exact b1i | exact b1h | exact trS | exact trV))))));all_goals exact Tr.refl)):p:=h.go k
theorem Zy {p q:Prop} (k:q) (h:Tr p q:=by ((repeat' (first | (with_reducible apply Tr.all) | (with_reducible intro _) | (apply Tr.b;(case f=>first | exact b8y | exact a26 aS | exact c79 | exact b4k aS | exact b8z | exact a7r aS | exact b3a | exact b4j aS | exact sP | exact sPR aS | exact sIV | exact sI aS | exact sBV | exact sBK | exact sB aS | exact sSV | exact sS aS | exact sA | exact M5 aS (by rfl) | exact c1b (by rfl) | exact c8b (by rfl) | exact c4p aS (by rfl) | exact c8c aS (by rfl) | exact d40 aS | exact sSl aS | exact sTu aS | exact sBo | exact a7q aS (by rfl) | exact sBc | exact d4y aS | exact sBt | exact sBs | exact sBr | exact a28 aS | exact b85 aS | exact b81 aS (by rfl) | exact d4z aS (by rfl) | exact sCI' aS (by rfl) | exact sCB' aS (by rfl) | exact sCS aS | exact sCI aS | exact sCB aS | exact b83 (by first | omega | (simp only [List.length_map] at *;omega)) | exact b82 (by first | omega | (simp only [List.length_map] at *;omega)) | exact c4r | exact b4l | exact b4n | exact c4q | exact b84 | exact b80 | exact sfSubN | exact b4m | exact sfBSelE | exact sfB | exact c4o | exact c4m | exact c4n | exact E8 aS (by (first | exact A0 O.g_len | exact A0 (fun _=>rfl))) | exact b29 aS (by (first | exact A0 O.g_len | exact A0 (fun _=>rfl))) | exact c4t (by first | omega | (simp only [List.length_map] at *;omega)) | exact b86 (by first | omega | (simp only [List.length_map] at *;omega)) | exact d42 aS (by first | assumption | omega | (simp only [List.length_map] at *;omega)) | exact sfT aS (by rfl))) | (apply Tr.chk;(case ht=>(repeat' (first | exact trT | exact trF | apply a6c | apply a58 | exact a6b | exact a6a | exact a5l | exact a7u | exact a7t | exact a3h | exact a3i | exact a3g | exact a3f | exact a3e | exact a6e | exact b1i | exact b1h | exact trS | exact trV)));(case hp=>first | omega | (simp only [List.length_map] at *;omega))) | (apply Tr.cnd;(case ht=>(repeat' (first | exact trT | exact trF | apply a6c | apply a58 | exact a6b | exact a6a | exact a5l | exact a7u | exact a7t | exact a3h | exact a3i | exact a3g | exact a3f | exact a3e | exact a6e | exact b1i | exact b1h | exact trS | exact trV))))));all_goals exact Tr.refl)):p:=h.go k
theorem l5 {p:Prop} (h:p:=by (repeat' (first | exact l7.nil | refine l7.cons _ _ _ _ ?_ ?_ | exact RBs.nil | assumption | exact RV.i _ _ | exact RV.b _ | exact RV.kn _ | exact RV.s _ _ _ rfl rfl | refine RV.a _ _ _ (by first | rfl | exact (O.g_len _).symm) aS | refine RV.sl _ _ _ _ _ (by first | rfl | simp) aS | refine RV.q _ _ aS | exact RV.p _ _ | exact RV.cl _ _ _ _ _ rfl (p9.nil _ _ _) | refine RV.ag _ _ ?_ | refine RV.t _ _ ?_ | refine RV.sl _ _ _ _ _ (by rfl) (p9.nil _ _ _) | exact RV.sl0 _ _ _ | refine RV.s _ _ _ (by rfl) (by rfl)))):p:=h
theorem Zru {p:Prop} (h:p:=by (repeat' (first | exact l7.nil | refine l7.cons _ _ _ _ ?_ ?_ | exact RBs.nil | assumption | exact RV.i _ _ | exact RV.b _ | exact RV.kn _ | exact RV.s _ _ _ rfl rfl | refine RV.q _ _ (A6.at aS (by rfl)) | refine RV.a _ _ _ (by first | rfl | exact (O.g_len _).symm) aS | refine RV.q _ _ aS | refine RV.cl _ _ _ _ _ rfl (p9.nil _ _ _) | refine RV.ag _ _ ?_ | refine RV.t _ _ ?_ | refine RV.s _ _ _ (by rfl) (by rfl)))):p:=h
theorem aI {a b:Prop} (left:a) (right:b):a∧b:=⟨left,right⟩
theorem oV {a:O} {x:Q} (h:A6 a.g x 0:=by assumption):RV (.a a.g) (.a x 7):=.a _ _ _ a.g_len.symm h
theorem oA {a:O} {x:Q} (h:A6 a.g x 0:=by assumption):l7 [.a a.g] [.a x 7]:=.cons _ _ _ _ (oV h) .nil
theorem oR {U:v8} {P:L6→List Bx→Prop} {a:O} {v:V} {K:Q→Om} (k:∀ q,A6 a.g q 0→j5 U (K q) P) (h:RV (.a a.g) v:=by assumption):j5 U (U.uA 7 v K) P:=M5 h a.g_len k
end Go.Proofs.YtdldcfllnohkeaaGreatDoor
