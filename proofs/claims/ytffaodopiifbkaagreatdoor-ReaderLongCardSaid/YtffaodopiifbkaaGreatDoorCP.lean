/- Plain functions on texts: A7. No program in sight. -/
import Derived.Test.YtffaodopiifbkaaGreatDoorCG
set_option linter.all false
namespace LQ
abbrev j0:=List UInt8
def bt (s:j0) (k:Nat):Int:=((s.getD k 0).toNat:Int)
theorem c03 (s:j0) (k:Nat):bt s k < 256:=by unfold bt;have:=(s.getD k 0).toNat_lt;omega
theorem a6q (s:j0) (k:Nat):0≤bt s k:=by unfold bt;omega
def x5 (c:Int):Bool:=decide (33≤c∧c≤126∧c ≠ 40∧c ≠ 41∧c ≠ 39∧c ≠ 34∧c ≠ 59∧c ≠ 124∧c ≠ 58)
def B6 (c:Int):Bool:=decide (c=32∨c=9∨c=10∨c=13)
def has (s:j0) (i:Nat) (a b:Int):Bool:=decide (i+1 < s.length∧bt s i=a∧bt s (i+1)=b)

def n7 (s:j0) (i:Nat):Nat :=
 if i < s.length then if x5 (bt s i) then n7 s (i+1) else i else i
termination_by s.length - i
def D6 (s:j0) (i:Nat):Nat :=
 if i < s.length then if bt s i=10 then i else D6 s (i+1) else i
termination_by s.length - i
def y9 (s:j0) (i depth:Nat):Option Nat :=
 if depth=0 then some i
 else if i < s.length then
  if has s i 35 124 then y9 s (i+2) (depth+1)
  else if has s i 124 35 then y9 s (i+2) (depth - 1)
  else y9 s (i+1) depth
 else none
termination_by s.length - i
theorem a30 (s:j0) (i:Nat) (h:i≤s.length):i≤D6 s i∧D6 s i≤s.length:=by
 fun_induction D6 s i <;> omega
theorem E5 (s:j0) (i:Nat) (h:i≤s.length):i≤n7 s i∧n7 s i≤s.length:=by
 fun_induction n7 s i <;> omega
theorem P9 {s:j0} {i:Nat} {a b:Int} (h:has s i a b=true):i+1 < s.length:=by simp [has] at h;exact h.1
theorem b1f (s:j0) (i depth j:Nat) (hi:i≤s.length) (h:y9 s i depth=some j):i≤j∧j≤s.length:=by
 fun_induction y9 s i depth
 ·simp at h;omega
 ·rename_i hh ih;have:=P9 hh;have:=ih oM h;omega
 ·rename_i hh ih;have:=P9 hh;have:=ih oM h;omega
 ·rename_i ih;have:=ih oM h;omega
 ·simp at h
def skip (s:j0) (i:Nat):Option Nat :=
 if i < s.length then
  if B6 (bt s i) then skip s (i+1)
  else if bt s i=59 then (if i < D6 s i then skip s (D6 s i) else some i)
  else if has s i 35 124 then
   match y9 s (i+2) 1 with
   | none=>none
   | some j=>if i < j then skip s j else some i
  else some i
 else some i
termination_by s.length - i
theorem a9g (s:j0) (i:Nat) (h:i < s.length) (hb:bt s i ≠ 10):i < D6 s i:=by
 rw [D6,if_pos h,if_neg hb];have:=a30 s (i+1) oM;omega

def P5 (c:Int):Bool:=decide (48≤c∧c≤57)
def m7 (s:j0) (k:Nat):Nat :=
 if k < s.length then if P5 (bt s k) then m7 s (k+1) else k else k
termination_by s.length - k
theorem d3m (s:j0) (i:Nat) (h:i≤s.length):i≤m7 s i∧m7 s i≤s.length:=by
 fun_induction m7 s i <;> omega
def A0 (s:j0) (k:Nat):Nat :=
 if k < s.length then if bt s k=48 then A0 s (k+1) else k else k
termination_by s.length - k
theorem a9q (s:j0) (i:Nat) (h:i≤s.length):i≤A0 s i∧A0 s i≤s.length:=by
 fun_induction A0 s i <;> omega
def j4 (s:j0):Nat:=if 0 < s.length∧bt s 0=45 then 1 else 0
theorem K5 (s:j0):j4 s≤s.length∧j4 s≤1:=by unfold j4;split <;> omega
def u4:j0:=[]
def S5:j0:=[49]
def x6:j0:=[48]
def m6 (s:j0):j0 × j0 × Bool :=
 let i:=j4 s
 let k:=m7 s i
 if k=i then (u4,u4,false)
 else if k=s.length then (s,S5,true)
 else if bt s k ≠ 47∨k+1=s.length then (u4,u4,false)
 else if m7 s (k+1)=s.length then (((s.take (k)).drop (0)),((s.take (s.length)).drop ((k+1))),true)
 else (u4,u4,false)
def plain (s:j0):j0 :=
 let i:=A0 s (j4 s)
 if i=s.length then x6
 else if j4 s=1 then ([45]:j0) ++ ((s.take (s.length)).drop (i))
 else ((s.take (s.length)).drop (i))
def a5e (c:Int):Bool:=decide ((97≤c∧c≤122)∨(48≤c∧c≤57)∨c=45)
def G9 (s:j0) (k:Nat):Bool:=if k < s.length then if a5e (bt s k) then G9 s (k+1) else false else true
termination_by s.length - k
def u5 (s:j0):Bool:=decide (1≤s.length∧s.length≤40∧97≤bt s 0∧bt s 0≤122) && G9 s 0
def q7 (text pkg:j0) (bars:Bool):Int :=
 if 40 < text.length then 2
 else if (bars=true∧text.length=0)∨(pkg.length ≠ 0∧u5 pkg=false) then 3 else 0
def C1 (s:j0) (c:Int) (i:Nat) (acc:List Int):Except (Int × Nat) (List Int × Nat) :=
 if i < s.length then
  if bt s i=c then .ok (acc,i+1)
  else if bt s i ≠ 92 then C1 s c (i+1) (acc ++ [bt s i])
  else if i+1 < s.length then
   if bt s (i+1) ≠ c∧bt s (i+1) ≠ 92 then .error (12,i)
   else C1 s c (i+2) (acc ++ [bt s (i+1)])
  else .error (11,s.length)
 else .error (11,s.length)
termination_by s.length - i
def z6 (s:j0):Bool :=
 decide (s=x6) || (decide (j4 s < s.length∧bt s (j4 s) ≠ 48) && decide (m7 s (j4 s)=s.length))
def w7 (s:j0) (k:Nat) (acc:Nat):Nat:=if k < s.length then w7 s (k+1) (10 * acc+(bt s k - 48).toNat) else acc
termination_by s.length - k
def i7 (s:j0):Int:=if z6 s then (if j4 s=1 then -(w7 s 1 0:Int) else (w7 s 0 0:Int)) else 0
def j8 (n:Nat):List Nat:=if h:n=0 then [] else n % 10 :: j8 (n / 10)
termination_by n
def j5 (n:Nat):j0:=if n=0 then x6 else ((j8 n).reverse.map fun d=>UInt8.ofNat (48+d))
def j6 (n:Int):j0:=if n < 0 then [45] ++ j5 n.natAbs else j5 n.natAbs
def s7 (num den:j0):j0 × j0 :=
 if i7 den=0 then (x6,S5)
 else
  let g:=Nat.gcd (i7 num).natAbs (i7 den).natAbs
  (j6 ((if (i7 num < 0)=(i7 den < 0) then 1 else -1) * (((i7 num).natAbs / g:Nat):Int)),j5 ((i7 den).natAbs / g))
def E8 (a:j0):Nat:=max 1 (j8 (i7 a).natAbs).length

structure y3 where
 kind:Int
 pos:Nat
 pkg:j0
 text:j0
 den:j0
def D5 (l:List Int):j0:=(l.map fun n=>UInt8.ofNat n.toNat)
def K4 (s:j0) (i:Nat) (pkg:j0) (k:Nat):Except (Int × Nat) (y3 × Nat) :=
 if k+2 < s.length then
  if bt s (k+2)=124 then
   match C1 s 124 (k+2+1) [] with
   | .error e=>.error e
   | .ok (l,j)=>if q7 (D5 l) pkg true=0 then .ok (⟨6,i,pkg,D5 l,u4⟩,j) else .error (q7 (D5 l) pkg true,i)
  else if x5 (bt s (k+2)) then
   let j:=n7 s (k+2)
   let t:=((s.take (j)).drop ((k+2)))
   if q7 t pkg false=0 then .ok (⟨6,i,pkg,t,u4⟩,j) else .error (q7 t pkg false,i)
  else .error (12,k+2)
 else .error (11,s.length)
def G1 (i:Nat) (t:j0) (k:Nat):Except (Int × Nat) (y3 × Nat) :=
 if t=[46] then .ok (⟨3,i,u4,u4,u4⟩,k)
 else if (m6 t).2.2 then
  if plain (m6 t).2.1=x6 then .error (12,i)
  else
   let r:=s7 (plain (m6 t).1) (plain (m6 t).2.1)
   if 100 < E8 r.1∨100 < E8 r.2 then .error (2,i) else .ok (⟨5,i,u4,r.1,r.2⟩,k)
 else if q7 t u4 false=0 then .ok (⟨6,i,u4,t,u4⟩,k) else .error (q7 t u4 false,i)
def B3 (s:j0) (i:Nat):Except (Int × Nat) (y3 × Nat) :=
 if bt s i=40 then .ok (⟨1,i,u4,u4,u4⟩,i+1)
 else if bt s i=41 then .ok (⟨2,i,u4,u4,u4⟩,i+1)
 else if bt s i=39 then .ok (⟨4,i,u4,u4,u4⟩,i+1)
 else if bt s i=34 then
  match C1 s 34 (i+1) [] with
  | .error e=>.error e
  | .ok (l,j)=>if 200 < l.length then .error (2,i) else .ok (⟨7,i,u4,D5 l,u4⟩,j)
 else if bt s i=124 then
  match C1 s 124 (i+1) [] with
  | .error e=>.error e
  | .ok (l,j)=>if q7 (D5 l) u4 true=0 then .ok (⟨6,i,u4,D5 l,u4⟩,j) else .error (q7 (D5 l) u4 true,i)
 else if x5 (bt s i) then
  if has s (n7 s i) 58 58 then K4 s i (((s.take ((n7 s i))).drop (i))) (n7 s i)
  else G1 i (((s.take ((n7 s i))).drop (i))) (n7 s i)
 else .error (12,i)
def D7 (s:j0) (i:Nat) (acc:List y3):Except (Int × Nat) (List y3) :=
 match skip s i with
 | none=>.error (11,s.length)
 | some j =>
  if j < s.length then
   match B3 s j with
   | .error e=>.error e
   | .ok (t,k)=>if i < k∧i < s.length then D7 s k (acc ++ [t]) else .error (0,0)
  else .ok (acc ++ [⟨0,s.length,u4,u4,u4⟩])
termination_by s.length - i
def A7 (s:j0):Except (Int × Nat) (List y3):=if 6000 < s.length then .error (2,0) else D7 s 0 []
theorem Y7 (s:j0) (i j:Nat) (hi:i≤j) (hj:j < m7 s i):48≤bt s j∧bt s j≤57:=by
 fun_induction m7 s i with
 | case1 i h1 h2 ih =>
  by_cases h:j=i
  ·subst h;simpa [P5] using h2
  ·exact ih oM hj
 | case2=>omega
 | case3=>omega
def w6 (s:j0) (e:Nat):Nat→List Nat→List Nat
 | 0,acc=>acc
 | k+1,acc=>if e≤k then w6 s e k (acc ++ [(bt s k - 48).toNat]) else acc
def Z7 (s:j0):Bool × List Nat :=
 if z6 s=true∧s ≠ x6 then (decide (j4 s=1),w6 s (j4 s) s.length []) else (false,[])
def Q4 (l:List Nat):Nat→Nat
 | 0=>0
 | n+1=>if l.getD n 0=0 then Q4 l n else n+1
def E0 (l:List Nat):List Nat:=l.take (Q4 l l.length)
def F0 (a b:List Nat):Nat→Int
 | 0=>0
 | k+1=>if a.getD k 0 < b.getD k 0 then -1 else if b.getD k 0 < a.getD k 0 then 1 else F0 a b k
def P0 (a b:List Nat):Int :=
 if a.length=b.length then F0 a b a.length else if a.length < b.length then -1 else 1
def H7 (a b:List Nat) (i bor:Nat):Int:=(a.getD i 0:Int) - bor - (if i < b.length then (b.getD i 0:Int) else 0)
def N3 (a b:List Nat) (i bor:Nat) (acc:List Nat):List Nat :=
 if i < a.length then
  if H7 a b i bor < 0 then N3 a b (i+1) 1 (acc ++ [(H7 a b i bor+10).toNat])
  else N3 a b (i+1) 0 (acc ++ [(H7 a b i bor).toNat])
 else acc
termination_by a.length - i
def b70 (a b:List Nat):List Nat:=E0 (N3 a b 0 0 [])
theorem d72 {s:j0} {k:Nat} (h:¬k < s.length):skip s k=some k:=by rw [skip,if_neg h]
theorem b6q {s:j0} {k:Nat} (h:k < s.length) (hb:B6 (bt s k)=true):skip s k=skip s (k+1):=by
 rw [skip,if_pos h,if_pos hb]
theorem b1m {s:j0} {k:Nat} (h:k < s.length) (hb:B6 (bt s k)=false) (h9:bt s k=59):skip s k=skip s (D6 s k):=by
 rw [skip,if_pos h,if_neg (by simp [hb]),if_pos h9,if_pos (a9g s k h oM)]
theorem b89 {s:j0} {k:Nat} (h:k < s.length) (hb:B6 (bt s k)=false) (h9:bt s k ≠ 59) (hh:has s k 35 124=false):skip s k=some k:=by
 rw [skip,if_pos h,if_neg (by simp [hb]),if_neg h9,if_neg (by simp [hh])]
theorem c12 {s:j0} {k j:Nat} (h:k < s.length) (hb:B6 (bt s k)=false) (h9:bt s k ≠ 59) (hh:has s k 35 124=true) (hc:y9 s (k+2) 1=some j):skip s k=skip s j:=by
 have:=P9 hh
 have:=b1f s (k+2) 1 j oM hc
 rw [skip,if_pos h,if_neg (by simp [hb]),if_neg h9,if_pos hh,hc];simp only [];rw [if_pos oM]
theorem b9g {s:j0} {k:Nat} (h:k < s.length) (hb:B6 (bt s k)=false) (h9:bt s k ≠ 59) (hh:has s k 35 124=true) (hc:y9 s (k+2) 1=none):skip s k=none:=by
 rw [skip,if_pos h,if_neg (by simp [hb]),if_neg h9,if_pos hh,hc]
def val:List Nat→Nat
 | []=>0
 | d :: t=>d+10 * val t
def D9 (l:List Nat):Prop:=∀ d ∈ l,d≤9
theorem y6:j8 0=[]:=by rw [j8];simp
theorem F4 {n:Nat} (h:n ≠ 0):j8 n=n % 10 :: j8 (n / 10):=by rw [j8,dif_neg h]
theorem B4 (n:Nat):val (j8 n)=n:=by
 induction n using Nat.strongRecOn with
 | _ n ih =>
  by_cases h:n=0
  ·subst h;rw [y6];rfl
  ·rw [F4 h,val,ih (n / 10) oM];omega
theorem C2 (n:Nat):D9 (j8 n):=by
 induction n using Nat.strongRecOn with
 | _ n ih =>
  by_cases h:n=0
  ·subst h;rw [y6];intro d hd;simp at hd
  ·rw [F4 h];intro d hd;simp at hd
   rcases hd with rfl | hd
   ·omega
   ·exact ih (n / 10) oM d hd
theorem b8w {d m:Nat} (hd:d≤9) (h:d ≠ 0∨m ≠ 0):j8 (d+10 * m)=d :: j8 m:=by
 rw [F4 oM];congr 1
 ·omega
 ·congr 1;omega
theorem a4t (a b:List Nat):val (a ++ b)=val a+10 ^ a.length * val b:=by
 induction a with
 | nil=>simp [val]
 | cons d t ih=>simp only [List.cons_append,val,ih,List.length_cons,Nat.pow_succ];rw [Nat.mul_add,← Nat.mul_assoc,Nat.mul_comm (10 ^ t.length) 10];omega
theorem c0b (t:List Nat) (d:Nat) (h9:D9 (t ++ [d])) (hd:d ≠ 0):j8 (val (t ++ [d]))=t ++ [d]:=by
 induction t with
 | nil =>
  have:d≤9:=h9 d (by simp)
  simp only [List.nil_append,val]
  rw [Nat.mul_zero,← Nat.mul_zero 10,b8w this (.inl hd),y6]
 | cons x t ih =>
  simp only [List.cons_append,val]
  rw [b8w (h9 x (by simp)),ih (fun y hy=>h9 y (by simp at hy ⊢;exact .inr hy))]
  refine .inr fun h0=>hd ?_
  have h2:=a4t t [d]
  rw [h0] at h2
  simp only [val] at h2
  have h3:0 < 10 ^ t.length:=Nat.pow_pos oM
  rw [Nat.mul_zero,Nat.add_zero] at h2
  have h4:10 ^ t.length * d=0:=oM
  rcases Nat.mul_eq_zero.1 h4 with h | h <;> omega
theorem c8w (l:List Nat) (h9:D9 l) (n:Nat) (hn:n≤l.length):l.take (Q4 l n)=j8 (val (l.take n)):=by
 induction n with
 | zero=>simp [Q4,val,y6]
 | succ n ih =>
  have hlt:n < l.length:=oM
  have htk:l.take (n+1)=l.take n ++ [l.getD n 0]:=by
   rw [List.take_succ_eq_append_getElem hlt];simp [List.getD,hlt]
  simp only [Q4]
  split
  ·rename_i h0
   rw [ih oM,htk,h0,a4t]
   simp [val]
  ·rename_i h0
   rw [htk,c0b _ _ _ h0]
   intro d hd
   rw [← htk] at hd
   exact h9 d (List.mem_of_mem_take hd)
theorem a4s (l:List Nat) (h9:D9 l):E0 l=j8 (val l):=by
 unfold E0;rw [c8w l h9 l.length (Nat.le_refl _),List.take_length]
def a3t:List Nat→List Nat→Nat→List Nat
 | [],_,_=>[]
 | x :: a,b,bor =>
  if (x:Int) - bor - (b.headD 0:Int) < 0 then ((x:Int) - bor - (b.headD 0:Int)+10).toNat :: a3t a b.tail 1
  else ((x:Int) - bor - (b.headD 0:Int)).toNat :: a3t a b.tail 0
theorem b20 (a b:List Nat) (i bor:Nat):H7 a b i bor=(a.getD i 0:Int) - bor - ((b.drop i).headD 0:Int):=by
 unfold H7
 rcases Nat.lt_or_ge i b.length with h | h
 ·rw [if_pos h,List.drop_eq_getElem_cons h];simp [List.getD,h]
 ·rw [if_neg oM,List.drop_eq_nil_of_le h];simp
theorem c8p (a b:List Nat) (i bor:Nat) (acc:List Nat) (hi:i≤a.length):N3 a b i bor acc=acc ++ a3t (a.drop i) (b.drop i) bor:=by
 fun_induction N3 a b i bor acc with
 | case1 i bor acc h1 h2 ih =>
  rw [ih oM,List.drop_eq_getElem_cons h1,a3t]
  rw [b20] at h2 ⊢
  simp only [List.getD,List.getElem?_eq_getElem h1,Option.getD_some] at h2 ⊢
  rw [if_pos h2];simp
 | case2 i bor acc h1 h2 ih =>
  rw [ih oM,List.drop_eq_getElem_cons h1,a3t]
  rw [b20] at h2 ⊢
  simp only [List.getD,List.getElem?_eq_getElem h1,Option.getD_some] at h2 ⊢
  rw [if_neg h2];simp
 | case3 i bor acc h1 =>
  rw [List.drop_eq_nil_of_le oM];simp [a3t]
theorem d7x (b:List Nat):val b=b.headD 0+10 * val b.tail:=by cases b <;> simp [val]
theorem d56 (a b:List Nat) (bor:Nat) (ha:D9 a) (hb:D9 b) (hbor:bor≤1) (h:val b+bor≤val a):val (a3t a b bor)+val b+bor=val a:=by
 induction a generalizing b bor with
 | nil=>simp [val] at h;simp [a3t,val];omega
 | cons x a ih =>
  have hx:x≤9:=ha x (by simp)
  have ha':D9 a:=fun d hd=>ha d (by simp [hd])
  have hb':D9 b.tail:=fun d hd=>hb d (List.mem_of_mem_tail hd)
  have hy:b.headD 0≤9:=by
   cases b with
   | nil=>simp
   | cons y t=>exact hb y (by simp)
  have hvb:=d7x b
  simp only [val] at h
  simp only [a3t]
  split
  ·rename_i hz
   have:=ih b.tail 1 ha' hb' oM oM
   simp only [val]
   omega
  ·rename_i hz
   have:=ih b.tail 0 ha' hb' oM oM
   simp only [val]
   omega
theorem e33 (a b:List Nat) (bor:Nat) (ha:D9 a) (hb:D9 b) (hbor:bor≤1):D9 (a3t a b bor):=by
 induction a generalizing b bor with
 | nil=>intro d hd;simp [a3t] at hd
 | cons x a ih =>
  have hx:x≤9:=ha x (by simp)
  have ha':D9 a:=fun d hd=>ha d (by simp [hd])
  have hb':D9 b.tail:=fun d hd=>hb d (List.mem_of_mem_tail hd)
  simp only [a3t]
  split
  ·rename_i hz;intro d hd
   rcases List.mem_cons.1 hd with rfl | hd
   ·omega
   ·exact ih b.tail 1 ha' hb' oM d hd
  ·rename_i hz;intro d hd
   rcases List.mem_cons.1 hd with rfl | hd
   ·omega
   ·exact ih b.tail 0 ha' hb' oM d hd
theorem d06 (x y:Nat) (h:y≤x):b70 (j8 x) (j8 y)=j8 (x - y):=by
 unfold b70
 rw [c8p _ _ _ _ _ (Nat.zero_le _)]
 simp only [List.nil_append,List.drop_zero]
 rw [a4s _ (e33 _ _ _ (C2 x) (C2 y) oM)]
 have:=d56 (j8 x) (j8 y) 0 (C2 x) (C2 y) oM (by rw [B4,B4];omega)
 rw [B4,B4] at this
 congr 1;omega
theorem a1q (l:List Nat) (h9:D9 l):val l < 10 ^ l.length:=by
 induction l with
 | nil=>simp [val]
 | cons d t ih =>
  have h1:=ih (fun x hx=>h9 x (by simp [hx]))
  have h2:d≤9:=h9 d (by simp)
  simp only [val,List.length_cons,Nat.pow_succ]
  omega
theorem b1x (n:Nat) (h:n ≠ 0):10 ^ ((j8 n).length - 1)≤n:=by
 induction n using Nat.strongRecOn with
 | _ n ih =>
  rw [F4 h]
  simp only [List.length_cons,Nat.add_sub_cancel]
  by_cases h1:n / 10=0
  ·rw [h1,y6];simp;omega
  ·have:=ih (n / 10) oM h1
   have h2:(j8 (n / 10)).length ≠ 0:=by rw [F4 h1];simp
   have h3:10 ^ (j8 (n / 10)).length=10 * 10 ^ ((j8 (n / 10)).length - 1):=by
    rw [← Nat.pow_succ'];congr 1;omega
   omega
theorem c50 (a b:List Nat) (ha:D9 a) (hb:D9 b) (n:Nat) (hna:n≤a.length) (hnb:n≤b.length) :
  F0 a b n=if val (a.take n) < val (b.take n) then -1 else if val (b.take n) < val (a.take n) then 1 else 0:=by
 induction n with
 | zero=>simp [F0,val]
 | succ n ih =>
  have hla:n < a.length:=oM
  have hlb:n < b.length:=oM
  have e1:a.take (n+1)=a.take n ++ [a.getD n 0]:=by rw [List.take_succ_eq_append_getElem hla];simp [List.getD,hla]
  have e2:b.take (n+1)=b.take n ++ [b.getD n 0]:=by rw [List.take_succ_eq_append_getElem hlb];simp [List.getD,hlb]
  have v1:=a4t (a.take n) [a.getD n 0]
  have v2:=a4t (b.take n) [b.getD n 0]
  have l1:(a.take n).length=n:=by simp;omega
  have l2:(b.take n).length=n:=by simp;omega
  have b1:=a1q (a.take n) (fun d hd=>ha d (List.mem_of_mem_take hd))
  have b2:=a1q (b.take n) (fun d hd=>hb d (List.mem_of_mem_take hd))
  rw [l1] at v1 b1
  rw [l2] at v2 b2
  simp only [val,Nat.mul_zero,Nat.add_zero] at v1 v2
  rw [e1,e2,v1,v2]
  simp only [F0]
  rw [ih oM oM]
  generalize a.getD n 0=x at *
  generalize b.getD n 0=y at *
  generalize val (a.take n)=p at *
  generalize val (b.take n)=q at *
  generalize 10 ^ n=P at *
  by_cases h1:x < y
  ·have:P * (x+1)≤P * y:=Nat.mul_le_mul_left P h1
   rw [Nat.mul_add,Nat.mul_one] at this
   rw [if_pos h1,if_pos oM]
  ·rw [if_neg h1]
   by_cases h2:y < x
   ·have:P * (y+1)≤P * x:=Nat.mul_le_mul_left P h2
    rw [Nat.mul_add,Nat.mul_one] at this
    rw [if_pos h2,if_neg oM,if_pos oM]
   ·rw [if_neg h2]
    have h3:x=y:=oM
    subst h3
    simp only [Nat.add_lt_add_iff_right]
theorem d1u (x y:Nat):P0 (j8 x) (j8 y)=if x < y then -1 else if y < x then 1 else 0:=by
 unfold P0
 split
 ·rename_i h
  rw [c50 _ _ (C2 x) (C2 y) _ (Nat.le_refl _) oM,List.take_length,h,List.take_length,B4,B4]
 ·rename_i h
  have b1:=a1q (j8 x) (C2 x)
  have b2:=a1q (j8 y) (C2 y)
  rw [B4] at b1 b2
  split
  ·rename_i h2
   have hy:y ≠ 0:=by intro e;rw [e,y6] at h2;simp at h2
   have g2:=b1x y hy
   have:10 ^ (j8 x).length≤10 ^ ((j8 y).length - 1):=Nat.pow_le_pow_right oM oM
   rw [if_pos oM]
  ·rename_i h2
   have hx:x ≠ 0:=by intro e;rw [e,y6] at h h2;simp only [List.length_nil] at h h2;omega
   have g1:=b1x x hx
   have:10 ^ (j8 y).length≤10 ^ ((j8 x).length - 1):=Nat.pow_le_pow_right oM oM
   rw [if_neg oM,if_pos oM]

theorem c5n (s:j0) (e:Nat) (k:Nat) (acc:List Nat):w6 s e k acc=acc ++ w6 s e k []:=by
 induction k generalizing acc with
 | zero=>simp [w6]
 | succ k ih =>
  simp only [w6]
  split
  ·rw [ih (acc ++ _),ih ([] ++ _)];simp
  ·simp
theorem c5i (s:j0) (k acc:Nat) (hk:k≤s.length):w7 s k acc=acc * 10 ^ (s.length - k)+w7 s k 0:=by
 generalize hm:s.length - k=m
 induction m generalizing k acc with
 | zero=>rw [w7,if_neg oM,w7,if_neg oM];simp
 | succ m ih =>
  rw [w7,if_pos oM,w7.eq_def s k 0,if_pos oM,ih (k+1) _ oM oM,ih (k+1) (10 * 0+_) oM oM,Nat.pow_succ]
  rw [Nat.mul_zero,Nat.zero_add,Nat.add_mul,Nat.mul_comm 10 acc,Nat.mul_assoc,Nat.mul_comm 10 (10 ^ m)]
  omega
theorem a5h (s:j0) (e k:Nat) (h:e≤k):w6 s e (k+1) []=(bt s k - 48).toNat :: w6 s e k []:=by
 rw [w6,if_pos h,c5n];simp
theorem c62 (s:j0) (e:Nat):w6 s e e []=[]:=by
 cases e with
 | zero=>rfl
 | succ e=>rw [w6,if_neg oM]
theorem c54 (s:j0) (e k:Nat) (he:e≤k) (hk:k≤s.length):w7 s e 0=w7 s k (val (w6 s e k [])):=by
 induction k with
 | zero=>obtain rfl:e=0:=oM
         rfl
 | succ k ih =>
  by_cases h:e=k+1
  ·subst h;rw [c62];rfl
  ·rw [ih oM oM,a5h s e k oM,w7,if_pos oM]
   congr 1
   simp only [val];omega
theorem b2z (s:j0) (e:Nat) (he:e≤s.length):w7 s e 0=val (w6 s e s.length []):=by
 rw [c54 s e s.length he (Nat.le_refl _),w7,if_neg oM]
theorem c23 (s:j0) (e k:Nat) (h:e < k):∃ t,w6 s e k []=t ++ [(bt s e - 48).toNat]:=by
 induction k with
 | zero=>omega
 | succ k ih =>
  rw [a5h s e k oM]
  by_cases hk:e=k
  ·subst hk;exact ⟨[],by rw [c62];rfl⟩
  ·obtain ⟨t,ht⟩:=ih oM
   exact ⟨_ :: t,by rw [ht];rfl⟩
theorem e9q (s:j0) (e k:Nat) (h:∀ j,e≤j→j < k→48≤bt s j∧bt s j≤57):D9 (w6 s e k []):=by
 induction k with
 | zero=>intro d hd;simp [w6] at hd
 | succ k ih =>
  by_cases he:e≤k
  ·rw [a5h s e k he]
   intro d hd
   rcases List.mem_cons.1 hd with rfl | hd
   ·have:=h k he oM;omega
   ·exact ih (fun j h1 h2=>h j h1 oM) d hd
  ·rw [w6,if_neg he];intro d hd;simp at hd
theorem a7n:i7 x6=0:=by
 have h1:j4 x6=0:=dE
 have h2:w7 x6 0 0=0:=by rw [w7,if_pos dE,w7,if_neg dE];decide
 unfold i7
 rw [h1,h2];simp
theorem b2d (s:j0):Z7 s=(decide (i7 s < 0),j8 (i7 s).natAbs):=by
 unfold Z7
 split
 ·rename_i h
  obtain ⟨h1,h2⟩:=h
  have h3:j4 s < s.length∧bt s (j4 s) ≠ 48∧m7 s (j4 s)=s.length:=by
   simp [z6,h2] at h1;exact ⟨h1.1.1,h1.1.2,h1.2⟩
  have hall:∀ j,j4 s≤j→j < s.length→48≤bt s j∧bt s j≤57:=fun j a b=>Y7 s (j4 s) j a oM
  have h9:=e9q s (j4 s) s.length hall
  obtain ⟨t,ht⟩:=c23 s (j4 s) s.length h3.1
  have hd0:(bt s (j4 s) - 48).toNat ≠ 0:=by have:=hall (j4 s) (Nat.le_refl _) h3.1;omega
  have hcan:j8 (val (w6 s (j4 s) s.length []))=w6 s (j4 s) s.length []:=by
   rw [ht] at h9 ⊢;exact c0b t _ h9 hd0
  have hv:=b2z s (j4 s) oM
  have hpos:0 < w7 s (j4 s) 0:=by
   rcases Nat.eq_zero_or_pos (w7 s (j4 s) 0) with h | h
   ·rw [← hv,h,y6] at hcan;rw [ht] at hcan;simp at hcan
   ·exact h
  unfold i7
  rw [if_pos h1]
  have hs1:=K5 s
  by_cases hsg:j4 s=1
  ·rw [if_pos hsg]
   rw [hsg] at hcan hv hpos ⊢
   rw [hv,Int.natAbs_neg,Int.natAbs_natCast,hcan]
   congr 1
   rw [← hv];simp;omega
  ·have hs0:j4 s=0:=oM
   rw [if_neg hsg]
   rw [hs0] at hcan hv hpos ⊢
   rw [hv,Int.natAbs_natCast,hcan]
   congr 1
 ·rename_i h
  have:i7 s=0:=by
   by_cases h1:z6 s=true
   ·have:s=x6:=by
     by_cases h2:s=x6
     ·exact h2
     ·exact absurd ⟨h1,h2⟩ h
    rw [this];exact a7n
   ·unfold i7;rw [if_neg h1]
  rw [this];simp [y6]
theorem d2s (X a y:Nat) (hy:0 < y):(a+10 * X) / y=(a+10 * (X % y)) / y+10 * (X / y)∧(a+10 * X) % y=(a+10 * (X % y)) % y:=by
 have h:=Nat.div_add_mod X y
 have e:a+10 * X=(a+10 * (X % y))+y * (10 * (X / y)):=by
  have:y * (10 * (X / y))=10 * (y * (X / y)):=by rw [Nat.mul_left_comm]
  rw [this];omega
 rw [e]
 exact ⟨by rw [Nat.add_mul_div_left _ _ hy],by rw [Nat.add_mul_mod_self_left]⟩
theorem d0v (R t y:Nat) (hy:0 < y) (h1:t * y≤R) (h2:R - t * y < y):R / y=t∧R % y=R - t * y:=by
 have e:R=(R - t * y)+y * t:=by rw [Nat.mul_comm y t];omega
 constructor
 ·rw [e,Nat.add_mul_div_left _ _ hy,Nat.div_eq_of_lt h2];omega
 ·have:R % y=((R - t * y)+y * t) % y:=by rw [← e]
  rw [this,Nat.add_mul_mod_self_left,Nat.mod_eq_of_lt h2]
theorem d00 (x k:Nat) (h:k < (j8 x).length):val ((j8 x).drop k)=(j8 x).getD k 0+10 * val ((j8 x).drop (k+1)):=by
 rw [List.drop_eq_getElem_cons h];simp [val,List.getD,h]
theorem b8c (a r:Nat) (ha:a≤9):E0 (a :: j8 r)=j8 (a+10 * r):=by
 rw [a4s]
 ·simp only [val,B4]
 ·intro d hd
  rcases List.mem_cons.1 hd with rfl | hd
  ·exact ha
  ·exact C2 r d hd
theorem a1y (n k:Nat) (h:n ≠ 0) (hk:k < (j8 n).length):bt (j5 n) k=48+((j8 n).getD ((j8 n).length - 1 - k) 0:Int):=by
 have hs:(j5 n).length=(j8 n).length:=by unfold j5;rw [if_neg h];simp
 have hbt:bt (j5 n) k=(((j5 n)[k]'oM).toNat:Int):=by unfold bt;simp [List.getD,List.getElem?_eq_getElem (show k < (j5 n).length by omega)]
 rw [hbt]
 have h9:(j8 n).getD ((j8 n).length - 1 - k) 0≤9:=by
  have hlt:(j8 n).length - 1 - k < (j8 n).length:=oM
  simp only [List.getD,List.getElem?_eq_getElem hlt,Option.getD_some]
  exact C2 n _ (List.getElem_mem hlt)
 have:(j5 n)[k]'oM=UInt8.ofNat (48+(j8 n).getD ((j8 n).length - 1 - k) 0):=by
  have e:j5 n=((j8 n).reverse.map fun d=>UInt8.ofNat (48+d)):=by unfold j5;rw [if_neg h]
  simp only [e]
  simp [List.getD,show (j8 n).length - 1 - k < (j8 n).length by omega]
 rw [this]
 simp only [UInt8.toNat_ofNat']
 omega

theorem O1 (n:Nat) (h:n ≠ 0):(j5 n).length=(j8 n).length:=by unfold j5;rw [if_neg h];simp
theorem c0f (n:Nat) (h:n ≠ 0):(j8 n).getD ((j8 n).length - 1) 0 ≠ 0:=by
 induction n using Nat.strongRecOn with
 | _ n ih =>
  rw [F4 h]
  by_cases h1:n / 10=0
  ·rw [h1,y6];simp;omega
  ·have:=ih (n / 10) oM h1
   have h2:(j8 (n / 10)).length ≠ 0:=by rw [F4 h1];simp
   obtain ⟨m,hm⟩:∃ m,(j8 (n / 10)).length=m+1:=⟨_,(Nat.succ_pred h2).symm⟩
   rw [hm] at this
   simp only [List.length_cons,hm,Nat.add_sub_cancel]
   simpa [List.getD] using this
theorem U9 (s:j0) (i:Nat) (hi:i≤s.length) (h:∀ j,i≤j→j < s.length→48≤bt s j∧bt s j≤57):m7 s i=s.length:=by
 fun_induction m7 s i with
 | case1 i h1 h2 ih=>exact ih oM (fun j a b=>h j oM b)
 | case2 i h1 h2=>exact absurd (by have:=h i (Nat.le_refl _) h1;simp [P5];omega) h2
 | case3 i h1=>omega
theorem d53 (n k:Nat) (h:n ≠ 0) (hk:k≤(j8 n).length):w6 (j5 n) 0 k []=(j8 n).drop ((j8 n).length - k):=by
 induction k with
 | zero=>simp [w6]
 | succ k ih =>
  rw [a5h _ _ _ (Nat.zero_le _),ih oM,a1y n k h oM]
  have hlt:(j8 n).length - (k+1) < (j8 n).length:=oM
  rw [List.drop_eq_getElem_cons hlt]
  congr 1
  ·simp only [List.getD,show (j8 n).length - 1 - k=(j8 n).length - (k+1) by omega,List.getElem?_eq_getElem hlt,Option.getD_some];omega
  ·congr 1;omega
theorem C4 (n:Nat):i7 (j5 n)=n:=by
 by_cases h:n=0
 ·subst h;exact a7n
 ·have hs:=O1 n h
  have hl:(j8 n).length ≠ 0:=by rw [F4 h];simp
  have hall:∀ j,0≤j→j < (j5 n).length→48≤bt (j5 n) j∧bt (j5 n) j≤57:=by
   intro j _ hj
   rw [a1y n j h oM]
   have hlt:(j8 n).length - 1 - j < (j8 n).length:=oM
   have:=C2 n ((j8 n)[(j8 n).length - 1 - j]) (List.getElem_mem hlt)
   simp only [List.getD,List.getElem?_eq_getElem hlt,Option.getD_some]
   omega
  have h0:=hall 0 (Nat.le_refl _) oM
  have hsg:j4 (j5 n)=0:=by unfold j4;rw [if_neg oM]
  have hb0:bt (j5 n) 0 ≠ 48:=by
   rw [a1y n 0 h oM]
   have:=c0f n h
   rw [Nat.sub_zero]
   omega
  have hok:z6 (j5 n)=true:=by
   unfold z6
   rw [hsg,U9 _ 0 (Nat.zero_le _) hall]
   simp [hb0];right;omega
  unfold i7
  rw [if_pos hok,hsg,if_neg oM,b2z _ 0 (Nat.zero_le _),hs,d53 n _ h (Nat.le_refl _),Nat.sub_self,List.drop_zero,B4]
theorem a05 (c:UInt8) (s:j0) (k:Nat):bt (c :: s) (k+1)=bt s k:=by simp [bt]
theorem c3a (c:UInt8) (s:j0) (k acc:Nat):w7 (c :: s) (k+1) acc=w7 s k acc:=by
 fun_induction w7 s k acc with
 | case1 k acc h ih=>rw [w7,if_pos (by simp;omega),a05,ih]
 | case2 k acc h=>rw [w7,if_neg (by simp;omega)]
theorem c6j (c:UInt8) (s:j0) (k:Nat):m7 (c :: s) (k+1)=m7 s k+1:=by
 fun_induction m7 s k with
 | case1 k h1 h2 ih=>rw [m7,if_pos (by simp;omega),a05,if_pos h2,ih]
 | case2 k h1 h2=>rw [m7,if_pos (by simp;omega),a05,if_neg h2]
 | case3 k h=>rw [m7,if_neg (by simp;omega)]
theorem a2p (n:Nat) (h:n ≠ 0):(∀ j,0≤j→j < (j5 n).length→48≤bt (j5 n) j∧bt (j5 n) j≤57)∧bt (j5 n) 0 ≠ 48∧0 < (j5 n).length:=by
 have hs:=O1 n h
 have hl:(j8 n).length ≠ 0:=by rw [F4 h];simp
 refine ⟨?_,?_,oM⟩
 ·intro j _ hj
  rw [a1y n j h oM]
  have hlt:(j8 n).length - 1 - j < (j8 n).length:=oM
  have:=C2 n ((j8 n)[(j8 n).length - 1 - j]) (List.getElem_mem hlt)
  simp only [List.getD,List.getElem?_eq_getElem hlt,Option.getD_some]
  omega
 ·rw [a1y n 0 h oM]
  have:=c0f n h
  rw [Nat.sub_zero]
  omega
theorem c82 (n:Nat) (h:n ≠ 0):i7 (45 :: j5 n)=-(n:Int):=by
 obtain ⟨h1,h2,h3⟩:=a2p n h
 have hsg:j4 (45 :: j5 n)=1:=by unfold j4;rw [if_pos];exact ⟨by simp,rfl⟩
 have hsg0:j4 (j5 n)=0:=by unfold j4;rw [if_neg];have:=h1 0 (Nat.le_refl _) h3;omega
 have hok:z6 (45 :: j5 n)=true:=by
  unfold z6
  rw [hsg,show (1:Nat)=0+1 from rfl,c6j,a05,U9 _ 0 (Nat.zero_le _) h1]
  simp [h2];right;omega
 have hv:=C4 n
 have hok0:z6 (j5 n)=true:=by
  unfold z6
  rw [hsg0,U9 _ 0 (Nat.zero_le _) h1]
  simp [h2];right;omega
 unfold i7 at hv
 rw [if_pos hok0,hsg0,if_neg oM] at hv
 unfold i7
 rw [if_pos hok,hsg,if_pos rfl,show (1:Nat)=0+1 from rfl,c3a,hv]
theorem x7 (n:Int):i7 (j6 n)=n:=by
 unfold j6
 split
 ·rename_i h
  show i7 (45 :: j5 n.natAbs)=n
  rw [c82 _ oM];omega
 ·rw [C4];omega
theorem a0h {a b:Int} (h:j6 a=j6 b):a=b:=by rw [← x7 a,h,x7]
theorem a7a {a b:Nat} (h:j5 a=j5 b):a=b:=by
 have:=congrArg i7 h
 rw [C4,C4] at this
 omega
end LQ
namespace Go.Proofs.YtffaodopiifbkaaGreatDoor
open Go.Abs LQ
noncomputable section
abbrev Sy:=j0 × j0
inductive O where
 | num (n:Int) (d:Nat)
 | sy (s:Sy)
 | tx (s:j0)
 | co (a d:O)
 | no
namespace O
def k:O→Int
 | num _ _=>1
 | sy _=>2
 | tx _=>3
 | co _ _=>4
 | no=>0
def nu:O→j0
 | num n _=>j6 n
 | _=>[]
def de:O→j0
 | num _ d=>j5 d
 | _=>[]
def sym:O→Sy
 | sy s=>s
 | _=>([],[])
def txt:O→j0
 | tx s=>s
 | _=>[]
def ps:O→List O
 | co a d=>[a,d]
 | _=>[]
def g:O→List G
 | num n d=>[.i .i64 1,.s (j6 n),.s (j5 d),.s [],.s [],.s [],.l []]
 | sy s=>[.i .i64 2,.s [],.s [],.s s.1,.s s.2,.s [],.l []]
 | tx s=>[.i .i64 3,.s [],.s [],.s [],.s [],.s s,.l []]
 | co a d=>[.i .i64 4,.s [],.s [],.s [],.s [],.s [],.l [a.g,d.g]]
 | no=>[.i .i64 0,.s [],.s [],.s [],.s [],.s [],.l []]
theorem g_eq (a:O):a.g=[.i .i64 a.k,.s a.nu,.s a.de,.s a.sym.1,.s a.sym.2,.s a.txt,.l (a.ps.map O.g)]:=by cases a <;> rfl
theorem g_len (a:O):a.g.length=7:=by cases a <;> rfl
theorem ps_le (a:O):a.ps.length≤2:=by cases a <;> simp [ps]
theorem ps_fuel (a:O):a.ps.length - 0 < x8:=by cases a <;> simp [ps,x8]
theorem ext {a b:O} (h1:a.k=b.k) (h2:a.nu=b.nu) (h3:a.de=b.de) (h4:a.sym=b.sym) (h5:a.txt=b.txt) (h6:a.ps=b.ps):a=b:=by
 cases a <;> cases b <;> simp_all [k,nu,de,sym,txt,ps]
 exact ⟨a0h h2,a7a h3⟩
theorem g_inj:∀ {a b:O},a.g=b.g→a=b:=by
 intro a
 induction a with
 | num n d=>intro b h;cases b <;> simp only [g,List.cons.injEq,G.s.injEq,G.i.injEq,reduceCtorEq,and_true,true_and,false_and,and_false,Int.reduceEq] at h;exact (congrArg (O.num · _) (a0h h.1)).trans (congrArg (O.num _) (a7a h.2))
 | sy s=>intro b h;cases b <;> simp [g] at h;exact congrArg O.sy (Prod.ext h.1 h.2)
 | tx s=>intro b h;cases b <;> simp [g] at h;rw [h]
 | co a d iha ihd=>intro b h;cases b <;> simp [g] at h;rw [iha h.1,ihd h.2]
 | no=>intro b h;cases b <;> simp [g] at h;rfl
open Classical in
def eqb (a b:O):Bool:=decide (a=b)
theorem eqb_t {a b:O}:eqb a b=true↔a=b:=by unfold eqb;simp
theorem eqb_f {a b:O}:eqb a b=false↔¬a=b:=by unfold eqb;simp
def size:O→Nat
 | co a d=>1+a.size+d.size
 | _=>1
theorem size_pos (a:O):0 < a.size:=by cases a <;> simp [size] <;> omega
theorem ps_size (a:O):∀ x ∈ a.ps,x.size < a.size:=by cases a <;> simp [ps,size] <;> omega
end O
theorem c3b:∀ {l m:List O},l.map O.g=m.map O.g→l=m
 | [],[],_=>rfl
 | [],_ :: _,h=>by simp at h
 | _ :: _,[],h=>by simp at h
 | a :: l,b :: m,h=>by simp only [List.map_cons,List.cons.injEq] at h;exact congr (congrArg List.cons (O.g_inj h.1)) (c3b h.2)
theorem d1q {x y:O} {vs:List V} (h:l8 [.a x.g] vs) (k:l8 [.a y.g] vs):x=y:=by
 cases h with | cons _ _ v _ h _=>cases k with | cons _ _ _ _ k _=>exact O.g_inj (h.a_inj k)
theorem d2z {x y x' y':O} {vs:List V} (h:l8 [.a x.g,.a x'.g] vs) (k:l8 [.a y.g,.a y'.g] vs):x=y∧x'=y':=by
 cases h with | cons _ _ v _ h h'=>cases k with | cons _ _ _ _ k k'=>exact ⟨O.g_inj (h.a_inj k),d1q h' k'⟩
end
end Go.Proofs.YtffaodopiifbkaaGreatDoor
namespace Go.Proofs.YtffaodopiifbkaaGreatDoor
open Go.Abs LQ
structure Tr (p q:Prop):Prop where
 go:q→p
theorem Tr.refl {p:Prop}:Tr p p:=⟨id⟩
theorem Tr.b {p p' q:Prop} (f:p'→p) (h:Tr p' q):Tr p q:=⟨fun k=>f (h.go k)⟩
theorem Tr.all {α:Sort _} {p q:α→Prop} (h:∀ x,Tr (p x) (q x)):Tr (∀ x,p x) (∀ x,q x):=⟨fun k x=>(h x).go (k x)⟩
theorem Tr.chk {U:t6} {P:E6→List Bx→Prop} {b:Bool} {p q:Prop} {x:Om} (ht:I9 U b p) (hp:p) (h:Tr (j3 U x P) q):Tr (j3 U (U.chk b x) P) q:=⟨fun k=>d0p ht hp (h.go k)⟩
theorem Tr.cnd {U:t6} {P:E6→List Bx→Prop} {b:Bool} {p:Prop} {q1:p→Prop} {q2:¬p→Prop} {x y:Om} (ht:I9 U b p) (h:∀ a,Tr (j3 U x P) (q1 a)) (k:∀ a,Tr (j3 U y P) (q2 a)):Tr (j3 U (U.cnd b x y) P) ((∀ a,q1 a)∧(∀ a,q2 a)):=⟨fun g=>c9n ht (fun a=>(h a).go (g.1 a)) (fun a=>(k a).go (g.2 a))⟩
theorem Zx {p q:Prop} (k:q) (h:Tr p q:=by ((repeat' (first | (with_reducible apply Tr.all) | (with_reducible intro _) | (apply Tr.b;(case f=>first | exact b56 | exact a1i aS | exact c20 | exact b1w aS | exact b54 | exact a5i aS | exact b0i | exact b1z aS | exact sP | exact sPR aS | exact sIV | exact sI aS | exact sBV | exact sBK | exact sB aS | exact sSV | exact sS aS | exact sA | exact H4 aS (by rfl) | exact b8s (by rfl) | exact c5a (by rfl) | exact c1l aS (by rfl) | exact c18 aS (by rfl) | exact c8k aS | exact sSl aS | exact sTu aS | exact sBo | exact X8 aS (by rfl) | exact sBc | exact d0t aS | exact sBt | exact sBs | exact sBr | exact a1z aS | exact b6n aS | exact b5k aS (by rfl) | exact c9q aS (by rfl) | exact sCI' aS (by rfl) | exact sCB' aS (by rfl) | exact sCS aS | exact sCI aS | exact sCB aS | exact b41 (by first | omega | (simp only [List.length_map] at *;omega)) | exact b6p (by first | omega | (simp only [List.length_map] at *;omega)) | exact c09 | exact b2c | exact b1t | exact c05 | exact b58 | exact b44 | exact sfSubN | exact b15 | exact sfBSelE | exact sfB | exact sJn | exact c00 | exact c1d | exact c1n | exact D1 aS (by (first | exact w8 O.g_len | exact w8 (fun _=>rfl))) | exact b1g aS (by (first | exact w8 O.g_len | exact w8 (fun _=>rfl))) | exact c04 (by first | omega | (simp only [List.length_map] at *;omega)) | exact b5l (by first | omega | (simp only [List.length_map] at *;omega)) | exact c87 aS (by first | assumption | omega | (simp only [List.length_map] at *;omega)) | exact sfT aS (by rfl))) | (apply Tr.chk;(case ht=>(repeat' (first | exact trT | exact trF | apply a4r | apply a33 | exact a3z | exact a4o | exact a3p | exact a5t | exact a9b | exact a11 | exact a1t | exact a1c | exact a1o | exact a0j | exact a4p | exact a9u | exact a9k | exact trS | exact trV)));(case hp=>first | omega | (simp only [List.length_map] at *;omega))) | (apply Tr.cnd;(case ht=>(repeat' (first | exact trT | exact trF | apply a4r | apply a33 | exact a3z | exact a4o | exact a3p | exact a5t | exact a9b | exact a11 | exact a1t | exact a1c | exact a1o | exact a0j | exact a4p | exact a9u | exact a9k | exact trS | exact trV))))));all_goals exact Tr.refl)):p:=h.go k
theorem Zy {p q:Prop} (k:q) (h:Tr p q:=by ((repeat' (first | (with_reducible apply Tr.all) | (with_reducible intro _) | (apply Tr.b;(case f=>first | exact b56 | exact a1i aS | exact c20 | exact b1w aS | exact b54 | exact a5i aS | exact b0i | exact b1z aS | exact sP | exact sPR aS | exact sIV | exact sI aS | exact sBV | exact sBK | exact sB aS | exact sSV | exact sS aS | exact sA | exact H4 aS (by rfl) | exact b8s (by rfl) | exact c5a (by rfl) | exact c1l aS (by rfl) | exact c18 aS (by rfl) | exact c8k aS | exact sSl aS | exact sTu aS | exact sBo | exact X8 aS (by rfl) | exact sBc | exact d0t aS | exact sBt | exact sBs | exact sBr | exact a1z aS | exact b6n aS | exact b5k aS (by rfl) | exact c9q aS (by rfl) | exact sCI' aS (by rfl) | exact sCB' aS (by rfl) | exact sCS aS | exact sCI aS | exact sCB aS | exact b41 (by first | omega | (simp only [List.length_map] at *;omega)) | exact b6p (by first | omega | (simp only [List.length_map] at *;omega)) | exact c09 | exact b2c | exact b1t | exact c05 | exact b58 | exact b44 | exact sfSubN | exact b15 | exact sfBSelE | exact sfB | exact c00 | exact c1d | exact c1n | exact D1 aS (by (first | exact w8 O.g_len | exact w8 (fun _=>rfl))) | exact b1g aS (by (first | exact w8 O.g_len | exact w8 (fun _=>rfl))) | exact c04 (by first | omega | (simp only [List.length_map] at *;omega)) | exact b5l (by first | omega | (simp only [List.length_map] at *;omega)) | exact c87 aS (by first | assumption | omega | (simp only [List.length_map] at *;omega)) | exact sfT aS (by rfl))) | (apply Tr.chk;(case ht=>(repeat' (first | exact trT | exact trF | apply a4r | apply a33 | exact a3z | exact a4o | exact a3p | exact a5t | exact a9b | exact a11 | exact a1t | exact a1c | exact a1o | exact a0j | exact a4p | exact a9u | exact a9k | exact trS | exact trV)));(case hp=>first | omega | (simp only [List.length_map] at *;omega))) | (apply Tr.cnd;(case ht=>(repeat' (first | exact trT | exact trF | apply a4r | apply a33 | exact a3z | exact a4o | exact a3p | exact a5t | exact a9b | exact a11 | exact a1t | exact a1c | exact a1o | exact a0j | exact a4p | exact a9u | exact a9k | exact trS | exact trV))))));all_goals exact Tr.refl)):p:=h.go k
theorem j7 {p:Prop} (h:p:=by (repeat' (first | exact l8.nil | refine l8.cons _ _ _ _ ?_ ?_ | exact RBs.nil | assumption | exact RV.i _ _ | exact RV.b _ | exact RV.kn _ | exact RV.s _ _ _ rfl rfl | refine RV.a _ _ _ (by first | rfl | exact (O.g_len _).symm) aS | refine RV.sl _ _ _ _ _ (by first | rfl | simp) aS | refine RV.q _ _ aS | exact RV.p _ _ | exact RV.cl _ _ _ _ _ rfl (p5.nil _ _ _) | refine RV.ag _ _ ?_ | refine RV.t _ _ ?_ | refine RV.sl _ _ _ _ _ (by rfl) (p5.nil _ _ _) | exact RV.sl0 _ _ _ | refine RV.s _ _ _ (by rfl) (by rfl)))):p:=h
theorem W8 {p:Prop} (h:p:=by (repeat' (first | exact l8.nil | refine l8.cons _ _ _ _ ?_ ?_ | exact RBs.nil | assumption | exact RV.i _ _ | exact RV.b _ | exact RV.kn _ | exact RV.s _ _ _ rfl rfl | refine RV.q _ _ (x4.at aS (by rfl)) | refine RV.a _ _ _ (by first | rfl | exact (O.g_len _).symm) aS | refine RV.q _ _ aS | refine RV.cl _ _ _ _ _ rfl (p5.nil _ _ _) | refine RV.ag _ _ ?_ | refine RV.t _ _ ?_ | refine RV.s _ _ _ (by rfl) (by rfl)))):p:=h
theorem aI {a b:Prop} (left:a) (right:b):a∧b:=⟨left,right⟩
theorem oV {a:O} {x:Q} (h:x4 a.g x 0:=by assumption):RV (.a a.g) (.a x 7):=.a _ _ _ a.g_len.symm h
theorem oA {a:O} {x:Q} (h:x4 a.g x 0:=by assumption):l8 [.a a.g] [.a x 7]:=.cons _ _ _ _ (oV h) .nil
theorem oR {U:t6} {P:E6→List Bx→Prop} {a:O} {v:V} {K:Q→Om} (k:∀ q,x4 a.g q 0→j3 U (K q) P) (h:RV (.a a.g) v:=by assumption):j3 U (U.uA 7 v K) P:=H4 h a.g_len k
end Go.Proofs.YtffaodopiifbkaaGreatDoor
