/- Plain functions on texts: C6. No program in sight. -/
import Derived.Test.YtffaodopiifbkaaGreatDoorKG
set_option linter.all false
namespace LQ
abbrev f4:=List UInt8
def bt (s:f4) (k:Nat):Int:=((s.getD k 0).toNat:Int)
theorem c0n (s:f4) (k:Nat):bt s k < 256:=by unfold bt;have:=(s.getD k 0).toNat_lt;omega
theorem a5u (s:f4) (k:Nat):0≤bt s k:=by unfold bt;omega
def r8 (c:Int):Bool:=decide (33≤c∧c≤126∧c ≠ 40∧c ≠ 41∧c ≠ 39∧c ≠ 34∧c ≠ 59∧c ≠ 124∧c ≠ 58)
def F4 (c:Int):Bool:=decide (c=32∨c=9∨c=10∨c=13)
def has (s:f4) (i:Nat) (a b:Int):Bool:=decide (i+1 < s.length∧bt s i=a∧bt s (i+1)=b)

def l5 (s:f4) (i:Nat):Nat :=
 if i < s.length then if r8 (bt s i) then l5 s (i+1) else i else i
termination_by s.length - i
def K7 (s:f4) (i:Nat):Nat :=
 if i < s.length then if bt s i=10 then i else K7 s (i+1) else i
termination_by s.length - i
def C7 (s:f4) (i depth:Nat):Option Nat :=
 if depth=0 then some i
 else if i < s.length then
  if has s i 35 124 then C7 s (i+2) (depth+1)
  else if has s i 124 35 then C7 s (i+2) (depth - 1)
  else C7 s (i+1) depth
 else none
termination_by s.length - i
theorem a86 (s:f4) (i:Nat) (h:i≤s.length):i≤K7 s i∧K7 s i≤s.length:=by
 fun_induction K7 s i <;> omega
theorem F3 (s:f4) (i:Nat) (h:i≤s.length):i≤l5 s i∧l5 s i≤s.length:=by
 fun_induction l5 s i <;> omega
theorem W6 {s:f4} {i:Nat} {a b:Int} (h:has s i a b=true):i+1 < s.length:=by simp [has] at h;exact h.1
theorem b1g (s:f4) (i depth j:Nat) (hi:i≤s.length) (h:C7 s i depth=some j):i≤j∧j≤s.length:=by
 fun_induction C7 s i depth
 ·simp at h;omega
 ·rename_i hh ih;have:=W6 hh;have:=ih oM h;omega
 ·rename_i hh ih;have:=W6 hh;have:=ih oM h;omega
 ·rename_i ih;have:=ih oM h;omega
 ·simp at h
def skip (s:f4) (i:Nat):Option Nat :=
 if i < s.length then
  if F4 (bt s i) then skip s (i+1)
  else if bt s i=59 then (if i < K7 s i then skip s (K7 s i) else some i)
  else if has s i 35 124 then
   match C7 s (i+2) 1 with
   | none=>none
   | some j=>if i < j then skip s j else some i
  else some i
 else some i
termination_by s.length - i
theorem b5k (s:f4) (i:Nat) (h:i < s.length) (hb:bt s i ≠ 10):i < K7 s i:=by
 rw [K7,if_pos h,if_neg hb];have:=a86 s (i+1) oM;omega

def P8 (c:Int):Bool:=decide (48≤c∧c≤57)
def j8 (s:f4) (k:Nat):Nat :=
 if k < s.length then if P8 (bt s k) then j8 s (k+1) else k else k
termination_by s.length - k
theorem d14 (s:f4) (i:Nat) (h:i≤s.length):i≤j8 s i∧j8 s i≤s.length:=by
 fun_induction j8 s i <;> omega
def z7 (s:f4) (k:Nat):Nat :=
 if k < s.length then if bt s k=48 then z7 s (k+1) else k else k
termination_by s.length - k
theorem a77 (s:f4) (i:Nat) (h:i≤s.length):i≤z7 s i∧z7 s i≤s.length:=by
 fun_induction z7 s i <;> omega
def g7 (s:f4):Nat:=if 0 < s.length∧bt s 0=45 then 1 else 0
theorem J8 (s:f4):g7 s≤s.length∧g7 s≤1:=by unfold g7;split <;> omega
def q7:f4:=[]
def P5:f4:=[49]
def u6:f4:=[48]
def m6 (s:f4):f4 × f4 × Bool :=
 let i:=g7 s
 let k:=j8 s i
 if k=i then (q7,q7,false)
 else if k=s.length then (s,P5,true)
 else if bt s k ≠ 47∨k+1=s.length then (q7,q7,false)
 else if j8 s (k+1)=s.length then (((s.take (k)).drop (0)),((s.take (s.length)).drop ((k+1))),true)
 else (q7,q7,false)
def plain (s:f4):f4 :=
 let i:=z7 s (g7 s)
 if i=s.length then u6
 else if g7 s=1 then ([45]:f4) ++ ((s.take (s.length)).drop (i))
 else ((s.take (s.length)).drop (i))
def a0w (c:Int):Bool:=decide ((97≤c∧c≤122)∨(48≤c∧c≤57)∨c=45)
def E5 (s:f4) (k:Nat):Bool:=if k < s.length then if a0w (bt s k) then E5 s (k+1) else false else true
termination_by s.length - k
def m7 (s:f4):Bool:=decide (1≤s.length∧s.length≤40∧97≤bt s 0∧bt s 0≤122) && E5 s 0
def n7 (text pkg:f4) (bars:Bool):Int :=
 if 40 < text.length then 2
 else if (bars=true∧text.length=0)∨(pkg.length ≠ 0∧m7 pkg=false) then 3 else 0
def G5 (s:f4) (c:Int) (i:Nat) (acc:List Int):Except (Int × Nat) (List Int × Nat) :=
 if i < s.length then
  if bt s i=c then .ok (acc,i+1)
  else if bt s i ≠ 92 then G5 s c (i+1) (acc ++ [bt s i])
  else if i+1 < s.length then
   if bt s (i+1) ≠ c∧bt s (i+1) ≠ 92 then .error (12,i)
   else G5 s c (i+2) (acc ++ [bt s (i+1)])
  else .error (11,s.length)
 else .error (11,s.length)
termination_by s.length - i
def w9 (s:f4):Bool :=
 decide (s=u6) || (decide (g7 s < s.length∧bt s (g7 s) ≠ 48) && decide (j8 s (g7 s)=s.length))
def t7 (s:f4) (k:Nat) (acc:Nat):Nat:=if k < s.length then t7 s (k+1) (10 * acc+(bt s k - 48).toNat) else acc
termination_by s.length - k
def f6 (s:f4):Int:=if w9 s then (if g7 s=1 then -(t7 s 1 0:Int) else (t7 s 0 0:Int)) else 0
def i7 (n:Nat):List Nat:=if h:n=0 then [] else n % 10 :: i7 (n / 10)
termination_by n
def f7 (n:Nat):f4:=if n=0 then u6 else ((i7 n).reverse.map fun d=>UInt8.ofNat (48+d))
def f8 (n:Int):f4:=if n < 0 then [45] ++ f7 n.natAbs else f7 n.natAbs
def n9 (num den:f4):f4 × f4 :=
 if f6 den=0 then (u6,P5)
 else
  let g:=Nat.gcd (f6 num).natAbs (f6 den).natAbs
  (f8 ((if (f6 num < 0)=(f6 den < 0) then 1 else -1) * (((f6 num).natAbs / g:Nat):Int)),f7 ((f6 den).natAbs / g))
def A5 (a:f4):Nat:=max 1 (i7 (f6 a).natAbs).length

structure A0 where
 kind:Int
 pos:Nat
 pkg:f4
 text:f4
 den:f4
def D7 (l:List Int):f4:=(l.map fun n=>UInt8.ofNat n.toNat)
def H5 (s:f4) (i:Nat) (pkg:f4) (k:Nat):Except (Int × Nat) (A0 × Nat) :=
 if k+2 < s.length then
  if bt s (k+2)=124 then
   match G5 s 124 (k+2+1) [] with
   | .error e=>.error e
   | .ok (l,j)=>if n7 (D7 l) pkg true=0 then .ok (⟨6,i,pkg,D7 l,q7⟩,j) else .error (n7 (D7 l) pkg true,i)
  else if r8 (bt s (k+2)) then
   let j:=l5 s (k+2)
   let t:=((s.take (j)).drop ((k+2)))
   if n7 t pkg false=0 then .ok (⟨6,i,pkg,t,q7⟩,j) else .error (n7 t pkg false,i)
  else .error (12,k+2)
 else .error (11,s.length)
def F7 (i:Nat) (t:f4) (k:Nat):Except (Int × Nat) (A0 × Nat) :=
 if t=[46] then .ok (⟨3,i,q7,q7,q7⟩,k)
 else if (m6 t).2.2 then
  if plain (m6 t).2.1=u6 then .error (12,i)
  else
   let r:=n9 (plain (m6 t).1) (plain (m6 t).2.1)
   if 100 < A5 r.1∨100 < A5 r.2 then .error (2,i) else .ok (⟨5,i,q7,r.1,r.2⟩,k)
 else if n7 t q7 false=0 then .ok (⟨6,i,q7,t,q7⟩,k) else .error (n7 t q7 false,i)
def y7 (s:f4) (i:Nat):Except (Int × Nat) (A0 × Nat) :=
 if bt s i=40 then .ok (⟨1,i,q7,q7,q7⟩,i+1)
 else if bt s i=41 then .ok (⟨2,i,q7,q7,q7⟩,i+1)
 else if bt s i=39 then .ok (⟨4,i,q7,q7,q7⟩,i+1)
 else if bt s i=34 then
  match G5 s 34 (i+1) [] with
  | .error e=>.error e
  | .ok (l,j)=>if 200 < l.length then .error (2,i) else .ok (⟨7,i,q7,D7 l,q7⟩,j)
 else if bt s i=124 then
  match G5 s 124 (i+1) [] with
  | .error e=>.error e
  | .ok (l,j)=>if n7 (D7 l) q7 true=0 then .ok (⟨6,i,q7,D7 l,q7⟩,j) else .error (n7 (D7 l) q7 true,i)
 else if r8 (bt s i) then
  if has s (l5 s i) 58 58 then H5 s i (((s.take ((l5 s i))).drop (i))) (l5 s i)
  else F7 i (((s.take ((l5 s i))).drop (i))) (l5 s i)
 else .error (12,i)
def x4 (s:f4) (i:Nat) (acc:List A0):Except (Int × Nat) (List A0) :=
 match skip s i with
 | none=>.error (11,s.length)
 | some j =>
  if j < s.length then
   match y7 s j with
   | .error e=>.error e
   | .ok (t,k)=>if i < k∧i < s.length then x4 s k (acc ++ [t]) else .error (0,0)
  else .ok (acc ++ [⟨0,s.length,q7,q7,q7⟩])
termination_by s.length - i
def C6 (s:f4):Except (Int × Nat) (List A0):=if 6000 < s.length then .error (2,0) else x4 s 0 []
theorem W7 (s:f4) (i j:Nat) (hi:i≤j) (hj:j < j8 s i):48≤bt s j∧bt s j≤57:=by
 fun_induction j8 s i with
 | case1 i h1 h2 ih =>
  by_cases h:j=i
  ·subst h;simpa [P8] using h2
  ·exact ih oM hj
 | case2=>omega
 | case3=>omega
def s9 (s:f4) (e:Nat):Nat→List Nat→List Nat
 | 0,acc=>acc
 | k+1,acc=>if e≤k then s9 s e k (acc ++ [(bt s k - 48).toNat]) else acc
def Y2 (s:f4):Bool × List Nat :=
 if w9 s=true∧s ≠ u6 then (decide (g7 s=1),s9 s (g7 s) s.length []) else (false,[])
def R0 (l:List Nat):Nat→Nat
 | 0=>0
 | n+1=>if l.getD n 0=0 then R0 l n else n+1
def D4 (l:List Nat):List Nat:=l.take (R0 l l.length)
def E3 (a b:List Nat):Nat→Int
 | 0=>0
 | k+1=>if a.getD k 0 < b.getD k 0 then -1 else if b.getD k 0 < a.getD k 0 then 1 else E3 a b k
def O6 (a b:List Nat):Int :=
 if a.length=b.length then E3 a b a.length else if a.length < b.length then -1 else 1
def H3 (a b:List Nat) (i bor:Nat):Int:=(a.getD i 0:Int) - bor - (if i < b.length then (b.getD i 0:Int) else 0)
def N4 (a b:List Nat) (i bor:Nat) (acc:List Nat):List Nat :=
 if i < a.length then
  if H3 a b i bor < 0 then N4 a b (i+1) 1 (acc ++ [(H3 a b i bor+10).toNat])
  else N4 a b (i+1) 0 (acc ++ [(H3 a b i bor).toNat])
 else acc
termination_by a.length - i
def b8a (a b:List Nat):List Nat:=D4 (N4 a b 0 0 [])
theorem c3z {s:f4} {k:Nat} (h:¬k < s.length):skip s k=some k:=by rw [skip,if_neg h]
theorem c8i {s:f4} {k:Nat} (h:k < s.length) (hb:F4 (bt s k)=true):skip s k=skip s (k+1):=by
 rw [skip,if_pos h,if_pos hb]
theorem b9m {s:f4} {k:Nat} (h:k < s.length) (hb:F4 (bt s k)=false) (h9:bt s k=59):skip s k=skip s (K7 s k):=by
 rw [skip,if_pos h,if_neg (by simp [hb]),if_pos h9,if_pos (b5k s k h oM)]
theorem a9w {s:f4} {k:Nat} (h:k < s.length) (hb:F4 (bt s k)=false) (h9:bt s k ≠ 59) (hh:has s k 35 124=false):skip s k=some k:=by
 rw [skip,if_pos h,if_neg (by simp [hb]),if_neg h9,if_neg (by simp [hh])]
theorem d7a {s:f4} {k j:Nat} (h:k < s.length) (hb:F4 (bt s k)=false) (h9:bt s k ≠ 59) (hh:has s k 35 124=true) (hc:C7 s (k+2) 1=some j):skip s k=skip s j:=by
 have:=W6 hh
 have:=b1g s (k+2) 1 j oM hc
 rw [skip,if_pos h,if_neg (by simp [hb]),if_neg h9,if_pos hh,hc];simp only [];rw [if_pos oM]
theorem d3p {s:f4} {k:Nat} (h:k < s.length) (hb:F4 (bt s k)=false) (h9:bt s k ≠ 59) (hh:has s k 35 124=true) (hc:C7 s (k+2) 1=none):skip s k=none:=by
 rw [skip,if_pos h,if_neg (by simp [hb]),if_neg h9,if_pos hh,hc]
def val:List Nat→Nat
 | []=>0
 | d :: t=>d+10 * val t
def D9 (l:List Nat):Prop:=∀ d ∈ l,d≤9
theorem u3:i7 0=[]:=by rw [i7];simp
theorem C9 {n:Nat} (h:n ≠ 0):i7 n=n % 10 :: i7 (n / 10):=by rw [i7,dif_neg h]
theorem A9 (n:Nat):val (i7 n)=n:=by
 induction n using Nat.strongRecOn with
 | _ n ih =>
  by_cases h:n=0
  ·subst h;rw [u3];rfl
  ·rw [C9 h,val,ih (n / 10) oM];omega
theorem B6 (n:Nat):D9 (i7 n):=by
 induction n using Nat.strongRecOn with
 | _ n ih =>
  by_cases h:n=0
  ·subst h;rw [u3];intro d hd;simp at hd
  ·rw [C9 h];intro d hd;simp at hd
   rcases hd with rfl | hd
   ·omega
   ·exact ih (n / 10) oM d hd
theorem b82 {d m:Nat} (hd:d≤9) (h:d ≠ 0∨m ≠ 0):i7 (d+10 * m)=d :: i7 m:=by
 rw [C9 oM];congr 1
 ·omega
 ·congr 1;omega
theorem a3n (a b:List Nat):val (a ++ b)=val a+10 ^ a.length * val b:=by
 induction a with
 | nil=>simp [val]
 | cons d t ih=>simp only [List.cons_append,val,ih,List.length_cons,Nat.pow_succ];rw [Nat.mul_add,← Nat.mul_assoc,Nat.mul_comm (10 ^ t.length) 10];omega
theorem b89 (t:List Nat) (d:Nat) (h9:D9 (t ++ [d])) (hd:d ≠ 0):i7 (val (t ++ [d]))=t ++ [d]:=by
 induction t with
 | nil =>
  have:d≤9:=h9 d (by simp)
  simp only [List.nil_append,val]
  rw [Nat.mul_zero,← Nat.mul_zero 10,b82 this (.inl hd),u3]
 | cons x t ih =>
  simp only [List.cons_append,val]
  rw [b82 (h9 x (by simp)),ih (fun y hy=>h9 y (by simp at hy ⊢;exact .inr hy))]
  refine .inr fun h0=>hd ?_
  have h2:=a3n t [d]
  rw [h0] at h2
  simp only [val] at h2
  have h3:0 < 10 ^ t.length:=Nat.pow_pos oM
  rw [Nat.mul_zero,Nat.add_zero] at h2
  have h4:10 ^ t.length * d=0:=oM
  rcases Nat.mul_eq_zero.1 h4 with h | h <;> omega
theorem d0e (l:List Nat) (h9:D9 l) (n:Nat) (hn:n≤l.length):l.take (R0 l n)=i7 (val (l.take n)):=by
 induction n with
 | zero=>simp [R0,val,u3]
 | succ n ih =>
  have hlt:n < l.length:=oM
  have htk:l.take (n+1)=l.take n ++ [l.getD n 0]:=by
   rw [List.take_succ_eq_append_getElem hlt];simp [List.getD,hlt]
  simp only [R0]
  split
  ·rename_i h0
   rw [ih oM,htk,h0,a3n]
   simp [val]
  ·rename_i h0
   rw [htk,b89 _ _ _ h0]
   intro d hd
   rw [← htk] at hd
   exact h9 d (List.mem_of_mem_take hd)
theorem a3w (l:List Nat) (h9:D9 l):D4 l=i7 (val l):=by
 unfold D4;rw [d0e l h9 l.length (Nat.le_refl _),List.take_length]
def a28:List Nat→List Nat→Nat→List Nat
 | [],_,_=>[]
 | x :: a,b,bor =>
  if (x:Int) - bor - (b.headD 0:Int) < 0 then ((x:Int) - bor - (b.headD 0:Int)+10).toNat :: a28 a b.tail 1
  else ((x:Int) - bor - (b.headD 0:Int)).toNat :: a28 a b.tail 0
theorem b2x (a b:List Nat) (i bor:Nat):H3 a b i bor=(a.getD i 0:Int) - bor - ((b.drop i).headD 0:Int):=by
 unfold H3
 rcases Nat.lt_or_ge i b.length with h | h
 ·rw [if_pos h,List.drop_eq_getElem_cons h];simp [List.getD,h]
 ·rw [if_neg oM,List.drop_eq_nil_of_le h];simp
theorem d0s (a b:List Nat) (i bor:Nat) (acc:List Nat) (hi:i≤a.length):N4 a b i bor acc=acc ++ a28 (a.drop i) (b.drop i) bor:=by
 fun_induction N4 a b i bor acc with
 | case1 i bor acc h1 h2 ih =>
  rw [ih oM,List.drop_eq_getElem_cons h1,a28]
  rw [b2x] at h2 ⊢
  simp only [List.getD,List.getElem?_eq_getElem h1,Option.getD_some] at h2 ⊢
  rw [if_pos h2];simp
 | case2 i bor acc h1 h2 ih =>
  rw [ih oM,List.drop_eq_getElem_cons h1,a28]
  rw [b2x] at h2 ⊢
  simp only [List.getD,List.getElem?_eq_getElem h1,Option.getD_some] at h2 ⊢
  rw [if_neg h2];simp
 | case3 i bor acc h1 =>
  rw [List.drop_eq_nil_of_le oM];simp [a28]
theorem d6o (b:List Nat):val b=b.headD 0+10 * val b.tail:=by cases b <;> simp [val]
theorem d5a (a b:List Nat) (bor:Nat) (ha:D9 a) (hb:D9 b) (hbor:bor≤1) (h:val b+bor≤val a):val (a28 a b bor)+val b+bor=val a:=by
 induction a generalizing b bor with
 | nil=>simp [val] at h;simp [a28,val];omega
 | cons x a ih =>
  have hx:x≤9:=ha x (by simp)
  have ha':D9 a:=fun d hd=>ha d (by simp [hd])
  have hb':D9 b.tail:=fun d hd=>hb d (List.mem_of_mem_tail hd)
  have hy:b.headD 0≤9:=by
   cases b with
   | nil=>simp
   | cons y t=>exact hb y (by simp)
  have hvb:=d6o b
  simp only [val] at h
  simp only [a28]
  split
  ·rename_i hz
   have:=ih b.tail 1 ha' hb' oM oM
   simp only [val]
   omega
  ·rename_i hz
   have:=ih b.tail 0 ha' hb' oM oM
   simp only [val]
   omega
theorem e1u (a b:List Nat) (bor:Nat) (ha:D9 a) (hb:D9 b) (hbor:bor≤1):D9 (a28 a b bor):=by
 induction a generalizing b bor with
 | nil=>intro d hd;simp [a28] at hd
 | cons x a ih =>
  have hx:x≤9:=ha x (by simp)
  have ha':D9 a:=fun d hd=>ha d (by simp [hd])
  have hb':D9 b.tail:=fun d hd=>hb d (List.mem_of_mem_tail hd)
  simp only [a28]
  split
  ·rename_i hz;intro d hd
   rcases List.mem_cons.1 hd with rfl | hd
   ·omega
   ·exact ih b.tail 1 ha' hb' oM d hd
  ·rename_i hz;intro d hd
   rcases List.mem_cons.1 hd with rfl | hd
   ·omega
   ·exact ih b.tail 0 ha' hb' oM d hd
theorem d2i (x y:Nat) (h:y≤x):b8a (i7 x) (i7 y)=i7 (x - y):=by
 unfold b8a
 rw [d0s _ _ _ _ _ (Nat.zero_le _)]
 simp only [List.nil_append,List.drop_zero]
 rw [a3w _ (e1u _ _ _ (B6 x) (B6 y) oM)]
 have:=d5a (i7 x) (i7 y) 0 (B6 x) (B6 y) oM (by rw [A9,A9];omega)
 rw [A9,A9] at this
 congr 1;omega
theorem a1h (l:List Nat) (h9:D9 l):val l < 10 ^ l.length:=by
 induction l with
 | nil=>simp [val]
 | cons d t ih =>
  have h1:=ih (fun x hx=>h9 x (by simp [hx]))
  have h2:d≤9:=h9 d (by simp)
  simp only [val,List.length_cons,Nat.pow_succ]
  omega
theorem a7q (n:Nat) (h:n ≠ 0):10 ^ ((i7 n).length - 1)≤n:=by
 induction n using Nat.strongRecOn with
 | _ n ih =>
  rw [C9 h]
  simp only [List.length_cons,Nat.add_sub_cancel]
  by_cases h1:n / 10=0
  ·rw [h1,u3];simp;omega
  ·have:=ih (n / 10) oM h1
   have h2:(i7 (n / 10)).length ≠ 0:=by rw [C9 h1];simp
   have h3:10 ^ (i7 (n / 10)).length=10 * 10 ^ ((i7 (n / 10)).length - 1):=by
    rw [← Nat.pow_succ'];congr 1;omega
   omega
theorem c43 (a b:List Nat) (ha:D9 a) (hb:D9 b) (n:Nat) (hna:n≤a.length) (hnb:n≤b.length) :
  E3 a b n=if val (a.take n) < val (b.take n) then -1 else if val (b.take n) < val (a.take n) then 1 else 0:=by
 induction n with
 | zero=>simp [E3,val]
 | succ n ih =>
  have hla:n < a.length:=oM
  have hlb:n < b.length:=oM
  have e1:a.take (n+1)=a.take n ++ [a.getD n 0]:=by rw [List.take_succ_eq_append_getElem hla];simp [List.getD,hla]
  have e2:b.take (n+1)=b.take n ++ [b.getD n 0]:=by rw [List.take_succ_eq_append_getElem hlb];simp [List.getD,hlb]
  have v1:=a3n (a.take n) [a.getD n 0]
  have v2:=a3n (b.take n) [b.getD n 0]
  have l1:(a.take n).length=n:=by simp;omega
  have l2:(b.take n).length=n:=by simp;omega
  have b1:=a1h (a.take n) (fun d hd=>ha d (List.mem_of_mem_take hd))
  have b2:=a1h (b.take n) (fun d hd=>hb d (List.mem_of_mem_take hd))
  rw [l1] at v1 b1
  rw [l2] at v2 b2
  simp only [val,Nat.mul_zero,Nat.add_zero] at v1 v2
  rw [e1,e2,v1,v2]
  simp only [E3]
  rw [ih oM oM]
  generalize a.getD n 0=x at *
  generalize b.getD n 0=y at *
  generalize val (a.take n)=p at *
  generalize val (b.take n)=q at *
  generalize 10 ^ n=P at *
  by_cases h1:x < y
  ·have:P * (x+1)≤P * y:=Nat.mul_le_mul_left P h1
   rw [Nat.mul_add,Nat.mul_one] at this
   rw [if_pos h1,if_pos oM]
  ·rw [if_neg h1]
   by_cases h2:y < x
   ·have:P * (y+1)≤P * x:=Nat.mul_le_mul_left P h2
    rw [Nat.mul_add,Nat.mul_one] at this
    rw [if_pos h2,if_neg oM,if_pos oM]
   ·rw [if_neg h2]
    have h3:x=y:=oM
    subst h3
    simp only [Nat.add_lt_add_iff_right]
theorem d1i (x y:Nat):O6 (i7 x) (i7 y)=if x < y then -1 else if y < x then 1 else 0:=by
 unfold O6
 split
 ·rename_i h
  rw [c43 _ _ (B6 x) (B6 y) _ (Nat.le_refl _) oM,List.take_length,h,List.take_length,A9,A9]
 ·rename_i h
  have b1:=a1h (i7 x) (B6 x)
  have b2:=a1h (i7 y) (B6 y)
  rw [A9] at b1 b2
  split
  ·rename_i h2
   have hy:y ≠ 0:=by intro e;rw [e,u3] at h2;simp at h2
   have g2:=a7q y hy
   have:10 ^ (i7 x).length≤10 ^ ((i7 y).length - 1):=Nat.pow_le_pow_right oM oM
   rw [if_pos oM]
  ·rename_i h2
   have hx:x ≠ 0:=by intro e;rw [e,u3] at h h2;simp only [List.length_nil] at h h2;omega
   have g1:=a7q x hx
   have:10 ^ (i7 y).length≤10 ^ ((i7 x).length - 1):=Nat.pow_le_pow_right oM oM
   rw [if_neg oM,if_pos oM]

theorem c5u (s:f4) (e:Nat) (k:Nat) (acc:List Nat):s9 s e k acc=acc ++ s9 s e k []:=by
 induction k generalizing acc with
 | zero=>simp [s9]
 | succ k ih =>
  simp only [s9]
  split
  ·rw [ih (acc ++ _),ih ([] ++ _)];simp
  ·simp
theorem c5k (s:f4) (k acc:Nat) (hk:k≤s.length):t7 s k acc=acc * 10 ^ (s.length - k)+t7 s k 0:=by
 generalize hm:s.length - k=m
 induction m generalizing k acc with
 | zero=>rw [t7,if_neg oM,t7,if_neg oM];simp
 | succ m ih =>
  rw [t7,if_pos oM,t7.eq_def s k 0,if_pos oM,ih (k+1) _ oM oM,ih (k+1) (10 * 0+_) oM oM,Nat.pow_succ]
  rw [Nat.mul_zero,Nat.zero_add,Nat.add_mul,Nat.mul_comm 10 acc,Nat.mul_assoc,Nat.mul_comm 10 (10 ^ m)]
  omega
theorem a5g (s:f4) (e k:Nat) (h:e≤k):s9 s e (k+1) []=(bt s k - 48).toNat :: s9 s e k []:=by
 rw [s9,if_pos h,c5u];simp
theorem c7z (s:f4) (e:Nat):s9 s e e []=[]:=by
 cases e with
 | zero=>rfl
 | succ e=>rw [s9,if_neg oM]
theorem c42 (s:f4) (e k:Nat) (he:e≤k) (hk:k≤s.length):t7 s e 0=t7 s k (val (s9 s e k [])):=by
 induction k with
 | zero=>obtain rfl:e=0:=oM
         rfl
 | succ k ih =>
  by_cases h:e=k+1
  ·subst h;rw [c7z];rfl
  ·rw [ih oM oM,a5g s e k oM,t7,if_pos oM]
   congr 1
   simp only [val];omega
theorem b2n (s:f4) (e:Nat) (he:e≤s.length):t7 s e 0=val (s9 s e s.length []):=by
 rw [c42 s e s.length he (Nat.le_refl _),t7,if_neg oM]
theorem c4c (s:f4) (e k:Nat) (h:e < k):∃ t,s9 s e k []=t ++ [(bt s e - 48).toNat]:=by
 induction k with
 | zero=>omega
 | succ k ih =>
  rw [a5g s e k oM]
  by_cases hk:e=k
  ·subst hk;exact ⟨[],by rw [c7z];rfl⟩
  ·obtain ⟨t,ht⟩:=ih oM
   exact ⟨_ :: t,by rw [ht];rfl⟩
theorem f0a (s:f4) (e k:Nat) (h:∀ j,e≤j→j < k→48≤bt s j∧bt s j≤57):D9 (s9 s e k []):=by
 induction k with
 | zero=>intro d hd;simp [s9] at hd
 | succ k ih =>
  by_cases he:e≤k
  ·rw [a5g s e k he]
   intro d hd
   rcases List.mem_cons.1 hd with rfl | hd
   ·have:=h k he oM;omega
   ·exact ih (fun j h1 h2=>h j h1 oM) d hd
  ·rw [s9,if_neg he];intro d hd;simp at hd
theorem a6p:f6 u6=0:=by
 have h1:g7 u6=0:=dE
 have h2:t7 u6 0 0=0:=by rw [t7,if_pos dE,t7,if_neg dE];decide
 unfold f6
 rw [h1,h2];simp
theorem b1y (s:f4):Y2 s=(decide (f6 s < 0),i7 (f6 s).natAbs):=by
 unfold Y2
 split
 ·rename_i h
  obtain ⟨h1,h2⟩:=h
  have h3:g7 s < s.length∧bt s (g7 s) ≠ 48∧j8 s (g7 s)=s.length:=by
   simp [w9,h2] at h1;exact ⟨h1.1.1,h1.1.2,h1.2⟩
  have hall:∀ j,g7 s≤j→j < s.length→48≤bt s j∧bt s j≤57:=fun j a b=>W7 s (g7 s) j a oM
  have h9:=f0a s (g7 s) s.length hall
  obtain ⟨t,ht⟩:=c4c s (g7 s) s.length h3.1
  have hd0:(bt s (g7 s) - 48).toNat ≠ 0:=by have:=hall (g7 s) (Nat.le_refl _) h3.1;omega
  have hcan:i7 (val (s9 s (g7 s) s.length []))=s9 s (g7 s) s.length []:=by
   rw [ht] at h9 ⊢;exact b89 t _ h9 hd0
  have hv:=b2n s (g7 s) oM
  have hpos:0 < t7 s (g7 s) 0:=by
   rcases Nat.eq_zero_or_pos (t7 s (g7 s) 0) with h | h
   ·rw [← hv,h,u3] at hcan;rw [ht] at hcan;simp at hcan
   ·exact h
  unfold f6
  rw [if_pos h1]
  have hs1:=J8 s
  by_cases hsg:g7 s=1
  ·rw [if_pos hsg]
   rw [hsg] at hcan hv hpos ⊢
   rw [hv,Int.natAbs_neg,Int.natAbs_natCast,hcan]
   congr 1
   rw [← hv];simp;omega
  ·have hs0:g7 s=0:=oM
   rw [if_neg hsg]
   rw [hs0] at hcan hv hpos ⊢
   rw [hv,Int.natAbs_natCast,hcan]
   congr 1
 ·rename_i h
  have:f6 s=0:=by
   by_cases h1:w9 s=true
   ·have:s=u6:=by
     by_cases h2:s=u6
     ·exact h2
     ·exact absurd ⟨h1,h2⟩ h
    rw [this];exact a6p
   ·unfold f6;rw [if_neg h1]
  rw [this];simp [u3]
theorem d1s (X a y:Nat) (hy:0 < y):(a+10 * X) / y=(a+10 * (X % y)) / y+10 * (X / y)∧(a+10 * X) % y=(a+10 * (X % y)) % y:=by
 have h:=Nat.div_add_mod X y
 have e:a+10 * X=(a+10 * (X % y))+y * (10 * (X / y)):=by
  have:y * (10 * (X / y))=10 * (y * (X / y)):=by rw [Nat.mul_left_comm]
  rw [this];omega
 rw [e]
 exact ⟨by rw [Nat.add_mul_div_left _ _ hy],by rw [Nat.add_mul_mod_self_left]⟩
theorem c94 (R t y:Nat) (hy:0 < y) (h1:t * y≤R) (h2:R - t * y < y):R / y=t∧R % y=R - t * y:=by
 have e:R=(R - t * y)+y * t:=by rw [Nat.mul_comm y t];omega
 constructor
 ·rw [e,Nat.add_mul_div_left _ _ hy,Nat.div_eq_of_lt h2];omega
 ·have:R % y=((R - t * y)+y * t) % y:=by rw [← e]
  rw [this,Nat.add_mul_mod_self_left,Nat.mod_eq_of_lt h2]
theorem d1j (x k:Nat) (h:k < (i7 x).length):val ((i7 x).drop k)=(i7 x).getD k 0+10 * val ((i7 x).drop (k+1)):=by
 rw [List.drop_eq_getElem_cons h];simp [val,List.getD,h]
theorem b66 (a r:Nat) (ha:a≤9):D4 (a :: i7 r)=i7 (a+10 * r):=by
 rw [a3w]
 ·simp only [val,A9]
 ·intro d hd
  rcases List.mem_cons.1 hd with rfl | hd
  ·exact ha
  ·exact B6 r d hd
theorem a1g (n k:Nat) (h:n ≠ 0) (hk:k < (i7 n).length):bt (f7 n) k=48+((i7 n).getD ((i7 n).length - 1 - k) 0:Int):=by
 have hs:(f7 n).length=(i7 n).length:=by unfold f7;rw [if_neg h];simp
 have hbt:bt (f7 n) k=(((f7 n)[k]'oM).toNat:Int):=by unfold bt;simp [List.getD,List.getElem?_eq_getElem (show k < (f7 n).length by omega)]
 rw [hbt]
 have h9:(i7 n).getD ((i7 n).length - 1 - k) 0≤9:=by
  have hlt:(i7 n).length - 1 - k < (i7 n).length:=oM
  simp only [List.getD,List.getElem?_eq_getElem hlt,Option.getD_some]
  exact B6 n _ (List.getElem_mem hlt)
 have:(f7 n)[k]'oM=UInt8.ofNat (48+(i7 n).getD ((i7 n).length - 1 - k) 0):=by
  have e:f7 n=((i7 n).reverse.map fun d=>UInt8.ofNat (48+d)):=by unfold f7;rw [if_neg h]
  simp only [e]
  simp [List.getD,show (i7 n).length - 1 - k < (i7 n).length by omega]
 rw [this]
 simp only [UInt8.toNat_ofNat']
 omega

theorem N9 (n:Nat) (h:n ≠ 0):(f7 n).length=(i7 n).length:=by unfold f7;rw [if_neg h];simp
theorem b8y (n:Nat) (h:n ≠ 0):(i7 n).getD ((i7 n).length - 1) 0 ≠ 0:=by
 induction n using Nat.strongRecOn with
 | _ n ih =>
  rw [C9 h]
  by_cases h1:n / 10=0
  ·rw [h1,u3];simp;omega
  ·have:=ih (n / 10) oM h1
   have h2:(i7 (n / 10)).length ≠ 0:=by rw [C9 h1];simp
   obtain ⟨m,hm⟩:∃ m,(i7 (n / 10)).length=m+1:=⟨_,(Nat.succ_pred h2).symm⟩
   rw [hm] at this
   simp only [List.length_cons,hm,Nat.add_sub_cancel]
   simpa [List.getD] using this
theorem P9 (s:f4) (i:Nat) (hi:i≤s.length) (h:∀ j,i≤j→j < s.length→48≤bt s j∧bt s j≤57):j8 s i=s.length:=by
 fun_induction j8 s i with
 | case1 i h1 h2 ih=>exact ih oM (fun j a b=>h j oM b)
 | case2 i h1 h2=>exact absurd (by have:=h i (Nat.le_refl _) h1;simp [P8];omega) h2
 | case3 i h1=>omega
theorem d8u (n k:Nat) (h:n ≠ 0) (hk:k≤(i7 n).length):s9 (f7 n) 0 k []=(i7 n).drop ((i7 n).length - k):=by
 induction k with
 | zero=>simp [s9]
 | succ k ih =>
  rw [a5g _ _ _ (Nat.zero_le _),ih oM,a1g n k h oM]
  have hlt:(i7 n).length - (k+1) < (i7 n).length:=oM
  rw [List.drop_eq_getElem_cons hlt]
  congr 1
  ·simp only [List.getD,show (i7 n).length - 1 - k=(i7 n).length - (k+1) by omega,List.getElem?_eq_getElem hlt,Option.getD_some];omega
  ·congr 1;omega
theorem y9 (n:Nat):f6 (f7 n)=n:=by
 by_cases h:n=0
 ·subst h;exact a6p
 ·have hs:=N9 n h
  have hl:(i7 n).length ≠ 0:=by rw [C9 h];simp
  have hall:∀ j,0≤j→j < (f7 n).length→48≤bt (f7 n) j∧bt (f7 n) j≤57:=by
   intro j _ hj
   rw [a1g n j h oM]
   have hlt:(i7 n).length - 1 - j < (i7 n).length:=oM
   have:=B6 n ((i7 n)[(i7 n).length - 1 - j]) (List.getElem_mem hlt)
   simp only [List.getD,List.getElem?_eq_getElem hlt,Option.getD_some]
   omega
  have h0:=hall 0 (Nat.le_refl _) oM
  have hsg:g7 (f7 n)=0:=by unfold g7;rw [if_neg oM]
  have hb0:bt (f7 n) 0 ≠ 48:=by
   rw [a1g n 0 h oM]
   have:=b8y n h
   rw [Nat.sub_zero]
   omega
  have hok:w9 (f7 n)=true:=by
   unfold w9
   rw [hsg,P9 _ 0 (Nat.zero_le _) hall]
   simp [hb0];right;omega
  unfold f6
  rw [if_pos hok,hsg,if_neg oM,b2n _ 0 (Nat.zero_le _),hs,d8u n _ h (Nat.le_refl _),Nat.sub_self,List.drop_zero,A9]
theorem X4 (c:UInt8) (s:f4) (k:Nat):bt (c :: s) (k+1)=bt s k:=by simp [bt]
theorem c20 (c:UInt8) (s:f4) (k acc:Nat):t7 (c :: s) (k+1) acc=t7 s k acc:=by
 fun_induction t7 s k acc with
 | case1 k acc h ih=>rw [t7,if_pos (by simp;omega),X4,ih]
 | case2 k acc h=>rw [t7,if_neg (by simp;omega)]
theorem b2p (c:UInt8) (s:f4) (k:Nat):j8 (c :: s) (k+1)=j8 s k+1:=by
 fun_induction j8 s k with
 | case1 k h1 h2 ih=>rw [j8,if_pos (by simp;omega),X4,if_pos h2,ih]
 | case2 k h1 h2=>rw [j8,if_pos (by simp;omega),X4,if_neg h2]
 | case3 k h=>rw [j8,if_neg (by simp;omega)]
theorem Z3 (n:Nat) (h:n ≠ 0):(∀ j,0≤j→j < (f7 n).length→48≤bt (f7 n) j∧bt (f7 n) j≤57)∧bt (f7 n) 0 ≠ 48∧0 < (f7 n).length:=by
 have hs:=N9 n h
 have hl:(i7 n).length ≠ 0:=by rw [C9 h];simp
 refine ⟨?_,?_,oM⟩
 ·intro j _ hj
  rw [a1g n j h oM]
  have hlt:(i7 n).length - 1 - j < (i7 n).length:=oM
  have:=B6 n ((i7 n)[(i7 n).length - 1 - j]) (List.getElem_mem hlt)
  simp only [List.getD,List.getElem?_eq_getElem hlt,Option.getD_some]
  omega
 ·rw [a1g n 0 h oM]
  have:=b8y n h
  rw [Nat.sub_zero]
  omega
theorem c8v (n:Nat) (h:n ≠ 0):f6 (45 :: f7 n)=-(n:Int):=by
 obtain ⟨h1,h2,h3⟩:=Z3 n h
 have hsg:g7 (45 :: f7 n)=1:=by unfold g7;rw [if_pos];exact ⟨by simp,rfl⟩
 have hsg0:g7 (f7 n)=0:=by unfold g7;rw [if_neg];have:=h1 0 (Nat.le_refl _) h3;omega
 have hok:w9 (45 :: f7 n)=true:=by
  unfold w9
  rw [hsg,show (1:Nat)=0+1 from rfl,b2p,X4,P9 _ 0 (Nat.zero_le _) h1]
  simp [h2];right;omega
 have hv:=y9 n
 have hok0:w9 (f7 n)=true:=by
  unfold w9
  rw [hsg0,P9 _ 0 (Nat.zero_le _) h1]
  simp [h2];right;omega
 unfold f6 at hv
 rw [if_pos hok0,hsg0,if_neg oM] at hv
 unfold f6
 rw [if_pos hok,hsg,if_pos rfl,show (1:Nat)=0+1 from rfl,c20,hv]
theorem o8 (n:Int):f6 (f8 n)=n:=by
 unfold f8
 split
 ·rename_i h
  show f6 (45 :: f7 n.natAbs)=n
  rw [c8v _ oM];omega
 ·rw [y9];omega
theorem Y4 {a b:Int} (h:f8 a=f8 b):a=b:=by rw [← o8 a,h,o8]
theorem a2h {a b:Nat} (h:f7 a=f7 b):a=b:=by
 have:=congrArg f6 h
 rw [y9,y9] at this
 omega
end LQ
namespace Go.Proofs.YtffaodopiifbkaaGreatDoor
open Go.Abs LQ
noncomputable section
abbrev Sy:=f4 × f4
inductive O where
 | num (n:Int) (d:Nat)
 | sy (s:Sy)
 | tx (s:f4)
 | co (a d:O)
 | no
namespace O
def k:O→Int
 | num _ _=>1
 | sy _=>2
 | tx _=>3
 | co _ _=>4
 | no=>0
def nu:O→f4
 | num n _=>f8 n
 | _=>[]
def de:O→f4
 | num _ d=>f7 d
 | _=>[]
def sym:O→Sy
 | sy s=>s
 | _=>([],[])
def txt:O→f4
 | tx s=>s
 | _=>[]
def ps:O→List O
 | co a d=>[a,d]
 | _=>[]
def g:O→List G
 | num n d=>[.i .i64 1,.s (f8 n),.s (f7 d),.s [],.s [],.s [],.l []]
 | sy s=>[.i .i64 2,.s [],.s [],.s s.1,.s s.2,.s [],.l []]
 | tx s=>[.i .i64 3,.s [],.s [],.s [],.s [],.s s,.l []]
 | co a d=>[.i .i64 4,.s [],.s [],.s [],.s [],.s [],.l [a.g,d.g]]
 | no=>[.i .i64 0,.s [],.s [],.s [],.s [],.s [],.l []]
theorem g_eq (a:O):a.g=[.i .i64 a.k,.s a.nu,.s a.de,.s a.sym.1,.s a.sym.2,.s a.txt,.l (a.ps.map O.g)]:=by cases a <;> rfl
theorem g_len (a:O):a.g.length=7:=by cases a <;> rfl
theorem ps_le (a:O):a.ps.length≤2:=by cases a <;> simp [ps]
theorem ps_fuel (a:O):a.ps.length - 0 < v8:=by cases a <;> simp [ps,v8]
theorem ext {a b:O} (h1:a.k=b.k) (h2:a.nu=b.nu) (h3:a.de=b.de) (h4:a.sym=b.sym) (h5:a.txt=b.txt) (h6:a.ps=b.ps):a=b:=by
 cases a <;> cases b <;> simp_all [k,nu,de,sym,txt,ps]
 exact ⟨Y4 h2,a2h h3⟩
theorem g_inj:∀ {a b:O},a.g=b.g→a=b:=by
 intro a
 induction a with
 | num n d=>intro b h;cases b <;> simp only [g,List.cons.injEq,G.s.injEq,G.i.injEq,reduceCtorEq,and_true,true_and,false_and,and_false,Int.reduceEq] at h;exact (congrArg (O.num · _) (Y4 h.1)).trans (congrArg (O.num _) (a2h h.2))
 | sy s=>intro b h;cases b <;> simp [g] at h;exact congrArg O.sy (Prod.ext h.1 h.2)
 | tx s=>intro b h;cases b <;> simp [g] at h;rw [h]
 | co a d iha ihd=>intro b h;cases b <;> simp [g] at h;rw [iha h.1,ihd h.2]
 | no=>intro b h;cases b <;> simp [g] at h;rfl
open Classical in
def eqb (a b:O):Bool:=decide (a=b)
theorem eqb_t {a b:O}:eqb a b=true↔a=b:=by unfold eqb;simp
theorem eqb_f {a b:O}:eqb a b=false↔¬a=b:=by unfold eqb;simp
def size:O→Nat
 | co a d=>1+a.size+d.size
 | _=>1
theorem size_pos (a:O):0 < a.size:=by cases a <;> simp [size] <;> omega
theorem ps_size (a:O):∀ x ∈ a.ps,x.size < a.size:=by cases a <;> simp [ps,size] <;> omega
end O
theorem c39:∀ {l m:List O},l.map O.g=m.map O.g→l=m
 | [],[],_=>rfl
 | [],_ :: _,h=>by simp at h
 | _ :: _,[],h=>by simp at h
 | a :: l,b :: m,h=>by simp only [List.map_cons,List.cons.injEq] at h;exact congr (congrArg List.cons (O.g_inj h.1)) (c39 h.2)
theorem b4y {x y:O} {vs:List V} (h:j6 [.a x.g] vs) (k:j6 [.a y.g] vs):x=y:=by
 cases h with | cons _ _ v _ h _=>cases k with | cons _ _ _ _ k _=>exact O.g_inj (h.a_inj k)
theorem c28 {x y x' y':O} {vs:List V} (h:j6 [.a x.g,.a x'.g] vs) (k:j6 [.a y.g,.a y'.g] vs):x=y∧x'=y':=by
 cases h with | cons _ _ v _ h h'=>cases k with | cons _ _ _ _ k k'=>exact ⟨O.g_inj (h.a_inj k),b4y h' k'⟩
end
end Go.Proofs.YtffaodopiifbkaaGreatDoor
namespace Go.Proofs.YtffaodopiifbkaaGreatDoor
open Go.Abs LQ
structure Tr (p q:Prop):Prop where
 go:q→p
theorem Tr.refl {p:Prop}:Tr p p:=⟨id⟩
theorem Tr.b {p p' q:Prop} (f:p'→p) (h:Tr p' q):Tr p q:=⟨fun k=>f (h.go k)⟩
theorem Tr.all {α:Sort _} {p q:α→Prop} (h:∀ x,Tr (p x) (q x)):Tr (∀ x,p x) (∀ x,q x):=⟨fun k x=>(h x).go (k x)⟩
theorem Tr.chk {U:q8} {P:H6→List Bx→Prop} {b:Bool} {p q:Prop} {x:Om} (ht:H8 U b p) (hp:p) (h:Tr (g8 U x P) q):Tr (g8 U (U.chk b x) P) q:=⟨fun k=>d9u ht hp (h.go k)⟩
theorem Tr.cnd {U:q8} {P:H6→List Bx→Prop} {b:Bool} {p:Prop} {q1:p→Prop} {q2:¬p→Prop} {x y:Om} (ht:H8 U b p) (h:∀ a,Tr (g8 U x P) (q1 a)) (k:∀ a,Tr (g8 U y P) (q2 a)):Tr (g8 U (U.cnd b x y) P) ((∀ a,q1 a)∧(∀ a,q2 a)):=⟨fun g=>b31 ht (fun a=>(h a).go (g.1 a)) (fun a=>(k a).go (g.2 a))⟩
theorem Zx {p q:Prop} (k:q) (h:Tr p q:=by ((repeat' (first | (with_reducible apply Tr.all) | (with_reducible intro _) | (apply Tr.b;(case f=>first | exact b6k | exact W2 aS | exact c2d | exact b48 aS | exact b4m | exact a7t aS | exact a9z | exact b2g aS | exact sP | exact sPR aS | exact sIV | exact sI aS | exact sBV | exact sBK | exact sB aS | exact sSV | exact sS aS | exact sA | exact N2 aS (by rfl) | exact b71 (by rfl) | exact c4g (by rfl) | exact c1a aS (by rfl) | exact c26 aS (by rfl) | exact c91 aS | exact sSl aS | exact sTu aS | exact sBo | exact a97 aS (by rfl) | exact sBc | exact c82 aS | exact sBt | exact sBs | exact sBr | exact a7o aS | exact b5g aS | exact b4k aS (by rfl) | exact c83 aS (by rfl) | exact sCI' aS (by rfl) | exact sCB' aS (by rfl) | exact sCS aS | exact sCI aS | exact sCB aS | exact b5v (by first | omega | (simp only [List.length_map] at *;omega)) | exact b6w (by first | omega | (simp only [List.length_map] at *;omega)) | exact c0v | exact b18 | exact b1s | exact c0r | exact b47 | exact b5c | exact sfSubN | exact b10 | exact sfBSelE | exact sfB | exact sJn | exact c09 | exact c04 | exact c01 | exact C0 aS (by (first | exact u2 O.g_len | exact u2 (fun _=>rfl))) | exact b0x aS (by (first | exact u2 O.g_len | exact u2 (fun _=>rfl))) | exact c02 (by first | omega | (simp only [List.length_map] at *;omega)) | exact b4n (by first | omega | (simp only [List.length_map] at *;omega)) | exact d0r aS (by first | assumption | omega | (simp only [List.length_map] at *;omega)) | exact sfT aS (by rfl))) | (apply Tr.chk;(case ht=>(repeat' (first | exact trT | exact trF | apply a3l | apply a4b | exact a33 | exact a3o | exact a3e | exact a49 | exact a5c | exact a06 | exact a07 | exact a08 | exact a03 | exact Z7 | exact a4c | exact a8k | exact a6x | exact trS | exact trV)));(case hp=>first | omega | (simp only [List.length_map] at *;omega))) | (apply Tr.cnd;(case ht=>(repeat' (first | exact trT | exact trF | apply a3l | apply a4b | exact a33 | exact a3o | exact a3e | exact a49 | exact a5c | exact a06 | exact a07 | exact a08 | exact a03 | exact Z7 | exact a4c | exact a8k | exact a6x | exact trS | exact trV))))));all_goals exact Tr.refl)):p:=h.go k
theorem Zy {p q:Prop} (k:q) (h:Tr p q:=by ((repeat' (first | (with_reducible apply Tr.all) | (with_reducible intro _) | (apply Tr.b;(case f=>first | exact b6k | exact W2 aS | exact c2d | exact b48 aS | exact b4m | exact a7t aS | exact a9z | exact b2g aS | exact sP | exact sPR aS | exact sIV | exact sI aS | exact sBV | exact sBK | exact sB aS | exact sSV | exact sS aS | exact sA | exact N2 aS (by rfl) | exact b71 (by rfl) | exact c4g (by rfl) | exact c1a aS (by rfl) | exact c26 aS (by rfl) | exact c91 aS | exact sSl aS | exact sTu aS | exact sBo | exact a97 aS (by rfl) | exact sBc | exact c82 aS | exact sBt | exact sBs | exact sBr | exact a7o aS | exact b5g aS | exact b4k aS (by rfl) | exact c83 aS (by rfl) | exact sCI' aS (by rfl) | exact sCB' aS (by rfl) | exact sCS aS | exact sCI aS | exact sCB aS | exact b5v (by first | omega | (simp only [List.length_map] at *;omega)) | exact b6w (by first | omega | (simp only [List.length_map] at *;omega)) | exact c0v | exact b18 | exact b1s | exact c0r | exact b47 | exact b5c | exact sfSubN | exact b10 | exact sfBSelE | exact sfB | exact c09 | exact c04 | exact c01 | exact C0 aS (by (first | exact u2 O.g_len | exact u2 (fun _=>rfl))) | exact b0x aS (by (first | exact u2 O.g_len | exact u2 (fun _=>rfl))) | exact c02 (by first | omega | (simp only [List.length_map] at *;omega)) | exact b4n (by first | omega | (simp only [List.length_map] at *;omega)) | exact d0r aS (by first | assumption | omega | (simp only [List.length_map] at *;omega)) | exact sfT aS (by rfl))) | (apply Tr.chk;(case ht=>(repeat' (first | exact trT | exact trF | apply a3l | apply a4b | exact a33 | exact a3o | exact a3e | exact a49 | exact a5c | exact a06 | exact a07 | exact a08 | exact a03 | exact Z7 | exact a4c | exact a8k | exact a6x | exact trS | exact trV)));(case hp=>first | omega | (simp only [List.length_map] at *;omega))) | (apply Tr.cnd;(case ht=>(repeat' (first | exact trT | exact trF | apply a3l | apply a4b | exact a33 | exact a3o | exact a3e | exact a49 | exact a5c | exact a06 | exact a07 | exact a08 | exact a03 | exact Z7 | exact a4c | exact a8k | exact a6x | exact trS | exact trV))))));all_goals exact Tr.refl)):p:=h.go k
theorem j4 {p:Prop} (h:p:=by (repeat' (first | exact j6.nil | refine j6.cons _ _ _ _ ?_ ?_ | exact g9.nil | assumption | exact RV.i _ _ | exact RV.b _ | exact RV.kn _ | exact RV.s _ _ _ rfl rfl | refine RV.a _ _ _ (by first | rfl | exact (O.g_len _).symm) aS | refine RV.sl _ _ _ _ _ (by first | rfl | simp) aS | refine RV.q _ _ aS | exact RV.p _ _ | exact RV.cl _ _ _ _ _ rfl (m8.nil _ _ _) | refine RV.ag _ _ ?_ | refine RV.t _ _ ?_ | refine RV.sl _ _ _ _ _ (by rfl) (m8.nil _ _ _) | exact RV.sl0 _ _ _ | refine RV.s _ _ _ (by rfl) (by rfl)))):p:=h
theorem Zru {p:Prop} (h:p:=by (repeat' (first | exact j6.nil | refine j6.cons _ _ _ _ ?_ ?_ | exact g9.nil | assumption | exact RV.i _ _ | exact RV.b _ | exact RV.kn _ | exact RV.s _ _ _ rfl rfl | refine RV.q _ _ (u1.at aS (by rfl)) | refine RV.a _ _ _ (by first | rfl | exact (O.g_len _).symm) aS | refine RV.q _ _ aS | refine RV.cl _ _ _ _ _ rfl (m8.nil _ _ _) | refine RV.ag _ _ ?_ | refine RV.t _ _ ?_ | refine RV.s _ _ _ (by rfl) (by rfl)))):p:=h
theorem aI {a b:Prop} (left:a) (right:b):a∧b:=⟨left,right⟩
theorem oV {a:O} {x:Q} (h:u1 a.g x 0:=by assumption):RV (.a a.g) (.a x 7):=.a _ _ _ a.g_len.symm h
theorem oA {a:O} {x:Q} (h:u1 a.g x 0:=by assumption):j6 [.a a.g] [.a x 7]:=.cons _ _ _ _ (oV h) .nil
theorem oR {U:q8} {P:H6→List Bx→Prop} {a:O} {v:V} {K:Q→Om} (k:∀ q,u1 a.g q 0→g8 U (K q) P) (h:RV (.a a.g) v:=by assumption):g8 U (U.uA 7 v K) P:=N2 h a.g_len k
end Go.Proofs.YtffaodopiifbkaaGreatDoor
