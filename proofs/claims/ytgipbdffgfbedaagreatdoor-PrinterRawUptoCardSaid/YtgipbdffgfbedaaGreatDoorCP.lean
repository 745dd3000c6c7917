/- Plain functions on texts: E6. No program in sight. -/
import Derived.Test.YtgipbdffgfbedaaGreatDoorCG
set_option linter.all false
namespace LQ
abbrev f6:=List UInt8
def bt (s:f6) (k:Nat):Int:=((s.getD k 0).toNat:Int)
theorem b9x (s:f6) (k:Nat):bt s k < 256:=by unfold bt;have:=(s.getD k 0).toNat_lt;omega
theorem a5f (s:f6) (k:Nat):0≤bt s k:=by unfold bt;omega
def s7 (c:Int):Bool:=decide (33≤c∧c≤126∧c ≠ 40∧c ≠ 41∧c ≠ 39∧c ≠ 34∧c ≠ 59∧c ≠ 124∧c ≠ 58)
def G1 (c:Int):Bool:=decide (c=32∨c=9∨c=10∨c=13)
def has (s:f6) (i:Nat) (a b:Int):Bool:=decide (i+1 < s.length∧bt s i=a∧bt s (i+1)=b)

def l7 (s:f6) (i:Nat):Nat :=
 if i < s.length then if s7 (bt s i) then l7 s (i+1) else i else i
termination_by s.length - i
def L4 (s:f6) (i:Nat):Nat :=
 if i < s.length then if bt s i=10 then i else L4 s (i+1) else i
termination_by s.length - i
def D1 (s:f6) (i depth:Nat):Option Nat :=
 if depth=0 then some i
 else if i < s.length then
  if has s i 35 124 then D1 s (i+2) (depth+1)
  else if has s i 124 35 then D1 s (i+2) (depth - 1)
  else D1 s (i+1) depth
 else none
termination_by s.length - i
theorem a8e (s:f6) (i:Nat) (h:i≤s.length):i≤L4 s i∧L4 s i≤s.length:=by
 fun_induction L4 s i <;> omega
theorem G3 (s:f6) (i:Nat) (h:i≤s.length):i≤l7 s i∧l7 s i≤s.length:=by
 fun_induction l7 s i <;> omega
theorem V8 {s:f6} {i:Nat} {a b:Int} (h:has s i a b=true):i+1 < s.length:=by simp [has] at h;exact h.1
theorem a9t (s:f6) (i depth j:Nat) (hi:i≤s.length) (h:D1 s i depth=some j):i≤j∧j≤s.length:=by
 fun_induction D1 s i depth
 ·simp at h;omega
 ·rename_i hh ih;have:=V8 hh;have:=ih oM h;omega
 ·rename_i hh ih;have:=V8 hh;have:=ih oM h;omega
 ·rename_i ih;have:=ih oM h;omega
 ·simp at h
def skip (s:f6) (i:Nat):Option Nat :=
 if i < s.length then
  if G1 (bt s i) then skip s (i+1)
  else if bt s i=59 then (if i < L4 s i then skip s (L4 s i) else some i)
  else if has s i 35 124 then
   match D1 s (i+2) 1 with
   | none=>none
   | some j=>if i < j then skip s j else some i
  else some i
 else some i
termination_by s.length - i
theorem b4t (s:f6) (i:Nat) (h:i < s.length) (hb:bt s i ≠ 10):i < L4 s i:=by
 rw [L4,if_pos h,if_neg hb];have:=a8e s (i+1) oM;omega

def P3 (c:Int):Bool:=decide (48≤c∧c≤57)
def j8 (s:f6) (k:Nat):Nat :=
 if k < s.length then if P3 (bt s k) then j8 s (k+1) else k else k
termination_by s.length - k
theorem d0q (s:f6) (i:Nat) (h:i≤s.length):i≤j8 s i∧j8 s i≤s.length:=by
 fun_induction j8 s i <;> omega
def F4 (s:f6) (k:Nat):Nat :=
 if k < s.length then if bt s k=48 then F4 s (k+1) else k else k
termination_by s.length - k
theorem a86 (s:f6) (i:Nat) (h:i≤s.length):i≤F4 s i∧F4 s i≤s.length:=by
 fun_induction F4 s i <;> omega
def g9 (s:f6):Nat:=if 0 < s.length∧bt s 0=45 then 1 else 0
theorem N2 (s:f6):g9 s≤s.length∧g9 s≤1:=by unfold g9;split <;> omega
def q8:f6:=[]
def R6:f6:=[49]
def w9:f6:=[48]
def n6 (s:f6):f6 × f6 × Bool :=
 let i:=g9 s
 let k:=j8 s i
 if k=i then (q8,q8,false)
 else if k=s.length then (s,R6,true)
 else if bt s k ≠ 47∨k+1=s.length then (q8,q8,false)
 else if j8 s (k+1)=s.length then (((s.take (k)).drop (0)),((s.take (s.length)).drop ((k+1))),true)
 else (q8,q8,false)
def plain (s:f6):f6 :=
 let i:=F4 s (g9 s)
 if i=s.length then w9
 else if g9 s=1 then ([45]:f6) ++ ((s.take (s.length)).drop (i))
 else ((s.take (s.length)).drop (i))
def a0p (c:Int):Bool:=decide ((97≤c∧c≤122)∨(48≤c∧c≤57)∨c=45)
def F1 (s:f6) (k:Nat):Bool:=if k < s.length then if a0p (bt s k) then F1 s (k+1) else false else true
termination_by s.length - k
def p8 (s:f6):Bool:=decide (1≤s.length∧s.length≤40∧97≤bt s 0∧bt s 0≤122) && F1 s 0
def o7 (text pkg:f6) (bars:Bool):Int :=
 if 40 < text.length then 2
 else if (bars=true∧text.length=0)∨(pkg.length ≠ 0∧p8 pkg=false) then 3 else 0
def H1 (s:f6) (c:Int) (i:Nat) (acc:List Int):Except (Int × Nat) (List Int × Nat) :=
 if i < s.length then
  if bt s i=c then .ok (acc,i+1)
  else if bt s i ≠ 92 then H1 s c (i+1) (acc ++ [bt s i])
  else if i+1 < s.length then
   if bt s (i+1) ≠ c∧bt s (i+1) ≠ 92 then .error (12,i)
   else H1 s c (i+2) (acc ++ [bt s (i+1)])
  else .error (11,s.length)
 else .error (11,s.length)
termination_by s.length - i
def x8 (s:f6):Bool :=
 decide (s=w9) || (decide (g9 s < s.length∧bt s (g9 s) ≠ 48) && decide (j8 s (g9 s)=s.length))
def u2 (s:f6) (k:Nat) (acc:Nat):Nat:=if k < s.length then u2 s (k+1) (10 * acc+(bt s k - 48).toNat) else acc
termination_by s.length - k
def f8 (s:f6):Int:=if x8 s then (if g9 s=1 then -(u2 s 1 0:Int) else (u2 s 0 0:Int)) else 0
def i6 (n:Nat):List Nat:=if h:n=0 then [] else n % 10 :: i6 (n / 10)
termination_by n
def f7 (n:Nat):f6:=if n=0 then w9 else ((i6 n).reverse.map fun d=>UInt8.ofNat (48+d))
def g7 (n:Int):f6:=if n < 0 then [45] ++ f7 n.natAbs else f7 n.natAbs
def m7 (num den:f6):f6 × f6 :=
 if f8 den=0 then (w9,R6)
 else
  let g:=Nat.gcd (f8 num).natAbs (f8 den).natAbs
  (g7 ((if (f8 num < 0)=(f8 den < 0) then 1 else -1) * (((f8 num).natAbs / g:Nat):Int)),f7 ((f8 den).natAbs / g))
def A6 (a:f6):Nat:=max 1 (i6 (f8 a).natAbs).length

structure A8 where
 kind:Int
 pos:Nat
 pkg:f6
 text:f6
 den:f6
def E2 (l:List Int):f6:=(l.map fun n=>UInt8.ofNat n.toNat)
def I7 (s:f6) (i:Nat) (pkg:f6) (k:Nat):Except (Int × Nat) (A8 × Nat) :=
 if k+2 < s.length then
  if bt s (k+2)=124 then
   match H1 s 124 (k+2+1) [] with
   | .error e=>.error e
   | .ok (l,j)=>if o7 (E2 l) pkg true=0 then .ok (⟨6,i,pkg,E2 l,q8⟩,j) else .error (o7 (E2 l) pkg true,i)
  else if s7 (bt s (k+2)) then
   let j:=l7 s (k+2)
   let t:=((s.take (j)).drop ((k+2)))
   if o7 t pkg false=0 then .ok (⟨6,i,pkg,t,q8⟩,j) else .error (o7 t pkg false,i)
  else .error (12,k+2)
 else .error (11,s.length)
def G4 (i:Nat) (t:f6) (k:Nat):Except (Int × Nat) (A8 × Nat) :=
 if t=[46] then .ok (⟨3,i,q8,q8,q8⟩,k)
 else if (n6 t).2.2 then
  if plain (n6 t).2.1=w9 then .error (12,i)
  else
   let r:=m7 (plain (n6 t).1) (plain (n6 t).2.1)
   if 100 < A6 r.1∨100 < A6 r.2 then .error (2,i) else .ok (⟨5,i,q8,r.1,r.2⟩,k)
 else if o7 t q8 false=0 then .ok (⟨6,i,q8,t,q8⟩,k) else .error (o7 t q8 false,i)
def A4 (s:f6) (i:Nat):Except (Int × Nat) (A8 × Nat) :=
 if bt s i=40 then .ok (⟨1,i,q8,q8,q8⟩,i+1)
 else if bt s i=41 then .ok (⟨2,i,q8,q8,q8⟩,i+1)
 else if bt s i=39 then .ok (⟨4,i,q8,q8,q8⟩,i+1)
 else if bt s i=34 then
  match H1 s 34 (i+1) [] with
  | .error e=>.error e
  | .ok (l,j)=>if 200 < l.length then .error (2,i) else .ok (⟨7,i,q8,E2 l,q8⟩,j)
 else if bt s i=124 then
  match H1 s 124 (i+1) [] with
  | .error e=>.error e
  | .ok (l,j)=>if o7 (E2 l) q8 true=0 then .ok (⟨6,i,q8,E2 l,q8⟩,j) else .error (o7 (E2 l) q8 true,i)
 else if s7 (bt s i) then
  if has s (l7 s i) 58 58 then I7 s i (((s.take ((l7 s i))).drop (i))) (l7 s i)
  else G4 i (((s.take ((l7 s i))).drop (i))) (l7 s i)
 else .error (12,i)
def y7 (s:f6) (i:Nat) (acc:List A8):Except (Int × Nat) (List A8) :=
 match skip s i with
 | none=>.error (11,s.length)
 | some j =>
  if j < s.length then
   match A4 s j with
   | .error e=>.error e
   | .ok (t,k)=>if i < k∧i < s.length then y7 s k (acc ++ [t]) else .error (0,0)
  else .ok (acc ++ [⟨0,s.length,q8,q8,q8⟩])
termination_by s.length - i
def E6 (s:f6):Except (Int × Nat) (List A8):=if 6000 < s.length then .error (2,0) else y7 s 0 []
theorem W9 (s:f6) (i j:Nat) (hi:i≤j) (hj:j < j8 s i):48≤bt s j∧bt s j≤57:=by
 fun_induction j8 s i with
 | case1 i h1 h2 ih =>
  by_cases h:j=i
  ·subst h;simpa [P3] using h2
  ·exact ih oM hj
 | case2=>omega
 | case3=>omega
def t8 (s:f6) (e:Nat):Nat→List Nat→List Nat
 | 0,acc=>acc
 | k+1,acc=>if e≤k then t8 s e k (acc ++ [(bt s k - 48).toNat]) else acc
def Y3 (s:f6):Bool × List Nat :=
 if x8 s=true∧s ≠ w9 then (decide (g9 s=1),t8 s (g9 s) s.length []) else (false,[])
def R0 (l:List Nat):Nat→Nat
 | 0=>0
 | n+1=>if l.getD n 0=0 then R0 l n else n+1
def D6 (l:List Nat):List Nat:=l.take (R0 l l.length)
def E9 (a b:List Nat):Nat→Int
 | 0=>0
 | k+1=>if a.getD k 0 < b.getD k 0 then -1 else if b.getD k 0 < a.getD k 0 then 1 else E9 a b k
def O9 (a b:List Nat):Int :=
 if a.length=b.length then E9 a b a.length else if a.length < b.length then -1 else 1
def H9 (a b:List Nat) (i bor:Nat):Int:=(a.getD i 0:Int) - bor - (if i < b.length then (b.getD i 0:Int) else 0)
def N8 (a b:List Nat) (i bor:Nat) (acc:List Nat):List Nat :=
 if i < a.length then
  if H9 a b i bor < 0 then N8 a b (i+1) 1 (acc ++ [(H9 a b i bor+10).toNat])
  else N8 a b (i+1) 0 (acc ++ [(H9 a b i bor).toNat])
 else acc
termination_by a.length - i
def b7h (a b:List Nat):List Nat:=D6 (N8 a b 0 0 [])
theorem c3h {s:f6} {k:Nat} (h:¬k < s.length):skip s k=some k:=by rw [skip,if_neg h]
theorem c9j {s:f6} {k:Nat} (h:k < s.length) (hb:G1 (bt s k)=true):skip s k=skip s (k+1):=by
 rw [skip,if_pos h,if_pos hb]
theorem b86 {s:f6} {k:Nat} (h:k < s.length) (hb:G1 (bt s k)=false) (h9:bt s k=59):skip s k=skip s (L4 s k):=by
 rw [skip,if_pos h,if_neg (by simp [hb]),if_pos h9,if_pos (b4t s k h oM)]
theorem b0u {s:f6} {k:Nat} (h:k < s.length) (hb:G1 (bt s k)=false) (h9:bt s k ≠ 59) (hh:has s k 35 124=false):skip s k=some k:=by
 rw [skip,if_pos h,if_neg (by simp [hb]),if_neg h9,if_neg (by simp [hh])]
theorem d53 {s:f6} {k j:Nat} (h:k < s.length) (hb:G1 (bt s k)=false) (h9:bt s k ≠ 59) (hh:has s k 35 124=true) (hc:D1 s (k+2) 1=some j):skip s k=skip s j:=by
 have:=V8 hh
 have:=a9t s (k+2) 1 j oM hc
 rw [skip,if_pos h,if_neg (by simp [hb]),if_neg h9,if_pos hh,hc];simp only [];rw [if_pos oM]
theorem d2p {s:f6} {k:Nat} (h:k < s.length) (hb:G1 (bt s k)=false) (h9:bt s k ≠ 59) (hh:has s k 35 124=true) (hc:D1 s (k+2) 1=none):skip s k=none:=by
 rw [skip,if_pos h,if_neg (by simp [hb]),if_neg h9,if_pos hh,hc]
def val:List Nat→Nat
 | []=>0
 | d :: t=>d+10 * val t
def D9 (l:List Nat):Prop:=∀ d ∈ l,d≤9
theorem u7:i6 0=[]:=by rw [i6];simp
theorem E1 {n:Nat} (h:n ≠ 0):i6 n=n % 10 :: i6 (n / 10):=by rw [i6,dif_neg h]
theorem B4 (n:Nat):val (i6 n)=n:=by
 induction n using Nat.strongRecOn with
 | _ n ih =>
  by_cases h:n=0
  ·subst h;rw [u7];rfl
  ·rw [E1 h,val,ih (n / 10) oM];omega
theorem C4 (n:Nat):D9 (i6 n):=by
 induction n using Nat.strongRecOn with
 | _ n ih =>
  by_cases h:n=0
  ·subst h;rw [u7];intro d hd;simp at hd
  ·rw [E1 h];intro d hd;simp at hd
   rcases hd with rfl | hd
   ·omega
   ·exact ih (n / 10) oM d hd
theorem b70 {d m:Nat} (hd:d≤9) (h:d ≠ 0∨m ≠ 0):i6 (d+10 * m)=d :: i6 m:=by
 rw [E1 oM];congr 1
 ·omega
 ·congr 1;omega
theorem a31 (a b:List Nat):val (a ++ b)=val a+10 ^ a.length * val b:=by
 induction a with
 | nil=>simp [val]
 | cons d t ih=>simp only [List.cons_append,val,ih,List.length_cons,Nat.pow_succ];rw [Nat.mul_add,← Nat.mul_assoc,Nat.mul_comm (10 ^ t.length) 10];omega
theorem b73 (t:List Nat) (d:Nat) (h9:D9 (t ++ [d])) (hd:d ≠ 0):i6 (val (t ++ [d]))=t ++ [d]:=by
 induction t with
 | nil =>
  have:d≤9:=h9 d (by simp)
  simp only [List.nil_append,val]
  rw [Nat.mul_zero,← Nat.mul_zero 10,b70 this (.inl hd),u7]
 | cons x t ih =>
  simp only [List.cons_append,val]
  rw [b70 (h9 x (by simp)),ih (fun y hy=>h9 y (by simp at hy ⊢;exact .inr hy))]
  refine .inr fun h0=>hd ?_
  have h2:=a31 t [d]
  rw [h0] at h2
  simp only [val] at h2
  have h3:0 < 10 ^ t.length:=Nat.pow_pos oM
  rw [Nat.mul_zero,Nat.add_zero] at h2
  have h4:10 ^ t.length * d=0:=oM
  rcases Nat.mul_eq_zero.1 h4 with h | h <;> omega
theorem c9x (l:List Nat) (h9:D9 l) (n:Nat) (hn:n≤l.length):l.take (R0 l n)=i6 (val (l.take n)):=by
 induction n with
 | zero=>simp [R0,val,u7]
 | succ n ih =>
  have hlt:n < l.length:=oM
  have htk:l.take (n+1)=l.take n ++ [l.getD n 0]:=by
   rw [List.take_succ_eq_append_getElem hlt];simp [List.getD,hlt]
  simp only [R0]
  split
  ·rename_i h0
   rw [ih oM,htk,h0,a31]
   simp [val]
  ·rename_i h0
   rw [htk,b73 _ _ _ h0]
   intro d hd
   rw [← htk] at hd
   exact h9 d (List.mem_of_mem_take hd)
theorem a3z (l:List Nat) (h9:D9 l):D6 l=i6 (val l):=by
 unfold D6;rw [c9x l h9 l.length (Nat.le_refl _),List.take_length]
def a28:List Nat→List Nat→Nat→List Nat
 | [],_,_=>[]
 | x :: a,b,bor =>
  if (x:Int) - bor - (b.headD 0:Int) < 0 then ((x:Int) - bor - (b.headD 0:Int)+10).toNat :: a28 a b.tail 1
  else ((x:Int) - bor - (b.headD 0:Int)).toNat :: a28 a b.tail 0
theorem b2l (a b:List Nat) (i bor:Nat):H9 a b i bor=(a.getD i 0:Int) - bor - ((b.drop i).headD 0:Int):=by
 unfold H9
 rcases Nat.lt_or_ge i b.length with h | h
 ·rw [if_pos h,List.drop_eq_getElem_cons h];simp [List.getD,h]
 ·rw [if_neg oM,List.drop_eq_nil_of_le h];simp
theorem c9q (a b:List Nat) (i bor:Nat) (acc:List Nat) (hi:i≤a.length):N8 a b i bor acc=acc ++ a28 (a.drop i) (b.drop i) bor:=by
 fun_induction N8 a b i bor acc with
 | case1 i bor acc h1 h2 ih =>
  rw [ih oM,List.drop_eq_getElem_cons h1,a28]
  rw [b2l] at h2 ⊢
  simp only [List.getD,List.getElem?_eq_getElem h1,Option.getD_some] at h2 ⊢
  rw [if_pos h2];simp
 | case2 i bor acc h1 h2 ih =>
  rw [ih oM,List.drop_eq_getElem_cons h1,a28]
  rw [b2l] at h2 ⊢
  simp only [List.getD,List.getElem?_eq_getElem h1,Option.getD_some] at h2 ⊢
  rw [if_neg h2];simp
 | case3 i bor acc h1 =>
  rw [List.drop_eq_nil_of_le oM];simp [a28]
theorem d6j (b:List Nat):val b=b.headD 0+10 * val b.tail:=by cases b <;> simp [val]
theorem d56 (a b:List Nat) (bor:Nat) (ha:D9 a) (hb:D9 b) (hbor:bor≤1) (h:val b+bor≤val a):val (a28 a b bor)+val b+bor=val a:=by
 induction a generalizing b bor with
 | nil=>simp [val] at h;simp [a28,val];omega
 | cons x a ih =>
  have hx:x≤9:=ha x (by simp)
  have ha':D9 a:=fun d hd=>ha d (by simp [hd])
  have hb':D9 b.tail:=fun d hd=>hb d (List.mem_of_mem_tail hd)
  have hy:b.headD 0≤9:=by
   cases b with
   | nil=>simp
   | cons y t=>exact hb y (by simp)
  have hvb:=d6j b
  simp only [val] at h
  simp only [a28]
  split
  ·rename_i hz
   have:=ih b.tail 1 ha' hb' oM oM
   simp only [val]
   omega
  ·rename_i hz
   have:=ih b.tail 0 ha' hb' oM oM
   simp only [val]
   omega
theorem e07 (a b:List Nat) (bor:Nat) (ha:D9 a) (hb:D9 b) (hbor:bor≤1):D9 (a28 a b bor):=by
 induction a generalizing b bor with
 | nil=>intro d hd;simp [a28] at hd
 | cons x a ih =>
  have hx:x≤9:=ha x (by simp)
  have ha':D9 a:=fun d hd=>ha d (by simp [hd])
  have hb':D9 b.tail:=fun d hd=>hb d (List.mem_of_mem_tail hd)
  simp only [a28]
  split
  ·rename_i hz;intro d hd
   rcases List.mem_cons.1 hd with rfl | hd
   ·omega
   ·exact ih b.tail 1 ha' hb' oM d hd
  ·rename_i hz;intro d hd
   rcases List.mem_cons.1 hd with rfl | hd
   ·omega
   ·exact ih b.tail 0 ha' hb' oM d hd
theorem d2w (x y:Nat) (h:y≤x):b7h (i6 x) (i6 y)=i6 (x - y):=by
 unfold b7h
 rw [c9q _ _ _ _ _ (Nat.zero_le _)]
 simp only [List.nil_append,List.drop_zero]
 rw [a3z _ (e07 _ _ _ (C4 x) (C4 y) oM)]
 have:=d56 (i6 x) (i6 y) 0 (C4 x) (C4 y) oM (by rw [B4,B4];omega)
 rw [B4,B4] at this
 congr 1;omega
theorem a1m (l:List Nat) (h9:D9 l):val l < 10 ^ l.length:=by
 induction l with
 | nil=>simp [val]
 | cons d t ih =>
  have h1:=ih (fun x hx=>h9 x (by simp [hx]))
  have h2:d≤9:=h9 d (by simp)
  simp only [val,List.length_cons,Nat.pow_succ]
  omega
theorem b1d (n:Nat) (h:n ≠ 0):10 ^ ((i6 n).length - 1)≤n:=by
 induction n using Nat.strongRecOn with
 | _ n ih =>
  rw [E1 h]
  simp only [List.length_cons,Nat.add_sub_cancel]
  by_cases h1:n / 10=0
  ·rw [h1,u7];simp;omega
  ·have:=ih (n / 10) oM h1
   have h2:(i6 (n / 10)).length ≠ 0:=by rw [E1 h1];simp
   have h3:10 ^ (i6 (n / 10)).length=10 * 10 ^ ((i6 (n / 10)).length - 1):=by
    rw [← Nat.pow_succ'];congr 1;omega
   omega
theorem c4y (a b:List Nat) (ha:D9 a) (hb:D9 b) (n:Nat) (hna:n≤a.length) (hnb:n≤b.length) :
  E9 a b n=if val (a.take n) < val (b.take n) then -1 else if val (b.take n) < val (a.take n) then 1 else 0:=by
 induction n with
 | zero=>simp [E9,val]
 | succ n ih =>
  have hla:n < a.length:=oM
  have hlb:n < b.length:=oM
  have e1:a.take (n+1)=a.take n ++ [a.getD n 0]:=by rw [List.take_succ_eq_append_getElem hla];simp [List.getD,hla]
  have e2:b.take (n+1)=b.take n ++ [b.getD n 0]:=by rw [List.take_succ_eq_append_getElem hlb];simp [List.getD,hlb]
  have v1:=a31 (a.take n) [a.getD n 0]
  have v2:=a31 (b.take n) [b.getD n 0]
  have l1:(a.take n).length=n:=by simp;omega
  have l2:(b.take n).length=n:=by simp;omega
  have b1:=a1m (a.take n) (fun d hd=>ha d (List.mem_of_mem_take hd))
  have b2:=a1m (b.take n) (fun d hd=>hb d (List.mem_of_mem_take hd))
  rw [l1] at v1 b1
  rw [l2] at v2 b2
  simp only [val,Nat.mul_zero,Nat.add_zero] at v1 v2
  rw [e1,e2,v1,v2]
  simp only [E9]
  rw [ih oM oM]
  generalize a.getD n 0=x at *
  generalize b.getD n 0=y at *
  generalize val (a.take n)=p at *
  generalize val (b.take n)=q at *
  generalize 10 ^ n=P at *
  by_cases h1:x < y
  ·have:P * (x+1)≤P * y:=Nat.mul_le_mul_left P h1
   rw [Nat.mul_add,Nat.mul_one] at this
   rw [if_pos h1,if_pos oM]
  ·rw [if_neg h1]
   by_cases h2:y < x
   ·have:P * (y+1)≤P * x:=Nat.mul_le_mul_left P h2
    rw [Nat.mul_add,Nat.mul_one] at this
    rw [if_pos h2,if_neg oM,if_pos oM]
   ·rw [if_neg h2]
    have h3:x=y:=oM
    subst h3
    simp only [Nat.add_lt_add_iff_right]
theorem d1v (x y:Nat):O9 (i6 x) (i6 y)=if x < y then -1 else if y < x then 1 else 0:=by
 unfold O9
 split
 ·rename_i h
  rw [c4y _ _ (C4 x) (C4 y) _ (Nat.le_refl _) oM,List.take_length,h,List.take_length,B4,B4]
 ·rename_i h
  have b1:=a1m (i6 x) (C4 x)
  have b2:=a1m (i6 y) (C4 y)
  rw [B4] at b1 b2
  split
  ·rename_i h2
   have hy:y ≠ 0:=by intro e;rw [e,u7] at h2;simp at h2
   have g2:=b1d y hy
   have:10 ^ (i6 x).length≤10 ^ ((i6 y).length - 1):=Nat.pow_le_pow_right oM oM
   rw [if_pos oM]
  ·rename_i h2
   have hx:x ≠ 0:=by intro e;rw [e,u7] at h h2;simp only [List.length_nil] at h h2;omega
   have g1:=b1d x hx
   have:10 ^ (i6 y).length≤10 ^ ((i6 x).length - 1):=Nat.pow_le_pow_right oM oM
   rw [if_neg oM,if_pos oM]

theorem c4d (s:f6) (e:Nat) (k:Nat) (acc:List Nat):t8 s e k acc=acc ++ t8 s e k []:=by
 induction k generalizing acc with
 | zero=>simp [t8]
 | succ k ih =>
  simp only [t8]
  split
  ·rw [ih (acc ++ _),ih ([] ++ _)];simp
  ·simp
theorem c4r (s:f6) (k acc:Nat) (hk:k≤s.length):u2 s k acc=acc * 10 ^ (s.length - k)+u2 s k 0:=by
 generalize hm:s.length - k=m
 induction m generalizing k acc with
 | zero=>rw [u2,if_neg oM,u2,if_neg oM];simp
 | succ m ih =>
  rw [u2,if_pos oM,u2.eq_def s k 0,if_pos oM,ih (k+1) _ oM oM,ih (k+1) (10 * 0+_) oM oM,Nat.pow_succ]
  rw [Nat.mul_zero,Nat.zero_add,Nat.add_mul,Nat.mul_comm 10 acc,Nat.mul_assoc,Nat.mul_comm 10 (10 ^ m)]
  omega
theorem a4q (s:f6) (e k:Nat) (h:e≤k):t8 s e (k+1) []=(bt s k - 48).toNat :: t8 s e k []:=by
 rw [t8,if_pos h,c4d];simp
theorem c5t (s:f6) (e:Nat):t8 s e e []=[]:=by
 cases e with
 | zero=>rfl
 | succ e=>rw [t8,if_neg oM]
theorem c4t (s:f6) (e k:Nat) (he:e≤k) (hk:k≤s.length):u2 s e 0=u2 s k (val (t8 s e k [])):=by
 induction k with
 | zero=>obtain rfl:e=0:=oM
         rfl
 | succ k ih =>
  by_cases h:e=k+1
  ·subst h;rw [c5t];rfl
  ·rw [ih oM oM,a4q s e k oM,u2,if_pos oM]
   congr 1
   simp only [val];omega
theorem b2e (s:f6) (e:Nat) (he:e≤s.length):u2 s e 0=val (t8 s e s.length []):=by
 rw [c4t s e s.length he (Nat.le_refl _),u2,if_neg oM]
theorem c1d (s:f6) (e k:Nat) (h:e < k):∃ t,t8 s e k []=t ++ [(bt s e - 48).toNat]:=by
 induction k with
 | zero=>omega
 | succ k ih =>
  rw [a4q s e k oM]
  by_cases hk:e=k
  ·subst hk;exact ⟨[],by rw [c5t];rfl⟩
  ·obtain ⟨t,ht⟩:=ih oM
   exact ⟨_ :: t,by rw [ht];rfl⟩
theorem e19 (s:f6) (e k:Nat) (h:∀ j,e≤j→j < k→48≤bt s j∧bt s j≤57):D9 (t8 s e k []):=by
 induction k with
 | zero=>intro d hd;simp [t8] at hd
 | succ k ih =>
  by_cases he:e≤k
  ·rw [a4q s e k he]
   intro d hd
   rcases List.mem_cons.1 hd with rfl | hd
   ·have:=h k he oM;omega
   ·exact ih (fun j h1 h2=>h j h1 oM) d hd
  ·rw [t8,if_neg he];intro d hd;simp at hd
theorem a6a:f8 w9=0:=by
 have h1:g9 w9=0:=dE
 have h2:u2 w9 0 0=0:=by rw [u2,if_pos dE,u2,if_neg dE];decide
 unfold f8
 rw [h1,h2];simp
theorem b1c (s:f6):Y3 s=(decide (f8 s < 0),i6 (f8 s).natAbs):=by
 unfold Y3
 split
 ·rename_i h
  obtain ⟨h1,h2⟩:=h
  have h3:g9 s < s.length∧bt s (g9 s) ≠ 48∧j8 s (g9 s)=s.length:=by
   simp [x8,h2] at h1;exact ⟨h1.1.1,h1.1.2,h1.2⟩
  have hall:∀ j,g9 s≤j→j < s.length→48≤bt s j∧bt s j≤57:=fun j a b=>W9 s (g9 s) j a oM
  have h9:=e19 s (g9 s) s.length hall
  obtain ⟨t,ht⟩:=c1d s (g9 s) s.length h3.1
  have hd0:(bt s (g9 s) - 48).toNat ≠ 0:=by have:=hall (g9 s) (Nat.le_refl _) h3.1;omega
  have hcan:i6 (val (t8 s (g9 s) s.length []))=t8 s (g9 s) s.length []:=by
   rw [ht] at h9 ⊢;exact b73 t _ h9 hd0
  have hv:=b2e s (g9 s) oM
  have hpos:0 < u2 s (g9 s) 0:=by
   rcases Nat.eq_zero_or_pos (u2 s (g9 s) 0) with h | h
   ·rw [← hv,h,u7] at hcan;rw [ht] at hcan;simp at hcan
   ·exact h
  unfold f8
  rw [if_pos h1]
  have hs1:=N2 s
  by_cases hsg:g9 s=1
  ·rw [if_pos hsg]
   rw [hsg] at hcan hv hpos ⊢
   rw [hv,Int.natAbs_neg,Int.natAbs_natCast,hcan]
   congr 1
   rw [← hv];simp;omega
  ·have hs0:g9 s=0:=oM
   rw [if_neg hsg]
   rw [hs0] at hcan hv hpos ⊢
   rw [hv,Int.natAbs_natCast,hcan]
   congr 1
 ·rename_i h
  have:f8 s=0:=by
   by_cases h1:x8 s=true
   ·have:s=w9:=by
     by_cases h2:s=w9
     ·exact h2
     ·exact absurd ⟨h1,h2⟩ h
    rw [this];exact a6a
   ·unfold f8;rw [if_neg h1]
  rw [this];simp [u7]
theorem d1w (X a y:Nat) (hy:0 < y):(a+10 * X) / y=(a+10 * (X % y)) / y+10 * (X / y)∧(a+10 * X) % y=(a+10 * (X % y)) % y:=by
 have h:=Nat.div_add_mod X y
 have e:a+10 * X=(a+10 * (X % y))+y * (10 * (X / y)):=by
  have:y * (10 * (X / y))=10 * (y * (X / y)):=by rw [Nat.mul_left_comm]
  rw [this];omega
 rw [e]
 exact ⟨by rw [Nat.add_mul_div_left _ _ hy],by rw [Nat.add_mul_mod_self_left]⟩
theorem c8w (R t y:Nat) (hy:0 < y) (h1:t * y≤R) (h2:R - t * y < y):R / y=t∧R % y=R - t * y:=by
 have e:R=(R - t * y)+y * t:=by rw [Nat.mul_comm y t];omega
 constructor
 ·rw [e,Nat.add_mul_div_left _ _ hy,Nat.div_eq_of_lt h2];omega
 ·have:R % y=((R - t * y)+y * t) % y:=by rw [← e]
  rw [this,Nat.add_mul_mod_self_left,Nat.mod_eq_of_lt h2]
theorem d0r (x k:Nat) (h:k < (i6 x).length):val ((i6 x).drop k)=(i6 x).getD k 0+10 * val ((i6 x).drop (k+1)):=by
 rw [List.drop_eq_getElem_cons h];simp [val,List.getD,h]
theorem b6g (a r:Nat) (ha:a≤9):D6 (a :: i6 r)=i6 (a+10 * r):=by
 rw [a3z]
 ·simp only [val,B4]
 ·intro d hd
  rcases List.mem_cons.1 hd with rfl | hd
  ·exact ha
  ·exact C4 r d hd
theorem a1e (n k:Nat) (h:n ≠ 0) (hk:k < (i6 n).length):bt (f7 n) k=48+((i6 n).getD ((i6 n).length - 1 - k) 0:Int):=by
 have hs:(f7 n).length=(i6 n).length:=by unfold f7;rw [if_neg h];simp
 have hbt:bt (f7 n) k=(((f7 n)[k]'oM).toNat:Int):=by unfold bt;simp [List.getD,List.getElem?_eq_getElem (show k < (f7 n).length by omega)]
 rw [hbt]
 have h9:(i6 n).getD ((i6 n).length - 1 - k) 0≤9:=by
  have hlt:(i6 n).length - 1 - k < (i6 n).length:=oM
  simp only [List.getD,List.getElem?_eq_getElem hlt,Option.getD_some]
  exact C4 n _ (List.getElem_mem hlt)
 have:(f7 n)[k]'oM=UInt8.ofNat (48+(i6 n).getD ((i6 n).length - 1 - k) 0):=by
  have e:f7 n=((i6 n).reverse.map fun d=>UInt8.ofNat (48+d)):=by unfold f7;rw [if_neg h]
  simp only [e]
  simp [List.getD,show (i6 n).length - 1 - k < (i6 n).length by omega]
 rw [this]
 simp only [UInt8.toNat_ofNat']
 omega

theorem L2 (n:Nat) (h:n ≠ 0):(f7 n).length=(i6 n).length:=by unfold f7;rw [if_neg h];simp
theorem b71 (n:Nat) (h:n ≠ 0):(i6 n).getD ((i6 n).length - 1) 0 ≠ 0:=by
 induction n using Nat.strongRecOn with
 | _ n ih =>
  rw [E1 h]
  by_cases h1:n / 10=0
  ·rw [h1,u7];simp;omega
  ·have:=ih (n / 10) oM h1
   have h2:(i6 (n / 10)).length ≠ 0:=by rw [E1 h1];simp
   obtain ⟨m,hm⟩:∃ m,(i6 (n / 10)).length=m+1:=⟨_,(Nat.succ_pred h2).symm⟩
   rw [hm] at this
   simp only [List.length_cons,hm,Nat.add_sub_cancel]
   simpa [List.getD] using this
theorem P9 (s:f6) (i:Nat) (hi:i≤s.length) (h:∀ j,i≤j→j < s.length→48≤bt s j∧bt s j≤57):j8 s i=s.length:=by
 fun_induction j8 s i with
 | case1 i h1 h2 ih=>exact ih oM (fun j a b=>h j oM b)
 | case2 i h1 h2=>exact absurd (by have:=h i (Nat.le_refl _) h1;simp [P3];omega) h2
 | case3 i h1=>omega
theorem d3v (n k:Nat) (h:n ≠ 0) (hk:k≤(i6 n).length):t8 (f7 n) 0 k []=(i6 n).drop ((i6 n).length - k):=by
 induction k with
 | zero=>simp [t8]
 | succ k ih =>
  rw [a4q _ _ _ (Nat.zero_le _),ih oM,a1e n k h oM]
  have hlt:(i6 n).length - (k+1) < (i6 n).length:=oM
  rw [List.drop_eq_getElem_cons hlt]
  congr 1
  ·simp only [List.getD,show (i6 n).length - 1 - k=(i6 n).length - (k+1) by omega,List.getElem?_eq_getElem hlt,Option.getD_some];omega
  ·congr 1;omega
theorem D7 (n:Nat):f8 (f7 n)=n:=by
 by_cases h:n=0
 ·subst h;exact a6a
 ·have hs:=L2 n h
  have hl:(i6 n).length ≠ 0:=by rw [E1 h];simp
  have hall:∀ j,0≤j→j < (f7 n).length→48≤bt (f7 n) j∧bt (f7 n) j≤57:=by
   intro j _ hj
   rw [a1e n j h oM]
   have hlt:(i6 n).length - 1 - j < (i6 n).length:=oM
   have:=C4 n ((i6 n)[(i6 n).length - 1 - j]) (List.getElem_mem hlt)
   simp only [List.getD,List.getElem?_eq_getElem hlt,Option.getD_some]
   omega
  have h0:=hall 0 (Nat.le_refl _) oM
  have hsg:g9 (f7 n)=0:=by unfold g9;rw [if_neg oM]
  have hb0:bt (f7 n) 0 ≠ 48:=by
   rw [a1e n 0 h oM]
   have:=b71 n h
   rw [Nat.sub_zero]
   omega
  have hok:x8 (f7 n)=true:=by
   unfold x8
   rw [hsg,P9 _ 0 (Nat.zero_le _) hall]
   simp [hb0];right;omega
  unfold f8
  rw [if_pos hok,hsg,if_neg oM,b2e _ 0 (Nat.zero_le _),hs,d3v n _ h (Nat.le_refl _),Nat.sub_self,List.drop_zero,B4]
theorem W7 (c:UInt8) (s:f6) (k:Nat):bt (c :: s) (k+1)=bt s k:=by simp [bt]
theorem c2g (c:UInt8) (s:f6) (k acc:Nat):u2 (c :: s) (k+1) acc=u2 s k acc:=by
 fun_induction u2 s k acc with
 | case1 k acc h ih=>rw [u2,if_pos (by simp;omega),W7,ih]
 | case2 k acc h=>rw [u2,if_neg (by simp;omega)]
theorem b13 (c:UInt8) (s:f6) (k:Nat):j8 (c :: s) (k+1)=j8 s k+1:=by
 fun_induction j8 s k with
 | case1 k h1 h2 ih=>rw [j8,if_pos (by simp;omega),W7,if_pos h2,ih]
 | case2 k h1 h2=>rw [j8,if_pos (by simp;omega),W7,if_neg h2]
 | case3 k h=>rw [j8,if_neg (by simp;omega)]
theorem Y9 (n:Nat) (h:n ≠ 0):(∀ j,0≤j→j < (f7 n).length→48≤bt (f7 n) j∧bt (f7 n) j≤57)∧bt (f7 n) 0 ≠ 48∧0 < (f7 n).length:=by
 have hs:=L2 n h
 have hl:(i6 n).length ≠ 0:=by rw [E1 h];simp
 refine ⟨?_,?_,oM⟩
 ·intro j _ hj
  rw [a1e n j h oM]
  have hlt:(i6 n).length - 1 - j < (i6 n).length:=oM
  have:=C4 n ((i6 n)[(i6 n).length - 1 - j]) (List.getElem_mem hlt)
  simp only [List.getD,List.getElem?_eq_getElem hlt,Option.getD_some]
  omega
 ·rw [a1e n 0 h oM]
  have:=b71 n h
  rw [Nat.sub_zero]
  omega
theorem c7y (n:Nat) (h:n ≠ 0):f8 (45 :: f7 n)=-(n:Int):=by
 obtain ⟨h1,h2,h3⟩:=Y9 n h
 have hsg:g9 (45 :: f7 n)=1:=by unfold g9;rw [if_pos];exact ⟨by simp,rfl⟩
 have hsg0:g9 (f7 n)=0:=by unfold g9;rw [if_neg];have:=h1 0 (Nat.le_refl _) h3;omega
 have hok:x8 (45 :: f7 n)=true:=by
  unfold x8
  rw [hsg,show (1:Nat)=0+1 from rfl,b13,W7,P9 _ 0 (Nat.zero_le _) h1]
  simp [h2];right;omega
 have hv:=D7 n
 have hok0:x8 (f7 n)=true:=by
  unfold x8
  rw [hsg0,P9 _ 0 (Nat.zero_le _) h1]
  simp [h2];right;omega
 unfold f8 at hv
 rw [if_pos hok0,hsg0,if_neg oM] at hv
 unfold f8
 rw [if_pos hok,hsg,if_pos rfl,show (1:Nat)=0+1 from rfl,c2g,hv]
theorem x7 (n:Int):f8 (g7 n)=n:=by
 unfold g7
 split
 ·rename_i h
  show f8 (45 :: f7 n.natAbs)=n
  rw [c7y _ oM];omega
 ·rw [D7];omega
theorem Y8 {a b:Int} (h:g7 a=g7 b):a=b:=by rw [← x7 a,h,x7]
theorem a2g {a b:Nat} (h:f7 a=f7 b):a=b:=by
 have:=congrArg f8 h
 rw [D7,D7] at this
 omega
end LQ
namespace Go.Proofs.YtgipbdffgfbedaaGreatDoor
open Go.Abs LQ
noncomputable section
abbrev Sy:=f6 × f6
inductive O where
 | num (n:Int) (d:Nat)
 | sy (s:Sy)
 | tx (s:f6)
 | co (a d:O)
 | no
namespace O
def k:O→Int
 | num _ _=>1
 | sy _=>2
 | tx _=>3
 | co _ _=>4
 | no=>0
def nu:O→f6
 | num n _=>g7 n
 | _=>[]
def de:O→f6
 | num _ d=>f7 d
 | _=>[]
def sym:O→Sy
 | sy s=>s
 | _=>([],[])
def txt:O→f6
 | tx s=>s
 | _=>[]
def ps:O→List O
 | co a d=>[a,d]
 | _=>[]
def g:O→List G
 | num n d=>[.i .i64 1,.s (g7 n),.s (f7 d),.s [],.s [],.s [],.l []]
 | sy s=>[.i .i64 2,.s [],.s [],.s s.1,.s s.2,.s [],.l []]
 | tx s=>[.i .i64 3,.s [],.s [],.s [],.s [],.s s,.l []]
 | co a d=>[.i .i64 4,.s [],.s [],.s [],.s [],.s [],.l [a.g,d.g]]
 | no=>[.i .i64 0,.s [],.s [],.s [],.s [],.s [],.l []]
theorem g_eq (a:O):a.g=[.i .i64 a.k,.s a.nu,.s a.de,.s a.sym.1,.s a.sym.2,.s a.txt,.l (a.ps.map O.g)]:=by cases a <;> rfl
theorem g_len (a:O):a.g.length=7:=by cases a <;> rfl
theorem ps_le (a:O):a.ps.length≤2:=by cases a <;> simp [ps]
theorem ps_fuel (a:O):a.ps.length - 0 < y8:=by cases a <;> simp [ps,y8]
theorem ext {a b:O} (h1:a.k=b.k) (h2:a.nu=b.nu) (h3:a.de=b.de) (h4:a.sym=b.sym) (h5:a.txt=b.txt) (h6:a.ps=b.ps):a=b:=by
 cases a <;> cases b <;> simp_all [k,nu,de,sym,txt,ps]
 exact ⟨Y8 h2,a2g h3⟩
theorem g_inj:∀ {a b:O},a.g=b.g→a=b:=by
 intro a
 induction a with
 | num n d=>intro b h;cases b <;> simp only [g,List.cons.injEq,G.s.injEq,G.i.injEq,reduceCtorEq,and_true,true_and,false_and,and_false,Int.reduceEq] at h;exact (congrArg (O.num · _) (Y8 h.1)).trans (congrArg (O.num _) (a2g h.2))
 | sy s=>intro b h;cases b <;> simp [g] at h;exact congrArg O.sy (Prod.ext h.1 h.2)
 | tx s=>intro b h;cases b <;> simp [g] at h;rw [h]
 | co a d iha ihd=>intro b h;cases b <;> simp [g] at h;rw [iha h.1,ihd h.2]
 | no=>intro b h;cases b <;> simp [g] at h;rfl
open Classical in
def eqb (a b:O):Bool:=decide (a=b)
theorem eqb_t {a b:O}:eqb a b=true↔a=b:=by unfold eqb;simp
theorem eqb_f {a b:O}:eqb a b=false↔¬a=b:=by unfold eqb;simp
def size:O→Nat
 | co a d=>1+a.size+d.size
 | _=>1
theorem size_pos (a:O):0 < a.size:=by cases a <;> simp [size] <;> omega
theorem ps_size (a:O):∀ x ∈ a.ps,x.size < a.size:=by cases a <;> simp [ps,size] <;> omega
end O
theorem c2d:∀ {l m:List O},l.map O.g=m.map O.g→l=m
 | [],[],_=>rfl
 | [],_ :: _,h=>by simp at h
 | _ :: _,[],h=>by simp at h
 | a :: l,b :: m,h=>by simp only [List.map_cons,List.cons.injEq] at h;exact congr (congrArg List.cons (O.g_inj h.1)) (c2d h.2)
theorem b3y {x y:O} {vs:List V} (h:j6 [.a x.g] vs) (k:j6 [.a y.g] vs):x=y:=by
 cases h with | cons _ _ v _ h _=>cases k with | cons _ _ _ _ k _=>exact O.g_inj (h.a_inj k)
theorem c0q {x y x' y':O} {vs:List V} (h:j6 [.a x.g,.a x'.g] vs) (k:j6 [.a y.g,.a y'.g] vs):x=y∧x'=y':=by
 cases h with | cons _ _ v _ h h'=>cases k with | cons _ _ _ _ k k'=>exact ⟨O.g_inj (h.a_inj k),b3y h' k'⟩
end
end Go.Proofs.YtgipbdffgfbedaaGreatDoor
namespace Go.Proofs.YtgipbdffgfbedaaGreatDoor
open Go.Abs LQ
structure Tr (p q:Prop):Prop where
 go:q→p
theorem Tr.refl {p:Prop}:Tr p p:=⟨id⟩
theorem Tr.b {p p' q:Prop} (f:p'→p) (h:Tr p' q):Tr p q:=⟨fun k=>f (h.go k)⟩
theorem Tr.all {α:Sort _} {p q:α→Prop} (h:∀ x,Tr (p x) (q x)):Tr (∀ x,p x) (∀ x,q x):=⟨fun k x=>(h x).go (k x)⟩
theorem Tr.chk {U:q7} {P:J0→List Bx→Prop} {b:Bool} {p q:Prop} {x:Om} (ht:I9 U b p) (hp:p) (h:Tr (g8 U x P) q):Tr (g8 U (U.chk b x) P) q:=⟨fun k=>e6p ht hp (h.go k)⟩
theorem Tr.cnd {U:q7} {P:J0→List Bx→Prop} {b:Bool} {p:Prop} {q1:p→Prop} {q2:¬p→Prop} {x y:Om} (ht:I9 U b p) (h:∀ a,Tr (g8 U x P) (q1 a)) (k:∀ a,Tr (g8 U y P) (q2 a)):Tr (g8 U (U.cnd b x y) P) ((∀ a,q1 a)∧(∀ a,q2 a)):=⟨fun g=>b3n ht (fun a=>(h a).go (g.1 a)) (fun a=>(k a).go (g.2 a))⟩
theorem Zx {p q:Prop} (k:q) (h:Tr p q:=by ((repeat' (first | (with_reducible apply Tr.all) | (with_reducible intro _) | (apply Tr.b;(case f=>first | exact b5k | exact W5 aS | exact c29 | exact b5m aS | exact b5l | exact a7i aS | exact b0n | exact b1r aS | exact sP | exact sPR aS | exact sIV | exact sI aS | exact sBV | exact sBK | exact sB aS | exact sSV | exact sS aS | exact sA | exact S7 aS (by rfl) | exact b7d (by rfl) | exact c3b (by rfl) | exact c0c aS (by rfl) | exact c3c aS (by rfl) | exact c9b aS | exact sSl aS | exact sTu aS | exact sBo | exact b0l aS (by rfl) | exact sBc | exact c89 aS | exact sBt | exact sBs | exact sBr | exact a7j aS | exact b5s aS | exact b5o aS (by rfl) | exact c9a aS (by rfl) | exact sCI' aS (by rfl) | exact sCB' aS (by rfl) | exact sCS aS | exact sCI aS | exact sCB aS | exact b5q (by first | omega | (simp only [List.length_map] at *;omega)) | exact b5p (by first | omega | (simp only [List.length_map] at *;omega)) | exact c0e | exact b1s | exact b1u | exact c0d | exact b5r | exact b5n | exact sfSubN | exact b1t | exact sfBSelE | exact sfB | exact sJn | exact c0b | exact b99 | exact c0a | exact B5 aS (by (first | exact u0 O.g_len | exact u0 (fun _=>rfl))) | exact b0m aS (by (first | exact u0 O.g_len | exact u0 (fun _=>rfl))) | exact c0g (by first | omega | (simp only [List.length_map] at *;omega)) | exact b5t (by first | omega | (simp only [List.length_map] at *;omega)) | exact c9e aS (by first | assumption | omega | (simp only [List.length_map] at *;omega)) | exact sfT aS (by rfl))) | (apply Tr.chk;(case ht=>(repeat' (first | exact trT | exact trF | apply a3y | apply a3v | exact a3x | exact a3w | exact a3a | exact a5a | exact a49 | exact a1k | exact a1l | exact a1j | exact a1i | exact a1h | exact a30 | exact a81 | exact a6o | exact trS | exact trV)));(case hp=>first | omega | (simp only [List.length_map] at *;omega))) | (apply Tr.cnd;(case ht=>(repeat' (first | exact trT | exact trF | apply a3y | apply a3v | exact a3x | exact a3w | exact a3a | exact a5a | exact a49 | exact a1k | exact a1l | exact a1j | exact a1i | exact a1h | exact a30 | exact a81 | exact a6o | exact trS | exact trV))))));all_goals exact Tr.refl)):p:=h.go k
theorem Zy {p q:Prop} (k:q) (h:Tr p q:=by ((repeat' (first | (with_reducible apply Tr.all) | (with_reducible intro _) | (apply Tr.b;(case f=>first | exact b5k | exact W5 aS | exact c29 | exact b5m aS | exact b5l | exact a7i aS | exact b0n | exact b1r aS | exact sP | exact sPR aS | exact sIV | exact sI aS | exact sBV | exact sBK | exact sB aS | exact sSV | exact sS aS | exact sA | exact S7 aS (by rfl) | exact b7d (by rfl) | exact c3b (by rfl) | exact c0c aS (by rfl) | exact c3c aS (by rfl) | exact c9b aS | exact sSl aS | exact sTu aS | exact sBo | exact b0l aS (by rfl) | exact sBc | exact c89 aS | exact sBt | exact sBs | exact sBr | exact a7j aS | exact b5s aS | exact b5o aS (by rfl) | exact c9a aS (by rfl) | exact sCI' aS (by rfl) | exact sCB' aS (by rfl) | exact sCS aS | exact sCI aS | exact sCB aS | exact b5q (by first | omega | (simp only [List.length_map] at *;omega)) | exact b5p (by first | omega | (simp only [List.length_map] at *;omega)) | exact c0e | exact b1s | exact b1u | exact c0d | exact b5r | exact b5n | exact sfSubN | exact b1t | exact sfBSelE | exact sfB | exact c0b | exact b99 | exact c0a | exact B5 aS (by (first | exact u0 O.g_len | exact u0 (fun _=>rfl))) | exact b0m aS (by (first | exact u0 O.g_len | exact u0 (fun _=>rfl))) | exact c0g (by first | omega | (simp only [List.length_map] at *;omega)) | exact b5t (by first | omega | (simp only [List.length_map] at *;omega)) | exact c9e aS (by first | assumption | omega | (simp only [List.length_map] at *;omega)) | exact sfT aS (by rfl))) | (apply Tr.chk;(case ht=>(repeat' (first | exact trT | exact trF | apply a3y | apply a3v | exact a3x | exact a3w | exact a3a | exact a5a | exact a49 | exact a1k | exact a1l | exact a1j | exact a1i | exact a1h | exact a30 | exact a81 | exact a6o | exact trS | exact trV)));(case hp=>first | omega | (simp only [List.length_map] at *;omega))) | (apply Tr.cnd;(case ht=>(repeat' (first | exact trT | exact trF | apply a3y | apply a3v | exact a3x | exact a3w | exact a3a | exact a5a | exact a49 | exact a1k | exact a1l | exact a1j | exact a1i | exact a1h | exact a30 | exact a81 | exact a6o | exact trS | exact trV))))));all_goals exact Tr.refl)):p:=h.go k
theorem j3 {p:Prop} (h:p:=by (repeat' (first | exact j6.nil | refine j6.cons _ _ _ _ ?_ ?_ | exact RBs.nil | assumption | exact RV.i _ _ | exact RV.b _ | exact RV.kn _ | exact RV.s _ _ _ rfl rfl | refine RV.a _ _ _ (by first | rfl | exact (O.g_len _).symm) aS | refine RV.sl _ _ _ _ _ (by first | rfl | simp) aS | refine RV.q _ _ aS | exact RV.p _ _ | exact RV.cl _ _ _ _ _ rfl (n7.nil _ _ _) | refine RV.ag _ _ ?_ | refine RV.t _ _ ?_ | refine RV.sl _ _ _ _ _ (by rfl) (n7.nil _ _ _) | exact RV.sl0 _ _ _ | refine RV.s _ _ _ (by rfl) (by rfl)))):p:=h
theorem Zru {p:Prop} (h:p:=by (repeat' (first | exact j6.nil | refine j6.cons _ _ _ _ ?_ ?_ | exact RBs.nil | assumption | exact RV.i _ _ | exact RV.b _ | exact RV.kn _ | exact RV.s _ _ _ rfl rfl | refine RV.q _ _ (u3.at aS (by rfl)) | refine RV.a _ _ _ (by first | rfl | exact (O.g_len _).symm) aS | refine RV.q _ _ aS | refine RV.cl _ _ _ _ _ rfl (n7.nil _ _ _) | refine RV.ag _ _ ?_ | refine RV.t _ _ ?_ | refine RV.s _ _ _ (by rfl) (by rfl)))):p:=h
theorem aI {a b:Prop} (left:a) (right:b):a∧b:=⟨left,right⟩
theorem oV {a:O} {x:Q} (h:u3 a.g x 0:=by assumption):RV (.a a.g) (.a x 7):=.a _ _ _ a.g_len.symm h
theorem oA {a:O} {x:Q} (h:u3 a.g x 0:=by assumption):j6 [.a a.g] [.a x 7]:=.cons _ _ _ _ (oV h) .nil
theorem oR {U:q7} {P:J0→List Bx→Prop} {a:O} {v:V} {K:Q→Om} (k:∀ q,u3 a.g q 0→g8 U (K q) P) (h:RV (.a a.g) v:=by assumption):g8 U (U.uA 7 v K) P:=S7 h a.g_len k
end Go.Proofs.YtgipbdffgfbedaaGreatDoor
