/- Plain functions on texts: D5. No program in sight. -/
import Derived.Test.YtdldcfllnohkeaaGreatDoorKG
set_option linter.all false
namespace LQ
abbrev f5:=List UInt8
def bt (s:f5) (k:Nat):Int:=((s.getD k 0).toNat:Int)
theorem c1k (s:f5) (k:Nat):bt s k < 256:=by unfold bt;have:=(s.getD k 0).toNat_lt;omega
theorem a57 (s:f5) (k:Nat):0≤bt s k:=by unfold bt;omega
def t6 (c:Int):Bool:=decide (33≤c∧c≤126∧c ≠ 40∧c ≠ 41∧c ≠ 39∧c ≠ 34∧c ≠ 59∧c ≠ 124∧c ≠ 58)
def G5 (c:Int):Bool:=decide (c=32∨c=9∨c=10∨c=13)
def has (s:f5) (i:Nat) (a b:Int):Bool:=decide (i+1 < s.length∧bt s i=a∧bt s (i+1)=b)

def k9 (s:f5) (i:Nat):Nat :=
 if i < s.length then if t6 (bt s i) then k9 s (i+1) else i else i
termination_by s.length - i
def L9 (s:f5) (i:Nat):Nat :=
 if i < s.length then if bt s i=10 then i else L9 s (i+1) else i
termination_by s.length - i
def D4 (s:f5) (i depth:Nat):Option Nat :=
 if depth=0 then some i
 else if i < s.length then
  if has s i 35 124 then D4 s (i+2) (depth+1)
  else if has s i 124 35 then D4 s (i+2) (depth - 1)
  else D4 s (i+1) depth
 else none
termination_by s.length - i
theorem a88 (s:f5) (i:Nat) (h:i≤s.length):i≤L9 s i∧L9 s i≤s.length:=by
 fun_induction L9 s i <;> omega
theorem G9 (s:f5) (i:Nat) (h:i≤s.length):i≤k9 s i∧k9 s i≤s.length:=by
 fun_induction k9 s i <;> omega
theorem X3 {s:f5} {i:Nat} {a b:Int} (h:has s i a b=true):i+1 < s.length:=by simp [has] at h;exact h.1
theorem b0v (s:f5) (i depth j:Nat) (hi:i≤s.length) (h:D4 s i depth=some j):i≤j∧j≤s.length:=by
 fun_induction D4 s i depth
 ·simp at h;omega
 ·rename_i hh ih;have:=X3 hh;have:=ih oM h;omega
 ·rename_i hh ih;have:=X3 hh;have:=ih oM h;omega
 ·rename_i ih;have:=ih oM h;omega
 ·simp at h
def skip (s:f5) (i:Nat):Option Nat :=
 if i < s.length then
  if G5 (bt s i) then skip s (i+1)
  else if bt s i=59 then (if i < L9 s i then skip s (L9 s i) else some i)
  else if has s i 35 124 then
   match D4 s (i+2) 1 with
   | none=>none
   | some j=>if i < j then skip s j else some i
  else some i
 else some i
termination_by s.length - i
theorem b54 (s:f5) (i:Nat) (h:i < s.length) (hb:bt s i ≠ 10):i < L9 s i:=by
 rw [L9,if_pos h,if_neg hb];have:=a88 s (i+1) oM;omega

def Q4 (c:Int):Bool:=decide (48≤c∧c≤57)
def j7 (s:f5) (k:Nat):Nat :=
 if k < s.length then if Q4 (bt s k) then j7 s (k+1) else k else k
termination_by s.length - k
theorem d3c (s:f5) (i:Nat) (h:i≤s.length):i≤j7 s i∧j7 s i≤s.length:=by
 fun_induction j7 s i <;> omega
def F5 (s:f5) (k:Nat):Nat :=
 if k < s.length then if bt s k=48 then F5 s (k+1) else k else k
termination_by s.length - k
theorem a97 (s:f5) (i:Nat) (h:i≤s.length):i≤F5 s i∧F5 s i≤s.length:=by
 fun_induction F5 s i <;> omega
def g8 (s:f5):Nat:=if 0 < s.length∧bt s 0=45 then 1 else 0
theorem O0 (s:f5):g8 s≤s.length∧g8 s≤1:=by unfold g8;split <;> omega
def s8:f5:=[]
def Q6:f5:=[49]
def x5:f5:=[48]
def m6 (s:f5):f5 × f5 × Bool :=
 let i:=g8 s
 let k:=j7 s i
 if k=i then (s8,s8,false)
 else if k=s.length then (s,Q6,true)
 else if bt s k ≠ 47∨k+1=s.length then (s8,s8,false)
 else if j7 s (k+1)=s.length then (((s.take (k)).drop (0)),((s.take (s.length)).drop ((k+1))),true)
 else (s8,s8,false)
def plain (s:f5):f5 :=
 let i:=F5 s (g8 s)
 if i=s.length then x5
 else if g8 s=1 then ([45]:f5) ++ ((s.take (s.length)).drop (i))
 else ((s.take (s.length)).drop (i))
def a08 (c:Int):Bool:=decide ((97≤c∧c≤122)∨(48≤c∧c≤57)∨c=45)
def F4 (s:f5) (k:Nat):Bool:=if k < s.length then if a08 (bt s k) then F4 s (k+1) else false else true
termination_by s.length - k
def n5 (s:f5):Bool:=decide (1≤s.length∧s.length≤40∧97≤bt s 0∧bt s 0≤122) && F4 s 0
def n8 (text pkg:f5) (bars:Bool):Int :=
 if 40 < text.length then 2
 else if (bars=true∧text.length=0)∨(pkg.length ≠ 0∧n5 pkg=false) then 3 else 0
def H7 (s:f5) (c:Int) (i:Nat) (acc:List Int):Except (Int × Nat) (List Int × Nat) :=
 if i < s.length then
  if bt s i=c then .ok (acc,i+1)
  else if bt s i ≠ 92 then H7 s c (i+1) (acc ++ [bt s i])
  else if i+1 < s.length then
   if bt s (i+1) ≠ c∧bt s (i+1) ≠ 92 then .error (12,i)
   else H7 s c (i+2) (acc ++ [bt s (i+1)])
  else .error (11,s.length)
 else .error (11,s.length)
termination_by s.length - i
def x9 (s:f5):Bool :=
 decide (s=x5) || (decide (g8 s < s.length∧bt s (g8 s) ≠ 48) && decide (j7 s (g8 s)=s.length))
def u4 (s:f5) (k:Nat) (acc:Nat):Nat:=if k < s.length then u4 s (k+1) (10 * acc+(bt s k - 48).toNat) else acc
termination_by s.length - k
def f7 (s:f5):Int:=if x9 s then (if g8 s=1 then -(u4 s 1 0:Int) else (u4 s 0 0:Int)) else 0
def i6 (n:Nat):List Nat:=if h:n=0 then [] else n % 10 :: i6 (n / 10)
termination_by n
def f8 (n:Nat):f5:=if n=0 then x5 else ((i6 n).reverse.map fun d=>UInt8.ofNat (48+d))
def f9 (n:Int):f5:=if n < 0 then [45] ++ f8 n.natAbs else f8 n.natAbs
def o7 (num den:f5):f5 × f5 :=
 if f7 den=0 then (x5,Q6)
 else
  let g:=Nat.gcd (f7 num).natAbs (f7 den).natAbs
  (f9 ((if (f7 num < 0)=(f7 den < 0) then 1 else -1) * (((f7 num).natAbs / g:Nat):Int)),f8 ((f7 den).natAbs / g))
def A8 (a:f5):Nat:=max 1 (i6 (f7 a).natAbs).length

structure A6 where
 kind:Int
 pos:Nat
 pkg:f5
 text:f5
 den:f5
def E6 (l:List Int):f5:=(l.map fun n=>UInt8.ofNat n.toNat)
def J5 (s:f5) (i:Nat) (pkg:f5) (k:Nat):Except (Int × Nat) (A6 × Nat) :=
 if k+2 < s.length then
  if bt s (k+2)=124 then
   match H7 s 124 (k+2+1) [] with
   | .error e=>.error e
   | .ok (l,j)=>if n8 (E6 l) pkg true=0 then .ok (⟨6,i,pkg,E6 l,s8⟩,j) else .error (n8 (E6 l) pkg true,i)
  else if t6 (bt s (k+2)) then
   let j:=k9 s (k+2)
   let t:=((s.take (j)).drop ((k+2)))
   if n8 t pkg false=0 then .ok (⟨6,i,pkg,t,s8⟩,j) else .error (n8 t pkg false,i)
  else .error (12,k+2)
 else .error (11,s.length)
def H0 (i:Nat) (t:f5) (k:Nat):Except (Int × Nat) (A6 × Nat) :=
 if t=[46] then .ok (⟨3,i,s8,s8,s8⟩,k)
 else if (m6 t).2.2 then
  if plain (m6 t).2.1=x5 then .error (12,i)
  else
   let r:=o7 (plain (m6 t).1) (plain (m6 t).2.1)
   if 100 < A8 r.1∨100 < A8 r.2 then .error (2,i) else .ok (⟨5,i,s8,r.1,r.2⟩,k)
 else if n8 t s8 false=0 then .ok (⟨6,i,s8,t,s8⟩,k) else .error (n8 t s8 false,i)
def A0 (s:f5) (i:Nat):Except (Int × Nat) (A6 × Nat) :=
 if bt s i=40 then .ok (⟨1,i,s8,s8,s8⟩,i+1)
 else if bt s i=41 then .ok (⟨2,i,s8,s8,s8⟩,i+1)
 else if bt s i=39 then .ok (⟨4,i,s8,s8,s8⟩,i+1)
 else if bt s i=34 then
  match H7 s 34 (i+1) [] with
  | .error e=>.error e
  | .ok (l,j)=>if 200 < l.length then .error (2,i) else .ok (⟨7,i,s8,E6 l,s8⟩,j)
 else if bt s i=124 then
  match H7 s 124 (i+1) [] with
  | .error e=>.error e
  | .ok (l,j)=>if n8 (E6 l) s8 true=0 then .ok (⟨6,i,s8,E6 l,s8⟩,j) else .error (n8 (E6 l) s8 true,i)
 else if t6 (bt s i) then
  if has s (k9 s i) 58 58 then J5 s i (((s.take ((k9 s i))).drop (i))) (k9 s i)
  else H0 i (((s.take ((k9 s i))).drop (i))) (k9 s i)
 else .error (12,i)
def y8 (s:f5) (i:Nat) (acc:List A6):Except (Int × Nat) (List A6) :=
 match skip s i with
 | none=>.error (11,s.length)
 | some j =>
  if j < s.length then
   match A0 s j with
   | .error e=>.error e
   | .ok (t,k)=>if i < k∧i < s.length then y8 s k (acc ++ [t]) else .error (0,0)
  else .ok (acc ++ [⟨0,s.length,s8,s8,s8⟩])
termination_by s.length - i
def D5 (s:f5):Except (Int × Nat) (List A6):=if 6000 < s.length then .error (2,0) else y8 s 0 []
theorem Y2 (s:f5) (i j:Nat) (hi:i≤j) (hj:j < j7 s i):48≤bt s j∧bt s j≤57:=by
 fun_induction j7 s i with
 | case1 i h1 h2 ih =>
  by_cases h:j=i
  ·subst h;simpa [Q4] using h2
  ·exact ih oM hj
 | case2=>omega
 | case3=>omega
def u1 (s:f5) (e:Nat):Nat→List Nat→List Nat
 | 0,acc=>acc
 | k+1,acc=>if e≤k then u1 s e k (acc ++ [(bt s k - 48).toNat]) else acc
def Z4 (s:f5):Bool × List Nat :=
 if x9 s=true∧s ≠ x5 then (decide (g8 s=1),u1 s (g8 s) s.length []) else (false,[])
def S7 (l:List Nat):Nat→Nat
 | 0=>0
 | n+1=>if l.getD n 0=0 then S7 l n else n+1
def E3 (l:List Nat):List Nat:=l.take (S7 l l.length)
def F3 (a b:List Nat):Nat→Int
 | 0=>0
 | k+1=>if a.getD k 0 < b.getD k 0 then -1 else if b.getD k 0 < a.getD k 0 then 1 else F3 a b k
def Q0 (a b:List Nat):Int :=
 if a.length=b.length then F3 a b a.length else if a.length < b.length then -1 else 1
def J2 (a b:List Nat) (i bor:Nat):Int:=(a.getD i 0:Int) - bor - (if i < b.length then (b.getD i 0:Int) else 0)
def O7 (a b:List Nat) (i bor:Nat) (acc:List Nat):List Nat :=
 if i < a.length then
  if J2 a b i bor < 0 then O7 a b (i+1) 1 (acc ++ [(J2 a b i bor+10).toNat])
  else O7 a b (i+1) 0 (acc ++ [(J2 a b i bor).toNat])
 else acc
termination_by a.length - i
def b8u (a b:List Nat):List Nat:=E3 (O7 a b 0 0 [])
theorem c5b {s:f5} {k:Nat} (h:¬k < s.length):skip s k=some k:=by rw [skip,if_neg h]
theorem d1z {s:f5} {k:Nat} (h:k < s.length) (hb:G5 (bt s k)=true):skip s k=skip s (k+1):=by
 rw [skip,if_pos h,if_pos hb]
theorem c0p {s:f5} {k:Nat} (h:k < s.length) (hb:G5 (bt s k)=false) (h9:bt s k=59):skip s k=skip s (L9 s k):=by
 rw [skip,if_pos h,if_neg (by simp [hb]),if_pos h9,if_pos (b54 s k h oM)]
theorem b1x {s:f5} {k:Nat} (h:k < s.length) (hb:G5 (bt s k)=false) (h9:bt s k ≠ 59) (hh:has s k 35 124=false):skip s k=some k:=by
 rw [skip,if_pos h,if_neg (by simp [hb]),if_neg h9,if_neg (by simp [hh])]
theorem d99 {s:f5} {k j:Nat} (h:k < s.length) (hb:G5 (bt s k)=false) (h9:bt s k ≠ 59) (hh:has s k 35 124=true) (hc:D4 s (k+2) 1=some j):skip s k=skip s j:=by
 have:=X3 hh
 have:=b0v s (k+2) 1 j oM hc
 rw [skip,if_pos h,if_neg (by simp [hb]),if_neg h9,if_pos hh,hc];simp only [];rw [if_pos oM]
theorem d5f {s:f5} {k:Nat} (h:k < s.length) (hb:G5 (bt s k)=false) (h9:bt s k ≠ 59) (hh:has s k 35 124=true) (hc:D4 s (k+2) 1=none):skip s k=none:=by
 rw [skip,if_pos h,if_neg (by simp [hb]),if_neg h9,if_pos hh,hc]
def val:List Nat→Nat
 | []=>0
 | d :: t=>d+10 * val t
def D9 (l:List Nat):Prop:=∀ d ∈ l,d≤9
theorem u9:i6 0=[]:=by rw [i6];simp
theorem D6 {n:Nat} (h:n ≠ 0):i6 n=n % 10 :: i6 (n / 10):=by rw [i6,dif_neg h]
theorem B6 (n:Nat):val (i6 n)=n:=by
 induction n using Nat.strongRecOn with
 | _ n ih =>
  by_cases h:n=0
  ·subst h;rw [u9];rfl
  ·rw [D6 h,val,ih (n / 10) oM];omega
theorem C2 (n:Nat):D9 (i6 n):=by
 induction n using Nat.strongRecOn with
 | _ n ih =>
  by_cases h:n=0
  ·subst h;rw [u9];intro d hd;simp at hd
  ·rw [D6 h];intro d hd;simp at hd
   rcases hd with rfl | hd
   ·omega
   ·exact ih (n / 10) oM d hd
theorem b9e {d m:Nat} (hd:d≤9) (h:d ≠ 0∨m ≠ 0):i6 (d+10 * m)=d :: i6 m:=by
 rw [D6 oM];congr 1
 ·omega
 ·congr 1;omega
theorem a4l (a b:List Nat):val (a ++ b)=val a+10 ^ a.length * val b:=by
 induction a with
 | nil=>simp [val]
 | cons d t ih=>simp only [List.cons_append,val,ih,List.length_cons,Nat.pow_succ];rw [Nat.mul_add,← Nat.mul_assoc,Nat.mul_comm (10 ^ t.length) 10];omega
theorem b9h (t:List Nat) (d:Nat) (h9:D9 (t ++ [d])) (hd:d ≠ 0):i6 (val (t ++ [d]))=t ++ [d]:=by
 induction t with
 | nil =>
  have:d≤9:=h9 d (by simp)
  simp only [List.nil_append,val]
  rw [Nat.mul_zero,← Nat.mul_zero 10,b9e this (.inl hd),u9]
 | cons x t ih =>
  simp only [List.cons_append,val]
  rw [b9e (h9 x (by simp)),ih (fun y hy=>h9 y (by simp at hy ⊢;exact .inr hy))]
  refine .inr fun h0=>hd ?_
  have h2:=a4l t [d]
  rw [h0] at h2
  simp only [val] at h2
  have h3:0 < 10 ^ t.length:=Nat.pow_pos oM
  rw [Nat.mul_zero,Nat.add_zero] at h2
  have h4:10 ^ t.length * d=0:=oM
  rcases Nat.mul_eq_zero.1 h4 with h | h <;> omega
theorem d2f (l:List Nat) (h9:D9 l) (n:Nat) (hn:n≤l.length):l.take (S7 l n)=i6 (val (l.take n)):=by
 induction n with
 | zero=>simp [S7,val,u9]
 | succ n ih =>
  have hlt:n < l.length:=oM
  have htk:l.take (n+1)=l.take n ++ [l.getD n 0]:=by
   rw [List.take_succ_eq_append_getElem hlt];simp [List.getD,hlt]
  simp only [S7]
  split
  ·rename_i h0
   rw [ih oM,htk,h0,a4l]
   simp [val]
  ·rename_i h0
   rw [htk,b9h _ _ _ h0]
   intro d hd
   rw [← htk] at hd
   exact h9 d (List.mem_of_mem_take hd)
theorem a4j (l:List Nat) (h9:D9 l):E3 l=i6 (val l):=by
 unfold E3;rw [d2f l h9 l.length (Nat.le_refl _),List.take_length]
def a3t:List Nat→List Nat→Nat→List Nat
 | [],_,_=>[]
 | x :: a,b,bor =>
  if (x:Int) - bor - (b.headD 0:Int) < 0 then ((x:Int) - bor - (b.headD 0:Int)+10).toNat :: a3t a b.tail 1
  else ((x:Int) - bor - (b.headD 0:Int)).toNat :: a3t a b.tail 0
theorem b3p (a b:List Nat) (i bor:Nat):J2 a b i bor=(a.getD i 0:Int) - bor - ((b.drop i).headD 0:Int):=by
 unfold J2
 rcases Nat.lt_or_ge i b.length with h | h
 ·rw [if_pos h,List.drop_eq_getElem_cons h];simp [List.getD,h]
 ·rw [if_neg oM,List.drop_eq_nil_of_le h];simp
theorem d18 (a b:List Nat) (i bor:Nat) (acc:List Nat) (hi:i≤a.length):O7 a b i bor acc=acc ++ a3t (a.drop i) (b.drop i) bor:=by
 fun_induction O7 a b i bor acc with
 | case1 i bor acc h1 h2 ih =>
  rw [ih oM,List.drop_eq_getElem_cons h1,a3t]
  rw [b3p] at h2 ⊢
  simp only [List.getD,List.getElem?_eq_getElem h1,Option.getD_some] at h2 ⊢
  rw [if_pos h2];simp
 | case2 i bor acc h1 h2 ih =>
  rw [ih oM,List.drop_eq_getElem_cons h1,a3t]
  rw [b3p] at h2 ⊢
  simp only [List.getD,List.getElem?_eq_getElem h1,Option.getD_some] at h2 ⊢
  rw [if_neg h2];simp
 | case3 i bor acc h1 =>
  rw [List.drop_eq_nil_of_le oM];simp [a3t]
theorem e0q (b:List Nat):val b=b.headD 0+10 * val b.tail:=by cases b <;> simp [val]
theorem e0c (a b:List Nat) (bor:Nat) (ha:D9 a) (hb:D9 b) (hbor:bor≤1) (h:val b+bor≤val a):val (a3t a b bor)+val b+bor=val a:=by
 induction a generalizing b bor with
 | nil=>simp [val] at h;simp [a3t,val];omega
 | cons x a ih =>
  have hx:x≤9:=ha x (by simp)
  have ha':D9 a:=fun d hd=>ha d (by simp [hd])
  have hb':D9 b.tail:=fun d hd=>hb d (List.mem_of_mem_tail hd)
  have hy:b.headD 0≤9:=by
   cases b with
   | nil=>simp
   | cons y t=>exact hb y (by simp)
  have hvb:=e0q b
  simp only [val] at h
  simp only [a3t]
  split
  ·rename_i hz
   have:=ih b.tail 1 ha' hb' oM oM
   simp only [val]
   omega
  ·rename_i hz
   have:=ih b.tail 0 ha' hb' oM oM
   simp only [val]
   omega
theorem e55 (a b:List Nat) (bor:Nat) (ha:D9 a) (hb:D9 b) (hbor:bor≤1):D9 (a3t a b bor):=by
 induction a generalizing b bor with
 | nil=>intro d hd;simp [a3t] at hd
 | cons x a ih =>
  have hx:x≤9:=ha x (by simp)
  have ha':D9 a:=fun d hd=>ha d (by simp [hd])
  have hb':D9 b.tail:=fun d hd=>hb d (List.mem_of_mem_tail hd)
  simp only [a3t]
  split
  ·rename_i hz;intro d hd
   rcases List.mem_cons.1 hd with rfl | hd
   ·omega
   ·exact ih b.tail 1 ha' hb' oM d hd
  ·rename_i hz;intro d hd
   rcases List.mem_cons.1 hd with rfl | hd
   ·omega
   ·exact ih b.tail 0 ha' hb' oM d hd
theorem d5m (x y:Nat) (h:y≤x):b8u (i6 x) (i6 y)=i6 (x - y):=by
 unfold b8u
 rw [d18 _ _ _ _ _ (Nat.zero_le _)]
 simp only [List.nil_append,List.drop_zero]
 rw [a4j _ (e55 _ _ _ (C2 x) (C2 y) oM)]
 have:=e0c (i6 x) (i6 y) 0 (C2 x) (C2 y) oM (by rw [B6,B6];omega)
 rw [B6,B6] at this
 congr 1;omega
theorem a13 (l:List Nat) (h9:D9 l):val l < 10 ^ l.length:=by
 induction l with
 | nil=>simp [val]
 | cons d t ih =>
  have h1:=ih (fun x hx=>h9 x (by simp [hx]))
  have h2:d≤9:=h9 d (by simp)
  simp only [val,List.length_cons,Nat.pow_succ]
  omega
theorem a7v (n:Nat) (h:n ≠ 0):10 ^ ((i6 n).length - 1)≤n:=by
 induction n using Nat.strongRecOn with
 | _ n ih =>
  rw [D6 h]
  simp only [List.length_cons,Nat.add_sub_cancel]
  by_cases h1:n / 10=0
  ·rw [h1,u9];simp;omega
  ·have:=ih (n / 10) oM h1
   have h2:(i6 (n / 10)).length ≠ 0:=by rw [D6 h1];simp
   have h3:10 ^ (i6 (n / 10)).length=10 * 10 ^ ((i6 (n / 10)).length - 1):=by
    rw [← Nat.pow_succ'];congr 1;omega
   omega
theorem c6r (a b:List Nat) (ha:D9 a) (hb:D9 b) (n:Nat) (hna:n≤a.length) (hnb:n≤b.length) :
  F3 a b n=if val (a.take n) < val (b.take n) then -1 else if val (b.take n) < val (a.take n) then 1 else 0:=by
 induction n with
 | zero=>simp [F3,val]
 | succ n ih =>
  have hla:n < a.length:=oM
  have hlb:n < b.length:=oM
  have e1:a.take (n+1)=a.take n ++ [a.getD n 0]:=by rw [List.take_succ_eq_append_getElem hla];simp [List.getD,hla]
  have e2:b.take (n+1)=b.take n ++ [b.getD n 0]:=by rw [List.take_succ_eq_append_getElem hlb];simp [List.getD,hlb]
  have v1:=a4l (a.take n) [a.getD n 0]
  have v2:=a4l (b.take n) [b.getD n 0]
  have l1:(a.take n).length=n:=by simp;omega
  have l2:(b.take n).length=n:=by simp;omega
  have b1:=a13 (a.take n) (fun d hd=>ha d (List.mem_of_mem_take hd))
  have b2:=a13 (b.take n) (fun d hd=>hb d (List.mem_of_mem_take hd))
  rw [l1] at v1 b1
  rw [l2] at v2 b2
  simp only [val,Nat.mul_zero,Nat.add_zero] at v1 v2
  rw [e1,e2,v1,v2]
  simp only [F3]
  rw [ih oM oM]
  generalize a.getD n 0=x at *
  generalize b.getD n 0=y at *
  generalize val (a.take n)=p at *
  generalize val (b.take n)=q at *
  generalize 10 ^ n=P at *
  by_cases h1:x < y
  ·have:P * (x+1)≤P * y:=Nat.mul_le_mul_left P h1
   rw [Nat.mul_add,Nat.mul_one] at this
   rw [if_pos h1,if_pos oM]
  ·rw [if_neg h1]
   by_cases h2:y < x
   ·have:P * (y+1)≤P * x:=Nat.mul_le_mul_left P h2
    rw [Nat.mul_add,Nat.mul_one] at this
    rw [if_pos h2,if_neg oM,if_pos oM]
   ·rw [if_neg h2]
    have h3:x=y:=oM
    subst h3
    simp only [Nat.add_lt_add_iff_right]
theorem d4p (x y:Nat):Q0 (i6 x) (i6 y)=if x < y then -1 else if y < x then 1 else 0:=by
 unfold Q0
 split
 ·rename_i h
  rw [c6r _ _ (C2 x) (C2 y) _ (Nat.le_refl _) oM,List.take_length,h,List.take_length,B6,B6]
 ·rename_i h
  have b1:=a13 (i6 x) (C2 x)
  have b2:=a13 (i6 y) (C2 y)
  rw [B6] at b1 b2
  split
  ·rename_i h2
   have hy:y ≠ 0:=by intro e;rw [e,u9] at h2;simp at h2
   have g2:=a7v y hy
   have:10 ^ (i6 x).length≤10 ^ ((i6 y).length - 1):=Nat.pow_le_pow_right oM oM
   rw [if_pos oM]
  ·rename_i h2
   have hx:x ≠ 0:=by intro e;rw [e,u9] at h h2;simp only [List.length_nil] at h h2;omega
   have g1:=a7v x hx
   have:10 ^ (i6 y).length≤10 ^ ((i6 x).length - 1):=Nat.pow_le_pow_right oM oM
   rw [if_neg oM,if_pos oM]

theorem c54 (s:f5) (e:Nat) (k:Nat) (acc:List Nat):u1 s e k acc=acc ++ u1 s e k []:=by
 induction k generalizing acc with
 | zero=>simp [u1]
 | succ k ih =>
  simp only [u1]
  split
  ·rw [ih (acc ++ _),ih ([] ++ _)];simp
  ·simp
theorem c6k (s:f5) (k acc:Nat) (hk:k≤s.length):u4 s k acc=acc * 10 ^ (s.length - k)+u4 s k 0:=by
 generalize hm:s.length - k=m
 induction m generalizing k acc with
 | zero=>rw [u4,if_neg oM,u4,if_neg oM];simp
 | succ m ih =>
  rw [u4,if_pos oM,u4.eq_def s k 0,if_pos oM,ih (k+1) _ oM oM,ih (k+1) (10 * 0+_) oM oM,Nat.pow_succ]
  rw [Nat.mul_zero,Nat.zero_add,Nat.add_mul,Nat.mul_comm 10 acc,Nat.mul_assoc,Nat.mul_comm 10 (10 ^ m)]
  omega
theorem a5d (s:f5) (e k:Nat) (h:e≤k):u1 s e (k+1) []=(bt s k - 48).toNat :: u1 s e k []:=by
 rw [u1,if_pos h,c54];simp
theorem c7p (s:f5) (e:Nat):u1 s e e []=[]:=by
 cases e with
 | zero=>rfl
 | succ e=>rw [u1,if_neg oM]
theorem c6m (s:f5) (e k:Nat) (he:e≤k) (hk:k≤s.length):u4 s e 0=u4 s k (val (u1 s e k [])):=by
 induction k with
 | zero=>obtain rfl:e=0:=oM
         rfl
 | succ k ih =>
  by_cases h:e=k+1
  ·subst h;rw [c7p];rfl
  ·rw [ih oM oM,a5d s e k oM,u4,if_pos oM]
   congr 1
   simp only [val];omega
theorem b3k (s:f5) (e:Nat) (he:e≤s.length):u4 s e 0=val (u1 s e s.length []):=by
 rw [c6m s e s.length he (Nat.le_refl _),u4,if_neg oM]
theorem c2v (s:f5) (e k:Nat) (h:e < k):∃ t,u1 s e k []=t ++ [(bt s e - 48).toNat]:=by
 induction k with
 | zero=>omega
 | succ k ih =>
  rw [a5d s e k oM]
  by_cases hk:e=k
  ·subst hk;exact ⟨[],by rw [c7p];rfl⟩
  ·obtain ⟨t,ht⟩:=ih oM
   exact ⟨_ :: t,by rw [ht];rfl⟩
theorem e67 (s:f5) (e k:Nat) (h:∀ j,e≤j→j < k→48≤bt s j∧bt s j≤57):D9 (u1 s e k []):=by
 induction k with
 | zero=>intro d hd;simp [u1] at hd
 | succ k ih =>
  by_cases he:e≤k
  ·rw [a5d s e k he]
   intro d hd
   rcases List.mem_cons.1 hd with rfl | hd
   ·have:=h k he oM;omega
   ·exact ih (fun j h1 h2=>h j h1 oM) d hd
  ·rw [u1,if_neg he];intro d hd;simp at hd
theorem a64:f7 x5=0:=by
 have h1:g8 x5=0:=dE
 have h2:u4 x5 0 0=0:=by rw [u4,if_pos dE,u4,if_neg dE];decide
 unfold f7
 rw [h1,h2];simp
theorem b2h (s:f5):Z4 s=(decide (f7 s < 0),i6 (f7 s).natAbs):=by
 unfold Z4
 split
 ·rename_i h
  obtain ⟨h1,h2⟩:=h
  have h3:g8 s < s.length∧bt s (g8 s) ≠ 48∧j7 s (g8 s)=s.length:=by
   simp [x9,h2] at h1;exact ⟨h1.1.1,h1.1.2,h1.2⟩
  have hall:∀ j,g8 s≤j→j < s.length→48≤bt s j∧bt s j≤57:=fun j a b=>Y2 s (g8 s) j a oM
  have h9:=e67 s (g8 s) s.length hall
  obtain ⟨t,ht⟩:=c2v s (g8 s) s.length h3.1
  have hd0:(bt s (g8 s) - 48).toNat ≠ 0:=by have:=hall (g8 s) (Nat.le_refl _) h3.1;omega
  have hcan:i6 (val (u1 s (g8 s) s.length []))=u1 s (g8 s) s.length []:=by
   rw [ht] at h9 ⊢;exact b9h t _ h9 hd0
  have hv:=b3k s (g8 s) oM
  have hpos:0 < u4 s (g8 s) 0:=by
   rcases Nat.eq_zero_or_pos (u4 s (g8 s) 0) with h | h
   ·rw [← hv,h,u9] at hcan;rw [ht] at hcan;simp at hcan
   ·exact h
  unfold f7
  rw [if_pos h1]
  have hs1:=O0 s
  by_cases hsg:g8 s=1
  ·rw [if_pos hsg]
   rw [hsg] at hcan hv hpos ⊢
   rw [hv,Int.natAbs_neg,Int.natAbs_natCast,hcan]
   congr 1
   rw [← hv];simp;omega
  ·have hs0:g8 s=0:=oM
   rw [if_neg hsg]
   rw [hs0] at hcan hv hpos ⊢
   rw [hv,Int.natAbs_natCast,hcan]
   congr 1
 ·rename_i h
  have:f7 s=0:=by
   by_cases h1:x9 s=true
   ·have:s=x5:=by
     by_cases h2:s=x5
     ·exact h2
     ·exact absurd ⟨h1,h2⟩ h
    rw [this];exact a64
   ·unfold f7;rw [if_neg h1]
  rw [this];simp [u9]
theorem d4q (X a y:Nat) (hy:0 < y):(a+10 * X) / y=(a+10 * (X % y)) / y+10 * (X / y)∧(a+10 * X) % y=(a+10 * (X % y)) % y:=by
 have h:=Nat.div_add_mod X y
 have e:a+10 * X=(a+10 * (X % y))+y * (10 * (X / y)):=by
  have:y * (10 * (X / y))=10 * (y * (X / y)):=by rw [Nat.mul_left_comm]
  rw [this];omega
 rw [e]
 exact ⟨by rw [Nat.add_mul_div_left _ _ hy],by rw [Nat.add_mul_mod_self_left]⟩
theorem d1c (R t y:Nat) (hy:0 < y) (h1:t * y≤R) (h2:R - t * y < y):R / y=t∧R % y=R - t * y:=by
 have e:R=(R - t * y)+y * t:=by rw [Nat.mul_comm y t];omega
 constructor
 ·rw [e,Nat.add_mul_div_left _ _ hy,Nat.div_eq_of_lt h2];omega
 ·have:R % y=((R - t * y)+y * t) % y:=by rw [← e]
  rw [this,Nat.add_mul_mod_self_left,Nat.mod_eq_of_lt h2]
theorem d3d (x k:Nat) (h:k < (i6 x).length):val ((i6 x).drop k)=(i6 x).getD k 0+10 * val ((i6 x).drop (k+1)):=by
 rw [List.drop_eq_getElem_cons h];simp [val,List.getD,h]
theorem b7u (a r:Nat) (ha:a≤9):E3 (a :: i6 r)=i6 (a+10 * r):=by
 rw [a4j]
 ·simp only [val,B6]
 ·intro d hd
  rcases List.mem_cons.1 hd with rfl | hd
  ·exact ha
  ·exact C2 r d hd
theorem a1u (n k:Nat) (h:n ≠ 0) (hk:k < (i6 n).length):bt (f8 n) k=48+((i6 n).getD ((i6 n).length - 1 - k) 0:Int):=by
 have hs:(f8 n).length=(i6 n).length:=by unfold f8;rw [if_neg h];simp
 have hbt:bt (f8 n) k=(((f8 n)[k]'oM).toNat:Int):=by unfold bt;simp [List.getD,List.getElem?_eq_getElem (show k < (f8 n).length by omega)]
 rw [hbt]
 have h9:(i6 n).getD ((i6 n).length - 1 - k) 0≤9:=by
  have hlt:(i6 n).length - 1 - k < (i6 n).length:=oM
  simp only [List.getD,List.getElem?_eq_getElem hlt,Option.getD_some]
  exact C2 n _ (List.getElem_mem hlt)
 have:(f8 n)[k]'oM=UInt8.ofNat (48+(i6 n).getD ((i6 n).length - 1 - k) 0):=by
  have e:f8 n=((i6 n).reverse.map fun d=>UInt8.ofNat (48+d)):=by unfold f8;rw [if_neg h]
  simp only [e]
  simp [List.getD,show (i6 n).length - 1 - k < (i6 n).length by omega]
 rw [this]
 simp only [UInt8.toNat_ofNat']
 omega

theorem P2 (n:Nat) (h:n ≠ 0):(f8 n).length=(i6 n).length:=by unfold f8;rw [if_neg h];simp
theorem b9f (n:Nat) (h:n ≠ 0):(i6 n).getD ((i6 n).length - 1) 0 ≠ 0:=by
 induction n using Nat.strongRecOn with
 | _ n ih =>
  rw [D6 h]
  by_cases h1:n / 10=0
  ·rw [h1,u9];simp;omega
  ·have:=ih (n / 10) oM h1
   have h2:(i6 (n / 10)).length ≠ 0:=by rw [D6 h1];simp
   obtain ⟨m,hm⟩:∃ m,(i6 (n / 10)).length=m+1:=⟨_,(Nat.succ_pred h2).symm⟩
   rw [hm] at this
   simp only [List.length_cons,hm,Nat.add_sub_cancel]
   simpa [List.getD] using this
theorem R2 (s:f5) (i:Nat) (hi:i≤s.length) (h:∀ j,i≤j→j < s.length→48≤bt s j∧bt s j≤57):j7 s i=s.length:=by
 fun_induction j7 s i with
 | case1 i h1 h2 ih=>exact ih oM (fun j a b=>h j oM b)
 | case2 i h1 h2=>exact absurd (by have:=h i (Nat.le_refl _) h1;simp [Q4];omega) h2
 | case3 i h1=>omega
theorem d6s (n k:Nat) (h:n ≠ 0) (hk:k≤(i6 n).length):u1 (f8 n) 0 k []=(i6 n).drop ((i6 n).length - k):=by
 induction k with
 | zero=>simp [u1]
 | succ k ih =>
  rw [a5d _ _ _ (Nat.zero_le _),ih oM,a1u n k h oM]
  have hlt:(i6 n).length - (k+1) < (i6 n).length:=oM
  rw [List.drop_eq_getElem_cons hlt]
  congr 1
  ·simp only [List.getD,show (i6 n).length - 1 - k=(i6 n).length - (k+1) by omega,List.getElem?_eq_getElem hlt,Option.getD_some];omega
  ·congr 1;omega
theorem A4 (n:Nat):f7 (f8 n)=n:=by
 by_cases h:n=0
 ·subst h;exact a64
 ·have hs:=P2 n h
  have hl:(i6 n).length ≠ 0:=by rw [D6 h];simp
  have hall:∀ j,0≤j→j < (f8 n).length→48≤bt (f8 n) j∧bt (f8 n) j≤57:=by
   intro j _ hj
   rw [a1u n j h oM]
   have hlt:(i6 n).length - 1 - j < (i6 n).length:=oM
   have:=C2 n ((i6 n)[(i6 n).length - 1 - j]) (List.getElem_mem hlt)
   simp only [List.getD,List.getElem?_eq_getElem hlt,Option.getD_some]
   omega
  have h0:=hall 0 (Nat.le_refl _) oM
  have hsg:g8 (f8 n)=0:=by unfold g8;rw [if_neg oM]
  have hb0:bt (f8 n) 0 ≠ 48:=by
   rw [a1u n 0 h oM]
   have:=b9f n h
   rw [Nat.sub_zero]
   omega
  have hok:x9 (f8 n)=true:=by
   unfold x9
   rw [hsg,R2 _ 0 (Nat.zero_le _) hall]
   simp [hb0];right;omega
  unfold f7
  rw [if_pos hok,hsg,if_neg oM,b3k _ 0 (Nat.zero_le _),hs,d6s n _ h (Nat.le_refl _),Nat.sub_self,List.drop_zero,B6]
theorem Y0 (c:UInt8) (s:f5) (k:Nat):bt (c :: s) (k+1)=bt s k:=by simp [bt]
theorem c37 (c:UInt8) (s:f5) (k acc:Nat):u4 (c :: s) (k+1) acc=u4 s k acc:=by
 fun_induction u4 s k acc with
 | case1 k acc h ih=>rw [u4,if_pos (by simp;omega),Y0,ih]
 | case2 k acc h=>rw [u4,if_neg (by simp;omega)]
theorem b29 (c:UInt8) (s:f5) (k:Nat):j7 (c :: s) (k+1)=j7 s k+1:=by
 fun_induction j7 s k with
 | case1 k h1 h2 ih=>rw [j7,if_pos (by simp;omega),Y0,if_pos h2,ih]
 | case2 k h1 h2=>rw [j7,if_pos (by simp;omega),Y0,if_neg h2]
 | case3 k h=>rw [j7,if_neg (by simp;omega)]
theorem a0d (n:Nat) (h:n ≠ 0):(∀ j,0≤j→j < (f8 n).length→48≤bt (f8 n) j∧bt (f8 n) j≤57)∧bt (f8 n) 0 ≠ 48∧0 < (f8 n).length:=by
 have hs:=P2 n h
 have hl:(i6 n).length ≠ 0:=by rw [D6 h];simp
 refine ⟨?_,?_,oM⟩
 ·intro j _ hj
  rw [a1u n j h oM]
  have hlt:(i6 n).length - 1 - j < (i6 n).length:=oM
  have:=C2 n ((i6 n)[(i6 n).length - 1 - j]) (List.getElem_mem hlt)
  simp only [List.getD,List.getElem?_eq_getElem hlt,Option.getD_some]
  omega
 ·rw [a1u n 0 h oM]
  have:=b9f n h
  rw [Nat.sub_zero]
  omega
theorem c99 (n:Nat) (h:n ≠ 0):f7 (45 :: f8 n)=-(n:Int):=by
 obtain ⟨h1,h2,h3⟩:=a0d n h
 have hsg:g8 (45 :: f8 n)=1:=by unfold g8;rw [if_pos];exact ⟨by simp,rfl⟩
 have hsg0:g8 (f8 n)=0:=by unfold g8;rw [if_neg];have:=h1 0 (Nat.le_refl _) h3;omega
 have hok:x9 (45 :: f8 n)=true:=by
  unfold x9
  rw [hsg,show (1:Nat)=0+1 from rfl,b29,Y0,R2 _ 0 (Nat.zero_le _) h1]
  simp [h2];right;omega
 have hv:=A4 n
 have hok0:x9 (f8 n)=true:=by
  unfold x9
  rw [hsg0,R2 _ 0 (Nat.zero_le _) h1]
  simp [h2];right;omega
 unfold f7 at hv
 rw [if_pos hok0,hsg0,if_neg oM] at hv
 unfold f7
 rw [if_pos hok,hsg,if_pos rfl,show (1:Nat)=0+1 from rfl,c37,hv]
theorem o9 (n:Int):f7 (f9 n)=n:=by
 unfold f9
 split
 ·rename_i h
  show f7 (45 :: f8 n.natAbs)=n
  rw [c99 _ oM];omega
 ·rw [A4];omega
theorem a0c {a b:Int} (h:f9 a=f9 b):a=b:=by rw [← o9 a,h,o9]
theorem a23 {a b:Nat} (h:f8 a=f8 b):a=b:=by
 have:=congrArg f7 h
 rw [A4,A4] at this
 omega
end LQ
namespace Go.Proofs.YtdldcfllnohkeaaGreatDoor
open Go.Abs LQ
noncomputable section
abbrev Sy:=f5 × f5
inductive O where
 | num (n:Int) (d:Nat)
 | sy (s:Sy)
 | tx (s:f5)
 | co (a d:O)
 | no
namespace O
def k:O→Int
 | num _ _=>1
 | sy _=>2
 | tx _=>3
 | co _ _=>4
 | no=>0
def nu:O→f5
 | num n _=>f9 n
 | _=>[]
def de:O→f5
 | num _ d=>f8 d
 | _=>[]
def sym:O→Sy
 | sy s=>s
 | _=>([],[])
def txt:O→f5
 | tx s=>s
 | _=>[]
def ps:O→List O
 | co a d=>[a,d]
 | _=>[]
def g:O→List G
 | num n d=>[.i .i64 1,.s (f9 n),.s (f8 d),.s [],.s [],.s [],.l []]
 | sy s=>[.i .i64 2,.s [],.s [],.s s.1,.s s.2,.s [],.l []]
 | tx s=>[.i .i64 3,.s [],.s [],.s [],.s [],.s s,.l []]
 | co a d=>[.i .i64 4,.s [],.s [],.s [],.s [],.s [],.l [a.g,d.g]]
 | no=>[.i .i64 0,.s [],.s [],.s [],.s [],.s [],.l []]
theorem g_eq (a:O):a.g=[.i .i64 a.k,.s a.nu,.s a.de,.s a.sym.1,.s a.sym.2,.s a.txt,.l (a.ps.map O.g)]:=by cases a <;> rfl
theorem g_len (a:O):a.g.length=7:=by cases a <;> rfl
theorem ps_le (a:O):a.ps.length≤2:=by cases a <;> simp [ps]
theorem ps_fuel (a:O):a.ps.length - 0 < x8:=by cases a <;> simp [ps,x8]
theorem ext {a b:O} (h1:a.k=b.k) (h2:a.nu=b.nu) (h3:a.de=b.de) (h4:a.sym=b.sym) (h5:a.txt=b.txt) (h6:a.ps=b.ps):a=b:=by
 cases a <;> cases b <;> simp_all [k,nu,de,sym,txt,ps]
 exact ⟨a0c h2,a23 h3⟩
theorem g_inj:∀ {a b:O},a.g=b.g→a=b:=by
 intro a
 induction a with
 | num n d=>intro b h;cases b <;> simp only [g,List.cons.injEq,G.s.injEq,G.i.injEq,reduceCtorEq,and_true,true_and,false_and,and_false,Int.reduceEq] at h;exact (congrArg (O.num · _) (a0c h.1)).trans (congrArg (O.num _) (a23 h.2))
 | sy s=>intro b h;cases b <;> simp [g] at h;exact congrArg O.sy (Prod.ext h.1 h.2)
 | tx s=>intro b h;cases b <;> simp [g] at h;rw [h]
 | co a d iha ihd=>intro b h;cases b <;> simp [g] at h;rw [iha h.1,ihd h.2]
 | no=>intro b h;cases b <;> simp [g] at h;rfl
open Classical in
def eqb (a b:O):Bool:=decide (a=b)
theorem eqb_t {a b:O}:eqb a b=true↔a=b:=by unfold eqb;simp
theorem eqb_f {a b:O}:eqb a b=false↔¬a=b:=by unfold eqb;simp
def size:O→Nat
 | co a d=>1+a.size+d.size
 | _=>1
theorem size_pos (a:O):0 < a.size:=by cases a <;> simp [size] <;> omega
theorem ps_size (a:O):∀ x ∈ a.ps,x.size < a.size:=by cases a <;> simp [ps,size] <;> omega
end O
theorem c33:∀ {l m:List O},l.map O.g=m.map O.g→l=m
 | [],[],_=>rfl
 | [],_ :: _,h=>by simp at h
 | _ :: _,[],h=>by simp at h
 | a :: l,b :: m,h=>by simp only [List.map_cons,List.cons.injEq] at h;exact congr (congrArg List.cons (O.g_inj h.1)) (c33 h.2)
theorem b43 {x y:O} {vs:List V} (h:j5 [.a x.g] vs) (k:j5 [.a y.g] vs):x=y:=by
 cases h with | cons _ _ v _ h _=>cases k with | cons _ _ _ _ k _=>exact O.g_inj (h.a_inj k)
theorem c19 {x y x' y':O} {vs:List V} (h:j5 [.a x.g,.a x'.g] vs) (k:j5 [.a y.g,.a y'.g] vs):x=y∧x'=y':=by
 cases h with | cons _ _ v _ h h'=>cases k with | cons _ _ _ _ k k'=>exact ⟨O.g_inj (h.a_inj k),b43 h' k'⟩
end
end Go.Proofs.YtdldcfllnohkeaaGreatDoor
namespace Go.Proofs.YtdldcfllnohkeaaGreatDoor
open Go.Abs LQ
structure Tr (p q:Prop):Prop where
 go:q→p
theorem Tr.refl {p:Prop}:Tr p p:=⟨id⟩
theorem Tr.b {p p' q:Prop} (f:p'→p) (h:Tr p' q):Tr p q:=⟨fun k=>f (h.go k)⟩
theorem Tr.all {α:Sort _} {p q:α→Prop} (h:∀ x,Tr (p x) (q x)):Tr (∀ x,p x) (∀ x,q x):=⟨fun k x=>(h x).go (k x)⟩
theorem Tr.chk {U:s7} {P:J7→List Bx→Prop} {b:Bool} {p q:Prop} {x:Om} (ht:J6 U b p) (hp:p) (h:Tr (g7 U x P) q):Tr (g7 U (U.chk b x) P) q:=⟨fun k=>f2p ht hp (h.go k)⟩
theorem Tr.cnd {U:s7} {P:J7→List Bx→Prop} {b:Bool} {p:Prop} {q1:p→Prop} {q2:¬p→Prop} {x y:Om} (ht:J6 U b p) (h:∀ a,Tr (g7 U x P) (q1 a)) (k:∀ a,Tr (g7 U y P) (q2 a)):Tr (g7 U (U.cnd b x y) P) ((∀ a,q1 a)∧(∀ a,q2 a)):=⟨fun g=>b4u ht (fun a=>(h a).go (g.1 a)) (fun a=>(k a).go (g.2 a))⟩
theorem Zx {p q:Prop} (k:q) (h:Tr p q:=by ((repeat' (first | (with_reducible apply Tr.all) | (with_reducible intro _) | (apply Tr.b;(case f=>first | exact b6v | exact X8 aS | exact c44 | exact b6x aS | exact b6w | exact a8f aS | exact b1q | exact b2x aS | exact sP | exact sPR aS | exact sIV | exact sI aS | exact sBV | exact sBK | exact sB aS | exact sSV | exact sS aS | exact sA | exact M5 aS (by rfl) | exact b8o (by rfl) | exact c46 (by rfl) | exact c1v aS (by rfl) | exact c47 aS (by rfl) | exact d1r aS | exact sSl aS | exact sTu aS | exact sBo | exact b1o aS (by rfl) | exact sBc | exact d1p aS | exact sBt | exact sBs | exact sBr | exact a8g aS | exact b64 aS | exact b6z aS (by rfl) | exact d1q aS (by rfl) | exact sCI' aS (by rfl) | exact sCB' aS (by rfl) | exact sCS aS | exact sCI aS | exact sCB aS | exact b61 (by first | omega | (simp only [List.length_map] at *;omega)) | exact b60 (by first | omega | (simp only [List.length_map] at *;omega)) | exact c1x | exact b2y | exact b20 | exact c1w | exact b63 | exact b6y | exact sfSubN | exact b2z | exact sfBSelE | exact sfB | exact sJn | exact c1u | exact c1s | exact c1t | exact C7 aS (by (first | exact u7 O.g_len | exact u7 (fun _=>rfl))) | exact b1p aS (by (first | exact u7 O.g_len | exact u7 (fun _=>rfl))) | exact c1z (by first | omega | (simp only [List.length_map] at *;omega)) | exact b65 (by first | omega | (simp only [List.length_map] at *;omega)) | exact d1u aS (by first | assumption | omega | (simp only [List.length_map] at *;omega)) | exact sfT aS (by rfl))) | (apply Tr.chk;(case ht=>(repeat' (first | exact trT | exact trF | apply a4i | apply a4f | exact a4h | exact a4g | exact a1x | exact a5u | exact a5t | exact a11 | exact a12 | exact a10 | exact a1z | exact a1y | exact a4k | exact a91 | exact a7n | exact trS | exact trV)));(case hp=>first | omega | (simp only [List.length_map] at *;omega))) | (apply Tr.cnd;(case ht=>(repeat' (first | exact trT | exact trF | apply a4i | apply a4f | exact a4h | exact a4g | exact a1x | exact a5u | exact a5t | exact a11 | exact a12 | exact a10 | exact a1z | exact a1y | exact a4k | exact a91 | exact a7n | exact trS | exact trV))))));all_goals exact Tr.refl)):p:=h.go k
theorem Zy {p q:Prop} (k:q) (h:Tr p q:=by ((repeat' (first | (with_reducible apply Tr.all) | (with_reducible intro _) | (apply Tr.b;(case f=>first | exact b6v | exact X8 aS | exact c44 | exact b6x aS | exact b6w | exact a8f aS | exact b1q | exact b2x aS | exact sP | exact sPR aS | exact sIV | exact sI aS | exact sBV | exact sBK | exact sB aS | exact sSV | exact sS aS | exact sA | exact M5 aS (by rfl) | exact b8o (by rfl) | exact c46 (by rfl) | exact c1v aS (by rfl) | exact c47 aS (by rfl) | exact d1r aS | exact sSl aS | exact sTu aS | exact sBo | exact b1o aS (by rfl) | exact sBc | exact d1p aS | exact sBt | exact sBs | exact sBr | exact a8g aS | exact b64 aS | exact b6z aS (by rfl) | exact d1q aS (by rfl) | exact sCI' aS (by rfl) | exact sCB' aS (by rfl) | exact sCS aS | exact sCI aS | exact sCB aS | exact b61 (by first | omega | (simp only [List.length_map] at *;omega)) | exact b60 (by first | omega | (simp only [List.length_map] at *;omega)) | exact c1x | exact b2y | exact b20 | exact c1w | exact b63 | exact b6y | exact sfSubN | exact b2z | exact sfBSelE | exact sfB | exact c1u | exact c1s | exact c1t | exact C7 aS (by (first | exact u7 O.g_len | exact u7 (fun _=>rfl))) | exact b1p aS (by (first | exact u7 O.g_len | exact u7 (fun _=>rfl))) | exact c1z (by first | omega | (simp only [List.length_map] at *;omega)) | exact b65 (by first | omega | (simp only [List.length_map] at *;omega)) | exact d1u aS (by first | assumption | omega | (simp only [List.length_map] at *;omega)) | exact sfT aS (by rfl))) | (apply Tr.chk;(case ht=>(repeat' (first | exact trT | exact trF | apply a4i | apply a4f | exact a4h | exact a4g | exact a1x | exact a5u | exact a5t | exact a11 | exact a12 | exact a10 | exact a1z | exact a1y | exact a4k | exact a91 | exact a7n | exact trS | exact trV)));(case hp=>first | omega | (simp only [List.length_map] at *;omega))) | (apply Tr.cnd;(case ht=>(repeat' (first | exact trT | exact trF | apply a4i | apply a4f | exact a4h | exact a4g | exact a1x | exact a5u | exact a5t | exact a11 | exact a12 | exact a10 | exact a1z | exact a1y | exact a4k | exact a91 | exact a7n | exact trS | exact trV))))));all_goals exact Tr.refl)):p:=h.go k
theorem j4 {p:Prop} (h:p:=by (repeat' (first | exact j5.nil | refine j5.cons _ _ _ _ ?_ ?_ | exact RBs.nil | assumption | exact RV.i _ _ | exact RV.b _ | exact RV.kn _ | exact RV.s _ _ _ rfl rfl | refine RV.a _ _ _ (by first | rfl | exact (O.g_len _).symm) aS | refine RV.sl _ _ _ _ _ (by first | rfl | simp) aS | refine RV.q _ _ aS | exact RV.p _ _ | exact RV.cl _ _ _ _ _ rfl (m7.nil _ _ _) | refine RV.ag _ _ ?_ | refine RV.t _ _ ?_ | refine RV.sl _ _ _ _ _ (by rfl) (m7.nil _ _ _) | exact RV.sl0 _ _ _ | refine RV.s _ _ _ (by rfl) (by rfl)))):p:=h
theorem Zru {p:Prop} (h:p:=by (repeat' (first | exact j5.nil | refine j5.cons _ _ _ _ ?_ ?_ | exact RBs.nil | assumption | exact RV.i _ _ | exact RV.b _ | exact RV.kn _ | exact RV.s _ _ _ rfl rfl | refine RV.q _ _ (u6.at aS (by rfl)) | refine RV.a _ _ _ (by first | rfl | exact (O.g_len _).symm) aS | refine RV.q _ _ aS | refine RV.cl _ _ _ _ _ rfl (m7.nil _ _ _) | refine RV.ag _ _ ?_ | refine RV.t _ _ ?_ | refine RV.s _ _ _ (by rfl) (by rfl)))):p:=h
theorem aI {a b:Prop} (left:a) (right:b):a∧b:=⟨left,right⟩
theorem oV {a:O} {x:Q} (h:u6 a.g x 0:=by assumption):RV (.a a.g) (.a x 7):=.a _ _ _ a.g_len.symm h
theorem oA {a:O} {x:Q} (h:u6 a.g x 0:=by assumption):j5 [.a a.g] [.a x 7]:=.cons _ _ _ _ (oV h) .nil
theorem oR {U:s7} {P:J7→List Bx→Prop} {a:O} {v:V} {K:Q→Om} (k:∀ q,u6 a.g q 0→g7 U (K q) P) (h:RV (.a a.g) v:=by assumption):g7 U (U.uA 7 v K) P:=M5 h a.g_len k
end Go.Proofs.YtdldcfllnohkeaaGreatDoor
