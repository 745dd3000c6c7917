/- Plain functions on texts: tokens. No program in sight. -/
import Derived.Test.YtkojildpddaccaaGreatDoorCG
set_option linter.all false
namespace LQ
abbrev u4:=List UInt8
def bt (s:u4) (k:Nat):Int:=((s.getD k 0).toNat:Int)
def b70 (c:Int):Bool:=decide (33≤c∧c≤126∧c ≠ 40∧c ≠ 41∧c ≠ 39∧c ≠ 34∧c ≠ 59∧c ≠ 124∧c ≠ 58)
def e82 (c:Int):Bool:=decide (c=32∨c=9∨c=10∨c=13)
def has (s:u4) (i:Nat) (a b:Int):Bool:=decide (i+1 < s.length∧bt s i=a∧bt s (i+1)=b)

def a2v (s:u4) (i:Nat):Nat :=
 if i < s.length then if b70 (bt s i) then a2v s (i+1) else i else i
termination_by s.length - i
def b8i (s:u4) (i:Nat):Nat :=
 if i < s.length then if bt s i=10 then i else b8i s (i+1) else i
termination_by s.length - i
def b5l (s:u4) (i depth:Nat):Option Nat :=
 if depth=0 then some i
 else if i < s.length then
  if has s i 35 124 then b5l s (i+2) (depth+1)
  else if has s i 124 35 then b5l s (i+2) (depth - 1)
  else b5l s (i+1) depth
 else none
termination_by s.length - i
def skip (s:u4) (i:Nat):Option Nat :=
 if i < s.length then
  if e82 (bt s i) then skip s (i+1)
  else if bt s i=59 then (if i < b8i s i then skip s (b8i s i) else some i)
  else if has s i 35 124 then
   match b5l s (i+2) 1 with
   | none=>none
   | some j=>if i < j then skip s j else some i
  else some i
 else some i
termination_by s.length - i
def b6d (c:Int):Bool:=decide (48≤c∧c≤57)
def G4 (s:u4) (k:Nat):Nat :=
 if k < s.length then if b6d (bt s k) then G4 s (k+1) else k else k
termination_by s.length - k
def d0d (s:u4) (k:Nat):Nat :=
 if k < s.length then if bt s k=48 then d0d s (k+1) else k else k
termination_by s.length - k
def A9 (s:u4):Nat:=if 0 < s.length∧bt s 0=45 then 1 else 0
theorem d3r (s:u4):A9 s≤s.length∧A9 s≤1:=by unfold A9;split <;> omega
def F8:u4:=[]
def Q6:u4:=[49]
def I7:u4:=[48]
def b2z (s:u4):u4 × u4 × Bool :=
 let i:=A9 s
 let k:=G4 s i
 if k=i then (F8,F8,false)
 else if k=s.length then (s,Q6,true)
 else if bt s k ≠ 47∨k+1=s.length then (F8,F8,false)
 else if G4 s (k+1)=s.length then (((s.take (k)).drop (0)),((s.take (s.length)).drop ((k+1))),true)
 else (F8,F8,false)
def plain (s:u4):u4 :=
 let i:=d0d s (A9 s)
 if i=s.length then I7
 else if A9 s=1 then ([45]:u4) ++ ((s.take (s.length)).drop (i))
 else ((s.take (s.length)).drop (i))
def a4y (c:Int):Bool:=decide ((97≤c∧c≤122)∨(48≤c∧c≤57)∨c=45)
def J8 (s:u4) (k:Nat):Bool:=if k < s.length then if a4y (bt s k) then J8 s (k+1) else false else true
termination_by s.length - k
def F6 (s:u4):Bool:=decide (1≤s.length∧s.length≤40∧97≤bt s 0∧bt s 0≤122) && J8 s 0
def Z1 (text pkg:u4) (bars:Bool):Int :=
 if 40 < text.length then 2
 else if (bars=true∧text.length=0)∨(pkg.length ≠ 0∧F6 pkg=false) then 3 else 0
def c3f (s:u4) (c:Int) (i:Nat) (acc:List Int):Except (Int × Nat) (List Int × Nat) :=
 if i < s.length then
  if bt s i=c then .ok (acc,i+1)
  else if bt s i ≠ 92 then c3f s c (i+1) (acc ++ [bt s i])
  else if i+1 < s.length then
   if bt s (i+1) ≠ c∧bt s (i+1) ≠ 92 then .error (12,i)
   else c3f s c (i+2) (acc ++ [bt s (i+1)])
  else .error (11,s.length)
 else .error (11,s.length)
termination_by s.length - i
def K4 (s:u4):Bool :=
 decide (s=I7) || (decide (A9 s < s.length∧bt s (A9 s) ≠ 48) && decide (G4 s (A9 s)=s.length))
def D0 (s:u4) (k:Nat) (acc:Nat):Nat:=if k < s.length then D0 s (k+1) (10 * acc+(bt s k - 48).toNat) else acc
termination_by s.length - k
def p8 (s:u4):Int:=if K4 s then (if A9 s=1 then -(D0 s 1 0:Int) else (D0 s 0 0:Int)) else 0
def p7 (n:Nat):List Nat:=if h:n=0 then [] else n % 10 :: p7 (n / 10)
termination_by n
def s3 (n:Nat):u4:=if n=0 then I7 else ((p7 n).reverse.map fun d=>UInt8.ofNat (48+d))
def p5 (n:Int):u4:=if n < 0 then [45] ++ s3 n.natAbs else s3 n.natAbs
def I6 (num den:u4):u4 × u4 :=
 if p8 den=0 then (I7,Q6)
 else
  let g:=Nat.gcd (p8 num).natAbs (p8 den).natAbs
  (p5 ((if (p8 num < 0)=(p8 den < 0) then 1 else -1) * (((p8 num).natAbs / g:Nat):Int)),s3 ((p8 den).natAbs / g))
def J6 (a:u4):Nat:=max 1 (p7 (p8 a).natAbs).length

structure Tok where
 kind:Int
 pos:Nat
 pkg:u4
 text:u4
 den:u4
def b4p (l:List Int):u4:=(l.map fun n=>UInt8.ofNat n.toNat)
def f0b (s:u4) (i:Nat) (pkg:u4) (k:Nat):Except (Int × Nat) (Tok × Nat) :=
 if k+2 < s.length then
  if bt s (k+2)=124 then
   match c3f s 124 (k+2+1) [] with
   | .error e=>.error e
   | .ok (l,j)=>if Z1 (b4p l) pkg true=0 then .ok (⟨6,i,pkg,b4p l,F8⟩,j) else .error (Z1 (b4p l) pkg true,i)
  else if b70 (bt s (k+2)) then
   let j:=a2v s (k+2)
   let t:=((s.take (j)).drop ((k+2)))
   if Z1 t pkg false=0 then .ok (⟨6,i,pkg,t,F8⟩,j) else .error (Z1 t pkg false,i)
  else .error (12,k+2)
 else .error (11,s.length)
def f3t (i:Nat) (t:u4) (k:Nat):Except (Int × Nat) (Tok × Nat) :=
 if t=[46] then .ok (⟨3,i,F8,F8,F8⟩,k)
 else if (b2z t).2.2 then
  if plain (b2z t).2.1=I7 then .error (12,i)
  else
   let r:=I6 (plain (b2z t).1) (plain (b2z t).2.1)
   if 100 < J6 r.1∨100 < J6 r.2 then .error (2,i) else .ok (⟨5,i,F8,r.1,r.2⟩,k)
 else if Z1 t F8 false=0 then .ok (⟨6,i,F8,t,F8⟩,k) else .error (Z1 t F8 false,i)
def g0t (s:u4) (i:Nat):Except (Int × Nat) (Tok × Nat) :=
 if bt s i=40 then .ok (⟨1,i,F8,F8,F8⟩,i+1)
 else if bt s i=41 then .ok (⟨2,i,F8,F8,F8⟩,i+1)
 else if bt s i=39 then .ok (⟨4,i,F8,F8,F8⟩,i+1)
 else if bt s i=34 then
  match c3f s 34 (i+1) [] with
  | .error e=>.error e
  | .ok (l,j)=>if 200 < l.length then .error (2,i) else .ok (⟨7,i,F8,b4p l,F8⟩,j)
 else if bt s i=124 then
  match c3f s 124 (i+1) [] with
  | .error e=>.error e
  | .ok (l,j)=>if Z1 (b4p l) F8 true=0 then .ok (⟨6,i,F8,b4p l,F8⟩,j) else .error (Z1 (b4p l) F8 true,i)
 else if b70 (bt s i) then
  if has s (a2v s i) 58 58 then f0b s i (((s.take ((a2v s i))).drop (i))) (a2v s i)
  else f3t i (((s.take ((a2v s i))).drop (i))) (a2v s i)
 else .error (12,i)
def b5c (s:u4) (i:Nat) (acc:List Tok):Except (Int × Nat) (List Tok) :=
 match skip s i with
 | none=>.error (11,s.length)
 | some j =>
  if j < s.length then
   match g0t s j with
   | .error e=>.error e
   | .ok (t,k)=>if i < k∧i < s.length then b5c s k (acc ++ [t]) else .error (0,0)
  else .ok (acc ++ [⟨0,s.length,F8,F8,F8⟩])
termination_by s.length - i
theorem b5y (s:u4) (i j:Nat) (hi:i≤j) (hj:j < G4 s i):48≤bt s j∧bt s j≤57:=by
 fun_induction G4 s i with
 | case1 i h1 h2 ih =>
  by_cases h:j=i
  ·subst h;simpa [b6d] using h2
  ·exact ih oM hj
 | case2=>omega
 | case3=>omega
def D4 (s:u4) (e:Nat):Nat→List Nat→List Nat
 | 0,acc=>acc
 | k+1,acc=>if e≤k then D4 s e k (acc ++ [(bt s k - 48).toNat]) else acc
def a1q (s:u4):Bool × List Nat :=
 if K4 s=true∧s ≠ I7 then (decide (A9 s=1),D4 s (A9 s) s.length []) else (false,[])
def a4m (l:List Nat):Nat→Nat
 | 0=>0
 | n+1=>if l.getD n 0=0 then a4m l n else n+1
def V8 (l:List Nat):List Nat:=l.take (a4m l l.length)
def U1 (a b:List Nat):Nat→Int
 | 0=>0
 | k+1=>if a.getD k 0 < b.getD k 0 then -1 else if b.getD k 0 < a.getD k 0 then 1 else U1 a b k
def a1x (a b:List Nat):Int :=
 if a.length=b.length then U1 a b a.length else if a.length < b.length then -1 else 1
def K6 (a b:List Nat) (i bor:Nat):Int:=(a.getD i 0:Int) - bor - (if i < b.length then (b.getD i 0:Int) else 0)
def Q0 (a b:List Nat) (i bor:Nat) (acc:List Nat):List Nat :=
 if i < a.length then
  if K6 a b i bor < 0 then Q0 a b (i+1) 1 (acc ++ [(K6 a b i bor+10).toNat])
  else Q0 a b (i+1) 0 (acc ++ [(K6 a b i bor).toNat])
 else acc
termination_by a.length - i
def b85 (a b:List Nat):List Nat:=V8 (Q0 a b 0 0 [])
def val:List Nat→Nat
 | []=>0
 | d :: t=>d+10 * val t
def D9 (l:List Nat):Prop:=∀ d ∈ l,d≤9
theorem C5:p7 0=[]:=by rw [p7];simp
theorem E1 {n:Nat} (h:n ≠ 0):p7 n=n % 10 :: p7 (n / 10):=by rw [p7,dif_neg h]
theorem C0 (n:Nat):val (p7 n)=n:=by
 induction n using Nat.strongRecOn with
 | _ n ih =>
  by_cases h:n=0
  ·subst h;rw [C5];rfl
  ·rw [E1 h,val,ih (n / 10) oM];omega
theorem B3 (n:Nat):D9 (p7 n):=by
 induction n using Nat.strongRecOn with
 | _ n ih =>
  by_cases h:n=0
  ·subst h;rw [C5];intro d hd;simp at hd
  ·rw [E1 h];intro d hd;simp at hd
   rcases hd with rfl | hd
   ·omega
   ·exact ih (n / 10) oM d hd
theorem b9p {d m:Nat} (hd:d≤9) (h:d ≠ 0∨m ≠ 0):p7 (d+10 * m)=d :: p7 m:=by
 rw [E1 oM];congr 1
 ·omega
 ·congr 1;omega
theorem a14 (a b:List Nat):val (a ++ b)=val a+10 ^ a.length * val b:=by
 induction a with
 | nil=>simp [val]
 | cons d t ih=>simp only [List.cons_append,val,ih,List.length_cons,Nat.pow_succ];rw [Nat.mul_add,← Nat.mul_assoc,Nat.mul_comm (10 ^ t.length) 10];omega
theorem b9r (t:List Nat) (d:Nat) (h9:D9 (t ++ [d])) (hd:d ≠ 0):p7 (val (t ++ [d]))=t ++ [d]:=by
 induction t with
 | nil =>
  have:d≤9:=h9 d (by simp)
  simp only [List.nil_append,val]
  rw [Nat.mul_zero,← Nat.mul_zero 10,b9p this (.inl hd),C5]
 | cons x t ih =>
  simp only [List.cons_append,val]
  rw [b9p (h9 x (by simp)),ih (fun y hy=>h9 y (by simp at hy ⊢;exact .inr hy))]
  refine .inr fun h0=>hd ?_
  have h2:=a14 t [d]
  rw [h0] at h2
  simp only [val] at h2
  have h3:0 < 10 ^ t.length:=Nat.pow_pos oM
  rw [Nat.mul_zero,Nat.add_zero] at h2
  have h4:10 ^ t.length * d=0:=oM
  rcases Nat.mul_eq_zero.1 h4 with h | h <;> omega
theorem d3w (l:List Nat) (h9:D9 l) (n:Nat) (hn:n≤l.length):l.take (a4m l n)=p7 (val (l.take n)):=by
 induction n with
 | zero=>simp [a4m,val,C5]
 | succ n ih =>
  have hlt:n < l.length:=oM
  have htk:l.take (n+1)=l.take n ++ [l.getD n 0]:=by
   rw [List.take_succ_eq_append_getElem hlt];simp [List.getD,hlt]
  simp only [a4m]
  split
  ·rename_i h0
   rw [ih oM,htk,h0,a14]
   simp [val]
  ·rename_i h0
   rw [htk,b9r _ _ _ h0]
   intro d hd
   rw [← htk] at hd
   exact h9 d (List.mem_of_mem_take hd)
theorem a13 (l:List Nat) (h9:D9 l):V8 l=p7 (val l):=by
 unfold V8;rw [d3w l h9 l.length (Nat.le_refl _),List.take_length]
def a38:List Nat→List Nat→Nat→List Nat
 | [],_,_=>[]
 | x :: a,b,bor =>
  if (x:Int) - bor - (b.headD 0:Int) < 0 then ((x:Int) - bor - (b.headD 0:Int)+10).toNat :: a38 a b.tail 1
  else ((x:Int) - bor - (b.headD 0:Int)).toNat :: a38 a b.tail 0
theorem b34 (a b:List Nat) (i bor:Nat):K6 a b i bor=(a.getD i 0:Int) - bor - ((b.drop i).headD 0:Int):=by
 unfold K6
 rcases Nat.lt_or_ge i b.length with h | h
 ·rw [if_pos h,List.drop_eq_getElem_cons h];simp [List.getD,h]
 ·rw [if_neg oM,List.drop_eq_nil_of_le h];simp
theorem d3t (a b:List Nat) (i bor:Nat) (acc:List Nat) (hi:i≤a.length):Q0 a b i bor acc=acc ++ a38 (a.drop i) (b.drop i) bor:=by
 fun_induction Q0 a b i bor acc with
 | case1 i bor acc h1 h2 ih =>
  rw [ih oM,List.drop_eq_getElem_cons h1,a38]
  rw [b34] at h2 ⊢
  simp only [List.getD,List.getElem?_eq_getElem h1,Option.getD_some] at h2 ⊢
  rw [if_pos h2];simp
 | case2 i bor acc h1 h2 ih =>
  rw [ih oM,List.drop_eq_getElem_cons h1,a38]
  rw [b34] at h2 ⊢
  simp only [List.getD,List.getElem?_eq_getElem h1,Option.getD_some] at h2 ⊢
  rw [if_neg h2];simp
 | case3 i bor acc h1 =>
  rw [List.drop_eq_nil_of_le oM];simp [a38]
theorem e4p (b:List Nat):val b=b.headD 0+10 * val b.tail:=by cases b <;> simp [val]
theorem e4e (a b:List Nat) (bor:Nat) (ha:D9 a) (hb:D9 b) (hbor:bor≤1) (h:val b+bor≤val a):val (a38 a b bor)+val b+bor=val a:=by
 induction a generalizing b bor with
 | nil=>simp [val] at h;simp [a38,val];omega
 | cons x a ih =>
  have hx:x≤9:=ha x (by simp)
  have ha':D9 a:=fun d hd=>ha d (by simp [hd])
  have hb':D9 b.tail:=fun d hd=>hb d (List.mem_of_mem_tail hd)
  have hy:b.headD 0≤9:=by
   cases b with
   | nil=>simp
   | cons y t=>exact hb y (by simp)
  have hvb:=e4p b
  simp only [val] at h
  simp only [a38]
  split
  ·rename_i hz
   have:=ih b.tail 1 ha' hb' oM oM
   simp only [val]
   omega
  ·rename_i hz
   have:=ih b.tail 0 ha' hb' oM oM
   simp only [val]
   omega
theorem f3g (a b:List Nat) (bor:Nat) (ha:D9 a) (hb:D9 b) (hbor:bor≤1):D9 (a38 a b bor):=by
 induction a generalizing b bor with
 | nil=>intro d hd;simp [a38] at hd
 | cons x a ih =>
  have hx:x≤9:=ha x (by simp)
  have ha':D9 a:=fun d hd=>ha d (by simp [hd])
  have hb':D9 b.tail:=fun d hd=>hb d (List.mem_of_mem_tail hd)
  simp only [a38]
  split
  ·rename_i hz;intro d hd
   rcases List.mem_cons.1 hd with rfl | hd
   ·omega
   ·exact ih b.tail 1 ha' hb' oM d hd
  ·rename_i hz;intro d hd
   rcases List.mem_cons.1 hd with rfl | hd
   ·omega
   ·exact ih b.tail 0 ha' hb' oM d hd
theorem a6w (x y:Nat) (h:y≤x):b85 (p7 x) (p7 y)=p7 (x - y):=by
 unfold b85
 rw [d3t _ _ _ _ _ (Nat.zero_le _)]
 simp only [List.nil_append,List.drop_zero]
 rw [a13 _ (f3g _ _ _ (B3 x) (B3 y) oM)]
 have:=e4e (p7 x) (p7 y) 0 (B3 x) (B3 y) oM (by rw [C0,C0];omega)
 rw [C0,C0] at this
 congr 1;omega
theorem Z6 (l:List Nat) (h9:D9 l):val l < 10 ^ l.length:=by
 induction l with
 | nil=>simp [val]
 | cons d t ih =>
  have h1:=ih (fun x hx=>h9 x (by simp [hx]))
  have h2:d≤9:=h9 d (by simp)
  simp only [val,List.length_cons,Nat.pow_succ]
  omega
theorem a76 (n:Nat) (h:n ≠ 0):10 ^ ((p7 n).length - 1)≤n:=by
 induction n using Nat.strongRecOn with
 | _ n ih =>
  rw [E1 h]
  simp only [List.length_cons,Nat.add_sub_cancel]
  by_cases h1:n / 10=0
  ·rw [h1,C5];simp;omega
  ·have:=ih (n / 10) oM h1
   have h2:(p7 (n / 10)).length ≠ 0:=by rw [E1 h1];simp
   have h3:10 ^ (p7 (n / 10)).length=10 * 10 ^ ((p7 (n / 10)).length - 1):=by
    rw [← Nat.pow_succ'];congr 1;omega
   omega
theorem c6n (a b:List Nat) (ha:D9 a) (hb:D9 b) (n:Nat) (hna:n≤a.length) (hnb:n≤b.length) :
  U1 a b n=if val (a.take n) < val (b.take n) then -1 else if val (b.take n) < val (a.take n) then 1 else 0:=by
 induction n with
 | zero=>simp [U1,val]
 | succ n ih =>
  have hla:n < a.length:=oM
  have hlb:n < b.length:=oM
  have e1:a.take (n+1)=a.take n ++ [a.getD n 0]:=by rw [List.take_succ_eq_append_getElem hla];simp [List.getD,hla]
  have e2:b.take (n+1)=b.take n ++ [b.getD n 0]:=by rw [List.take_succ_eq_append_getElem hlb];simp [List.getD,hlb]
  have v1:=a14 (a.take n) [a.getD n 0]
  have v2:=a14 (b.take n) [b.getD n 0]
  have l1:(a.take n).length=n:=by simp;omega
  have l2:(b.take n).length=n:=by simp;omega
  have b1:=Z6 (a.take n) (fun d hd=>ha d (List.mem_of_mem_take hd))
  have b2:=Z6 (b.take n) (fun d hd=>hb d (List.mem_of_mem_take hd))
  rw [l1] at v1 b1
  rw [l2] at v2 b2
  simp only [val,Nat.mul_zero,Nat.add_zero] at v1 v2
  rw [e1,e2,v1,v2]
  simp only [U1]
  rw [ih oM oM]
  generalize a.getD n 0=x at *
  generalize b.getD n 0=y at *
  generalize val (a.take n)=p at *
  generalize val (b.take n)=q at *
  generalize 10 ^ n=P at *
  by_cases h1:x < y
  ·have:P * (x+1)≤P * y:=Nat.mul_le_mul_left P h1
   rw [Nat.mul_add,Nat.mul_one] at this
   rw [if_pos h1,if_pos oM]
  ·rw [if_neg h1]
   by_cases h2:y < x
   ·have:P * (y+1)≤P * x:=Nat.mul_le_mul_left P h2
    rw [Nat.mul_add,Nat.mul_one] at this
    rw [if_pos h2,if_neg oM,if_pos oM]
   ·rw [if_neg h2]
    have h3:x=y:=oM
    subst h3
    simp only [Nat.add_lt_add_iff_right]
theorem a6o (x y:Nat):a1x (p7 x) (p7 y)=if x < y then -1 else if y < x then 1 else 0:=by
 unfold a1x
 split
 ·rename_i h
  rw [c6n _ _ (B3 x) (B3 y) _ (Nat.le_refl _) oM,List.take_length,h,List.take_length,C0,C0]
 ·rename_i h
  have b1:=Z6 (p7 x) (B3 x)
  have b2:=Z6 (p7 y) (B3 y)
  rw [C0] at b1 b2
  split
  ·rename_i h2
   have hy:y ≠ 0:=by intro e;rw [e,C5] at h2;simp at h2
   have g2:=a76 y hy
   have:10 ^ (p7 x).length≤10 ^ ((p7 y).length - 1):=Nat.pow_le_pow_right oM oM
   rw [if_pos oM]
  ·rename_i h2
   have hx:x ≠ 0:=by intro e;rw [e,C5] at h h2;simp only [List.length_nil] at h h2;omega
   have g1:=a76 x hx
   have:10 ^ (p7 y).length≤10 ^ ((p7 x).length - 1):=Nat.pow_le_pow_right oM oM
   rw [if_neg oM,if_pos oM]

theorem c58 (s:u4) (e:Nat) (k:Nat) (acc:List Nat):D4 s e k acc=acc ++ D4 s e k []:=by
 induction k generalizing acc with
 | zero=>simp [D4]
 | succ k ih =>
  simp only [D4]
  split
  ·rw [ih (acc ++ _),ih ([] ++ _)];simp
  ·simp
theorem c6h (s:u4) (k acc:Nat) (hk:k≤s.length):D0 s k acc=acc * 10 ^ (s.length - k)+D0 s k 0:=by
 generalize hm:s.length - k=m
 induction m generalizing k acc with
 | zero=>rw [D0,if_neg oM,D0,if_neg oM];simp
 | succ m ih =>
  rw [D0,if_pos oM,D0.eq_def s k 0,if_pos oM,ih (k+1) _ oM oM,ih (k+1) (10 * 0+_) oM oM,Nat.pow_succ]
  rw [Nat.mul_zero,Nat.zero_add,Nat.add_mul,Nat.mul_comm 10 acc,Nat.mul_assoc,Nat.mul_comm 10 (10 ^ m)]
  omega
theorem a9g (s:u4) (e k:Nat) (h:e≤k):D4 s e (k+1) []=(bt s k - 48).toNat :: D4 s e k []:=by
 rw [D4,if_pos h,c58];simp
theorem c7b (s:u4) (e:Nat):D4 s e e []=[]:=by
 cases e with
 | zero=>rfl
 | succ e=>rw [D4,if_neg oM]
theorem c6j (s:u4) (e k:Nat) (he:e≤k) (hk:k≤s.length):D0 s e 0=D0 s k (val (D4 s e k [])):=by
 induction k with
 | zero=>obtain rfl:e=0:=oM
         rfl
 | succ k ih =>
  by_cases h:e=k+1
  ·subst h;rw [c7b];rfl
  ·rw [ih oM oM,a9g s e k oM,D0,if_pos oM]
   congr 1
   simp only [val];omega
theorem b3z (s:u4) (e:Nat) (he:e≤s.length):D0 s e 0=val (D4 s e s.length []):=by
 rw [c6j s e s.length he (Nat.le_refl _),D0,if_neg oM]
theorem d9u (s:u4) (e k:Nat) (h:e < k):∃ t,D4 s e k []=t ++ [(bt s e - 48).toNat]:=by
 induction k with
 | zero=>omega
 | succ k ih =>
  rw [a9g s e k oM]
  by_cases hk:e=k
  ·subst hk;exact ⟨[],by rw [c7b];rfl⟩
  ·obtain ⟨t,ht⟩:=ih oM
   exact ⟨_ :: t,by rw [ht];rfl⟩
theorem f46 (s:u4) (e k:Nat) (h:∀ j,e≤j→j < k→48≤bt s j∧bt s j≤57):D9 (D4 s e k []):=by
 induction k with
 | zero=>intro d hd;simp [D4] at hd
 | succ k ih =>
  by_cases he:e≤k
  ·rw [a9g s e k he]
   intro d hd
   rcases List.mem_cons.1 hd with rfl | hd
   ·have:=h k he oM;omega
   ·exact ih (fun j h1 h2=>h j h1 oM) d hd
  ·rw [D4,if_neg he];intro d hd;simp at hd
theorem b3o:p8 I7=0:=by
 have h1:A9 I7=0:=dE
 have h2:D0 I7 0 0=0:=by rw [D0,if_pos dE,D0,if_neg dE];decide
 unfold p8
 rw [h1,h2];simp
theorem c7c (s:u4):a1q s=(decide (p8 s < 0),p7 (p8 s).natAbs):=by
 unfold a1q
 split
 ·rename_i h
  obtain ⟨h1,h2⟩:=h
  have h3:A9 s < s.length∧bt s (A9 s) ≠ 48∧G4 s (A9 s)=s.length:=by
   simp [K4,h2] at h1;exact ⟨h1.1.1,h1.1.2,h1.2⟩
  have hall:∀ j,A9 s≤j→j < s.length→48≤bt s j∧bt s j≤57:=fun j a b=>b5y s (A9 s) j a oM
  have h9:=f46 s (A9 s) s.length hall
  obtain ⟨t,ht⟩:=d9u s (A9 s) s.length h3.1
  have hd0:(bt s (A9 s) - 48).toNat ≠ 0:=by have:=hall (A9 s) (Nat.le_refl _) h3.1;omega
  have hcan:p7 (val (D4 s (A9 s) s.length []))=D4 s (A9 s) s.length []:=by
   rw [ht] at h9 ⊢;exact b9r t _ h9 hd0
  have hv:=b3z s (A9 s) oM
  have hpos:0 < D0 s (A9 s) 0:=by
   rcases Nat.eq_zero_or_pos (D0 s (A9 s) 0) with h | h
   ·rw [← hv,h,C5] at hcan;rw [ht] at hcan;simp at hcan
   ·exact h
  unfold p8
  rw [if_pos h1]
  have hs1:=d3r s
  by_cases hsg:A9 s=1
  ·rw [if_pos hsg]
   rw [hsg] at hcan hv hpos ⊢
   rw [hv,Int.natAbs_neg,Int.natAbs_natCast,hcan]
   congr 1
   rw [← hv];simp;omega
  ·have hs0:A9 s=0:=oM
   rw [if_neg hsg]
   rw [hs0] at hcan hv hpos ⊢
   rw [hv,Int.natAbs_natCast,hcan]
   congr 1
 ·rename_i h
  have:p8 s=0:=by
   by_cases h1:K4 s=true
   ·have:s=I7:=by
     by_cases h2:s=I7
     ·exact h2
     ·exact absurd ⟨h1,h2⟩ h
    rw [this];exact b3o
   ·unfold p8;rw [if_neg h1]
  rw [this];simp [C5]
theorem d53 (X a y:Nat) (hy:0 < y):(a+10 * X) / y=(a+10 * (X % y)) / y+10 * (X / y)∧(a+10 * X) % y=(a+10 * (X % y)) % y:=by
 have h:=Nat.div_add_mod X y
 have e:a+10 * X=(a+10 * (X % y))+y * (10 * (X / y)):=by
  have:y * (10 * (X / y))=10 * (y * (X / y)):=by rw [Nat.mul_left_comm]
  rw [this];omega
 rw [e]
 exact ⟨by rw [Nat.add_mul_div_left _ _ hy],by rw [Nat.add_mul_mod_self_left]⟩
theorem d1w (R t y:Nat) (hy:0 < y) (h1:t * y≤R) (h2:R - t * y < y):R / y=t∧R % y=R - t * y:=by
 have e:R=(R - t * y)+y * t:=by rw [Nat.mul_comm y t];omega
 constructor
 ·rw [e,Nat.add_mul_div_left _ _ hy,Nat.div_eq_of_lt h2];omega
 ·have:R % y=((R - t * y)+y * t) % y:=by rw [← e]
  rw [this,Nat.add_mul_mod_self_left,Nat.mod_eq_of_lt h2]
theorem d49 (x k:Nat) (h:k < (p7 x).length):val ((p7 x).drop k)=(p7 x).getD k 0+10 * val ((p7 x).drop (k+1)):=by
 rw [List.drop_eq_getElem_cons h];simp [val,List.getD,h]
theorem b76 (a r:Nat) (ha:a≤9):V8 (a :: p7 r)=p7 (a+10 * r):=by
 rw [a13]
 ·simp only [val,C0]
 ·intro d hd
  rcases List.mem_cons.1 hd with rfl | hd
  ·exact ha
  ·exact B3 r d hd
theorem a11 (n k:Nat) (h:n ≠ 0) (hk:k < (p7 n).length):bt (s3 n) k=48+((p7 n).getD ((p7 n).length - 1 - k) 0:Int):=by
 have hs:(s3 n).length=(p7 n).length:=by unfold s3;rw [if_neg h];simp
 have hbt:bt (s3 n) k=(((s3 n)[k]'oM).toNat:Int):=by unfold bt;simp [List.getD,List.getElem?_eq_getElem (show k < (s3 n).length by omega)]
 rw [hbt]
 have h9:(p7 n).getD ((p7 n).length - 1 - k) 0≤9:=by
  have hlt:(p7 n).length - 1 - k < (p7 n).length:=oM
  simp only [List.getD,List.getElem?_eq_getElem hlt,Option.getD_some]
  exact B3 n _ (List.getElem_mem hlt)
 have:(s3 n)[k]'oM=UInt8.ofNat (48+(p7 n).getD ((p7 n).length - 1 - k) 0):=by
  have e:s3 n=((p7 n).reverse.map fun d=>UInt8.ofNat (48+d)):=by unfold s3;rw [if_neg h]
  simp only [e]
  simp [List.getD,show (p7 n).length - 1 - k < (p7 n).length by omega]
 rw [this]
 simp only [UInt8.toNat_ofNat']
 omega

theorem a12 (n:Nat) (h:n ≠ 0):(s3 n).length=(p7 n).length:=by unfold s3;rw [if_neg h];simp
theorem b9q (n:Nat) (h:n ≠ 0):(p7 n).getD ((p7 n).length - 1) 0 ≠ 0:=by
 induction n using Nat.strongRecOn with
 | _ n ih =>
  rw [E1 h]
  by_cases h1:n / 10=0
  ·rw [h1,C5];simp;omega
  ·have:=ih (n / 10) oM h1
   have h2:(p7 (n / 10)).length ≠ 0:=by rw [E1 h1];simp
   obtain ⟨m,hm⟩:∃ m,(p7 (n / 10)).length=m+1:=⟨_,(Nat.succ_pred h2).symm⟩
   rw [hm] at this
   simp only [List.length_cons,hm,Nat.add_sub_cancel]
   simpa [List.getD] using this
theorem a7f (s:u4) (i:Nat) (hi:i≤s.length) (h:∀ j,i≤j→j < s.length→48≤bt s j∧bt s j≤57):G4 s i=s.length:=by
 fun_induction G4 s i with
 | case1 i h1 h2 ih=>exact ih oM (fun j a b=>h j oM b)
 | case2 i h1 h2=>exact absurd (by have:=h i (Nat.le_refl _) h1;simp [b6d];omega) h2
 | case3 i h1=>omega
theorem d9t (n k:Nat) (h:n ≠ 0) (hk:k≤(p7 n).length):D4 (s3 n) 0 k []=(p7 n).drop ((p7 n).length - k):=by
 induction k with
 | zero=>simp [D4]
 | succ k ih =>
  rw [a9g _ _ _ (Nat.zero_le _),ih oM,a11 n k h oM]
  have hlt:(p7 n).length - (k+1) < (p7 n).length:=oM
  rw [List.drop_eq_getElem_cons hlt]
  congr 1
  ·simp only [List.getD,show (p7 n).length - 1 - k=(p7 n).length - (k+1) by omega,List.getElem?_eq_getElem hlt,Option.getD_some];omega
  ·congr 1;omega
theorem A7 (n:Nat):p8 (s3 n)=n:=by
 by_cases h:n=0
 ·subst h;exact b3o
 ·have hs:=a12 n h
  have hl:(p7 n).length ≠ 0:=by rw [E1 h];simp
  have hall:∀ j,0≤j→j < (s3 n).length→48≤bt (s3 n) j∧bt (s3 n) j≤57:=by
   intro j _ hj
   rw [a11 n j h oM]
   have hlt:(p7 n).length - 1 - j < (p7 n).length:=oM
   have:=B3 n ((p7 n)[(p7 n).length - 1 - j]) (List.getElem_mem hlt)
   simp only [List.getD,List.getElem?_eq_getElem hlt,Option.getD_some]
   omega
  have h0:=hall 0 (Nat.le_refl _) oM
  have hsg:A9 (s3 n)=0:=by unfold A9;rw [if_neg oM]
  have hb0:bt (s3 n) 0 ≠ 48:=by
   rw [a11 n 0 h oM]
   have:=b9q n h
   rw [Nat.sub_zero]
   omega
  have hok:K4 (s3 n)=true:=by
   unfold K4
   rw [hsg,a7f _ 0 (Nat.zero_le _) hall]
   simp [hb0];right;omega
  unfold p8
  rw [if_pos hok,hsg,if_neg oM,b3z _ 0 (Nat.zero_le _),hs,d9t n _ h (Nat.le_refl _),Nat.sub_self,List.drop_zero,C0]
theorem a7z (c:UInt8) (s:u4) (k:Nat):bt (c :: s) (k+1)=bt s k:=by simp [bt]
theorem c4h (c:UInt8) (s:u4) (k acc:Nat):D0 (c :: s) (k+1) acc=D0 s k acc:=by
 fun_induction D0 s k acc with
 | case1 k acc h ih=>rw [D0,if_pos (by simp;omega),a7z,ih]
 | case2 k acc h=>rw [D0,if_neg (by simp;omega)]
theorem c59 (c:UInt8) (s:u4) (k:Nat):G4 (c :: s) (k+1)=G4 s k+1:=by
 fun_induction G4 s k with
 | case1 k h1 h2 ih=>rw [G4,if_pos (by simp;omega),a7z,if_pos h2,ih]
 | case2 k h1 h2=>rw [G4,if_pos (by simp;omega),a7z,if_neg h2]
 | case3 k h=>rw [G4,if_neg (by simp;omega)]
theorem c6s (n:Nat) (h:n ≠ 0):(∀ j,0≤j→j < (s3 n).length→48≤bt (s3 n) j∧bt (s3 n) j≤57)∧bt (s3 n) 0 ≠ 48∧0 < (s3 n).length:=by
 have hs:=a12 n h
 have hl:(p7 n).length ≠ 0:=by rw [E1 h];simp
 refine ⟨?_,?_,oM⟩
 ·intro j _ hj
  rw [a11 n j h oM]
  have hlt:(p7 n).length - 1 - j < (p7 n).length:=oM
  have:=B3 n ((p7 n)[(p7 n).length - 1 - j]) (List.getElem_mem hlt)
  simp only [List.getD,List.getElem?_eq_getElem hlt,Option.getD_some]
  omega
 ·rw [a11 n 0 h oM]
  have:=b9q n h
  rw [Nat.sub_zero]
  omega
theorem d0y (n:Nat) (h:n ≠ 0):p8 (45 :: s3 n)=-(n:Int):=by
 obtain ⟨h1,h2,h3⟩:=c6s n h
 have hsg:A9 (45 :: s3 n)=1:=by unfold A9;rw [if_pos];exact ⟨by simp,rfl⟩
 have hsg0:A9 (s3 n)=0:=by unfold A9;rw [if_neg];have:=h1 0 (Nat.le_refl _) h3;omega
 have hok:K4 (45 :: s3 n)=true:=by
  unfold K4
  rw [hsg,show (1:Nat)=0+1 from rfl,c59,a7z,a7f _ 0 (Nat.zero_le _) h1]
  simp [h2];right;omega
 have hv:=A7 n
 have hok0:K4 (s3 n)=true:=by
  unfold K4
  rw [hsg0,a7f _ 0 (Nat.zero_le _) h1]
  simp [h2];right;omega
 unfold p8 at hv
 rw [if_pos hok0,hsg0,if_neg oM] at hv
 unfold p8
 rw [if_pos hok,hsg,if_pos rfl,show (1:Nat)=0+1 from rfl,c4h,hv]
theorem v7 (n:Int):p8 (p5 n)=n:=by
 unfold p5
 split
 ·rename_i h
  show p8 (45 :: s3 n.natAbs)=n
  rw [d0y _ oM];omega
 ·rw [A7];omega
theorem b32 {a b:Int} (h:p5 a=p5 b):a=b:=by rw [← v7 a,h,v7]
theorem a3b {a b:Nat} (h:s3 a=s3 b):a=b:=by
 have:=congrArg p8 h
 rw [A7,A7] at this
 omega
end LQ
namespace Go.Proofs.YtkojildpddaccaaGreatDoor
open Go.Abs LQ
noncomputable section
abbrev Sy:=u4 × u4
inductive O where
 | num (n:Int) (d:Nat)
 | sy (s:Sy)
 | tx (s:u4)
 | co (a d:O)
 | no
namespace O
def k:O→Int
 | num _ _=>1
 | sy _=>2
 | tx _=>3
 | co _ _=>4
 | no=>0
def nu:O→u4
 | num n _=>p5 n
 | _=>[]
def de:O→u4
 | num _ d=>s3 d
 | _=>[]
def sym:O→Sy
 | sy s=>s
 | _=>([],[])
def txt:O→u4
 | tx s=>s
 | _=>[]
def ps:O→List O
 | co a d=>[a,d]
 | _=>[]
def g:O→List G
 | num n d=>[.i .i64 1,.s (p5 n),.s (s3 d),.s [],.s [],.s [],.l []]
 | sy s=>[.i .i64 2,.s [],.s [],.s s.1,.s s.2,.s [],.l []]
 | tx s=>[.i .i64 3,.s [],.s [],.s [],.s [],.s s,.l []]
 | co a d=>[.i .i64 4,.s [],.s [],.s [],.s [],.s [],.l [a.g,d.g]]
 | no=>[.i .i64 0,.s [],.s [],.s [],.s [],.s [],.l []]
theorem g_eq (a:O):a.g=[.i .i64 a.k,.s a.nu,.s a.de,.s a.sym.1,.s a.sym.2,.s a.txt,.l (a.ps.map O.g)]:=by cases a <;> rfl
theorem g_len (a:O):a.g.length=7:=by cases a <;> rfl
theorem ps_le (a:O):a.ps.length≤2:=by cases a <;> simp [ps]
theorem ps_fuel (a:O):a.ps.length - 0 < C9:=by cases a <;> simp [ps,C9]
theorem ext {a b:O} (h1:a.k=b.k) (h2:a.nu=b.nu) (h3:a.de=b.de) (h4:a.sym=b.sym) (h5:a.txt=b.txt) (h6:a.ps=b.ps):a=b:=by
 cases a <;> cases b <;> simp_all [k,nu,de,sym,txt,ps]
 exact ⟨b32 h2,a3b h3⟩
theorem g_inj:∀ {a b:O},a.g=b.g→a=b:=by
 intro a
 induction a with
 | num n d=>intro b h;cases b <;> simp only [g,List.cons.injEq,G.s.injEq,G.i.injEq,reduceCtorEq,and_true,true_and,false_and,and_false,Int.reduceEq] at h;exact (congrArg (O.num · _) (b32 h.1)).trans (congrArg (O.num _) (a3b h.2))
 | sy s=>intro b h;cases b <;> simp [g] at h;exact congrArg O.sy (Prod.ext h.1 h.2)
 | tx s=>intro b h;cases b <;> simp [g] at h;rw [h]
 | co a d iha ihd=>intro b h;cases b <;> simp [g] at h;rw [iha h.1,ihd h.2]
 | no=>intro b h;cases b <;> simp [g] at h;rfl
open Classical in
def eqb (a b:O):Bool:=decide (a=b)
theorem eqb_t {a b:O}:eqb a b=true↔a=b:=by unfold eqb;simp
theorem eqb_f {a b:O}:eqb a b=false↔¬a=b:=by unfold eqb;simp
def size:O→Nat
 | co a d=>1+a.size+d.size
 | _=>1
theorem size_pos (a:O):0 < a.size:=by cases a <;> simp [size] <;> omega
theorem ps_size (a:O):∀ x ∈ a.ps,x.size < a.size:=by cases a <;> simp [ps,size] <;> omega
end O
theorem a05:∀ {l m:List O},l.map O.g=m.map O.g→l=m
 | [],[],_=>rfl
 | [],_ :: _,h=>by simp at h
 | _ :: _,[],h=>by simp at h
 | a :: l,b :: m,h=>by simp only [List.map_cons,List.cons.injEq] at h;exact congr (congrArg List.cons (O.g_inj h.1)) (a05 h.2)
theorem b0u {x y:O} {vs:List V} (h:t7 [.a x.g] vs) (k:t7 [.a y.g] vs):x=y:=by
 cases h with | cons _ _ v _ h _=>cases k with | cons _ _ _ _ k _=>exact O.g_inj (h.a_inj k)
theorem b0v {x y x' y':O} {vs:List V} (h:t7 [.a x.g,.a x'.g] vs) (k:t7 [.a y.g,.a y'.g] vs):x=y∧x'=y':=by
 cases h with | cons _ _ v _ h h'=>cases k with | cons _ _ _ _ k k'=>exact ⟨O.g_inj (h.a_inj k),b0u h' k'⟩
end
end Go.Proofs.YtkojildpddaccaaGreatDoor
namespace Go.Proofs.YtkojildpddaccaaGreatDoor
open Go.Abs LQ
structure Tr (p q:Prop):Prop where
 go:q→p
theorem Tr.refl {p:Prop}:Tr p p:=⟨id⟩
theorem Tr.b {p p' q:Prop} (f:p'→p) (h:Tr p' q):Tr p q:=⟨fun k=>f (h.go k)⟩
theorem Tr.all {α:Sort _} {p q:α→Prop} (h:∀ x,Tr (p x) (q x)):Tr (∀ x,p x) (∀ x,q x):=⟨fun k x=>(h x).go (k x)⟩
theorem Tr.chk {U:B0} {P:H4→List Bx→Prop} {b:Bool} {p q:Prop} {x:Om} (ht:K8 U b p) (hp:p) (h:Tr (s4 U x P) q):Tr (s4 U (U.chk b x) P) q:=⟨fun k=>d3m ht hp (h.go k)⟩
theorem Tr.cnd {U:B0} {P:H4→List Bx→Prop} {b:Bool} {p:Prop} {q1:p→Prop} {q2:¬p→Prop} {x y:Om} (ht:K8 U b p) (h:∀ a,Tr (s4 U x P) (q1 a)) (k:∀ a,Tr (s4 U y P) (q2 a)):Tr (s4 U (U.cnd b x y) P) ((∀ a,q1 a)∧(∀ a,q2 a)):=⟨fun g=>a93 ht (fun a=>(h a).go (g.1 a)) (fun a=>(k a).go (g.2 a))⟩
theorem Zx {p q:Prop} (k:q) (h:Tr p q:=by ((repeat' (first | (with_reducible apply Tr.all) | (with_reducible intro _) | (apply Tr.b;(case f=>first | exact b3c | exact M3 aS | exact b8x | exact b3e aS | exact b3d | exact a8p aS | exact a8n | exact a8o aS | exact sP | exact sPR aS | exact sIV | exact sI aS | exact sBV | exact sBK | exact sB aS | exact sSV | exact sS aS | exact sA | exact C4 aS (by rfl) | exact b44 (by rfl) | exact b8y (by rfl) | exact b69 aS (by rfl) | exact b8z aS (by rfl) | exact a94 aS | exact sSl aS | exact sTu aS | exact sBo | exact a32 aS (by rfl) | exact sBc | exact c5c aS | exact sBt | exact sBs | exact sBr | exact a5t aS | exact b3g aS | exact Y1 aS (by rfl) | exact c5d aS (by rfl) | exact sCI' aS (by rfl) | exact sCB' aS (by rfl) | exact sCS aS | exact sCI aS | exact sCB aS | exact b12 (by first | omega | (simp only [List.length_map] at *;omega)) | exact b3f (by first | omega | (simp only [List.length_map] at *;omega)) | exact b7b | exact a8q | exact a8u | exact b7a | exact b13 | exact b11 | exact sfSubN | exact a8s | exact a8r | exact sfB | exact sJn | exact b68 | exact b66 | exact b67 | exact E5 aS (by (first | exact v6 O.g_len | exact v6 (fun _=>rfl))) | exact b43 aS (by (first | exact v6 O.g_len | exact v6 (fun _=>rfl))) | exact b7c (by first | omega | (simp only [List.length_map] at *;omega)) | exact b7d (by first | omega | (simp only [List.length_map] at *;omega)) | exact c5f aS (by first | assumption | omega | (simp only [List.length_map] at *;omega)) | exact sfT aS (by rfl))) | (apply Tr.chk;(case ht=>(repeat' (first | exact trT | exact trF | apply a0f | apply V7 | exact a0e | exact Y2 | exact a1b | exact a0l | exact a1a | exact U6 | exact U7 | exact U5 | exact U4 | exact V9 | exact a0g | exact a2t | exact a1c | exact trS | exact trV)));(case hp=>first | omega | (simp only [List.length_map] at *;omega))) | (apply Tr.cnd;(case ht=>(repeat' (first | exact trT | exact trF | apply a0f | apply V7 | exact a0e | exact Y2 | exact a1b | exact a0l | exact a1a | exact U6 | exact U7 | exact U5 | exact U4 | exact V9 | exact a0g | exact a2t | exact a1c | exact trS | exact trV))))));all_goals exact Tr.refl)):p:=h.go k
theorem Zy {p q:Prop} (k:q) (h:Tr p q:=by ((repeat' (first | (with_reducible apply Tr.all) | (with_reducible intro _) | (apply Tr.b;(case f=>first | exact b3c | exact M3 aS | exact b8x | exact b3e aS | exact b3d | exact a8p aS | exact a8n | exact a8o aS | exact sP | exact sPR aS | exact sIV | exact sI aS | exact sBV | exact sBK | exact sB aS | exact sSV | exact sS aS | exact sA | exact C4 aS (by rfl) | exact b44 (by rfl) | exact b8y (by rfl) | exact b69 aS (by rfl) | exact b8z aS (by rfl) | exact a94 aS | exact sSl aS | exact sTu aS | exact sBo | exact a32 aS (by rfl) | exact sBc | exact c5c aS | exact sBt | exact sBs | exact sBr | exact a5t aS | exact b3g aS | exact Y1 aS (by rfl) | exact c5d aS (by rfl) | exact sCI' aS (by rfl) | exact sCB' aS (by rfl) | exact sCS aS | exact sCI aS | exact sCB aS | exact b12 (by first | omega | (simp only [List.length_map] at *;omega)) | exact b3f (by first | omega | (simp only [List.length_map] at *;omega)) | exact b7b | exact a8q | exact a8u | exact b7a | exact b13 | exact b11 | exact sfSubN | exact a8s | exact a8r | exact sfB | exact b68 | exact b66 | exact b67 | exact E5 aS (by (first | exact v6 O.g_len | exact v6 (fun _=>rfl))) | exact b43 aS (by (first | exact v6 O.g_len | exact v6 (fun _=>rfl))) | exact b7c (by first | omega | (simp only [List.length_map] at *;omega)) | exact b7d (by first | omega | (simp only [List.length_map] at *;omega)) | exact c5f aS (by first | assumption | omega | (simp only [List.length_map] at *;omega)) | exact sfT aS (by rfl))) | (apply Tr.chk;(case ht=>(repeat' (first | exact trT | exact trF | apply a0f | apply V7 | exact a0e | exact Y2 | exact a1b | exact a0l | exact a1a | exact U6 | exact U7 | exact U5 | exact U4 | exact V9 | exact a0g | exact a2t | exact a1c | exact trS | exact trV)));(case hp=>first | omega | (simp only [List.length_map] at *;omega))) | (apply Tr.cnd;(case ht=>(repeat' (first | exact trT | exact trF | apply a0f | apply V7 | exact a0e | exact Y2 | exact a1b | exact a0l | exact a1a | exact U6 | exact U7 | exact U5 | exact U4 | exact V9 | exact a0g | exact a2t | exact a1c | exact trS | exact trV))))));all_goals exact Tr.refl)):p:=h.go k
theorem Zw {p q:Prop} (k:q) (h:Tr p q:=by ((repeat' (first | (with_reducible apply Tr.all) | (with_reducible intro _) | (apply Tr.b;(case f=>first | exact b3c | exact M3 aS | exact b8x | exact b3e aS | exact b3d | exact a8p aS | exact a8n | exact a8o aS | exact sP | exact sPR aS | exact sIV | exact sI aS | exact sBV | exact sBK | exact sB aS | exact sSV | exact sS aS | exact sA | exact C4 aS (by rfl) | exact b44 (by rfl) | exact b8y (by rfl) | exact b69 aS (by rfl) | exact b8z aS (by rfl) | exact a94 aS | exact sSl aS | exact sTu aS | exact sBo | exact a32 aS (by rfl) | exact sBc | exact c5c aS | exact sBt | exact sBs | exact sBr | exact a5t aS | exact b3g aS | exact Y1 aS (by rfl) | exact c5d aS (by rfl) | exact sCI' aS (by rfl) | exact sCB' aS (by rfl) | exact sCS aS | exact sCI aS | exact sCB aS | exact b12 (by first | omega | (simp only [List.length_map] at *;omega)) | exact b3f (by first | omega | (simp only [List.length_map] at *;omega)) | exact b7b | exact a8q | exact a8u | exact b7a | exact b13 | exact b11 | exact sfSubN | exact a8s | exact a8r | exact sfB | exact sJn | exact b68 | exact b66 | exact b67 | exact E5 aS (by (first | exact v6 O.g_len | exact v6 (fun _=>rfl))) | exact b43 aS (by (first | exact v6 O.g_len | exact v6 (fun _=>rfl))) | exact b7c (by first | omega | (simp only [List.length_map] at *;omega)) | exact b7d (by first | omega | (simp only [List.length_map] at *;omega)) | exact c5f aS (by first | assumption | omega | (simp only [List.length_map] at *;omega)) | exact sfT aS (by rfl))) | (apply Tr.chk;(case ht=>(repeat' (first | exact trT | exact trF | apply a0f | apply V7 | exact a0e | exact Y2 | exact a1b | exact a0l | exact a1a | exact U6 | exact U7 | exact U5 | exact U4 | exact V9 | exact a0g | exact a2t | exact a1c | exact trS | exact trV)));(case hp=>first | omega | (simp only [List.length_map] at *;omega)))));all_goals exact Tr.refl)):p:=h.go k
theorem u5 {p:Prop} (h:p:=by (repeat' (first | exact t7.nil | refine t7.cons _ _ _ _ ?_ ?_ | exact s5.nil | assumption | exact RV.i _ _ | exact RV.b _ | exact RV.kn _ | exact RV.s _ _ _ rfl rfl | refine RV.a _ _ _ (by first | rfl | exact (O.g_len _).symm) aS | refine RV.sl _ _ _ _ _ (by first | rfl | simp) aS | refine RV.q _ _ aS | exact RV.p _ _ | exact RV.cl _ _ _ _ _ rfl (u6.nil _ _ _) | refine RV.ag _ _ ?_ | refine RV.t _ _ ?_ | refine RV.sl _ _ _ _ _ (by rfl) (u6.nil _ _ _) | exact RV.sl0 _ _ _ | refine RV.s _ _ _ (by rfl) (by rfl)))):p:=h
theorem Zru {p:Prop} (h:p:=by (repeat' (first | exact t7.nil | refine t7.cons _ _ _ _ ?_ ?_ | exact s5.nil | assumption | exact RV.i _ _ | exact RV.b _ | exact RV.kn _ | exact RV.s _ _ _ rfl rfl | refine RV.q _ _ (u3.at aS (by rfl)) | refine RV.a _ _ _ (by first | rfl | exact (O.g_len _).symm) aS | refine RV.q _ _ aS | refine RV.cl _ _ _ _ _ rfl (u6.nil _ _ _) | refine RV.ag _ _ ?_ | refine RV.t _ _ ?_ | refine RV.s _ _ _ (by rfl) (by rfl)))):p:=h
theorem aI {a b:Prop} (left:a) (right:b):a∧b:=⟨left,right⟩
theorem oV {a:O} {x:Q} (h:u3 a.g x 0:=by assumption):RV (.a a.g) (.a x 7):=.a _ _ _ a.g_len.symm h
theorem oA {a:O} {x:Q} (h:u3 a.g x 0:=by assumption):t7 [.a a.g] [.a x 7]:=.cons _ _ _ _ (oV h) .nil
theorem oR {U:B0} {P:H4→List Bx→Prop} {a:O} {v:V} {K:Q→Om} (k:∀ q,u3 a.g q 0→s4 U (K q) P) (h:RV (.a a.g) v:=by assumption):s4 U (U.uA 7 v K) P:=C4 h a.g_len k
end Go.Proofs.YtkojildpddaccaaGreatDoor
