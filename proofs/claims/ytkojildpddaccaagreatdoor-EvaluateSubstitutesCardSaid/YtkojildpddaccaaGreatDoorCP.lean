/- Plain functions on texts: tokens. No program in sight. -/
import Derived.Test.YtkojildpddaccaaGreatDoorCG
set_option linter.all false
namespace LQ
abbrev u5:=List UInt8
def bt (s:u5) (k:Nat):Int:=((s.getD k 0).toNat:Int)
def e7o (c:Int):Bool:=decide (c=32∨c=9∨c=10∨c=13)
def has (s:u5) (i:Nat) (a b:Int):Bool:=decide (i+1 < s.length∧bt s i=a∧bt s (i+1)=b)

def c07 (s:u5) (i:Nat):Nat :=
 if i < s.length then if bt s i=10 then i else c07 s (i+1) else i
termination_by s.length - i
def b7z (s:u5) (i depth:Nat):Option Nat :=
 if depth=0 then some i
 else if i < s.length then
  if has s i 35 124 then b7z s (i+2) (depth+1)
  else if has s i 124 35 then b7z s (i+2) (depth - 1)
  else b7z s (i+1) depth
 else none
termination_by s.length - i
def skip (s:u5) (i:Nat):Option Nat :=
 if i < s.length then
  if e7o (bt s i) then skip s (i+1)
  else if bt s i=59 then (if i < c07 s i then skip s (c07 s i) else some i)
  else if has s i 35 124 then
   match b7z s (i+2) 1 with
   | none=>none
   | some j=>if i < j then skip s j else some i
  else some i
 else some i
termination_by s.length - i
def b4n (c:Int):Bool:=decide (48≤c∧c≤57)
def E7 (s:u5) (k:Nat):Nat :=
 if k < s.length then if b4n (bt s k) then E7 s (k+1) else k else k
termination_by s.length - k
def d2r (s:u5) (k:Nat):Nat :=
 if k < s.length then if bt s k=48 then d2r s (k+1) else k else k
termination_by s.length - k
def u6 (s:u5):Nat:=if 0 < s.length∧bt s 0=45 then 1 else 0
theorem b1k (s:u5):u6 s≤s.length∧u6 s≤1:=by unfold u6;split <;> omega
def P5:u5:=[49]
def E9:u5:=[48]
def plain (s:u5):u5 :=
 let i:=d2r s (u6 s)
 if i=s.length then E9
 else if u6 s=1 then ([45]:u5) ++ ((s.take (s.length)).drop (i))
 else ((s.take (s.length)).drop (i))
def a6a (c:Int):Bool:=decide ((97≤c∧c≤122)∨(48≤c∧c≤57)∨c=45)
def P9 (s:u5) (k:Nat):Bool:=if k < s.length then if a6a (bt s k) then P9 s (k+1) else false else true
termination_by s.length - k
def V5 (s:u5):Bool:=decide (1≤s.length∧s.length≤40∧97≤bt s 0∧bt s 0≤122) && P9 s 0
def C2 (s:u5):Bool :=
 decide (s=E9) || (decide (u6 s < s.length∧bt s (u6 s) ≠ 48) && decide (E7 s (u6 s)=s.length))
def D3 (s:u5) (k:Nat) (acc:Nat):Nat:=if k < s.length then D3 s (k+1) (10 * acc+(bt s k - 48).toNat) else acc
termination_by s.length - k
def s3 (s:u5):Int:=if C2 s then (if u6 s=1 then -(D3 s 1 0:Int) else (D3 s 0 0:Int)) else 0
def t8 (n:Nat):List Nat:=if h:n=0 then [] else n % 10 :: t8 (n / 10)
termination_by n
def s8 (n:Nat):u5:=if n=0 then E9 else ((t8 n).reverse.map fun d=>UInt8.ofNat (48+d))
def s4 (n:Int):u5:=if n < 0 then [45] ++ s8 n.natAbs else s8 n.natAbs
def D6 (num den:u5):u5 × u5 :=
 if s3 den=0 then (E9,P5)
 else
  let g:=Nat.gcd (s3 num).natAbs (s3 den).natAbs
  (s4 ((if (s3 num < 0)=(s3 den < 0) then 1 else -1) * (((s3 num).natAbs / g:Nat):Int)),s8 ((s3 den).natAbs / g))
def L6 (a:u5):Nat:=max 1 (t8 (s3 a).natAbs).length

structure Tok where
 kind:Int
 pos:Nat
 pkg:u5
 text:u5
 den:u5
theorem b0q (s:u5) (i j:Nat) (hi:i≤j) (hj:j < E7 s i):48≤bt s j∧bt s j≤57:=by
 fun_induction E7 s i with
 | case1 i h1 h2 ih =>
  by_cases h:j=i
  ·subst h;simpa [b4n] using h2
  ·exact ih oM hj
 | case2=>omega
 | case3=>omega
def D5 (s:u5) (e:Nat):Nat→List Nat→List Nat
 | 0,acc=>acc
 | k+1,acc=>if e≤k then D5 s e k (acc ++ [(bt s k - 48).toNat]) else acc
def a1u (s:u5):Bool × List Nat :=
 if C2 s=true∧s ≠ E9 then (decide (u6 s=1),D5 s (u6 s) s.length []) else (false,[])
def W2 (l:List Nat):Nat→Nat
 | 0=>0
 | n+1=>if l.getD n 0=0 then W2 l n else n+1
def H7 (l:List Nat):List Nat:=l.take (W2 l l.length)
def J1 (a b:List Nat):Nat→Int
 | 0=>0
 | k+1=>if a.getD k 0 < b.getD k 0 then -1 else if b.getD k 0 < a.getD k 0 then 1 else J1 a b k
def N1 (a b:List Nat):Int :=
 if a.length=b.length then J1 a b a.length else if a.length < b.length then -1 else 1
def M6 (a b:List Nat) (i bor:Nat):Int:=(a.getD i 0:Int) - bor - (if i < b.length then (b.getD i 0:Int) else 0)
def S3 (a b:List Nat) (i bor:Nat) (acc:List Nat):List Nat :=
 if i < a.length then
  if M6 a b i bor < 0 then S3 a b (i+1) 1 (acc ++ [(M6 a b i bor+10).toNat])
  else S3 a b (i+1) 0 (acc ++ [(M6 a b i bor).toNat])
 else acc
termination_by a.length - i
def c1v (a b:List Nat):List Nat:=H7 (S3 a b 0 0 [])
def val:List Nat→Nat
 | []=>0
 | d :: t=>d+10 * val t
def D9 (l:List Nat):Prop:=∀ d ∈ l,d≤9
theorem C7:t8 0=[]:=by rw [t8];simp
theorem F2 {n:Nat} (h:n ≠ 0):t8 n=n % 10 :: t8 (n / 10):=by rw [t8,dif_neg h]
theorem G1 (n:Nat):val (t8 n)=n:=by
 induction n using Nat.strongRecOn with
 | _ n ih =>
  by_cases h:n=0
  ·subst h;rw [C7];rfl
  ·rw [F2 h,val,ih (n / 10) oM];omega
theorem G3 (n:Nat):D9 (t8 n):=by
 induction n using Nat.strongRecOn with
 | _ n ih =>
  by_cases h:n=0
  ·subst h;rw [C7];intro d hd;simp at hd
  ·rw [F2 h];intro d hd;simp at hd;rcases hd with rfl | hd
   ·omega
   ·exact ih (n / 10) oM d hd
theorem c2j {d m:Nat} (hd:d≤9) (h:d ≠ 0∨m ≠ 0):t8 (d+10 * m)=d :: t8 m:=by
 rw [F2 oM];congr 1
 ·omega
 ·congr 1;omega
theorem a5w (a b:List Nat):val (a ++ b)=val a+10 ^ a.length * val b:=by
 induction a with
 | nil=>simp [val]
 | cons d t ih=>simp only [List.cons_append,val,ih,List.length_cons,Nat.pow_succ];rw [Nat.mul_add,← Nat.mul_assoc,Nat.mul_comm (10 ^ t.length) 10];omega
theorem c2l (t:List Nat) (d:Nat) (h9:D9 (t ++ [d])) (hd:d ≠ 0):t8 (val (t ++ [d]))=t ++ [d]:=by
 induction t with
 | nil =>
  have:d≤9:=h9 d (by simp);simp only [List.nil_append,val];rw [Nat.mul_zero,← Nat.mul_zero 10,c2j this (.inl hd),C7]
 | cons x t ih =>
  simp only [List.cons_append,val];rw [c2j (h9 x (by simp)),ih (fun y hy=>h9 y (by simp at hy ⊢;exact .inr hy))];refine .inr fun h0=>hd ?_;have h2:=a5w t [d];rw [h0] at h2;simp only [val] at h2;have h3:0 < 10 ^ t.length:=Nat.pow_pos oM;rw [Nat.mul_zero,Nat.add_zero] at h2;have h4:10 ^ t.length * d=0:=oM;rcases Nat.mul_eq_zero.1 h4 with h | h <;> omega
theorem d45 (l:List Nat) (h9:D9 l) (n:Nat) (hn:n≤l.length):l.take (W2 l n)=t8 (val (l.take n)):=by
 induction n with
 | zero=>simp [W2,val,C7]
 | succ n ih =>
  have hlt:n < l.length:=oM;have htk:l.take (n+1)=l.take n ++ [l.getD n 0]:=by
   rw [List.take_succ_eq_append_getElem hlt];simp [List.getD,hlt]
  simp only [W2];split
  ·rename_i h0;rw [ih oM,htk,h0,a5w];simp [val]
  ·rename_i h0;rw [htk,c2l _ _ _ h0];intro d hd;rw [← htk] at hd;exact h9 d (List.mem_of_mem_take hd)
theorem a5v (l:List Nat) (h9:D9 l):H7 l=t8 (val l):=by
 unfold H7;rw [d45 l h9 l.length (Nat.le_refl _),List.take_length]
def a40:List Nat→List Nat→Nat→List Nat
 | [],_,_=>[]
 | x :: a,b,bor =>
  if (x:Int) - bor - (b.headD 0:Int) < 0 then ((x:Int) - bor - (b.headD 0:Int)+10).toNat :: a40 a b.tail 1
  else ((x:Int) - bor - (b.headD 0:Int)).toNat :: a40 a b.tail 0
theorem b52 (a b:List Nat) (i bor:Nat):M6 a b i bor=(a.getD i 0:Int) - bor - ((b.drop i).headD 0:Int):=by
 unfold M6;rcases Nat.lt_or_ge i b.length with h | h
 ·rw [if_pos h,List.drop_eq_getElem_cons h];simp [List.getD,h]
 ·rw [if_neg oM,List.drop_eq_nil_of_le h];simp
theorem d40 (a b:List Nat) (i bor:Nat) (acc:List Nat) (hi:i≤a.length):S3 a b i bor acc=acc ++ a40 (a.drop i) (b.drop i) bor:=by
 fun_induction S3 a b i bor acc with
 | case1 i bor acc h1 h2 ih =>
  rw [ih oM,List.drop_eq_getElem_cons h1,a40];rw [b52] at h2 ⊢;simp only [List.getD,List.getElem?_eq_getElem h1,Option.getD_some] at h2 ⊢;rw [if_pos h2];simp
 | case2 i bor acc h1 h2 ih =>
  rw [ih oM,List.drop_eq_getElem_cons h1,a40];rw [b52] at h2 ⊢;simp only [List.getD,List.getElem?_eq_getElem h1,Option.getD_some] at h2 ⊢;rw [if_neg h2];simp
 | case3 i bor acc h1 =>
  rw [List.drop_eq_nil_of_le oM];simp [a40]
theorem e4m (b:List Nat):val b=b.headD 0+10 * val b.tail:=by cases b <;> simp [val]
theorem e4b (a b:List Nat) (bor:Nat) (ha:D9 a) (hb:D9 b) (hbor:bor≤1) (h:val b+bor≤val a):val (a40 a b bor)+val b+bor=val a:=by
 induction a generalizing b bor with
 | nil=>simp [val] at h;simp [a40,val];omega
 | cons x a ih =>
  have hx:x≤9:=ha x (by simp);have ha':D9 a:=fun d hd=>ha d (by simp [hd]);have hb':D9 b.tail:=fun d hd=>hb d (List.mem_of_mem_tail hd);have hy:b.headD 0≤9:=by
   cases b with
   | nil=>simp
   | cons y t=>exact hb y (by simp)
  have hvb:=e4m b;simp only [val] at h;simp only [a40];split
  ·rename_i hz;have:=ih b.tail 1 ha' hb' oM oM;simp only [val];omega
  ·rename_i hz;have:=ih b.tail 0 ha' hb' oM oM;simp only [val];omega
theorem f1t (a b:List Nat) (bor:Nat) (ha:D9 a) (hb:D9 b) (hbor:bor≤1):D9 (a40 a b bor):=by
 induction a generalizing b bor with
 | nil=>intro d hd;simp [a40] at hd
 | cons x a ih =>
  have hx:x≤9:=ha x (by simp);have ha':D9 a:=fun d hd=>ha d (by simp [hd]);have hb':D9 b.tail:=fun d hd=>hb d (List.mem_of_mem_tail hd);simp only [a40];split
  ·rename_i hz;intro d hd;rcases List.mem_cons.1 hd with rfl | hd
   ·omega
   ·exact ih b.tail 1 ha' hb' oM d hd
  ·rename_i hz;intro d hd;rcases List.mem_cons.1 hd with rfl | hd
   ·omega
   ·exact ih b.tail 0 ha' hb' oM d hd
theorem d9w (x y:Nat) (h:y≤x):c1v (t8 x) (t8 y)=t8 (x - y):=by
 unfold c1v;rw [d40 _ _ _ _ _ (Nat.zero_le _)];simp only [List.nil_append,List.drop_zero];rw [a5v _ (f1t _ _ _ (G3 x) (G3 y) oM)];have:=e4b (t8 x) (t8 y) 0 (G3 x) (G3 y) oM (by rw [G1,G1];omega);rw [G1,G1] at this;congr 1;omega
theorem a1n (l:List Nat) (h9:D9 l):val l < 10 ^ l.length:=by
 induction l with
 | nil=>simp [val]
 | cons d t ih =>
  have h1:=ih (fun x hx=>h9 x (by simp [hx]));have h2:d≤9:=h9 d (by simp);simp only [val,List.length_cons,Nat.pow_succ];omega
theorem a9i (n:Nat) (h:n ≠ 0):10 ^ ((t8 n).length - 1)≤n:=by
 induction n using Nat.strongRecOn with
 | _ n ih =>
  rw [F2 h];simp only [List.length_cons,Nat.add_sub_cancel];by_cases h1:n / 10=0
  ·rw [h1,C7];simp;omega
  ·have:=ih (n / 10) oM h1;have h2:(t8 (n / 10)).length ≠ 0:=by rw [F2 h1];simp
   have h3:10 ^ (t8 (n / 10)).length=10 * 10 ^ ((t8 (n / 10)).length - 1):=by
    rw [← Nat.pow_succ'];congr 1;omega
   omega
theorem c91 (a b:List Nat) (ha:D9 a) (hb:D9 b) (n:Nat) (hna:n≤a.length) (hnb:n≤b.length) :
  J1 a b n=if val (a.take n) < val (b.take n) then -1 else if val (b.take n) < val (a.take n) then 1 else 0:=by
 induction n with
 | zero=>simp [J1,val]
 | succ n ih =>
  have hla:n < a.length:=oM;have hlb:n < b.length:=oM;have e1:a.take (n+1)=a.take n ++ [a.getD n 0]:=by rw [List.take_succ_eq_append_getElem hla];simp [List.getD,hla]
  have e2:b.take (n+1)=b.take n ++ [b.getD n 0]:=by rw [List.take_succ_eq_append_getElem hlb];simp [List.getD,hlb]
  have v1:=a5w (a.take n) [a.getD n 0];have v2:=a5w (b.take n) [b.getD n 0];have l1:(a.take n).length=n:=by simp;omega
  have l2:(b.take n).length=n:=by simp;omega
  have b1:=a1n (a.take n) (fun d hd=>ha d (List.mem_of_mem_take hd));have b2:=a1n (b.take n) (fun d hd=>hb d (List.mem_of_mem_take hd));rw [l1] at v1 b1;rw [l2] at v2 b2;simp only [val,Nat.mul_zero,Nat.add_zero] at v1 v2;rw [e1,e2,v1,v2];simp only [J1];rw [ih oM oM];generalize a.getD n 0=x at *;generalize b.getD n 0=y at *;generalize val (a.take n)=p at *;generalize val (b.take n)=q at *;generalize 10 ^ n=P at *;by_cases h1:x < y
  ·have:P * (x+1)≤P * y:=Nat.mul_le_mul_left P h1;rw [Nat.mul_add,Nat.mul_one] at this;rw [if_pos h1,if_pos oM]
  ·rw [if_neg h1];by_cases h2:y < x
   ·have:P * (y+1)≤P * x:=Nat.mul_le_mul_left P h2;rw [Nat.mul_add,Nat.mul_one] at this;rw [if_pos h2,if_neg oM,if_pos oM]
   ·rw [if_neg h2];have h3:x=y:=oM;subst h3;simp only [Nat.add_lt_add_iff_right]
theorem d7u (x y:Nat):N1 (t8 x) (t8 y)=if x < y then -1 else if y < x then 1 else 0:=by
 unfold N1;split
 ·rename_i h;rw [c91 _ _ (G3 x) (G3 y) _ (Nat.le_refl _) oM,List.take_length,h,List.take_length,G1,G1]
 ·rename_i h;have b1:=a1n (t8 x) (G3 x);have b2:=a1n (t8 y) (G3 y);rw [G1] at b1 b2;split
  ·rename_i h2;have hy:y ≠ 0:=by intro e;rw [e,C7] at h2;simp at h2
   have g2:=a9i y hy;have:10 ^ (t8 x).length≤10 ^ ((t8 y).length - 1):=Nat.pow_le_pow_right oM oM;rw [if_pos oM]
  ·rename_i h2;have hx:x ≠ 0:=by intro e;rw [e,C7] at h h2;simp only [List.length_nil] at h h2;omega
   have g1:=a9i x hx;have:10 ^ (t8 y).length≤10 ^ ((t8 x).length - 1):=Nat.pow_le_pow_right oM oM;rw [if_neg oM,if_pos oM]

theorem c9i (s:u5) (e:Nat) (k:Nat) (acc:List Nat):D5 s e k acc=acc ++ D5 s e k []:=by
 induction k generalizing acc with
 | zero=>simp [D5]
 | succ k ih =>
  simp only [D5];split
  ·rw [ih (acc ++ _),ih ([] ++ _)];simp
  ·simp
theorem c9v (s:u5) (k acc:Nat) (hk:k≤s.length):D3 s k acc=acc * 10 ^ (s.length - k)+D3 s k 0:=by
 generalize hm:s.length - k=m
 induction m generalizing k acc with
 | zero=>rw [D3,if_neg oM,D3,if_neg oM];simp
 | succ m ih =>
  rw [D3,if_pos oM,D3.eq_def s k 0,if_pos oM,ih (k+1) _ oM oM,ih (k+1) (10 * 0+_) oM oM,Nat.pow_succ];rw [Nat.mul_zero,Nat.zero_add,Nat.add_mul,Nat.mul_comm 10 acc,Nat.mul_assoc,Nat.mul_comm 10 (10 ^ m)];omega
theorem a6o (s:u5) (e k:Nat) (h:e≤k):D5 s e (k+1) []=(bt s k - 48).toNat :: D5 s e k []:=by
 rw [D5,if_pos h,c9i];simp
theorem d0s (s:u5) (e:Nat):D5 s e e []=[]:=by
 cases e with
 | zero=>rfl
 | succ e=>rw [D5,if_neg oM]
theorem c9x (s:u5) (e k:Nat) (he:e≤k) (hk:k≤s.length):D3 s e 0=D3 s k (val (D5 s e k [])):=by
 induction k with
 | zero=>obtain rfl:e=0:=oM
         rfl
 | succ k ih =>
  by_cases h:e=k+1
  ·subst h;rw [d0s];rfl
  ·rw [ih oM oM,a6o s e k oM,D3,if_pos oM];congr 1;simp only [val];omega
theorem b5v (s:u5) (e:Nat) (he:e≤s.length):D3 s e 0=val (D5 s e s.length []):=by
 rw [c9x s e s.length he (Nat.le_refl _),D3,if_neg oM]
theorem c6e (s:u5) (e k:Nat) (h:e < k):∃ t,D5 s e k []=t ++ [(bt s e - 48).toNat]:=by
 induction k with
 | zero=>omega
 | succ k ih =>
  rw [a6o s e k oM];by_cases hk:e=k
  ·subst hk;exact ⟨[],by rw [d0s];rfl⟩
  ·obtain ⟨t,ht⟩:=ih oM;exact ⟨_ :: t,by rw [ht];rfl⟩
theorem f3b (s:u5) (e k:Nat) (h:∀ j,e≤j→j < k→48≤bt s j∧bt s j≤57):D9 (D5 s e k []):=by
 induction k with
 | zero=>intro d hd;simp [D5] at hd
 | succ k ih =>
  by_cases he:e≤k
  ·rw [a6o s e k he];intro d hd;rcases List.mem_cons.1 hd with rfl | hd
   ·have:=h k he oM;omega
   ·exact ih (fun j h1 h2=>h j h1 oM) d hd
  ·rw [D5,if_neg he];intro d hd;simp at hd
theorem a8k:s3 E9=0:=by
 have h1:u6 E9=0:=dE;have h2:D3 E9 0 0=0:=by rw [D3,if_pos dE,D3,if_neg dE];decide
 unfold s3;rw [h1,h2];simp
theorem c0n (s:u5):a1u s=(decide (s3 s < 0),t8 (s3 s).natAbs):=by
 unfold a1u;split
 ·rename_i h;obtain ⟨h1,h2⟩:=h;have h3:u6 s < s.length∧bt s (u6 s) ≠ 48∧E7 s (u6 s)=s.length:=by
   simp [C2,h2] at h1;exact ⟨h1.1.1,h1.1.2,h1.2⟩
  have hall:∀ j,u6 s≤j→j < s.length→48≤bt s j∧bt s j≤57:=fun j a b=>b0q s (u6 s) j a oM;have h9:=f3b s (u6 s) s.length hall;obtain ⟨t,ht⟩:=c6e s (u6 s) s.length h3.1;have hd0:(bt s (u6 s) - 48).toNat ≠ 0:=by have:=hall (u6 s) (Nat.le_refl _) h3.1;omega
  have hcan:t8 (val (D5 s (u6 s) s.length []))=D5 s (u6 s) s.length []:=by
   rw [ht] at h9 ⊢;exact c2l t _ h9 hd0
  have hv:=b5v s (u6 s) oM;have hpos:0 < D3 s (u6 s) 0:=by
   rcases Nat.eq_zero_or_pos (D3 s (u6 s) 0) with h | h
   ·rw [← hv,h,C7] at hcan;rw [ht] at hcan;simp at hcan
   ·exact h
  unfold s3;rw [if_pos h1];have hs1:=b1k s;by_cases hsg:u6 s=1
  ·rw [if_pos hsg];rw [hsg] at hcan hv hpos ⊢;rw [hv,Int.natAbs_neg,Int.natAbs_natCast,hcan];congr 1;rw [← hv];simp;omega
  ·have hs0:u6 s=0:=oM;rw [if_neg hsg];rw [hs0] at hcan hv hpos ⊢;rw [hv,Int.natAbs_natCast,hcan];congr 1
 ·rename_i h;have:s3 s=0:=by
   by_cases h1:C2 s=true
   ·have:s=E9:=by
     by_cases h2:s=E9
     ·exact h2
     ·exact absurd ⟨h1,h2⟩ h
    rw [this];exact a8k
   ·unfold s3;rw [if_neg h1]
  rw [this];simp [C7]
theorem d7v (X a y:Nat) (hy:0 < y):(a+10 * X) / y=(a+10 * (X % y)) / y+10 * (X / y)∧(a+10 * X) % y=(a+10 * (X % y)) % y:=by
 have h:=Nat.div_add_mod X y;have e:a+10 * X=(a+10 * (X % y))+y * (10 * (X / y)):=by
  have:y * (10 * (X / y))=10 * (y * (X / y)):=by rw [Nat.mul_left_comm]
  rw [this];omega
 rw [e];exact ⟨by rw [Nat.add_mul_div_left _ _ hy],by rw [Nat.add_mul_mod_self_left]⟩
theorem d4l (R t y:Nat) (hy:0 < y) (h1:t * y≤R) (h2:R - t * y < y):R / y=t∧R % y=R - t * y:=by
 have e:R=(R - t * y)+y * t:=by rw [Nat.mul_comm y t];omega
 constructor
 ·rw [e,Nat.add_mul_div_left _ _ hy,Nat.div_eq_of_lt h2];omega
 ·have:R % y=((R - t * y)+y * t) % y:=by rw [← e]
  rw [this,Nat.add_mul_mod_self_left,Nat.mod_eq_of_lt h2]
theorem d6n (x k:Nat) (h:k < (t8 x).length):val ((t8 x).drop k)=(t8 x).getD k 0+10 * val ((t8 x).drop (k+1)):=by
 rw [List.drop_eq_getElem_cons h];simp [val,List.getD,h]
theorem c0p (a r:Nat) (ha:a≤9):H7 (a :: t8 r)=t8 (a+10 * r):=by
 rw [a5v]
 ·simp only [val,G1]
 ·intro d hd;rcases List.mem_cons.1 hd with rfl | hd
  ·exact ha
  ·exact G3 r d hd
theorem a2x (n k:Nat) (h:n ≠ 0) (hk:k < (t8 n).length):bt (s8 n) k=48+((t8 n).getD ((t8 n).length - 1 - k) 0:Int):=by
 have hs:(s8 n).length=(t8 n).length:=by unfold s8;rw [if_neg h];simp
 have hbt:bt (s8 n) k=(((s8 n)[k]'oM).toNat:Int):=by unfold bt;simp [List.getD,List.getElem?_eq_getElem (show k < (s8 n).length by omega)]
 rw [hbt];have h9:(t8 n).getD ((t8 n).length - 1 - k) 0≤9:=by
  have hlt:(t8 n).length - 1 - k < (t8 n).length:=oM;simp only [List.getD,List.getElem?_eq_getElem hlt,Option.getD_some];exact G3 n _ (List.getElem_mem hlt)
 have:(s8 n)[k]'oM=UInt8.ofNat (48+(t8 n).getD ((t8 n).length - 1 - k) 0):=by
  have e:s8 n=((t8 n).reverse.map fun d=>UInt8.ofNat (48+d)):=by unfold s8;rw [if_neg h]
  simp only [e];simp [List.getD,show (t8 n).length - 1 - k < (t8 n).length by omega]
 rw [this];simp only [UInt8.toNat_ofNat'];omega

theorem X3 (n:Nat) (h:n ≠ 0):(s8 n).length=(t8 n).length:=by unfold s8;rw [if_neg h];simp
theorem c2k (n:Nat) (h:n ≠ 0):(t8 n).getD ((t8 n).length - 1) 0 ≠ 0:=by
 induction n using Nat.strongRecOn with
 | _ n ih =>
  rw [F2 h];by_cases h1:n / 10=0
  ·rw [h1,C7];simp;omega
  ·have:=ih (n / 10) oM h1;have h2:(t8 (n / 10)).length ≠ 0:=by rw [F2 h1];simp
   obtain ⟨m,hm⟩:∃ m,(t8 (n / 10)).length=m+1:=⟨_,(Nat.succ_pred h2).symm⟩;rw [hm] at this;simp only [List.length_cons,hm,Nat.add_sub_cancel];simpa [List.getD] using this
theorem a08 (s:u5) (i:Nat) (hi:i≤s.length) (h:∀ j,i≤j→j < s.length→48≤bt s j∧bt s j≤57):E7 s i=s.length:=by
 fun_induction E7 s i with
 | case1 i h1 h2 ih=>exact ih oM (fun j a b=>h j oM b)
 | case2 i h1 h2=>exact absurd (by have:=h i (Nat.le_refl _) h1;simp [b4n];omega) h2
 | case3 i h1=>omega
theorem e1g (n k:Nat) (h:n ≠ 0) (hk:k≤(t8 n).length):D5 (s8 n) 0 k []=(t8 n).drop ((t8 n).length - k):=by
 induction k with
 | zero=>simp [D5]
 | succ k ih =>
  rw [a6o _ _ _ (Nat.zero_le _),ih oM,a2x n k h oM];have hlt:(t8 n).length - (k+1) < (t8 n).length:=oM;rw [List.drop_eq_getElem_cons hlt];congr 1
  ·simp only [List.getD,show (t8 n).length - 1 - k=(t8 n).length - (k+1) by omega,List.getElem?_eq_getElem hlt,Option.getD_some];omega
  ·congr 1;omega
theorem B3 (n:Nat):s3 (s8 n)=n:=by
 by_cases h:n=0
 ·subst h;exact a8k
 ·have hs:=X3 n h;have hl:(t8 n).length ≠ 0:=by rw [F2 h];simp
  have hall:∀ j,0≤j→j < (s8 n).length→48≤bt (s8 n) j∧bt (s8 n) j≤57:=by
   intro j _ hj;rw [a2x n j h oM];have hlt:(t8 n).length - 1 - j < (t8 n).length:=oM;have:=G3 n ((t8 n)[(t8 n).length - 1 - j]) (List.getElem_mem hlt);simp only [List.getD,List.getElem?_eq_getElem hlt,Option.getD_some];omega
  have h0:=hall 0 (Nat.le_refl _) oM;have hsg:u6 (s8 n)=0:=by unfold u6;rw [if_neg oM]
  have hb0:bt (s8 n) 0 ≠ 48:=by
   rw [a2x n 0 h oM];have:=c2k n h;rw [Nat.sub_zero];omega
  have hok:C2 (s8 n)=true:=by
   unfold C2;rw [hsg,a08 _ 0 (Nat.zero_le _) hall];simp [hb0];right;omega
  unfold s3;rw [if_pos hok,hsg,if_neg oM,b5v _ 0 (Nat.zero_le _),hs,e1g n _ h (Nat.le_refl _),Nat.sub_self,List.drop_zero,G1]
theorem a5x (c:UInt8) (s:u5) (k:Nat):bt (c :: s) (k+1)=bt s k:=by simp [bt]
theorem c7h (c:UInt8) (s:u5) (k acc:Nat):D3 (c :: s) (k+1) acc=D3 s k acc:=by
 fun_induction D3 s k acc with
 | case1 k acc h ih=>rw [D3,if_pos (by simp;omega),a5x,ih]
 | case2 k acc h=>rw [D3,if_neg (by simp;omega)]
theorem b5j (c:UInt8) (s:u5) (k:Nat):E7 (c :: s) (k+1)=E7 s k+1:=by
 fun_induction E7 s k with
 | case1 k h1 h2 ih=>rw [E7,if_pos (by simp;omega),a5x,if_pos h2,ih]
 | case2 k h1 h2=>rw [E7,if_pos (by simp;omega),a5x,if_neg h2]
 | case3 k h=>rw [E7,if_neg (by simp;omega)]
theorem a1g (n:Nat) (h:n ≠ 0):(∀ j,0≤j→j < (s8 n).length→48≤bt (s8 n) j∧bt (s8 n) j≤57)∧bt (s8 n) 0 ≠ 48∧0 < (s8 n).length:=by
 have hs:=X3 n h;have hl:(t8 n).length ≠ 0:=by rw [F2 h];simp
 refine ⟨?_,?_,oM⟩
 ·intro j _ hj;rw [a2x n j h oM];have hlt:(t8 n).length - 1 - j < (t8 n).length:=oM;have:=G3 n ((t8 n)[(t8 n).length - 1 - j]) (List.getElem_mem hlt);simp only [List.getD,List.getElem?_eq_getElem hlt,Option.getD_some];omega
 ·rw [a2x n 0 h oM];have:=c2k n h;rw [Nat.sub_zero];omega
theorem d3g (n:Nat) (h:n ≠ 0):s3 (45 :: s8 n)=-(n:Int):=by
 obtain ⟨h1,h2,h3⟩:=a1g n h;have hsg:u6 (45 :: s8 n)=1:=by unfold u6;rw [if_pos];exact ⟨by simp,rfl⟩
 have hsg0:u6 (s8 n)=0:=by unfold u6;rw [if_neg];have:=h1 0 (Nat.le_refl _) h3;omega
 have hok:C2 (45 :: s8 n)=true:=by
  unfold C2;rw [hsg,show (1:Nat)=0+1 from rfl,b5j,a5x,a08 _ 0 (Nat.zero_le _) h1];simp [h2];right;omega
 have hv:=B3 n;have hok0:C2 (s8 n)=true:=by
  unfold C2;rw [hsg0,a08 _ 0 (Nat.zero_le _) h1];simp [h2];right;omega
 unfold s3 at hv;rw [if_pos hok0,hsg0,if_neg oM] at hv;unfold s3;rw [if_pos hok,hsg,if_pos rfl,show (1:Nat)=0+1 from rfl,c7h,hv]
theorem u2 (n:Int):s3 (s4 n)=n:=by
 unfold s4;split
 ·rename_i h;show s3 (45 :: s8 n.natAbs)=n;rw [d3g _ oM];omega
 ·rw [B3];omega
theorem R4 {a b:Int} (h:s4 a=s4 b):a=b:=by rw [← u2 a,h,u2]
theorem P1 {a b:Nat} (h:s8 a=s8 b):a=b:=by
 have:=congrArg s3 h;rw [B3,B3] at this;omega
end LQ
namespace Go.Proofs.YtkojildpddaccaaGreatDoor
open Go.Abs LQ
noncomputable section
abbrev Sy:=u5 × u5
inductive O where
 | num (n:Int) (d:Nat)
 | sy (s:Sy)
 | tx (s:u5)
 | co (a d:O)
 | no
namespace O
def k:O→Int
 | num _ _=>1
 | sy _=>2
 | tx _=>3
 | co _ _=>4
 | no=>0
def nu:O→u5
 | num n _=>s4 n
 | _=>[]
def de:O→u5
 | num _ d=>s8 d
 | _=>[]
def sym:O→Sy
 | sy s=>s
 | _=>([],[])
def txt:O→u5
 | tx s=>s
 | _=>[]
def ps:O→List O
 | co a d=>[a,d]
 | _=>[]
def g:O→List G
 | num n d=>[.i .i64 1,.s (s4 n),.s (s8 d),.s [],.s [],.s [],.l []]
 | sy s=>[.i .i64 2,.s [],.s [],.s s.1,.s s.2,.s [],.l []]
 | tx s=>[.i .i64 3,.s [],.s [],.s [],.s [],.s s,.l []]
 | co a d=>[.i .i64 4,.s [],.s [],.s [],.s [],.s [],.l [a.g,d.g]]
 | no=>[.i .i64 0,.s [],.s [],.s [],.s [],.s [],.l []]
theorem g_eq (a:O):a.g=[.i .i64 a.k,.s a.nu,.s a.de,.s a.sym.1,.s a.sym.2,.s a.txt,.l (a.ps.map O.g)]:=by cases a <;> rfl
theorem g_len (a:O):a.g.length=7:=by cases a <;> rfl
theorem ps_le (a:O):a.ps.length≤2:=by cases a <;> simp [ps]
theorem ps_fuel (a:O):a.ps.length - 0 < E3:=by cases a <;> simp [ps,E3]
theorem ext {a b:O} (h1:a.k=b.k) (h2:a.nu=b.nu) (h3:a.de=b.de) (h4:a.sym=b.sym) (h5:a.txt=b.txt) (h6:a.ps=b.ps):a=b:=by
 cases a <;> cases b <;> simp_all [k,nu,de,sym,txt,ps];exact ⟨R4 h2,P1 h3⟩
theorem g_inj:∀ {a b:O},a.g=b.g→a=b:=by
 intro a
 induction a with
 | num n d=>intro b h;cases b <;> simp only [g,List.cons.injEq,G.s.injEq,G.i.injEq,reduceCtorEq,and_true,true_and,false_and,and_false,Int.reduceEq] at h;exact (congrArg (O.num · _) (R4 h.1)).trans (congrArg (O.num _) (P1 h.2))
 | sy s=>intro b h;cases b <;> simp [g] at h;exact congrArg O.sy (Prod.ext h.1 h.2)
 | tx s=>intro b h;cases b <;> simp [g] at h;rw [h]
 | co a d iha ihd=>intro b h;cases b <;> simp [g] at h;rw [iha h.1,ihd h.2]
 | no=>intro b h;cases b <;> simp [g] at h;rfl
open Classical in
def eqb (a b:O):Bool:=decide (a=b)
theorem eqb_t {a b:O}:eqb a b=true↔a=b:=by unfold eqb;simp
theorem eqb_f {a b:O}:eqb a b=false↔¬a=b:=by unfold eqb;simp
def size:O→Nat
 | co a d=>1+a.size+d.size
 | _=>1
theorem size_pos (a:O):0 < a.size:=by cases a <;> simp [size] <;> omega
theorem ps_size (a:O):∀ x ∈ a.ps,x.size < a.size:=by cases a <;> simp [ps,size] <;> omega
end O
theorem b6x:∀ {l m:List O},l.map O.g=m.map O.g→l=m
 | [],[],_=>rfl
 | [],_ :: _,h=>by simp at h
 | _ :: _,[],h=>by simp at h
 | a :: l,b :: m,h=>by simp only [List.map_cons,List.cons.injEq] at h;exact congr (congrArg List.cons (O.g_inj h.1)) (b6x h.2)
theorem c44 {x y:O} {vs:List V} (h:z7 [.a x.g] vs) (k:z7 [.a y.g] vs):x=y:=by
 cases h with | cons _ _ v _ h _=>cases k with | cons _ _ _ _ k _=>exact O.g_inj (h.a_inj k)
theorem b7v {x y x' y':O} {vs:List V} (h:z7 [.a x.g,.a x'.g] vs) (k:z7 [.a y.g,.a y'.g] vs):x=y∧x'=y':=by
 cases h with | cons _ _ v _ h h'=>cases k with | cons _ _ _ _ k k'=>exact ⟨O.g_inj (h.a_inj k),c44 h' k'⟩
end
end Go.Proofs.YtkojildpddaccaaGreatDoor
namespace Go.Proofs.YtkojildpddaccaaGreatDoor
open Go.Abs LQ
structure Tr (p q:Prop):Prop where
 go:q→p
theorem Tr.refl {p:Prop}:Tr p p:=⟨id⟩
theorem Tr.b {p p' q:Prop} (f:p'→p) (h:Tr p' q):Tr p q:=⟨fun k=>f (h.go k)⟩
theorem Tr.all {α:Sort _} {p q:α→Prop} (h:∀ x,Tr (p x) (q x)):Tr (∀ x,p x) (∀ x,q x):=⟨fun k x=>(h x).go (k x)⟩
theorem Tr.chk {U:C3} {P:K0→List Bx→Prop} {b:Bool} {p q:Prop} {x:Om} (ht:M9 U b p) (hp:p) (h:Tr (t6 U x P) q):Tr (t6 U (U.chk b x) P) q:=⟨fun k=>g9w ht hp (h.go k)⟩
theorem Tr.cnd {U:C3} {P:K0→List Bx→Prop} {b:Bool} {p:Prop} {q1:p→Prop} {q2:¬p→Prop} {x y:Om} (ht:M9 U b p) (h:∀ a,Tr (t6 U x P) (q1 a)) (k:∀ a,Tr (t6 U y P) (q2 a)):Tr (t6 U (U.cnd b x y) P) ((∀ a,q1 a)∧(∀ a,q2 a)):=⟨fun g=>b7i ht (fun a=>(h a).go (g.1 a)) (fun a=>(k a).go (g.2 a))⟩
theorem Zx {p q:Prop} (k:q) (h:Tr p q:=by ((repeat' (first | (with_reducible apply Tr.all) | (with_reducible intro _) | (apply Tr.b;(case f=>first | exact a3x | exact Z4 aS | exact b7j | exact b1g aS | exact b45 | exact a4q aS | exact a9w | exact a9x aS | exact sP | exact sPR aS | exact sIV | exact sI aS | exact sBV | exact sBK | exact sB aS | exact sSV | exact sS aS | exact sA | exact H3 aS (by rfl) | exact b7k (by rfl) | exact c1p (by rfl) | exact b9o aS (by rfl) | exact c1q aS (by rfl) | exact c1o aS | exact sSl aS | exact sTu aS | exact sBo | exact Y8 aS (by rfl) | exact sBc | exact c8h aS | exact sBt | exact sBs | exact sBr | exact a2u aS | exact b48 aS | exact T3 aS (by rfl) | exact c8j aS (by rfl) | exact sCI' aS (by rfl) | exact sCB' aS (by rfl) | exact sCS aS | exact sCI aS | exact sCB aS | exact b3r (by first | omega | (simp only [List.length_map] at *;omega)) | exact b47 (by first | omega | (simp only [List.length_map] at *;omega)) | exact b9r | exact a90 | exact a93 | exact b9q | exact b3s | exact b3q | exact sfSubN | exact a92 | exact a91 | exact sfB | exact sJn | exact b9n | exact b9l | exact b9m | exact F1 aS (by (first | exact B7 O.g_len | exact B7 (fun _=>rfl))) | exact a83 aS (by (first | exact B7 O.g_len | exact B7 (fun _=>rfl))) | exact b9s (by first | omega | (simp only [List.length_map] at *;omega)) | exact b49 (by first | omega | (simp only [List.length_map] at *;omega)) | exact c8n aS (by first | assumption | omega | (simp only [List.length_map] at *;omega)) | exact sfT aS (by rfl))) | (apply Tr.chk;(case ht=>(repeat' (first | exact trT | exact trF | apply a32 | apply a3z | exact a31 | exact a30 | exact a43 | exact a42 | exact a41 | exact a1l | exact a1m | exact a1k | exact a1j | exact a1r | exact a33 | exact a87 | exact a68 | exact trS | exact trV)));(case hp=>first | omega | (simp only [List.length_map] at *;omega))) | (apply Tr.cnd;(case ht=>(repeat' (first | exact trT | exact trF | apply a32 | apply a3z | exact a31 | exact a30 | exact a43 | exact a42 | exact a41 | exact a1l | exact a1m | exact a1k | exact a1j | exact a1r | exact a33 | exact a87 | exact a68 | exact trS | exact trV))))));all_goals exact Tr.refl)):p:=h.go k
theorem Zy {p q:Prop} (k:q) (h:Tr p q:=by ((repeat' (first | (with_reducible apply Tr.all) | (with_reducible intro _) | (apply Tr.b;(case f=>first | exact a3x | exact Z4 aS | exact b7j | exact b1g aS | exact b45 | exact a4q aS | exact a9w | exact a9x aS | exact sP | exact sPR aS | exact sIV | exact sI aS | exact sBV | exact sBK | exact sB aS | exact sSV | exact sS aS | exact sA | exact H3 aS (by rfl) | exact b7k (by rfl) | exact c1p (by rfl) | exact b9o aS (by rfl) | exact c1q aS (by rfl) | exact c1o aS | exact sSl aS | exact sTu aS | exact sBo | exact Y8 aS (by rfl) | exact sBc | exact c8h aS | exact sBt | exact sBs | exact sBr | exact a2u aS | exact b48 aS | exact T3 aS (by rfl) | exact c8j aS (by rfl) | exact sCI' aS (by rfl) | exact sCB' aS (by rfl) | exact sCS aS | exact sCI aS | exact sCB aS | exact b3r (by first | omega | (simp only [List.length_map] at *;omega)) | exact b47 (by first | omega | (simp only [List.length_map] at *;omega)) | exact b9r | exact a90 | exact a93 | exact b9q | exact b3s | exact b3q | exact sfSubN | exact a92 | exact a91 | exact sfB | exact b9n | exact b9l | exact b9m | exact F1 aS (by (first | exact B7 O.g_len | exact B7 (fun _=>rfl))) | exact a83 aS (by (first | exact B7 O.g_len | exact B7 (fun _=>rfl))) | exact b9s (by first | omega | (simp only [List.length_map] at *;omega)) | exact b49 (by first | omega | (simp only [List.length_map] at *;omega)) | exact c8n aS (by first | assumption | omega | (simp only [List.length_map] at *;omega)) | exact sfT aS (by rfl))) | (apply Tr.chk;(case ht=>(repeat' (first | exact trT | exact trF | apply a32 | apply a3z | exact a31 | exact a30 | exact a43 | exact a42 | exact a41 | exact a1l | exact a1m | exact a1k | exact a1j | exact a1r | exact a33 | exact a87 | exact a68 | exact trS | exact trV)));(case hp=>first | omega | (simp only [List.length_map] at *;omega))) | (apply Tr.cnd;(case ht=>(repeat' (first | exact trT | exact trF | apply a32 | apply a3z | exact a31 | exact a30 | exact a43 | exact a42 | exact a41 | exact a1l | exact a1m | exact a1k | exact a1j | exact a1r | exact a33 | exact a87 | exact a68 | exact trS | exact trV))))));all_goals exact Tr.refl)):p:=h.go k
theorem z6 {p:Prop} (h:p:=by (repeat' (first | exact z7.nil | refine z7.cons _ _ _ _ ?_ ?_ | exact u0.nil | assumption | exact RV.i _ _ | exact RV.b _ | exact RV.kn _ | exact RV.s _ _ _ rfl rfl | refine RV.a _ _ _ (by first | rfl | exact (O.g_len _).symm) aS | refine RV.sl _ _ _ _ _ (by first | rfl | simp) aS | refine RV.q _ _ aS | exact RV.p _ _ | exact RV.cl _ _ _ _ _ rfl (A5.nil _ _ _) | refine RV.ag _ _ ?_ | refine RV.t _ _ ?_ | refine RV.sl _ _ _ _ _ (by rfl) (A5.nil _ _ _) | exact RV.sl0 _ _ _ | refine RV.s _ _ _ (by rfl) (by rfl)))):p:=h
theorem Zru {p:Prop} (h:p:=by (repeat' (first | exact z7.nil | refine z7.cons _ _ _ _ ?_ ?_ | exact u0.nil | assumption | exact RV.i _ _ | exact RV.b _ | exact RV.kn _ | exact RV.s _ _ _ rfl rfl | refine RV.q _ _ (A7.at aS (by rfl)) | refine RV.a _ _ _ (by first | rfl | exact (O.g_len _).symm) aS | refine RV.q _ _ aS | refine RV.cl _ _ _ _ _ rfl (A5.nil _ _ _) | refine RV.ag _ _ ?_ | refine RV.t _ _ ?_ | refine RV.s _ _ _ (by rfl) (by rfl)))):p:=h
theorem aI {a b:Prop} (left:a) (right:b):a∧b:=⟨left,right⟩
theorem oV {a:O} {x:Q} (h:A7 a.g x 0:=by assumption):RV (.a a.g) (.a x 7):=.a _ _ _ a.g_len.symm h
theorem oA {a:O} {x:Q} (h:A7 a.g x 0:=by assumption):z7 [.a a.g] [.a x 7]:=.cons _ _ _ _ (oV h) .nil
theorem oR {U:C3} {P:K0→List Bx→Prop} {a:O} {v:V} {K:Q→Om} (k:∀ q,A7 a.g q 0→t6 U (K q) P) (h:RV (.a a.g) v:=by assumption):t6 U (U.uA 7 v K) P:=H3 h a.g_len k
end Go.Proofs.YtkojildpddaccaaGreatDoor
