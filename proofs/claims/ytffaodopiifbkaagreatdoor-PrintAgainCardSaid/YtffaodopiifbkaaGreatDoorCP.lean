/- Plain functions on texts: C5. No program in sight. -/
import Derived.Test.YtffaodopiifbkaaGreatDoorCG
set_option linter.all false
namespace LQ
abbrev i6:=List UInt8
def bt (s:i6) (k:Nat):Int:=((s.getD k 0).toNat:Int)
theorem c4b (s:i6) (k:Nat):bt s k < 256:=by unfold bt;have:=(s.getD k 0).toNat_lt;omega
theorem a7w (s:i6) (k:Nat):0≤bt s k:=by unfold bt;omega
def y8 (c:Int):Bool:=decide (33≤c∧c≤126∧c ≠ 40∧c ≠ 41∧c ≠ 39∧c ≠ 34∧c ≠ 59∧c ≠ 124∧c ≠ 58)
def H3 (c:Int):Bool:=decide (c=32∨c=9∨c=10∨c=13)
def has (s:i6) (i:Nat) (a b:Int):Bool:=decide (i+1 < s.length∧bt s i=a∧bt s (i+1)=b)

def m6 (s:i6) (i:Nat):Nat :=
 if i < s.length then if y8 (bt s i) then m6 s (i+1) else i else i
termination_by s.length - i
def O7 (s:i6) (i:Nat):Nat :=
 if i < s.length then if bt s i=10 then i else O7 s (i+1) else i
termination_by s.length - i
def F8 (s:i6) (i depth:Nat):Option Nat :=
 if depth=0 then some i
 else if i < s.length then
  if has s i 35 124 then F8 s (i+2) (depth+1)
  else if has s i 124 35 then F8 s (i+2) (depth - 1)
  else F8 s (i+1) depth
 else none
termination_by s.length - i
theorem b02 (s:i6) (i:Nat) (h:i≤s.length):i≤O7 s i∧O7 s i≤s.length:=by
 fun_induction O7 s i <;> omega
theorem G3 (s:i6) (i:Nat) (h:i≤s.length):i≤m6 s i∧m6 s i≤s.length:=by
 fun_induction m6 s i <;> omega
theorem a0q {s:i6} {i:Nat} {a b:Int} (h:has s i a b=true):i+1 < s.length:=by simp [has] at h;exact h.1
theorem b1z (s:i6) (i depth j:Nat) (hi:i≤s.length) (h:F8 s i depth=some j):i≤j∧j≤s.length:=by
 fun_induction F8 s i depth
 ·simp at h;omega
 ·rename_i hh ih;have:=a0q hh;have:=ih oM h;omega
 ·rename_i hh ih;have:=a0q hh;have:=ih oM h;omega
 ·rename_i ih;have:=ih oM h;omega
 ·simp at h
def skip (s:i6) (i:Nat):Option Nat :=
 if i < s.length then
  if H3 (bt s i) then skip s (i+1)
  else if bt s i=59 then (if i < O7 s i then skip s (O7 s i) else some i)
  else if has s i 35 124 then
   match F8 s (i+2) 1 with
   | none=>none
   | some j=>if i < j then skip s j else some i
  else some i
 else some i
termination_by s.length - i
theorem b7w (s:i6) (i:Nat) (h:i < s.length) (hb:bt s i ≠ 10):i < O7 s i:=by
 rw [O7,if_pos h,if_neg hb];have:=b02 s (i+1) oM;omega

def a0x (c:Int):Bool:=decide (48≤c∧c≤57)
def s9 (s:i6) (k:Nat):Nat :=
 if k < s.length then if a0x (bt s k) then s9 s (k+1) else k else k
termination_by s.length - k
theorem d7n (s:i6) (i:Nat) (h:i≤s.length):i≤s9 s i∧s9 s i≤s.length:=by
 fun_induction s9 s i <;> omega
def E8 (s:i6) (k:Nat):Nat :=
 if k < s.length then if bt s k=48 then E8 s (k+1) else k else k
termination_by s.length - k
theorem b0n (s:i6) (i:Nat) (h:i≤s.length):i≤E8 s i∧E8 s i≤s.length:=by
 fun_induction E8 s i <;> omega
def j7 (s:i6):Nat:=if 0 < s.length∧bt s 0=45 then 1 else 0
theorem W1 (s:i6):j7 s≤s.length∧j7 s≤1:=by unfold j7;split <;> omega
def w9:i6:=[]
def P2:i6:=[49]
def A9:i6:=[48]
def p8 (s:i6):i6 × i6 × Bool :=
 let i:=j7 s
 let k:=s9 s i
 if k=i then (w9,w9,false)
 else if k=s.length then (s,P2,true)
 else if bt s k ≠ 47∨k+1=s.length then (w9,w9,false)
 else if s9 s (k+1)=s.length then (((s.take (k)).drop (0)),((s.take (s.length)).drop ((k+1))),true)
 else (w9,w9,false)
def plain (s:i6):i6 :=
 let i:=E8 s (j7 s)
 if i=s.length then A9
 else if j7 s=1 then ([45]:i6) ++ ((s.take (s.length)).drop (i))
 else ((s.take (s.length)).drop (i))
def a2h (c:Int):Bool:=decide ((97≤c∧c≤122)∨(48≤c∧c≤57)∨c=45)
def H2 (s:i6) (k:Nat):Bool:=if k < s.length then if a2h (bt s k) then H2 s (k+1) else false else true
termination_by s.length - k
def r9 (s:i6):Bool:=decide (1≤s.length∧s.length≤40∧97≤bt s 0∧bt s 0≤122) && H2 s 0
def s7 (text pkg:i6) (bars:Bool):Int :=
 if 40 < text.length then 2
 else if (bars=true∧text.length=0)∨(pkg.length ≠ 0∧r9 pkg=false) then 3 else 0
def E3 (s:i6) (c:Int) (i:Nat) (acc:List Int):Except (Int × Nat) (List Int × Nat) :=
 if i < s.length then
  if bt s i=c then .ok (acc,i+1)
  else if bt s i ≠ 92 then E3 s c (i+1) (acc ++ [bt s i])
  else if i+1 < s.length then
   if bt s (i+1) ≠ c∧bt s (i+1) ≠ 92 then .error (12,i)
   else E3 s c (i+2) (acc ++ [bt s (i+1)])
  else .error (11,s.length)
 else .error (11,s.length)
termination_by s.length - i
def B8 (s:i6):Bool :=
 decide (s=A9) || (decide (j7 s < s.length∧bt s (j7 s) ≠ 48) && decide (s9 s (j7 s)=s.length))
def A6 (s:i6) (k:Nat) (acc:Nat):Nat:=if k < s.length then A6 s (k+1) (10 * acc+(bt s k - 48).toNat) else acc
termination_by s.length - k
def j0 (s:i6):Int:=if B8 s then (if j7 s=1 then -(A6 s 1 0:Int) else (A6 s 0 0:Int)) else 0
def j8 (n:Nat):List Nat:=if h:n=0 then [] else n % 10 :: j8 (n / 10)
termination_by n
def i7 (n:Nat):i6:=if n=0 then A9 else ((j8 n).reverse.map fun d=>UInt8.ofNat (48+d))
def j4 (n:Int):i6:=if n < 0 then [45] ++ i7 n.natAbs else i7 n.natAbs
def t7 (num den:i6):i6 × i6 :=
 if j0 den=0 then (A9,P2)
 else
  let g:=Nat.gcd (j0 num).natAbs (j0 den).natAbs
  (j4 ((if (j0 num < 0)=(j0 den < 0) then 1 else -1) * (((j0 num).natAbs / g:Nat):Int)),i7 ((j0 den).natAbs / g))
def E6 (a:i6):Nat:=max 1 (j8 (j0 a).natAbs).length

structure u5 where
 kind:Int
 pos:Nat
 pkg:i6
 text:i6
 den:i6
def F2 (l:List Int):i6:=(l.map fun n=>UInt8.ofNat n.toNat)
def H1 (s:i6) (i:Nat) (pkg:i6) (k:Nat):Except (Int × Nat) (u5 × Nat) :=
 if k+2 < s.length then
  if bt s (k+2)=124 then
   match E3 s 124 (k+2+1) [] with
   | .error e=>.error e
   | .ok (l,j)=>if s7 (F2 l) pkg true=0 then .ok (⟨6,i,pkg,F2 l,w9⟩,j) else .error (s7 (F2 l) pkg true,i)
  else if y8 (bt s (k+2)) then
   let j:=m6 s (k+2)
   let t:=((s.take (j)).drop ((k+2)))
   if s7 t pkg false=0 then .ok (⟨6,i,pkg,t,w9⟩,j) else .error (s7 t pkg false,i)
  else .error (12,k+2)
 else .error (11,s.length)
def D4 (i:Nat) (t:i6) (k:Nat):Except (Int × Nat) (u5 × Nat) :=
 if t=[46] then .ok (⟨3,i,w9,w9,w9⟩,k)
 else if (p8 t).2.2 then
  if plain (p8 t).2.1=A9 then .error (12,i)
  else
   let r:=t7 (plain (p8 t).1) (plain (p8 t).2.1)
   if 100 < E6 r.1∨100 < E6 r.2 then .error (2,i) else .ok (⟨5,i,w9,r.1,r.2⟩,k)
 else if s7 t w9 false=0 then .ok (⟨6,i,w9,t,w9⟩,k) else .error (s7 t w9 false,i)
def A0 (s:i6) (i:Nat):Except (Int × Nat) (u5 × Nat) :=
 if bt s i=40 then .ok (⟨1,i,w9,w9,w9⟩,i+1)
 else if bt s i=41 then .ok (⟨2,i,w9,w9,w9⟩,i+1)
 else if bt s i=39 then .ok (⟨4,i,w9,w9,w9⟩,i+1)
 else if bt s i=34 then
  match E3 s 34 (i+1) [] with
  | .error e=>.error e
  | .ok (l,j)=>if 200 < l.length then .error (2,i) else .ok (⟨7,i,w9,F2 l,w9⟩,j)
 else if bt s i=124 then
  match E3 s 124 (i+1) [] with
  | .error e=>.error e
  | .ok (l,j)=>if s7 (F2 l) w9 true=0 then .ok (⟨6,i,w9,F2 l,w9⟩,j) else .error (s7 (F2 l) w9 true,i)
 else if y8 (bt s i) then
  if has s (m6 s i) 58 58 then H1 s i (((s.take ((m6 s i))).drop (i))) (m6 s i)
  else D4 i (((s.take ((m6 s i))).drop (i))) (m6 s i)
 else .error (12,i)
def o9 (s:i6) (i:Nat) (acc:List u5):Except (Int × Nat) (List u5) :=
 match skip s i with
 | none=>.error (11,s.length)
 | some j =>
  if j < s.length then
   match A0 s j with
   | .error e=>.error e
   | .ok (t,k)=>if i < k∧i < s.length then o9 s k (acc ++ [t]) else .error (0,0)
  else .ok (acc ++ [⟨0,s.length,w9,w9,w9⟩])
termination_by s.length - i
def C5 (s:i6):Except (Int × Nat) (List u5):=if 6000 < s.length then .error (2,0) else o9 s 0 []
theorem a0y (s:i6) (i j:Nat) (hi:i≤j) (hj:j < s9 s i):48≤bt s j∧bt s j≤57:=by
 fun_induction s9 s i with
 | case1 i h1 h2 ih =>
  by_cases h:j=i
  ·subst h;simpa [a0x] using h2
  ·exact ih oM hj
 | case2=>omega
 | case3=>omega
def y9 (s:i6) (e:Nat):Nat→List Nat→List Nat
 | 0,acc=>acc
 | k+1,acc=>if e≤k then y9 s e k (acc ++ [(bt s k - 48).toNat]) else acc
def a1e (s:i6):Bool × List Nat :=
 if B8 s=true∧s ≠ A9 then (decide (j7 s=1),y9 s (j7 s) s.length []) else (false,[])
def U5 (l:List Nat):Nat→Nat
 | 0=>0
 | n+1=>if l.getD n 0=0 then U5 l n else n+1
def G0 (l:List Nat):List Nat:=l.take (U5 l l.length)
def H4 (a b:List Nat):Nat→Int
 | 0=>0
 | k+1=>if a.getD k 0 < b.getD k 0 then -1 else if b.getD k 0 < a.getD k 0 then 1 else H4 a b k
def S5 (a b:List Nat):Int :=
 if a.length=b.length then H4 a b a.length else if a.length < b.length then -1 else 1
def L5 (a b:List Nat) (i bor:Nat):Int:=(a.getD i 0:Int) - bor - (if i < b.length then (b.getD i 0:Int) else 0)
def Q8 (a b:List Nat) (i bor:Nat) (acc:List Nat):List Nat :=
 if i < a.length then
  if L5 a b i bor < 0 then Q8 a b (i+1) 1 (acc ++ [(L5 a b i bor+10).toNat])
  else Q8 a b (i+1) 0 (acc ++ [(L5 a b i bor).toNat])
 else acc
termination_by a.length - i
def c00 (a b:List Nat):List Nat:=G0 (Q8 a b 0 0 [])
theorem c8o {s:i6} {k:Nat} (h:¬k < s.length):skip s k=some k:=by rw [skip,if_neg h]
theorem b9e {s:i6} {k:Nat} (h:k < s.length) (hb:H3 (bt s k)=true):skip s k=skip s (k+1):=by
 rw [skip,if_pos h,if_pos hb]
theorem c2s {s:i6} {k:Nat} (h:k < s.length) (hb:H3 (bt s k)=false) (h9:bt s k=59):skip s k=skip s (O7 s k):=by
 rw [skip,if_pos h,if_neg (by simp [hb]),if_pos h9,if_pos (b7w s k h oM)]
theorem b2y {s:i6} {k:Nat} (h:k < s.length) (hb:H3 (bt s k)=false) (h9:bt s k ≠ 59) (hh:has s k 35 124=false):skip s k=some k:=by
 rw [skip,if_pos h,if_neg (by simp [hb]),if_neg h9,if_neg (by simp [hh])]
theorem e1j {s:i6} {k j:Nat} (h:k < s.length) (hb:H3 (bt s k)=false) (h9:bt s k ≠ 59) (hh:has s k 35 124=true) (hc:F8 s (k+2) 1=some j):skip s k=skip s j:=by
 have:=a0q hh
 have:=b1z s (k+2) 1 j oM hc
 rw [skip,if_pos h,if_neg (by simp [hb]),if_neg h9,if_pos hh,hc];simp only [];rw [if_pos oM]
theorem d69 {s:i6} {k:Nat} (h:k < s.length) (hb:H3 (bt s k)=false) (h9:bt s k ≠ 59) (hh:has s k 35 124=true) (hc:F8 s (k+2) 1=none):skip s k=none:=by
 rw [skip,if_pos h,if_neg (by simp [hb]),if_neg h9,if_pos hh,hc]
def val:List Nat→Nat
 | []=>0
 | d :: t=>d+10 * val t
def D9 (l:List Nat):Prop:=∀ d ∈ l,d≤9
theorem A4:j8 0=[]:=by rw [j8];simp
theorem F6 {n:Nat} (h:n ≠ 0):j8 n=n % 10 :: j8 (n / 10):=by rw [j8,dif_neg h]
theorem D3 (n:Nat):val (j8 n)=n:=by
 induction n using Nat.strongRecOn with
 | _ n ih =>
  by_cases h:n=0
  ·subst h;rw [A4];rfl
  ·rw [F6 h,val,ih (n / 10) oM];omega
theorem E0 (n:Nat):D9 (j8 n):=by
 induction n using Nat.strongRecOn with
 | _ n ih =>
  by_cases h:n=0
  ·subst h;rw [A4];intro d hd;simp at hd
  ·rw [F6 h];intro d hd;simp at hd
   rcases hd with rfl | hd
   ·omega
   ·exact ih (n / 10) oM d hd
theorem c19 {d m:Nat} (hd:d≤9) (h:d ≠ 0∨m ≠ 0):j8 (d+10 * m)=d :: j8 m:=by
 rw [F6 oM];congr 1
 ·omega
 ·congr 1;omega
theorem a5o (a b:List Nat):val (a ++ b)=val a+10 ^ a.length * val b:=by
 induction a with
 | nil=>simp [val]
 | cons d t ih=>simp only [List.cons_append,val,ih,List.length_cons,Nat.pow_succ];rw [Nat.mul_add,← Nat.mul_assoc,Nat.mul_comm (10 ^ t.length) 10];omega
theorem c2z (t:List Nat) (d:Nat) (h9:D9 (t ++ [d])) (hd:d ≠ 0):j8 (val (t ++ [d]))=t ++ [d]:=by
 induction t with
 | nil =>
  have:d≤9:=h9 d (by simp)
  simp only [List.nil_append,val]
  rw [Nat.mul_zero,← Nat.mul_zero 10,c19 this (.inl hd),A4]
 | cons x t ih =>
  simp only [List.cons_append,val]
  rw [c19 (h9 x (by simp)),ih (fun y hy=>h9 y (by simp at hy ⊢;exact .inr hy))]
  refine .inr fun h0=>hd ?_
  have h2:=a5o t [d]
  rw [h0] at h2
  simp only [val] at h2
  have h3:0 < 10 ^ t.length:=Nat.pow_pos oM
  rw [Nat.mul_zero,Nat.add_zero] at h2
  have h4:10 ^ t.length * d=0:=oM
  rcases Nat.mul_eq_zero.1 h4 with h | h <;> omega
theorem d5h (l:List Nat) (h9:D9 l) (n:Nat) (hn:n≤l.length):l.take (U5 l n)=j8 (val (l.take n)):=by
 induction n with
 | zero=>simp [U5,val,A4]
 | succ n ih =>
  have hlt:n < l.length:=oM
  have htk:l.take (n+1)=l.take n ++ [l.getD n 0]:=by
   rw [List.take_succ_eq_append_getElem hlt];simp [List.getD,hlt]
  simp only [U5]
  split
  ·rename_i h0
   rw [ih oM,htk,h0,a5o]
   simp [val]
  ·rename_i h0
   rw [htk,c2z _ _ _ h0]
   intro d hd
   rw [← htk] at hd
   exact h9 d (List.mem_of_mem_take hd)
theorem a57 (l:List Nat) (h9:D9 l):G0 l=j8 (val l):=by
 unfold G0;rw [d5h l h9 l.length (Nat.le_refl _),List.take_length]
def a5e:List Nat→List Nat→Nat→List Nat
 | [],_,_=>[]
 | x :: a,b,bor =>
  if (x:Int) - bor - (b.headD 0:Int) < 0 then ((x:Int) - bor - (b.headD 0:Int)+10).toNat :: a5e a b.tail 1
  else ((x:Int) - bor - (b.headD 0:Int)).toNat :: a5e a b.tail 0
theorem b4y (a b:List Nat) (i bor:Nat):L5 a b i bor=(a.getD i 0:Int) - bor - ((b.drop i).headD 0:Int):=by
 unfold L5
 rcases Nat.lt_or_ge i b.length with h | h
 ·rw [if_pos h,List.drop_eq_getElem_cons h];simp [List.getD,h]
 ·rw [if_neg oM,List.drop_eq_nil_of_le h];simp
theorem d4c (a b:List Nat) (i bor:Nat) (acc:List Nat) (hi:i≤a.length):Q8 a b i bor acc=acc ++ a5e (a.drop i) (b.drop i) bor:=by
 fun_induction Q8 a b i bor acc with
 | case1 i bor acc h1 h2 ih =>
  rw [ih oM,List.drop_eq_getElem_cons h1,a5e]
  rw [b4y] at h2 ⊢
  simp only [List.getD,List.getElem?_eq_getElem h1,Option.getD_some] at h2 ⊢
  rw [if_pos h2];simp
 | case2 i bor acc h1 h2 ih =>
  rw [ih oM,List.drop_eq_getElem_cons h1,a5e]
  rw [b4y] at h2 ⊢
  simp only [List.getD,List.getElem?_eq_getElem h1,Option.getD_some] at h2 ⊢
  rw [if_neg h2];simp
 | case3 i bor acc h1 =>
  rw [List.drop_eq_nil_of_le oM];simp [a5e]
theorem e2u (b:List Nat):val b=b.headD 0+10 * val b.tail:=by cases b <;> simp [val]
theorem e0z (a b:List Nat) (bor:Nat) (ha:D9 a) (hb:D9 b) (hbor:bor≤1) (h:val b+bor≤val a):val (a5e a b bor)+val b+bor=val a:=by
 induction a generalizing b bor with
 | nil=>simp [val] at h;simp [a5e,val];omega
 | cons x a ih =>
  have hx:x≤9:=ha x (by simp)
  have ha':D9 a:=fun d hd=>ha d (by simp [hd])
  have hb':D9 b.tail:=fun d hd=>hb d (List.mem_of_mem_tail hd)
  have hy:b.headD 0≤9:=by
   cases b with
   | nil=>simp
   | cons y t=>exact hb y (by simp)
  have hvb:=e2u b
  simp only [val] at h
  simp only [a5e]
  split
  ·rename_i hz
   have:=ih b.tail 1 ha' hb' oM oM
   simp only [val]
   omega
  ·rename_i hz
   have:=ih b.tail 0 ha' hb' oM oM
   simp only [val]
   omega
theorem f02 (a b:List Nat) (bor:Nat) (ha:D9 a) (hb:D9 b) (hbor:bor≤1):D9 (a5e a b bor):=by
 induction a generalizing b bor with
 | nil=>intro d hd;simp [a5e] at hd
 | cons x a ih =>
  have hx:x≤9:=ha x (by simp)
  have ha':D9 a:=fun d hd=>ha d (by simp [hd])
  have hb':D9 b.tail:=fun d hd=>hb d (List.mem_of_mem_tail hd)
  simp only [a5e]
  split
  ·rename_i hz;intro d hd
   rcases List.mem_cons.1 hd with rfl | hd
   ·omega
   ·exact ih b.tail 1 ha' hb' oM d hd
  ·rename_i hz;intro d hd
   rcases List.mem_cons.1 hd with rfl | hd
   ·omega
   ·exact ih b.tail 0 ha' hb' oM d hd
theorem d6o (x y:Nat) (h:y≤x):c00 (j8 x) (j8 y)=j8 (x - y):=by
 unfold c00
 rw [d4c _ _ _ _ _ (Nat.zero_le _)]
 simp only [List.nil_append,List.drop_zero]
 rw [a57 _ (f02 _ _ _ (E0 x) (E0 y) oM)]
 have:=e0z (j8 x) (j8 y) 0 (E0 x) (E0 y) oM (by rw [D3,D3];omega)
 rw [D3,D3] at this
 congr 1;omega
theorem a28 (l:List Nat) (h9:D9 l):val l < 10 ^ l.length:=by
 induction l with
 | nil=>simp [val]
 | cons d t ih =>
  have h1:=ih (fun x hx=>h9 x (by simp [hx]))
  have h2:d≤9:=h9 d (by simp)
  simp only [val,List.length_cons,Nat.pow_succ]
  omega
theorem a6j (n:Nat) (h:n ≠ 0):10 ^ ((j8 n).length - 1)≤n:=by
 induction n using Nat.strongRecOn with
 | _ n ih =>
  rw [F6 h]
  simp only [List.length_cons,Nat.add_sub_cancel]
  by_cases h1:n / 10=0
  ·rw [h1,A4];simp;omega
  ·have:=ih (n / 10) oM h1
   have h2:(j8 (n / 10)).length ≠ 0:=by rw [F6 h1];simp
   have h3:10 ^ (j8 (n / 10)).length=10 * 10 ^ ((j8 (n / 10)).length - 1):=by
    rw [← Nat.pow_succ'];congr 1;omega
   omega
theorem d0i (a b:List Nat) (ha:D9 a) (hb:D9 b) (n:Nat) (hna:n≤a.length) (hnb:n≤b.length) :
  H4 a b n=if val (a.take n) < val (b.take n) then -1 else if val (b.take n) < val (a.take n) then 1 else 0:=by
 induction n with
 | zero=>simp [H4,val]
 | succ n ih =>
  have hla:n < a.length:=oM
  have hlb:n < b.length:=oM
  have e1:a.take (n+1)=a.take n ++ [a.getD n 0]:=by rw [List.take_succ_eq_append_getElem hla];simp [List.getD,hla]
  have e2:b.take (n+1)=b.take n ++ [b.getD n 0]:=by rw [List.take_succ_eq_append_getElem hlb];simp [List.getD,hlb]
  have v1:=a5o (a.take n) [a.getD n 0]
  have v2:=a5o (b.take n) [b.getD n 0]
  have l1:(a.take n).length=n:=by simp;omega
  have l2:(b.take n).length=n:=by simp;omega
  have b1:=a28 (a.take n) (fun d hd=>ha d (List.mem_of_mem_take hd))
  have b2:=a28 (b.take n) (fun d hd=>hb d (List.mem_of_mem_take hd))
  rw [l1] at v1 b1
  rw [l2] at v2 b2
  simp only [val,Nat.mul_zero,Nat.add_zero] at v1 v2
  rw [e1,e2,v1,v2]
  simp only [H4]
  rw [ih oM oM]
  generalize a.getD n 0=x at *
  generalize b.getD n 0=y at *
  generalize val (a.take n)=p at *
  generalize val (b.take n)=q at *
  generalize 10 ^ n=P at *
  by_cases h1:x < y
  ·have:P * (x+1)≤P * y:=Nat.mul_le_mul_left P h1
   rw [Nat.mul_add,Nat.mul_one] at this
   rw [if_pos h1,if_pos oM]
  ·rw [if_neg h1]
   by_cases h2:y < x
   ·have:P * (y+1)≤P * x:=Nat.mul_le_mul_left P h2
    rw [Nat.mul_add,Nat.mul_one] at this
    rw [if_pos h2,if_neg oM,if_pos oM]
   ·rw [if_neg h2]
    have h3:x=y:=oM
    subst h3
    simp only [Nat.add_lt_add_iff_right]
theorem d8n (x y:Nat):S5 (j8 x) (j8 y)=if x < y then -1 else if y < x then 1 else 0:=by
 unfold S5
 split
 ·rename_i h
  rw [d0i _ _ (E0 x) (E0 y) _ (Nat.le_refl _) oM,List.take_length,h,List.take_length,D3,D3]
 ·rename_i h
  have b1:=a28 (j8 x) (E0 x)
  have b2:=a28 (j8 y) (E0 y)
  rw [D3] at b1 b2
  split
  ·rename_i h2
   have hy:y ≠ 0:=by intro e;rw [e,A4] at h2;simp at h2
   have g2:=a6j y hy
   have:10 ^ (j8 x).length≤10 ^ ((j8 y).length - 1):=Nat.pow_le_pow_right oM oM
   rw [if_pos oM]
  ·rename_i h2
   have hx:x ≠ 0:=by intro e;rw [e,A4] at h h2;simp only [List.length_nil] at h h2;omega
   have g1:=a6j x hx
   have:10 ^ (j8 y).length≤10 ^ ((j8 x).length - 1):=Nat.pow_le_pow_right oM oM
   rw [if_neg oM,if_pos oM]

theorem d0b (s:i6) (e:Nat) (k:Nat) (acc:List Nat):y9 s e k acc=acc ++ y9 s e k []:=by
 induction k generalizing acc with
 | zero=>simp [y9]
 | succ k ih =>
  simp only [y9]
  split
  ·rw [ih (acc ++ _),ih ([] ++ _)];simp
  ·simp
theorem d0l (s:i6) (k acc:Nat) (hk:k≤s.length):A6 s k acc=acc * 10 ^ (s.length - k)+A6 s k 0:=by
 generalize hm:s.length - k=m
 induction m generalizing k acc with
 | zero=>rw [A6,if_neg oM,A6,if_neg oM];simp
 | succ m ih =>
  rw [A6,if_pos oM,A6.eq_def s k 0,if_pos oM,ih (k+1) _ oM oM,ih (k+1) (10 * 0+_) oM oM,Nat.pow_succ]
  rw [Nat.mul_zero,Nat.zero_add,Nat.add_mul,Nat.mul_comm 10 acc,Nat.mul_assoc,Nat.mul_comm 10 (10 ^ m)]
  omega
theorem a7m (s:i6) (e k:Nat) (h:e≤k):y9 s e (k+1) []=(bt s k - 48).toNat :: y9 s e k []:=by
 rw [y9,if_pos h,d0b];simp
theorem d2j (s:i6) (e:Nat):y9 s e e []=[]:=by
 cases e with
 | zero=>rfl
 | succ e=>rw [y9,if_neg oM]
theorem c9w (s:i6) (e k:Nat) (he:e≤k) (hk:k≤s.length):A6 s e 0=A6 s k (val (y9 s e k [])):=by
 induction k with
 | zero=>obtain rfl:e=0:=oM
         rfl
 | succ k ih =>
  by_cases h:e=k+1
  ·subst h;rw [d2j];rfl
  ·rw [ih oM oM,a7m s e k oM,A6,if_pos oM]
   congr 1
   simp only [val];omega
theorem b5g (s:i6) (e:Nat) (he:e≤s.length):A6 s e 0=val (y9 s e s.length []):=by
 rw [c9w s e s.length he (Nat.le_refl _),A6,if_neg oM]
theorem c7v (s:i6) (e k:Nat) (h:e < k):∃ t,y9 s e k []=t ++ [(bt s e - 48).toNat]:=by
 induction k with
 | zero=>omega
 | succ k ih =>
  rw [a7m s e k oM]
  by_cases hk:e=k
  ·subst hk;exact ⟨[],by rw [d2j];rfl⟩
  ·obtain ⟨t,ht⟩:=ih oM
   exact ⟨_ :: t,by rw [ht];rfl⟩
theorem f6v (s:i6) (e k:Nat) (h:∀ j,e≤j→j < k→48≤bt s j∧bt s j≤57):D9 (y9 s e k []):=by
 induction k with
 | zero=>intro d hd;simp [y9] at hd
 | succ k ih =>
  by_cases he:e≤k
  ·rw [a7m s e k he]
   intro d hd
   rcases List.mem_cons.1 hd with rfl | hd
   ·have:=h k he oM;omega
   ·exact ih (fun j h1 h2=>h j h1 oM) d hd
  ·rw [y9,if_neg he];intro d hd;simp at hd
theorem a8t:j0 A9=0:=by
 have h1:j7 A9=0:=dE
 have h2:A6 A9 0 0=0:=by rw [A6,if_pos dE,A6,if_neg dE];decide
 unfold j0
 rw [h1,h2];simp
theorem b4o (s:i6):a1e s=(decide (j0 s < 0),j8 (j0 s).natAbs):=by
 unfold a1e
 split
 ·rename_i h
  obtain ⟨h1,h2⟩:=h
  have h3:j7 s < s.length∧bt s (j7 s) ≠ 48∧s9 s (j7 s)=s.length:=by
   simp [B8,h2] at h1;exact ⟨h1.1.1,h1.1.2,h1.2⟩
  have hall:∀ j,j7 s≤j→j < s.length→48≤bt s j∧bt s j≤57:=fun j a b=>a0y s (j7 s) j a oM
  have h9:=f6v s (j7 s) s.length hall
  obtain ⟨t,ht⟩:=c7v s (j7 s) s.length h3.1
  have hd0:(bt s (j7 s) - 48).toNat ≠ 0:=by have:=hall (j7 s) (Nat.le_refl _) h3.1;omega
  have hcan:j8 (val (y9 s (j7 s) s.length []))=y9 s (j7 s) s.length []:=by
   rw [ht] at h9 ⊢;exact c2z t _ h9 hd0
  have hv:=b5g s (j7 s) oM
  have hpos:0 < A6 s (j7 s) 0:=by
   rcases Nat.eq_zero_or_pos (A6 s (j7 s) 0) with h | h
   ·rw [← hv,h,A4] at hcan;rw [ht] at hcan;simp at hcan
   ·exact h
  unfold j0
  rw [if_pos h1]
  have hs1:=W1 s
  by_cases hsg:j7 s=1
  ·rw [if_pos hsg]
   rw [hsg] at hcan hv hpos ⊢
   rw [hv,Int.natAbs_neg,Int.natAbs_natCast,hcan]
   congr 1
   rw [← hv];simp;omega
  ·have hs0:j7 s=0:=oM
   rw [if_neg hsg]
   rw [hs0] at hcan hv hpos ⊢
   rw [hv,Int.natAbs_natCast,hcan]
   congr 1
 ·rename_i h
  have:j0 s=0:=by
   by_cases h1:B8 s=true
   ·have:s=A9:=by
     by_cases h2:s=A9
     ·exact h2
     ·exact absurd ⟨h1,h2⟩ h
    rw [this];exact a8t
   ·unfold j0;rw [if_neg h1]
  rw [this];simp [A4]
theorem d76 (X a y:Nat) (hy:0 < y):(a+10 * X) / y=(a+10 * (X % y)) / y+10 * (X / y)∧(a+10 * X) % y=(a+10 * (X % y)) % y:=by
 have h:=Nat.div_add_mod X y
 have e:a+10 * X=(a+10 * (X % y))+y * (10 * (X / y)):=by
  have:y * (10 * (X / y))=10 * (y * (X / y)):=by rw [Nat.mul_left_comm]
  rw [this];omega
 rw [e]
 exact ⟨by rw [Nat.add_mul_div_left _ _ hy],by rw [Nat.add_mul_mod_self_left]⟩
theorem d3u (R t y:Nat) (hy:0 < y) (h1:t * y≤R) (h2:R - t * y < y):R / y=t∧R % y=R - t * y:=by
 have e:R=(R - t * y)+y * t:=by rw [Nat.mul_comm y t];omega
 constructor
 ·rw [e,Nat.add_mul_div_left _ _ hy,Nat.div_eq_of_lt h2];omega
 ·have:R % y=((R - t * y)+y * t) % y:=by rw [← e]
  rw [this,Nat.add_mul_mod_self_left,Nat.mod_eq_of_lt h2]
theorem d59 (x k:Nat) (h:k < (j8 x).length):val ((j8 x).drop k)=(j8 x).getD k 0+10 * val ((j8 x).drop (k+1)):=by
 rw [List.drop_eq_getElem_cons h];simp [val,List.getD,h]
theorem c0q (a r:Nat) (ha:a≤9):G0 (a :: j8 r)=j8 (a+10 * r):=by
 rw [a57]
 ·simp only [val,D3]
 ·intro d hd
  rcases List.mem_cons.1 hd with rfl | hd
  ·exact ha
  ·exact E0 r d hd
theorem a3f (n k:Nat) (h:n ≠ 0) (hk:k < (j8 n).length):bt (i7 n) k=48+((j8 n).getD ((j8 n).length - 1 - k) 0:Int):=by
 have hs:(i7 n).length=(j8 n).length:=by unfold i7;rw [if_neg h];simp
 have hbt:bt (i7 n) k=(((i7 n)[k]'oM).toNat:Int):=by unfold bt;simp [List.getD,List.getElem?_eq_getElem (show k < (i7 n).length by omega)]
 rw [hbt]
 have h9:(j8 n).getD ((j8 n).length - 1 - k) 0≤9:=by
  have hlt:(j8 n).length - 1 - k < (j8 n).length:=oM
  simp only [List.getD,List.getElem?_eq_getElem hlt,Option.getD_some]
  exact E0 n _ (List.getElem_mem hlt)
 have:(i7 n)[k]'oM=UInt8.ofNat (48+(j8 n).getD ((j8 n).length - 1 - k) 0):=by
  have e:i7 n=((j8 n).reverse.map fun d=>UInt8.ofNat (48+d)):=by unfold i7;rw [if_neg h]
  simp only [e]
  simp [List.getD,show (j8 n).length - 1 - k < (j8 n).length by omega]
 rw [this]
 simp only [UInt8.toNat_ofNat']
 omega

theorem R7 (n:Nat) (h:n ≠ 0):(i7 n).length=(j8 n).length:=by unfold i7;rw [if_neg h];simp
theorem c12 (n:Nat) (h:n ≠ 0):(j8 n).getD ((j8 n).length - 1) 0 ≠ 0:=by
 induction n using Nat.strongRecOn with
 | _ n ih =>
  rw [F6 h]
  by_cases h1:n / 10=0
  ·rw [h1,A4];simp;omega
  ·have:=ih (n / 10) oM h1
   have h2:(j8 (n / 10)).length ≠ 0:=by rw [F6 h1];simp
   obtain ⟨m,hm⟩:∃ m,(j8 (n / 10)).length=m+1:=⟨_,(Nat.succ_pred h2).symm⟩
   rw [hm] at this
   simp only [List.length_cons,hm,Nat.add_sub_cancel]
   simpa [List.getD] using this
theorem T9 (s:i6) (i:Nat) (hi:i≤s.length) (h:∀ j,i≤j→j < s.length→48≤bt s j∧bt s j≤57):s9 s i=s.length:=by
 fun_induction s9 s i with
 | case1 i h1 h2 ih=>exact ih oM (fun j a b=>h j oM b)
 | case2 i h1 h2=>exact absurd (by have:=h i (Nat.le_refl _) h1;simp [a0x];omega) h2
 | case3 i h1=>omega
theorem e4p (n k:Nat) (h:n ≠ 0) (hk:k≤(j8 n).length):y9 (i7 n) 0 k []=(j8 n).drop ((j8 n).length - k):=by
 induction k with
 | zero=>simp [y9]
 | succ k ih =>
  rw [a7m _ _ _ (Nat.zero_le _),ih oM,a3f n k h oM]
  have hlt:(j8 n).length - (k+1) < (j8 n).length:=oM
  rw [List.drop_eq_getElem_cons hlt]
  congr 1
  ·simp only [List.getD,show (j8 n).length - 1 - k=(j8 n).length - (k+1) by omega,List.getElem?_eq_getElem hlt,Option.getD_some];omega
  ·congr 1;omega
theorem A7 (n:Nat):j0 (i7 n)=n:=by
 by_cases h:n=0
 ·subst h;exact a8t
 ·have hs:=R7 n h
  have hl:(j8 n).length ≠ 0:=by rw [F6 h];simp
  have hall:∀ j,0≤j→j < (i7 n).length→48≤bt (i7 n) j∧bt (i7 n) j≤57:=by
   intro j _ hj
   rw [a3f n j h oM]
   have hlt:(j8 n).length - 1 - j < (j8 n).length:=oM
   have:=E0 n ((j8 n)[(j8 n).length - 1 - j]) (List.getElem_mem hlt)
   simp only [List.getD,List.getElem?_eq_getElem hlt,Option.getD_some]
   omega
  have h0:=hall 0 (Nat.le_refl _) oM
  have hsg:j7 (i7 n)=0:=by unfold j7;rw [if_neg oM]
  have hb0:bt (i7 n) 0 ≠ 48:=by
   rw [a3f n 0 h oM]
   have:=c12 n h
   rw [Nat.sub_zero]
   omega
  have hok:B8 (i7 n)=true:=by
   unfold B8
   rw [hsg,T9 _ 0 (Nat.zero_le _) hall]
   simp [hb0];right;omega
  unfold j0
  rw [if_pos hok,hsg,if_neg oM,b5g _ 0 (Nat.zero_le _),hs,e4p n _ h (Nat.le_refl _),Nat.sub_self,List.drop_zero,D3]
theorem a06 (c:UInt8) (s:i6) (k:Nat):bt (c :: s) (k+1)=bt s k:=by simp [bt]
theorem c6a (c:UInt8) (s:i6) (k acc:Nat):A6 (c :: s) (k+1) acc=A6 s k acc:=by
 fun_induction A6 s k acc with
 | case1 k acc h ih=>rw [A6,if_pos (by simp;omega),a06,ih]
 | case2 k acc h=>rw [A6,if_neg (by simp;omega)]
theorem b44 (c:UInt8) (s:i6) (k:Nat):s9 (c :: s) (k+1)=s9 s k+1:=by
 fun_induction s9 s k with
 | case1 k h1 h2 ih=>rw [s9,if_pos (by simp;omega),a06,if_pos h2,ih]
 | case2 k h1 h2=>rw [s9,if_pos (by simp;omega),a06,if_neg h2]
 | case3 k h=>rw [s9,if_neg (by simp;omega)]
theorem Y3 (n:Nat) (h:n ≠ 0):(∀ j,0≤j→j < (i7 n).length→48≤bt (i7 n) j∧bt (i7 n) j≤57)∧bt (i7 n) 0 ≠ 48∧0 < (i7 n).length:=by
 have hs:=R7 n h
 have hl:(j8 n).length ≠ 0:=by rw [F6 h];simp
 refine ⟨?_,?_,oM⟩
 ·intro j _ hj
  rw [a3f n j h oM]
  have hlt:(j8 n).length - 1 - j < (j8 n).length:=oM
  have:=E0 n ((j8 n)[(j8 n).length - 1 - j]) (List.getElem_mem hlt)
  simp only [List.getD,List.getElem?_eq_getElem hlt,Option.getD_some]
  omega
 ·rw [a3f n 0 h oM]
  have:=c12 n h
  rw [Nat.sub_zero]
  omega
theorem d24 (n:Nat) (h:n ≠ 0):j0 (45 :: i7 n)=-(n:Int):=by
 obtain ⟨h1,h2,h3⟩:=Y3 n h
 have hsg:j7 (45 :: i7 n)=1:=by unfold j7;rw [if_pos];exact ⟨by simp,rfl⟩
 have hsg0:j7 (i7 n)=0:=by unfold j7;rw [if_neg];have:=h1 0 (Nat.le_refl _) h3;omega
 have hok:B8 (45 :: i7 n)=true:=by
  unfold B8
  rw [hsg,show (1:Nat)=0+1 from rfl,b44,a06,T9 _ 0 (Nat.zero_le _) h1]
  simp [h2];right;omega
 have hv:=A7 n
 have hok0:B8 (i7 n)=true:=by
  unfold B8
  rw [hsg0,T9 _ 0 (Nat.zero_le _) h1]
  simp [h2];right;omega
 unfold j0 at hv
 rw [if_pos hok0,hsg0,if_neg oM] at hv
 unfold j0
 rw [if_pos hok,hsg,if_pos rfl,show (1:Nat)=0+1 from rfl,c6a,hv]
theorem r8 (n:Int):j0 (j4 n)=n:=by
 unfold j4
 split
 ·rename_i h
  show j0 (45 :: i7 n.natAbs)=n
  rw [d24 _ oM];omega
 ·rw [A7];omega
theorem Z4 {a b:Int} (h:j4 a=j4 b):a=b:=by rw [← r8 a,h,r8]
theorem Z1 {a b:Nat} (h:i7 a=i7 b):a=b:=by
 have:=congrArg j0 h
 rw [A7,A7] at this
 omega
end LQ
namespace Go.Proofs.YtffaodopiifbkaaGreatDoor
open Go.Abs LQ
noncomputable section
abbrev Sy:=i6 × i6
inductive O where
 | num (n:Int) (d:Nat)
 | sy (s:Sy)
 | tx (s:i6)
 | co (a d:O)
 | no
namespace O
def k:O→Int
 | num _ _=>1
 | sy _=>2
 | tx _=>3
 | co _ _=>4
 | no=>0
def nu:O→i6
 | num n _=>j4 n
 | _=>[]
def de:O→i6
 | num _ d=>i7 d
 | _=>[]
def sym:O→Sy
 | sy s=>s
 | _=>([],[])
def txt:O→i6
 | tx s=>s
 | _=>[]
def ps:O→List O
 | co a d=>[a,d]
 | _=>[]
def g:O→List G
 | num n d=>[.i .i64 1,.s (j4 n),.s (i7 d),.s [],.s [],.s [],.l []]
 | sy s=>[.i .i64 2,.s [],.s [],.s s.1,.s s.2,.s [],.l []]
 | tx s=>[.i .i64 3,.s [],.s [],.s [],.s [],.s s,.l []]
 | co a d=>[.i .i64 4,.s [],.s [],.s [],.s [],.s [],.l [a.g,d.g]]
 | no=>[.i .i64 0,.s [],.s [],.s [],.s [],.s [],.l []]
theorem g_eq (a:O):a.g=[.i .i64 a.k,.s a.nu,.s a.de,.s a.sym.1,.s a.sym.2,.s a.txt,.l (a.ps.map O.g)]:=by cases a <;> rfl
theorem g_len (a:O):a.g.length=7:=by cases a <;> rfl
theorem ps_le (a:O):a.ps.length≤2:=by cases a <;> simp [ps]
theorem ps_fuel (a:O):a.ps.length - 0 < C2:=by cases a <;> simp [ps,C2]
theorem ext {a b:O} (h1:a.k=b.k) (h2:a.nu=b.nu) (h3:a.de=b.de) (h4:a.sym=b.sym) (h5:a.txt=b.txt) (h6:a.ps=b.ps):a=b:=by
 cases a <;> cases b <;> simp_all [k,nu,de,sym,txt,ps]
 exact ⟨Z4 h2,Z1 h3⟩
theorem g_inj:∀ {a b:O},a.g=b.g→a=b:=by
 intro a
 induction a with
 | num n d=>intro b h;cases b <;> simp only [g,List.cons.injEq,G.s.injEq,G.i.injEq,reduceCtorEq,and_true,true_and,false_and,and_false,Int.reduceEq] at h;exact (congrArg (O.num · _) (Z4 h.1)).trans (congrArg (O.num _) (Z1 h.2))
 | sy s=>intro b h;cases b <;> simp [g] at h;exact congrArg O.sy (Prod.ext h.1 h.2)
 | tx s=>intro b h;cases b <;> simp [g] at h;rw [h]
 | co a d iha ihd=>intro b h;cases b <;> simp [g] at h;rw [iha h.1,ihd h.2]
 | no=>intro b h;cases b <;> simp [g] at h;rfl
open Classical in
def eqb (a b:O):Bool:=decide (a=b)
theorem eqb_t {a b:O}:eqb a b=true↔a=b:=by unfold eqb;simp
theorem eqb_f {a b:O}:eqb a b=false↔¬a=b:=by unfold eqb;simp
def size:O→Nat
 | co a d=>1+a.size+d.size
 | _=>1
theorem size_pos (a:O):0 < a.size:=by cases a <;> simp [size] <;> omega
theorem ps_size (a:O):∀ x ∈ a.ps,x.size < a.size:=by cases a <;> simp [ps,size] <;> omega
end O
theorem c55:∀ {l m:List O},l.map O.g=m.map O.g→l=m
 | [],[],_=>rfl
 | [],_ :: _,h=>by simp at h
 | _ :: _,[],h=>by simp at h
 | a :: l,b :: m,h=>by simp only [List.map_cons,List.cons.injEq] at h;exact congr (congrArg List.cons (O.g_inj h.1)) (c55 h.2)
theorem c5g {x y:O} {vs:List V} (h:l8 [.a x.g] vs) (k:l8 [.a y.g] vs):x=y:=by
 cases h with | cons _ _ v _ h _=>cases k with | cons _ _ _ _ k _=>exact O.g_inj (h.a_inj k)
theorem c8q {x y x' y':O} {vs:List V} (h:l8 [.a x.g,.a x'.g] vs) (k:l8 [.a y.g,.a y'.g] vs):x=y∧x'=y':=by
 cases h with | cons _ _ v _ h h'=>cases k with | cons _ _ _ _ k k'=>exact ⟨O.g_inj (h.a_inj k),c5g h' k'⟩
end
end Go.Proofs.YtffaodopiifbkaaGreatDoor
namespace Go.Proofs.YtffaodopiifbkaaGreatDoor
open Go.Abs LQ
structure Tr (p q:Prop):Prop where
 go:q→p
theorem Tr.refl {p:Prop}:Tr p p:=⟨id⟩
theorem Tr.b {p p' q:Prop} (f:p'→p) (h:Tr p' q):Tr p q:=⟨fun k=>f (h.go k)⟩
theorem Tr.all {α:Sort _} {p q:α→Prop} (h:∀ x,Tr (p x) (q x)):Tr (∀ x,p x) (∀ x,q x):=⟨fun k x=>(h x).go (k x)⟩
theorem Tr.chk {U:x5} {P:L3→List Bx→Prop} {b:Bool} {p q:Prop} {x:Om} (ht:L9 U b p) (hp:p) (h:Tr (j6 U x P) q):Tr (j6 U (U.chk b x) P) q:=⟨fun k=>f4a ht hp (h.go k)⟩
theorem Tr.cnd {U:x5} {P:L3→List Bx→Prop} {b:Bool} {p:Prop} {q1:p→Prop} {q2:¬p→Prop} {x y:Om} (ht:L9 U b p) (h:∀ a,Tr (j6 U x P) (q1 a)) (k:∀ a,Tr (j6 U y P) (q2 a)):Tr (j6 U (U.cnd b x y) P) ((∀ a,q1 a)∧(∀ a,q2 a)):=⟨fun g=>c1b ht (fun a=>(h a).go (g.1 a)) (fun a=>(k a).go (g.2 a))⟩
theorem Zx {p q:Prop} (k:q) (h:Tr p q:=by ((repeat' (first | (with_reducible apply Tr.all) | (with_reducible intro _) | (apply Tr.b;(case f=>first | exact b9b | exact a2x aS | exact c7l | exact b35 aS | exact b7f | exact a7d aS | exact b14 | exact b31 aS | exact sP | exact sPR aS | exact sIV | exact sI aS | exact sBV | exact sBK | exact sB aS | exact sSV | exact sS aS | exact sA | exact L0 aS (by rfl) | exact b97 (by rfl) | exact c8r (by rfl) | exact c4n aS (by rfl) | exact c7q aS (by rfl) | exact d5s aS | exact sSl aS | exact sTu aS | exact sBo | exact a7l aS (by rfl) | exact sBc | exact d3q aS | exact sBt | exact sBs | exact sBr | exact a2j aS | exact b84 aS | exact b8w aS (by rfl) | exact d31 aS (by rfl) | exact sCI' aS (by rfl) | exact sCB' aS (by rfl) | exact sCS aS | exact sCI aS | exact sCB aS | exact b7h (by first | omega | (simp only [List.length_map] at *;omega)) | exact b9t (by first | omega | (simp only [List.length_map] at *;omega)) | exact c39 | exact b3u | exact b3z | exact c4f | exact b9v | exact b9i | exact sfSubN | exact b3y | exact sfBSelE | exact sfB | exact sJn | exact c4t | exact c4u | exact c4s | exact E2 aS (by (first | exact A3 O.g_len | exact A3 (fun _=>rfl))) | exact b19 aS (by (first | exact A3 O.g_len | exact A3 (fun _=>rfl))) | exact c4r (by first | omega | (simp only [List.length_map] at *;omega)) | exact b9o (by first | omega | (simp only [List.length_map] at *;omega)) | exact d4s aS (by first | assumption | omega | (simp only [List.length_map] at *;omega)) | exact sfT aS (by rfl))) | (apply Tr.chk;(case ht=>(repeat' (first | exact trT | exact trF | apply a5u | apply a6b | exact a5n | exact a5w | exact a7p | exact a68 | exact a7r | exact a2m | exact a2z | exact a2y | exact a2k | exact a2o | exact a5s | exact b1c | exact b0u | exact trS | exact trV)));(case hp=>first | omega | (simp only [List.length_map] at *;omega))) | (apply Tr.cnd;(case ht=>(repeat' (first | exact trT | exact trF | apply a5u | apply a6b | exact a5n | exact a5w | exact a7p | exact a68 | exact a7r | exact a2m | exact a2z | exact a2y | exact a2k | exact a2o | exact a5s | exact b1c | exact b0u | exact trS | exact trV))))));all_goals exact Tr.refl)):p:=h.go k
theorem Zy {p q:Prop} (k:q) (h:Tr p q:=by ((repeat' (first | (with_reducible apply Tr.all) | (with_reducible intro _) | (apply Tr.b;(case f=>first | exact b9b | exact a2x aS | exact c7l | exact b35 aS | exact b7f | exact a7d aS | exact b14 | exact b31 aS | exact sP | exact sPR aS | exact sIV | exact sI aS | exact sBV | exact sBK | exact sB aS | exact sSV | exact sS aS | exact sA | exact L0 aS (by rfl) | exact b97 (by rfl) | exact c8r (by rfl) | exact c4n aS (by rfl) | exact c7q aS (by rfl) | exact d5s aS | exact sSl aS | exact sTu aS | exact sBo | exact a7l aS (by rfl) | exact sBc | exact d3q aS | exact sBt | exact sBs | exact sBr | exact a2j aS | exact b84 aS | exact b8w aS (by rfl) | exact d31 aS (by rfl) | exact sCI' aS (by rfl) | exact sCB' aS (by rfl) | exact sCS aS | exact sCI aS | exact sCB aS | exact b7h (by first | omega | (simp only [List.length_map] at *;omega)) | exact b9t (by first | omega | (simp only [List.length_map] at *;omega)) | exact c39 | exact b3u | exact b3z | exact c4f | exact b9v | exact b9i | exact sfSubN | exact b3y | exact sfBSelE | exact sfB | exact c4t | exact c4u | exact c4s | exact E2 aS (by (first | exact A3 O.g_len | exact A3 (fun _=>rfl))) | exact b19 aS (by (first | exact A3 O.g_len | exact A3 (fun _=>rfl))) | exact c4r (by first | omega | (simp only [List.length_map] at *;omega)) | exact b9o (by first | omega | (simp only [List.length_map] at *;omega)) | exact d4s aS (by first | assumption | omega | (simp only [List.length_map] at *;omega)) | exact sfT aS (by rfl))) | (apply Tr.chk;(case ht=>(repeat' (first | exact trT | exact trF | apply a5u | apply a6b | exact a5n | exact a5w | exact a7p | exact a68 | exact a7r | exact a2m | exact a2z | exact a2y | exact a2k | exact a2o | exact a5s | exact b1c | exact b0u | exact trS | exact trV)));(case hp=>first | omega | (simp only [List.length_map] at *;omega))) | (apply Tr.cnd;(case ht=>(repeat' (first | exact trT | exact trF | apply a5u | apply a6b | exact a5n | exact a5w | exact a7p | exact a68 | exact a7r | exact a2m | exact a2z | exact a2y | exact a2k | exact a2o | exact a5s | exact b1c | exact b0u | exact trS | exact trV))))));all_goals exact Tr.refl)):p:=h.go k
theorem l6 {p:Prop} (h:p:=by (repeat' (first | exact l8.nil | refine l8.cons _ _ _ _ ?_ ?_ | exact j5.nil | assumption | exact RV.i _ _ | exact RV.b _ | exact RV.kn _ | exact RV.s _ _ _ rfl rfl | refine RV.a _ _ _ (by first | rfl | exact (O.g_len _).symm) aS | refine RV.sl _ _ _ _ _ (by first | rfl | simp) aS | refine RV.q _ _ aS | exact RV.p _ _ | exact RV.cl _ _ _ _ _ rfl (r7.nil _ _ _) | refine RV.ag _ _ ?_ | refine RV.t _ _ ?_ | refine RV.sl _ _ _ _ _ (by rfl) (r7.nil _ _ _) | exact RV.sl0 _ _ _ | refine RV.s _ _ _ (by rfl) (by rfl)))):p:=h
theorem Zru {p:Prop} (h:p:=by (repeat' (first | exact l8.nil | refine l8.cons _ _ _ _ ?_ ?_ | exact j5.nil | assumption | exact RV.i _ _ | exact RV.b _ | exact RV.kn _ | exact RV.s _ _ _ rfl rfl | refine RV.q _ _ (A8.at aS (by rfl)) | refine RV.a _ _ _ (by first | rfl | exact (O.g_len _).symm) aS | refine RV.q _ _ aS | refine RV.cl _ _ _ _ _ rfl (r7.nil _ _ _) | refine RV.ag _ _ ?_ | refine RV.t _ _ ?_ | refine RV.s _ _ _ (by rfl) (by rfl)))):p:=h
theorem aI {a b:Prop} (left:a) (right:b):a∧b:=⟨left,right⟩
theorem oV {a:O} {x:Q} (h:A8 a.g x 0:=by assumption):RV (.a a.g) (.a x 7):=.a _ _ _ a.g_len.symm h
theorem oA {a:O} {x:Q} (h:A8 a.g x 0:=by assumption):l8 [.a a.g] [.a x 7]:=.cons _ _ _ _ (oV h) .nil
theorem oR {U:x5} {P:L3→List Bx→Prop} {a:O} {v:V} {K:Q→Om} (k:∀ q,A8 a.g q 0→j6 U (K q) P) (h:RV (.a a.g) v:=by assumption):j6 U (U.uA 7 v K) P:=L0 h a.g_len k
end Go.Proofs.YtffaodopiifbkaaGreatDoor
