/- Limbs of nine digits: no program in sight. -/
import Derived.Test.YtffaodopiifbkaaGreatDoorCP
set_option linter.all false
namespace LQ
def B9:Nat:=1000000000
def n7 (n:Nat):List Nat:=if h:n=0 then [] else n % B9 :: n7 (n / B9)
termination_by n
decreasing_by exact Nat.div_lt_self (Nat.pos_of_ne_zero h) dE
def m8:List Nat→Nat
 | []=>0
 | d :: t=>d+B9 * m8 t
def LB (l:List Nat):Prop:=∀ d ∈ l,d < B9
theorem H8:n7 0=[]:=by rw [n7];simp
theorem a03 {n:Nat} (h:n ≠ 0):n7 n=n % B9 :: n7 (n / B9):=by rw [n7,dif_neg h]
theorem H9 (n:Nat):m8 (n7 n)=n:=by
 induction n using Nat.strongRecOn with
 | _ n ih =>
  by_cases h:n=0
  ·subst h;rw [H8];rfl
  ·rw [a03 h,m8,ih (n / B9) (Nat.div_lt_self (Nat.pos_of_ne_zero h) dE)]
   unfold B9;omega
theorem P3 (n:Nat):LB (n7 n):=by
 induction n using Nat.strongRecOn with
 | _ n ih =>
  by_cases h:n=0
  ·subst h;rw [H8];intro d hd;simp at hd
  ·rw [a03 h];intro d hd;simp at hd
   rcases hd with rfl | hd
   ·exact Nat.mod_lt _ dE
   ·exact ih (n / B9) (Nat.div_lt_self (Nat.pos_of_ne_zero h) dE) d hd
theorem c5r {d m:Nat} (hd:d < B9) (h:d ≠ 0∨m ≠ 0):n7 (d+B9 * m)=d :: n7 m:=by
 unfold B9 at hd
 rw [a03 (by unfold B9;omega)];congr 1
 ·unfold B9;omega
 ·congr 1;unfold B9;omega
theorem U1 (a b:List Nat):m8 (a ++ b)=m8 a+B9 ^ a.length * m8 b:=by
 induction a with
 | nil=>simp [m8]
 | cons d t ih=>simp only [List.cons_append,m8,ih,List.length_cons,Nat.pow_succ];rw [Nat.mul_add,← Nat.mul_assoc,Nat.mul_comm (B9 ^ t.length) B9];omega
theorem e2a (t:List Nat) (d:Nat) (h9:LB (t ++ [d])) (hd:d ≠ 0):n7 (m8 (t ++ [d]))=t ++ [d]:=by
 induction t with
 | nil =>
  have:d < B9:=h9 d (by simp)
  simp only [List.nil_append,m8]
  rw [c5r this (.inl hd),H8]
 | cons x t ih =>
  simp only [List.cons_append,m8]
  rw [c5r (h9 x (by simp)),ih (fun y hy=>h9 y (by simp at hy ⊢;exact .inr hy))]
  refine .inr fun h0=>hd ?_
  have h2:=U1 t [d]
  rw [h0] at h2
  simp only [m8] at h2
  have h3:0 < B9 ^ t.length:=Nat.pow_pos dE
  rw [Nat.mul_zero,Nat.add_zero] at h2
  have h4:B9 ^ t.length * d=0:=oM
  rcases Nat.mul_eq_zero.1 h4 with h | h <;> omega
theorem d83 (l:List Nat) (h9:LB l) (n:Nat) (hn:n≤l.length):l.take (U5 l n)=n7 (m8 (l.take n)):=by
 induction n with
 | zero=>simp [U5,m8,H8]
 | succ n ih =>
  have hlt:n < l.length:=oM
  have htk:l.take (n+1)=l.take n ++ [l.getD n 0]:=by
   rw [List.take_succ_eq_append_getElem hlt];simp [List.getD,hlt]
  simp only [U5]
  split
  ·rename_i h0
   rw [ih oM,htk,h0,U1]
   simp [m8]
  ·rename_i h0
   rw [htk,e2a _ _ _ h0]
   intro d hd
   rw [← htk] at hd
   exact h9 d (List.mem_of_mem_take hd)
theorem a2f (l:List Nat) (h9:LB l):G0 l=n7 (m8 l):=by
 unfold G0;rw [d83 l h9 l.length (Nat.le_refl _),List.take_length]
theorem Y4 (l:List Nat) (h9:LB l):m8 l < B9 ^ l.length:=by
 induction l with
 | nil=>simp [m8]
 | cons d t ih =>
  have h1:=ih (fun x hx=>h9 x (by simp [hx]))
  have h2:d < B9:=h9 d (by simp)
  simp only [m8,List.length_cons,Nat.pow_succ]
  unfold B9 at *
  omega
theorem c6s (n:Nat) (h:n ≠ 0):B9 ^ ((n7 n).length - 1)≤n:=by
 induction n using Nat.strongRecOn with
 | _ n ih =>
  rw [a03 h]
  simp only [List.length_cons,Nat.add_sub_cancel]
  by_cases h1:n / B9=0
  ·rw [h1,H8];simp;omega
  ·have:=ih (n / B9) (Nat.div_lt_self (Nat.pos_of_ne_zero h) dE) h1
   have h2:(n7 (n / B9)).length ≠ 0:=by rw [a03 h1];simp
   have h3:B9 ^ (n7 (n / B9)).length=B9 * B9 ^ ((n7 (n / B9)).length - 1):=by
    rw [← Nat.pow_succ'];congr 1;omega
   rw [h3]
   have h4:=Nat.mul_le_mul_left B9 this
   have h5:B9 * (n / B9)≤n:=Nat.mul_div_le n B9
   omega
theorem c6k (a b:List Nat) (ha:LB a) (hb:LB b) (n:Nat) (hna:n≤a.length) (hnb:n≤b.length) :
  H4 a b n=if m8 (a.take n) < m8 (b.take n) then -1 else if m8 (b.take n) < m8 (a.take n) then 1 else 0:=by
 induction n with
 | zero=>simp [H4,m8]
 | succ n ih =>
  have hla:n < a.length:=oM
  have hlb:n < b.length:=oM
  have e1:a.take (n+1)=a.take n ++ [a.getD n 0]:=by rw [List.take_succ_eq_append_getElem hla];simp [List.getD,hla]
  have e2:b.take (n+1)=b.take n ++ [b.getD n 0]:=by rw [List.take_succ_eq_append_getElem hlb];simp [List.getD,hlb]
  have v1:=U1 (a.take n) [a.getD n 0]
  have v2:=U1 (b.take n) [b.getD n 0]
  have l1:(a.take n).length=n:=by simp;omega
  have l2:(b.take n).length=n:=by simp;omega
  have b1:=Y4 (a.take n) (fun d hd=>ha d (List.mem_of_mem_take hd))
  have b2:=Y4 (b.take n) (fun d hd=>hb d (List.mem_of_mem_take hd))
  rw [l1] at v1 b1
  rw [l2] at v2 b2
  simp only [m8,Nat.mul_zero,Nat.add_zero] at v1 v2
  rw [e1,e2,v1,v2]
  simp only [H4]
  rw [ih oM oM]
  generalize a.getD n 0=x at *
  generalize b.getD n 0=y at *
  generalize m8 (a.take n)=p at *
  generalize m8 (b.take n)=q at *
  generalize B9 ^ n=P at *
  by_cases h1:x < y
  ·have:P * (x+1)≤P * y:=Nat.mul_le_mul_left P h1
   rw [Nat.mul_add,Nat.mul_one] at this
   rw [if_pos h1,if_pos oM]
  ·rw [if_neg h1]
   by_cases h2:y < x
   ·have:P * (y+1)≤P * x:=Nat.mul_le_mul_left P h2
    rw [Nat.mul_add,Nat.mul_one] at this
    rw [if_pos h2,if_neg oM,if_pos oM]
   ·rw [if_neg h2]
    have h3:x=y:=oM
    subst h3
    simp only [Nat.add_lt_add_iff_right]
theorem c40 (x y:Nat):S5 (n7 x) (n7 y)=if x < y then -1 else if y < x then 1 else 0:=by
 unfold S5
 split
 ·rename_i h
  rw [c6k _ _ (P3 x) (P3 y) _ (Nat.le_refl _) oM,List.take_length,h,List.take_length,H9,H9]
 ·rename_i h
  have b1:=Y4 (n7 x) (P3 x)
  have b2:=Y4 (n7 y) (P3 y)
  rw [H9] at b1 b2
  split
  ·rename_i h2
   have hy:y ≠ 0:=by intro e;rw [e,H8] at h2;simp at h2
   have g2:=c6s y hy
   have:B9 ^ (n7 x).length≤B9 ^ ((n7 y).length - 1):=Nat.pow_le_pow_right dE oM
   rw [if_pos oM]
  ·rename_i h2
   have hx:x ≠ 0:=by intro e;rw [e,H8] at h h2;simp only [List.length_nil] at h h2;omega
   have g1:=c6s x hx
   have:B9 ^ (n7 y).length≤B9 ^ ((n7 x).length - 1):=Nat.pow_le_pow_right dE oM
   rw [if_neg oM,if_pos oM]
theorem c08 {a b:Nat} (h:n7 a=n7 b):a=b:=by rw [← H9 a,h,H9]
theorem a91 {n k:Nat} (h:n < B9 ^ k):(n7 n).length≤k:=by
 by_cases h0:n=0
 ·subst h0;simp [H8]
 ·have h1:=c6s n h0
  by_cases h2:(n7 n).length≤k
  ·exact h2
  ·have:B9 ^ k≤B9 ^ ((n7 n).length - 1):=Nat.pow_le_pow_right dE oM
   omega
theorem d9v (x r:Nat) (hx:x < B9):G0 (x :: n7 r)=n7 (x+B9 * r):=by
 rw [a2f]
 ·simp only [m8,H9]
 ·intro d hd
  rcases List.mem_cons.1 hd with rfl | hd
  ·exact hx
  ·exact P3 r d hd
theorem d7a (l:List Nat) (i:Nat) (h:i < l.length):m8 (l.drop i)=l.getD i 0+B9 * m8 (l.drop (i+1)):=by
 rw [List.drop_eq_getElem_cons h];simp [m8,List.getD,h]
theorem c0i (l:List Nat) (i:Nat) (h:i < l.length):m8 (l.take (i+1))=m8 (l.take i)+B9 ^ i * l.getD i 0:=by
 have e:l.take (i+1)=l.take i ++ [l.getD i 0]:=by rw [List.take_succ_eq_append_getElem h];simp [List.getD,h]
 rw [e,U1]
 have:(l.take i).length=i:=by simp;omega
 rw [this];simp [m8]
theorem c8b (l:List Nat) (i x:Nat) (h:i < l.length):m8 (l.set i x)+B9 ^ i * l.getD i 0=m8 l+B9 ^ i * x:=by
 induction l generalizing i with
 | nil=>simp at h
 | cons d t ih =>
  cases i with
  | zero=>simp [m8,List.getD];omega
  | succ i =>
   have:=ih i (by simpa using h)
   simp only [List.set_cons_succ,m8,Nat.pow_succ,List.getD_cons_succ]
   have e1:B9 ^ i * B9 * t.getD i 0=B9 * (B9 ^ i * t.getD i 0):=by rw [Nat.mul_comm (B9 ^ i) B9,Nat.mul_assoc]
   have e2:B9 ^ i * B9 * x=B9 * (B9 ^ i * x):=by rw [Nat.mul_comm (B9 ^ i) B9,Nat.mul_assoc]
   rw [e1,e2]
   have e3:B9 * (m8 (t.set i x)+B9 ^ i * t.getD i 0)=B9 * (m8 t+B9 ^ i * x):=by rw [this]
   rw [Nat.mul_add,Nat.mul_add] at e3
   omega
theorem a4k {l:List Nat} (h:LB l) (i x:Nat) (hx:x < B9):LB (l.set i x):=fun d hd=>by
 rcases List.mem_or_eq_of_mem_set hd with h1 | rfl
 ·exact h d h1
 ·exact hx
theorem a6s {l:List Nat} (h:LB l) (i:Nat):l.getD i 0 < B9:=by
 by_cases hi:i < l.length
 ·simp only [List.getD,List.getElem?_eq_getElem hi,Option.getD_some];exact h _ (List.getElem_mem hi)
 ·simp only [List.getD,List.getElem?_eq_none (Nat.le_of_not_lt hi),Option.getD_none];decide
theorem d3i (n:Nat):m8 (List.replicate n 0)=0:=by
 induction n with
 | zero=>rfl
 | succ n ih=>simp [List.replicate_succ,m8,ih]
def C4 (s:i6):Nat:=A6 s 0 0
theorem d0e (a b:i6) (k acc:Nat) (hk:k≤a.length):A6 (a ++ b) k acc=A6 b 0 (A6 a k acc):=by
 fun_induction A6 a k acc with
 | case1 k acc h ih =>
  rw [A6,if_pos (by simp;omega),← ih oM]
  congr 2
  have:bt (a ++ b) k=bt a k:=by unfold bt;simp [List.getD,List.getElem?_append_left h]
  rw [this]
 | case2 k acc h =>
  have hk':k=a.length:=oM
  subst hk'
  clear h hk
  have:∀ (j acc:Nat),A6 (a ++ b) (a.length+j) acc=A6 b j acc:=by
   intro j acc
   fun_induction A6 b j acc with
   | case1 j acc h ih =>
    rw [A6,if_pos (by simp;omega),← ih,Nat.add_assoc]
    congr 2
    have:bt (a ++ b) (a.length+j)=bt b j:=by unfold bt;simp only [List.getD];rw [List.getElem?_append_right (Nat.le_add_right _ _),Nat.add_sub_cancel_left]
    rw [this]
   | case2 j acc h=>rw [A6,if_neg (by simp;omega)]
  exact this 0 acc
theorem c2c (a b:i6):C4 (a ++ b)=C4 a * 10 ^ b.length+C4 b:=by
 unfold C4
 rw [d0e a b 0 0 (Nat.zero_le _),d0l b 0 _ (Nat.zero_le _)];simp
theorem b8p (c:UInt8) (s:i6):C4 (c :: s)=(bt [c] 0 - 48).toNat * 10 ^ s.length+C4 s:=by
 rw [show c :: s=[c] ++ s from rfl,c2c]
 congr 2
 unfold C4
 rw [A6,if_pos (by simp),A6,if_neg (by simp)];omega
theorem c8l (s:i6) (h:∀ j,j < s.length→48≤bt s j∧bt s j≤57):C4 s < 10 ^ s.length:=by
 induction s with
 | nil=>unfold C4;rw [A6,if_neg (by simp)];simp
 | cons c s ih =>
  rw [b8p,List.length_cons,Nat.pow_succ]
  have h0:=h 0 (by simp)
  have e:bt [c] 0=bt (c :: s) 0:=rfl
  have:=ih fun j hj=>by have:=h (j+1) (by simpa using hj);rwa [a06] at this
  have h1:(bt [c] 0 - 48).toNat≤9:=by rw [e];omega
  have:=Nat.mul_le_mul_right (10 ^ s.length) h1
  omega
theorem e1a (s:i6) (e k:Nat) (hk:k≤s.length) (h:∀ j,e≤j→j < k→48≤bt s j∧bt s j≤57) :
  (y9 s e k []).reverse.map (fun d=>UInt8.ofNat (48+d))=(s.take k).drop e:=by
 induction k with
 | zero=>simp [y9]
 | succ k ih =>
  by_cases he:e≤k
  ·rw [a7m s e k he,List.reverse_cons,List.map_append,ih oM (fun j h1 h2=>h j h1 oM)]
   have hlt:k < s.length:=oM
   rw [List.take_succ_eq_append_getElem hlt,List.drop_append_of_le_length (by simp;omega)]
   congr 1
   have:=h k he oM
   have hb:bt s k=(s[k].toNat:Int):=by unfold bt;simp [List.getD,List.getElem?_eq_getElem hlt]
   rw [hb] at this ⊢
   simp only [List.map_cons,List.map_nil,List.cons.injEq,and_true]
   apply UInt8.toNat_inj.1
   rw [UInt8.toNat_ofNat']
   have:=s[k].toNat_lt
   omega
  ·rw [y9,if_neg he,List.drop_eq_nil_of_le (by simp;omega)];rfl
theorem d57 {s:i6} (h1:B8 s=true) (h2:s ≠ A9):j7 s < s.length∧bt s (j7 s) ≠ 48∧(∀ j,j7 s≤j→j < s.length→48≤bt s j∧bt s j≤57) ∧
  y9 s (j7 s) s.length []=j8 (j0 s).natAbs∧(j0 s).natAbs ≠ 0∧(j7 s=1↔j0 s < 0):=by
 have h3:j7 s < s.length∧bt s (j7 s) ≠ 48∧s9 s (j7 s)=s.length:=by
  simp [B8,h2] at h1;exact ⟨h1.1.1,h1.1.2,h1.2⟩
 have hall:∀ j,j7 s≤j→j < s.length→48≤bt s j∧bt s j≤57:=fun j a b=>a0y s (j7 s) j a oM
 have e:=b4o s
 unfold a1e at e
 rw [if_pos ⟨h1,h2⟩] at e
 injection e with e1 e2
 obtain ⟨t,ht⟩:=c7v s (j7 s) s.length h3.1
 refine ⟨h3.1,h3.2.1,hall,e2,fun h0=>?_,by simpa using e1⟩
 rw [h0,A4,ht] at e2
 simp at e2
theorem d6w {s:i6} (h:j7 s=1):s=45 :: s.drop 1:=by
 unfold j7 at h
 split at h
 ·rename_i hh
  cases s with
  | nil=>simp at hh
  | cons c s =>
   have:(c.toNat:Int)=45:=hh.2
   simp only [List.drop_succ_cons,List.drop_zero,List.cons.injEq,and_true]
   exact UInt8.toNat_inj.1 (by show c.toNat=45;omega)
 ·omega
theorem e22 {s:i6} (h:B8 s=true):j4 (j0 s)=s:=by
 by_cases h2:s=A9
 ·subst h2;rw [a8t];decide
 ·obtain ⟨q1,q2,q3,q4,q5,q6⟩:=d57 h h2
  have ht:=e1a s (j7 s) s.length (Nat.le_refl _) q3
  rw [q4,List.take_length] at ht
  have e:i7 (j0 s).natAbs=s.drop (j7 s):=by unfold i7;rw [if_neg q5];exact ht
  unfold j4
  rw [e]
  by_cases hs:j7 s=1
  ·rw [if_pos (q6.1 hs),hs];exact (d6w hs).symm
  ·rw [if_neg (fun k=>hs (q6.2 k))]
   have:j7 s=0:=by have:=W1 s;omega
   rw [this];rfl
theorem a5d (n:Nat):B8 (i7 n)=true:=by
 by_cases h:n=0
 ·subst h;decide
 ·obtain ⟨h1,h2,h3⟩:=Y3 n h
  have hsg0:j7 (i7 n)=0:=by unfold j7;rw [if_neg];have:=h1 0 (Nat.le_refl _) h3;omega
  unfold B8
  rw [hsg0,T9 _ 0 (Nat.zero_le _) h1]
  simp [h2];right;omega
theorem c3v (n:Int):B8 (j4 n)=true:=by
 unfold j4
 split
 ·rename_i h
  have hn:n.natAbs ≠ 0:=oM
  obtain ⟨h1,h2,h3⟩:=Y3 n.natAbs hn
  show B8 (45 :: i7 n.natAbs)=true
  have hsg:j7 (45 :: i7 n.natAbs)=1:=by unfold j7;rw [if_pos];exact ⟨by simp,rfl⟩
  unfold B8
  rw [hsg,show (1:Nat)=0+1 from rfl,b44,a06,T9 _ 0 (Nat.zero_le _) h1]
  simp [h2];right;omega
 ·exact a5d _
def N4 (s:i6):i6:=if B8 s then s else A9
theorem a2b (s:i6):N4 s=j4 (j0 s):=by
 unfold N4
 split
 ·rename_i h;exact (e22 h).symm
 ·rename_i h
  have:j0 s=0:=by unfold j0;rw [if_neg h]
  rw [this];decide
theorem Y7 (n:Nat):j4 (n:Int)=i7 n:=by unfold j4;rw [if_neg oM];rfl
def e36 (s:i6):i6:=j4 (-j0 s)
theorem a4f (a b:Int) (hb:0 < b):t7 (j4 a) (j4 b)=(j4 (a / (Nat.gcd a.natAbs b.natAbs:Int)),j4 (b / (Nat.gcd a.natAbs b.natAbs:Int))):=by
 unfold t7
 rw [r8,r8,if_neg oM]
 simp only []
 have hg:0 < Nat.gcd a.natAbs b.natAbs:=Nat.gcd_pos_of_pos_right _ oM
 have hd1:=Nat.gcd_dvd_left a.natAbs b.natAbs
 have hd2:=Nat.gcd_dvd_right a.natAbs b.natAbs
 generalize Nat.gcd a.natAbs b.natAbs=g at *
 have e2:b / (g:Int)=((b.natAbs / g:Nat):Int):=by
  conv=>lhs;rw [show b=(b.natAbs:Int) by omega]
  rfl
 have e1:a / (g:Int)=(if (a < 0)=(b < 0) then 1 else -1) * ((a.natAbs / g:Nat):Int):=by
  obtain ⟨k,hk⟩:=hd1
  rw [hk,Nat.mul_div_cancel_left _ hg]
  by_cases h:a < 0
  ·rw [if_neg (by simp [h];omega)]
   have:a=(g:Int) * (-(k:Int)):=by
    have:((a.natAbs:Nat):Int)=(g:Int) * (k:Int):=by rw [hk];simp
    rw [Int.mul_neg];omega
   rw [this,Int.mul_ediv_cancel_left _ oM];omega
  ·rw [if_pos (by simp [h];omega)]
   have:a=(g:Int) * (k:Int):=by
    have:((a.natAbs:Nat):Int)=(g:Int) * (k:Int):=by rw [hk];simp
    omega
   rw [this,Int.mul_ediv_cancel_left _ oM];omega
 rw [e1,e2,Y7]
def At (s:i6) (i:Nat) (w r:i6):Prop:=s.drop i=w ++ r
theorem At.len {s w r:i6} {i:Nat} (h:At s i w r) (hw:w ≠ []):i+w.length+r.length=s.length:=by
 have:=congrArg List.length h
 simp at this
 have:0 < w.length:=List.length_pos_iff.2 hw
 omega
theorem At.bt {s w r:i6} {i j:Nat} (h:At s i w r) (hj:j < w.length):LQ.bt s (i+j)=LQ.bt w j:=by
 unfold LQ.bt
 have:s[i+j]?=w[j]?:=by rw [← List.getElem?_drop,h,List.getElem?_append_left hj]
 simp only [List.getD,this]
theorem At.btr {s w r:i6} {i j:Nat} (h:At s i w r):LQ.bt s (i+w.length+j)=LQ.bt r j:=by
 unfold LQ.bt
 have:s[i+w.length+j]?=r[j]?:=by rw [Nat.add_assoc,← List.getElem?_drop,h,List.getElem?_append_right (Nat.le_add_right _ _),Nat.add_sub_cancel_left]
 simp only [List.getD,this]
theorem At.next {s w r:i6} {i:Nat} (h:At s i w r):s.drop (i+w.length)=r:=by rw [← List.drop_drop,h,List.drop_left]
theorem At.app {s u v r:i6} {i:Nat} (h:At s i (u ++ v) r):At s i u (v ++ r)∧At s (i+u.length) v r:=by
 have h1:At s i u (v ++ r):=by unfold At at *;rw [h,List.append_assoc]
 exact ⟨h1,h1.next⟩
theorem At.sub {s w r:i6} {i:Nat} (h:At s i w r) (hw:w ≠ []):(s.take (i+w.length)).drop i=w:=by
 rw [List.drop_take,h,show i+w.length - i=w.length by omega,List.take_left]
def Del (r:i6):Prop:=r=[]∨bt r 0=32∨bt r 0=41∨bt r 0=10
theorem Del.not {r:i6} (h:Del r) (hr:r ≠ []):y8 (bt r 0)=false∧bt r 0 ≠ 58:=by
 rcases h with h | h | h | h
 ·exact absurd h hr
 all_goals rw [h];decide
def a1b (w:i6):Prop:=∀ j,j < w.length→y8 (bt w j)=true
theorem a54 {s w r:i6} {i:Nat} (h:At s i w r) (hw:a1b w) (hr:r=[]∨y8 (bt r 0)=false):m6 s i=i+w.length:=by
 have key:∀ n j,w.length - j=n→j≤w.length→m6 s (i+j)=i+w.length:=by
  intro n
  induction n with
  | zero =>
   intro j hj hle
   have:j=w.length:=oM
   subst this
   rw [m6]
   split
   ·rename_i hlt
    have hb:=h.btr (j:=0)
    rw [Nat.add_zero] at hb
    rcases hr with hr | hr
    ·exfalso
     subst hr
     have:=congrArg List.length h
     simp at this;omega
    ·rw [if_neg (by rw [hb,hr];simp)]
   ·rfl
  | succ n ih =>
   intro j hj hle
   have hlt:i+j < s.length:=by
    have:=congrArg List.length h
    simp at this;omega
   rw [m6,if_pos hlt,if_pos (by rw [h.bt oM];exact hw j oM),Nat.add_assoc]
   exact ih (j+1) oM oM
 exact key _ 0 rfl (Nat.zero_le _)
def K5 (c:UInt8) (s:i6):i6:=s.flatMap fun b=>if b=c∨b=92 then [92,b] else [b]
def G9 (c:UInt8) (s:i6):i6:=c :: (K5 c s ++ [c])
def a17 (l:i6):List Int:=l.map fun b=>(b.toNat:Int)
theorem a74 (l:i6):F2 (a17 l)=l:=by
 unfold F2 a17
 rw [List.map_map]
 conv=>rhs;rw [← List.map_id l]
 exact List.map_congr_left fun b _=>by simp
theorem bt0 (c:UInt8) (l:i6):bt (c :: l) 0=c.toNat:=rfl
theorem bt1 (c d:UInt8) (l:i6):bt (c :: d :: l) 1=d.toNat:=rfl
theorem c0y {a b:UInt8} (h:a ≠ b):(a.toNat:Int) ≠ b.toNat:=fun e=>h (UInt8.toNat_inj.1 oM)
theorem a7e {c:UInt8} (hc:c ≠ 92) {s:i6}:∀ {l r:i6} {i:Nat} {acc:List Int},At s i (K5 c l) (c :: r)→E3 s c.toNat i acc=.ok (acc ++ a17 l,i+(K5 c l).length+1)
 | [],r,i,acc,h=>by
  have h0:At s i [c] r:=h
  have hlt:i < s.length:=by have:=h0.len (by simp);simp at this;omega
  have hb:bt s i=c.toNat:=by have:=h0.bt (j:=0) (by simp);rwa [Nat.add_zero] at this
  rw [E3,if_pos hlt,if_pos hb];simp [a17,K5]
 | b :: l,r,i,acc,h=>by
  by_cases hb:b=c∨b=92
  ·have e:K5 c (b :: l)=[92,b] ++ K5 c l:=by simp [K5,hb]
   rw [e] at h ⊢
   obtain ⟨h1,h2⟩:=h.app
   have hl:=h1.len (by simp)
   simp at hl
   have b0:bt s i=92:=by have:=h1.bt (j:=0) (by simp);rw [Nat.add_zero] at this;rw [this];rfl
   have b1:bt s (i+1)=b.toNat:=h1.bt (j:=1) (by simp)
   have hc':(92:Int) ≠ (c.toNat:Int):=by have:=c0y hc;simp at this;omega
   rw [E3,if_pos oM,b0,if_neg hc',if_neg (by simp),if_pos oM,b1,if_neg,show i+2=i+[92,b].length from rfl,a7e hc h2]
   ·simp [a17];omega
   ·rcases hb with hb | hb
    ·subst hb;simp
    ·subst hb;simp
  ·have e:K5 c (b :: l)=[b] ++ K5 c l:=by simp [K5,hb]
   rw [e] at h ⊢
   obtain ⟨h1,h2⟩:=h.app
   have hl:=h1.len (by simp)
   simp at hl
   have b0:bt s i=b.toNat:=by have:=h1.bt (j:=0) (by simp);rwa [Nat.add_zero] at this
   have n1:=c0y (fun e=>hb (.inl e))
   have n2:(b.toNat:Int) ≠ 92:=by have:=c0y (fun e=>hb (.inr e));simpa using this
   rw [E3,if_pos oM,b0,if_neg n1,if_pos n2,show i+1=i+[b].length from rfl,a7e hc h2]
   simp [a17];omega
theorem Y0 {s:i6} {i j:Nat} (hi:i≤s.length) (h:skip s i=some j):i≤j∧j≤s.length:=by
 fun_induction skip s i with
 | case1 i h1 h2 ih=>have:=ih oM h;omega
 | case2 i h1 h2 h3 h4 ih=>have:=b02 s i oM;have:=ih oM h;omega
 | case3 i h1 h2 h3 h4=>injection h with h;omega
 | case4 i h1 h2 h3 h4 h5=>cases h
 | case5 i h1 h2 h3 h4 j' h5 h6 ih=>have:=a0q h4;have:=b1z s (i+2) 1 j' oM h5;have:=ih oM h;omega
 | case6 i h1 h2 h3 h4 j' h5 h6=>injection h with h;omega
 | case7 i h1 h2 h3 h4=>injection h with h;omega
 | case8 i h1=>injection h with h;omega
theorem a90 {s:i6} {c:Int} {i:Nat} {acc l:List Int} {j:Nat} (h:E3 s c i acc=.ok (l,j)):i < j∧j≤s.length:=by
 fun_induction E3 s c i acc with
 | case1 i acc h1 h2=>injection h with h;injection h with h3 h4;omega
 | case2 i acc h1 h2 h3 ih=>have:=ih h;omega
 | case3=>cases h
 | case4 i acc h1 h2 h3 h4 h5 ih=>have:=ih h;omega
 | case5=>cases h
 | case6=>cases h
theorem a0g {s:i6} {i k:Nat} {t:u5} (hi:i < s.length) (h:A0 s i=.ok (t,k)):i < k∧k≤s.length:=by
 unfold A0 at h
 repeat' split at h
 all_goals try (cases h;done)
 all_goals try (injection h with h;injection h with h1 h2;subst h2;omega)
 all_goals try (rename_i h0 _;have:=a90 h0;injection h with h;injection h with h1 h2;subst h2;omega)
 ·rename_i hc _
  have hw:=G3 s i oM
  have hw2:i < m6 s i:=by rw [m6,if_pos hi,if_pos hc];have:=G3 s (i+1) oM;omega
  unfold H1 at h
  repeat' split at h
  all_goals try (cases h;done)
  all_goals try (rename_i h0 _;have:=a90 h0;injection h with h;injection h with h1 h2;subst h2;omega)
  all_goals (simp only [] at h;split at h;all_goals try (cases h;done)
             all_goals (injection h with h;injection h with h1 h2;have:=G3 s (m6 s i+2) oM;subst h2;omega))
 ·rename_i hc _
  have hw:=G3 s i oM
  have hw2:i < m6 s i:=by rw [m6,if_pos hi,if_pos hc];have:=G3 s (i+1) oM;omega
  unfold D4 at h
  repeat' split at h
  all_goals try (cases h;done)
  all_goals try (simp only [] at h;split at h)
  all_goals try (cases h;done)
  all_goals (injection h with h;injection h with h1 h2;subst h2;omega)
theorem S6 {s:i6} {i:Nat} {acc:List u5} (hi:i≤s.length):o9 s i acc=match skip s i with
  | none=>.error (11,s.length)
  | some j=>if j < s.length then match A0 s j with
   | .error e=>.error e
   | .ok (t,k)=>o9 s k (acc ++ [t])
   else .ok (acc ++ [⟨0,s.length,w9,w9,w9⟩]):=by
 rw [o9]
 cases hs:skip s i with
 | none=>rfl
 | some j =>
  have h1:=Y0 hi hs
  simp only
  by_cases hj:j < s.length
  ·rw [if_pos hj,if_pos hj]
   cases ht:A0 s j with
   | error e=>rfl
   | ok p =>
    have h2:=a0g (t:=p.1) (k:=p.2) hj ht
    simp only
    rw [if_pos oM]
  ·rw [if_neg hj,if_neg hj]
theorem b0t {s:i6} {i k:Nat} {acc:List u5} {t:u5} (hi:i < s.length) (hb:H3 (bt s i)=false) (h9:bt s i ≠ 59) (hh:has s i 35 124=false) (ht:A0 s i=.ok (t,k)):o9 s i acc=o9 s k (acc ++ [t]):=by
 rw [S6 oM,b2y hi hb h9 hh]
 simp only
 rw [if_pos hi,ht]
theorem d20 {s:i6} {i:Nat} {acc:List u5} (hi:i < s.length) (hb:H3 (bt s i)=true):o9 s i acc=o9 s (i+1) acc:=by
 rw [S6 oM,b9e hi hb,← S6 oM]
def f47 (w:i6):Prop:=∀ j,j < w.length→48≤bt w j∧bt w j≤57
theorem O4 (n:Nat):f47 (i7 n):=by
 by_cases h:n=0
 ·subst h;intro j hj;have:j=0:=by simp [i7,A9] at hj;omega
  subst this;decide
 ·exact fun j hj=>(Y3 n h).1 j (Nat.zero_le _) hj
theorem b8n (n:Nat):i7 n ≠ []:=by
 by_cases h:n=0
 ·subst h;decide
 ·intro e;have:=(Y3 n h).2.2;rw [e] at this;simp at this
theorem N8 (n:Nat):0 < (i7 n).length:=List.length_pos_iff.2 (b8n n)
theorem a73 {s w r:i6} {i:Nat} (h:At s i w r) (hw:f47 w) (hr:r=[]∨¬(48≤bt r 0∧bt r 0≤57)):s9 s i=i+w.length:=by
 have key:∀ n j,w.length - j=n→j≤w.length→s9 s (i+j)=i+w.length:=by
  intro n
  induction n with
  | zero =>
   intro j hj hle
   have:j=w.length:=oM
   subst this
   rw [s9]
   split
   ·rename_i hlt
    have hb:=h.btr (j:=0)
    rw [Nat.add_zero] at hb
    rcases hr with hr | hr
    ·exfalso
     subst hr
     have:=congrArg List.length h
     simp at this;omega
    ·rw [if_neg];rw [hb];simp [a0x];omega
   ·rfl
  | succ n ih =>
   intro j hj hle
   have hlt:i+j < s.length:=by
    have:=congrArg List.length h
    simp at this;omega
   have:=hw j oM
   rw [s9,if_pos hlt,if_pos (by rw [h.bt oM];simp [a0x];omega),Nat.add_assoc]
   exact ih (j+1) oM oM
 exact key _ 0 rfl (Nat.zero_le _)
def sgn (n:Int):i6:=if n < 0 then [45] else []
theorem I8 (n:Int):j4 n=sgn n ++ i7 n.natAbs:=by unfold j4 sgn;split <;> rfl
theorem a35 (n:Int) (d:Nat) (r:i6):j7 (sgn n ++ (i7 d ++ r))=(sgn n).length:=by
 unfold sgn
 split
 ·unfold j7;rw [if_pos ⟨by simp,rfl⟩];rfl
 ·unfold j7
  rw [if_neg];· rfl
  intro h
  have h0:=(O4 d) 0 (N8 d)
  have:bt ([] ++ (i7 d ++ r)) 0=bt (i7 d) 0:=by
   have h1:At (i7 d ++ r) 0 (i7 d) r:=rfl
   have:=h1.bt (j:=0) (N8 d)
   simpa using this
  rw [this] at h
  omega
theorem c88 (n:Int):p8 (j4 n)=(j4 n,P2,true):=by
 have e:j4 n=sgn n ++ (i7 n.natAbs ++ []):=by rw [I8,List.append_nil]
 have h1:=a35 n n.natAbs []
 have ha:At (sgn n ++ (i7 n.natAbs ++ [])) (sgn n).length (i7 n.natAbs) []:=by unfold At;rw [List.drop_left]
 have h2:=a73 ha (O4 _) (.inl rfl)
 have hp:=N8 n.natAbs
 unfold p8
 rw [e,h1]
 simp only []
 rw [h2,if_neg oM,if_pos (by simp)]
theorem c8y (n:Int) (d:Nat):p8 (j4 n ++ 47 :: i7 d)=(j4 n,i7 d,true):=by
 have e:j4 n ++ 47 :: i7 d=sgn n ++ (i7 n.natAbs ++ 47 :: i7 d):=by rw [I8,List.append_assoc]
 have h1:=a35 n n.natAbs (47 :: i7 d)
 have ha:At (sgn n ++ (i7 n.natAbs ++ 47 :: i7 d)) (sgn n).length (i7 n.natAbs) (47 :: i7 d):=by unfold At;rw [List.drop_left]
 have h2:=a73 ha (O4 _) (.inr (by rw [bt0];decide))
 have hp:=N8 n.natAbs
 have hp2:=N8 d
 have hb:At (sgn n ++ (i7 n.natAbs ++ 47 :: i7 d)) ((sgn n).length+(i7 n.natAbs).length+1) (i7 d) []:=by
  unfold At;rw [← List.drop_drop,ha.next];simp
 have h3:=a73 hb (O4 _) (.inl rfl)
 have h4:bt (sgn n ++ (i7 n.natAbs ++ 47 :: i7 d)) ((sgn n).length+(i7 n.natAbs).length)=47:=by
  have:=ha.btr (j:=0);rw [Nat.add_zero] at this;rw [this];rfl
 have hl:(sgn n ++ (i7 n.natAbs ++ 47 :: i7 d)).length=(sgn n).length+(i7 n.natAbs).length+1+(i7 d).length:=by simp;omega
 unfold p8
 rw [e,h1]
 simp only []
 rw [h2,if_neg oM,if_neg oM,h4,if_neg oM,h3,if_pos oM]
 refine Prod.ext ?_ (Prod.ext ?_ rfl)
 ·simp only [List.drop_zero]
  rw [I8,← List.append_assoc,List.take_left' (by simp)]
 ·simp only []
  rw [List.take_length]
  have:=hb
  unfold At at this
  rw [this,List.append_nil]
theorem b26 {s:i6} {i:Nat} (h:¬(i < s.length∧bt s i=48)):E8 s i=i:=by
 rw [E8]
 split
 ·rw [if_neg (fun k=>h ⟨‹_›,k⟩)]
 ·rfl
theorem c3h (n:Int):plain (j4 n)=j4 n:=by
 by_cases h0:n=0
 ·subst h0
  have e1:j7 (j4 0)=0:=dE
  have e2:j4 0=[48]:=dE
  have e3:E8 [48] 0=1:=by rw [E8,if_pos dE,if_pos dE,b26 (by simp)]
  rw [e2] at e1 ⊢
  unfold plain
  rw [e1]
  simp only []
  rw [e3]
  rfl
 ·have e:j4 n=sgn n ++ (i7 n.natAbs ++ []):=by rw [I8,List.append_nil]
  have h1:=a35 n n.natAbs []
  have ha:At (sgn n ++ (i7 n.natAbs ++ [])) (sgn n).length (i7 n.natAbs) []:=by unfold At;rw [List.drop_left]
  have hp:=N8 n.natAbs
  have hb:=ha.bt (j:=0) hp
  rw [Nat.add_zero] at hb
  have hd:=(Y3 n.natAbs oM).2.1
  unfold plain
  rw [e,h1]
  simp only []
  rw [b26 (fun k=>hd (by rw [← hb];exact k.2)),if_neg (by simp only [List.length_append,List.length_nil];omega),List.take_length]
  unfold sgn
  split <;> rfl
theorem c2q (n:Nat):plain (i7 n)=i7 n:=by rw [← Y7];exact c3h n
theorem Y2 (n:Nat):E6 (i7 n)=(i7 n).length:=by
 unfold E6
 rw [A7,Int.natAbs_natCast]
 by_cases h:n=0
 ·subst h;simp [A4,i7,A9]
 ·rw [← R7 n h];have:=N8 n;omega
theorem a1j (n:Int):E6 (j4 n)=(i7 n.natAbs).length:=by
 have:=Y2 n.natAbs
 unfold E6 at this ⊢
 rw [A7,Int.natAbs_natCast] at this
 rw [r8,this]
theorem b47 (n:Int) (d:Nat) (hd:0 < d) (hg:Nat.gcd n.natAbs d=1):t7 (j4 n) (i7 d)=(j4 n,i7 d):=by
 have:=a4f n d oM
 rw [Int.natAbs_natCast,hg] at this
 rw [← Y7,this];simp
theorem c92 {c:Int} (h:48≤c∧c≤57):y8 c=true:=by unfold y8;simp;omega
theorem f61 (u v:i6) (j:Nat):bt (u ++ v) j=if j < u.length then bt u j else bt v (j - u.length):=by
 unfold bt
 split
 ·rename_i h;simp only [List.getD,List.getElem?_append_left h]
 ·rename_i h;simp only [List.getD,List.getElem?_append_right (Nat.le_of_not_lt h)]
theorem b51 {u v:i6} (hu:a1b u) (hv:a1b v):a1b (u ++ v):=fun j hj=>by
 rw [f61]
 split
 ·exact hu j ‹_›
 ·refine hv _ ?_;simp at hj;omega
theorem c5v (n:Nat):a1b (i7 n):=fun j hj=>c92 (O4 n j hj)
theorem c48 (n:Int):a1b (j4 n):=by
 rw [I8]
 refine b51 ?_ (c5v _)
 intro j hj
 unfold sgn at hj ⊢
 split at hj
 ·have:j=0:=by simp at hj;omega
  subst this;rename_i h;rw [if_pos h];decide
 ·simp at hj
theorem d7e (n:Int) (d:Nat):a1b (j4 n ++ 47 :: i7 d):=b51 (c48 n) (b51 (u:=[47]) (fun j hj=>by have:j=0:=(by simp at hj;omega);subst this;decide) (c5v d))
def X2 (n:Int) (d:Nat):i6:=if d=1 then j4 n else j4 n ++ 47 :: i7 d
theorem e2e (n:Int) (d:Nat):a1b (X2 n d):=by unfold X2;split;exact c48 n;exact d7e n d
theorem e9t (n:Int) (d:Nat):X2 n d ≠ []:=by
 have:j4 n ≠ []:=by rw [I8];intro e;exact b8n _ (List.append_eq_nil_iff.1 e).2
 unfold X2;split
 ·exact this
 ·simp
theorem b5e (n:Int) (d:Nat):p8 (X2 n d)=(j4 n,i7 d,true):=by
 unfold X2;split
 ·rename_i h;subst h;rw [c88,show i7 1=P2 by rw [i7,if_neg dE,F6 dE,A4];rfl]
 ·exact c8y n d
theorem c9s {i k:Nat} {n:Int} {d:Nat} (hd:0 < d) (hg:Nat.gcd n.natAbs d=1) (h1:(i7 n.natAbs).length≤100) (h2:(i7 d).length≤100):D4 i (X2 n d) k=.ok (⟨5,i,[],j4 n,i7 d⟩,k):=by
 have hdot:X2 n d ≠ [46]:=by
  intro e
  have:=b5e n d
  rw [e] at this
  have h2:(p8 [46]).2.2=false:=by
   unfold p8
   have e1:j7 [46]=0:=dE
   have e2:s9 [46] 0=0:=by rw [s9,if_pos dE,if_neg dE]
   rw [e1]
   simp only []
   rw [e2];rfl
  rw [this] at h2;cases h2
 unfold D4
 rw [if_neg hdot,b5e]
 simp only [if_true]
 have hz:¬plain (i7 d)=A9:=by
  rw [c2q]
  intro e
  have:d=0:=Z1 e
  omega
 rw [if_neg hz,c3h,c2q,b47 n d hd hg,Y2,a1j,if_neg oM]
 rfl
theorem At.hd {s r:i6} {c:UInt8} {w:i6} {i:Nat} (h:At s i (c :: w) r):LQ.bt s i=c.toNat∧i < s.length:=by
 have h1:=h.bt (j:=0) (by simp)
 have h2:=h.len (by simp)
 rw [Nat.add_zero] at h1
 simp at h2
 exact ⟨h1,oM⟩
theorem d27 {s:i6} {i:Nat} {a b:Int} (h:bt s i ≠ a):has s i a b=false:=by simp [has,h]
theorem a9i {s r w:i6} {c:UInt8} {i k:Nat} {acc:List u5} {t:u5} (h:At s i (c :: w) r) (hb:H3 c.toNat=false) (h9:(c.toNat:Int) ≠ 59) (h35:(c.toNat:Int) ≠ 35∨has s i 35 124=false) (ht:A0 s i=.ok (t,k)):o9 s i acc=o9 s k (acc ++ [t]):=by
 obtain ⟨h1,h2⟩:=h.hd
 refine b0t h2 (by rw [h1];exact hb) (by rw [h1];exact h9) ?_ ht
 rcases h35 with h3 | h3
 ·exact d27 (by rw [h1];exact h3)
 ·exact h3
theorem d7g {s r:i6} {i:Nat} {acc:List u5} (h:At s i [40] r):o9 s i acc=o9 s (i+1) (acc ++ [⟨1,i,[],[],[]⟩]) :=
 a9i h dE dE (.inl dE) (by unfold A0;rw [h.hd.1,if_pos dE];rfl)
theorem d5u {s r:i6} {i:Nat} {acc:List u5} (h:At s i [41] r):o9 s i acc=o9 s (i+1) (acc ++ [⟨2,i,[],[],[]⟩]) :=
 a9i h dE dE (.inl dE) (by unfold A0;rw [h.hd.1,if_neg dE,if_pos dE];rfl)
theorem d5p {s r:i6} {i:Nat} {acc:List u5} (h:At s i [39] r):o9 s i acc=o9 s (i+1) (acc ++ [⟨4,i,[],[],[]⟩]) :=
 a9i h dE dE (.inl dE) (by unfold A0;rw [h.hd.1,if_neg dE,if_neg dE,if_pos dE];rfl)
theorem d5c {s r:i6} {i:Nat} {acc:List u5} (h:At s i [32] r):o9 s i acc=o9 s (i+1) acc :=
 d20 h.hd.2 (by rw [h.hd.1];decide)
theorem a7c (c:UInt8) (l:i6):(G9 c l).length=(K5 c l).length+2:=by simp [G9]
theorem e4b {s r l:i6} {i:Nat} {acc:List u5} (h:At s i (G9 34 l) r) (hl:l.length≤200):o9 s i acc=o9 s (i+(G9 34 l).length) (acc ++ [⟨7,i,[],l,[]⟩]):=by
 refine a9i h dE dE (.inl dE) ?_
 have h2:At s (i+1) (K5 34 l) (34 :: r):=by
  have:At s i ([34] ++ K5 34 l) (34 :: r):=by unfold At at *;rw [h];simp [G9]
  exact this.app.2
 have he:=a7e (c:=34) dE (acc:=[]) h2
 have he:E3 s 34 (i+1) []=.ok ([] ++ a17 l,i+1+(K5 34 l).length+1):=he
 unfold A0
 rw [h.hd.1]
 simp only [show ((34:UInt8).toNat:Int)=34 from rfl,show (34:Int)=40↔False by decide,show (34:Int)=41↔False by decide,show (34:Int)=39↔False by decide,if_true,if_false,he,List.nil_append]
 have:(a17 l).length=l.length:=by simp [a17]
 rw [if_neg oM,a74,a7c]
 simp only [Except.ok.injEq,Prod.mk.injEq]
 exact ⟨rfl,oM⟩
theorem b42 {text:i6} {bars:Bool} (h:text.length≤40) (h1:0 < text.length):s7 text w9 bars=0:=by
 unfold s7
 rw [if_neg oM,if_neg]
 rintro (⟨_,h⟩ | ⟨h,_⟩)
 ·omega
 ·exact h rfl
theorem b5b {text pkg:i6} {bars:Bool} (h:text.length≤40) (h1:0 < text.length) (hp:r9 pkg=true):s7 text pkg bars=0:=by
 unfold s7
 rw [if_neg oM,if_neg]
 rintro (⟨_,h⟩ | ⟨_,h⟩)
 ·omega
 ·rw [hp] at h;cases h
theorem e20 {s r l:i6} {i:Nat} {acc:List u5} (h:At s i (G9 124 l) r) (hl:l.length≤40) (h0:0 < l.length):o9 s i acc=o9 s (i+(G9 124 l).length) (acc ++ [⟨6,i,[],l,[]⟩]):=by
 refine a9i h dE dE (.inl dE) ?_
 have h2:At s (i+1) (K5 124 l) (124 :: r):=by
  have:At s i ([124] ++ K5 124 l) (124 :: r):=by unfold At at *;rw [h];simp [G9]
  exact this.app.2
 have he:=a7e (c:=124) dE (acc:=[]) h2
 have he:E3 s 124 (i+1) []=.ok ([] ++ a17 l,i+1+(K5 124 l).length+1):=he
 unfold A0
 rw [h.hd.1]
 simp only [show ((124:UInt8).toNat:Int)=124 from rfl,show (124:Int)=40↔False by decide,show (124:Int)=41↔False by decide,show (124:Int)=39↔False by decide,show (124:Int)=34↔False by decide,if_true,if_false,he,List.nil_append]
 rw [a74,if_pos (b42 hl h0),a7c]
 simp only [Except.ok.injEq,Prod.mk.injEq]
 exact ⟨rfl,oM⟩
theorem b56 {s:i6} {i:Nat} (hc:y8 (bt s i)=true):A0 s i=if has s (m6 s i) 58 58 then H1 s i (((s.take ((m6 s i))).drop (i))) (m6 s i) else D4 i (((s.take ((m6 s i))).drop (i))) (m6 s i):=by
 have h:33≤bt s i∧bt s i≤126∧bt s i ≠ 40∧bt s i ≠ 41∧bt s i ≠ 39∧bt s i ≠ 34∧bt s i ≠ 59∧bt s i ≠ 124∧bt s i ≠ 58:=by simpa [y8] using hc
 unfold A0
 rw [if_neg oM,if_neg oM,if_neg oM,if_neg oM,if_neg oM,if_pos hc]
theorem g0d {s:i6} {i:Nat} (w:i6) (h:a1b w) (r:i6) (hA:At s i w r) (hw:w ≠ []) (hr:Del r):has s i 35 124=false:=by
 cases w with
 | nil=>exact absurd rfl hw
 | cons c w =>
  cases w with
  | nil =>
   cases r with
   | nil =>
    have:=hA.len hw
    simp at this
    simp [has];omega
   | cons d r =>
    have hb:=hA.btr (j:=0)
    simp at hb
    have:bt s (i+1) ≠ 124:=by
     rw [hb]
     rcases hr with hr | hr | hr | hr
     ·cases hr
     all_goals rw [hr];decide
    simp [has];intro _ _;exact this
  | cons d w =>
   have hb:=hA.bt (j:=1) (by simp)
   have hc:=h 1 (by simp)
   have:bt s (i+1) ≠ 124:=by
    rw [hb]
    intro e
    rw [e] at hc
    exact absurd hc dE
   simp [has];intro _ _;exact this
theorem b2r {s r w:i6} {i:Nat} {acc:List u5} {t:u5} (h:At s i w r) (hw:w ≠ []) (hc:a1b w) (hr:Del r) (ht:D4 i w (i+w.length)=.ok (t,i+w.length)):o9 s i acc=o9 s (i+w.length) (acc ++ [t]):=by
 have hr':r=[]∨y8 (bt r 0)=false:=by
  by_cases hn:r=[]
  ·exact .inl hn
  ·exact .inr (hr.not hn).1
 have he:=a54 h hc hr'
 have hcc:=hc 0 (List.length_pos_iff.2 hw)
 have hb:=h.bt (j:=0) (List.length_pos_iff.2 hw)
 rw [Nat.add_zero] at hb
 have hone:A0 s i=.ok (t,i+w.length):=by
  rw [b56 (by rw [hb];exact hcc),he,if_neg,h.sub hw,ht]
  have hb2:=h.btr (j:=0)
  rw [Nat.add_zero] at hb2
  by_cases hn:r=[]
  ·have:=h.len hw
   subst hn
   simp at this
   simp [has];omega
  ·rw [d27];· simp
   rw [hb2];exact (hr.not hn).2
 have hlt:i < s.length:=by have:=h.len hw;have:=List.length_pos_iff.2 hw;omega
 have hcc':33≤bt w 0∧bt w 0≤126∧bt w 0 ≠ 40∧bt w 0 ≠ 41∧bt w 0 ≠ 39∧bt w 0 ≠ 34∧bt w 0 ≠ 59∧bt w 0 ≠ 124∧bt w 0 ≠ 58:=by simpa [y8] using hcc
 exact b0t hlt (by rw [hb];simp [H3];omega) (by rw [hb];omega) (g0d w hc r h hw hr) hone
theorem e2t {s r:i6} {i:Nat} {acc:List u5} {n:Int} {d:Nat} (h:At s i (X2 n d) r) (hr:Del r) (hd:0 < d) (hg:Nat.gcd n.natAbs d=1) (h1:(i7 n.natAbs).length≤100) (h2:(i7 d).length≤100):o9 s i acc=o9 s (i+(X2 n d).length) (acc ++ [⟨5,i,[],j4 n,i7 d⟩]) :=
 b2r h (e9t n d) (e2e n d) hr (c9s hd hg h1 h2)
theorem e2j {s r:i6} {i:Nat} {acc:List u5} (h:At s i [46] (32 :: r)):o9 s i acc=o9 s (i+1) (acc ++ [⟨3,i,[],[],[]⟩]) :=
 b2r (w:=[46]) h (by simp) (fun j hj=>by have:j=0:=(by simp at hj;omega);subst this;decide) (.inr (.inl rfl)) (by unfold D4;rw [if_pos rfl];rfl)
def S9 (w:i6):Bool:=decide (w ≠ []) && w.all fun b=>y8 b.toNat
theorem c69 {w:i6} (h:S9 w=true):w ≠ []∧a1b w:=by
 simp [S9] at h
 refine ⟨h.1,fun j hj=>?_⟩
 have:=h.2 w[j] (List.getElem_mem hj)
 unfold bt
 simp [List.getD,List.getElem?_eq_getElem hj,this]
theorem d8w {s r w:i6} {i:Nat} {acc:List u5} (h:At s i w r) (hw:S9 w=true) (hr:Del r) (h1:w ≠ [46]) (h2:(p8 w).2.2=false) (hl:w.length≤40):o9 s i acc=o9 s (i+w.length) (acc ++ [⟨6,i,[],w,[]⟩]):=by
 obtain ⟨g1,g2⟩:=c69 hw
 refine b2r h g1 g2 hr ?_
 unfold D4
 rw [if_neg h1,if_neg (by rw [h2];simp),if_pos (b42 hl (List.length_pos_iff.2 g1))]
 rfl
theorem d6j {s r p w:i6} {i:Nat} {acc:List u5} (h:At s i (p ++ (58 :: 58 :: w)) r) (hp:a1b p) (hp0:p ≠ []) (hpv:r9 p=true) (hw:S9 w=true) (hr:Del r) (hl:w.length≤40):o9 s i acc=o9 s (i+(p ++ (58 :: 58 :: w)).length) (acc ++ [⟨6,i,p,w,[]⟩]):=by
 obtain ⟨g1,g2⟩:=c69 hw
 have hr':r=[]∨y8 (bt r 0)=false:=by
  by_cases hn:r=[]
  ·exact .inl hn
  ·exact .inr (hr.not hn).1
 obtain ⟨ha,hb⟩:=h.app
 have hcw:At s (i+p.length+2) w r:=by
  have:At s (i+p.length) ([58,58] ++ w) r:=hb
  exact this.app.2
 have hcol:At s (i+p.length) [58,58] (w ++ r):=by
  have:At s (i+p.length) ([58,58] ++ w) r:=hb
  exact this.app.1
 have he:=a54 ha hp (.inr (by show y8 (bt (58 :: 58 :: w ++ r) 0)=false;rw [List.cons_append,bt0];decide))
 have hcc:=hp 0 (List.length_pos_iff.2 hp0)
 have hb0:=ha.bt (j:=0) (List.length_pos_iff.2 hp0)
 rw [Nat.add_zero] at hb0
 have hw0:=g2 0 (List.length_pos_iff.2 g1)
 have hbw:=hcw.bt (j:=0) (List.length_pos_iff.2 g1)
 rw [Nat.add_zero] at hbw
 have hcw':33≤bt w 0∧bt w 0≤126∧bt w 0 ≠ 40∧bt w 0 ≠ 41∧bt w 0 ≠ 39∧bt w 0 ≠ 34∧bt w 0 ≠ 59∧bt w 0 ≠ 124∧bt w 0 ≠ 58:=by simpa [y8] using hw0
 have hlen:=h.len (by simp)
 have hwl:=List.length_pos_iff.2 g1
 simp only [List.length_append,List.length_cons] at hlen
 have hhas:has s (i+p.length) 58 58=true:=by
  have c0:=hcol.bt (j:=0) (by simp)
  have c1:=hcol.bt (j:=1) (by simp)
  rw [Nat.add_zero] at c0
  simp [has,c0,c1]
  refine ⟨oM,dE,dE⟩
 have hend:=a54 hcw g2 hr'
 have hone:A0 s i=.ok (⟨6,i,p,w,[]⟩,i+p.length+2+w.length):=by
  rw [b56 (by rw [hb0];exact hcc),he,if_pos hhas,ha.sub hp0]
  unfold H1
  rw [if_pos oM,hbw,if_neg oM,if_pos hw0]
  simp only []
  rw [hend,hcw.sub g1,if_pos (b5b hl hwl hpv)]
  rfl
 have hlt:i < s.length:=by have:=List.length_pos_iff.2 hp0;omega
 have hcc':33≤bt p 0∧bt p 0≤126∧bt p 0 ≠ 40∧bt p 0 ≠ 41∧bt p 0 ≠ 39∧bt p 0 ≠ 34∧bt p 0 ≠ 59∧bt p 0 ≠ 124∧bt p 0 ≠ 58:=by simpa [y8] using hcc
 have hcom:has s i 35 124=false:=by
  cases p with
  | nil=>exact absurd rfl hp0
  | cons c p =>
   have:bt s (i+1) ≠ 124:=by
    cases p with
    | nil =>
     have:=hcol.bt (j:=0) (by simp)
     rw [Nat.add_zero] at this
     rw [show i+[c].length=i+1 from rfl] at this
     rw [this];decide
    | cons d p =>
     have hb:=ha.bt (j:=1) (by simp)
     have hc:=hp 1 (by simp)
     rw [hb]
     intro e
     rw [e] at hc
     exact absurd hc dE
   simp [has];intro _ _;exact this
 rw [b0t hlt (by rw [hb0];simp [H3];omega) (by rw [hb0];omega) hcom hone]
 congr 1
 simp;omega
theorem d7j {s r p w:i6} {i:Nat} {acc:List u5} (h:At s i (p ++ (58 :: 58 :: G9 124 w)) r) (hp:a1b p) (hp0:p ≠ []) (hpv:r9 p=true) (hl:w.length≤40) (h0:0 < w.length):o9 s i acc=o9 s (i+(p ++ (58 :: 58 :: G9 124 w)).length) (acc ++ [⟨6,i,p,w,[]⟩]):=by
 obtain ⟨ha,hb⟩:=h.app
 have hcw:At s (i+p.length+2) (G9 124 w) r:=by
  have:At s (i+p.length) ([58,58] ++ G9 124 w) r:=hb
  exact this.app.2
 have hcol:At s (i+p.length) [58,58] (G9 124 w ++ r):=by
  have:At s (i+p.length) ([58,58] ++ G9 124 w) r:=hb
  exact this.app.1
 have he:=a54 ha hp (.inr (by show y8 (bt (58 :: 58 :: G9 124 w ++ r) 0)=false;rw [List.cons_append,bt0];decide))
 have hcc:=hp 0 (List.length_pos_iff.2 hp0)
 have hb0:=ha.bt (j:=0) (List.length_pos_iff.2 hp0)
 rw [Nat.add_zero] at hb0
 have hbw:=hcw.hd.1
 have hlen:=h.len (by simp)
 simp only [List.length_append,List.length_cons,a7c] at hlen
 have hhas:has s (i+p.length) 58 58=true:=by
  have c0:=hcol.bt (j:=0) (by simp)
  have c1:=hcol.bt (j:=1) (by simp)
  rw [Nat.add_zero] at c0
  simp [has,c0,c1]
  refine ⟨oM,dE,dE⟩
 have h2:At s (i+p.length+2+1) (K5 124 w) (124 :: r):=by
  have:At s (i+p.length+2) ([124] ++ K5 124 w) (124 :: r):=by unfold At at *;rw [hcw];simp [G9]
  exact this.app.2
 have hen:=a7e (c:=124) dE (acc:=[]) h2
 have hen:E3 s 124 (i+p.length+2+1) []=.ok ([] ++ a17 w,i+p.length+2+1+(K5 124 w).length+1):=hen
 have hone:A0 s i=.ok (⟨6,i,p,w,[]⟩,i+p.length+2+1+(K5 124 w).length+1):=by
  rw [b56 (by rw [hb0];exact hcc),he,if_pos hhas,ha.sub hp0]
  unfold H1
  rw [if_pos oM,hbw,if_pos dE,hen]
  simp only [List.nil_append]
  rw [a74,if_pos (b5b hl h0 hpv)]
  rfl
 have hlt:i < s.length:=by have:=List.length_pos_iff.2 hp0;omega
 have hcc':33≤bt p 0∧bt p 0≤126∧bt p 0 ≠ 40∧bt p 0 ≠ 41∧bt p 0 ≠ 39∧bt p 0 ≠ 34∧bt p 0 ≠ 59∧bt p 0 ≠ 124∧bt p 0 ≠ 58:=by simpa [y8] using hcc
 have hcom:has s i 35 124=false:=by
  cases p with
  | nil=>exact absurd rfl hp0
  | cons c p =>
   have:bt s (i+1) ≠ 124:=by
    cases p with
    | nil =>
     have:=hcol.bt (j:=0) (by simp)
     rw [Nat.add_zero] at this
     rw [show i+[c].length=i+1 from rfl] at this
     rw [this];decide
    | cons d p =>
     have hb:=ha.bt (j:=1) (by simp)
     have hc:=hp 1 (by simp)
     rw [hb]
     intro e
     rw [e] at hc
     exact absurd hc dE
   simp [has];intro _ _;exact this
 rw [b0t hlt (by rw [hb0];simp [H3];omega) (by rw [hb0];omega) hcom hone]
 congr 1
 simp [a7c];omega
structure Pre (s t:i6):Prop where
 le:s.length≤t.length
 bt:∀ i,i < s.length→bt t i=bt s i
 pos:0 < s.length
 last:LQ.bt s (s.length - 1)=32
 tk:t.take s.length=s
section
variable {s t:i6} (P:Pre s t)
include P
end
theorem c49 {s:i6} {c:Int} {i:Nat} {acc:List Int} {e p} (hi:i≤s.length) (h:E3 s c i acc=.error (e,p)):p≤s.length:=by
 fun_induction E3 s c i acc with
 | case1=>cases h
 | case2 i acc h1 h2 h3 ih=>exact ih oM h
 | case3 i acc h1 h2 h3 h4 h5=>injection h with h;injection h with h1 h2;omega
 | case4 i acc h1 h2 h3 h4 h5 ih=>exact ih oM h
 | case5=>injection h with h;injection h with h1 h2;omega
 | case6=>injection h with h;injection h with h1 h2;omega
theorem d5w {s:i6} {i:Nat} {e p} (hi:i < s.length) (h:A0 s i=.error (e,p)):p≤s.length:=by
 unfold A0 at h
 repeat' split at h
 all_goals try (cases h;done)
 all_goals try (injection h with h;injection h with h1 h2;omega)
 all_goals try (rename_i h0;injection h with h;subst h;exact c49 oM h0)
 ·have hw:=G3 s i oM
  unfold H1 at h
  repeat' split at h
  all_goals try (cases h;done)
  all_goals try (injection h with h;injection h with h1 h2;omega)
  all_goals try (rename_i h0;injection h with h;subst h;exact c49 oM h0)
  all_goals (simp only [] at h;split at h;all_goals first | (cases h;done) | (injection h with h;injection h with h1 h2;omega))
 ·unfold D4 at h
  repeat' split at h
  all_goals try (cases h;done)
  all_goals try (simp only [] at h;split at h)
  all_goals try (cases h;done)
  all_goals (injection h with h;injection h with h1 h2;omega)
theorem c52 {s:i6} {i:Nat} {acc:List u5} {e p} (hi:i≤s.length) (h:o9 s i acc=.error (e,p)):p≤s.length:=by
 generalize hm:s.length - i=m
 induction m using Nat.strongRecOn generalizing i acc with
 | _ m ih =>
  rw [S6 hi] at h
  cases hs:skip s i with
  | none=>rw [hs] at h;injection h with h;injection h with h1 h2;omega
  | some j =>
   have hj:=Y0 hi hs
   rw [hs] at h
   simp only at h
   by_cases hlt:j < s.length
   ·rw [if_pos hlt] at h
    cases ht:A0 s j with
    | error x=>rw [ht] at h;injection h with h;subst h;exact d5w hlt ht
    | ok x =>
     obtain ⟨tk,k⟩:=x
     rw [ht] at h
     have hk:=a0g hlt ht
     exact ih _ oM oM h rfl
   ·rw [if_neg hlt] at h;cases h
end LQ
namespace LQ
open Go
theorem U2:∀ n:Nat,Lib.decDigits n=i7 n:=by
 intro n
 induction n using Nat.strongRecOn with
 | _ n ih =>
  unfold Lib.decDigits
  by_cases h:n < 10
  ·simp only [h,dite_true,if_true]
   by_cases h0:n=0
   ·subst h0;rfl
   ·unfold i7
    rw [if_neg h0,F6 h0,show n / 10=0 by omega,A4,Nat.mod_eq_of_lt h]
    rfl
  ·simp only [h,dite_false,if_false]
   rw [ih (n / 10) oM]
   have h1:¬n / 10=0:=oM
   have h0:¬n=0:=oM
   unfold i7
   rw [if_neg h1,if_neg h0,F6 h0,List.reverse_cons,List.map_append]
   rfl
theorem itoa_showNat (n:Nat):Lib.itoa (n:Int)=i7 n:=by
 unfold Lib.itoa
 rw [if_neg oM,U2,show ((n:Int)).toNat=n by omega]
theorem d3z {n k:Nat} (h:n < 10 ^ k):(j8 n).length≤k:=by
 induction k generalizing n with
 | zero=>rw [show n=0 by simpa using h,A4];simp
 | succ k ih =>
  by_cases h0:n=0
  ·rw [h0,A4];simp
  ·rw [F6 h0,List.length_cons]
   have:=ih (n:=n / 10) (by rw [Nat.pow_succ] at h;omega)
   omega
theorem b9f {m:Nat} (hm:m ≠ 0):∀ (k d:Nat),d < 10 ^ k→j8 (d+10 ^ k * m)=j8 d ++ (List.replicate (k - (j8 d).length) 0 ++ j8 m)
 | 0,d,h=>by
  have:d=0:=by simpa using h
  subst this
  simp [A4]
 | k+1,d,h=>by
  have h':d / 10 < 10 ^ k:=by rw [Nat.pow_succ] at h;omega
  have e1:d+10 ^ (k+1) * m=d+10 * (10 ^ k * m):=by rw [Nat.pow_succ,Nat.mul_comm (10 ^ k) 10,Nat.mul_assoc]
  have hp:0 < 10 ^ k * m:=Nat.mul_pos (Nat.pow_pos dE) (Nat.pos_of_ne_zero hm)
  rw [e1,F6 oM,show (d+10 * (10 ^ k * m)) % 10=d % 10 by omega,show (d+10 * (10 ^ k * m)) / 10=d / 10+10 ^ k * m by omega,b9f hm k (d / 10) h']
  by_cases h0:d=0
  ·subst h0;simp [A4,List.replicate_succ]
  ·rw [F6 h0,List.length_cons,List.cons_append,show k+1 - ((j8 (d / 10)).length+1)=k - (j8 (d / 10)).length by omega]
theorem showNat_len9 {n:Nat} (h:n < 1000000000):(i7 n).length≤9:=by
 by_cases h0:n=0
 ·subst h0;decide
 ·unfold i7;rw [if_neg h0];simpa using d3z (k:=9) h
theorem c3w {m d:Nat} (hm:m ≠ 0) (hd:d < 1000000000):i7 (d+B9 * m)=i7 m ++ (List.replicate (9 - (i7 d).length) 48 ++ i7 d):=by
 have hB:B9=10 ^ 9:=rfl
 have hp:0 < B9 * m:=Nat.mul_pos dE (Nat.pos_of_ne_zero hm)
 have e:i7 (d+B9 * m)=(j8 (d+10 ^ 9 * m)).reverse.map (fun d=>UInt8.ofNat (48+d)):=by unfold i7;rw [if_neg oM,hB]
 rw [e,b9f hm 9 d hd]
 have e2:i7 m=(j8 m).reverse.map (fun d=>UInt8.ofNat (48+d)):=by unfold i7;rw [if_neg hm]
 rw [e2]
 simp only [List.reverse_append,List.map_append,List.reverse_replicate,List.map_replicate]
 by_cases h0:d=0
 ·subst h0;rw [A4];simp;decide
 ·have e3:i7 d=(j8 d).reverse.map (fun d=>UInt8.ofNat (48+d)):=by unfold i7;rw [if_neg h0]
  rw [e3];simp
end LQ
