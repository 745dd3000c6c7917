/- Limbs of nine digits: no program in sight. -/
import Derived.Test.YtffaodopiifbkaaGreatDoorCP
set_option linter.all false
namespace LQ
def B9:Nat:=1000000000
def n8 (n:Nat):List Nat:=if h:n=0 then [] else n % B9 :: n8 (n / B9)
termination_by n
decreasing_by exact Nat.div_lt_self (Nat.pos_of_ne_zero h) dE
def n6:List Nat→Nat
 | []=>0
 | d :: t=>d+B9 * n6 t
def LB (l:List Nat):Prop:=∀ d ∈ l,d < B9
theorem F3:n8 0=[]:=by rw [n8];simp
theorem Y1 {n:Nat} (h:n ≠ 0):n8 n=n % B9 :: n8 (n / B9):=by rw [n8,dif_neg h]
theorem F2 (n:Nat):n6 (n8 n)=n:=by
 induction n using Nat.strongRecOn with
 | _ n ih =>
  by_cases h:n=0
  ·subst h;rw [F3];rfl
  ·rw [Y1 h,n6,ih (n / B9) (Nat.div_lt_self (Nat.pos_of_ne_zero h) dE)]
   unfold B9;omega
theorem L7 (n:Nat):LB (n8 n):=by
 induction n using Nat.strongRecOn with
 | _ n ih =>
  by_cases h:n=0
  ·subst h;rw [F3];intro d hd;simp at hd
  ·rw [Y1 h];intro d hd;simp at hd
   rcases hd with rfl | hd
   ·exact Nat.mod_lt _ dE
   ·exact ih (n / B9) (Nat.div_lt_self (Nat.pos_of_ne_zero h) dE) d hd
theorem c14 {d m:Nat} (hd:d < B9) (h:d ≠ 0∨m ≠ 0):n8 (d+B9 * m)=d :: n8 m:=by
 unfold B9 at hd
 rw [Y1 (by unfold B9;omega)];congr 1
 ·unfold B9;omega
 ·congr 1;unfold B9;omega
theorem Q0 (a b:List Nat):n6 (a ++ b)=n6 a+B9 ^ a.length * n6 b:=by
 induction a with
 | nil=>simp [n6]
 | cons d t ih=>simp only [List.cons_append,n6,ih,List.length_cons,Nat.pow_succ];rw [Nat.mul_add,← Nat.mul_assoc,Nat.mul_comm (B9 ^ t.length) B9];omega
theorem d71 (t:List Nat) (d:Nat) (h9:LB (t ++ [d])) (hd:d ≠ 0):n8 (n6 (t ++ [d]))=t ++ [d]:=by
 induction t with
 | nil =>
  have:d < B9:=h9 d (by simp)
  simp only [List.nil_append,n6]
  rw [c14 this (.inl hd),F3]
 | cons x t ih =>
  simp only [List.cons_append,n6]
  rw [c14 (h9 x (by simp)),ih (fun y hy=>h9 y (by simp at hy ⊢;exact .inr hy))]
  refine .inr fun h0=>hd ?_
  have h2:=Q0 t [d]
  rw [h0] at h2
  simp only [n6] at h2
  have h3:0 < B9 ^ t.length:=Nat.pow_pos dE
  rw [Nat.mul_zero,Nat.add_zero] at h2
  have h4:B9 ^ t.length * d=0:=oM
  rcases Nat.mul_eq_zero.1 h4 with h | h <;> omega
theorem d3d (l:List Nat) (h9:LB l) (n:Nat) (hn:n≤l.length):l.take (Q4 l n)=n8 (n6 (l.take n)):=by
 induction n with
 | zero=>simp [Q4,n6,F3]
 | succ n ih =>
  have hlt:n < l.length:=oM
  have htk:l.take (n+1)=l.take n ++ [l.getD n 0]:=by
   rw [List.take_succ_eq_append_getElem hlt];simp [List.getD,hlt]
  simp only [Q4]
  split
  ·rename_i h0
   rw [ih oM,htk,h0,Q0]
   simp [n6]
  ·rename_i h0
   rw [htk,d71 _ _ _ h0]
   intro d hd
   rw [← htk] at hd
   exact h9 d (List.mem_of_mem_take hd)
theorem a03 (l:List Nat) (h9:LB l):E0 l=n8 (n6 l):=by
 unfold E0;rw [d3d l h9 l.length (Nat.le_refl _),List.take_length]
theorem V2 (l:List Nat) (h9:LB l):n6 l < B9 ^ l.length:=by
 induction l with
 | nil=>simp [n6]
 | cons d t ih =>
  have h1:=ih (fun x hx=>h9 x (by simp [hx]))
  have h2:d < B9:=h9 d (by simp)
  simp only [n6,List.length_cons,Nat.pow_succ]
  unfold B9 at *
  omega
theorem c3i (n:Nat) (h:n ≠ 0):B9 ^ ((n8 n).length - 1)≤n:=by
 induction n using Nat.strongRecOn with
 | _ n ih =>
  rw [Y1 h]
  simp only [List.length_cons,Nat.add_sub_cancel]
  by_cases h1:n / B9=0
  ·rw [h1,F3];simp;omega
  ·have:=ih (n / B9) (Nat.div_lt_self (Nat.pos_of_ne_zero h) dE) h1
   have h2:(n8 (n / B9)).length ≠ 0:=by rw [Y1 h1];simp
   have h3:B9 ^ (n8 (n / B9)).length=B9 * B9 ^ ((n8 (n / B9)).length - 1):=by
    rw [← Nat.pow_succ'];congr 1;omega
   rw [h3]
   have h4:=Nat.mul_le_mul_left B9 this
   have h5:B9 * (n / B9)≤n:=Nat.mul_div_le n B9
   omega
theorem c2y (a b:List Nat) (ha:LB a) (hb:LB b) (n:Nat) (hna:n≤a.length) (hnb:n≤b.length) :
  F0 a b n=if n6 (a.take n) < n6 (b.take n) then -1 else if n6 (b.take n) < n6 (a.take n) then 1 else 0:=by
 induction n with
 | zero=>simp [F0,n6]
 | succ n ih =>
  have hla:n < a.length:=oM
  have hlb:n < b.length:=oM
  have e1:a.take (n+1)=a.take n ++ [a.getD n 0]:=by rw [List.take_succ_eq_append_getElem hla];simp [List.getD,hla]
  have e2:b.take (n+1)=b.take n ++ [b.getD n 0]:=by rw [List.take_succ_eq_append_getElem hlb];simp [List.getD,hlb]
  have v1:=Q0 (a.take n) [a.getD n 0]
  have v2:=Q0 (b.take n) [b.getD n 0]
  have l1:(a.take n).length=n:=by simp;omega
  have l2:(b.take n).length=n:=by simp;omega
  have b1:=V2 (a.take n) (fun d hd=>ha d (List.mem_of_mem_take hd))
  have b2:=V2 (b.take n) (fun d hd=>hb d (List.mem_of_mem_take hd))
  rw [l1] at v1 b1
  rw [l2] at v2 b2
  simp only [n6,Nat.mul_zero,Nat.add_zero] at v1 v2
  rw [e1,e2,v1,v2]
  simp only [F0]
  rw [ih oM oM]
  generalize a.getD n 0=x at *
  generalize b.getD n 0=y at *
  generalize n6 (a.take n)=p at *
  generalize n6 (b.take n)=q at *
  generalize B9 ^ n=P at *
  by_cases h1:x < y
  ·have:P * (x+1)≤P * y:=Nat.mul_le_mul_left P h1
   rw [Nat.mul_add,Nat.mul_one] at this
   rw [if_pos h1,if_pos oM]
  ·rw [if_neg h1]
   by_cases h2:y < x
   ·have:P * (y+1)≤P * x:=Nat.mul_le_mul_left P h2
    rw [Nat.mul_add,Nat.mul_one] at this
    rw [if_pos h2,if_neg oM,if_pos oM]
   ·rw [if_neg h2]
    have h3:x=y:=oM
    subst h3
    simp only [Nat.add_lt_add_iff_right]
theorem c2n (x y:Nat):P0 (n8 x) (n8 y)=if x < y then -1 else if y < x then 1 else 0:=by
 unfold P0
 split
 ·rename_i h
  rw [c2y _ _ (L7 x) (L7 y) _ (Nat.le_refl _) oM,List.take_length,h,List.take_length,F2,F2]
 ·rename_i h
  have b1:=V2 (n8 x) (L7 x)
  have b2:=V2 (n8 y) (L7 y)
  rw [F2] at b1 b2
  split
  ·rename_i h2
   have hy:y ≠ 0:=by intro e;rw [e,F3] at h2;simp at h2
   have g2:=c3i y hy
   have:B9 ^ (n8 x).length≤B9 ^ ((n8 y).length - 1):=Nat.pow_le_pow_right dE oM
   rw [if_pos oM]
  ·rename_i h2
   have hx:x ≠ 0:=by intro e;rw [e,F3] at h h2;simp only [List.length_nil] at h h2;omega
   have g1:=c3i x hx
   have:B9 ^ (n8 y).length≤B9 ^ ((n8 x).length - 1):=Nat.pow_le_pow_right dE oM
   rw [if_neg oM,if_pos oM]
theorem b7o {a b:Nat} (h:n8 a=n8 b):a=b:=by rw [← F2 a,h,F2]
theorem a8e {n k:Nat} (h:n < B9 ^ k):(n8 n).length≤k:=by
 by_cases h0:n=0
 ·subst h0;simp [F3]
 ·have h1:=c3i n h0
  by_cases h2:(n8 n).length≤k
  ·exact h2
  ·have:B9 ^ k≤B9 ^ ((n8 n).length - 1):=Nat.pow_le_pow_right dE oM
   omega
theorem d7k (x r:Nat) (hx:x < B9):E0 (x :: n8 r)=n8 (x+B9 * r):=by
 rw [a03]
 ·simp only [n6,F2]
 ·intro d hd
  rcases List.mem_cons.1 hd with rfl | hd
  ·exact hx
  ·exact L7 r d hd
theorem d2e (l:List Nat) (i:Nat) (h:i < l.length):n6 (l.drop i)=l.getD i 0+B9 * n6 (l.drop (i+1)):=by
 rw [List.drop_eq_getElem_cons h];simp [n6,List.getD,h]
theorem b77 (l:List Nat) (i:Nat) (h:i < l.length):n6 (l.take (i+1))=n6 (l.take i)+B9 ^ i * l.getD i 0:=by
 have e:l.take (i+1)=l.take i ++ [l.getD i 0]:=by rw [List.take_succ_eq_append_getElem h];simp [List.getD,h]
 rw [e,Q0]
 have:(l.take i).length=i:=by simp;omega
 rw [this];simp [n6]
theorem c3p (l:List Nat) (i x:Nat) (h:i < l.length):n6 (l.set i x)+B9 ^ i * l.getD i 0=n6 l+B9 ^ i * x:=by
 induction l generalizing i with
 | nil=>simp at h
 | cons d t ih =>
  cases i with
  | zero=>simp [n6,List.getD];omega
  | succ i =>
   have:=ih i (by simpa using h)
   simp only [List.set_cons_succ,n6,Nat.pow_succ,List.getD_cons_succ]
   have e1:B9 ^ i * B9 * t.getD i 0=B9 * (B9 ^ i * t.getD i 0):=by rw [Nat.mul_comm (B9 ^ i) B9,Nat.mul_assoc]
   have e2:B9 ^ i * B9 * x=B9 * (B9 ^ i * x):=by rw [Nat.mul_comm (B9 ^ i) B9,Nat.mul_assoc]
   rw [e1,e2]
   have e3:B9 * (n6 (t.set i x)+B9 ^ i * t.getD i 0)=B9 * (n6 t+B9 ^ i * x):=by rw [this]
   rw [Nat.mul_add,Nat.mul_add] at e3
   omega
theorem a3j {l:List Nat} (h:LB l) (i x:Nat) (hx:x < B9):LB (l.set i x):=fun d hd=>by
 rcases List.mem_or_eq_of_mem_set hd with h1 | rfl
 ·exact h d h1
 ·exact hx
theorem a41 {l:List Nat} (h:LB l) (i:Nat):l.getD i 0 < B9:=by
 by_cases hi:i < l.length
 ·simp only [List.getD,List.getElem?_eq_getElem hi,Option.getD_some];exact h _ (List.getElem_mem hi)
 ·simp only [List.getD,List.getElem?_eq_none (Nat.le_of_not_lt hi),Option.getD_none];decide
theorem d0m (n:Nat):n6 (List.replicate n 0)=0:=by
 induction n with
 | zero=>rfl
 | succ n ih=>simp [List.replicate_succ,n6,ih]
def z8 (s:j0):Nat:=w7 s 0 0
theorem c5q (a b:j0) (k acc:Nat) (hk:k≤a.length):w7 (a ++ b) k acc=w7 b 0 (w7 a k acc):=by
 fun_induction w7 a k acc with
 | case1 k acc h ih =>
  rw [w7,if_pos (by simp;omega),← ih oM]
  congr 2
  have:bt (a ++ b) k=bt a k:=by unfold bt;simp [List.getD,List.getElem?_append_left h]
  rw [this]
 | case2 k acc h =>
  have hk':k=a.length:=oM
  subst hk'
  clear h hk
  have:∀ (j acc:Nat),w7 (a ++ b) (a.length+j) acc=w7 b j acc:=by
   intro j acc
   fun_induction w7 b j acc with
   | case1 j acc h ih =>
    rw [w7,if_pos (by simp;omega),← ih,Nat.add_assoc]
    congr 2
    have:bt (a ++ b) (a.length+j)=bt b j:=by unfold bt;simp only [List.getD];rw [List.getElem?_append_right (Nat.le_add_right _ _),Nat.add_sub_cancel_left]
    rw [this]
   | case2 j acc h=>rw [w7,if_neg (by simp;omega)]
  exact this 0 acc
theorem b9k (a b:j0):z8 (a ++ b)=z8 a * 10 ^ b.length+z8 b:=by
 unfold z8
 rw [c5q a b 0 0 (Nat.zero_le _),c5i b 0 _ (Nat.zero_le _)];simp
theorem b45 (c:UInt8) (s:j0):z8 (c :: s)=(bt [c] 0 - 48).toNat * 10 ^ s.length+z8 s:=by
 rw [show c :: s=[c] ++ s from rfl,b9k]
 congr 2
 unfold z8
 rw [w7,if_pos (by simp),w7,if_neg (by simp)];omega
theorem c2r (s:j0) (h:∀ j,j < s.length→48≤bt s j∧bt s j≤57):z8 s < 10 ^ s.length:=by
 induction s with
 | nil=>unfold z8;rw [w7,if_neg (by simp)];simp
 | cons c s ih =>
  rw [b45,List.length_cons,Nat.pow_succ]
  have h0:=h 0 (by simp)
  have e:bt [c] 0=bt (c :: s) 0:=rfl
  have:=ih fun j hj=>by have:=h (j+1) (by simpa using hj);rwa [a05] at this
  have h1:(bt [c] 0 - 48).toNat≤9:=by rw [e];omega
  have:=Nat.mul_le_mul_right (10 ^ s.length) h1
  omega
theorem d41 (s:j0) (e k:Nat) (hk:k≤s.length) (h:∀ j,e≤j→j < k→48≤bt s j∧bt s j≤57) :
  (w6 s e k []).reverse.map (fun d=>UInt8.ofNat (48+d))=(s.take k).drop e:=by
 induction k with
 | zero=>simp [w6]
 | succ k ih =>
  by_cases he:e≤k
  ·rw [a5h s e k he,List.reverse_cons,List.map_append,ih oM (fun j h1 h2=>h j h1 oM)]
   have hlt:k < s.length:=oM
   rw [List.take_succ_eq_append_getElem hlt,List.drop_append_of_le_length (by simp;omega)]
   congr 1
   have:=h k he oM
   have hb:bt s k=(s[k].toNat:Int):=by unfold bt;simp [List.getD,List.getElem?_eq_getElem hlt]
   rw [hb] at this ⊢
   simp only [List.map_cons,List.map_nil,List.cons.injEq,and_true]
   apply UInt8.toNat_inj.1
   rw [UInt8.toNat_ofNat']
   have:=s[k].toNat_lt
   omega
  ·rw [w6,if_neg he,List.drop_eq_nil_of_le (by simp;omega)];rfl
theorem d10 {s:j0} (h1:z6 s=true) (h2:s ≠ x6):j4 s < s.length∧bt s (j4 s) ≠ 48∧(∀ j,j4 s≤j→j < s.length→48≤bt s j∧bt s j≤57) ∧
  w6 s (j4 s) s.length []=j8 (i7 s).natAbs∧(i7 s).natAbs ≠ 0∧(j4 s=1↔i7 s < 0):=by
 have h3:j4 s < s.length∧bt s (j4 s) ≠ 48∧m7 s (j4 s)=s.length:=by
  simp [z6,h2] at h1;exact ⟨h1.1.1,h1.1.2,h1.2⟩
 have hall:∀ j,j4 s≤j→j < s.length→48≤bt s j∧bt s j≤57:=fun j a b=>Y7 s (j4 s) j a oM
 have e:=b2d s
 unfold Z7 at e
 rw [if_pos ⟨h1,h2⟩] at e
 injection e with e1 e2
 obtain ⟨t,ht⟩:=c23 s (j4 s) s.length h3.1
 refine ⟨h3.1,h3.2.1,hall,e2,fun h0=>?_,by simpa using e1⟩
 rw [h0,y6,ht] at e2
 simp at e2
theorem d1c {s:j0} (h:j4 s=1):s=45 :: s.drop 1:=by
 unfold j4 at h
 split at h
 ·rename_i hh
  cases s with
  | nil=>simp at hh
  | cons c s =>
   have:(c.toNat:Int)=45:=hh.2
   simp only [List.drop_succ_cons,List.drop_zero,List.cons.injEq,and_true]
   exact UInt8.toNat_inj.1 (by show c.toNat=45;omega)
 ·omega
theorem d7m {s:j0} (h:z6 s=true):j6 (i7 s)=s:=by
 by_cases h2:s=x6
 ·subst h2;rw [a7n];decide
 ·obtain ⟨q1,q2,q3,q4,q5,q6⟩:=d10 h h2
  have ht:=d41 s (j4 s) s.length (Nat.le_refl _) q3
  rw [q4,List.take_length] at ht
  have e:j5 (i7 s).natAbs=s.drop (j4 s):=by unfold j5;rw [if_neg q5];exact ht
  unfold j6
  rw [e]
  by_cases hs:j4 s=1
  ·rw [if_pos (q6.1 hs),hs];exact (d1c hs).symm
  ·rw [if_neg (fun k=>hs (q6.2 k))]
   have:j4 s=0:=by have:=K5 s;omega
   rw [this];rfl
theorem c0n (n:Nat):z6 (j5 n)=true:=by
 by_cases h:n=0
 ·subst h;decide
 ·obtain ⟨h1,h2,h3⟩:=a2p n h
  have hsg0:j4 (j5 n)=0:=by unfold j4;rw [if_neg];have:=h1 0 (Nat.le_refl _) h3;omega
  unfold z6
  rw [hsg0,U9 _ 0 (Nat.zero_le _) h1]
  simp [h2];right;omega
def J8 (s:j0):j0:=if z6 s then s else x6
theorem a02 (s:j0):J8 s=j6 (i7 s):=by
 unfold J8
 split
 ·rename_i h;exact (d7m h).symm
 ·rename_i h
  have:i7 s=0:=by unfold i7;rw [if_neg h]
  rw [this];decide
theorem a2q (n:Nat):j6 (n:Int)=j5 n:=by unfold j6;rw [if_neg oM];rfl
def d68 (s:j0):j0:=j6 (-i7 s)
theorem a2y (a b:Int) (hb:0 < b):s7 (j6 a) (j6 b)=(j6 (a / (Nat.gcd a.natAbs b.natAbs:Int)),j6 (b / (Nat.gcd a.natAbs b.natAbs:Int))):=by
 unfold s7
 rw [x7,x7,if_neg oM]
 simp only []
 have hg:0 < Nat.gcd a.natAbs b.natAbs:=Nat.gcd_pos_of_pos_right _ oM
 have hd1:=Nat.gcd_dvd_left a.natAbs b.natAbs
 have hd2:=Nat.gcd_dvd_right a.natAbs b.natAbs
 generalize Nat.gcd a.natAbs b.natAbs=g at *
 have e2:b / (g:Int)=((b.natAbs / g:Nat):Int):=by
  conv=>lhs;rw [show b=(b.natAbs:Int) by omega]
  rfl
 have e1:a / (g:Int)=(if (a < 0)=(b < 0) then 1 else -1) * ((a.natAbs / g:Nat):Int):=by
  obtain ⟨k,hk⟩:=hd1
  rw [hk,Nat.mul_div_cancel_left _ hg]
  by_cases h:a < 0
  ·rw [if_neg (by simp [h];omega)]
   have:a=(g:Int) * (-(k:Int)):=by
    have:((a.natAbs:Nat):Int)=(g:Int) * (k:Int):=by rw [hk];simp
    rw [Int.mul_neg];omega
   rw [this,Int.mul_ediv_cancel_left _ oM];omega
  ·rw [if_pos (by simp [h];omega)]
   have:a=(g:Int) * (k:Int):=by
    have:((a.natAbs:Nat):Int)=(g:Int) * (k:Int):=by rw [hk];simp
    omega
   rw [this,Int.mul_ediv_cancel_left _ oM];omega
 rw [e1,e2,a2q]
def At (s:j0) (i:Nat) (w r:j0):Prop:=s.drop i=w ++ r
theorem At.bt {s w r:j0} {i j:Nat} (h:At s i w r) (hj:j < w.length):LQ.bt s (i+j)=LQ.bt w j:=by
 unfold LQ.bt
 have:s[i+j]?=w[j]?:=by rw [← List.getElem?_drop,h,List.getElem?_append_left hj]
 simp only [List.getD,this]
theorem At.btr {s w r:j0} {i j:Nat} (h:At s i w r):LQ.bt s (i+w.length+j)=LQ.bt r j:=by
 unfold LQ.bt
 have:s[i+w.length+j]?=r[j]?:=by rw [Nat.add_assoc,← List.getElem?_drop,h,List.getElem?_append_right (Nat.le_add_right _ _),Nat.add_sub_cancel_left]
 simp only [List.getD,this]
def Del (r:j0):Prop:=r=[]∨bt r 0=32∨bt r 0=41∨bt r 0=10
def a5o (l:j0):List Int:=l.map fun b=>(b.toNat:Int)
theorem b9p (l:j0):D5 (a5o l)=l:=by
 unfold D5 a5o
 rw [List.map_map]
 conv=>rhs;rw [← List.map_id l]
 exact List.map_congr_left fun b _=>by simp
theorem R5 {s:j0} {i j:Nat} (hi:i≤s.length) (h:skip s i=some j):i≤j∧j≤s.length:=by
 fun_induction skip s i with
 | case1 i h1 h2 ih=>have:=ih oM h;omega
 | case2 i h1 h2 h3 h4 ih=>have:=a30 s i oM;have:=ih oM h;omega
 | case3 i h1 h2 h3 h4=>injection h with h;omega
 | case4 i h1 h2 h3 h4 h5=>cases h
 | case5 i h1 h2 h3 h4 j' h5 h6 ih=>have:=P9 h4;have:=b1f s (i+2) 1 j' oM h5;have:=ih oM h;omega
 | case6 i h1 h2 h3 h4 j' h5 h6=>injection h with h;omega
 | case7 i h1 h2 h3 h4=>injection h with h;omega
 | case8 i h1=>injection h with h;omega
theorem b7g {s:j0} {c:Int} {i:Nat} {acc l:List Int} {j:Nat} (h:C1 s c i acc=.ok (l,j)):i < j∧j≤s.length:=by
 fun_induction C1 s c i acc with
 | case1 i acc h1 h2=>injection h with h;injection h with h3 h4;omega
 | case2 i acc h1 h2 h3 ih=>have:=ih h;omega
 | case3=>cases h
 | case4 i acc h1 h2 h3 h4 h5 ih=>have:=ih h;omega
 | case5=>cases h
 | case6=>cases h
theorem X5 {s:j0} {i k:Nat} {t:y3} (hi:i < s.length) (h:B3 s i=.ok (t,k)):i < k∧k≤s.length:=by
 unfold B3 at h
 repeat' split at h
 all_goals try (cases h;done)
 all_goals try (injection h with h;injection h with h1 h2;subst h2;omega)
 all_goals try (rename_i h0 _;have:=b7g h0;injection h with h;injection h with h1 h2;subst h2;omega)
 ·rename_i hc _
  have hw:=E5 s i oM
  have hw2:i < n7 s i:=by rw [n7,if_pos hi,if_pos hc];have:=E5 s (i+1) oM;omega
  unfold K4 at h
  repeat' split at h
  all_goals try (cases h;done)
  all_goals try (rename_i h0 _;have:=b7g h0;injection h with h;injection h with h1 h2;subst h2;omega)
  all_goals (simp only [] at h;split at h;all_goals try (cases h;done)
             all_goals (injection h with h;injection h with h1 h2;have:=E5 s (n7 s i+2) oM;subst h2;omega))
 ·rename_i hc _
  have hw:=E5 s i oM
  have hw2:i < n7 s i:=by rw [n7,if_pos hi,if_pos hc];have:=E5 s (i+1) oM;omega
  unfold G1 at h
  repeat' split at h
  all_goals try (cases h;done)
  all_goals try (simp only [] at h;split at h)
  all_goals try (cases h;done)
  all_goals (injection h with h;injection h with h1 h2;subst h2;omega)
theorem Y5 {s:j0} {i:Nat} {acc:List y3} (hi:i≤s.length):D7 s i acc=match skip s i with
  | none=>.error (11,s.length)
  | some j=>if j < s.length then match B3 s j with
   | .error e=>.error e
   | .ok (t,k)=>D7 s k (acc ++ [t])
   else .ok (acc ++ [⟨0,s.length,u4,u4,u4⟩]):=by
 rw [D7]
 cases hs:skip s i with
 | none=>rfl
 | some j =>
  have h1:=R5 hi hs
  simp only
  by_cases hj:j < s.length
  ·rw [if_pos hj,if_pos hj]
   cases ht:B3 s j with
   | error e=>rfl
   | ok p =>
    have h2:=X5 (t:=p.1) (k:=p.2) hj ht
    simp only
    rw [if_pos oM]
  ·rw [if_neg hj,if_neg hj]
def e6k (w:j0):Prop:=∀ j,j < w.length→48≤bt w j∧bt w j≤57
theorem a09 (n:Nat):e6k (j5 n):=by
 by_cases h:n=0
 ·subst h;intro j hj;have:j=0:=by simp [j5,x6] at hj;omega
  subst this;decide
 ·exact fun j hj=>(a2p n h).1 j (Nat.zero_le _) hj
theorem c9r (n:Nat):j5 n ≠ []:=by
 by_cases h:n=0
 ·subst h;decide
 ·intro e;have:=(a2p n h).2.2;rw [e] at this;simp at this
theorem a0d (n:Nat):0 < (j5 n).length:=List.length_pos_iff.2 (c9r n)
theorem d2d {s w r:j0} {i:Nat} (h:At s i w r) (hw:e6k w) (hr:r=[]∨¬(48≤bt r 0∧bt r 0≤57)):m7 s i=i+w.length:=by
 have key:∀ n j,w.length - j=n→j≤w.length→m7 s (i+j)=i+w.length:=by
  intro n
  induction n with
  | zero =>
   intro j hj hle
   have:j=w.length:=oM
   subst this
   rw [m7]
   split
   ·rename_i hlt
    have hb:=h.btr (j:=0)
    rw [Nat.add_zero] at hb
    rcases hr with hr | hr
    ·exfalso
     subst hr
     have:=congrArg List.length h
     simp at this;omega
    ·rw [if_neg];rw [hb];simp [P5];omega
   ·rfl
  | succ n ih =>
   intro j hj hle
   have hlt:i+j < s.length:=by
    have:=congrArg List.length h
    simp at this;omega
   have:=hw j oM
   rw [m7,if_pos hlt,if_pos (by rw [h.bt oM];simp [P5];omega),Nat.add_assoc]
   exact ih (j+1) oM oM
 exact key _ 0 rfl (Nat.zero_le _)
def sgn (n:Int):j0:=if n < 0 then [45] else []
theorem a32 (n:Int):j6 n=sgn n ++ j5 n.natAbs:=by unfold j6 sgn;split <;> rfl
theorem c5d (n:Int) (d:Nat) (r:j0):j4 (sgn n ++ (j5 d ++ r))=(sgn n).length:=by
 unfold sgn
 split
 ·unfold j4;rw [if_pos ⟨by simp,rfl⟩];rfl
 ·unfold j4
  rw [if_neg];· rfl
  intro h
  have h0:=(a09 d) 0 (a0d d)
  have:bt ([] ++ (j5 d ++ r)) 0=bt (j5 d) 0:=by
   have h1:At (j5 d ++ r) 0 (j5 d) r:=rfl
   have:=h1.bt (j:=0) (a0d d)
   simpa using this
  rw [this] at h
  omega
theorem c1r {s:j0} {i:Nat} (h:¬(i < s.length∧bt s i=48)):A0 s i=i:=by
 rw [A0]
 split
 ·rw [if_neg (fun k=>h ⟨‹_›,k⟩)]
 ·rfl
theorem b3a (n:Nat):E8 (j5 n)=(j5 n).length:=by
 unfold E8
 rw [C4,Int.natAbs_natCast]
 by_cases h:n=0
 ·subst h;simp [y6,j5,x6]
 ·rw [← O1 n h];have:=a0d n;omega
theorem c5t (n:Int):E8 (j6 n)=(j5 n.natAbs).length:=by
 have:=b3a n.natAbs
 unfold E8 at this ⊢
 rw [C4,Int.natAbs_natCast] at this
 rw [x7,this]
theorem c6k (n:Int) (d:Nat) (hd:0 < d) (hg:Nat.gcd n.natAbs d=1):s7 (j6 n) (j5 d)=(j6 n,j5 d):=by
 have:=a2y n d oM
 rw [Int.natAbs_natCast,hg] at this
 rw [← a2q,this];simp
structure Pre (s t:j0):Prop where
 le:s.length≤t.length
 bt:∀ i,i < s.length→bt t i=bt s i
 pos:0 < s.length
 last:LQ.bt s (s.length - 1)=32
 tk:t.take s.length=s
section
variable {s t:j0} (P:Pre s t)
include P
end
theorem c3z {s:j0} {c:Int} {i:Nat} {acc:List Int} {e p} (hi:i≤s.length) (h:C1 s c i acc=.error (e,p)):p≤s.length:=by
 fun_induction C1 s c i acc with
 | case1=>cases h
 | case2 i acc h1 h2 h3 ih=>exact ih oM h
 | case3 i acc h1 h2 h3 h4 h5=>injection h with h;injection h with h1 h2;omega
 | case4 i acc h1 h2 h3 h4 h5 ih=>exact ih oM h
 | case5=>injection h with h;injection h with h1 h2;omega
 | case6=>injection h with h;injection h with h1 h2;omega
theorem c8f {s:j0} {i:Nat} {e p} (hi:i < s.length) (h:B3 s i=.error (e,p)):p≤s.length:=by
 unfold B3 at h
 repeat' split at h
 all_goals try (cases h;done)
 all_goals try (injection h with h;injection h with h1 h2;omega)
 all_goals try (rename_i h0;injection h with h;subst h;exact c3z oM h0)
 ·have hw:=E5 s i oM
  unfold K4 at h
  repeat' split at h
  all_goals try (cases h;done)
  all_goals try (injection h with h;injection h with h1 h2;omega)
  all_goals try (rename_i h0;injection h with h;subst h;exact c3z oM h0)
  all_goals (simp only [] at h;split at h;all_goals first | (cases h;done) | (injection h with h;injection h with h1 h2;omega))
 ·unfold G1 at h
  repeat' split at h
  all_goals try (cases h;done)
  all_goals try (simp only [] at h;split at h)
  all_goals try (cases h;done)
  all_goals (injection h with h;injection h with h1 h2;omega)
theorem c33 {s:j0} {i:Nat} {acc:List y3} {e p} (hi:i≤s.length) (h:D7 s i acc=.error (e,p)):p≤s.length:=by
 generalize hm:s.length - i=m
 induction m using Nat.strongRecOn generalizing i acc with
 | _ m ih =>
  rw [Y5 hi] at h
  cases hs:skip s i with
  | none=>rw [hs] at h;injection h with h;injection h with h1 h2;omega
  | some j =>
   have hj:=R5 hi hs
   rw [hs] at h
   simp only at h
   by_cases hlt:j < s.length
   ·rw [if_pos hlt] at h
    cases ht:B3 s j with
    | error x=>rw [ht] at h;injection h with h;subst h;exact c8f hlt ht
    | ok x =>
     obtain ⟨tk,k⟩:=x
     rw [ht] at h
     have hk:=X5 hlt ht
     exact ih _ oM oM h rfl
   ·rw [if_neg hlt] at h;cases h
end LQ
namespace LQ
open Go
theorem b2r:∀ n:Nat,Lib.decDigits n=j5 n:=by
 intro n
 induction n using Nat.strongRecOn with
 | _ n ih =>
  unfold Lib.decDigits
  by_cases h:n < 10
  ·simp only [h,dite_true,if_true]
   by_cases h0:n=0
   ·subst h0;rfl
   ·unfold j5
    rw [if_neg h0,F4 h0,show n / 10=0 by omega,y6,Nat.mod_eq_of_lt h]
    rfl
  ·simp only [h,dite_false,if_false]
   rw [ih (n / 10) oM]
   have h1:¬n / 10=0:=oM
   have h0:¬n=0:=oM
   unfold j5
   rw [if_neg h1,if_neg h0,F4 h0,List.reverse_cons,List.map_append]
   rfl
theorem itoa_showNat (n:Nat):Lib.itoa (n:Int)=j5 n:=by
 unfold Lib.itoa
 rw [if_neg oM,b2r,show ((n:Int)).toNat=n by omega]
theorem c8l {n k:Nat} (h:n < 10 ^ k):(j8 n).length≤k:=by
 induction k generalizing n with
 | zero=>rw [show n=0 by simpa using h,y6];simp
 | succ k ih =>
  by_cases h0:n=0
  ·rw [h0,y6];simp
  ·rw [F4 h0,List.length_cons]
   have:=ih (n:=n / 10) (by rw [Nat.pow_succ] at h;omega)
   omega
theorem b5q {m:Nat} (hm:m ≠ 0):∀ (k d:Nat),d < 10 ^ k→j8 (d+10 ^ k * m)=j8 d ++ (List.replicate (k - (j8 d).length) 0 ++ j8 m)
 | 0,d,h=>by
  have:d=0:=by simpa using h
  subst this
  simp [y6]
 | k+1,d,h=>by
  have h':d / 10 < 10 ^ k:=by rw [Nat.pow_succ] at h;omega
  have e1:d+10 ^ (k+1) * m=d+10 * (10 ^ k * m):=by rw [Nat.pow_succ,Nat.mul_comm (10 ^ k) 10,Nat.mul_assoc]
  have hp:0 < 10 ^ k * m:=Nat.mul_pos (Nat.pow_pos dE) (Nat.pos_of_ne_zero hm)
  rw [e1,F4 oM,show (d+10 * (10 ^ k * m)) % 10=d % 10 by omega,show (d+10 * (10 ^ k * m)) / 10=d / 10+10 ^ k * m by omega,b5q hm k (d / 10) h']
  by_cases h0:d=0
  ·subst h0;simp [y6,List.replicate_succ]
  ·rw [F4 h0,List.length_cons,List.cons_append,show k+1 - ((j8 (d / 10)).length+1)=k - (j8 (d / 10)).length by omega]
theorem showNat_len9 {n:Nat} (h:n < 1000000000):(j5 n).length≤9:=by
 by_cases h0:n=0
 ·subst h0;decide
 ·unfold j5;rw [if_neg h0];simpa using c8l (k:=9) h
theorem c0j {m d:Nat} (hm:m ≠ 0) (hd:d < 1000000000):j5 (d+B9 * m)=j5 m ++ (List.replicate (9 - (j5 d).length) 48 ++ j5 d):=by
 have hB:B9=10 ^ 9:=rfl
 have hp:0 < B9 * m:=Nat.mul_pos dE (Nat.pos_of_ne_zero hm)
 have e:j5 (d+B9 * m)=(j8 (d+10 ^ 9 * m)).reverse.map (fun d=>UInt8.ofNat (48+d)):=by unfold j5;rw [if_neg oM,hB]
 rw [e,b5q hm 9 d hd]
 have e2:j5 m=(j8 m).reverse.map (fun d=>UInt8.ofNat (48+d)):=by unfold j5;rw [if_neg hm]
 rw [e2]
 simp only [List.reverse_append,List.map_append,List.reverse_replicate,List.map_replicate]
 by_cases h0:d=0
 ·subst h0;rw [y6];simp;decide
 ·have e3:j5 d=(j8 d).reverse.map (fun d=>UInt8.ofNat (48+d)):=by unfold j5;rw [if_neg h0]
  rw [e3];simp
end LQ
