/- Limbs of nine digits: no program in sight. -/
import Derived.Test.YtdldcfllnohkeaaGreatDoorCP
set_option linter.all false
namespace LQ
def B9:Nat:=1000000000
def m9 (n:Nat):List Nat:=if h:n=0 then [] else n % B9 :: m9 (n / B9)
termination_by n
decreasing_by exact Nat.div_lt_self (Nat.pos_of_ne_zero h) dE
def m7:List Nat→Nat
 | []=>0
 | d :: t=>d+B9 * m7 t
def LB (l:List Nat):Prop:=∀ d ∈ l,d < B9
theorem H5:m9 0=[]:=by rw [m9];simp
theorem a03 {n:Nat} (h:n ≠ 0):m9 n=n % B9 :: m9 (n / B9):=by rw [m9,dif_neg h]
theorem H6 (n:Nat):m7 (m9 n)=n:=by
 induction n using Nat.strongRecOn with
 | _ n ih =>
  by_cases h:n=0
  ·subst h;rw [H5];rfl
  ·rw [a03 h,m7,ih (n / B9) (Nat.div_lt_self (Nat.pos_of_ne_zero h) dE)]
   unfold B9;omega
theorem Q1 (n:Nat):LB (m9 n):=by
 induction n using Nat.strongRecOn with
 | _ n ih =>
  by_cases h:n=0
  ·subst h;rw [H5];intro d hd;simp at hd
  ·rw [a03 h];intro d hd;simp at hd
   rcases hd with rfl | hd
   ·exact Nat.mod_lt _ dE
   ·exact ih (n / B9) (Nat.div_lt_self (Nat.pos_of_ne_zero h) dE) d hd
theorem c6q {d m:Nat} (hd:d < B9) (h:d ≠ 0∨m ≠ 0):m9 (d+B9 * m)=d :: m9 m:=by
 unfold B9 at hd
 rw [a03 (by unfold B9;omega)];congr 1
 ·unfold B9;omega
 ·congr 1;unfold B9;omega
theorem V0 (a b:List Nat):m7 (a ++ b)=m7 a+B9 ^ a.length * m7 b:=by
 induction a with
 | nil=>simp [m7]
 | cons d t ih=>simp only [List.cons_append,m7,ih,List.length_cons,Nat.pow_succ];rw [Nat.mul_add,← Nat.mul_assoc,Nat.mul_comm (B9 ^ t.length) B9];omega
theorem e0q (t:List Nat) (d:Nat) (h9:LB (t ++ [d])) (hd:d ≠ 0):m9 (m7 (t ++ [d]))=t ++ [d]:=by
 induction t with
 | nil =>
  have:d < B9:=h9 d (by simp)
  simp only [List.nil_append,m7]
  rw [c6q this (.inl hd),H5]
 | cons x t ih =>
  simp only [List.cons_append,m7]
  rw [c6q (h9 x (by simp)),ih (fun y hy=>h9 y (by simp at hy ⊢;exact .inr hy))]
  refine .inr fun h0=>hd ?_
  have h2:=V0 t [d]
  rw [h0] at h2
  simp only [m7] at h2
  have h3:0 < B9 ^ t.length:=Nat.pow_pos dE
  rw [Nat.mul_zero,Nat.add_zero] at h2
  have h4:B9 ^ t.length * d=0:=oM
  rcases Nat.mul_eq_zero.1 h4 with h | h <;> omega
theorem d85 (l:List Nat) (h9:LB l) (n:Nat) (hn:n≤l.length):l.take (V9 l n)=m9 (m7 (l.take n)):=by
 induction n with
 | zero=>simp [V9,m7,H5]
 | succ n ih =>
  have hlt:n < l.length:=oM
  have htk:l.take (n+1)=l.take n ++ [l.getD n 0]:=by
   rw [List.take_succ_eq_append_getElem hlt];simp [List.getD,hlt]
  simp only [V9]
  split
  ·rename_i h0
   rw [ih oM,htk,h0,V0]
   simp [m7]
  ·rename_i h0
   rw [htk,e0q _ _ _ h0]
   intro d hd
   rw [← htk] at hd
   exact h9 d (List.mem_of_mem_take hd)
theorem a2k (l:List Nat) (h9:LB l):G0 l=m9 (m7 l):=by
 unfold G0;rw [d85 l h9 l.length (Nat.le_refl _),List.take_length]
theorem Z3 (l:List Nat) (h9:LB l):m7 l < B9 ^ l.length:=by
 induction l with
 | nil=>simp [m7]
 | cons d t ih =>
  have h1:=ih (fun x hx=>h9 x (by simp [hx]))
  have h2:d < B9:=h9 d (by simp)
  simp only [m7,List.length_cons,Nat.pow_succ]
  unfold B9 at *
  omega
theorem c6s (n:Nat) (h:n ≠ 0):B9 ^ ((m9 n).length - 1)≤n:=by
 induction n using Nat.strongRecOn with
 | _ n ih =>
  rw [a03 h]
  simp only [List.length_cons,Nat.add_sub_cancel]
  by_cases h1:n / B9=0
  ·rw [h1,H5];simp;omega
  ·have:=ih (n / B9) (Nat.div_lt_self (Nat.pos_of_ne_zero h) dE) h1
   have h2:(m9 (n / B9)).length ≠ 0:=by rw [a03 h1];simp
   have h3:B9 ^ (m9 (n / B9)).length=B9 * B9 ^ ((m9 (n / B9)).length - 1):=by
    rw [← Nat.pow_succ'];congr 1;omega
   rw [h3]
   have h4:=Nat.mul_le_mul_left B9 this
   have h5:B9 * (n / B9)≤n:=Nat.mul_div_le n B9
   omega
theorem c7l (a b:List Nat) (ha:LB a) (hb:LB b) (n:Nat) (hna:n≤a.length) (hnb:n≤b.length) :
  H0 a b n=if m7 (a.take n) < m7 (b.take n) then -1 else if m7 (b.take n) < m7 (a.take n) then 1 else 0:=by
 induction n with
 | zero=>simp [H0,m7]
 | succ n ih =>
  have hla:n < a.length:=oM
  have hlb:n < b.length:=oM
  have e1:a.take (n+1)=a.take n ++ [a.getD n 0]:=by rw [List.take_succ_eq_append_getElem hla];simp [List.getD,hla]
  have e2:b.take (n+1)=b.take n ++ [b.getD n 0]:=by rw [List.take_succ_eq_append_getElem hlb];simp [List.getD,hlb]
  have v1:=V0 (a.take n) [a.getD n 0]
  have v2:=V0 (b.take n) [b.getD n 0]
  have l1:(a.take n).length=n:=by simp;omega
  have l2:(b.take n).length=n:=by simp;omega
  have b1:=Z3 (a.take n) (fun d hd=>ha d (List.mem_of_mem_take hd))
  have b2:=Z3 (b.take n) (fun d hd=>hb d (List.mem_of_mem_take hd))
  rw [l1] at v1 b1
  rw [l2] at v2 b2
  simp only [m7,Nat.mul_zero,Nat.add_zero] at v1 v2
  rw [e1,e2,v1,v2]
  simp only [H0]
  rw [ih oM oM]
  generalize a.getD n 0=x at *
  generalize b.getD n 0=y at *
  generalize m7 (a.take n)=p at *
  generalize m7 (b.take n)=q at *
  generalize B9 ^ n=P at *
  by_cases h1:x < y
  ·have:P * (x+1)≤P * y:=Nat.mul_le_mul_left P h1
   rw [Nat.mul_add,Nat.mul_one] at this
   rw [if_pos h1,if_pos oM]
  ·rw [if_neg h1]
   by_cases h2:y < x
   ·have:P * (y+1)≤P * x:=Nat.mul_le_mul_left P h2
    rw [Nat.mul_add,Nat.mul_one] at this
    rw [if_pos h2,if_neg oM,if_pos oM]
   ·rw [if_neg h2]
    have h3:x=y:=oM
    subst h3
    simp only [Nat.add_lt_add_iff_right]
theorem c7m (x y:Nat):T7 (m9 x) (m9 y)=if x < y then -1 else if y < x then 1 else 0:=by
 unfold T7
 split
 ·rename_i h
  rw [c7l _ _ (Q1 x) (Q1 y) _ (Nat.le_refl _) oM,List.take_length,h,List.take_length,H6,H6]
 ·rename_i h
  have b1:=Z3 (m9 x) (Q1 x)
  have b2:=Z3 (m9 y) (Q1 y)
  rw [H6] at b1 b2
  split
  ·rename_i h2
   have hy:y ≠ 0:=by intro e;rw [e,H5] at h2;simp at h2
   have g2:=c6s y hy
   have:B9 ^ (m9 x).length≤B9 ^ ((m9 y).length - 1):=Nat.pow_le_pow_right dE oM
   rw [if_pos oM]
  ·rename_i h2
   have hx:x ≠ 0:=by intro e;rw [e,H5] at h h2;simp only [List.length_nil] at h h2;omega
   have g1:=c6s x hx
   have:B9 ^ (m9 y).length≤B9 ^ ((m9 x).length - 1):=Nat.pow_le_pow_right dE oM
   rw [if_neg oM,if_pos oM]
theorem c0q {a b:Nat} (h:m9 a=m9 b):a=b:=by rw [← H6 a,h,H6]
theorem a9y {n k:Nat} (h:n < B9 ^ k):(m9 n).length≤k:=by
 by_cases h0:n=0
 ·subst h0;simp [H5]
 ·have h1:=c6s n h0
  by_cases h2:(m9 n).length≤k
  ·exact h2
  ·have:B9 ^ k≤B9 ^ ((m9 n).length - 1):=Nat.pow_le_pow_right dE oM
   omega
theorem e0r (x r:Nat) (hx:x < B9):G0 (x :: m9 r)=m9 (x+B9 * r):=by
 rw [a2k]
 ·simp only [m7,H6]
 ·intro d hd
  rcases List.mem_cons.1 hd with rfl | hd
  ·exact hx
  ·exact Q1 r d hd
theorem d7b (l:List Nat) (i:Nat) (h:i < l.length):m7 (l.drop i)=l.getD i 0+B9 * m7 (l.drop (i+1)):=by
 rw [List.drop_eq_getElem_cons h];simp [m7,List.getD,h]
theorem c0t (l:List Nat) (i:Nat) (h:i < l.length):m7 (l.take (i+1))=m7 (l.take i)+B9 ^ i * l.getD i 0:=by
 have e:l.take (i+1)=l.take i ++ [l.getD i 0]:=by rw [List.take_succ_eq_append_getElem h];simp [List.getD,h]
 rw [e,V0]
 have:(l.take i).length=i:=by simp;omega
 rw [this];simp [m7]
theorem c6w (l:List Nat) (i x:Nat) (h:i < l.length):m7 (l.set i x)+B9 ^ i * l.getD i 0=m7 l+B9 ^ i * x:=by
 induction l generalizing i with
 | nil=>simp at h
 | cons d t ih =>
  cases i with
  | zero=>simp [m7,List.getD];omega
  | succ i =>
   have:=ih i (by simpa using h)
   simp only [List.set_cons_succ,m7,Nat.pow_succ,List.getD_cons_succ]
   have e1:B9 ^ i * B9 * t.getD i 0=B9 * (B9 ^ i * t.getD i 0):=by rw [Nat.mul_comm (B9 ^ i) B9,Nat.mul_assoc]
   have e2:B9 ^ i * B9 * x=B9 * (B9 ^ i * x):=by rw [Nat.mul_comm (B9 ^ i) B9,Nat.mul_assoc]
   rw [e1,e2]
   have e3:B9 * (m7 (t.set i x)+B9 ^ i * t.getD i 0)=B9 * (m7 t+B9 ^ i * x):=by rw [this]
   rw [Nat.mul_add,Nat.mul_add] at e3
   omega
theorem a4q {l:List Nat} (h:LB l) (i x:Nat) (hx:x < B9):LB (l.set i x):=fun d hd=>by
 rcases List.mem_or_eq_of_mem_set hd with h1 | rfl
 ·exact h d h1
 ·exact hx
theorem a6i {l:List Nat} (h:LB l) (i:Nat):l.getD i 0 < B9:=by
 by_cases hi:i < l.length
 ·simp only [List.getD,List.getElem?_eq_getElem hi,Option.getD_some];exact h _ (List.getElem_mem hi)
 ·simp only [List.getD,List.getElem?_eq_none (Nat.le_of_not_lt hi),Option.getD_none];decide
theorem d37 (n:Nat):m7 (List.replicate n 0)=0:=by
 induction n with
 | zero=>rfl
 | succ n ih=>simp [List.replicate_succ,m7,ih]
def C8 (s:i6):Nat:=A3 s 0 0
theorem c9t (a b:i6) (k acc:Nat) (hk:k≤a.length):A3 (a ++ b) k acc=A3 b 0 (A3 a k acc):=by
 fun_induction A3 a k acc with
 | case1 k acc h ih =>
  rw [A3,if_pos (by simp;omega),← ih oM]
  congr 2
  have:bt (a ++ b) k=bt a k:=by unfold bt;simp [List.getD,List.getElem?_append_left h]
  rw [this]
 | case2 k acc h =>
  have hk':k=a.length:=oM
  subst hk'
  clear h hk
  have:∀ (j acc:Nat),A3 (a ++ b) (a.length+j) acc=A3 b j acc:=by
   intro j acc
   fun_induction A3 b j acc with
   | case1 j acc h ih =>
    rw [A3,if_pos (by simp;omega),← ih,Nat.add_assoc]
    congr 2
    have:bt (a ++ b) (a.length+j)=bt b j:=by unfold bt;simp only [List.getD];rw [List.getElem?_append_right (Nat.le_add_right _ _),Nat.add_sub_cancel_left]
    rw [this]
   | case2 j acc h=>rw [A3,if_neg (by simp;omega)]
  exact this 0 acc
theorem c2q (a b:i6):C8 (a ++ b)=C8 a * 10 ^ b.length+C8 b:=by
 unfold C8
 rw [c9t a b 0 0 (Nat.zero_le _),c9s b 0 _ (Nat.zero_le _)];simp
theorem b79 (c:UInt8) (s:i6):C8 (c :: s)=(bt [c] 0 - 48).toNat * 10 ^ s.length+C8 s:=by
 rw [show c :: s=[c] ++ s from rfl,c2q]
 congr 2
 unfold C8
 rw [A3,if_pos (by simp),A3,if_neg (by simp)];omega
theorem c62 (s:i6) (h:∀ j,j < s.length→48≤bt s j∧bt s j≤57):C8 s < 10 ^ s.length:=by
 induction s with
 | nil=>unfold C8;rw [A3,if_neg (by simp)];simp
 | cons c s ih =>
  rw [b79,List.length_cons,Nat.pow_succ]
  have h0:=h 0 (by simp)
  have e:bt [c] 0=bt (c :: s) 0:=rfl
  have:=ih fun j hj=>by have:=h (j+1) (by simpa using hj);rwa [a0z] at this
  have h1:(bt [c] 0 - 48).toNat≤9:=by rw [e];omega
  have:=Nat.mul_le_mul_right (10 ^ s.length) h1
  omega
theorem d9w (s:i6) (e k:Nat) (hk:k≤s.length) (h:∀ j,e≤j→j < k→48≤bt s j∧bt s j≤57) :
  (y7 s e k []).reverse.map (fun d=>UInt8.ofNat (48+d))=(s.take k).drop e:=by
 induction k with
 | zero=>simp [y7]
 | succ k ih =>
  by_cases he:e≤k
  ·rw [a64 s e k he,List.reverse_cons,List.map_append,ih oM (fun j h1 h2=>h j h1 oM)]
   have hlt:k < s.length:=oM
   rw [List.take_succ_eq_append_getElem hlt,List.drop_append_of_le_length (by simp;omega)]
   congr 1
   have:=h k he oM
   have hb:bt s k=(s[k].toNat:Int):=by unfold bt;simp [List.getD,List.getElem?_eq_getElem hlt]
   rw [hb] at this ⊢
   simp only [List.map_cons,List.map_nil,List.cons.injEq,and_true]
   apply UInt8.toNat_inj.1
   rw [UInt8.toNat_ofNat']
   have:=s[k].toNat_lt
   omega
  ·rw [y7,if_neg he,List.drop_eq_nil_of_le (by simp;omega)];rfl
theorem d6c {s:i6} (h1:C1 s=true) (h2:s ≠ B5):j6 s < s.length∧bt s (j6 s) ≠ 48∧(∀ j,j6 s≤j→j < s.length→48≤bt s j∧bt s j≤57) ∧
  y7 s (j6 s) s.length []=j7 (j0 s).natAbs∧(j0 s).natAbs ≠ 0∧(j6 s=1↔j0 s < 0):=by
 have h3:j6 s < s.length∧bt s (j6 s) ≠ 48∧s8 s (j6 s)=s.length:=by
  simp [C1,h2] at h1;exact ⟨h1.1.1,h1.1.2,h1.2⟩
 have hall:∀ j,j6 s≤j→j < s.length→48≤bt s j∧bt s j≤57:=fun j a b=>a01 s (j6 s) j a oM
 have e:=b34 s
 unfold a1g at e
 rw [if_pos ⟨h1,h2⟩] at e
 injection e with e1 e2
 obtain ⟨t,ht⟩:=c5q s (j6 s) s.length h3.1
 refine ⟨h3.1,h3.2.1,hall,e2,fun h0=>?_,by simpa using e1⟩
 rw [h0,y9,ht] at e2
 simp at e2
theorem d8k {s:i6} (h:j6 s=1):s=45 :: s.drop 1:=by
 unfold j6 at h
 split at h
 ·rename_i hh
  cases s with
  | nil=>simp at hh
  | cons c s =>
   have:(c.toNat:Int)=45:=hh.2
   simp only [List.drop_succ_cons,List.drop_zero,List.cons.injEq,and_true]
   exact UInt8.toNat_inj.1 (by show c.toNat=45;omega)
 ·omega
theorem e3a {s:i6} (h:C1 s=true):j3 (j0 s)=s:=by
 by_cases h2:s=B5
 ·subst h2;rw [a80];decide
 ·obtain ⟨q1,q2,q3,q4,q5,q6⟩:=d6c h h2
  have ht:=d9w s (j6 s) s.length (Nat.le_refl _) q3
  rw [q4,List.take_length] at ht
  have e:i7 (j0 s).natAbs=s.drop (j6 s):=by unfold i7;rw [if_neg q5];exact ht
  unfold j3
  rw [e]
  by_cases hs:j6 s=1
  ·rw [if_pos (q6.1 hs),hs];exact (d8k hs).symm
  ·rw [if_neg (fun k=>hs (q6.2 k))]
   have:j6 s=0:=by have:=Y1 s;omega
   rw [this];rfl
theorem a5e (n:Nat):C1 (i7 n)=true:=by
 by_cases h:n=0
 ·subst h;decide
 ·obtain ⟨h1,h2,h3⟩:=Z9 n h
  have hsg0:j6 (i7 n)=0:=by unfold j6;rw [if_neg];have:=h1 0 (Nat.le_refl _) h3;omega
  unfold C1
  rw [hsg0,U9 _ 0 (Nat.zero_le _) h1]
  simp [h2];right;omega
theorem c3w (n:Int):C1 (j3 n)=true:=by
 unfold j3
 split
 ·rename_i h
  have hn:n.natAbs ≠ 0:=oM
  obtain ⟨h1,h2,h3⟩:=Z9 n.natAbs hn
  show C1 (45 :: i7 n.natAbs)=true
  have hsg:j6 (45 :: i7 n.natAbs)=1:=by unfold j6;rw [if_pos];exact ⟨by simp,rfl⟩
  unfold C1
  rw [hsg,show (1:Nat)=0+1 from rfl,b4w,a0z,U9 _ 0 (Nat.zero_le _) h1]
  simp [h2];right;omega
 ·exact a5e _
def N9 (s:i6):i6:=if C1 s then s else B5
theorem a2e (s:i6):N9 s=j3 (j0 s):=by
 unfold N9
 split
 ·rename_i h;exact (e3a h).symm
 ·rename_i h
  have:j0 s=0:=by unfold j0;rw [if_neg h]
  rw [this];decide
theorem Z8 (n:Nat):j3 (n:Int)=i7 n:=by unfold j3;rw [if_neg oM];rfl
def e0y (s:i6):i6:=j3 (-j0 s)
theorem a4k (a b:Int) (hb:0 < b):u4 (j3 a) (j3 b)=(j3 (a / (Nat.gcd a.natAbs b.natAbs:Int)),j3 (b / (Nat.gcd a.natAbs b.natAbs:Int))):=by
 unfold u4
 rw [s7,s7,if_neg oM]
 simp only []
 have hg:0 < Nat.gcd a.natAbs b.natAbs:=Nat.gcd_pos_of_pos_right _ oM
 have hd1:=Nat.gcd_dvd_left a.natAbs b.natAbs
 have hd2:=Nat.gcd_dvd_right a.natAbs b.natAbs
 generalize Nat.gcd a.natAbs b.natAbs=g at *
 have e2:b / (g:Int)=((b.natAbs / g:Nat):Int):=by
  conv=>lhs;rw [show b=(b.natAbs:Int) by omega]
  rfl
 have e1:a / (g:Int)=(if (a < 0)=(b < 0) then 1 else -1) * ((a.natAbs / g:Nat):Int):=by
  obtain ⟨k,hk⟩:=hd1
  rw [hk,Nat.mul_div_cancel_left _ hg]
  by_cases h:a < 0
  ·rw [if_neg (by simp [h];omega)]
   have:a=(g:Int) * (-(k:Int)):=by
    have:((a.natAbs:Nat):Int)=(g:Int) * (k:Int):=by rw [hk];simp
    rw [Int.mul_neg];omega
   rw [this,Int.mul_ediv_cancel_left _ oM];omega
  ·rw [if_pos (by simp [h];omega)]
   have:a=(g:Int) * (k:Int):=by
    have:((a.natAbs:Nat):Int)=(g:Int) * (k:Int):=by rw [hk];simp
    omega
   rw [this,Int.mul_ediv_cancel_left _ oM];omega
 rw [e1,e2,Z8]
def At (s:i6) (i:Nat) (w r:i6):Prop:=s.drop i=w ++ r
theorem At.len {s w r:i6} {i:Nat} (h:At s i w r) (hw:w ≠ []):i+w.length+r.length=s.length:=by
 have:=congrArg List.length h
 simp at this
 have:0 < w.length:=List.length_pos_iff.2 hw
 omega
theorem At.bt {s w r:i6} {i j:Nat} (h:At s i w r) (hj:j < w.length):LQ.bt s (i+j)=LQ.bt w j:=by
 unfold LQ.bt
 have:s[i+j]?=w[j]?:=by rw [← List.getElem?_drop,h,List.getElem?_append_left hj]
 simp only [List.getD,this]
theorem At.btr {s w r:i6} {i j:Nat} (h:At s i w r):LQ.bt s (i+w.length+j)=LQ.bt r j:=by
 unfold LQ.bt
 have:s[i+w.length+j]?=r[j]?:=by rw [Nat.add_assoc,← List.getElem?_drop,h,List.getElem?_append_right (Nat.le_add_right _ _),Nat.add_sub_cancel_left]
 simp only [List.getD,this]
theorem At.next {s w r:i6} {i:Nat} (h:At s i w r):s.drop (i+w.length)=r:=by rw [← List.drop_drop,h,List.drop_left]
theorem At.app {s u v r:i6} {i:Nat} (h:At s i (u ++ v) r):At s i u (v ++ r)∧At s (i+u.length) v r:=by
 have h1:At s i u (v ++ r):=by unfold At at *;rw [h,List.append_assoc]
 exact ⟨h1,h1.next⟩
theorem At.sub {s w r:i6} {i:Nat} (h:At s i w r) (hw:w ≠ []):(s.take (i+w.length)).drop i=w:=by
 rw [List.drop_take,h,show i+w.length - i=w.length by omega,List.take_left]
def Del (r:i6):Prop:=r=[]∨bt r 0=32∨bt r 0=41∨bt r 0=10
theorem Del.not {r:i6} (h:Del r) (hr:r ≠ []):A5 (bt r 0)=false∧bt r 0 ≠ 58:=by
 rcases h with h | h | h | h
 ·exact absurd h hr
 all_goals rw [h];decide
def a1f (w:i6):Prop:=∀ j,j < w.length→A5 (bt w j)=true
theorem a6g {s w r:i6} {i:Nat} (h:At s i w r) (hw:a1f w) (hr:r=[]∨A5 (bt r 0)=false):n5 s i=i+w.length:=by
 have key:∀ n j,w.length - j=n→j≤w.length→n5 s (i+j)=i+w.length:=by
  intro n
  induction n with
  | zero =>
   intro j hj hle
   have:j=w.length:=oM
   subst this
   rw [n5]
   split
   ·rename_i hlt
    have hb:=h.btr (j:=0)
    rw [Nat.add_zero] at hb
    rcases hr with hr | hr
    ·exfalso
     subst hr
     have:=congrArg List.length h
     simp at this;omega
    ·rw [if_neg (by rw [hb,hr];simp)]
   ·rfl
  | succ n ih =>
   intro j hj hle
   have hlt:i+j < s.length:=by
    have:=congrArg List.length h
    simp at this;omega
   rw [n5,if_pos hlt,if_pos (by rw [h.bt oM];exact hw j oM),Nat.add_assoc]
   exact ih (j+1) oM oM
 exact key _ 0 rfl (Nat.zero_le _)
def K7 (c:UInt8) (s:i6):i6:=s.flatMap fun b=>if b=c∨b=92 then [92,b] else [b]
def H4 (c:UInt8) (s:i6):i6:=c :: (K7 c s ++ [c])
def a1z (l:i6):List Int:=l.map fun b=>(b.toNat:Int)
theorem a8g (l:i6):G3 (a1z l)=l:=by
 unfold G3 a1z
 rw [List.map_map]
 conv=>rhs;rw [← List.map_id l]
 exact List.map_congr_left fun b _=>by simp
theorem bt0 (c:UInt8) (l:i6):bt (c :: l) 0=c.toNat:=rfl
theorem bt1 (c d:UInt8) (l:i6):bt (c :: d :: l) 1=d.toNat:=rfl
theorem b9z {a b:UInt8} (h:a ≠ b):(a.toNat:Int) ≠ b.toNat:=fun e=>h (UInt8.toNat_inj.1 oM)
theorem a68 {c:UInt8} (hc:c ≠ 92) {s:i6}:∀ {l r:i6} {i:Nat} {acc:List Int},At s i (K7 c l) (c :: r)→J5 s c.toNat i acc=.ok (acc ++ a1z l,i+(K7 c l).length+1)
 | [],r,i,acc,h=>by
  have h0:At s i [c] r:=h
  have hlt:i < s.length:=by have:=h0.len (by simp);simp at this;omega
  have hb:bt s i=c.toNat:=by have:=h0.bt (j:=0) (by simp);rwa [Nat.add_zero] at this
  rw [J5,if_pos hlt,if_pos hb];simp [a1z,K7]
 | b :: l,r,i,acc,h=>by
  by_cases hb:b=c∨b=92
  ·have e:K7 c (b :: l)=[92,b] ++ K7 c l:=by simp [K7,hb]
   rw [e] at h ⊢
   obtain ⟨h1,h2⟩:=h.app
   have hl:=h1.len (by simp)
   simp at hl
   have b0:bt s i=92:=by have:=h1.bt (j:=0) (by simp);rw [Nat.add_zero] at this;rw [this];rfl
   have b1:bt s (i+1)=b.toNat:=h1.bt (j:=1) (by simp)
   have hc':(92:Int) ≠ (c.toNat:Int):=by have:=b9z hc;simp at this;omega
   rw [J5,if_pos oM,b0,if_neg hc',if_neg (by simp),if_pos oM,b1,if_neg,show i+2=i+[92,b].length from rfl,a68 hc h2]
   ·simp [a1z];omega
   ·rcases hb with hb | hb
    ·subst hb;simp
    ·subst hb;simp
  ·have e:K7 c (b :: l)=[b] ++ K7 c l:=by simp [K7,hb]
   rw [e] at h ⊢
   obtain ⟨h1,h2⟩:=h.app
   have hl:=h1.len (by simp)
   simp at hl
   have b0:bt s i=b.toNat:=by have:=h1.bt (j:=0) (by simp);rwa [Nat.add_zero] at this
   have n1:=b9z (fun e=>hb (.inl e))
   have n2:(b.toNat:Int) ≠ 92:=by have:=b9z (fun e=>hb (.inr e));simpa using this
   rw [J5,if_pos oM,b0,if_neg n1,if_pos n2,show i+1=i+[b].length from rfl,a68 hc h2]
   simp [a1z];omega
theorem a38 {s:i6} {i j:Nat} (hi:i≤s.length) (h:skip s i=some j):i≤j∧j≤s.length:=by
 fun_induction skip s i with
 | case1 i h1 h2 ih=>have:=ih oM h;omega
 | case2 i h1 h2 h3 h4 ih=>have:=b0u s i oM;have:=ih oM h;omega
 | case3 i h1 h2 h3 h4=>injection h with h;omega
 | case4 i h1 h2 h3 h4 h5=>cases h
 | case5 i h1 h2 h3 h4 j' h5 h6 ih=>have:=a0p h4;have:=b2d s (i+2) 1 j' oM h5;have:=ih oM h;omega
 | case6 i h1 h2 h3 h4 j' h5 h6=>injection h with h;omega
 | case7 i h1 h2 h3 h4=>injection h with h;omega
 | case8 i h1=>injection h with h;omega
theorem a9r {s:i6} {c:Int} {i:Nat} {acc l:List Int} {j:Nat} (h:J5 s c i acc=.ok (l,j)):i < j∧j≤s.length:=by
 fun_induction J5 s c i acc with
 | case1 i acc h1 h2=>injection h with h;injection h with h3 h4;omega
 | case2 i acc h1 h2 h3 ih=>have:=ih h;omega
 | case3=>cases h
 | case4 i acc h1 h2 h3 h4 h5 ih=>have:=ih h;omega
 | case5=>cases h
 | case6=>cases h
theorem a49 {s:i6} {i k:Nat} {t:x5} (hi:i < s.length) (h:B7 s i=.ok (t,k)):i < k∧k≤s.length:=by
 unfold B7 at h
 repeat' split at h
 all_goals try (cases h;done)
 all_goals try (injection h with h;injection h with h1 h2;subst h2;omega)
 all_goals try (rename_i h0 _;have:=a9r h0;injection h with h;injection h with h1 h2;subst h2;omega)
 ·rename_i hc _
  have hw:=I9 s i oM
  have hw2:i < n5 s i:=by rw [n5,if_pos hi,if_pos hc];have:=I9 s (i+1) oM;omega
  unfold L0 at h
  repeat' split at h
  all_goals try (cases h;done)
  all_goals try (rename_i h0 _;have:=a9r h0;injection h with h;injection h with h1 h2;subst h2;omega)
  all_goals (simp only [] at h;split at h;all_goals try (cases h;done)
             all_goals (injection h with h;injection h with h1 h2;have:=I9 s (n5 s i+2) oM;subst h2;omega))
 ·rename_i hc _
  have hw:=I9 s i oM
  have hw2:i < n5 s i:=by rw [n5,if_pos hi,if_pos hc];have:=I9 s (i+1) oM;omega
  unfold F6 at h
  repeat' split at h
  all_goals try (cases h;done)
  all_goals try (simp only [] at h;split at h)
  all_goals try (cases h;done)
  all_goals (injection h with h;injection h with h1 h2;subst h2;omega)
theorem a08 {s:i6} {i:Nat} {acc:List x5} (hi:i≤s.length):p8 s i acc=match skip s i with
  | none=>.error (11,s.length)
  | some j=>if j < s.length then match B7 s j with
   | .error e=>.error e
   | .ok (t,k)=>p8 s k (acc ++ [t])
   else .ok (acc ++ [⟨0,s.length,u7,u7,u7⟩]):=by
 rw [p8]
 cases hs:skip s i with
 | none=>rfl
 | some j =>
  have h1:=a38 hi hs
  simp only
  by_cases hj:j < s.length
  ·rw [if_pos hj,if_pos hj]
   cases ht:B7 s j with
   | error e=>rfl
   | ok p =>
    have h2:=a49 (t:=p.1) (k:=p.2) hj ht
    simp only
    rw [if_pos oM]
  ·rw [if_neg hj,if_neg hj]
theorem b1g {s:i6} {i k:Nat} {acc:List x5} {t:x5} (hi:i < s.length) (hb:G9 (bt s i)=false) (h9:bt s i ≠ 59) (hh:has s i 35 124=false) (ht:B7 s i=.ok (t,k)):p8 s i acc=p8 s k (acc ++ [t]):=by
 rw [a08 oM,b3j hi hb h9 hh]
 simp only
 rw [if_pos hi,ht]
theorem b9o {s:i6} {i:Nat} {acc:List x5} (hi:i < s.length) (hb:G9 (bt s i)=true):p8 s i acc=p8 s (i+1) acc:=by
 rw [a08 oM,b9a hi hb,← a08 oM]
def f0a (w:i6):Prop:=∀ j,j < w.length→48≤bt w j∧bt w j≤57
theorem P1 (n:Nat):f0a (i7 n):=by
 by_cases h:n=0
 ·subst h;intro j hj;have:j=0:=by simp [i7,B5] at hj;omega
  subst this;decide
 ·exact fun j hj=>(Z9 n h).1 j (Nat.zero_le _) hj
theorem b88 (n:Nat):i7 n ≠ []:=by
 by_cases h:n=0
 ·subst h;decide
 ·intro e;have:=(Z9 n h).2.2;rw [e] at this;simp at this
theorem O8 (n:Nat):0 < (i7 n).length:=List.length_pos_iff.2 (b88 n)
theorem a77 {s w r:i6} {i:Nat} (h:At s i w r) (hw:f0a w) (hr:r=[]∨¬(48≤bt r 0∧bt r 0≤57)):s8 s i=i+w.length:=by
 have key:∀ n j,w.length - j=n→j≤w.length→s8 s (i+j)=i+w.length:=by
  intro n
  induction n with
  | zero =>
   intro j hj hle
   have:j=w.length:=oM
   subst this
   rw [s8]
   split
   ·rename_i hlt
    have hb:=h.btr (j:=0)
    rw [Nat.add_zero] at hb
    rcases hr with hr | hr
    ·exfalso
     subst hr
     have:=congrArg List.length h
     simp at this;omega
    ·rw [if_neg];rw [hb];simp [a02];omega
   ·rfl
  | succ n ih =>
   intro j hj hle
   have hlt:i+j < s.length:=by
    have:=congrArg List.length h
    simp at this;omega
   have:=hw j oM
   rw [s8,if_pos hlt,if_pos (by rw [h.bt oM];simp [a02];omega),Nat.add_assoc]
   exact ih (j+1) oM oM
 exact key _ 0 rfl (Nat.zero_le _)
def sgn (n:Int):i6:=if n < 0 then [45] else []
theorem I8 (n:Int):j3 n=sgn n ++ i7 n.natAbs:=by unfold j3 sgn;split <;> rfl
theorem a4m (n:Int) (d:Nat) (r:i6):j6 (sgn n ++ (i7 d ++ r))=(sgn n).length:=by
 unfold sgn
 split
 ·unfold j6;rw [if_pos ⟨by simp,rfl⟩];rfl
 ·unfold j6
  rw [if_neg];· rfl
  intro h
  have h0:=(P1 d) 0 (O8 d)
  have:bt ([] ++ (i7 d ++ r)) 0=bt (i7 d) 0:=by
   have h1:At (i7 d ++ r) 0 (i7 d) r:=rfl
   have:=h1.bt (j:=0) (O8 d)
   simpa using this
  rw [this] at h
  omega
theorem c9v (n:Int):x9 (j3 n)=(j3 n,Q3,true):=by
 have e:j3 n=sgn n ++ (i7 n.natAbs ++ []):=by rw [I8,List.append_nil]
 have h1:=a4m n n.natAbs []
 have ha:At (sgn n ++ (i7 n.natAbs ++ [])) (sgn n).length (i7 n.natAbs) []:=by unfold At;rw [List.drop_left]
 have h2:=a77 ha (P1 _) (.inl rfl)
 have hp:=O8 n.natAbs
 unfold x9
 rw [e,h1]
 simp only []
 rw [h2,if_neg oM,if_pos (by simp)]
theorem c66 (n:Int) (d:Nat):x9 (j3 n ++ 47 :: i7 d)=(j3 n,i7 d,true):=by
 have e:j3 n ++ 47 :: i7 d=sgn n ++ (i7 n.natAbs ++ 47 :: i7 d):=by rw [I8,List.append_assoc]
 have h1:=a4m n n.natAbs (47 :: i7 d)
 have ha:At (sgn n ++ (i7 n.natAbs ++ 47 :: i7 d)) (sgn n).length (i7 n.natAbs) (47 :: i7 d):=by unfold At;rw [List.drop_left]
 have h2:=a77 ha (P1 _) (.inr (by rw [bt0];decide))
 have hp:=O8 n.natAbs
 have hp2:=O8 d
 have hb:At (sgn n ++ (i7 n.natAbs ++ 47 :: i7 d)) ((sgn n).length+(i7 n.natAbs).length+1) (i7 d) []:=by
  unfold At;rw [← List.drop_drop,ha.next];simp
 have h3:=a77 hb (P1 _) (.inl rfl)
 have h4:bt (sgn n ++ (i7 n.natAbs ++ 47 :: i7 d)) ((sgn n).length+(i7 n.natAbs).length)=47:=by
  have:=ha.btr (j:=0);rw [Nat.add_zero] at this;rw [this];rfl
 have hl:(sgn n ++ (i7 n.natAbs ++ 47 :: i7 d)).length=(sgn n).length+(i7 n.natAbs).length+1+(i7 d).length:=by simp;omega
 unfold x9
 rw [e,h1]
 simp only []
 rw [h2,if_neg oM,if_neg oM,h4,if_neg oM,h3,if_pos oM]
 refine Prod.ext ?_ (Prod.ext ?_ rfl)
 ·simp only [List.drop_zero]
  rw [I8,← List.append_assoc,List.take_left' (by simp)]
 ·simp only []
  rw [List.take_length]
  have:=hb
  unfold At at this
  rw [this,List.append_nil]
theorem b3u {s:i6} {i:Nat} (h:¬(i < s.length∧bt s i=48)):E9 s i=i:=by
 rw [E9]
 split
 ·rw [if_neg (fun k=>h ⟨‹_›,k⟩)]
 ·rfl
theorem c2x (n:Int):plain (j3 n)=j3 n:=by
 by_cases h0:n=0
 ·subst h0
  have e1:j6 (j3 0)=0:=dE
  have e2:j3 0=[48]:=dE
  have e3:E9 [48] 0=1:=by rw [E9,if_pos dE,if_pos dE,b3u (by simp)]
  rw [e2] at e1 ⊢
  unfold plain
  rw [e1]
  simp only []
  rw [e3]
  rfl
 ·have e:j3 n=sgn n ++ (i7 n.natAbs ++ []):=by rw [I8,List.append_nil]
  have h1:=a4m n n.natAbs []
  have ha:At (sgn n ++ (i7 n.natAbs ++ [])) (sgn n).length (i7 n.natAbs) []:=by unfold At;rw [List.drop_left]
  have hp:=O8 n.natAbs
  have hb:=ha.bt (j:=0) hp
  rw [Nat.add_zero] at hb
  have hd:=(Z9 n.natAbs oM).2.1
  unfold plain
  rw [e,h1]
  simp only []
  rw [b3u (fun k=>hd (by rw [← hb];exact k.2)),if_neg (by simp only [List.length_append,List.length_nil];omega),List.take_length]
  unfold sgn
  split <;> rfl
theorem c2y (n:Nat):plain (i7 n)=i7 n:=by rw [← Z8];exact c2x n
theorem a1j (n:Nat):G8 (i7 n)=(i7 n).length:=by
 unfold G8
 rw [B4,Int.natAbs_natCast]
 by_cases h:n=0
 ·subst h;simp [y9,i7,B5]
 ·rw [← S5 n h];have:=O8 n;omega
theorem a4e (n:Int):G8 (j3 n)=(i7 n.natAbs).length:=by
 have:=a1j n.natAbs
 unfold G8 at this ⊢
 rw [B4,Int.natAbs_natCast] at this
 rw [s7,this]
theorem b5b (n:Int) (d:Nat) (hd:0 < d) (hg:Nat.gcd n.natAbs d=1):u4 (j3 n) (i7 d)=(j3 n,i7 d):=by
 have:=a4k n d oM
 rw [Int.natAbs_natCast,hg] at this
 rw [← Z8,this];simp
theorem c88 {c:Int} (h:48≤c∧c≤57):A5 c=true:=by unfold A5;simp;omega
theorem f0i (u v:i6) (j:Nat):bt (u ++ v) j=if j < u.length then bt u j else bt v (j - u.length):=by
 unfold bt
 split
 ·rename_i h;simp only [List.getD,List.getElem?_append_left h]
 ·rename_i h;simp only [List.getD,List.getElem?_append_right (Nat.le_of_not_lt h)]
theorem b5t {u v:i6} (hu:a1f u) (hv:a1f v):a1f (u ++ v):=fun j hj=>by
 rw [f0i]
 split
 ·exact hu j ‹_›
 ·refine hv _ ?_;simp at hj;omega
theorem c45 (n:Nat):a1f (i7 n):=fun j hj=>c88 (P1 n j hj)
theorem c44 (n:Int):a1f (j3 n):=by
 rw [I8]
 refine b5t ?_ (c45 _)
 intro j hj
 unfold sgn at hj ⊢
 split at hj
 ·have:j=0:=by simp at hj;omega
  subst this;rename_i h;rw [if_pos h];decide
 ·simp at hj
theorem d5q (n:Int) (d:Nat):a1f (j3 n ++ 47 :: i7 d):=b5t (c44 n) (b5t (u:=[47]) (fun j hj=>by have:j=0:=(by simp at hj;omega);subst this;decide) (c45 d))
def a0f (n:Int) (d:Nat):i6:=if d=1 then j3 n else j3 n ++ 47 :: i7 d
theorem d9k (n:Int) (d:Nat):a1f (a0f n d):=by unfold a0f;split;exact c44 n;exact d5q n d
theorem e7c (n:Int) (d:Nat):a0f n d ≠ []:=by
 have:j3 n ≠ []:=by rw [I8];intro e;exact b88 _ (List.append_eq_nil_iff.1 e).2
 unfold a0f;split
 ·exact this
 ·simp
theorem b48 (n:Int) (d:Nat):x9 (a0f n d)=(j3 n,i7 d,true):=by
 unfold a0f;split
 ·rename_i h;subst h;rw [c9v,show i7 1=Q3 by rw [i7,if_neg dE,F4 dE,y9];rfl]
 ·exact c66 n d
theorem d0f {i k:Nat} {n:Int} {d:Nat} (hd:0 < d) (hg:Nat.gcd n.natAbs d=1) (h1:(i7 n.natAbs).length≤100) (h2:(i7 d).length≤100):F6 i (a0f n d) k=.ok (⟨5,i,[],j3 n,i7 d⟩,k):=by
 have hdot:a0f n d ≠ [46]:=by
  intro e
  have:=b48 n d
  rw [e] at this
  have h2:(x9 [46]).2.2=false:=by
   unfold x9
   have e1:j6 [46]=0:=dE
   have e2:s8 [46] 0=0:=by rw [s8,if_pos dE,if_neg dE]
   rw [e1]
   simp only []
   rw [e2];rfl
  rw [this] at h2;cases h2
 unfold F6
 rw [if_neg hdot,b48]
 simp only [if_true]
 have hz:¬plain (i7 d)=B5:=by
  rw [c2y]
  intro e
  have:d=0:=a0a e
  omega
 rw [if_neg hz,c2x,c2y,b5b n d hd hg,a1j,a4e,if_neg oM]
 rfl
theorem At.hd {s r:i6} {c:UInt8} {w:i6} {i:Nat} (h:At s i (c :: w) r):LQ.bt s i=c.toNat∧i < s.length:=by
 have h1:=h.bt (j:=0) (by simp)
 have h2:=h.len (by simp)
 rw [Nat.add_zero] at h1
 simp at h2
 exact ⟨h1,oM⟩
theorem d3q {s:i6} {i:Nat} {a b:Int} (h:bt s i ≠ a):has s i a b=false:=by simp [has,h]
theorem a98 {s r w:i6} {c:UInt8} {i k:Nat} {acc:List x5} {t:x5} (h:At s i (c :: w) r) (hb:G9 c.toNat=false) (h9:(c.toNat:Int) ≠ 59) (h35:(c.toNat:Int) ≠ 35∨has s i 35 124=false) (ht:B7 s i=.ok (t,k)):p8 s i acc=p8 s k (acc ++ [t]):=by
 obtain ⟨h1,h2⟩:=h.hd
 refine b1g h2 (by rw [h1];exact hb) (by rw [h1];exact h9) ?_ ht
 rcases h35 with h3 | h3
 ·exact d3q (by rw [h1];exact h3)
 ·exact h3
theorem c3n {s r:i6} {i:Nat} {acc:List x5} (h:At s i [40] r):p8 s i acc=p8 s (i+1) (acc ++ [⟨1,i,[],[],[]⟩]) :=
 a98 h dE dE (.inl dE) (by unfold B7;rw [h.hd.1,if_pos dE];rfl)
theorem d5f {s r:i6} {i:Nat} {acc:List x5} (h:At s i [41] r):p8 s i acc=p8 s (i+1) (acc ++ [⟨2,i,[],[],[]⟩]) :=
 a98 h dE dE (.inl dE) (by unfold B7;rw [h.hd.1,if_neg dE,if_pos dE];rfl)
theorem d5g {s r:i6} {i:Nat} {acc:List x5} (h:At s i [39] r):p8 s i acc=p8 s (i+1) (acc ++ [⟨4,i,[],[],[]⟩]) :=
 a98 h dE dE (.inl dE) (by unfold B7;rw [h.hd.1,if_neg dE,if_neg dE,if_pos dE];rfl)
theorem d5h {s r:i6} {i:Nat} {acc:List x5} (h:At s i [32] r):p8 s i acc=p8 s (i+1) acc :=
 b9o h.hd.2 (by rw [h.hd.1];decide)
theorem d8z {s r:i6} {i:Nat} {acc:List x5} (h:At s i [10] r):p8 s i acc=p8 s (i+1) acc :=
 b9o h.hd.2 (by rw [h.hd.1];decide)
theorem a7a (c:UInt8) (l:i6):(H4 c l).length=(K7 c l).length+2:=by simp [H4]
theorem e3t {s r l:i6} {i:Nat} {acc:List x5} (h:At s i (H4 34 l) r) (hl:l.length≤200):p8 s i acc=p8 s (i+(H4 34 l).length) (acc ++ [⟨7,i,[],l,[]⟩]):=by
 refine a98 h dE dE (.inl dE) ?_
 have h2:At s (i+1) (K7 34 l) (34 :: r):=by
  have:At s i ([34] ++ K7 34 l) (34 :: r):=by unfold At at *;rw [h];simp [H4]
  exact this.app.2
 have he:=a68 (c:=34) dE (acc:=[]) h2
 have he:J5 s 34 (i+1) []=.ok ([] ++ a1z l,i+1+(K7 34 l).length+1):=he
 unfold B7
 rw [h.hd.1]
 simp only [show ((34:UInt8).toNat:Int)=34 from rfl,show (34:Int)=40↔False by decide,show (34:Int)=41↔False by decide,show (34:Int)=39↔False by decide,if_true,if_false,he,List.nil_append]
 have:(a1z l).length=l.length:=by simp [a1z]
 rw [if_neg oM,a8g,a7a]
 simp only [Except.ok.injEq,Prod.mk.injEq]
 exact ⟨rfl,oM⟩
theorem b45 {text:i6} {bars:Bool} (h:text.length≤40) (h1:0 < text.length):u1 text u7 bars=0:=by
 unfold u1
 rw [if_neg oM,if_neg]
 rintro (⟨_,h⟩ | ⟨h,_⟩)
 ·omega
 ·exact h rfl
theorem b46 {text pkg:i6} {bars:Bool} (h:text.length≤40) (h1:0 < text.length) (hp:t6 pkg=true):u1 text pkg bars=0:=by
 unfold u1
 rw [if_neg oM,if_neg]
 rintro (⟨_,h⟩ | ⟨_,h⟩)
 ·omega
 ·rw [hp] at h;cases h
theorem e3p {s r l:i6} {i:Nat} {acc:List x5} (h:At s i (H4 124 l) r) (hl:l.length≤40) (h0:0 < l.length):p8 s i acc=p8 s (i+(H4 124 l).length) (acc ++ [⟨6,i,[],l,[]⟩]):=by
 refine a98 h dE dE (.inl dE) ?_
 have h2:At s (i+1) (K7 124 l) (124 :: r):=by
  have:At s i ([124] ++ K7 124 l) (124 :: r):=by unfold At at *;rw [h];simp [H4]
  exact this.app.2
 have he:=a68 (c:=124) dE (acc:=[]) h2
 have he:J5 s 124 (i+1) []=.ok ([] ++ a1z l,i+1+(K7 124 l).length+1):=he
 unfold B7
 rw [h.hd.1]
 simp only [show ((124:UInt8).toNat:Int)=124 from rfl,show (124:Int)=40↔False by decide,show (124:Int)=41↔False by decide,show (124:Int)=39↔False by decide,show (124:Int)=34↔False by decide,if_true,if_false,he,List.nil_append]
 rw [a8g,if_pos (b45 hl h0),a7a]
 simp only [Except.ok.injEq,Prod.mk.injEq]
 exact ⟨rfl,oM⟩
theorem b61 {s:i6} {i:Nat} (hc:A5 (bt s i)=true):B7 s i=if has s (n5 s i) 58 58 then L0 s i (((s.take ((n5 s i))).drop (i))) (n5 s i) else F6 i (((s.take ((n5 s i))).drop (i))) (n5 s i):=by
 have h:33≤bt s i∧bt s i≤126∧bt s i ≠ 40∧bt s i ≠ 41∧bt s i ≠ 39∧bt s i ≠ 34∧bt s i ≠ 59∧bt s i ≠ 124∧bt s i ≠ 58:=by simpa [A5] using hc
 unfold B7
 rw [if_neg oM,if_neg oM,if_neg oM,if_neg oM,if_neg oM,if_pos hc]
theorem f8x {s:i6} {i:Nat} (w:i6) (h:a1f w) (r:i6) (hA:At s i w r) (hw:w ≠ []) (hr:Del r):has s i 35 124=false:=by
 cases w with
 | nil=>exact absurd rfl hw
 | cons c w =>
  cases w with
  | nil =>
   cases r with
   | nil =>
    have:=hA.len hw
    simp at this
    simp [has];omega
   | cons d r =>
    have hb:=hA.btr (j:=0)
    simp at hb
    have:bt s (i+1) ≠ 124:=by
     rw [hb]
     rcases hr with hr | hr | hr | hr
     ·cases hr
     all_goals rw [hr];decide
    simp [has];intro _ _;exact this
  | cons d w =>
   have hb:=hA.bt (j:=1) (by simp)
   have hc:=h 1 (by simp)
   have:bt s (i+1) ≠ 124:=by
    rw [hb]
    intro e
    rw [e] at hc
    exact absurd hc dE
   simp [has];intro _ _;exact this
theorem b3o {s r w:i6} {i:Nat} {acc:List x5} {t:x5} (h:At s i w r) (hw:w ≠ []) (hc:a1f w) (hr:Del r) (ht:F6 i w (i+w.length)=.ok (t,i+w.length)):p8 s i acc=p8 s (i+w.length) (acc ++ [t]):=by
 have hr':r=[]∨A5 (bt r 0)=false:=by
  by_cases hn:r=[]
  ·exact .inl hn
  ·exact .inr (hr.not hn).1
 have he:=a6g h hc hr'
 have hcc:=hc 0 (List.length_pos_iff.2 hw)
 have hb:=h.bt (j:=0) (List.length_pos_iff.2 hw)
 rw [Nat.add_zero] at hb
 have hone:B7 s i=.ok (t,i+w.length):=by
  rw [b61 (by rw [hb];exact hcc),he,if_neg,h.sub hw,ht]
  have hb2:=h.btr (j:=0)
  rw [Nat.add_zero] at hb2
  by_cases hn:r=[]
  ·have:=h.len hw
   subst hn
   simp at this
   simp [has];omega
  ·rw [d3q];· simp
   rw [hb2];exact (hr.not hn).2
 have hlt:i < s.length:=by have:=h.len hw;have:=List.length_pos_iff.2 hw;omega
 have hcc':33≤bt w 0∧bt w 0≤126∧bt w 0 ≠ 40∧bt w 0 ≠ 41∧bt w 0 ≠ 39∧bt w 0 ≠ 34∧bt w 0 ≠ 59∧bt w 0 ≠ 124∧bt w 0 ≠ 58:=by simpa [A5] using hcc
 exact b1g hlt (by rw [hb];simp [G9];omega) (by rw [hb];omega) (f8x w hc r h hw hr) hone
theorem e3s {s r:i6} {i:Nat} {acc:List x5} {n:Int} {d:Nat} (h:At s i (a0f n d) r) (hr:Del r) (hd:0 < d) (hg:Nat.gcd n.natAbs d=1) (h1:(i7 n.natAbs).length≤100) (h2:(i7 d).length≤100):p8 s i acc=p8 s (i+(a0f n d).length) (acc ++ [⟨5,i,[],j3 n,i7 d⟩]) :=
 b3o h (e7c n d) (d9k n d) hr (d0f hd hg h1 h2)
theorem e3q {s r:i6} {i:Nat} {acc:List x5} (h:At s i [46] (32 :: r)):p8 s i acc=p8 s (i+1) (acc ++ [⟨3,i,[],[],[]⟩]) :=
 b3o (w:=[46]) h (by simp) (fun j hj=>by have:j=0:=(by simp at hj;omega);subst this;decide) (.inr (.inl rfl)) (by unfold F6;rw [if_pos rfl];rfl)
def U7 (w:i6):Bool:=decide (w ≠ []) && w.all fun b=>A5 b.toNat
theorem c8e {w:i6} (h:U7 w=true):w ≠ []∧a1f w:=by
 simp [U7] at h
 refine ⟨h.1,fun j hj=>?_⟩
 have:=h.2 w[j] (List.getElem_mem hj)
 unfold bt
 simp [List.getD,List.getElem?_eq_getElem hj,this]
theorem d80 {s r w:i6} {i:Nat} {acc:List x5} (h:At s i w r) (hw:U7 w=true) (hr:Del r) (h1:w ≠ [46]) (h2:(x9 w).2.2=false) (hl:w.length≤40):p8 s i acc=p8 s (i+w.length) (acc ++ [⟨6,i,[],w,[]⟩]):=by
 obtain ⟨g1,g2⟩:=c8e hw
 refine b3o h g1 g2 hr ?_
 unfold F6
 rw [if_neg h1,if_neg (by rw [h2];simp),if_pos (b45 hl (List.length_pos_iff.2 g1))]
 rfl
theorem d83 {s r p w:i6} {i:Nat} {acc:List x5} (h:At s i (p ++ (58 :: 58 :: w)) r) (hp:a1f p) (hp0:p ≠ []) (hpv:t6 p=true) (hw:U7 w=true) (hr:Del r) (hl:w.length≤40):p8 s i acc=p8 s (i+(p ++ (58 :: 58 :: w)).length) (acc ++ [⟨6,i,p,w,[]⟩]):=by
 obtain ⟨g1,g2⟩:=c8e hw
 have hr':r=[]∨A5 (bt r 0)=false:=by
  by_cases hn:r=[]
  ·exact .inl hn
  ·exact .inr (hr.not hn).1
 obtain ⟨ha,hb⟩:=h.app
 have hcw:At s (i+p.length+2) w r:=by
  have:At s (i+p.length) ([58,58] ++ w) r:=hb
  exact this.app.2
 have hcol:At s (i+p.length) [58,58] (w ++ r):=by
  have:At s (i+p.length) ([58,58] ++ w) r:=hb
  exact this.app.1
 have he:=a6g ha hp (.inr (by show A5 (bt (58 :: 58 :: w ++ r) 0)=false;rw [List.cons_append,bt0];decide))
 have hcc:=hp 0 (List.length_pos_iff.2 hp0)
 have hb0:=ha.bt (j:=0) (List.length_pos_iff.2 hp0)
 rw [Nat.add_zero] at hb0
 have hw0:=g2 0 (List.length_pos_iff.2 g1)
 have hbw:=hcw.bt (j:=0) (List.length_pos_iff.2 g1)
 rw [Nat.add_zero] at hbw
 have hcw':33≤bt w 0∧bt w 0≤126∧bt w 0 ≠ 40∧bt w 0 ≠ 41∧bt w 0 ≠ 39∧bt w 0 ≠ 34∧bt w 0 ≠ 59∧bt w 0 ≠ 124∧bt w 0 ≠ 58:=by simpa [A5] using hw0
 have hlen:=h.len (by simp)
 have hwl:=List.length_pos_iff.2 g1
 simp only [List.length_append,List.length_cons] at hlen
 have hhas:has s (i+p.length) 58 58=true:=by
  have c0:=hcol.bt (j:=0) (by simp)
  have c1:=hcol.bt (j:=1) (by simp)
  rw [Nat.add_zero] at c0
  simp [has,c0,c1]
  refine ⟨oM,dE,dE⟩
 have hend:=a6g hcw g2 hr'
 have hone:B7 s i=.ok (⟨6,i,p,w,[]⟩,i+p.length+2+w.length):=by
  rw [b61 (by rw [hb0];exact hcc),he,if_pos hhas,ha.sub hp0]
  unfold L0
  rw [if_pos oM,hbw,if_neg oM,if_pos hw0]
  simp only []
  rw [hend,hcw.sub g1,if_pos (b46 hl hwl hpv)]
  rfl
 have hlt:i < s.length:=by have:=List.length_pos_iff.2 hp0;omega
 have hcc':33≤bt p 0∧bt p 0≤126∧bt p 0 ≠ 40∧bt p 0 ≠ 41∧bt p 0 ≠ 39∧bt p 0 ≠ 34∧bt p 0 ≠ 59∧bt p 0 ≠ 124∧bt p 0 ≠ 58:=by simpa [A5] using hcc
 have hcom:has s i 35 124=false:=by
  cases p with
  | nil=>exact absurd rfl hp0
  | cons c p =>
   have:bt s (i+1) ≠ 124:=by
    cases p with
    | nil =>
     have:=hcol.bt (j:=0) (by simp)
     rw [Nat.add_zero] at this
     rw [show i+[c].length=i+1 from rfl] at this
     rw [this];decide
    | cons d p =>
     have hb:=ha.bt (j:=1) (by simp)
     have hc:=hp 1 (by simp)
     rw [hb]
     intro e
     rw [e] at hc
     exact absurd hc dE
   simp [has];intro _ _;exact this
 rw [b1g hlt (by rw [hb0];simp [G9];omega) (by rw [hb0];omega) hcom hone]
 congr 1
 simp;omega
theorem d82 {s r p w:i6} {i:Nat} {acc:List x5} (h:At s i (p ++ (58 :: 58 :: H4 124 w)) r) (hp:a1f p) (hp0:p ≠ []) (hpv:t6 p=true) (hl:w.length≤40) (h0:0 < w.length):p8 s i acc=p8 s (i+(p ++ (58 :: 58 :: H4 124 w)).length) (acc ++ [⟨6,i,p,w,[]⟩]):=by
 obtain ⟨ha,hb⟩:=h.app
 have hcw:At s (i+p.length+2) (H4 124 w) r:=by
  have:At s (i+p.length) ([58,58] ++ H4 124 w) r:=hb
  exact this.app.2
 have hcol:At s (i+p.length) [58,58] (H4 124 w ++ r):=by
  have:At s (i+p.length) ([58,58] ++ H4 124 w) r:=hb
  exact this.app.1
 have he:=a6g ha hp (.inr (by show A5 (bt (58 :: 58 :: H4 124 w ++ r) 0)=false;rw [List.cons_append,bt0];decide))
 have hcc:=hp 0 (List.length_pos_iff.2 hp0)
 have hb0:=ha.bt (j:=0) (List.length_pos_iff.2 hp0)
 rw [Nat.add_zero] at hb0
 have hbw:=hcw.hd.1
 have hlen:=h.len (by simp)
 simp only [List.length_append,List.length_cons,a7a] at hlen
 have hhas:has s (i+p.length) 58 58=true:=by
  have c0:=hcol.bt (j:=0) (by simp)
  have c1:=hcol.bt (j:=1) (by simp)
  rw [Nat.add_zero] at c0
  simp [has,c0,c1]
  refine ⟨oM,dE,dE⟩
 have h2:At s (i+p.length+2+1) (K7 124 w) (124 :: r):=by
  have:At s (i+p.length+2) ([124] ++ K7 124 w) (124 :: r):=by unfold At at *;rw [hcw];simp [H4]
  exact this.app.2
 have hen:=a68 (c:=124) dE (acc:=[]) h2
 have hen:J5 s 124 (i+p.length+2+1) []=.ok ([] ++ a1z w,i+p.length+2+1+(K7 124 w).length+1):=hen
 have hone:B7 s i=.ok (⟨6,i,p,w,[]⟩,i+p.length+2+1+(K7 124 w).length+1):=by
  rw [b61 (by rw [hb0];exact hcc),he,if_pos hhas,ha.sub hp0]
  unfold L0
  rw [if_pos oM,hbw,if_pos dE,hen]
  simp only [List.nil_append]
  rw [a8g,if_pos (b46 hl h0 hpv)]
  rfl
 have hlt:i < s.length:=by have:=List.length_pos_iff.2 hp0;omega
 have hcc':33≤bt p 0∧bt p 0≤126∧bt p 0 ≠ 40∧bt p 0 ≠ 41∧bt p 0 ≠ 39∧bt p 0 ≠ 34∧bt p 0 ≠ 59∧bt p 0 ≠ 124∧bt p 0 ≠ 58:=by simpa [A5] using hcc
 have hcom:has s i 35 124=false:=by
  cases p with
  | nil=>exact absurd rfl hp0
  | cons c p =>
   have:bt s (i+1) ≠ 124:=by
    cases p with
    | nil =>
     have:=hcol.bt (j:=0) (by simp)
     rw [Nat.add_zero] at this
     rw [show i+[c].length=i+1 from rfl] at this
     rw [this];decide
    | cons d p =>
     have hb:=ha.bt (j:=1) (by simp)
     have hc:=hp 1 (by simp)
     rw [hb]
     intro e
     rw [e] at hc
     exact absurd hc dE
   simp [has];intro _ _;exact this
 rw [b1g hlt (by rw [hb0];simp [G9];omega) (by rw [hb0];omega) hcom hone]
 congr 1
 simp [a7a];omega
structure Pre (s t:i6):Prop where
 le:s.length≤t.length
 bt:∀ i,i < s.length→bt t i=bt s i
 pos:0 < s.length
 last:LQ.bt s (s.length - 1)=32
 tk:t.take s.length=s
section
variable {s t:i6} (P:Pre s t)
include P
end
end LQ
namespace LQ
open Go
theorem V5:∀ n:Nat,Lib.decDigits n=i7 n:=by
 intro n
 induction n using Nat.strongRecOn with
 | _ n ih =>
  unfold Lib.decDigits
  by_cases h:n < 10
  ·simp only [h,dite_true,if_true]
   by_cases h0:n=0
   ·subst h0;rfl
   ·unfold i7
    rw [if_neg h0,F4 h0,show n / 10=0 by omega,y9,Nat.mod_eq_of_lt h]
    rfl
  ·simp only [h,dite_false,if_false]
   rw [ih (n / 10) oM]
   have h1:¬n / 10=0:=oM
   have h0:¬n=0:=oM
   unfold i7
   rw [if_neg h1,if_neg h0,F4 h0,List.reverse_cons,List.map_append]
   rfl
theorem itoa_showNat (n:Nat):Lib.itoa (n:Int)=i7 n:=by
 unfold Lib.itoa
 rw [if_neg oM,V5,show ((n:Int)).toNat=n by omega]
theorem d3i {n k:Nat} (h:n < 10 ^ k):(j7 n).length≤k:=by
 induction k generalizing n with
 | zero=>rw [show n=0 by simpa using h,y9];simp
 | succ k ih =>
  by_cases h0:n=0
  ·rw [h0,y9];simp
  ·rw [F4 h0,List.length_cons]
   have:=ih (n:=n / 10) (by rw [Nat.pow_succ] at h;omega)
   omega
theorem b7h {m:Nat} (hm:m ≠ 0):∀ (k d:Nat),d < 10 ^ k→j7 (d+10 ^ k * m)=j7 d ++ (List.replicate (k - (j7 d).length) 0 ++ j7 m)
 | 0,d,h=>by
  have:d=0:=by simpa using h
  subst this
  simp [y9]
 | k+1,d,h=>by
  have h':d / 10 < 10 ^ k:=by rw [Nat.pow_succ] at h;omega
  have e1:d+10 ^ (k+1) * m=d+10 * (10 ^ k * m):=by rw [Nat.pow_succ,Nat.mul_comm (10 ^ k) 10,Nat.mul_assoc]
  have hp:0 < 10 ^ k * m:=Nat.mul_pos (Nat.pow_pos dE) (Nat.pos_of_ne_zero hm)
  rw [e1,F4 oM,show (d+10 * (10 ^ k * m)) % 10=d % 10 by omega,show (d+10 * (10 ^ k * m)) / 10=d / 10+10 ^ k * m by omega,b7h hm k (d / 10) h']
  by_cases h0:d=0
  ·subst h0;simp [y9,List.replicate_succ]
  ·rw [F4 h0,List.length_cons,List.cons_append,show k+1 - ((j7 (d / 10)).length+1)=k - (j7 (d / 10)).length by omega]
theorem showNat_len9 {n:Nat} (h:n < 1000000000):(i7 n).length≤9:=by
 by_cases h0:n=0
 ·subst h0;decide
 ·unfold i7;rw [if_neg h0];simpa using d3i (k:=9) h
theorem c33 {m d:Nat} (hm:m ≠ 0) (hd:d < 1000000000):i7 (d+B9 * m)=i7 m ++ (List.replicate (9 - (i7 d).length) 48 ++ i7 d):=by
 have hB:B9=10 ^ 9:=rfl
 have hp:0 < B9 * m:=Nat.mul_pos dE (Nat.pos_of_ne_zero hm)
 have e:i7 (d+B9 * m)=(j7 (d+10 ^ 9 * m)).reverse.map (fun d=>UInt8.ofNat (48+d)):=by unfold i7;rw [if_neg oM,hB]
 rw [e,b7h hm 9 d hd]
 have e2:i7 m=(j7 m).reverse.map (fun d=>UInt8.ofNat (48+d)):=by unfold i7;rw [if_neg hm]
 rw [e2]
 simp only [List.reverse_append,List.map_append,List.reverse_replicate,List.map_replicate]
 by_cases h0:d=0
 ·subst h0;rw [y9];simp;decide
 ·have e3:i7 d=(j7 d).reverse.map (fun d=>UInt8.ofNat (48+d)):=by unfold i7;rw [if_neg h0]
  rw [e3];simp
end LQ
