/- Limbs of nine digits: no program in sight. -/
import Derived.Test.YtffaodopiifbkaaGreatDoorCP
import Derived.Lib.ItoaNum
set_option linter.all false
namespace LQ
def B9:Nat:=1000000000
def n7 (n:Nat):List Nat:=if h:n=0 then [] else n % B9 :: n7 (n / B9)
termination_by n
decreasing_by exact Nat.div_lt_self (Nat.pos_of_ne_zero h) (by decide)
def m9:List Nat→Nat
 | []=>0
 | d :: t=>d+B9 * m9 t
def LB (l:List Nat):Prop:=∀ d ∈ l,d < B9
theorem G7:n7 0=[]:=by rw [n7];simp
theorem Y4 {n:Nat} (h:n ≠ 0):n7 n=n % B9 :: n7 (n / B9):=by rw [n7,dif_neg h]
theorem G8 (n:Nat):m9 (n7 n)=n:=by
 induction n using Nat.strongRecOn with
 | _ n ih =>
  by_cases h:n=0
  ·subst h;rw [G7];rfl
  ·rw [Y4 h,m9,ih (n / B9) (Nat.div_lt_self (Nat.pos_of_ne_zero h) (by decide))]
   unfold B9;omega
theorem N1 (n:Nat):LB (n7 n):=by
 induction n using Nat.strongRecOn with
 | _ n ih =>
  by_cases h:n=0
  ·subst h;rw [G7];intro d hd;simp at hd
  ·rw [Y4 h];intro d hd;simp at hd
   rcases hd with rfl | hd
   ·exact Nat.mod_lt _ (by decide)
   ·exact ih (n / B9) (Nat.div_lt_self (Nat.pos_of_ne_zero h) (by decide)) d hd
theorem c2m {d m:Nat} (hd:d < B9) (h:d ≠ 0∨m ≠ 0):n7 (d+B9 * m)=d :: n7 m:=by
 unfold B9 at hd
 rw [Y4 (by unfold B9;omega)];congr 1
 ·unfold B9;omega
 ·congr 1;unfold B9;omega
theorem Q8 (a b:List Nat):m9 (a ++ b)=m9 a+B9 ^ a.length * m9 b:=by
 induction a with
 | nil=>simp [m9]
 | cons d t ih=>simp only [List.cons_append,m9,ih,List.length_cons,Nat.pow_succ];rw [Nat.mul_add,← Nat.mul_assoc,Nat.mul_comm (B9 ^ t.length) B9];omega
theorem d6j (t:List Nat) (d:Nat) (h9:LB (t ++ [d])) (hd:d ≠ 0):n7 (m9 (t ++ [d]))=t ++ [d]:=by
 induction t with
 | nil =>
  have:d < B9:=h9 d (by simp)
  simp only [List.nil_append,m9]
  rw [c2m this (.inl hd),G7]
 | cons x t ih =>
  simp only [List.cons_append,m9]
  rw [c2m (h9 x (by simp)),ih (fun y hy=>h9 y (by simp at hy ⊢;exact .inr hy))]
  refine .inr fun h0=>hd ?_
  have h2:=Q8 t [d]
  rw [h0] at h2
  simp only [m9] at h2
  have h3:0 < B9 ^ t.length:=Nat.pow_pos (by decide)
  rw [Nat.mul_zero,Nat.add_zero] at h2
  have h4:B9 ^ t.length * d=0:=by omega
  rcases Nat.mul_eq_zero.1 h4 with h | h <;> omega
theorem d09 (l:List Nat) (h9:LB l) (n:Nat) (hn:n≤l.length):l.take (R1 l n)=n7 (m9 (l.take n)):=by
 induction n with
 | zero=>simp [R1,m9,G7]
 | succ n ih =>
  have hlt:n < l.length:=by omega
  have htk:l.take (n+1)=l.take n ++ [l.getD n 0]:=by
   rw [List.take_succ_eq_append_getElem hlt];simp [List.getD,hlt]
  simp only [R1]
  split
  ·rename_i h0
   rw [ih (by omega),htk,h0,Q8]
   simp [m9]
  ·rename_i h0
   rw [htk,d6j _ _ _ h0]
   intro d hd
   rw [← htk] at hd
   exact h9 d (List.mem_of_mem_take hd)
theorem a01 (l:List Nat) (h9:LB l):F2 l=n7 (m9 l):=by
 unfold F2;rw [d09 l h9 l.length (Nat.le_refl _),List.take_length]
theorem U8 (l:List Nat) (h9:LB l):m9 l < B9 ^ l.length:=by
 induction l with
 | nil=>simp [m9]
 | cons d t ih =>
  have h1:=ih (fun x hx=>h9 x (by simp [hx]))
  have h2:d < B9:=h9 d (by simp)
  simp only [m9,List.length_cons,Nat.pow_succ]
  unfold B9 at *
  omega
theorem c1m (n:Nat) (h:n ≠ 0):B9 ^ ((n7 n).length - 1)≤n:=by
 induction n using Nat.strongRecOn with
 | _ n ih =>
  rw [Y4 h]
  simp only [List.length_cons,Nat.add_sub_cancel]
  by_cases h1:n / B9=0
  ·rw [h1,G7];simp;omega
  ·have:=ih (n / B9) (Nat.div_lt_self (Nat.pos_of_ne_zero h) (by decide)) h1
   have h2:(n7 (n / B9)).length ≠ 0:=by rw [Y4 h1];simp
   have h3:B9 ^ (n7 (n / B9)).length=B9 * B9 ^ ((n7 (n / B9)).length - 1):=by
    rw [← Nat.pow_succ'];congr 1;omega
   rw [h3]
   have h4:=Nat.mul_le_mul_left B9 this
   have h5:B9 * (n / B9)≤n:=Nat.mul_div_le n B9
   omega
theorem c2q (a b:List Nat) (ha:LB a) (hb:LB b) (n:Nat) (hna:n≤a.length) (hnb:n≤b.length) :
  G6 a b n=if m9 (a.take n) < m9 (b.take n) then -1 else if m9 (b.take n) < m9 (a.take n) then 1 else 0:=by
 induction n with
 | zero=>simp [G6,m9]
 | succ n ih =>
  have hla:n < a.length:=by omega
  have hlb:n < b.length:=by omega
  have e1:a.take (n+1)=a.take n ++ [a.getD n 0]:=by rw [List.take_succ_eq_append_getElem hla];simp [List.getD,hla]
  have e2:b.take (n+1)=b.take n ++ [b.getD n 0]:=by rw [List.take_succ_eq_append_getElem hlb];simp [List.getD,hlb]
  have v1:=Q8 (a.take n) [a.getD n 0]
  have v2:=Q8 (b.take n) [b.getD n 0]
  have l1:(a.take n).length=n:=by simp;omega
  have l2:(b.take n).length=n:=by simp;omega
  have b1:=U8 (a.take n) (fun d hd=>ha d (List.mem_of_mem_take hd))
  have b2:=U8 (b.take n) (fun d hd=>hb d (List.mem_of_mem_take hd))
  rw [l1] at v1 b1
  rw [l2] at v2 b2
  simp only [m9,Nat.mul_zero,Nat.add_zero] at v1 v2
  rw [e1,e2,v1,v2]
  simp only [G6]
  rw [ih (by omega) (by omega)]
  generalize a.getD n 0=x at *
  generalize b.getD n 0=y at *
  generalize m9 (a.take n)=p at *
  generalize m9 (b.take n)=q at *
  generalize B9 ^ n=P at *
  by_cases h1:x < y
  ·have:P * (x+1)≤P * y:=Nat.mul_le_mul_left P h1
   rw [Nat.mul_add,Nat.mul_one] at this
   rw [if_pos h1,if_pos (by omega)]
  ·rw [if_neg h1]
   by_cases h2:y < x
   ·have:P * (y+1)≤P * x:=Nat.mul_le_mul_left P h2
    rw [Nat.mul_add,Nat.mul_one] at this
    rw [if_pos h2,if_neg (by omega),if_pos (by omega)]
   ·rw [if_neg h2]
    have h3:x=y:=by omega
    subst h3
    simp only [Nat.add_lt_add_iff_right]
theorem c3p (x y:Nat):P8 (n7 x) (n7 y)=if x < y then -1 else if y < x then 1 else 0:=by
 unfold P8
 split
 ·rename_i h
  rw [c2q _ _ (N1 x) (N1 y) _ (Nat.le_refl _) (by omega),List.take_length,h,List.take_length,G8,G8]
 ·rename_i h
  have b1:=U8 (n7 x) (N1 x)
  have b2:=U8 (n7 y) (N1 y)
  rw [G8] at b1 b2
  split
  ·rename_i h2
   have hy:y ≠ 0:=by intro e;rw [e,G7] at h2;simp at h2
   have g2:=c1m y hy
   have:B9 ^ (n7 x).length≤B9 ^ ((n7 y).length - 1):=Nat.pow_le_pow_right (by decide) (by omega)
   rw [if_pos (by omega)]
  ·rename_i h2
   have hx:x ≠ 0:=by intro e;rw [e,G7] at h h2;simp only [List.length_nil] at h h2;omega
   have g1:=c1m x hx
   have:B9 ^ (n7 y).length≤B9 ^ ((n7 x).length - 1):=Nat.pow_le_pow_right (by decide) (by omega)
   rw [if_neg (by omega),if_pos (by omega)]
theorem b6s {a b:Nat} (h:n7 a=n7 b):a=b:=by rw [← G8 a,h,G8]
theorem a7m {n k:Nat} (h:n < B9 ^ k):(n7 n).length≤k:=by
 by_cases h0:n=0
 ·subst h0;simp [G7]
 ·have h1:=c1m n h0
  by_cases h2:(n7 n).length≤k
  ·exact h2
  ·have:B9 ^ k≤B9 ^ ((n7 n).length - 1):=Nat.pow_le_pow_right (by decide) (by omega)
   omega
theorem d5k (x r:Nat) (hx:x < B9):F2 (x :: n7 r)=n7 (x+B9 * r):=by
 rw [a01]
 ·simp only [m9,G8]
 ·intro d hd
  rcases List.mem_cons.1 hd with rfl | hd
  ·exact hx
  ·exact N1 r d hd
end LQ
namespace LQ
theorem d0l (l:List Nat) (i:Nat) (h:i < l.length):m9 (l.drop i)=l.getD i 0+B9 * m9 (l.drop (i+1)):=by
 rw [List.drop_eq_getElem_cons h];simp [m9,List.getD,h]
theorem b6n (l:List Nat) (i:Nat) (h:i < l.length):m9 (l.take (i+1))=m9 (l.take i)+B9 ^ i * l.getD i 0:=by
 have e:l.take (i+1)=l.take i ++ [l.getD i 0]:=by rw [List.take_succ_eq_append_getElem h];simp [List.getD,h]
 rw [e,Q8]
 have:(l.take i).length=i:=by simp;omega
 rw [this];simp [m9]
theorem c3g (l:List Nat) (i x:Nat) (h:i < l.length):m9 (l.set i x)+B9 ^ i * l.getD i 0=m9 l+B9 ^ i * x:=by
 induction l generalizing i with
 | nil=>simp at h
 | cons d t ih =>
  cases i with
  | zero=>simp [m9,List.getD];omega
  | succ i =>
   have:=ih i (by simpa using h)
   simp only [List.set_cons_succ,m9,Nat.pow_succ,List.getD_cons_succ]
   have e1:B9 ^ i * B9 * t.getD i 0=B9 * (B9 ^ i * t.getD i 0):=by rw [Nat.mul_comm (B9 ^ i) B9,Nat.mul_assoc]
   have e2:B9 ^ i * B9 * x=B9 * (B9 ^ i * x):=by rw [Nat.mul_comm (B9 ^ i) B9,Nat.mul_assoc]
   rw [e1,e2]
   have e3:B9 * (m9 (t.set i x)+B9 ^ i * t.getD i 0)=B9 * (m9 t+B9 ^ i * x):=by rw [this]
   rw [Nat.mul_add,Nat.mul_add] at e3
   omega
theorem a28 {l:List Nat} (h:LB l) (i x:Nat) (hx:x < B9):LB (l.set i x):=fun d hd=>by
 rcases List.mem_or_eq_of_mem_set hd with h1 | rfl
 ·exact h d h1
 ·exact hx
theorem a4s {l:List Nat} (h:LB l) (i:Nat):l.getD i 0 < B9:=by
 by_cases hi:i < l.length
 ·simp only [List.getD,List.getElem?_eq_getElem hi,Option.getD_some];exact h _ (List.getElem_mem hi)
 ·simp only [List.getD,List.getElem?_eq_none (Nat.le_of_not_lt hi),Option.getD_none];decide
theorem c7m (n:Nat):m9 (List.replicate n 0)=0:=by
 induction n with
 | zero=>rfl
 | succ n ih=>simp [List.replicate_succ,m9,ih]
def C2 (s:i7):Nat:=A0 s 0 0
theorem c42 (a b:i7) (k acc:Nat) (hk:k≤a.length):A0 (a ++ b) k acc=A0 b 0 (A0 a k acc):=by
 fun_induction A0 a k acc with
 | case1 k acc h ih =>
  rw [A0,if_pos (by simp;omega),← ih (by omega)]
  congr 2
  have:bt (a ++ b) k=bt a k:=by unfold bt;simp [List.getD,List.getElem?_append_left h]
  rw [this]
 | case2 k acc h =>
  have hk':k=a.length:=by omega
  subst hk'
  clear h hk
  have:∀ (j acc:Nat),A0 (a ++ b) (a.length+j) acc=A0 b j acc:=by
   intro j acc
   fun_induction A0 b j acc with
   | case1 j acc h ih =>
    rw [A0,if_pos (by simp;omega),← ih,Nat.add_assoc]
    congr 2
    have:bt (a ++ b) (a.length+j)=bt b j:=by unfold bt;simp only [List.getD];rw [List.getElem?_append_right (Nat.le_add_right _ _),Nat.add_sub_cancel_left]
    rw [this]
   | case2 j acc h=>rw [A0,if_neg (by simp;omega)]
  exact this 0 acc
theorem b8k (a b:i7):C2 (a ++ b)=C2 a * 10 ^ b.length+C2 b:=by
 unfold C2
 rw [c42 a b 0 0 (Nat.zero_le _),c35 b 0 _ (Nat.zero_le _)];simp
theorem b43 (c:UInt8) (s:i7):C2 (c :: s)=(bt [c] 0 - 48).toNat * 10 ^ s.length+C2 s:=by
 rw [show c :: s=[c] ++ s from rfl,b8k]
 congr 2
 unfold C2
 rw [A0,if_pos (by simp),A0,if_neg (by simp)];omega
theorem c10 (s:i7) (h:∀ j,j < s.length→48≤bt s j∧bt s j≤57):C2 s < 10 ^ s.length:=by
 induction s with
 | nil=>unfold C2;rw [A0,if_neg (by simp)];simp
 | cons c s ih =>
  rw [b43,List.length_cons,Nat.pow_succ]
  have h0:=h 0 (by simp)
  have e:bt [c] 0=bt (c :: s) 0:=rfl
  have:=ih fun j hj=>by have:=h (j+1) (by simpa using hj);rwa [a04] at this
  have h1:(bt [c] 0 - 48).toNat≤9:=by rw [e];omega
  have:=Nat.mul_le_mul_right (10 ^ s.length) h1
  omega
end LQ
namespace LQ
theorem d3m (s:i7) (e k:Nat) (hk:k≤s.length) (h:∀ j,e≤j→j < k→48≤bt s j∧bt s j≤57) :
  (y9 s e k []).reverse.map (fun d=>UInt8.ofNat (48+d))=(s.take k).drop e:=by
 induction k with
 | zero=>simp [y9]
 | succ k ih =>
  by_cases he:e≤k
  ·rw [a5o s e k he,List.reverse_cons,List.map_append,ih (by omega) (fun j h1 h2=>h j h1 (by omega))]
   have hlt:k < s.length:=by omega
   rw [List.take_succ_eq_append_getElem hlt,List.drop_append_of_le_length (by simp;omega)]
   congr 1
   have:=h k he (by omega)
   have hb:bt s k=(s[k].toNat:Int):=by unfold bt;simp [List.getD,List.getElem?_eq_getElem hlt]
   rw [hb] at this ⊢
   simp only [List.map_cons,List.map_nil,List.cons.injEq,and_true]
   apply UInt8.toNat_inj.1
   rw [UInt8.toNat_ofNat']
   have:=s[k].toNat_lt
   omega
  ·rw [y9,if_neg he,List.drop_eq_nil_of_le (by simp;omega)];rfl
theorem d1g {s:i7} (h1:C0 s=true) (h2:s ≠ A5):j0 s < s.length∧bt s (j0 s) ≠ 48∧(∀ j,j0 s≤j→j < s.length→48≤bt s j∧bt s j≤57) ∧
  y9 s (j0 s) s.length []=j7 (i6 s).natAbs∧(i6 s).natAbs ≠ 0∧(j0 s=1↔i6 s < 0):=by
 have h3:j0 s < s.length∧bt s (j0 s) ≠ 48∧m6 s (j0 s)=s.length:=by
  simp [C0,h2] at h1;exact ⟨h1.1.1,h1.1.2,h1.2⟩
 have hall:∀ j,j0 s≤j→j < s.length→48≤bt s j∧bt s j≤57:=fun j a b=>Y3 s (j0 s) j a (by omega)
 have e:=b1o s
 unfold Z2 at e
 rw [if_pos ⟨h1,h2⟩] at e
 injection e with e1 e2
 obtain ⟨t,ht⟩:=c1x s (j0 s) s.length h3.1
 refine ⟨h3.1,h3.2.1,hall,e2,fun h0=>?_,by simpa using e1⟩
 rw [h0,B4,ht] at e2
 simp at e2
theorem d1n {s:i7} (h:j0 s=1):s=45 :: s.drop 1:=by
 unfold j0 at h
 split at h
 ·rename_i hh
  cases s with
  | nil=>simp at hh
  | cons c s =>
   have:(c.toNat:Int)=45:=hh.2
   simp only [List.drop_succ_cons,List.drop_zero,List.cons.injEq,and_true]
   exact UInt8.toNat_inj.1 (by show c.toNat=45;omega)
 ·omega
theorem d34 {s:i7} (h:C0 s=true):j6 (i6 s)=s:=by
 by_cases h2:s=A5
 ·subst h2;rw [a7c];decide
 ·obtain ⟨q1,q2,q3,q4,q5,q6⟩:=d1g h h2
  have ht:=d3m s (j0 s) s.length (Nat.le_refl _) q3
  rw [q4,List.take_length] at ht
  have e:j5 (i6 s).natAbs=s.drop (j0 s):=by unfold j5;rw [if_neg q5];exact ht
  unfold j6
  rw [e]
  by_cases hs:j0 s=1
  ·rw [if_pos (q6.1 hs),hs];exact (d1n hs).symm
  ·rw [if_neg (fun k=>hs (q6.2 k))]
   have:j0 s=0:=by have:=L6 s;omega
   rw [this];rfl
theorem b90 (n:Nat):C0 (j5 n)=true:=by
 by_cases h:n=0
 ·subst h;decide
 ·obtain ⟨h1,h2,h3⟩:=a2k n h
  have hsg0:j0 (j5 n)=0:=by unfold j0;rw [if_neg];have:=h1 0 (Nat.le_refl _) h3;omega
  unfold C0
  rw [hsg0,V2 _ 0 (Nat.zero_le _) h1]
  simp [h2];right;omega
def L2 (s:i7):i7:=if C0 s then s else A5
theorem a02 (s:i7):L2 s=j6 (i6 s):=by
 unfold L2
 split
 ·rename_i h;exact (d34 h).symm
 ·rename_i h
  have:i6 s=0:=by unfold i6;rw [if_neg h]
  rw [this];decide
theorem a2r (n:Nat):j6 (n:Int)=j5 n:=by unfold j6;rw [if_neg (by omega)];rfl
def d2j (s:i7):i7:=j6 (-i6 s)
theorem a2o (a b:Int) (hb:0 < b):u9 (j6 a) (j6 b)=(j6 (a / (Nat.gcd a.natAbs b.natAbs:Int)),j6 (b / (Nat.gcd a.natAbs b.natAbs:Int))):=by
 unfold u9
 rw [B0,B0,if_neg (by omega)]
 simp only []
 have hg:0 < Nat.gcd a.natAbs b.natAbs:=Nat.gcd_pos_of_pos_right _ (by omega)
 have hd1:=Nat.gcd_dvd_left a.natAbs b.natAbs
 have hd2:=Nat.gcd_dvd_right a.natAbs b.natAbs
 generalize Nat.gcd a.natAbs b.natAbs=g at *
 have e2:b / (g:Int)=((b.natAbs / g:Nat):Int):=by
  conv=>lhs;rw [show b=(b.natAbs:Int) by omega]
  rfl
 have e1:a / (g:Int)=(if (a < 0)=(b < 0) then 1 else -1) * ((a.natAbs / g:Nat):Int):=by
  obtain ⟨k,hk⟩:=hd1
  rw [hk,Nat.mul_div_cancel_left _ hg]
  by_cases h:a < 0
  ·rw [if_neg (by simp [h];omega)]
   have:a=(g:Int) * (-(k:Int)):=by
    have:((a.natAbs:Nat):Int)=(g:Int) * (k:Int):=by rw [hk];simp
    rw [Int.mul_neg];omega
   rw [this,Int.mul_ediv_cancel_left _ (by omega)];omega
  ·rw [if_pos (by simp [h];omega)]
   have:a=(g:Int) * (k:Int):=by
    have:((a.natAbs:Nat):Int)=(g:Int) * (k:Int):=by rw [hk];simp
    omega
   rw [this,Int.mul_ediv_cancel_left _ (by omega)];omega
 rw [e1,e2,a2r]
end LQ
namespace LQ
def At (s:i7) (i:Nat) (w r:i7):Prop:=s.drop i=w ++ r
theorem At.bt {s w r:i7} {i j:Nat} (h:At s i w r) (hj:j < w.length):LQ.bt s (i+j)=LQ.bt w j:=by
 unfold LQ.bt
 have:s[i+j]?=w[j]?:=by rw [← List.getElem?_drop,h,List.getElem?_append_left hj]
 simp only [List.getD,this]
theorem At.btr {s w r:i7} {i j:Nat} (h:At s i w r):LQ.bt s (i+w.length+j)=LQ.bt r j:=by
 unfold LQ.bt
 have:s[i+w.length+j]?=r[j]?:=by rw [Nat.add_assoc,← List.getElem?_drop,h,List.getElem?_append_right (Nat.le_add_right _ _),Nat.add_sub_cancel_left]
 simp only [List.getD,this]
def Del (r:i7):Prop:=r=[]∨bt r 0=32∨bt r 0=41∨bt r 0=10
def a5s (l:i7):List Int:=l.map fun b=>(b.toNat:Int)
theorem b8q (l:i7):F1 (a5s l)=l:=by
 unfold F1 a5s
 rw [List.map_map]
 conv=>rhs;rw [← List.map_id l]
 exact List.map_congr_left fun b _=>by simp
theorem V3 {s:i7} {i j:Nat} (hi:i≤s.length) (h:skip s i=some j):i≤j∧j≤s.length:=by
 fun_induction skip s i with
 | case1 i h1 h2 ih=>have:=ih (by omega) h;omega
 | case2 i h1 h2 h3 h4 ih=>have:=a1q s i (by omega);have:=ih (by omega) h;omega
 | case3 i h1 h2 h3 h4=>injection h with h;omega
 | case4 i h1 h2 h3 h4 h5=>cases h
 | case5 i h1 h2 h3 h4 j' h5 h6 ih=>have:=K5 h4;have:=a6k s (i+2) 1 j' (by omega) h5;have:=ih (by omega) h;omega
 | case6 i h1 h2 h3 h4 j' h5 h6=>injection h with h;omega
 | case7 i h1 h2 h3 h4=>injection h with h;omega
 | case8 i h1=>injection h with h;omega
theorem b7r {s:i7} {c:Int} {i:Nat} {acc l:List Int} {j:Nat} (h:encl s c i acc=.ok (l,j)):i < j∧j≤s.length:=by
 fun_induction encl s c i acc with
 | case1 i acc h1 h2=>injection h with h;injection h with h3 h4;omega
 | case2 i acc h1 h2 h3 ih=>have:=ih h;omega
 | case3=>cases h
 | case4 i acc h1 h2 h3 h4 h5 ih=>have:=ih h;omega
 | case5=>cases h
 | case6=>cases h
theorem W5 {s:i7} {i k:Nat} {t:B5} (hi:i < s.length) (h:B7 s i=.ok (t,k)):i < k∧k≤s.length:=by
 unfold B7 at h
 repeat' split at h
 all_goals try (cases h;done)
 all_goals try (injection h with h;injection h with h1 h2;subst h2;omega)
 all_goals try (rename_i h0 _;have:=b7r h0;injection h with h;injection h with h1 h2;subst h2;omega)
 ·rename_i hc _
  have hw:=F9 s i (by omega)
  have hw2:i < l7 s i:=by rw [l7,if_pos hi,if_pos hc];have:=F9 s (i+1) (by omega);omega
  unfold H4 at h
  repeat' split at h
  all_goals try (cases h;done)
  all_goals try (rename_i h0 _;have:=b7r h0;injection h with h;injection h with h1 h2;subst h2;omega)
  all_goals (simp only [] at h;split at h;all_goals try (cases h;done)
             all_goals (injection h with h;injection h with h1 h2;have:=F9 s (l7 s i+2) (by omega);subst h2;omega))
 ·rename_i hc _
  have hw:=F9 s i (by omega)
  have hw2:i < l7 s i:=by rw [l7,if_pos hi,if_pos hc];have:=F9 s (i+1) (by omega);omega
  unfold F4 at h
  repeat' split at h
  all_goals try (cases h;done)
  all_goals try (simp only [] at h;split at h)
  all_goals try (cases h;done)
  all_goals (injection h with h;injection h with h1 h2;subst h2;omega)
theorem X9 {s:i7} {i:Nat} {acc:List B5} (hi:i≤s.length):E8 s i acc=match skip s i with
  | none=>.error (11,s.length)
  | some j=>if j < s.length then match B7 s j with
   | .error e=>.error e
   | .ok (t,k)=>E8 s k (acc ++ [t])
   else .ok (acc ++ [⟨0,s.length,y3,y3,y3⟩]):=by
 rw [E8]
 cases hs:skip s i with
 | none=>rfl
 | some j =>
  have h1:=V3 hi hs
  simp only
  by_cases hj:j < s.length
  ·rw [if_pos hj,if_pos hj]
   cases ht:B7 s j with
   | error e=>rfl
   | ok p =>
    have h2:=W5 (t:=p.1) (k:=p.2) hj ht
    simp only
    rw [if_pos (by omega)]
  ·rw [if_neg hj,if_neg hj]
end LQ
namespace LQ
def e20 (w:i7):Prop:=∀ j,j < w.length→48≤bt w j∧bt w j≤57
theorem a1p (n:Nat):e20 (j5 n):=by
 by_cases h:n=0
 ·subst h;intro j hj;have:j=0:=by simp [j5,A5] at hj;omega
  subst this;decide
 ·exact fun j hj=>(a2k n h).1 j (Nat.zero_le _) hj
theorem c8o (n:Nat):j5 n ≠ []:=by
 by_cases h:n=0
 ·subst h;decide
 ·intro e;have:=(a2k n h).2.2;rw [e] at this;simp at this
theorem Z8 (n:Nat):0 < (j5 n).length:=List.length_pos_iff.2 (c8o n)
theorem c9z {s w r:i7} {i:Nat} (h:At s i w r) (hw:e20 w) (hr:r=[]∨¬(48≤bt r 0∧bt r 0≤57)):m6 s i=i+w.length:=by
 have key:∀ n j,w.length - j=n→j≤w.length→m6 s (i+j)=i+w.length:=by
  intro n
  induction n with
  | zero =>
   intro j hj hle
   have:j=w.length:=by omega
   subst this
   rw [m6]
   split
   ·rename_i hlt
    have hb:=h.btr (j:=0)
    rw [Nat.add_zero] at hb
    rcases hr with hr | hr
    ·exfalso
     subst hr
     have:=congrArg List.length h
     simp at this;omega
    ·rw [if_neg];rw [hb];simp [Q2];omega
   ·rfl
  | succ n ih =>
   intro j hj hle
   have hlt:i+j < s.length:=by
    have:=congrArg List.length h
    simp at this;omega
   have:=hw j (by omega)
   rw [m6,if_pos hlt,if_pos (by rw [h.bt (by omega)];simp [Q2];omega),Nat.add_assoc]
   exact ih (j+1) (by omega) (by omega)
 exact key _ 0 rfl (Nat.zero_le _)
def sgn (n:Int):i7:=if n < 0 then [45] else []
theorem a3z (n:Int):j6 n=sgn n ++ j5 n.natAbs:=by unfold j6 sgn;split <;> rfl
theorem c4n (n:Int) (d:Nat) (r:i7):j0 (sgn n ++ (j5 d ++ r))=(sgn n).length:=by
 unfold sgn
 split
 ·unfold j0;rw [if_pos ⟨by simp,rfl⟩];rfl
 ·unfold j0
  rw [if_neg];· rfl
  intro h
  have h0:=(a1p d) 0 (Z8 d)
  have:bt ([] ++ (j5 d ++ r)) 0=bt (j5 d) 0:=by
   have h1:At (j5 d ++ r) 0 (j5 d) r:=rfl
   have:=h1.bt (j:=0) (Z8 d)
   simpa using this
  rw [this] at h
  omega
theorem c1u {s:i7} {i:Nat} (h:¬(i < s.length∧bt s i=48)):C5 s i=i:=by
 rw [C5]
 split
 ·rw [if_neg (fun k=>h ⟨‹_›,k⟩)]
 ·rfl
theorem b2e (n:Nat):G4 (j5 n)=(j5 n).length:=by
 unfold G4
 rw [E5,Int.natAbs_natCast]
 by_cases h:n=0
 ·subst h;simp [B4,j5,A5]
 ·rw [← P1 n h];have:=Z8 n;omega
theorem c46 (n:Int):G4 (j6 n)=(j5 n.natAbs).length:=by
 have:=b2e n.natAbs
 unfold G4 at this ⊢
 rw [E5,Int.natAbs_natCast] at this
 rw [B0,this]
theorem c4c (n:Int) (d:Nat) (hd:0 < d) (hg:Nat.gcd n.natAbs d=1):u9 (j6 n) (j5 d)=(j6 n,j5 d):=by
 have:=a2o n d (by omega)
 rw [Int.natAbs_natCast,hg] at this
 rw [← a2r,this];simp
theorem d1h (u v:i7) (j:Nat):bt (u ++ v) j=if j < u.length then bt u j else bt v (j - u.length):=by
 unfold bt
 split
 ·rename_i h;simp only [List.getD,List.getElem?_append_left h]
 ·rename_i h;simp only [List.getD,List.getElem?_append_right (Nat.le_of_not_lt h)]
end LQ
namespace LQ
theorem c23 {s:i7} {i:Nat} (hc:y8 (bt s i)=true):B7 s i=if has s (l7 s i) 58 58 then H4 s i (((s.take ((l7 s i))).drop (i))) (l7 s i) else F4 i (((s.take ((l7 s i))).drop (i))) (l7 s i):=by
 have h:33≤bt s i∧bt s i≤126∧bt s i ≠ 40∧bt s i ≠ 41∧bt s i ≠ 39∧bt s i ≠ 34∧bt s i ≠ 59∧bt s i ≠ 124∧bt s i ≠ 58:=by simpa [y8] using hc
 unfold B7
 rw [if_neg (by omega),if_neg (by omega),if_neg (by omega),if_neg (by omega),if_neg (by omega),if_pos hc]
end LQ
namespace LQ
structure Pre (s t:i7):Prop where
 le:s.length≤t.length
 bt:∀ i,i < s.length→bt t i=bt s i
 pos:0 < s.length
 last:LQ.bt s (s.length - 1)=32
 tk:t.take s.length=s
theorem e3r (s u:i7):Pre (s ++ [32]) (s ++ [32] ++ u):=by
 refine ⟨by simp,fun i hi=>?_,by simp,?_,List.take_left⟩
 ·rw [d1h (s ++ [32]) u,if_pos hi]
 ·rw [d1h];simp;rfl
section
variable {s t:i7} (P:Pre s t)
include P
theorem Pre.has {i:Nat} {a b:Int} (hi:i < s.length) (ha:a ≠ 32):has t i a b=has s i a b:=by
 unfold LQ.has
 by_cases h:i+1 < s.length
 ·rw [P.bt i hi,P.bt (i+1) h]
  have:=P.le
  simp only [h,show i+1 < t.length by omega]
 ·have e:i=s.length - 1:=by omega
  have:=P.last
  rw [← e] at this
  rw [P.bt i hi,this]
  simp [Ne.symm ha,h]
theorem Pre.word {i:Nat} (hi:i < s.length):l7 t i=l7 s i∧l7 s i < s.length:=by
 generalize hm:s.length - i=m
 induction m generalizing i with
 | zero=>omega
 | succ m ih =>
  have:=P.le
  rw [l7,if_pos (by omega),l7.eq_def s,if_pos hi,P.bt i hi]
  by_cases hc:y8 (LQ.bt s i)=true
  ·rw [if_pos hc,if_pos hc]
   have hne:i ≠ s.length - 1:=fun e=>by rw [e,P.last] at hc;exact absurd hc (by decide)
   exact ih (by omega) (by omega)
  ·rw [if_neg hc,if_neg hc];exact ⟨rfl,hi⟩
theorem Pre.sub {i k:Nat} (hk:k≤s.length):(t.take k).drop i=(s.take k).drop i:=by
 have:t.take k=s.take k:=by
  conv=>rhs;rw [← P.tk]
  rw [List.take_take,Nat.min_eq_left hk]
 rw [this]
theorem Pre.line {i:Nat} (hi:i≤s.length) (h:C3 s i < s.length):C3 t i=C3 s i:=by
 generalize hm:s.length - i=m
 induction m generalizing i with
 | zero =>
  have:i=s.length:=by omega
  subst this
  rw [C3,if_neg (by omega)] at h;omega
 | succ m ih =>
  have:=P.le
  have hlt:i < s.length:=by omega
  rw [C3,if_pos hlt] at h
  rw [C3,if_pos (by omega),C3.eq_def s,if_pos hlt,P.bt i hlt]
  by_cases hc:LQ.bt s i=10
  ·rw [if_pos hc,if_pos hc]
  ·rw [if_neg hc] at h
   rw [if_neg hc,if_neg hc]
   exact ih (by omega) h (by omega)
theorem Pre.com {i d j:Nat} (hi:i≤s.length) (hd:0 < d) (h:z7 s i d=some j):z7 t i d=some j∧j < s.length:=by
 generalize hm:s.length - i=m
 induction m using Nat.strongRecOn generalizing i d with
 | _ m ih =>
  have:=P.le
  rw [z7,if_neg (by omega)] at h
  split at h
  ·rename_i hlt
   rw [z7,if_neg (by omega),if_pos (by omega),P.has hlt (by decide),P.has hlt (by decide)]
   split at h
   ·rename_i hh
    have:=K5 hh
    rw [if_pos hh]
    exact ih _ (by omega) (by omega) (by omega) h rfl
   ·rename_i hh
    rw [if_neg hh]
    split at h
    ·rename_i h2
     have:=K5 h2
     rw [if_pos h2]
     by_cases hd1:d=1
     ·subst hd1
      rw [z7,if_pos rfl] at h
      injection h with h
      subst h
      refine ⟨by rw [z7,if_pos rfl],?_⟩
      rcases Nat.lt_or_ge (i+2) s.length with h3 | h3
      ·exact h3
      ·exfalso
       have hl:=P.last
       rw [show s.length - 1=i+1 by omega] at hl
       simp [LQ.has] at h2
       omega
     ·exact ih _ (by omega) (by omega) (by omega) h rfl
    ·rename_i h2
     rw [if_neg h2]
     exact ih _ (by omega) (by omega) hd h rfl
  ·cases h
theorem Pre.skip {i j:Nat} (hi:i≤s.length) (h:LQ.skip s i=some j) (hj:j < s.length):LQ.skip t i=some j:=by
 generalize hm:s.length - i=m
 induction m using Nat.strongRecOn generalizing i with
 | _ m ih =>
  have hle:=P.le
  by_cases hlt:i < s.length
  ·by_cases hb:D0 (LQ.bt s i)=true
   ·rw [a4h hlt hb] at h
    rw [a4h (by omega) (by rw [P.bt i hlt];exact hb)]
    exact ih _ (by omega) (by omega) h rfl
   ·have hb':D0 (LQ.bt s i)=false:=by simpa using hb
    by_cases h9:LQ.bt s i=59
    ·rw [a3h hlt hb' h9] at h
     have hl:=a4j s i hlt (by omega)
     have hl2:=a1q s i (by omega)
     have hl3:C3 s i < s.length:=by
      rcases Nat.lt_or_ge (C3 s i) s.length with h1 | h1
      ·exact h1
      ·rw [b35 (by omega)] at h;injection h with h;omega
     rw [a3h (by omega) (by rw [P.bt i hlt];exact hb') (by rw [P.bt i hlt];exact h9),P.line (by omega) hl3]
     exact ih _ (by omega) (by omega) h rfl
    ·by_cases hh:LQ.has s i 35 124=true
     ·have hlt2:=K5 hh
      cases hc:z7 s (i+2) 1 with
      | none=>rw [b0o hlt hb' h9 hh hc] at h;cases h
      | some k =>
       rw [a8b hlt hb' h9 hh hc] at h
       have hk:=a6k s (i+2) 1 k (by omega) hc
       obtain ⟨hc2,_⟩:=P.com (by omega) (by decide) hc
       rw [a8b (by omega) (by rw [P.bt i hlt];exact hb') (by rw [P.bt i hlt];exact h9) (by rw [P.has hlt (by decide)];exact hh) hc2]
       exact ih _ (by omega) (by omega) h rfl
     ·have hh':LQ.has s i 35 124=false:=by simpa using hh
      rw [a6h hlt hb' h9 hh'] at h
      rw [a6h (by omega) (by rw [P.bt i hlt];exact hb') (by rw [P.bt i hlt];exact h9) (by rw [P.has hlt (by decide)];exact hh')]
      exact h
  ·rw [b35 hlt] at h;injection h with h;omega
theorem Pre.encl {c:Int} {i:Nat} {acc:List Int} (h:∀ p,LQ.encl s c i acc ≠ .error (11,p)):LQ.encl t c i acc=LQ.encl s c i acc:=by
 generalize hm:s.length - i=m
 induction m using Nat.strongRecOn generalizing i acc with
 | _ m ih =>
  have hle:=P.le
  by_cases hlt:i < s.length
  ·rw [LQ.encl.eq_def s,if_pos hlt] at h ⊢
   rw [LQ.encl,if_pos (by omega),P.bt i hlt]
   by_cases h1:LQ.bt s i=c
   ·rw [if_pos h1,if_pos h1]
   ·rw [if_neg h1] at h ⊢
    rw [if_neg h1]
    by_cases h2:LQ.bt s i ≠ 92
    ·rw [if_pos h2] at h ⊢
     rw [if_pos h2]
     exact ih _ (by omega) h rfl
    ·rw [if_neg h2] at h ⊢
     rw [if_neg h2]
     by_cases h3:i+1 < s.length
     ·rw [if_pos h3] at h ⊢
      rw [if_pos (by omega),P.bt (i+1) h3]
      by_cases h4:LQ.bt s (i+1) ≠ c∧LQ.bt s (i+1) ≠ 92
      ·rw [if_pos h4,if_pos h4]
      ·rw [if_neg h4] at h ⊢
       rw [if_neg h4]
       exact ih _ (by omega) h rfl
     ·rw [if_neg h3] at h
      exact absurd rfl (h _)
  ·rw [LQ.encl,if_neg hlt] at h
   exact absurd rfl (h _)
theorem Pre.tok {i:Nat} (hi:i < s.length) (h:∀ p,B7 s i ≠ .error (11,p)):B7 t i=B7 s i:=by
 have hle:=P.le
 have hw:=P.word hi
 have hq:(if LQ.has s (l7 s i) 58 58 then H4 s i (((s.take ((l7 s i))).drop (i))) (l7 s i) else F4 i (((s.take ((l7 s i))).drop (i))) (l7 s i))=B7 s i→y8 (LQ.bt s i)=true →
   (if LQ.has t (l7 t i) 58 58 then H4 t i (((t.take ((l7 t i))).drop (i))) (l7 t i) else F4 i (((t.take ((l7 t i))).drop (i))) (l7 t i))=B7 s i:=by
  intro e _
  rw [hw.1,P.has hw.2 (by decide),P.sub (Nat.le_of_lt hw.2),← e]
  split
  ·rename_i hh
   rw [if_pos hh] at e
   unfold H4 at e ⊢
   have h2:=K5 hh
   by_cases h3:l7 s i+2 < s.length
   ·rw [if_pos h3] at e ⊢
    rw [if_pos (by omega),P.bt _ h3]
    split
    ·rename_i h4
     rw [if_pos h4] at e
     have he:∀ p,LQ.encl s 124 (l7 s i+2+1) [] ≠ .error (11,p):=fun p hp=>by rw [hp] at e;exact h p e.symm
     rw [P.encl he]
    ·split
     ·rename_i h5
      have hw2:=P.word h3
      simp only []
      rw [hw2.1,P.sub (Nat.le_of_lt hw2.2)]
     ·rfl
   ·rw [if_neg h3] at e
    exact absurd e.symm (h _)
  ·rfl
 unfold B7 at h ⊢
 rw [P.bt i hi]
 split
 ·rfl
 split
 ·rfl
 split
 ·rfl
 split
 ·rename_i h1 h2 h3 h4
  rw [if_neg h1,if_neg h2,if_neg h3,if_pos h4] at h
  have he:∀ p,LQ.encl s 34 (i+1) [] ≠ .error (11,p):=fun p hp=>by rw [hp] at h;exact h p rfl
  rw [P.encl he]
 split
 ·rename_i h1 h2 h3 h4 h5
  rw [if_neg h1,if_neg h2,if_neg h3,if_neg h4,if_pos h5] at h
  have he:∀ p,LQ.encl s 124 (i+1) [] ≠ .error (11,p):=fun p hp=>by rw [hp] at h;exact h p rfl
  rw [P.encl he]
 split
 ·rename_i h1 h2 h3 h4 h5 h6
  have:=hq (by rw [c23 h6]) h6
  rw [c23 h6] at this
  exact this
 ·rfl
theorem Pre.toks {i:Nat} {acc:List B5} {c:Int} {p:Nat} (hi:i≤s.length) (h:E8 s i acc=.error (c,p)) (hc:c ≠ 11):E8 t i acc=.error (c,p):=by
 have hle:=P.le
 generalize hm:s.length - i=m
 induction m using Nat.strongRecOn generalizing i acc with
 | _ m ih =>
  rw [X9 hi] at h
  rw [X9 (by omega)]
  cases hs:LQ.skip s i with
  | none=>rw [hs] at h;injection h with h;injection h with h1 h2;exact absurd h1.symm hc
  | some j =>
   have hj:=V3 hi hs
   rw [hs] at h
   simp only at h
   by_cases hlt:j < s.length
   ·rw [if_pos hlt] at h
    rw [P.skip hi hs hlt]
    simp only
    rw [if_pos (by omega)]
    have h11:∀ q,B7 s j ≠ .error (11,q):=fun q hq=>by rw [hq] at h;injection h with h;injection h with h1 h2;exact hc h1.symm
    rw [P.tok hlt h11]
    cases ht:B7 s j with
    | error e=>rw [ht] at h;exact h
    | ok x =>
     obtain ⟨tk,k⟩:=x
     rw [ht] at h
     have hk:=W5 hlt ht
     exact ih _ (by omega) (by omega) h rfl
   ·rw [if_neg hlt] at h;cases h
end
theorem c2j {s:i7} {c:Int} {i:Nat} {acc:List Int} {e p} (hi:i≤s.length) (h:encl s c i acc=.error (e,p)):p≤s.length:=by
 fun_induction encl s c i acc with
 | case1=>cases h
 | case2 i acc h1 h2 h3 ih=>exact ih (by omega) h
 | case3 i acc h1 h2 h3 h4 h5=>injection h with h;injection h with h1 h2;omega
 | case4 i acc h1 h2 h3 h4 h5 ih=>exact ih (by omega) h
 | case5=>injection h with h;injection h with h1 h2;omega
 | case6=>injection h with h;injection h with h1 h2;omega
theorem c6v {s:i7} {i:Nat} {e p} (hi:i < s.length) (h:B7 s i=.error (e,p)):p≤s.length:=by
 unfold B7 at h
 repeat' split at h
 all_goals try (cases h;done)
 all_goals try (injection h with h;injection h with h1 h2;omega)
 all_goals try (rename_i h0;injection h with h;subst h;exact c2j (by omega) h0)
 ·have hw:=F9 s i (by omega)
  unfold H4 at h
  repeat' split at h
  all_goals try (cases h;done)
  all_goals try (injection h with h;injection h with h1 h2;omega)
  all_goals try (rename_i h0;injection h with h;subst h;exact c2j (by omega) h0)
  all_goals (simp only [] at h;split at h;all_goals first | (cases h;done) | (injection h with h;injection h with h1 h2;omega))
 ·unfold F4 at h
  repeat' split at h
  all_goals try (cases h;done)
  all_goals try (simp only [] at h;split at h)
  all_goals try (cases h;done)
  all_goals (injection h with h;injection h with h1 h2;omega)
theorem d4a {s:i7} {i:Nat} {acc:List B5} {e p} (hi:i≤s.length) (h:E8 s i acc=.error (e,p)):p≤s.length:=by
 generalize hm:s.length - i=m
 induction m using Nat.strongRecOn generalizing i acc with
 | _ m ih =>
  rw [X9 hi] at h
  cases hs:skip s i with
  | none=>rw [hs] at h;injection h with h;injection h with h1 h2;omega
  | some j =>
   have hj:=V3 hi hs
   rw [hs] at h
   simp only at h
   by_cases hlt:j < s.length
   ·rw [if_pos hlt] at h
    cases ht:B7 s j with
    | error x=>rw [ht] at h;injection h with h;subst h;exact c6v hlt ht
    | ok x =>
     obtain ⟨tk,k⟩:=x
     rw [ht] at h
     have hk:=W5 hlt ht
     exact ih _ (by omega) (by omega) h rfl
   ·rw [if_neg hlt] at h;cases h
theorem e2c {s u:i7} {e:Int} {p:Nat} (hl:(s ++ [32] ++ u).length≤6000) (h:C4 (s ++ [32])=.error (e,p)):p≤s.length+1∧(e ≠ 11→C4 (s ++ [32] ++ u)=.error (e,p)):=by
 have hl2:(s ++ [32]).length≤6000:=by simp at hl ⊢;omega
 unfold C4 at h
 rw [if_neg (by omega)] at h
 constructor
 ·have:=d4a (Nat.zero_le _) h;simpa using this
 ·intro he
  unfold C4
  rw [if_neg (by omega)]
  exact (e3r s u).toks (Nat.zero_le _) h he
end LQ
namespace LQ
open Go
theorem b2a:∀ n:Nat,Lib.decDigits n=j5 n:=by
 intro n
 induction n using Nat.strongRecOn with
 | _ n ih =>
  unfold Lib.decDigits
  by_cases h:n < 10
  ·simp only [h,dite_true,if_true]
   by_cases h0:n=0
   ·subst h0;rfl
   ·unfold j5
    rw [if_neg h0,G9 h0,show n / 10=0 by omega,B4,Nat.mod_eq_of_lt h]
    rfl
  ·simp only [h,dite_false,if_false]
   rw [ih (n / 10) (by omega)]
   have h1:¬n / 10=0:=by omega
   have h0:¬n=0:=by omega
   unfold j5
   rw [if_neg h1,if_neg h0,G9 h0,List.reverse_cons,List.map_append]
   rfl
theorem itoa_showNat (n:Nat):Lib.itoa (n:Int)=j5 n:=by
 unfold Lib.itoa
 rw [if_neg (by omega),b2a,show ((n:Int)).toNat=n by omega]
theorem c75 {n k:Nat} (h:n < 10 ^ k):(j7 n).length≤k:=by
 induction k generalizing n with
 | zero=>rw [show n=0 by simpa using h,B4];simp
 | succ k ih =>
  by_cases h0:n=0
  ·rw [h0,B4];simp
  ·rw [G9 h0,List.length_cons]
   have:=ih (n:=n / 10) (by rw [Nat.pow_succ] at h;omega)
   omega
theorem b46 {m:Nat} (hm:m ≠ 0):∀ (k d:Nat),d < 10 ^ k→j7 (d+10 ^ k * m)=j7 d ++ (List.replicate (k - (j7 d).length) 0 ++ j7 m)
 | 0,d,h=>by
  have:d=0:=by simpa using h
  subst this
  simp [B4]
 | k+1,d,h=>by
  have h':d / 10 < 10 ^ k:=by rw [Nat.pow_succ] at h;omega
  have e1:d+10 ^ (k+1) * m=d+10 * (10 ^ k * m):=by rw [Nat.pow_succ,Nat.mul_comm (10 ^ k) 10,Nat.mul_assoc]
  have hp:0 < 10 ^ k * m:=Nat.mul_pos (Nat.pow_pos (by decide)) (Nat.pos_of_ne_zero hm)
  rw [e1,G9 (by omega),show (d+10 * (10 ^ k * m)) % 10=d % 10 by omega,show (d+10 * (10 ^ k * m)) / 10=d / 10+10 ^ k * m by omega,b46 hm k (d / 10) h']
  by_cases h0:d=0
  ·subst h0;simp [B4,List.replicate_succ]
  ·rw [G9 h0,List.length_cons,List.cons_append,show k+1 - ((j7 (d / 10)).length+1)=k - (j7 (d / 10)).length by omega]
theorem showNat_len9 {n:Nat} (h:n < 1000000000):(j5 n).length≤9:=by
 by_cases h0:n=0
 ·subst h0;decide
 ·unfold j5;rw [if_neg h0];simpa using c75 (k:=9) h
theorem b94 {m d:Nat} (hm:m ≠ 0) (hd:d < 1000000000):j5 (d+B9 * m)=j5 m ++ (List.replicate (9 - (j5 d).length) 48 ++ j5 d):=by
 have hB:B9=10 ^ 9:=rfl
 have hp:0 < B9 * m:=Nat.mul_pos (by decide) (Nat.pos_of_ne_zero hm)
 have e:j5 (d+B9 * m)=(j7 (d+10 ^ 9 * m)).reverse.map (fun d=>UInt8.ofNat (48+d)):=by unfold j5;rw [if_neg (by omega),hB]
 rw [e,b46 hm 9 d hd]
 have e2:j5 m=(j7 m).reverse.map (fun d=>UInt8.ofNat (48+d)):=by unfold j5;rw [if_neg hm]
 rw [e2]
 simp only [List.reverse_append,List.map_append,List.reverse_replicate,List.map_replicate]
 by_cases h0:d=0
 ·subst h0;rw [B4];simp;decide
 ·have e3:j5 d=(j7 d).reverse.map (fun d=>UInt8.ofNat (48+d)):=by unfold j5;rw [if_neg h0]
  rw [e3];simp
end LQ
