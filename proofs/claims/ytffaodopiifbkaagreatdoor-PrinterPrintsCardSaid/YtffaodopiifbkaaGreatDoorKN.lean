/- Limbs of nine digits: no program in sight. -/
import Derived.Test.YtffaodopiifbkaaGreatDoorKP
set_option linter.all false
namespace LQ
def B9:Nat:=1000000000
def k9 (n:Nat):List Nat:=if h:n=0 then [] else n % B9 :: k9 (n / B9)
termination_by n
decreasing_by exact Nat.div_lt_self (Nat.pos_of_ne_zero h) dE
def k5:List Nat→Nat
 | []=>0
 | d :: t=>d+B9 * k5 t
def LB (l:List Nat):Prop:=∀ d ∈ l,d < B9
theorem E7:k9 0=[]:=by rw [k9];simp
theorem X9 {n:Nat} (h:n ≠ 0):k9 n=n % B9 :: k9 (n / B9):=by rw [k9,dif_neg h]
theorem E8 (n:Nat):k5 (k9 n)=n:=by
 induction n using Nat.strongRecOn with
 | _ n ih =>
  by_cases h:n=0
  ·subst h;rw [E7];rfl
  ·rw [X9 h,k5,ih (n / B9) (Nat.div_lt_self (Nat.pos_of_ne_zero h) dE)]
   unfold B9;omega
theorem L5 (n:Nat):LB (k9 n):=by
 induction n using Nat.strongRecOn with
 | _ n ih =>
  by_cases h:n=0
  ·subst h;rw [E7];intro d hd;simp at hd
  ·rw [X9 h];intro d hd;simp at hd
   rcases hd with rfl | hd
   ·exact Nat.mod_lt _ dE
   ·exact ih (n / B9) (Nat.div_lt_self (Nat.pos_of_ne_zero h) dE) d hd
theorem c30 {d m:Nat} (hd:d < B9) (h:d ≠ 0∨m ≠ 0):k9 (d+B9 * m)=d :: k9 m:=by
 unfold B9 at hd
 rw [X9 (by unfold B9;omega)];congr 1
 ·unfold B9;omega
 ·congr 1;unfold B9;omega
theorem Q4 (a b:List Nat):k5 (a ++ b)=k5 a+B9 ^ a.length * k5 b:=by
 induction a with
 | nil=>simp [k5]
 | cons d t ih=>simp only [List.cons_append,k5,ih,List.length_cons,Nat.pow_succ];rw [Nat.mul_add,← Nat.mul_assoc,Nat.mul_comm (B9 ^ t.length) B9];omega
theorem d9x (t:List Nat) (d:Nat) (h9:LB (t ++ [d])) (hd:d ≠ 0):k9 (k5 (t ++ [d]))=t ++ [d]:=by
 induction t with
 | nil =>
  have:d < B9:=h9 d (by simp)
  simp only [List.nil_append,k5]
  rw [c30 this (.inl hd),E7]
 | cons x t ih =>
  simp only [List.cons_append,k5]
  rw [c30 (h9 x (by simp)),ih (fun y hy=>h9 y (by simp at hy ⊢;exact .inr hy))]
  refine .inr fun h0=>hd ?_
  have h2:=Q4 t [d]
  rw [h0] at h2
  simp only [k5] at h2
  have h3:0 < B9 ^ t.length:=Nat.pow_pos dE
  rw [Nat.mul_zero,Nat.add_zero] at h2
  have h4:B9 ^ t.length * d=0:=oM
  rcases Nat.mul_eq_zero.1 h4 with h | h <;> omega
theorem d2e (l:List Nat) (h9:LB l) (n:Nat) (hn:n≤l.length):l.take (R0 l n)=k9 (k5 (l.take n)):=by
 induction n with
 | zero=>simp [R0,k5,E7]
 | succ n ih =>
  have hlt:n < l.length:=oM
  have htk:l.take (n+1)=l.take n ++ [l.getD n 0]:=by
   rw [List.take_succ_eq_append_getElem hlt];simp [List.getD,hlt]
  simp only [R0]
  split
  ·rename_i h0
   rw [ih oM,htk,h0,Q4]
   simp [k5]
  ·rename_i h0
   rw [htk,d9x _ _ _ h0]
   intro d hd
   rw [← htk] at hd
   exact h9 d (List.mem_of_mem_take hd)
theorem a0y (l:List Nat) (h9:LB l):D4 l=k9 (k5 l):=by
 unfold D4;rw [d2e l h9 l.length (Nat.le_refl _),List.take_length]
theorem U0 (l:List Nat) (h9:LB l):k5 l < B9 ^ l.length:=by
 induction l with
 | nil=>simp [k5]
 | cons d t ih =>
  have h1:=ih (fun x hx=>h9 x (by simp [hx]))
  have h2:d < B9:=h9 d (by simp)
  simp only [k5,List.length_cons,Nat.pow_succ]
  unfold B9 at *
  omega
theorem c3n (n:Nat) (h:n ≠ 0):B9 ^ ((k9 n).length - 1)≤n:=by
 induction n using Nat.strongRecOn with
 | _ n ih =>
  rw [X9 h]
  simp only [List.length_cons,Nat.add_sub_cancel]
  by_cases h1:n / B9=0
  ·rw [h1,E7];simp;omega
  ·have:=ih (n / B9) (Nat.div_lt_self (Nat.pos_of_ne_zero h) dE) h1
   have h2:(k9 (n / B9)).length ≠ 0:=by rw [X9 h1];simp
   have h3:B9 ^ (k9 (n / B9)).length=B9 * B9 ^ ((k9 (n / B9)).length - 1):=by
    rw [← Nat.pow_succ'];congr 1;omega
   rw [h3]
   have h4:=Nat.mul_le_mul_left B9 this
   have h5:B9 * (n / B9)≤n:=Nat.mul_div_le n B9
   omega
theorem c2v (a b:List Nat) (ha:LB a) (hb:LB b) (n:Nat) (hna:n≤a.length) (hnb:n≤b.length) :
  E3 a b n=if k5 (a.take n) < k5 (b.take n) then -1 else if k5 (b.take n) < k5 (a.take n) then 1 else 0:=by
 induction n with
 | zero=>simp [E3,k5]
 | succ n ih =>
  have hla:n < a.length:=oM
  have hlb:n < b.length:=oM
  have e1:a.take (n+1)=a.take n ++ [a.getD n 0]:=by rw [List.take_succ_eq_append_getElem hla];simp [List.getD,hla]
  have e2:b.take (n+1)=b.take n ++ [b.getD n 0]:=by rw [List.take_succ_eq_append_getElem hlb];simp [List.getD,hlb]
  have v1:=Q4 (a.take n) [a.getD n 0]
  have v2:=Q4 (b.take n) [b.getD n 0]
  have l1:(a.take n).length=n:=by simp;omega
  have l2:(b.take n).length=n:=by simp;omega
  have b1:=U0 (a.take n) (fun d hd=>ha d (List.mem_of_mem_take hd))
  have b2:=U0 (b.take n) (fun d hd=>hb d (List.mem_of_mem_take hd))
  rw [l1] at v1 b1
  rw [l2] at v2 b2
  simp only [k5,Nat.mul_zero,Nat.add_zero] at v1 v2
  rw [e1,e2,v1,v2]
  simp only [E3]
  rw [ih oM oM]
  generalize a.getD n 0=x at *
  generalize b.getD n 0=y at *
  generalize k5 (a.take n)=p at *
  generalize k5 (b.take n)=q at *
  generalize B9 ^ n=P at *
  by_cases h1:x < y
  ·have:P * (x+1)≤P * y:=Nat.mul_le_mul_left P h1
   rw [Nat.mul_add,Nat.mul_one] at this
   rw [if_pos h1,if_pos oM]
  ·rw [if_neg h1]
   by_cases h2:y < x
   ·have:P * (y+1)≤P * x:=Nat.mul_le_mul_left P h2
    rw [Nat.mul_add,Nat.mul_one] at this
    rw [if_pos h2,if_neg oM,if_pos oM]
   ·rw [if_neg h2]
    have h3:x=y:=oM
    subst h3
    simp only [Nat.add_lt_add_iff_right]
theorem c38 (x y:Nat):O6 (k9 x) (k9 y)=if x < y then -1 else if y < x then 1 else 0:=by
 unfold O6
 split
 ·rename_i h
  rw [c2v _ _ (L5 x) (L5 y) _ (Nat.le_refl _) oM,List.take_length,h,List.take_length,E8,E8]
 ·rename_i h
  have b1:=U0 (k9 x) (L5 x)
  have b2:=U0 (k9 y) (L5 y)
  rw [E8] at b1 b2
  split
  ·rename_i h2
   have hy:y ≠ 0:=by intro e;rw [e,E7] at h2;simp at h2
   have g2:=c3n y hy
   have:B9 ^ (k9 x).length≤B9 ^ ((k9 y).length - 1):=Nat.pow_le_pow_right dE oM
   rw [if_pos oM]
  ·rename_i h2
   have hx:x ≠ 0:=by intro e;rw [e,E7] at h h2;simp only [List.length_nil] at h h2;omega
   have g1:=c3n x hx
   have:B9 ^ (k9 y).length≤B9 ^ ((k9 x).length - 1):=Nat.pow_le_pow_right dE oM
   rw [if_neg oM,if_pos oM]
theorem b7b {a b:Nat} (h:k9 a=k9 b):a=b:=by rw [← E8 a,h,E8]
theorem a7y {n k:Nat} (h:n < B9 ^ k):(k9 n).length≤k:=by
 by_cases h0:n=0
 ·subst h0;simp [E7]
 ·have h1:=c3n n h0
  by_cases h2:(k9 n).length≤k
  ·exact h2
  ·have:B9 ^ k≤B9 ^ ((k9 n).length - 1):=Nat.pow_le_pow_right dE oM
   omega
theorem d6r (x r:Nat) (hx:x < B9):D4 (x :: k9 r)=k9 (x+B9 * r):=by
 rw [a0y]
 ·simp only [k5,E8]
 ·intro d hd
  rcases List.mem_cons.1 hd with rfl | hd
  ·exact hx
  ·exact L5 r d hd
theorem d4o (l:List Nat) (i:Nat) (h:i < l.length):k5 (l.drop i)=l.getD i 0+B9 * k5 (l.drop (i+1)):=by
 rw [List.drop_eq_getElem_cons h];simp [k5,List.getD,h]
theorem b67 (l:List Nat) (i:Nat) (h:i < l.length):k5 (l.take (i+1))=k5 (l.take i)+B9 ^ i * l.getD i 0:=by
 have e:l.take (i+1)=l.take i ++ [l.getD i 0]:=by rw [List.take_succ_eq_append_getElem h];simp [List.getD,h]
 rw [e,Q4]
 have:(l.take i).length=i:=by simp;omega
 rw [this];simp [k5]
theorem c1i (l:List Nat) (i x:Nat) (h:i < l.length):k5 (l.set i x)+B9 ^ i * l.getD i 0=k5 l+B9 ^ i * x:=by
 induction l generalizing i with
 | nil=>simp at h
 | cons d t ih =>
  cases i with
  | zero=>simp [k5,List.getD];omega
  | succ i =>
   have:=ih i (by simpa using h)
   simp only [List.set_cons_succ,k5,Nat.pow_succ,List.getD_cons_succ]
   have e1:B9 ^ i * B9 * t.getD i 0=B9 * (B9 ^ i * t.getD i 0):=by rw [Nat.mul_comm (B9 ^ i) B9,Nat.mul_assoc]
   have e2:B9 ^ i * B9 * x=B9 * (B9 ^ i * x):=by rw [Nat.mul_comm (B9 ^ i) B9,Nat.mul_assoc]
   rw [e1,e2]
   have e3:B9 * (k5 (t.set i x)+B9 ^ i * t.getD i 0)=B9 * (k5 t+B9 ^ i * x):=by rw [this]
   rw [Nat.mul_add,Nat.mul_add] at e3
   omega
theorem a2y {l:List Nat} (h:LB l) (i x:Nat) (hx:x < B9):LB (l.set i x):=fun d hd=>by
 rcases List.mem_or_eq_of_mem_set hd with h1 | rfl
 ·exact h d h1
 ·exact hx
theorem a4h {l:List Nat} (h:LB l) (i:Nat):l.getD i 0 < B9:=by
 by_cases hi:i < l.length
 ·simp only [List.getD,List.getElem?_eq_getElem hi,Option.getD_some];exact h _ (List.getElem_mem hi)
 ·simp only [List.getD,List.getElem?_eq_none (Nat.le_of_not_lt hi),Option.getD_none];decide
theorem d0i (n:Nat):k5 (List.replicate n 0)=0:=by
 induction n with
 | zero=>rfl
 | succ n ih=>simp [List.replicate_succ,k5,ih]
def y8 (s:f4):Nat:=t7 s 0 0
theorem c51 (a b:f4) (k acc:Nat) (hk:k≤a.length):t7 (a ++ b) k acc=t7 b 0 (t7 a k acc):=by
 fun_induction t7 a k acc with
 | case1 k acc h ih =>
  rw [t7,if_pos (by simp;omega),← ih oM]
  congr 2
  have:bt (a ++ b) k=bt a k:=by unfold bt;simp [List.getD,List.getElem?_append_left h]
  rw [this]
 | case2 k acc h =>
  have hk':k=a.length:=oM
  subst hk'
  clear h hk
  have:∀ (j acc:Nat),t7 (a ++ b) (a.length+j) acc=t7 b j acc:=by
   intro j acc
   fun_induction t7 b j acc with
   | case1 j acc h ih =>
    rw [t7,if_pos (by simp;omega),← ih,Nat.add_assoc]
    congr 2
    have:bt (a ++ b) (a.length+j)=bt b j:=by unfold bt;simp only [List.getD];rw [List.getElem?_append_right (Nat.le_add_right _ _),Nat.add_sub_cancel_left]
    rw [this]
   | case2 j acc h=>rw [t7,if_neg (by simp;omega)]
  exact this 0 acc
theorem b9t (a b:f4):y8 (a ++ b)=y8 a * 10 ^ b.length+y8 b:=by
 unfold y8
 rw [c51 a b 0 0 (Nat.zero_le _),c5k b 0 _ (Nat.zero_le _)];simp
theorem b5r (c:UInt8) (s:f4):y8 (c :: s)=(bt [c] 0 - 48).toNat * 10 ^ s.length+y8 s:=by
 rw [show c :: s=[c] ++ s from rfl,b9t]
 congr 2
 unfold y8
 rw [t7,if_pos (by simp),t7,if_neg (by simp)];omega
theorem c1n (s:f4) (h:∀ j,j < s.length→48≤bt s j∧bt s j≤57):y8 s < 10 ^ s.length:=by
 induction s with
 | nil=>unfold y8;rw [t7,if_neg (by simp)];simp
 | cons c s ih =>
  rw [b5r,List.length_cons,Nat.pow_succ]
  have h0:=h 0 (by simp)
  have e:bt [c] 0=bt (c :: s) 0:=rfl
  have:=ih fun j hj=>by have:=h (j+1) (by simpa using hj);rwa [X4] at this
  have h1:(bt [c] 0 - 48).toNat≤9:=by rw [e];omega
  have:=Nat.mul_le_mul_right (10 ^ s.length) h1
  omega
theorem d91 (s:f4) (e k:Nat) (hk:k≤s.length) (h:∀ j,e≤j→j < k→48≤bt s j∧bt s j≤57) :
  (s9 s e k []).reverse.map (fun d=>UInt8.ofNat (48+d))=(s.take k).drop e:=by
 induction k with
 | zero=>simp [s9]
 | succ k ih =>
  by_cases he:e≤k
  ·rw [a5g s e k he,List.reverse_cons,List.map_append,ih oM (fun j h1 h2=>h j h1 oM)]
   have hlt:k < s.length:=oM
   rw [List.take_succ_eq_append_getElem hlt,List.drop_append_of_le_length (by simp;omega)]
   congr 1
   have:=h k he oM
   have hb:bt s k=(s[k].toNat:Int):=by unfold bt;simp [List.getD,List.getElem?_eq_getElem hlt]
   rw [hb] at this ⊢
   simp only [List.map_cons,List.map_nil,List.cons.injEq,and_true]
   apply UInt8.toNat_inj.1
   rw [UInt8.toNat_ofNat']
   have:=s[k].toNat_lt
   omega
  ·rw [s9,if_neg he,List.drop_eq_nil_of_le (by simp;omega)];rfl
theorem d1v {s:f4} (h1:w9 s=true) (h2:s ≠ u6):g7 s < s.length∧bt s (g7 s) ≠ 48∧(∀ j,g7 s≤j→j < s.length→48≤bt s j∧bt s j≤57) ∧
  s9 s (g7 s) s.length []=i7 (f6 s).natAbs∧(f6 s).natAbs ≠ 0∧(g7 s=1↔f6 s < 0):=by
 have h3:g7 s < s.length∧bt s (g7 s) ≠ 48∧j8 s (g7 s)=s.length:=by
  simp [w9,h2] at h1;exact ⟨h1.1.1,h1.1.2,h1.2⟩
 have hall:∀ j,g7 s≤j→j < s.length→48≤bt s j∧bt s j≤57:=fun j a b=>W7 s (g7 s) j a oM
 have e:=b1y s
 unfold Y2 at e
 rw [if_pos ⟨h1,h2⟩] at e
 injection e with e1 e2
 obtain ⟨t,ht⟩:=c4c s (g7 s) s.length h3.1
 refine ⟨h3.1,h3.2.1,hall,e2,fun h0=>?_,by simpa using e1⟩
 rw [h0,u3,ht] at e2
 simp at e2
theorem d19 {s:f4} (h:g7 s=1):s=45 :: s.drop 1:=by
 unfold g7 at h
 split at h
 ·rename_i hh
  cases s with
  | nil=>simp at hh
  | cons c s =>
   have:(c.toNat:Int)=45:=hh.2
   simp only [List.drop_succ_cons,List.drop_zero,List.cons.injEq,and_true]
   exact UInt8.toNat_inj.1 (by show c.toNat=45;omega)
 ·omega
theorem d9y {s:f4} (h:w9 s=true):f8 (f6 s)=s:=by
 by_cases h2:s=u6
 ·subst h2;rw [a6p];decide
 ·obtain ⟨q1,q2,q3,q4,q5,q6⟩:=d1v h h2
  have ht:=d91 s (g7 s) s.length (Nat.le_refl _) q3
  rw [q4,List.take_length] at ht
  have e:f7 (f6 s).natAbs=s.drop (g7 s):=by unfold f7;rw [if_neg q5];exact ht
  unfold f8
  rw [e]
  by_cases hs:g7 s=1
  ·rw [if_pos (q6.1 hs),hs];exact (d19 hs).symm
  ·rw [if_neg (fun k=>hs (q6.2 k))]
   have:g7 s=0:=by have:=J8 s;omega
   rw [this];rfl
theorem a26 (n:Nat):w9 (f7 n)=true:=by
 by_cases h:n=0
 ·subst h;decide
 ·obtain ⟨h1,h2,h3⟩:=Z3 n h
  have hsg0:g7 (f7 n)=0:=by unfold g7;rw [if_neg];have:=h1 0 (Nat.le_refl _) h3;omega
  unfold w9
  rw [hsg0,P9 _ 0 (Nat.zero_le _) h1]
  simp [h2];right;omega
theorem c0l (n:Int):w9 (f8 n)=true:=by
 unfold f8
 split
 ·rename_i h
  have hn:n.natAbs ≠ 0:=oM
  obtain ⟨h1,h2,h3⟩:=Z3 n.natAbs hn
  show w9 (45 :: f7 n.natAbs)=true
  have hsg:g7 (45 :: f7 n.natAbs)=1:=by unfold g7;rw [if_pos];exact ⟨by simp,rfl⟩
  unfold w9
  rw [hsg,show (1:Nat)=0+1 from rfl,b2p,X4,P9 _ 0 (Nat.zero_le _) h1]
  simp [h2];right;omega
 ·exact a26 _
def J4 (s:f4):f4:=if w9 s then s else u6
theorem a0u (s:f4):J4 s=f8 (f6 s):=by
 unfold J4
 split
 ·rename_i h;exact (d9y h).symm
 ·rename_i h
  have:f6 s=0:=by unfold f6;rw [if_neg h]
  rw [this];decide
theorem a2g (n:Nat):f8 (n:Int)=f7 n:=by unfold f8;rw [if_neg oM];rfl
def d8v (s:f4):f4:=f8 (-f6 s)
theorem a6v (a b:Int) (hb:0 < b):n9 (f8 a) (f8 b)=(f8 (a / (Nat.gcd a.natAbs b.natAbs:Int)),f8 (b / (Nat.gcd a.natAbs b.natAbs:Int))):=by
 unfold n9
 rw [o8,o8,if_neg oM]
 simp only []
 have hg:0 < Nat.gcd a.natAbs b.natAbs:=Nat.gcd_pos_of_pos_right _ oM
 have hd1:=Nat.gcd_dvd_left a.natAbs b.natAbs
 have hd2:=Nat.gcd_dvd_right a.natAbs b.natAbs
 generalize Nat.gcd a.natAbs b.natAbs=g at *
 have e2:b / (g:Int)=((b.natAbs / g:Nat):Int):=by
  conv=>lhs;rw [show b=(b.natAbs:Int) by omega]
  rfl
 have e1:a / (g:Int)=(if (a < 0)=(b < 0) then 1 else -1) * ((a.natAbs / g:Nat):Int):=by
  obtain ⟨k,hk⟩:=hd1
  rw [hk,Nat.mul_div_cancel_left _ hg]
  by_cases h:a < 0
  ·rw [if_neg (by simp [h];omega)]
   have:a=(g:Int) * (-(k:Int)):=by
    have:((a.natAbs:Nat):Int)=(g:Int) * (k:Int):=by rw [hk];simp
    rw [Int.mul_neg];omega
   rw [this,Int.mul_ediv_cancel_left _ oM];omega
  ·rw [if_pos (by simp [h];omega)]
   have:a=(g:Int) * (k:Int):=by
    have:((a.natAbs:Nat):Int)=(g:Int) * (k:Int):=by rw [hk];simp
    omega
   rw [this,Int.mul_ediv_cancel_left _ oM];omega
 rw [e1,e2,a2g]
def At (s:f4) (i:Nat) (w r:f4):Prop:=s.drop i=w ++ r
theorem At.len {s w r:f4} {i:Nat} (h:At s i w r) (hw:w ≠ []):i+w.length+r.length=s.length:=by
 have:=congrArg List.length h
 simp at this
 have:0 < w.length:=List.length_pos_iff.2 hw
 omega
theorem At.bt {s w r:f4} {i j:Nat} (h:At s i w r) (hj:j < w.length):LQ.bt s (i+j)=LQ.bt w j:=by
 unfold LQ.bt
 have:s[i+j]?=w[j]?:=by rw [← List.getElem?_drop,h,List.getElem?_append_left hj]
 simp only [List.getD,this]
theorem At.btr {s w r:f4} {i j:Nat} (h:At s i w r):LQ.bt s (i+w.length+j)=LQ.bt r j:=by
 unfold LQ.bt
 have:s[i+w.length+j]?=r[j]?:=by rw [Nat.add_assoc,← List.getElem?_drop,h,List.getElem?_append_right (Nat.le_add_right _ _),Nat.add_sub_cancel_left]
 simp only [List.getD,this]
theorem At.next {s w r:f4} {i:Nat} (h:At s i w r):s.drop (i+w.length)=r:=by rw [← List.drop_drop,h,List.drop_left]
theorem At.app {s u v r:f4} {i:Nat} (h:At s i (u ++ v) r):At s i u (v ++ r)∧At s (i+u.length) v r:=by
 have h1:At s i u (v ++ r):=by unfold At at *;rw [h,List.append_assoc]
 exact ⟨h1,h1.next⟩
theorem At.sub {s w r:f4} {i:Nat} (h:At s i w r) (hw:w ≠ []):(s.take (i+w.length)).drop i=w:=by
 rw [List.drop_take,h,show i+w.length - i=w.length by omega,List.take_left]
def Del (r:f4):Prop:=r=[]∨bt r 0=32∨bt r 0=41∨bt r 0=10
theorem Del.not {r:f4} (h:Del r) (hr:r ≠ []):r8 (bt r 0)=false∧bt r 0 ≠ 58:=by
 rcases h with h | h | h | h
 ·exact absurd h hr
 all_goals rw [h];decide
def a8b (w:f4):Prop:=∀ j,j < w.length→r8 (bt w j)=true
theorem a31 {s w r:f4} {i:Nat} (h:At s i w r) (hw:a8b w) (hr:r=[]∨r8 (bt r 0)=false):l5 s i=i+w.length:=by
 have key:∀ n j,w.length - j=n→j≤w.length→l5 s (i+j)=i+w.length:=by
  intro n
  induction n with
  | zero =>
   intro j hj hle
   have:j=w.length:=oM
   subst this
   rw [l5]
   split
   ·rename_i hlt
    have hb:=h.btr (j:=0)
    rw [Nat.add_zero] at hb
    rcases hr with hr | hr
    ·exfalso
     subst hr
     have:=congrArg List.length h
     simp at this;omega
    ·rw [if_neg (by rw [hb,hr];simp)]
   ·rfl
  | succ n ih =>
   intro j hj hle
   have hlt:i+j < s.length:=by
    have:=congrArg List.length h
    simp at this;omega
   rw [l5,if_pos hlt,if_pos (by rw [h.bt oM];exact hw j oM),Nat.add_assoc]
   exact ih (j+1) oM oM
 exact key _ 0 rfl (Nat.zero_le _)
def E9 (c:UInt8) (s:f4):f4:=s.flatMap fun b=>if b=c∨b=92 then [92,b] else [b]
def D1 (c:UInt8) (s:f4):f4:=c :: (E9 c s ++ [c])
def a3c (l:f4):List Int:=l.map fun b=>(b.toNat:Int)
theorem b0s (l:f4):D7 (a3c l)=l:=by
 unfold D7 a3c
 rw [List.map_map]
 conv=>rhs;rw [← List.map_id l]
 exact List.map_congr_left fun b _=>by simp
theorem bt0 (c:UInt8) (l:f4):bt (c :: l) 0=c.toNat:=rfl
theorem bt1 (c d:UInt8) (l:f4):bt (c :: d :: l) 1=d.toNat:=rfl
theorem b7t {a b:UInt8} (h:a ≠ b):(a.toNat:Int) ≠ b.toNat:=fun e=>h (UInt8.toNat_inj.1 oM)
theorem a8a {c:UInt8} (hc:c ≠ 92) {s:f4}:∀ {l r:f4} {i:Nat} {acc:List Int},At s i (E9 c l) (c :: r)→G5 s c.toNat i acc=.ok (acc ++ a3c l,i+(E9 c l).length+1)
 | [],r,i,acc,h=>by
  have h0:At s i [c] r:=h
  have hlt:i < s.length:=by have:=h0.len (by simp);simp at this;omega
  have hb:bt s i=c.toNat:=by have:=h0.bt (j:=0) (by simp);rwa [Nat.add_zero] at this
  rw [G5,if_pos hlt,if_pos hb];simp [a3c,E9]
 | b :: l,r,i,acc,h=>by
  by_cases hb:b=c∨b=92
  ·have e:E9 c (b :: l)=[92,b] ++ E9 c l:=by simp [E9,hb]
   rw [e] at h ⊢
   obtain ⟨h1,h2⟩:=h.app
   have hl:=h1.len (by simp)
   simp at hl
   have b0:bt s i=92:=by have:=h1.bt (j:=0) (by simp);rw [Nat.add_zero] at this;rw [this];rfl
   have b1:bt s (i+1)=b.toNat:=h1.bt (j:=1) (by simp)
   have hc':(92:Int) ≠ (c.toNat:Int):=by have:=b7t hc;simp at this;omega
   rw [G5,if_pos oM,b0,if_neg hc',if_neg (by simp),if_pos oM,b1,if_neg,show i+2=i+[92,b].length from rfl,a8a hc h2]
   ·simp [a3c];omega
   ·rcases hb with hb | hb
    ·subst hb;simp
    ·subst hb;simp
  ·have e:E9 c (b :: l)=[b] ++ E9 c l:=by simp [E9,hb]
   rw [e] at h ⊢
   obtain ⟨h1,h2⟩:=h.app
   have hl:=h1.len (by simp)
   simp at hl
   have b0:bt s i=b.toNat:=by have:=h1.bt (j:=0) (by simp);rwa [Nat.add_zero] at this
   have n1:=b7t (fun e=>hb (.inl e))
   have n2:(b.toNat:Int) ≠ 92:=by have:=b7t (fun e=>hb (.inr e));simpa using this
   rw [G5,if_pos oM,b0,if_neg n1,if_pos n2,show i+1=i+[b].length from rfl,a8a hc h2]
   simp [a3c];omega
theorem a7b {s:f4} {i j:Nat} (hi:i≤s.length) (h:skip s i=some j):i≤j∧j≤s.length:=by
 fun_induction skip s i with
 | case1 i h1 h2 ih=>have:=ih oM h;omega
 | case2 i h1 h2 h3 h4 ih=>have:=a86 s i oM;have:=ih oM h;omega
 | case3 i h1 h2 h3 h4=>injection h with h;omega
 | case4 i h1 h2 h3 h4 h5=>cases h
 | case5 i h1 h2 h3 h4 j' h5 h6 ih=>have:=W6 h4;have:=b1g s (i+2) 1 j' oM h5;have:=ih oM h;omega
 | case6 i h1 h2 h3 h4 j' h5 h6=>injection h with h;omega
 | case7 i h1 h2 h3 h4=>injection h with h;omega
 | case8 i h1=>injection h with h;omega
theorem a7w {s:f4} {c:Int} {i:Nat} {acc l:List Int} {j:Nat} (h:G5 s c i acc=.ok (l,j)):i < j∧j≤s.length:=by
 fun_induction G5 s c i acc with
 | case1 i acc h1 h2=>injection h with h;injection h with h3 h4;omega
 | case2 i acc h1 h2 h3 ih=>have:=ih h;omega
 | case3=>cases h
 | case4 i acc h1 h2 h3 h4 h5 ih=>have:=ih h;omega
 | case5=>cases h
 | case6=>cases h
theorem a5w {s:f4} {i k:Nat} {t:A0} (hi:i < s.length) (h:y7 s i=.ok (t,k)):i < k∧k≤s.length:=by
 unfold y7 at h
 repeat' split at h
 all_goals try (cases h;done)
 all_goals try (injection h with h;injection h with h1 h2;subst h2;omega)
 all_goals try (rename_i h0 _;have:=a7w h0;injection h with h;injection h with h1 h2;subst h2;omega)
 ·rename_i hc _
  have hw:=F3 s i oM
  have hw2:i < l5 s i:=by rw [l5,if_pos hi,if_pos hc];have:=F3 s (i+1) oM;omega
  unfold H5 at h
  repeat' split at h
  all_goals try (cases h;done)
  all_goals try (rename_i h0 _;have:=a7w h0;injection h with h;injection h with h1 h2;subst h2;omega)
  all_goals (simp only [] at h;split at h;all_goals try (cases h;done)
             all_goals (injection h with h;injection h with h1 h2;have:=F3 s (l5 s i+2) oM;subst h2;omega))
 ·rename_i hc _
  have hw:=F3 s i oM
  have hw2:i < l5 s i:=by rw [l5,if_pos hi,if_pos hc];have:=F3 s (i+1) oM;omega
  unfold F7 at h
  repeat' split at h
  all_goals try (cases h;done)
  all_goals try (simp only [] at h;split at h)
  all_goals try (cases h;done)
  all_goals (injection h with h;injection h with h1 h2;subst h2;omega)
theorem a7v {s:f4} {i:Nat} {acc:List A0} (hi:i≤s.length):x4 s i acc=match skip s i with
  | none=>.error (11,s.length)
  | some j=>if j < s.length then match y7 s j with
   | .error e=>.error e
   | .ok (t,k)=>x4 s k (acc ++ [t])
   else .ok (acc ++ [⟨0,s.length,q7,q7,q7⟩]):=by
 rw [x4]
 cases hs:skip s i with
 | none=>rfl
 | some j =>
  have h1:=a7b hi hs
  simp only
  by_cases hj:j < s.length
  ·rw [if_pos hj,if_pos hj]
   cases ht:y7 s j with
   | error e=>rfl
   | ok p =>
    have h2:=a5w (t:=p.1) (k:=p.2) hj ht
    simp only
    rw [if_pos oM]
  ·rw [if_neg hj,if_neg hj]
theorem a8j {s:f4} {i k:Nat} {acc:List A0} {t:A0} (hi:i < s.length) (hb:F4 (bt s i)=false) (h9:bt s i ≠ 59) (hh:has s i 35 124=false) (ht:y7 s i=.ok (t,k)):x4 s i acc=x4 s k (acc ++ [t]):=by
 rw [a7v oM,a9w hi hb h9 hh]
 simp only
 rw [if_pos hi,ht]
def e7g (w:f4):Prop:=∀ j,j < w.length→48≤bt w j∧bt w j≤57
theorem a02 (n:Nat):e7g (f7 n):=by
 by_cases h:n=0
 ·subst h;intro j hj;have:j=0:=by simp [f7,u6] at hj;omega
  subst this;decide
 ·exact fun j hj=>(Z3 n h).1 j (Nat.zero_le _) hj
theorem c85 (n:Nat):f7 n ≠ []:=by
 by_cases h:n=0
 ·subst h;decide
 ·intro e;have:=(Z3 n h).2.2;rw [e] at this;simp at this
theorem Y5 (n:Nat):0 < (f7 n).length:=List.length_pos_iff.2 (c85 n)
theorem d29 {s w r:f4} {i:Nat} (h:At s i w r) (hw:e7g w) (hr:r=[]∨¬(48≤bt r 0∧bt r 0≤57)):j8 s i=i+w.length:=by
 have key:∀ n j,w.length - j=n→j≤w.length→j8 s (i+j)=i+w.length:=by
  intro n
  induction n with
  | zero =>
   intro j hj hle
   have:j=w.length:=oM
   subst this
   rw [j8]
   split
   ·rename_i hlt
    have hb:=h.btr (j:=0)
    rw [Nat.add_zero] at hb
    rcases hr with hr | hr
    ·exfalso
     subst hr
     have:=congrArg List.length h
     simp at this;omega
    ·rw [if_neg];rw [hb];simp [P8];omega
   ·rfl
  | succ n ih =>
   intro j hj hle
   have hlt:i+j < s.length:=by
    have:=congrArg List.length h
    simp at this;omega
   have:=hw j oM
   rw [j8,if_pos hlt,if_pos (by rw [h.bt oM];simp [P8];omega),Nat.add_assoc]
   exact ih (j+1) oM oM
 exact key _ 0 rfl (Nat.zero_le _)
def sgn (n:Int):f4:=if n < 0 then [45] else []
theorem a1l (n:Int):f8 n=sgn n ++ f7 n.natAbs:=by unfold f8 sgn;split <;> rfl
theorem c54 (n:Int) (d:Nat) (r:f4):g7 (sgn n ++ (f7 d ++ r))=(sgn n).length:=by
 unfold sgn
 split
 ·unfold g7;rw [if_pos ⟨by simp,rfl⟩];rfl
 ·unfold g7
  rw [if_neg];· rfl
  intro h
  have h0:=(a02 d) 0 (Y5 d)
  have:bt ([] ++ (f7 d ++ r)) 0=bt (f7 d) 0:=by
   have h1:At (f7 d ++ r) 0 (f7 d) r:=rfl
   have:=h1.bt (j:=0) (Y5 d)
   simpa using this
  rw [this] at h
  omega
theorem c2l {s:f4} {i:Nat} (h:¬(i < s.length∧bt s i=48)):z7 s i=i:=by
 rw [z7]
 split
 ·rw [if_neg (fun k=>h ⟨‹_›,k⟩)]
 ·rfl
theorem a2m (n:Nat):A5 (f7 n)=(f7 n).length:=by
 unfold A5
 rw [y9,Int.natAbs_natCast]
 by_cases h:n=0
 ·subst h;simp [u3,f7,u6]
 ·rw [← N9 n h];have:=Y5 n;omega
theorem a6r (n:Int):A5 (f8 n)=(f7 n.natAbs).length:=by
 have:=a2m n.natAbs
 unfold A5 at this ⊢
 rw [y9,Int.natAbs_natCast] at this
 rw [o8,this]
def b3f (n:Int) (d:Nat):f4:=if d=1 then f8 n else f8 n ++ 47 :: f7 d
theorem At.hd {s r:f4} {c:UInt8} {w:f4} {i:Nat} (h:At s i (c :: w) r):LQ.bt s i=c.toNat∧i < s.length:=by
 have h1:=h.bt (j:=0) (by simp)
 have h2:=h.len (by simp)
 rw [Nat.add_zero] at h1
 simp at h2
 exact ⟨h1,oM⟩
theorem c92 {s:f4} {i:Nat} {a b:Int} (h:bt s i ≠ a):has s i a b=false:=by simp [has,h]
theorem e1t {s r w:f4} {c:UInt8} {i k:Nat} {acc:List A0} {t:A0} (h:At s i (c :: w) r) (hb:F4 c.toNat=false) (h9:(c.toNat:Int) ≠ 59) (h35:(c.toNat:Int) ≠ 35∨has s i 35 124=false) (ht:y7 s i=.ok (t,k)):x4 s i acc=x4 s k (acc ++ [t]):=by
 obtain ⟨h1,h2⟩:=h.hd
 refine a8j h2 (by rw [h1];exact hb) (by rw [h1];exact h9) ?_ ht
 rcases h35 with h3 | h3
 ·exact c92 (by rw [h1];exact h3)
 ·exact h3
theorem a8c (c:UInt8) (l:f4):(D1 c l).length=(E9 c l).length+2:=by simp [D1]
theorem b2z {text:f4} {bars:Bool} (h:text.length≤40) (h1:0 < text.length):n7 text q7 bars=0:=by
 unfold n7
 rw [if_neg oM,if_neg]
 rintro (⟨_,h⟩ | ⟨h,_⟩)
 ·omega
 ·exact h rfl
theorem b27 {text pkg:f4} {bars:Bool} (h:text.length≤40) (h1:0 < text.length) (hp:m7 pkg=true):n7 text pkg bars=0:=by
 unfold n7
 rw [if_neg oM,if_neg]
 rintro (⟨_,h⟩ | ⟨_,h⟩)
 ·omega
 ·rw [hp] at h;cases h
theorem d49 {s r l:f4} {i:Nat} {acc:List A0} (h:At s i (D1 124 l) r) (hl:l.length≤40) (h0:0 < l.length):x4 s i acc=x4 s (i+(D1 124 l).length) (acc ++ [⟨6,i,[],l,[]⟩]):=by
 refine e1t h dE dE (.inl dE) ?_
 have h2:At s (i+1) (E9 124 l) (124 :: r):=by
  have:At s i ([124] ++ E9 124 l) (124 :: r):=by unfold At at *;rw [h];simp [D1]
  exact this.app.2
 have he:=a8a (c:=124) dE (acc:=[]) h2
 have he:G5 s 124 (i+1) []=.ok ([] ++ a3c l,i+1+(E9 124 l).length+1):=he
 unfold y7
 rw [h.hd.1]
 simp only [show ((124:UInt8).toNat:Int)=124 from rfl,show (124:Int)=40↔False by decide,show (124:Int)=41↔False by decide,show (124:Int)=39↔False by decide,show (124:Int)=34↔False by decide,if_true,if_false,he,List.nil_append]
 rw [b0s,if_pos (b2z hl h0),a8c]
 simp only [Except.ok.injEq,Prod.mk.injEq]
 exact ⟨rfl,oM⟩
theorem b3i {s:f4} {i:Nat} (hc:r8 (bt s i)=true):y7 s i=if has s (l5 s i) 58 58 then H5 s i (((s.take ((l5 s i))).drop (i))) (l5 s i) else F7 i (((s.take ((l5 s i))).drop (i))) (l5 s i):=by
 have h:33≤bt s i∧bt s i≤126∧bt s i ≠ 40∧bt s i ≠ 41∧bt s i ≠ 39∧bt s i ≠ 34∧bt s i ≠ 59∧bt s i ≠ 124∧bt s i ≠ 58:=by simpa [r8] using hc
 unfold y7
 rw [if_neg oM,if_neg oM,if_neg oM,if_neg oM,if_neg oM,if_pos hc]
theorem f3a {s:f4} {i:Nat} (w:f4) (h:a8b w) (r:f4) (hA:At s i w r) (hw:w ≠ []) (hr:Del r):has s i 35 124=false:=by
 cases w with
 | nil=>exact absurd rfl hw
 | cons c w =>
  cases w with
  | nil =>
   cases r with
   | nil =>
    have:=hA.len hw
    simp at this
    simp [has];omega
   | cons d r =>
    have hb:=hA.btr (j:=0)
    simp at hb
    have:bt s (i+1) ≠ 124:=by
     rw [hb]
     rcases hr with hr | hr | hr | hr
     ·cases hr
     all_goals rw [hr];decide
    simp [has];intro _ _;exact this
  | cons d w =>
   have hb:=hA.bt (j:=1) (by simp)
   have hc:=h 1 (by simp)
   have:bt s (i+1) ≠ 124:=by
    rw [hb]
    intro e
    rw [e] at hc
    exact absurd hc dE
   simp [has];intro _ _;exact this
theorem d4n {s r w:f4} {i:Nat} {acc:List A0} {t:A0} (h:At s i w r) (hw:w ≠ []) (hc:a8b w) (hr:Del r) (ht:F7 i w (i+w.length)=.ok (t,i+w.length)):x4 s i acc=x4 s (i+w.length) (acc ++ [t]):=by
 have hr':r=[]∨r8 (bt r 0)=false:=by
  by_cases hn:r=[]
  ·exact .inl hn
  ·exact .inr (hr.not hn).1
 have he:=a31 h hc hr'
 have hcc:=hc 0 (List.length_pos_iff.2 hw)
 have hb:=h.bt (j:=0) (List.length_pos_iff.2 hw)
 rw [Nat.add_zero] at hb
 have hone:y7 s i=.ok (t,i+w.length):=by
  rw [b3i (by rw [hb];exact hcc),he,if_neg,h.sub hw,ht]
  have hb2:=h.btr (j:=0)
  rw [Nat.add_zero] at hb2
  by_cases hn:r=[]
  ·have:=h.len hw
   subst hn
   simp at this
   simp [has];omega
  ·rw [c92];· simp
   rw [hb2];exact (hr.not hn).2
 have hlt:i < s.length:=by have:=h.len hw;have:=List.length_pos_iff.2 hw;omega
 have hcc':33≤bt w 0∧bt w 0≤126∧bt w 0 ≠ 40∧bt w 0 ≠ 41∧bt w 0 ≠ 39∧bt w 0 ≠ 34∧bt w 0 ≠ 59∧bt w 0 ≠ 124∧bt w 0 ≠ 58:=by simpa [r8] using hcc
 exact a8j hlt (by rw [hb];simp [F4];omega) (by rw [hb];omega) (f3a w hc r h hw hr) hone
def K5 (w:f4):Bool:=decide (w ≠ []) && w.all fun b=>r8 b.toNat
theorem c1p {w:f4} (h:K5 w=true):w ≠ []∧a8b w:=by
 simp [K5] at h
 refine ⟨h.1,fun j hj=>?_⟩
 have:=h.2 w[j] (List.getElem_mem hj)
 unfold bt
 simp [List.getD,List.getElem?_eq_getElem hj,this]
theorem d13 {s r w:f4} {i:Nat} {acc:List A0} (h:At s i w r) (hw:K5 w=true) (hr:Del r) (h1:w ≠ [46]) (h2:(m6 w).2.2=false) (hl:w.length≤40):x4 s i acc=x4 s (i+w.length) (acc ++ [⟨6,i,[],w,[]⟩]):=by
 obtain ⟨g1,g2⟩:=c1p hw
 refine d4n h g1 g2 hr ?_
 unfold F7
 rw [if_neg h1,if_neg (by rw [h2];simp),if_pos (b2z hl (List.length_pos_iff.2 g1))]
 rfl
theorem d2c {s r p w:f4} {i:Nat} {acc:List A0} (h:At s i (p ++ (58 :: 58 :: w)) r) (hp:a8b p) (hp0:p ≠ []) (hpv:m7 p=true) (hw:K5 w=true) (hr:Del r) (hl:w.length≤40):x4 s i acc=x4 s (i+(p ++ (58 :: 58 :: w)).length) (acc ++ [⟨6,i,p,w,[]⟩]):=by
 obtain ⟨g1,g2⟩:=c1p hw
 have hr':r=[]∨r8 (bt r 0)=false:=by
  by_cases hn:r=[]
  ·exact .inl hn
  ·exact .inr (hr.not hn).1
 obtain ⟨ha,hb⟩:=h.app
 have hcw:At s (i+p.length+2) w r:=by
  have:At s (i+p.length) ([58,58] ++ w) r:=hb
  exact this.app.2
 have hcol:At s (i+p.length) [58,58] (w ++ r):=by
  have:At s (i+p.length) ([58,58] ++ w) r:=hb
  exact this.app.1
 have he:=a31 ha hp (.inr (by show r8 (bt (58 :: 58 :: w ++ r) 0)=false;rw [List.cons_append,bt0];decide))
 have hcc:=hp 0 (List.length_pos_iff.2 hp0)
 have hb0:=ha.bt (j:=0) (List.length_pos_iff.2 hp0)
 rw [Nat.add_zero] at hb0
 have hw0:=g2 0 (List.length_pos_iff.2 g1)
 have hbw:=hcw.bt (j:=0) (List.length_pos_iff.2 g1)
 rw [Nat.add_zero] at hbw
 have hcw':33≤bt w 0∧bt w 0≤126∧bt w 0 ≠ 40∧bt w 0 ≠ 41∧bt w 0 ≠ 39∧bt w 0 ≠ 34∧bt w 0 ≠ 59∧bt w 0 ≠ 124∧bt w 0 ≠ 58:=by simpa [r8] using hw0
 have hlen:=h.len (by simp)
 have hwl:=List.length_pos_iff.2 g1
 simp only [List.length_append,List.length_cons] at hlen
 have hhas:has s (i+p.length) 58 58=true:=by
  have c0:=hcol.bt (j:=0) (by simp)
  have c1:=hcol.bt (j:=1) (by simp)
  rw [Nat.add_zero] at c0
  simp [has,c0,c1]
  refine ⟨oM,dE,dE⟩
 have hend:=a31 hcw g2 hr'
 have hone:y7 s i=.ok (⟨6,i,p,w,[]⟩,i+p.length+2+w.length):=by
  rw [b3i (by rw [hb0];exact hcc),he,if_pos hhas,ha.sub hp0]
  unfold H5
  rw [if_pos oM,hbw,if_neg oM,if_pos hw0]
  simp only []
  rw [hend,hcw.sub g1,if_pos (b27 hl hwl hpv)]
  rfl
 have hlt:i < s.length:=by have:=List.length_pos_iff.2 hp0;omega
 have hcc':33≤bt p 0∧bt p 0≤126∧bt p 0 ≠ 40∧bt p 0 ≠ 41∧bt p 0 ≠ 39∧bt p 0 ≠ 34∧bt p 0 ≠ 59∧bt p 0 ≠ 124∧bt p 0 ≠ 58:=by simpa [r8] using hcc
 have hcom:has s i 35 124=false:=by
  cases p with
  | nil=>exact absurd rfl hp0
  | cons c p =>
   have:bt s (i+1) ≠ 124:=by
    cases p with
    | nil =>
     have:=hcol.bt (j:=0) (by simp)
     rw [Nat.add_zero] at this
     rw [show i+[c].length=i+1 from rfl] at this
     rw [this];decide
    | cons d p =>
     have hb:=ha.bt (j:=1) (by simp)
     have hc:=hp 1 (by simp)
     rw [hb]
     intro e
     rw [e] at hc
     exact absurd hc dE
   simp [has];intro _ _;exact this
 rw [a8j hlt (by rw [hb0];simp [F4];omega) (by rw [hb0];omega) hcom hone]
 congr 1
 simp;omega
theorem d2l {s r p w:f4} {i:Nat} {acc:List A0} (h:At s i (p ++ (58 :: 58 :: D1 124 w)) r) (hp:a8b p) (hp0:p ≠ []) (hpv:m7 p=true) (hl:w.length≤40) (h0:0 < w.length):x4 s i acc=x4 s (i+(p ++ (58 :: 58 :: D1 124 w)).length) (acc ++ [⟨6,i,p,w,[]⟩]):=by
 obtain ⟨ha,hb⟩:=h.app
 have hcw:At s (i+p.length+2) (D1 124 w) r:=by
  have:At s (i+p.length) ([58,58] ++ D1 124 w) r:=hb
  exact this.app.2
 have hcol:At s (i+p.length) [58,58] (D1 124 w ++ r):=by
  have:At s (i+p.length) ([58,58] ++ D1 124 w) r:=hb
  exact this.app.1
 have he:=a31 ha hp (.inr (by show r8 (bt (58 :: 58 :: D1 124 w ++ r) 0)=false;rw [List.cons_append,bt0];decide))
 have hcc:=hp 0 (List.length_pos_iff.2 hp0)
 have hb0:=ha.bt (j:=0) (List.length_pos_iff.2 hp0)
 rw [Nat.add_zero] at hb0
 have hbw:=hcw.hd.1
 have hlen:=h.len (by simp)
 simp only [List.length_append,List.length_cons,a8c] at hlen
 have hhas:has s (i+p.length) 58 58=true:=by
  have c0:=hcol.bt (j:=0) (by simp)
  have c1:=hcol.bt (j:=1) (by simp)
  rw [Nat.add_zero] at c0
  simp [has,c0,c1]
  refine ⟨oM,dE,dE⟩
 have h2:At s (i+p.length+2+1) (E9 124 w) (124 :: r):=by
  have:At s (i+p.length+2) ([124] ++ E9 124 w) (124 :: r):=by unfold At at *;rw [hcw];simp [D1]
  exact this.app.2
 have hen:=a8a (c:=124) dE (acc:=[]) h2
 have hen:G5 s 124 (i+p.length+2+1) []=.ok ([] ++ a3c w,i+p.length+2+1+(E9 124 w).length+1):=hen
 have hone:y7 s i=.ok (⟨6,i,p,w,[]⟩,i+p.length+2+1+(E9 124 w).length+1):=by
  rw [b3i (by rw [hb0];exact hcc),he,if_pos hhas,ha.sub hp0]
  unfold H5
  rw [if_pos oM,hbw,if_pos dE,hen]
  simp only [List.nil_append]
  rw [b0s,if_pos (b27 hl h0 hpv)]
  rfl
 have hlt:i < s.length:=by have:=List.length_pos_iff.2 hp0;omega
 have hcc':33≤bt p 0∧bt p 0≤126∧bt p 0 ≠ 40∧bt p 0 ≠ 41∧bt p 0 ≠ 39∧bt p 0 ≠ 34∧bt p 0 ≠ 59∧bt p 0 ≠ 124∧bt p 0 ≠ 58:=by simpa [r8] using hcc
 have hcom:has s i 35 124=false:=by
  cases p with
  | nil=>exact absurd rfl hp0
  | cons c p =>
   have:bt s (i+1) ≠ 124:=by
    cases p with
    | nil =>
     have:=hcol.bt (j:=0) (by simp)
     rw [Nat.add_zero] at this
     rw [show i+[c].length=i+1 from rfl] at this
     rw [this];decide
    | cons d p =>
     have hb:=ha.bt (j:=1) (by simp)
     have hc:=hp 1 (by simp)
     rw [hb]
     intro e
     rw [e] at hc
     exact absurd hc dE
   simp [has];intro _ _;exact this
 rw [a8j hlt (by rw [hb0];simp [F4];omega) (by rw [hb0];omega) hcom hone]
 congr 1
 simp [a8c];omega
structure Pre (s t:f4):Prop where
 le:s.length≤t.length
 bt:∀ i,i < s.length→bt t i=bt s i
 pos:0 < s.length
 last:LQ.bt s (s.length - 1)=32
 tk:t.take s.length=s
section
variable {s t:f4} (P:Pre s t)
include P
end
end LQ
namespace LQ
open Go
theorem Q9:∀ n:Nat,Lib.decDigits n=f7 n:=by
 intro n
 induction n using Nat.strongRecOn with
 | _ n ih =>
  unfold Lib.decDigits
  by_cases h:n < 10
  ·simp only [h,dite_true,if_true]
   by_cases h0:n=0
   ·subst h0;rfl
   ·unfold f7
    rw [if_neg h0,C9 h0,show n / 10=0 by omega,u3,Nat.mod_eq_of_lt h]
    rfl
  ·simp only [h,dite_false,if_false]
   rw [ih (n / 10) oM]
   have h1:¬n / 10=0:=oM
   have h0:¬n=0:=oM
   unfold f7
   rw [if_neg h1,if_neg h0,C9 h0,List.reverse_cons,List.map_append]
   rfl
theorem itoa_showNat (n:Nat):Lib.itoa (n:Int)=f7 n:=by
 unfold Lib.itoa
 rw [if_neg oM,Q9,show ((n:Int)).toNat=n by omega]
theorem d00 {n k:Nat} (h:n < 10 ^ k):(i7 n).length≤k:=by
 induction k generalizing n with
 | zero=>rw [show n=0 by simpa using h,u3];simp
 | succ k ih =>
  by_cases h0:n=0
  ·rw [h0,u3];simp
  ·rw [C9 h0,List.length_cons]
   have:=ih (n:=n / 10) (by rw [Nat.pow_succ] at h;omega)
   omega
theorem b5w {m:Nat} (hm:m ≠ 0):∀ (k d:Nat),d < 10 ^ k→i7 (d+10 ^ k * m)=i7 d ++ (List.replicate (k - (i7 d).length) 0 ++ i7 m)
 | 0,d,h=>by
  have:d=0:=by simpa using h
  subst this
  simp [u3]
 | k+1,d,h=>by
  have h':d / 10 < 10 ^ k:=by rw [Nat.pow_succ] at h;omega
  have e1:d+10 ^ (k+1) * m=d+10 * (10 ^ k * m):=by rw [Nat.pow_succ,Nat.mul_comm (10 ^ k) 10,Nat.mul_assoc]
  have hp:0 < 10 ^ k * m:=Nat.mul_pos (Nat.pow_pos dE) (Nat.pos_of_ne_zero hm)
  rw [e1,C9 oM,show (d+10 * (10 ^ k * m)) % 10=d % 10 by omega,show (d+10 * (10 ^ k * m)) / 10=d / 10+10 ^ k * m by omega,b5w hm k (d / 10) h']
  by_cases h0:d=0
  ·subst h0;simp [u3,List.replicate_succ]
  ·rw [C9 h0,List.length_cons,List.cons_append,show k+1 - ((i7 (d / 10)).length+1)=k - (i7 (d / 10)).length by omega]
theorem showNat_len9 {n:Nat} (h:n < 1000000000):(f7 n).length≤9:=by
 by_cases h0:n=0
 ·subst h0;decide
 ·unfold f7;rw [if_neg h0];simpa using d00 (k:=9) h
theorem b99 {m d:Nat} (hm:m ≠ 0) (hd:d < 1000000000):f7 (d+B9 * m)=f7 m ++ (List.replicate (9 - (f7 d).length) 48 ++ f7 d):=by
 have hB:B9=10 ^ 9:=rfl
 have hp:0 < B9 * m:=Nat.mul_pos dE (Nat.pos_of_ne_zero hm)
 have e:f7 (d+B9 * m)=(i7 (d+10 ^ 9 * m)).reverse.map (fun d=>UInt8.ofNat (48+d)):=by unfold f7;rw [if_neg oM,hB]
 rw [e,b5w hm 9 d hd]
 have e2:f7 m=(i7 m).reverse.map (fun d=>UInt8.ofNat (48+d)):=by unfold f7;rw [if_neg hm]
 rw [e2]
 simp only [List.reverse_append,List.map_append,List.reverse_replicate,List.map_replicate]
 by_cases h0:d=0
 ·subst h0;rw [u3];simp;decide
 ·have e3:f7 d=(i7 d).reverse.map (fun d=>UInt8.ofNat (48+d)):=by unfold f7;rw [if_neg h0]
  rw [e3];simp
end LQ
