/- Limbs of nine digits: no program in sight. -/
import Derived.Test.YtdldcfllnohkeaaGreatDoorKP
set_option linter.all false
namespace LQ
def B9:Nat:=1000000000
def k8 (n:Nat):List Nat:=if h:n=0 then [] else n % B9 :: k8 (n / B9)
termination_by n
decreasing_by exact Nat.div_lt_self (Nat.pos_of_ne_zero h) dE
def k5:List Nat→Nat
 | []=>0
 | d :: t=>d+B9 * k5 t
def LB (l:List Nat):Prop:=∀ d ∈ l,d < B9
theorem F9:k8 0=[]:=by rw [k8];simp
theorem Y3 {n:Nat} (h:n ≠ 0):k8 n=n % B9 :: k8 (n / B9):=by rw [k8,dif_neg h]
theorem G0 (n:Nat):k5 (k8 n)=n:=by
 induction n using Nat.strongRecOn with
 | _ n ih =>
  by_cases h:n=0
  ·subst h;rw [F9];rfl
  ·rw [Y3 h,k5,ih (n / B9) (Nat.div_lt_self (Nat.pos_of_ne_zero h) dE)]
   unfold B9;omega
theorem N0 (n:Nat):LB (k8 n):=by
 induction n using Nat.strongRecOn with
 | _ n ih =>
  by_cases h:n=0
  ·subst h;rw [F9];intro d hd;simp at hd
  ·rw [Y3 h];intro d hd;simp at hd
   rcases hd with rfl | hd
   ·exact Nat.mod_lt _ dE
   ·exact ih (n / B9) (Nat.div_lt_self (Nat.pos_of_ne_zero h) dE) d hd
theorem c3y {d m:Nat} (hd:d < B9) (h:d ≠ 0∨m ≠ 0):k8 (d+B9 * m)=d :: k8 m:=by
 unfold B9 at hd
 rw [Y3 (by unfold B9;omega)];congr 1
 ·unfold B9;omega
 ·congr 1;unfold B9;omega
theorem R4 (a b:List Nat):k5 (a ++ b)=k5 a+B9 ^ a.length * k5 b:=by
 induction a with
 | nil=>simp [k5]
 | cons d t ih=>simp only [List.cons_append,k5,ih,List.length_cons,Nat.pow_succ];rw [Nat.mul_add,← Nat.mul_assoc,Nat.mul_comm (B9 ^ t.length) B9];omega
theorem d7p (t:List Nat) (d:Nat) (h9:LB (t ++ [d])) (hd:d ≠ 0):k8 (k5 (t ++ [d]))=t ++ [d]:=by
 induction t with
 | nil =>
  have:d < B9:=h9 d (by simp)
  simp only [List.nil_append,k5]
  rw [c3y this (.inl hd),F9]
 | cons x t ih =>
  simp only [List.cons_append,k5]
  rw [c3y (h9 x (by simp)),ih (fun y hy=>h9 y (by simp at hy ⊢;exact .inr hy))]
  refine .inr fun h0=>hd ?_
  have h2:=R4 t [d]
  rw [h0] at h2
  simp only [k5] at h2
  have h3:0 < B9 ^ t.length:=Nat.pow_pos dE
  rw [Nat.mul_zero,Nat.add_zero] at h2
  have h4:B9 ^ t.length * d=0:=oM
  rcases Nat.mul_eq_zero.1 h4 with h | h <;> omega
theorem d50 (l:List Nat) (h9:LB l) (n:Nat) (hn:n≤l.length):l.take (S7 l n)=k8 (k5 (l.take n)):=by
 induction n with
 | zero=>simp [S7,k5,F9]
 | succ n ih =>
  have hlt:n < l.length:=oM
  have htk:l.take (n+1)=l.take n ++ [l.getD n 0]:=by
   rw [List.take_succ_eq_append_getElem hlt];simp [List.getD,hlt]
  simp only [S7]
  split
  ·rename_i h0
   rw [ih oM,htk,h0,R4]
   simp [k5]
  ·rename_i h0
   rw [htk,d7p _ _ _ h0]
   intro d hd
   rw [← htk] at hd
   exact h9 d (List.mem_of_mem_take hd)
theorem a1a (l:List Nat) (h9:LB l):E3 l=k8 (k5 l):=by
 unfold E3;rw [d50 l h9 l.length (Nat.le_refl _),List.take_length]
theorem V8 (l:List Nat) (h9:LB l):k5 l < B9 ^ l.length:=by
 induction l with
 | nil=>simp [k5]
 | cons d t ih =>
  have h1:=ih (fun x hx=>h9 x (by simp [hx]))
  have h2:d < B9:=h9 d (by simp)
  simp only [k5,List.length_cons,Nat.pow_succ]
  unfold B9 at *
  omega
theorem c30 (n:Nat) (h:n ≠ 0):B9 ^ ((k8 n).length - 1)≤n:=by
 induction n using Nat.strongRecOn with
 | _ n ih =>
  rw [Y3 h]
  simp only [List.length_cons,Nat.add_sub_cancel]
  by_cases h1:n / B9=0
  ·rw [h1,F9];simp;omega
  ·have:=ih (n / B9) (Nat.div_lt_self (Nat.pos_of_ne_zero h) dE) h1
   have h2:(k8 (n / B9)).length ≠ 0:=by rw [Y3 h1];simp
   have h3:B9 ^ (k8 (n / B9)).length=B9 * B9 ^ ((k8 (n / B9)).length - 1):=by
    rw [← Nat.pow_succ'];congr 1;omega
   rw [h3]
   have h4:=Nat.mul_le_mul_left B9 this
   have h5:B9 * (n / B9)≤n:=Nat.mul_div_le n B9
   omega
theorem c4j (a b:List Nat) (ha:LB a) (hb:LB b) (n:Nat) (hna:n≤a.length) (hnb:n≤b.length) :
  F3 a b n=if k5 (a.take n) < k5 (b.take n) then -1 else if k5 (b.take n) < k5 (a.take n) then 1 else 0:=by
 induction n with
 | zero=>simp [F3,k5]
 | succ n ih =>
  have hla:n < a.length:=oM
  have hlb:n < b.length:=oM
  have e1:a.take (n+1)=a.take n ++ [a.getD n 0]:=by rw [List.take_succ_eq_append_getElem hla];simp [List.getD,hla]
  have e2:b.take (n+1)=b.take n ++ [b.getD n 0]:=by rw [List.take_succ_eq_append_getElem hlb];simp [List.getD,hlb]
  have v1:=R4 (a.take n) [a.getD n 0]
  have v2:=R4 (b.take n) [b.getD n 0]
  have l1:(a.take n).length=n:=by simp;omega
  have l2:(b.take n).length=n:=by simp;omega
  have b1:=V8 (a.take n) (fun d hd=>ha d (List.mem_of_mem_take hd))
  have b2:=V8 (b.take n) (fun d hd=>hb d (List.mem_of_mem_take hd))
  rw [l1] at v1 b1
  rw [l2] at v2 b2
  simp only [k5,Nat.mul_zero,Nat.add_zero] at v1 v2
  rw [e1,e2,v1,v2]
  simp only [F3]
  rw [ih oM oM]
  generalize a.getD n 0=x at *
  generalize b.getD n 0=y at *
  generalize k5 (a.take n)=p at *
  generalize k5 (b.take n)=q at *
  generalize B9 ^ n=P at *
  by_cases h1:x < y
  ·have:P * (x+1)≤P * y:=Nat.mul_le_mul_left P h1
   rw [Nat.mul_add,Nat.mul_one] at this
   rw [if_pos h1,if_pos oM]
  ·rw [if_neg h1]
   by_cases h2:y < x
   ·have:P * (y+1)≤P * x:=Nat.mul_le_mul_left P h2
    rw [Nat.mul_add,Nat.mul_one] at this
    rw [if_pos h2,if_neg oM,if_pos oM]
   ·rw [if_neg h2]
    have h3:x=y:=oM
    subst h3
    simp only [Nat.add_lt_add_iff_right]
theorem c4k (x y:Nat):Q0 (k8 x) (k8 y)=if x < y then -1 else if y < x then 1 else 0:=by
 unfold Q0
 split
 ·rename_i h
  rw [c4j _ _ (N0 x) (N0 y) _ (Nat.le_refl _) oM,List.take_length,h,List.take_length,G0,G0]
 ·rename_i h
  have b1:=V8 (k8 x) (N0 x)
  have b2:=V8 (k8 y) (N0 y)
  rw [G0] at b1 b2
  split
  ·rename_i h2
   have hy:y ≠ 0:=by intro e;rw [e,F9] at h2;simp at h2
   have g2:=c30 y hy
   have:B9 ^ (k8 x).length≤B9 ^ ((k8 y).length - 1):=Nat.pow_le_pow_right dE oM
   rw [if_pos oM]
  ·rename_i h2
   have hx:x ≠ 0:=by intro e;rw [e,F9] at h h2;simp only [List.length_nil] at h h2;omega
   have g1:=c30 x hx
   have:B9 ^ (k8 y).length≤B9 ^ ((k8 x).length - 1):=Nat.pow_le_pow_right dE oM
   rw [if_neg oM,if_pos oM]
theorem b8a {a b:Nat} (h:k8 a=k8 b):a=b:=by rw [← G0 a,h,G0]
theorem a73 {n k:Nat} (h:n < B9 ^ k):(k8 n).length≤k:=by
 by_cases h0:n=0
 ·subst h0;simp [F9]
 ·have h1:=c30 n h0
  by_cases h2:(k8 n).length≤k
  ·exact h2
  ·have:B9 ^ k≤B9 ^ ((k8 n).length - 1):=Nat.pow_le_pow_right dE oM
   omega
theorem d7q (x r:Nat) (hx:x < B9):E3 (x :: k8 r)=k8 (x+B9 * r):=by
 rw [a1a]
 ·simp only [k5,G0]
 ·intro d hd
  rcases List.mem_cons.1 hd with rfl | hd
  ·exact hx
  ·exact N0 r d hd
theorem d38 (l:List Nat) (i:Nat) (h:i < l.length):k5 (l.drop i)=l.getD i 0+B9 * k5 (l.drop (i+1)):=by
 rw [List.drop_eq_getElem_cons h];simp [k5,List.getD,h]
theorem b8b (l:List Nat) (i:Nat) (h:i < l.length):k5 (l.take (i+1))=k5 (l.take i)+B9 ^ i * l.getD i 0:=by
 have e:l.take (i+1)=l.take i ++ [l.getD i 0]:=by rw [List.take_succ_eq_append_getElem h];simp [List.getD,h]
 rw [e,R4]
 have:(l.take i).length=i:=by simp;omega
 rw [this];simp [k5]
theorem c31 (l:List Nat) (i x:Nat) (h:i < l.length):k5 (l.set i x)+B9 ^ i * l.getD i 0=k5 l+B9 ^ i * x:=by
 induction l generalizing i with
 | nil=>simp at h
 | cons d t ih =>
  cases i with
  | zero=>simp [k5,List.getD];omega
  | succ i =>
   have:=ih i (by simpa using h)
   simp only [List.set_cons_succ,k5,Nat.pow_succ,List.getD_cons_succ]
   have e1:B9 ^ i * B9 * t.getD i 0=B9 * (B9 ^ i * t.getD i 0):=by rw [Nat.mul_comm (B9 ^ i) B9,Nat.mul_assoc]
   have e2:B9 ^ i * B9 * x=B9 * (B9 ^ i * x):=by rw [Nat.mul_comm (B9 ^ i) B9,Nat.mul_assoc]
   rw [e1,e2]
   have e3:B9 * (k5 (t.set i x)+B9 ^ i * t.getD i 0)=B9 * (k5 t+B9 ^ i * x):=by rw [this]
   rw [Nat.mul_add,Nat.mul_add] at e3
   omega
theorem a29 {l:List Nat} (h:LB l) (i x:Nat) (hx:x < B9):LB (l.set i x):=fun d hd=>by
 rcases List.mem_or_eq_of_mem_set hd with h1 | rfl
 ·exact h d h1
 ·exact hx
theorem a4o {l:List Nat} (h:LB l) (i:Nat):l.getD i 0 < B9:=by
 by_cases hi:i < l.length
 ·simp only [List.getD,List.getElem?_eq_getElem hi,Option.getD_some];exact h _ (List.getElem_mem hi)
 ·simp only [List.getD,List.getElem?_eq_none (Nat.le_of_not_lt hi),Option.getD_none];decide
theorem d0v (n:Nat):k5 (List.replicate n 0)=0:=by
 induction n with
 | zero=>rfl
 | succ n ih=>simp [List.replicate_succ,k5,ih]
def A3 (s:f5):Nat:=u4 s 0 0
theorem c6l (a b:f5) (k acc:Nat) (hk:k≤a.length):u4 (a ++ b) k acc=u4 b 0 (u4 a k acc):=by
 fun_induction u4 a k acc with
 | case1 k acc h ih =>
  rw [u4,if_pos (by simp;omega),← ih oM]
  congr 2
  have:bt (a ++ b) k=bt a k:=by unfold bt;simp [List.getD,List.getElem?_append_left h]
  rw [this]
 | case2 k acc h =>
  have hk':k=a.length:=oM
  subst hk'
  clear h hk
  have:∀ (j acc:Nat),u4 (a ++ b) (a.length+j) acc=u4 b j acc:=by
   intro j acc
   fun_induction u4 b j acc with
   | case1 j acc h ih =>
    rw [u4,if_pos (by simp;omega),← ih,Nat.add_assoc]
    congr 2
    have:bt (a ++ b) (a.length+j)=bt b j:=by unfold bt;simp only [List.getD];rw [List.getElem?_append_right (Nat.le_add_right _ _),Nat.add_sub_cancel_left]
    rw [this]
   | case2 j acc h=>rw [u4,if_neg (by simp;omega)]
  exact this 0 acc
theorem b90 (a b:f5):A3 (a ++ b)=A3 a * 10 ^ b.length+A3 b:=by
 unfold A3
 rw [c6l a b 0 0 (Nat.zero_le _),c6k b 0 _ (Nat.zero_le _)];simp
theorem b59 (c:UInt8) (s:f5):A3 (c :: s)=(bt [c] 0 - 48).toNat * 10 ^ s.length+A3 s:=by
 rw [show c :: s=[c] ++ s from rfl,b90]
 congr 2
 unfold A3
 rw [u4,if_pos (by simp),u4,if_neg (by simp)];omega
theorem c36 (s:f5) (h:∀ j,j < s.length→48≤bt s j∧bt s j≤57):A3 s < 10 ^ s.length:=by
 induction s with
 | nil=>unfold A3;rw [u4,if_neg (by simp)];simp
 | cons c s ih =>
  rw [b59,List.length_cons,Nat.pow_succ]
  have h0:=h 0 (by simp)
  have e:bt [c] 0=bt (c :: s) 0:=rfl
  have:=ih fun j hj=>by have:=h (j+1) (by simpa using hj);rwa [Y0] at this
  have h1:(bt [c] 0 - 48).toNat≤9:=by rw [e];omega
  have:=Nat.mul_le_mul_right (10 ^ s.length) h1
  omega
theorem d6t (s:f5) (e k:Nat) (hk:k≤s.length) (h:∀ j,e≤j→j < k→48≤bt s j∧bt s j≤57) :
  (u1 s e k []).reverse.map (fun d=>UInt8.ofNat (48+d))=(s.take k).drop e:=by
 induction k with
 | zero=>simp [u1]
 | succ k ih =>
  by_cases he:e≤k
  ·rw [a5d s e k he,List.reverse_cons,List.map_append,ih oM (fun j h1 h2=>h j h1 oM)]
   have hlt:k < s.length:=oM
   rw [List.take_succ_eq_append_getElem hlt,List.drop_append_of_le_length (by simp;omega)]
   congr 1
   have:=h k he oM
   have hb:bt s k=(s[k].toNat:Int):=by unfold bt;simp [List.getD,List.getElem?_eq_getElem hlt]
   rw [hb] at this ⊢
   simp only [List.map_cons,List.map_nil,List.cons.injEq,and_true]
   apply UInt8.toNat_inj.1
   rw [UInt8.toNat_ofNat']
   have:=s[k].toNat_lt
   omega
  ·rw [u1,if_neg he,List.drop_eq_nil_of_le (by simp;omega)];rfl
theorem d28 {s:f5} (h1:x9 s=true) (h2:s ≠ x5):g8 s < s.length∧bt s (g8 s) ≠ 48∧(∀ j,g8 s≤j→j < s.length→48≤bt s j∧bt s j≤57) ∧
  u1 s (g8 s) s.length []=i6 (f7 s).natAbs∧(f7 s).natAbs ≠ 0∧(g8 s=1↔f7 s < 0):=by
 have h3:g8 s < s.length∧bt s (g8 s) ≠ 48∧j7 s (g8 s)=s.length:=by
  simp [x9,h2] at h1;exact ⟨h1.1.1,h1.1.2,h1.2⟩
 have hall:∀ j,g8 s≤j→j < s.length→48≤bt s j∧bt s j≤57:=fun j a b=>Y2 s (g8 s) j a oM
 have e:=b2h s
 unfold Z4 at e
 rw [if_pos ⟨h1,h2⟩] at e
 injection e with e1 e2
 obtain ⟨t,ht⟩:=c2v s (g8 s) s.length h3.1
 refine ⟨h3.1,h3.2.1,hall,e2,fun h0=>?_,by simpa using e1⟩
 rw [h0,u9,ht] at e2
 simp at e2
theorem d5e {s:f5} (h:g8 s=1):s=45 :: s.drop 1:=by
 unfold g8 at h
 split at h
 ·rename_i hh
  cases s with
  | nil=>simp at hh
  | cons c s =>
   have:(c.toNat:Int)=45:=hh.2
   simp only [List.drop_succ_cons,List.drop_zero,List.cons.injEq,and_true]
   exact UInt8.toNat_inj.1 (by show c.toNat=45;omega)
 ·omega
theorem d96 {s:f5} (h:x9 s=true):f9 (f7 s)=s:=by
 by_cases h2:s=x5
 ·subst h2;rw [a64];decide
 ·obtain ⟨q1,q2,q3,q4,q5,q6⟩:=d28 h h2
  have ht:=d6t s (g8 s) s.length (Nat.le_refl _) q3
  rw [q4,List.take_length] at ht
  have e:f8 (f7 s).natAbs=s.drop (g8 s):=by unfold f8;rw [if_neg q5];exact ht
  unfold f9
  rw [e]
  by_cases hs:g8 s=1
  ·rw [if_pos (q6.1 hs),hs];exact (d5e hs).symm
  ·rw [if_neg (fun k=>hs (q6.2 k))]
   have:g8 s=0:=by have:=O0 s;omega
   rw [this];rfl
theorem a3o (n:Nat):x9 (f8 n)=true:=by
 by_cases h:n=0
 ·subst h;decide
 ·obtain ⟨h1,h2,h3⟩:=a0d n h
  have hsg0:g8 (f8 n)=0:=by unfold g8;rw [if_neg];have:=h1 0 (Nat.le_refl _) h3;omega
  unfold x9
  rw [hsg0,R2 _ 0 (Nat.zero_le _) h1]
  simp [h2];right;omega
theorem c04 (n:Int):x9 (f9 n)=true:=by
 unfold f9
 split
 ·rename_i h
  have hn:n.natAbs ≠ 0:=oM
  obtain ⟨h1,h2,h3⟩:=a0d n.natAbs hn
  show x9 (45 :: f8 n.natAbs)=true
  have hsg:g8 (45 :: f8 n.natAbs)=1:=by unfold g8;rw [if_pos];exact ⟨by simp,rfl⟩
  unfold x9
  rw [hsg,show (1:Nat)=0+1 from rfl,b29,Y0,R2 _ 0 (Nat.zero_le _) h1]
  simp [h2];right;omega
 ·exact a3o _
def K7 (s:f5):f5:=if x9 s then s else x5
theorem a03 (s:f5):K7 s=f9 (f7 s):=by
 unfold K7
 split
 ·rename_i h;exact (d96 h).symm
 ·rename_i h
  have:f7 s=0:=by unfold f7;rw [if_neg h]
  rw [this];decide
theorem a2z (n:Nat):f9 (n:Int)=f8 n:=by unfold f9;rw [if_neg oM];rfl
def d7x (s:f5):f5:=f9 (-f7 s)
theorem a7h (a b:Int) (hb:0 < b):o7 (f9 a) (f9 b)=(f9 (a / (Nat.gcd a.natAbs b.natAbs:Int)),f9 (b / (Nat.gcd a.natAbs b.natAbs:Int))):=by
 unfold o7
 rw [o9,o9,if_neg oM]
 simp only []
 have hg:0 < Nat.gcd a.natAbs b.natAbs:=Nat.gcd_pos_of_pos_right _ oM
 have hd1:=Nat.gcd_dvd_left a.natAbs b.natAbs
 have hd2:=Nat.gcd_dvd_right a.natAbs b.natAbs
 generalize Nat.gcd a.natAbs b.natAbs=g at *
 have e2:b / (g:Int)=((b.natAbs / g:Nat):Int):=by
  conv=>lhs;rw [show b=(b.natAbs:Int) by omega]
  rfl
 have e1:a / (g:Int)=(if (a < 0)=(b < 0) then 1 else -1) * ((a.natAbs / g:Nat):Int):=by
  obtain ⟨k,hk⟩:=hd1
  rw [hk,Nat.mul_div_cancel_left _ hg]
  by_cases h:a < 0
  ·rw [if_neg (by simp [h];omega)]
   have:a=(g:Int) * (-(k:Int)):=by
    have:((a.natAbs:Nat):Int)=(g:Int) * (k:Int):=by rw [hk];simp
    rw [Int.mul_neg];omega
   rw [this,Int.mul_ediv_cancel_left _ oM];omega
  ·rw [if_pos (by simp [h];omega)]
   have:a=(g:Int) * (k:Int):=by
    have:((a.natAbs:Nat):Int)=(g:Int) * (k:Int):=by rw [hk];simp
    omega
   rw [this,Int.mul_ediv_cancel_left _ oM];omega
 rw [e1,e2,a2z]
def At (s:f5) (i:Nat) (w r:f5):Prop:=s.drop i=w ++ r
theorem At.len {s w r:f5} {i:Nat} (h:At s i w r) (hw:w ≠ []):i+w.length+r.length=s.length:=by
 have:=congrArg List.length h
 simp at this
 have:0 < w.length:=List.length_pos_iff.2 hw
 omega
theorem At.bt {s w r:f5} {i j:Nat} (h:At s i w r) (hj:j < w.length):LQ.bt s (i+j)=LQ.bt w j:=by
 unfold LQ.bt
 have:s[i+j]?=w[j]?:=by rw [← List.getElem?_drop,h,List.getElem?_append_left hj]
 simp only [List.getD,this]
theorem At.btr {s w r:f5} {i j:Nat} (h:At s i w r):LQ.bt s (i+w.length+j)=LQ.bt r j:=by
 unfold LQ.bt
 have:s[i+w.length+j]?=r[j]?:=by rw [Nat.add_assoc,← List.getElem?_drop,h,List.getElem?_append_right (Nat.le_add_right _ _),Nat.add_sub_cancel_left]
 simp only [List.getD,this]
theorem At.next {s w r:f5} {i:Nat} (h:At s i w r):s.drop (i+w.length)=r:=by rw [← List.drop_drop,h,List.drop_left]
theorem At.app {s u v r:f5} {i:Nat} (h:At s i (u ++ v) r):At s i u (v ++ r)∧At s (i+u.length) v r:=by
 have h1:At s i u (v ++ r):=by unfold At at *;rw [h,List.append_assoc]
 exact ⟨h1,h1.next⟩
theorem At.sub {s w r:f5} {i:Nat} (h:At s i w r) (hw:w ≠ []):(s.take (i+w.length)).drop i=w:=by
 rw [List.drop_take,h,show i+w.length - i=w.length by omega,List.take_left]
def Del (r:f5):Prop:=r=[]∨bt r 0=32∨bt r 0=41∨bt r 0=10
theorem Del.not {r:f5} (h:Del r) (hr:r ≠ []):t6 (bt r 0)=false∧bt r 0 ≠ 58:=by
 rcases h with h | h | h | h
 ·exact absurd h hr
 all_goals rw [h];decide
def a8q (w:f5):Prop:=∀ j,j < w.length→t6 (bt w j)=true
theorem a4m {s w r:f5} {i:Nat} (h:At s i w r) (hw:a8q w) (hr:r=[]∨t6 (bt r 0)=false):k9 s i=i+w.length:=by
 have key:∀ n j,w.length - j=n→j≤w.length→k9 s (i+j)=i+w.length:=by
  intro n
  induction n with
  | zero =>
   intro j hj hle
   have:j=w.length:=oM
   subst this
   rw [k9]
   split
   ·rename_i hlt
    have hb:=h.btr (j:=0)
    rw [Nat.add_zero] at hb
    rcases hr with hr | hr
    ·exfalso
     subst hr
     have:=congrArg List.length h
     simp at this;omega
    ·rw [if_neg (by rw [hb,hr];simp)]
   ·rfl
  | succ n ih =>
   intro j hj hle
   have hlt:i+j < s.length:=by
    have:=congrArg List.length h
    simp at this;omega
   rw [k9,if_pos hlt,if_pos (by rw [h.bt oM];exact hw j oM),Nat.add_assoc]
   exact ih (j+1) oM oM
 exact key _ 0 rfl (Nat.zero_le _)
def F8 (c:UInt8) (s:f5):f5:=s.flatMap fun b=>if b=c∨b=92 then [92,b] else [b]
def D8 (c:UInt8) (s:f5):f5:=c :: (F8 c s ++ [c])
def a3p (l:f5):List Int:=l.map fun b=>(b.toNat:Int)
theorem b1g (l:f5):E6 (a3p l)=l:=by
 unfold E6 a3p
 rw [List.map_map]
 conv=>rhs;rw [← List.map_id l]
 exact List.map_congr_left fun b _=>by simp
theorem bt0 (c:UInt8) (l:f5):bt (c :: l) 0=c.toNat:=rfl
theorem bt1 (c d:UInt8) (l:f5):bt (c :: d :: l) 1=d.toNat:=rfl
theorem b7p {a b:UInt8} (h:a ≠ b):(a.toNat:Int) ≠ b.toNat:=fun e=>h (UInt8.toNat_inj.1 oM)
theorem a83 {c:UInt8} (hc:c ≠ 92) {s:f5}:∀ {l r:f5} {i:Nat} {acc:List Int},At s i (F8 c l) (c :: r)→H7 s c.toNat i acc=.ok (acc ++ a3p l,i+(F8 c l).length+1)
 | [],r,i,acc,h=>by
  have h0:At s i [c] r:=h
  have hlt:i < s.length:=by have:=h0.len (by simp);simp at this;omega
  have hb:bt s i=c.toNat:=by have:=h0.bt (j:=0) (by simp);rwa [Nat.add_zero] at this
  rw [H7,if_pos hlt,if_pos hb];simp [a3p,F8]
 | b :: l,r,i,acc,h=>by
  by_cases hb:b=c∨b=92
  ·have e:F8 c (b :: l)=[92,b] ++ F8 c l:=by simp [F8,hb]
   rw [e] at h ⊢
   obtain ⟨h1,h2⟩:=h.app
   have hl:=h1.len (by simp)
   simp at hl
   have b0:bt s i=92:=by have:=h1.bt (j:=0) (by simp);rw [Nat.add_zero] at this;rw [this];rfl
   have b1:bt s (i+1)=b.toNat:=h1.bt (j:=1) (by simp)
   have hc':(92:Int) ≠ (c.toNat:Int):=by have:=b7p hc;simp at this;omega
   rw [H7,if_pos oM,b0,if_neg hc',if_neg (by simp),if_pos oM,b1,if_neg,show i+2=i+[92,b].length from rfl,a83 hc h2]
   ·simp [a3p];omega
   ·rcases hb with hb | hb
    ·subst hb;simp
    ·subst hb;simp
  ·have e:F8 c (b :: l)=[b] ++ F8 c l:=by simp [F8,hb]
   rw [e] at h ⊢
   obtain ⟨h1,h2⟩:=h.app
   have hl:=h1.len (by simp)
   simp at hl
   have b0:bt s i=b.toNat:=by have:=h1.bt (j:=0) (by simp);rwa [Nat.add_zero] at this
   have n1:=b7p (fun e=>hb (.inl e))
   have n2:(b.toNat:Int) ≠ 92:=by have:=b7p (fun e=>hb (.inr e));simpa using this
   rw [H7,if_pos oM,b0,if_neg n1,if_pos n2,show i+1=i+[b].length from rfl,a83 hc h2]
   simp [a3p];omega
theorem a8i {s:f5} {i j:Nat} (hi:i≤s.length) (h:skip s i=some j):i≤j∧j≤s.length:=by
 fun_induction skip s i with
 | case1 i h1 h2 ih=>have:=ih oM h;omega
 | case2 i h1 h2 h3 h4 ih=>have:=a88 s i oM;have:=ih oM h;omega
 | case3 i h1 h2 h3 h4=>injection h with h;omega
 | case4 i h1 h2 h3 h4 h5=>cases h
 | case5 i h1 h2 h3 h4 j' h5 h6 ih=>have:=X3 h4;have:=b0v s (i+2) 1 j' oM h5;have:=ih oM h;omega
 | case6 i h1 h2 h3 h4 j' h5 h6=>injection h with h;omega
 | case7 i h1 h2 h3 h4=>injection h with h;omega
 | case8 i h1=>injection h with h;omega
theorem a7w {s:f5} {c:Int} {i:Nat} {acc l:List Int} {j:Nat} (h:H7 s c i acc=.ok (l,j)):i < j∧j≤s.length:=by
 fun_induction H7 s c i acc with
 | case1 i acc h1 h2=>injection h with h;injection h with h3 h4;omega
 | case2 i acc h1 h2 h3 ih=>have:=ih h;omega
 | case3=>cases h
 | case4 i acc h1 h2 h3 h4 h5 ih=>have:=ih h;omega
 | case5=>cases h
 | case6=>cases h
theorem a6s {s:f5} {i k:Nat} {t:A6} (hi:i < s.length) (h:A0 s i=.ok (t,k)):i < k∧k≤s.length:=by
 unfold A0 at h
 repeat' split at h
 all_goals try (cases h;done)
 all_goals try (injection h with h;injection h with h1 h2;subst h2;omega)
 all_goals try (rename_i h0 _;have:=a7w h0;injection h with h;injection h with h1 h2;subst h2;omega)
 ·rename_i hc _
  have hw:=G9 s i oM
  have hw2:i < k9 s i:=by rw [k9,if_pos hi,if_pos hc];have:=G9 s (i+1) oM;omega
  unfold J5 at h
  repeat' split at h
  all_goals try (cases h;done)
  all_goals try (rename_i h0 _;have:=a7w h0;injection h with h;injection h with h1 h2;subst h2;omega)
  all_goals (simp only [] at h;split at h;all_goals try (cases h;done)
             all_goals (injection h with h;injection h with h1 h2;have:=G9 s (k9 s i+2) oM;subst h2;omega))
 ·rename_i hc _
  have hw:=G9 s i oM
  have hw2:i < k9 s i:=by rw [k9,if_pos hi,if_pos hc];have:=G9 s (i+1) oM;omega
  unfold H0 at h
  repeat' split at h
  all_goals try (cases h;done)
  all_goals try (simp only [] at h;split at h)
  all_goals try (cases h;done)
  all_goals (injection h with h;injection h with h1 h2;subst h2;omega)
theorem a8k {s:f5} {i:Nat} {acc:List A6} (hi:i≤s.length):y8 s i acc=match skip s i with
  | none=>.error (11,s.length)
  | some j=>if j < s.length then match A0 s j with
   | .error e=>.error e
   | .ok (t,k)=>y8 s k (acc ++ [t])
   else .ok (acc ++ [⟨0,s.length,s8,s8,s8⟩]):=by
 rw [y8]
 cases hs:skip s i with
 | none=>rfl
 | some j =>
  have h1:=a8i hi hs
  simp only
  by_cases hj:j < s.length
  ·rw [if_pos hj,if_pos hj]
   cases ht:A0 s j with
   | error e=>rfl
   | ok p =>
    have h2:=a6s (t:=p.1) (k:=p.2) hj ht
    simp only
    rw [if_pos oM]
  ·rw [if_neg hj,if_neg hj]
theorem a90 {s:f5} {i k:Nat} {acc:List A6} {t:A6} (hi:i < s.length) (hb:G5 (bt s i)=false) (h9:bt s i ≠ 59) (hh:has s i 35 124=false) (ht:A0 s i=.ok (t,k)):y8 s i acc=y8 s k (acc ++ [t]):=by
 rw [a8k oM,b1x hi hb h9 hh]
 simp only
 rw [if_pos hi,ht]
def e6u (w:f5):Prop:=∀ j,j < w.length→48≤bt w j∧bt w j≤57
theorem a1g (n:Nat):e6u (f8 n):=by
 by_cases h:n=0
 ·subst h;intro j hj;have:j=0:=by simp [f8,x5] at hj;omega
  subst this;decide
 ·exact fun j hj=>(a0d n h).1 j (Nat.zero_le _) hj
theorem d1x (n:Nat):f8 n ≠ []:=by
 by_cases h:n=0
 ·subst h;decide
 ·intro e;have:=(a0d n h).2.2;rw [e] at this;simp at this
theorem a0e (n:Nat):0 < (f8 n).length:=List.length_pos_iff.2 (d1x n)
theorem d3b {s w r:f5} {i:Nat} (h:At s i w r) (hw:e6u w) (hr:r=[]∨¬(48≤bt r 0∧bt r 0≤57)):j7 s i=i+w.length:=by
 have key:∀ n j,w.length - j=n→j≤w.length→j7 s (i+j)=i+w.length:=by
  intro n
  induction n with
  | zero =>
   intro j hj hle
   have:j=w.length:=oM
   subst this
   rw [j7]
   split
   ·rename_i hlt
    have hb:=h.btr (j:=0)
    rw [Nat.add_zero] at hb
    rcases hr with hr | hr
    ·exfalso
     subst hr
     have:=congrArg List.length h
     simp at this;omega
    ·rw [if_neg];rw [hb];simp [Q4];omega
   ·rfl
  | succ n ih =>
   intro j hj hle
   have hlt:i+j < s.length:=by
    have:=congrArg List.length h
    simp at this;omega
   have:=hw j oM
   rw [j7,if_pos hlt,if_pos (by rw [h.bt oM];simp [Q4];omega),Nat.add_assoc]
   exact ih (j+1) oM oM
 exact key _ 0 rfl (Nat.zero_le _)
def sgn (n:Int):f5:=if n < 0 then [45] else []
theorem a1s (n:Int):f9 n=sgn n ++ f8 n.natAbs:=by unfold f9 sgn;split <;> rfl
theorem c60 (n:Int) (d:Nat) (r:f5):g8 (sgn n ++ (f8 d ++ r))=(sgn n).length:=by
 unfold sgn
 split
 ·unfold g8;rw [if_pos ⟨by simp,rfl⟩];rfl
 ·unfold g8
  rw [if_neg];· rfl
  intro h
  have h0:=(a1g d) 0 (a0e d)
  have:bt ([] ++ (f8 d ++ r)) 0=bt (f8 d) 0:=by
   have h1:At (f8 d ++ r) 0 (f8 d) r:=rfl
   have:=h1.bt (j:=0) (a0e d)
   simpa using this
  rw [this] at h
  omega
theorem a2t (n:Nat):A8 (f8 n)=(f8 n).length:=by
 unfold A8
 rw [A4,Int.natAbs_natCast]
 by_cases h:n=0
 ·subst h;simp [u9,f8,x5]
 ·rw [← P2 n h];have:=a0e n;omega
theorem a68 (n:Int):A8 (f9 n)=(f8 n.natAbs).length:=by
 have:=a2t n.natAbs
 unfold A8 at this ⊢
 rw [A4,Int.natAbs_natCast] at this
 rw [o9,this]
def b4f (n:Int) (d:Nat):f5:=if d=1 then f9 n else f9 n ++ 47 :: f8 d
theorem At.hd {s r:f5} {c:UInt8} {w:f5} {i:Nat} (h:At s i (c :: w) r):LQ.bt s i=c.toNat∧i < s.length:=by
 have h1:=h.bt (j:=0) (by simp)
 have h2:=h.len (by simp)
 rw [Nat.add_zero] at h1
 simp at h2
 exact ⟨h1,oM⟩
theorem d0j {s:f5} {i:Nat} {a b:Int} (h:bt s i ≠ a):has s i a b=false:=by simp [has,h]
theorem e58 {s r w:f5} {c:UInt8} {i k:Nat} {acc:List A6} {t:A6} (h:At s i (c :: w) r) (hb:G5 c.toNat=false) (h9:(c.toNat:Int) ≠ 59) (h35:(c.toNat:Int) ≠ 35∨has s i 35 124=false) (ht:A0 s i=.ok (t,k)):y8 s i acc=y8 s k (acc ++ [t]):=by
 obtain ⟨h1,h2⟩:=h.hd
 refine a90 h2 (by rw [h1];exact hb) (by rw [h1];exact h9) ?_ ht
 rcases h35 with h3 | h3
 ·exact d0j (by rw [h1];exact h3)
 ·exact h3
theorem a85 (c:UInt8) (l:f5):(D8 c l).length=(F8 c l).length+2:=by simp [D8]
theorem b3i {text:f5} {bars:Bool} (h:text.length≤40) (h1:0 < text.length):n8 text s8 bars=0:=by
 unfold n8
 rw [if_neg oM,if_neg]
 rintro (⟨_,h⟩ | ⟨h,_⟩)
 ·omega
 ·exact h rfl
theorem b3j {text pkg:f5} {bars:Bool} (h:text.length≤40) (h1:0 < text.length) (hp:n5 pkg=true):n8 text pkg bars=0:=by
 unfold n8
 rw [if_neg oM,if_neg]
 rintro (⟨_,h⟩ | ⟨_,h⟩)
 ·omega
 ·rw [hp] at h;cases h
theorem e0h {s r l:f5} {i:Nat} {acc:List A6} (h:At s i (D8 124 l) r) (hl:l.length≤40) (h0:0 < l.length):y8 s i acc=y8 s (i+(D8 124 l).length) (acc ++ [⟨6,i,[],l,[]⟩]):=by
 refine e58 h dE dE (.inl dE) ?_
 have h2:At s (i+1) (F8 124 l) (124 :: r):=by
  have:At s i ([124] ++ F8 124 l) (124 :: r):=by unfold At at *;rw [h];simp [D8]
  exact this.app.2
 have he:=a83 (c:=124) dE (acc:=[]) h2
 have he:H7 s 124 (i+1) []=.ok ([] ++ a3p l,i+1+(F8 124 l).length+1):=he
 unfold A0
 rw [h.hd.1]
 simp only [show ((124:UInt8).toNat:Int)=124 from rfl,show (124:Int)=40↔False by decide,show (124:Int)=41↔False by decide,show (124:Int)=39↔False by decide,show (124:Int)=34↔False by decide,if_true,if_false,he,List.nil_append]
 rw [b1g,if_pos (b3i hl h0),a85]
 simp only [Except.ok.injEq,Prod.mk.injEq]
 exact ⟨rfl,oM⟩
theorem b4y {s:f5} {i:Nat} (hc:t6 (bt s i)=true):A0 s i=if has s (k9 s i) 58 58 then J5 s i (((s.take ((k9 s i))).drop (i))) (k9 s i) else H0 i (((s.take ((k9 s i))).drop (i))) (k9 s i):=by
 have h:33≤bt s i∧bt s i≤126∧bt s i ≠ 40∧bt s i ≠ 41∧bt s i ≠ 39∧bt s i ≠ 34∧bt s i ≠ 59∧bt s i ≠ 124∧bt s i ≠ 58:=by simpa [t6] using hc
 unfold A0
 rw [if_neg oM,if_neg oM,if_neg oM,if_neg oM,if_neg oM,if_pos hc]
theorem f5r {s:f5} {i:Nat} (w:f5) (h:a8q w) (r:f5) (hA:At s i w r) (hw:w ≠ []) (hr:Del r):has s i 35 124=false:=by
 cases w with
 | nil=>exact absurd rfl hw
 | cons c w =>
  cases w with
  | nil =>
   cases r with
   | nil =>
    have:=hA.len hw
    simp at this
    simp [has];omega
   | cons d r =>
    have hb:=hA.btr (j:=0)
    simp at hb
    have:bt s (i+1) ≠ 124:=by
     rw [hb]
     rcases hr with hr | hr | hr | hr
     ·cases hr
     all_goals rw [hr];decide
    simp [has];intro _ _;exact this
  | cons d w =>
   have hb:=hA.bt (j:=1) (by simp)
   have hc:=h 1 (by simp)
   have:bt s (i+1) ≠ 124:=by
    rw [hb]
    intro e
    rw [e] at hc
    exact absurd hc dE
   simp [has];intro _ _;exact this
theorem d5y {s r w:f5} {i:Nat} {acc:List A6} {t:A6} (h:At s i w r) (hw:w ≠ []) (hc:a8q w) (hr:Del r) (ht:H0 i w (i+w.length)=.ok (t,i+w.length)):y8 s i acc=y8 s (i+w.length) (acc ++ [t]):=by
 have hr':r=[]∨t6 (bt r 0)=false:=by
  by_cases hn:r=[]
  ·exact .inl hn
  ·exact .inr (hr.not hn).1
 have he:=a4m h hc hr'
 have hcc:=hc 0 (List.length_pos_iff.2 hw)
 have hb:=h.bt (j:=0) (List.length_pos_iff.2 hw)
 rw [Nat.add_zero] at hb
 have hone:A0 s i=.ok (t,i+w.length):=by
  rw [b4y (by rw [hb];exact hcc),he,if_neg,h.sub hw,ht]
  have hb2:=h.btr (j:=0)
  rw [Nat.add_zero] at hb2
  by_cases hn:r=[]
  ·have:=h.len hw
   subst hn
   simp at this
   simp [has];omega
  ·rw [d0j];· simp
   rw [hb2];exact (hr.not hn).2
 have hlt:i < s.length:=by have:=h.len hw;have:=List.length_pos_iff.2 hw;omega
 have hcc':33≤bt w 0∧bt w 0≤126∧bt w 0 ≠ 40∧bt w 0 ≠ 41∧bt w 0 ≠ 39∧bt w 0 ≠ 34∧bt w 0 ≠ 59∧bt w 0 ≠ 124∧bt w 0 ≠ 58:=by simpa [t6] using hcc
 exact a90 hlt (by rw [hb];simp [G5];omega) (by rw [hb];omega) (f5r w hc r h hw hr) hone
def L7 (w:f5):Bool:=decide (w ≠ []) && w.all fun b=>t6 b.toNat
theorem c5a {w:f5} (h:L7 w=true):w ≠ []∧a8q w:=by
 simp [L7] at h
 refine ⟨h.1,fun j hj=>?_⟩
 have:=h.2 w[j] (List.getElem_mem hj)
 unfold bt
 simp [List.getD,List.getElem?_eq_getElem hj,this]
theorem d5v {s r w:f5} {i:Nat} {acc:List A6} (h:At s i w r) (hw:L7 w=true) (hr:Del r) (h1:w ≠ [46]) (h2:(m6 w).2.2=false) (hl:w.length≤40):y8 s i acc=y8 s (i+w.length) (acc ++ [⟨6,i,[],w,[]⟩]):=by
 obtain ⟨g1,g2⟩:=c5a hw
 refine d5y h g1 g2 hr ?_
 unfold H0
 rw [if_neg h1,if_neg (by rw [h2];simp),if_pos (b3i hl (List.length_pos_iff.2 g1))]
 rfl
theorem d5x {s r p w:f5} {i:Nat} {acc:List A6} (h:At s i (p ++ (58 :: 58 :: w)) r) (hp:a8q p) (hp0:p ≠ []) (hpv:n5 p=true) (hw:L7 w=true) (hr:Del r) (hl:w.length≤40):y8 s i acc=y8 s (i+(p ++ (58 :: 58 :: w)).length) (acc ++ [⟨6,i,p,w,[]⟩]):=by
 obtain ⟨g1,g2⟩:=c5a hw
 have hr':r=[]∨t6 (bt r 0)=false:=by
  by_cases hn:r=[]
  ·exact .inl hn
  ·exact .inr (hr.not hn).1
 obtain ⟨ha,hb⟩:=h.app
 have hcw:At s (i+p.length+2) w r:=by
  have:At s (i+p.length) ([58,58] ++ w) r:=hb
  exact this.app.2
 have hcol:At s (i+p.length) [58,58] (w ++ r):=by
  have:At s (i+p.length) ([58,58] ++ w) r:=hb
  exact this.app.1
 have he:=a4m ha hp (.inr (by show t6 (bt (58 :: 58 :: w ++ r) 0)=false;rw [List.cons_append,bt0];decide))
 have hcc:=hp 0 (List.length_pos_iff.2 hp0)
 have hb0:=ha.bt (j:=0) (List.length_pos_iff.2 hp0)
 rw [Nat.add_zero] at hb0
 have hw0:=g2 0 (List.length_pos_iff.2 g1)
 have hbw:=hcw.bt (j:=0) (List.length_pos_iff.2 g1)
 rw [Nat.add_zero] at hbw
 have hcw':33≤bt w 0∧bt w 0≤126∧bt w 0 ≠ 40∧bt w 0 ≠ 41∧bt w 0 ≠ 39∧bt w 0 ≠ 34∧bt w 0 ≠ 59∧bt w 0 ≠ 124∧bt w 0 ≠ 58:=by simpa [t6] using hw0
 have hlen:=h.len (by simp)
 have hwl:=List.length_pos_iff.2 g1
 simp only [List.length_append,List.length_cons] at hlen
 have hhas:has s (i+p.length) 58 58=true:=by
  have c0:=hcol.bt (j:=0) (by simp)
  have c1:=hcol.bt (j:=1) (by simp)
  rw [Nat.add_zero] at c0
  simp [has,c0,c1]
  refine ⟨oM,dE,dE⟩
 have hend:=a4m hcw g2 hr'
 have hone:A0 s i=.ok (⟨6,i,p,w,[]⟩,i+p.length+2+w.length):=by
  rw [b4y (by rw [hb0];exact hcc),he,if_pos hhas,ha.sub hp0]
  unfold J5
  rw [if_pos oM,hbw,if_neg oM,if_pos hw0]
  simp only []
  rw [hend,hcw.sub g1,if_pos (b3j hl hwl hpv)]
  rfl
 have hlt:i < s.length:=by have:=List.length_pos_iff.2 hp0;omega
 have hcc':33≤bt p 0∧bt p 0≤126∧bt p 0 ≠ 40∧bt p 0 ≠ 41∧bt p 0 ≠ 39∧bt p 0 ≠ 34∧bt p 0 ≠ 59∧bt p 0 ≠ 124∧bt p 0 ≠ 58:=by simpa [t6] using hcc
 have hcom:has s i 35 124=false:=by
  cases p with
  | nil=>exact absurd rfl hp0
  | cons c p =>
   have:bt s (i+1) ≠ 124:=by
    cases p with
    | nil =>
     have:=hcol.bt (j:=0) (by simp)
     rw [Nat.add_zero] at this
     rw [show i+[c].length=i+1 from rfl] at this
     rw [this];decide
    | cons d p =>
     have hb:=ha.bt (j:=1) (by simp)
     have hc:=hp 1 (by simp)
     rw [hb]
     intro e
     rw [e] at hc
     exact absurd hc dE
   simp [has];intro _ _;exact this
 rw [a90 hlt (by rw [hb0];simp [G5];omega) (by rw [hb0];omega) hcom hone]
 congr 1
 simp;omega
theorem d5w {s r p w:f5} {i:Nat} {acc:List A6} (h:At s i (p ++ (58 :: 58 :: D8 124 w)) r) (hp:a8q p) (hp0:p ≠ []) (hpv:n5 p=true) (hl:w.length≤40) (h0:0 < w.length):y8 s i acc=y8 s (i+(p ++ (58 :: 58 :: D8 124 w)).length) (acc ++ [⟨6,i,p,w,[]⟩]):=by
 obtain ⟨ha,hb⟩:=h.app
 have hcw:At s (i+p.length+2) (D8 124 w) r:=by
  have:At s (i+p.length) ([58,58] ++ D8 124 w) r:=hb
  exact this.app.2
 have hcol:At s (i+p.length) [58,58] (D8 124 w ++ r):=by
  have:At s (i+p.length) ([58,58] ++ D8 124 w) r:=hb
  exact this.app.1
 have he:=a4m ha hp (.inr (by show t6 (bt (58 :: 58 :: D8 124 w ++ r) 0)=false;rw [List.cons_append,bt0];decide))
 have hcc:=hp 0 (List.length_pos_iff.2 hp0)
 have hb0:=ha.bt (j:=0) (List.length_pos_iff.2 hp0)
 rw [Nat.add_zero] at hb0
 have hbw:=hcw.hd.1
 have hlen:=h.len (by simp)
 simp only [List.length_append,List.length_cons,a85] at hlen
 have hhas:has s (i+p.length) 58 58=true:=by
  have c0:=hcol.bt (j:=0) (by simp)
  have c1:=hcol.bt (j:=1) (by simp)
  rw [Nat.add_zero] at c0
  simp [has,c0,c1]
  refine ⟨oM,dE,dE⟩
 have h2:At s (i+p.length+2+1) (F8 124 w) (124 :: r):=by
  have:At s (i+p.length+2) ([124] ++ F8 124 w) (124 :: r):=by unfold At at *;rw [hcw];simp [D8]
  exact this.app.2
 have hen:=a83 (c:=124) dE (acc:=[]) h2
 have hen:H7 s 124 (i+p.length+2+1) []=.ok ([] ++ a3p w,i+p.length+2+1+(F8 124 w).length+1):=hen
 have hone:A0 s i=.ok (⟨6,i,p,w,[]⟩,i+p.length+2+1+(F8 124 w).length+1):=by
  rw [b4y (by rw [hb0];exact hcc),he,if_pos hhas,ha.sub hp0]
  unfold J5
  rw [if_pos oM,hbw,if_pos dE,hen]
  simp only [List.nil_append]
  rw [b1g,if_pos (b3j hl h0 hpv)]
  rfl
 have hlt:i < s.length:=by have:=List.length_pos_iff.2 hp0;omega
 have hcc':33≤bt p 0∧bt p 0≤126∧bt p 0 ≠ 40∧bt p 0 ≠ 41∧bt p 0 ≠ 39∧bt p 0 ≠ 34∧bt p 0 ≠ 59∧bt p 0 ≠ 124∧bt p 0 ≠ 58:=by simpa [t6] using hcc
 have hcom:has s i 35 124=false:=by
  cases p with
  | nil=>exact absurd rfl hp0
  | cons c p =>
   have:bt s (i+1) ≠ 124:=by
    cases p with
    | nil =>
     have:=hcol.bt (j:=0) (by simp)
     rw [Nat.add_zero] at this
     rw [show i+[c].length=i+1 from rfl] at this
     rw [this];decide
    | cons d p =>
     have hb:=ha.bt (j:=1) (by simp)
     have hc:=hp 1 (by simp)
     rw [hb]
     intro e
     rw [e] at hc
     exact absurd hc dE
   simp [has];intro _ _;exact this
 rw [a90 hlt (by rw [hb0];simp [G5];omega) (by rw [hb0];omega) hcom hone]
 congr 1
 simp [a85];omega
structure Pre (s t:f5):Prop where
 le:s.length≤t.length
 bt:∀ i,i < s.length→bt t i=bt s i
 pos:0 < s.length
 last:LQ.bt s (s.length - 1)=32
 tk:t.take s.length=s
section
variable {s t:f5} (P:Pre s t)
include P
end
end LQ
namespace LQ
open Go
theorem S3:∀ n:Nat,Lib.decDigits n=f8 n:=by
 intro n
 induction n using Nat.strongRecOn with
 | _ n ih =>
  unfold Lib.decDigits
  by_cases h:n < 10
  ·simp only [h,dite_true,if_true]
   by_cases h0:n=0
   ·subst h0;rfl
   ·unfold f8
    rw [if_neg h0,D6 h0,show n / 10=0 by omega,u9,Nat.mod_eq_of_lt h]
    rfl
  ·simp only [h,dite_false,if_false]
   rw [ih (n / 10) oM]
   have h1:¬n / 10=0:=oM
   have h0:¬n=0:=oM
   unfold f8
   rw [if_neg h1,if_neg h0,D6 h0,List.reverse_cons,List.map_append]
   rfl
theorem itoa_showNat (n:Nat):Lib.itoa (n:Int)=f8 n:=by
 unfold Lib.itoa
 rw [if_neg oM,S3,show ((n:Int)).toNat=n by omega]
theorem d0c {n k:Nat} (h:n < 10 ^ k):(i6 n).length≤k:=by
 induction k generalizing n with
 | zero=>rw [show n=0 by simpa using h,u9];simp
 | succ k ih =>
  by_cases h0:n=0
  ·rw [h0,u9];simp
  ·rw [D6 h0,List.length_cons]
   have:=ih (n:=n / 10) (by rw [Nat.pow_succ] at h;omega)
   omega
theorem b5e {m:Nat} (hm:m ≠ 0):∀ (k d:Nat),d < 10 ^ k→i6 (d+10 ^ k * m)=i6 d ++ (List.replicate (k - (i6 d).length) 0 ++ i6 m)
 | 0,d,h=>by
  have:d=0:=by simpa using h
  subst this
  simp [u9]
 | k+1,d,h=>by
  have h':d / 10 < 10 ^ k:=by rw [Nat.pow_succ] at h;omega
  have e1:d+10 ^ (k+1) * m=d+10 * (10 ^ k * m):=by rw [Nat.pow_succ,Nat.mul_comm (10 ^ k) 10,Nat.mul_assoc]
  have hp:0 < 10 ^ k * m:=Nat.mul_pos (Nat.pow_pos dE) (Nat.pos_of_ne_zero hm)
  rw [e1,D6 oM,show (d+10 * (10 ^ k * m)) % 10=d % 10 by omega,show (d+10 * (10 ^ k * m)) / 10=d / 10+10 ^ k * m by omega,b5e hm k (d / 10) h']
  by_cases h0:d=0
  ·subst h0;simp [u9,List.replicate_succ]
  ·rw [D6 h0,List.length_cons,List.cons_append,show k+1 - ((i6 (d / 10)).length+1)=k - (i6 (d / 10)).length by omega]
theorem showNat_len9 {n:Nat} (h:n < 1000000000):(f8 n).length≤9:=by
 by_cases h0:n=0
 ·subst h0;decide
 ·unfold f8;rw [if_neg h0];simpa using d0c (k:=9) h
theorem c1c {m d:Nat} (hm:m ≠ 0) (hd:d < 1000000000):f8 (d+B9 * m)=f8 m ++ (List.replicate (9 - (f8 d).length) 48 ++ f8 d):=by
 have hB:B9=10 ^ 9:=rfl
 have hp:0 < B9 * m:=Nat.mul_pos dE (Nat.pos_of_ne_zero hm)
 have e:f8 (d+B9 * m)=(i6 (d+10 ^ 9 * m)).reverse.map (fun d=>UInt8.ofNat (48+d)):=by unfold f8;rw [if_neg oM,hB]
 rw [e,b5e hm 9 d hd]
 have e2:f8 m=(i6 m).reverse.map (fun d=>UInt8.ofNat (48+d)):=by unfold f8;rw [if_neg hm]
 rw [e2]
 simp only [List.reverse_append,List.map_append,List.reverse_replicate,List.map_replicate]
 by_cases h0:d=0
 ·subst h0;rw [u9];simp;decide
 ·have e3:f8 d=(i6 d).reverse.map (fun d=>UInt8.ofNat (48+d)):=by unfold f8;rw [if_neg h0]
  rw [e3];simp
end LQ
