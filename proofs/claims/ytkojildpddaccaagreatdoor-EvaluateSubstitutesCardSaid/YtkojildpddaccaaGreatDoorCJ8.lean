/- Limbs of nine digits: no program in sight. -/
import Derived.Test.YtkojildpddaccaaGreatDoorCS
import Derived.Test.YtkojildpddaccaaGreatDoorCJ4
set_option linter.all false
namespace LQ
def B9:Nat:=1000000000
def u3 (n:Nat):List Nat:=if h:n=0 then [] else n % B9 :: u3 (n / B9)
termination_by n
decreasing_by exact Nat.div_lt_self (Nat.pos_of_ne_zero h) dE
def v7:List Nat→Nat
 | []=>0
 | d :: t=>d+B9 * v7 t
def LB (l:List Nat):Prop:=∀ d ∈ l,d < B9
theorem H6:u3 0=[]:=by rw [u3];simp
theorem W9 {n:Nat} (h:n ≠ 0):u3 n=n % B9 :: u3 (n / B9):=by rw [u3,dif_neg h]
theorem G5 (n:Nat):v7 (u3 n)=n:=by
 induction n using Nat.strongRecOn with
 | _ n ih =>
  by_cases h:n=0
  ·subst h;rw [H6];rfl
  ·rw [W9 h,v7,ih (n / B9) (Nat.div_lt_self (Nat.pos_of_ne_zero h) dE)];unfold B9;omega
theorem J8 (n:Nat):LB (u3 n):=by
 induction n using Nat.strongRecOn with
 | _ n ih =>
  by_cases h:n=0
  ·subst h;rw [H6];intro d hd;simp at hd
  ·rw [W9 h];intro d hd;simp at hd;rcases hd with rfl | hd
   ·exact Nat.mod_lt _ dE
   ·exact ih (n / B9) (Nat.div_lt_self (Nat.pos_of_ne_zero h) dE) d hd
theorem c7a {d m:Nat} (hd:d < B9) (h:d ≠ 0∨m ≠ 0):u3 (d+B9 * m)=d :: u3 m:=by
 unfold B9 at hd;rw [W9 (by unfold B9;omega)];congr 1
 ·unfold B9;omega
 ·congr 1;unfold B9;omega
theorem V2 (a b:List Nat):v7 (a ++ b)=v7 a+B9 ^ a.length * v7 b:=by
 induction a with
 | nil=>simp [v7]
 | cons d t ih=>simp only [List.cons_append,v7,ih,List.length_cons,Nat.pow_succ];rw [Nat.mul_add,← Nat.mul_assoc,Nat.mul_comm (B9 ^ t.length) B9];omega
theorem e2j (t:List Nat) (d:Nat) (h9:LB (t ++ [d])) (hd:d ≠ 0):u3 (v7 (t ++ [d]))=t ++ [d]:=by
 induction t with
 | nil =>
  have:d < B9:=h9 d (by simp);simp only [List.nil_append,v7];rw [c7a this (.inl hd),H6]
 | cons x t ih =>
  simp only [List.cons_append,v7];rw [c7a (h9 x (by simp)),ih (fun y hy=>h9 y (by simp at hy ⊢;exact .inr hy))];refine .inr fun h0=>hd ?_;have h2:=V2 t [d];rw [h0] at h2;simp only [v7] at h2;have h3:0 < B9 ^ t.length:=Nat.pow_pos dE;rw [Nat.mul_zero,Nat.add_zero] at h2;have h4:B9 ^ t.length * d=0:=oM;rcases Nat.mul_eq_zero.1 h4 with h | h <;> omega
theorem d93 (l:List Nat) (h9:LB l) (n:Nat) (hn:n≤l.length):l.take (W2 l n)=u3 (v7 (l.take n)):=by
 induction n with
 | zero=>simp [W2,v7,H6]
 | succ n ih =>
  have hlt:n < l.length:=oM;have htk:l.take (n+1)=l.take n ++ [l.getD n 0]:=by
   rw [List.take_succ_eq_append_getElem hlt];simp [List.getD,hlt]
  simp only [W2];split
  ·rename_i h0;rw [ih oM,htk,h0,V2];simp [v7]
  ·rename_i h0;rw [htk,e2j _ _ _ h0];intro d hd;rw [← htk] at hd;exact h9 d (List.mem_of_mem_take hd)
theorem a0u (l:List Nat) (h9:LB l):H7 l=u3 (v7 l):=by
 unfold H7;rw [d93 l h9 l.length (Nat.le_refl _),List.take_length]
theorem T8 (l:List Nat) (h9:LB l):v7 l < B9 ^ l.length:=by
 induction l with
 | nil=>simp [v7]
 | cons d t ih =>
  have h1:=ih (fun x hx=>h9 x (by simp [hx]));have h2:d < B9:=h9 d (by simp);simp only [v7,List.length_cons,Nat.pow_succ];unfold B9 at *;omega
theorem c7c (n:Nat) (h:n ≠ 0):B9 ^ ((u3 n).length - 1)≤n:=by
 induction n using Nat.strongRecOn with
 | _ n ih =>
  rw [W9 h];simp only [List.length_cons,Nat.add_sub_cancel];by_cases h1:n / B9=0
  ·rw [h1,H6];simp;omega
  ·have:=ih (n / B9) (Nat.div_lt_self (Nat.pos_of_ne_zero h) dE) h1;have h2:(u3 (n / B9)).length ≠ 0:=by rw [W9 h1];simp
   have h3:B9 ^ (u3 (n / B9)).length=B9 * B9 ^ ((u3 (n / B9)).length - 1):=by
    rw [← Nat.pow_succ'];congr 1;omega
   rw [h3];have h4:=Nat.mul_le_mul_left B9 this;have h5:B9 * (n / B9)≤n:=Nat.mul_div_le n B9;omega
theorem c7w (a b:List Nat) (ha:LB a) (hb:LB b) (n:Nat) (hna:n≤a.length) (hnb:n≤b.length) :
  J1 a b n=if v7 (a.take n) < v7 (b.take n) then -1 else if v7 (b.take n) < v7 (a.take n) then 1 else 0:=by
 induction n with
 | zero=>simp [J1,v7]
 | succ n ih =>
  have hla:n < a.length:=oM;have hlb:n < b.length:=oM;have e1:a.take (n+1)=a.take n ++ [a.getD n 0]:=by rw [List.take_succ_eq_append_getElem hla];simp [List.getD,hla]
  have e2:b.take (n+1)=b.take n ++ [b.getD n 0]:=by rw [List.take_succ_eq_append_getElem hlb];simp [List.getD,hlb]
  have v1:=V2 (a.take n) [a.getD n 0];have v2:=V2 (b.take n) [b.getD n 0];have l1:(a.take n).length=n:=by simp;omega
  have l2:(b.take n).length=n:=by simp;omega
  have b1:=T8 (a.take n) (fun d hd=>ha d (List.mem_of_mem_take hd));have b2:=T8 (b.take n) (fun d hd=>hb d (List.mem_of_mem_take hd));rw [l1] at v1 b1;rw [l2] at v2 b2;simp only [v7,Nat.mul_zero,Nat.add_zero] at v1 v2;rw [e1,e2,v1,v2];simp only [J1];rw [ih oM oM];generalize a.getD n 0=x at *;generalize b.getD n 0=y at *;generalize v7 (a.take n)=p at *;generalize v7 (b.take n)=q at *;generalize B9 ^ n=P at *;by_cases h1:x < y
  ·have:P * (x+1)≤P * y:=Nat.mul_le_mul_left P h1;rw [Nat.mul_add,Nat.mul_one] at this;rw [if_pos h1,if_pos oM]
  ·rw [if_neg h1];by_cases h2:y < x
   ·have:P * (y+1)≤P * x:=Nat.mul_le_mul_left P h2;rw [Nat.mul_add,Nat.mul_one] at this;rw [if_pos h2,if_neg oM,if_pos oM]
   ·rw [if_neg h2];have h3:x=y:=oM;subst h3;simp only [Nat.add_lt_add_iff_right]
theorem a6v (x y:Nat):N1 (u3 x) (u3 y)=if x < y then -1 else if y < x then 1 else 0:=by
 unfold N1;split
 ·rename_i h;rw [c7w _ _ (J8 x) (J8 y) _ (Nat.le_refl _) oM,List.take_length,h,List.take_length,G5,G5]
 ·rename_i h;have b1:=T8 (u3 x) (J8 x);have b2:=T8 (u3 y) (J8 y);rw [G5] at b1 b2;split
  ·rename_i h2;have hy:y ≠ 0:=by intro e;rw [e,H6] at h2;simp at h2
   have g2:=c7c y hy;have:B9 ^ (u3 x).length≤B9 ^ ((u3 y).length - 1):=Nat.pow_le_pow_right dE oM;rw [if_pos oM]
  ·rename_i h2;have hx:x ≠ 0:=by intro e;rw [e,H6] at h h2;simp only [List.length_nil] at h h2;omega
   have g1:=c7c x hx;have:B9 ^ (u3 y).length≤B9 ^ ((u3 x).length - 1):=Nat.pow_le_pow_right dE oM;rw [if_neg oM,if_pos oM]
theorem b4r {a b:Nat} (h:u3 a=u3 b):a=b:=by rw [← G5 a,h,G5]
theorem a58 {n k:Nat} (h:n < B9 ^ k):(u3 n).length≤k:=by
 by_cases h0:n=0
 ·subst h0;simp [H6]
 ·have h1:=c7c n h0;by_cases h2:(u3 n).length≤k
  ·exact h2
  ·have:B9 ^ k≤B9 ^ ((u3 n).length - 1):=Nat.pow_le_pow_right dE oM;omega
theorem e2k (x r:Nat) (hx:x < B9):H7 (x :: u3 r)=u3 (x+B9 * r):=by
 rw [a0u]
 ·simp only [v7,G5]
 ·intro d hd;rcases List.mem_cons.1 hd with rfl | hd
  ·exact hx
  ·exact J8 r d hd
theorem d7e (l:List Nat) (i:Nat) (h:i < l.length):v7 (l.drop i)=l.getD i 0+B9 * v7 (l.drop (i+1)):=by
 rw [List.drop_eq_getElem_cons h];simp [v7,List.getD,h]
theorem c08 (l:List Nat) (i:Nat) (h:i < l.length):v7 (l.take (i+1))=v7 (l.take i)+B9 ^ i * l.getD i 0:=by
 have e:l.take (i+1)=l.take i ++ [l.getD i 0]:=by rw [List.take_succ_eq_append_getElem h];simp [List.getD,h]
 rw [e,V2];have:(l.take i).length=i:=by simp;omega
 rw [this];simp [v7]
theorem c7d (l:List Nat) (i x:Nat) (h:i < l.length):v7 (l.set i x)+B9 ^ i * l.getD i 0=v7 l+B9 ^ i * x:=by
 induction l generalizing i with
 | nil=>simp at h
 | cons d t ih =>
  cases i with
  | zero=>simp [v7,List.getD];omega
  | succ i =>
   have:=ih i (by simpa using h);simp only [List.set_cons_succ,v7,Nat.pow_succ,List.getD_cons_succ];have e1:B9 ^ i * B9 * t.getD i 0=B9 * (B9 ^ i * t.getD i 0):=by rw [Nat.mul_comm (B9 ^ i) B9,Nat.mul_assoc]
   have e2:B9 ^ i * B9 * x=B9 * (B9 ^ i * x):=by rw [Nat.mul_comm (B9 ^ i) B9,Nat.mul_assoc]
   rw [e1,e2];have e3:B9 * (v7 (t.set i x)+B9 ^ i * t.getD i 0)=B9 * (v7 t+B9 ^ i * x):=by rw [this]
   rw [Nat.mul_add,Nat.mul_add] at e3;omega
theorem a4b {l:List Nat} (h:LB l) (i x:Nat) (hx:x < B9):LB (l.set i x):=fun d hd=>by
 rcases List.mem_or_eq_of_mem_set hd with h1 | rfl
 ·exact h d h1
 ·exact hx
theorem a14 {l:List Nat} (h:LB l) (i:Nat):l.getD i 0 < B9:=by
 by_cases hi:i < l.length
 ·simp only [List.getD,List.getElem?_eq_getElem hi,Option.getD_some];exact h _ (List.getElem_mem hi)
 ·simp only [List.getD,List.getElem?_eq_none (Nat.le_of_not_lt hi),Option.getD_none];decide
theorem d32 (n:Nat):v7 (List.replicate n 0)=0:=by
 induction n with
 | zero=>rfl
 | succ n ih=>simp [List.replicate_succ,v7,ih]
def E4 (s:u5):Nat:=D3 s 0 0
theorem c9w (a b:u5) (k acc:Nat) (hk:k≤a.length):D3 (a ++ b) k acc=D3 b 0 (D3 a k acc):=by
 fun_induction D3 a k acc with
 | case1 k acc h ih =>
  rw [D3,if_pos (by simp;omega),← ih oM];congr 2;have:bt (a ++ b) k=bt a k:=by unfold bt;simp [List.getD,List.getElem?_append_left h]
  rw [this]
 | case2 k acc h =>
  have hk':k=a.length:=oM;subst hk';clear h hk;have:∀ (j acc:Nat),D3 (a ++ b) (a.length+j) acc=D3 b j acc:=by
   intro j acc
   fun_induction D3 b j acc with
   | case1 j acc h ih =>
    rw [D3,if_pos (by simp;omega),← ih,Nat.add_assoc];congr 2;have:bt (a ++ b) (a.length+j)=bt b j:=by unfold bt;simp only [List.getD];rw [List.getElem?_append_right (Nat.le_add_right _ _),Nat.add_sub_cancel_left]
    rw [this]
   | case2 j acc h=>rw [D3,if_neg (by simp;omega)]
  exact this 0 acc
theorem c2y (a b:u5):E4 (a ++ b)=E4 a * 10 ^ b.length+E4 b:=by
 unfold E4;rw [c9w a b 0 0 (Nat.zero_le _),c9v b 0 _ (Nat.zero_le _)];simp
theorem b01 (c:UInt8) (s:u5):E4 (c :: s)=(bt [c] 0 - 48).toNat * 10 ^ s.length+E4 s:=by
 rw [show c :: s=[c] ++ s from rfl,c2y];congr 2;unfold E4;rw [D3,if_pos (by simp),D3,if_neg (by simp)];omega
theorem b6z (s:u5) (h:∀ j,j < s.length→48≤bt s j∧bt s j≤57):E4 s < 10 ^ s.length:=by
 induction s with
 | nil=>unfold E4;rw [D3,if_neg (by simp)];simp
 | cons c s ih =>
  rw [b01,List.length_cons,Nat.pow_succ];have h0:=h 0 (by simp);have e:bt [c] 0=bt (c :: s) 0:=rfl;have:=ih fun j hj=>by have:=h (j+1) (by simpa using hj);rwa [a5x] at this
  have h1:(bt [c] 0 - 48).toNat≤9:=by rw [e];omega
  have:=Nat.mul_le_mul_right (10 ^ s.length) h1;omega
theorem e1h (s:u5) (e k:Nat) (hk:k≤s.length) (h:∀ j,e≤j→j < k→48≤bt s j∧bt s j≤57) :
  (D5 s e k []).reverse.map (fun d=>UInt8.ofNat (48+d))=(s.take k).drop e:=by
 induction k with
 | zero=>simp [D5]
 | succ k ih =>
  by_cases he:e≤k
  ·rw [a6o s e k he,List.reverse_cons,List.map_append,ih oM (fun j h1 h2=>h j h1 oM)];have hlt:k < s.length:=oM;rw [List.take_succ_eq_append_getElem hlt,List.drop_append_of_le_length (by simp;omega)];congr 1;have:=h k he oM;have hb:bt s k=(s[k].toNat:Int):=by unfold bt;simp [List.getD,List.getElem?_eq_getElem hlt]
   rw [hb] at this ⊢;simp only [List.map_cons,List.map_nil,List.cons.injEq,and_true];apply UInt8.toNat_inj.1;rw [UInt8.toNat_ofNat'];have:=s[k].toNat_lt;omega
  ·rw [D5,if_neg he,List.drop_eq_nil_of_le (by simp;omega)];rfl
theorem d6m {s:u5} (h1:C2 s=true) (h2:s ≠ E9):u6 s < s.length∧bt s (u6 s) ≠ 48∧(∀ j,u6 s≤j→j < s.length→48≤bt s j∧bt s j≤57) ∧
  D5 s (u6 s) s.length []=t8 (s3 s).natAbs∧(s3 s).natAbs ≠ 0∧(u6 s=1↔s3 s < 0):=by
 have h3:u6 s < s.length∧bt s (u6 s) ≠ 48∧E7 s (u6 s)=s.length:=by
  simp [C2,h2] at h1;exact ⟨h1.1.1,h1.1.2,h1.2⟩
 have hall:∀ j,u6 s≤j→j < s.length→48≤bt s j∧bt s j≤57:=fun j a b=>b0q s (u6 s) j a oM;have e:=c0n s;unfold a1u at e;rw [if_pos ⟨h1,h2⟩] at e;injection e with e1 e2;obtain ⟨t,ht⟩:=c6e s (u6 s) s.length h3.1;refine ⟨h3.1,h3.2.1,hall,e2,fun h0=>?_,by simpa using e1⟩;rw [h0,C7,ht] at e2;simp at e2
theorem d9n {s:u5} (h:u6 s=1):s=45 :: s.drop 1:=by
 unfold u6 at h;split at h
 ·rename_i hh;cases s with
  | nil=>simp at hh
  | cons c s =>
   have:(c.toNat:Int)=45:=hh.2;simp only [List.drop_succ_cons,List.drop_zero,List.cons.injEq,and_true];exact UInt8.toNat_inj.1 (by show c.toNat=45;omega)
 ·omega
theorem b7l {s:u5} (h:C2 s=true):s4 (s3 s)=s:=by
 by_cases h2:s=E9
 ·subst h2;rw [a8k];decide
 ·obtain ⟨q1,q2,q3,q4,q5,q6⟩:=d6m h h2;have ht:=e1h s (u6 s) s.length (Nat.le_refl _) q3;rw [q4,List.take_length] at ht;have e:s8 (s3 s).natAbs=s.drop (u6 s):=by unfold s8;rw [if_neg q5];exact ht
  unfold s4;rw [e];by_cases hs:u6 s=1
  ·rw [if_pos (q6.1 hs),hs];exact (d9n hs).symm
  ·rw [if_neg (fun k=>hs (q6.2 k))];have:u6 s=0:=by have:=b1k s;omega
   rw [this];rfl
theorem a4t (n:Nat):C2 (s8 n)=true:=by
 by_cases h:n=0
 ·subst h;decide
 ·obtain ⟨h1,h2,h3⟩:=a1g n h;have hsg0:u6 (s8 n)=0:=by unfold u6;rw [if_neg];have:=h1 0 (Nat.le_refl _) h3;omega
  unfold C2;rw [hsg0,a08 _ 0 (Nat.zero_le _) h1];simp [h2];right;omega
theorem b1x (n:Int):C2 (s4 n)=true:=by
 unfold s4;split
 ·rename_i h;have hn:n.natAbs ≠ 0:=oM;obtain ⟨h1,h2,h3⟩:=a1g n.natAbs hn;show C2 (45 :: s8 n.natAbs)=true;have hsg:u6 (45 :: s8 n.natAbs)=1:=by unfold u6;rw [if_pos];exact ⟨by simp,rfl⟩
  unfold C2;rw [hsg,show (1:Nat)=0+1 from rfl,b5j,a5x,a08 _ 0 (Nat.zero_le _) h1];simp [h2];right;omega
 ·exact a4t _
def K7 (s:u5):u5:=if C2 s then s else E9
theorem a0l (s:u5):K7 s=s4 (s3 s):=by
 unfold K7;split
 ·rename_i h;exact (b7l h).symm
 ·rename_i h;have:s3 s=0:=by unfold s3;rw [if_neg h]
  rw [this];decide
theorem a84 (n:Nat):s4 (n:Int)=s8 n:=by unfold s4;rw [if_neg oM];rfl
def c7i (s:u5):u5:=s4 (-s3 s)
theorem a81 (a b:Int) (hb:0 < b):D6 (s4 a) (s4 b)=(s4 (a / (Nat.gcd a.natAbs b.natAbs:Int)),s4 (b / (Nat.gcd a.natAbs b.natAbs:Int))):=by
 unfold D6;rw [u2,u2,if_neg oM];simp only [];have hg:0 < Nat.gcd a.natAbs b.natAbs:=Nat.gcd_pos_of_pos_right _ oM;have hd1:=Nat.gcd_dvd_left a.natAbs b.natAbs;have hd2:=Nat.gcd_dvd_right a.natAbs b.natAbs;generalize Nat.gcd a.natAbs b.natAbs=g at *;have e2:b / (g:Int)=((b.natAbs / g:Nat):Int):=by
  conv=>lhs;rw [show b=(b.natAbs:Int) by omega]
  rfl
 have e1:a / (g:Int)=(if (a < 0)=(b < 0) then 1 else -1) * ((a.natAbs / g:Nat):Int):=by
  obtain ⟨k,hk⟩:=hd1;rw [hk,Nat.mul_div_cancel_left _ hg];by_cases h:a < 0
  ·rw [if_neg (by simp [h];omega)];have:a=(g:Int) * (-(k:Int)):=by
    have:((a.natAbs:Nat):Int)=(g:Int) * (k:Int):=by rw [hk];simp
    rw [Int.mul_neg];omega
   rw [this,Int.mul_ediv_cancel_left _ oM];omega
  ·rw [if_pos (by simp [h];omega)];have:a=(g:Int) * (k:Int):=by
    have:((a.natAbs:Nat):Int)=(g:Int) * (k:Int):=by rw [hk];simp
    omega
   rw [this,Int.mul_ediv_cancel_left _ oM];omega
 rw [e1,e2,a84]
end LQ
namespace Go.Proofs.YtkojildpddaccaaGreatDoor
open Go.Abs LQ Go.RowKit
set_option maxRecDepth 100000
set_option maxHeartbeats 4000000
noncomputable section
theorem Z6 {P:Program} {G:c0e} {f:FuncId} {ds:List D} {d:D} (hcall:∀ args w,(callFunc f args).run P w=.ok (.enter f args) w)
  (h:∀ (w:World) (S:B6) (M:Mp) (vs:List Value),G.pred w→S.within w→C4 S M w vs ds→Calls P f vs.toArray w fun e w'=>Below w.heap.size w w'∧∃ v S',e=.returned v∧S.grown S' w∧S'.within w'∧Rd S' M w' v d∧a8e S' w w' v d):CM P G f ds [] (.ret d) []:=by
 refine ⟨hcall,fun w S M vs hg hM hwi hh hvs=>(h w S M vs hg hwi hvs).mono fun e w' ⟨hb,v,S',he,h1,h2,h3,h4⟩=>?_⟩;exact ⟨⟨hb.os,hb.tape,hb.output,hb.size,fun k hk _=>hb.block k hk⟩,S',h1,h2,⟨fun id b h=>by simp at h,fun id hid=>hh.out id (by simp),fun i j x y b k l h=>by simp at h⟩,v,he,h3,h4⟩
theorem X4 {S:B6} {w w':World} (h:S.within w) (hb:Below w.heap.size w w'):S.within w':=fun b o hS=>Nat.lt_of_lt_of_le (h b o hS) hb.size
theorem b6s {S:B6} {w0 w:World} {v:Value} {d:D} (h:∀ l c z,d ≠ .slice l c (.fr z)) (h2:∀ ds,d ≠ .tuple ds):a8e S w0 w v d:=⟨fun l c z e=>absurd e (h l c z),fun _ ds _ e=>absurd e (h2 ds)⟩
theorem c8u {s:ByteArray} {l:List UInt8} (h:s.data.toList=l):s=⟨l.toArray⟩:=by subst h;rfl
theorem d44 {s:u5} {v:V} (h:RV (.c (.s s)) v):toD v=.str s:=by
 cases h with
 | s _ l c h1 h2=>subst h1 h2;simp only [toD,E6]
 | q _ x h=>cases h with | s _ l c h1 h2=>subst h1 h2;simp [toD,den,a1h,E6]
theorem b5c {k:IntKind} {n:Int} {v:V} (h:RV (.c (.i k n)) v):toD v=.int k n:=by
 cases h with
 | i=>rfl
 | q _ x h=>cases h;rfl
def e38 (ok:u5→u5→Prop) (g:u5→u5→GV):Sp where
 ι:={ p:u5 × u5 // ok p.1 p.2 }
 A p:=[.c (.s p.1.1),.c (.s p.1.2)]
 B _:=[]
 R p:=.ret (g p.1.1 p.1.2)
 B' _:=[]
 inj i j vs bs h k _ _:=by
  obtain ⟨_,_,h1,k1,h,k⟩:=h.two k;obtain ⟨_,_,h2,k2,h,k⟩:=h.two k;rw [T2 h1 k1,T2 h2 k2];exact ⟨rfl,rfl⟩
end
end Go.Proofs.YtkojildpddaccaaGreatDoor
namespace LQ
def At (s:u5) (i:Nat) (w r:u5):Prop:=s.drop i=w ++ r
theorem At.bt {s w r:u5} {i j:Nat} (h:At s i w r) (hj:j < w.length):LQ.bt s (i+j)=LQ.bt w j:=by
 unfold LQ.bt;have:s[i+j]?=w[j]?:=by rw [← List.getElem?_drop,h,List.getElem?_append_left hj]
 simp only [List.getD,this]
def g8g (w:u5):Prop:=∀ j,j < w.length→48≤bt w j∧bt w j≤57
theorem W3 (n:Nat):g8g (s8 n):=by
 by_cases h:n=0
 ·subst h;intro j hj;have:j=0:=by simp [s8,E9] at hj;omega
  subst this;decide
 ·exact fun j hj=>(a1g n h).1 j (Nat.zero_le _) hj
theorem b1j (n:Nat):s8 n ≠ []:=by
 by_cases h:n=0
 ·subst h;decide
 ·intro e;have:=(a1g n h).2.2;rw [e] at this;simp at this
theorem a3y (n:Nat):0 < (s8 n).length:=List.length_pos_iff.2 (b1j n)
def sgn (n:Int):u5:=if n < 0 then [45] else []
theorem d4w (n:Int):s4 n=sgn n ++ s8 n.natAbs:=by unfold s4 sgn;split <;> rfl
theorem c97 (n:Int) (d:Nat) (r:u5):u6 (sgn n ++ (s8 d ++ r))=(sgn n).length:=by
 unfold sgn;split
 ·unfold u6;rw [if_pos ⟨by simp,rfl⟩];rfl
 ·unfold u6;rw [if_neg];· rfl
  intro h;have h0:=(W3 d) 0 (a3y d);have:bt ([] ++ (s8 d ++ r)) 0=bt (s8 d) 0:=by
   have h1:At (s8 d ++ r) 0 (s8 d) r:=rfl;have:=h1.bt (j:=0) (a3y d);simpa using this
  rw [this] at h;omega
end LQ
namespace Go.Proofs.YtkojildpddaccaaGreatDoor
open Go.Abs LQ
set_option maxRecDepth 100000
set_option maxHeartbeats 4000000
noncomputable section
def b07 (s t:u5):Bool:=decide (t.length≤s.length∧s.take t.length=t)
theorem c9o:v8 302 (e38 (fun _ _=>True) fun s t=>.c (.b (b07 s t))):=A8 (fun fn h=>f1g h) [] .nil fun U fn hfn ⟨(s,t),_⟩ vs bs hv hb=>by
 have hv:z7 [.c (.s s),.c (.s t)] vs:=hv;have hb:u0 [] bs:=hb;show t6 U _ fun v bs'=>A3 (.ret (.c (.b (b07 s t)))) v∧u0 [] bs';unfold f80;(refine Zq ?_;with_reducible repeat' first|intro _|apply aI)
 ·have hl:t.length≤s.length:=oM;exact P0 fun e=>by subst e;exact ⟨.ret _ _ (rvB (by rw [cuS];unfold b07;simp [hl])),.nil⟩
 ·exact s9 ⟨.ret _ _ (T6 (by unfold b07;rw [decide_eq_false];omega)),.nil⟩
def T9 (s t:u5):u5:=if b07 s t then s.drop t.length else s
theorem c63:v8 295 (e38 (fun _ _=>True) fun s t=>.c (.s (T9 s t))):=A8 (fun fn h=>f1f h) [(302,_)] (.cons c9o .nil) fun U fn hfn ⟨(s,t),_⟩ vs bs hv hb=>by
 have hp:=hfn 302 _ rfl;have hv:z7 [.c (.s s),.c (.s t)] vs:=hv;have hb:u0 [] bs:=hb;show t6 U _ fun v bs'=>A3 (.ret (.c (.s (T9 s t)))) v∧u0 [] bs';unfold f8y;refine Zq ?_;intros;refine s6 hp ⟨(s,t),trivial⟩ (r:=.c (.b (b07 s t))) rfl z6 .nil fun _ _ hv hb=>?_;refine sB hv (a4q hb ?_);have hl:b07 s t=true→t.length≤s.length:=fun h=>by simp [b07] at h;exact h.1
 refine b7i trV (fun h=>?_) fun h=>?_
 ·have hp:=h;have hl:=hl h;refine Zq ?_;intros;have e:T9 s t=s.drop t.length:=by unfold T9;rw [if_pos hp]
  rw [e,Int.toNat_natCast];exact s9 ⟨.ret _ _ (.s _ _ _ rfl rfl),.nil⟩
 ·have e:T9 s t=s:=by unfold T9;rw [if_neg h]
  rw [e];exact s9 ⟨.ret _ _ (.s _ _ _ rfl rfl),.nil⟩
theorem a8t:v8 281 (e38 (fun _ _=>True) fun s t=>.c (.s (T9 s t))):=A8 (fun fn h=>f1a h) [(295,_)] (.cons c63 .nil) fun U fn hfn ⟨(s,t),_⟩ vs bs hv hb=>by
 have hv:z7 [.c (.s s),.c (.s t)] vs:=hv;have hb:u0 [] bs:=hb;show t6 U _ fun v bs'=>A3 (.ret (.c (.s (T9 s t)))) v∧u0 [] bs';unfold f8s;refine Zq ?_;intros;refine s6 (hfn 295 _ rfl) ⟨(s,t),trivial⟩ (r:=.c (.s (T9 s t))) rfl z6 .nil fun _ _ _ _=>?_;refine Zq ?_;intros;exact s9 ⟨.ret _ _ (.s _ _ _ rfl rfl),.nil⟩
theorem RB.bx {gs:List G} {q:Q} {m:Nat} (h:A7 gs q 0) (hm:m=gs.length):u0 [gs] [.opa q m]:=.k (.opa _ _ _ hm h) .nil
def scG (s:u5) (i:Nat):List G:=[.s s,.i .i64 (i:Int)]
instance {s:u5} {i:Nat}:NX (scG s i):=⟨rfl⟩
end
end Go.Proofs.YtkojildpddaccaaGreatDoor
