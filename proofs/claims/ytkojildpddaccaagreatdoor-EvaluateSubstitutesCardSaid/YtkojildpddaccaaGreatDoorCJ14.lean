/- What typed data are in memory. No program in sight. -/
import Derived.Test.YtkojildpddaccaaGreatDoorCJ8
set_option linter.all false
namespace Go.Abs
noncomputable section
mutual
def dG:G→D
 | .b x=>.bool x
 | .i k n=>.int k n
 | .s x=>.str x
 | .l xs=>.slice xs.length (dRs xs) .no
 | .mp id=>.mapp id
 | .m _=>.junk
def dRs:List (List G)→List D
 | []=>[]
 | r :: rs=>dGs r ++ dRs rs
def dGs:List G→List D
 | []=>[]
 | g :: gs=>dG g :: dGs gs
end
theorem c5j:∀ gs:List G,dGs gs=gs.map dG
 | []=>by simp [dGs]
 | g :: gs=>by rw [dGs,c5j gs];rfl
theorem e1f (r:List G) (rs:List (List G)):dRs (r :: rs)=r.map dG ++ dRs rs:=by rw [dRs,c5j]
theorem f2v (t:u1 Q) (i:Nat):L4 (D2 t) i=den (tQ t i):=by
 rw [W4];unfold tQ;cases t.get i <;> rfl
mutual
theorem RG.den:∀ {g:G} {x:Q},RG g x→Abs.den x 0=dG g
 | _,_,.b x=>by simp only [Abs.den,dG];rfl
 | _,_,.i k n=>by simp only [Abs.den,dG];rfl
 | _,_,.s x l c h1 h2=>by subst h1 h2;simp only [Abs.den,dG,E6];rfl
 | _,_,.l xs t n off len h1 h2=>by subst h1;simp only [Abs.den,dG];rw [← A5.den h2];rfl
theorem A5.den:∀ {n:Nat} {xs:List (List G)} {t:u1 Q} {off:Nat},A5 n xs t off→rows (D2 t) n off xs.length=dRs xs
 | _,_,_,_,.nil n t off=>by simp only [List.length_nil,rows,dRs]
 | _,_,_,_,.cons n r rs t off h1 h2 _ h3=>by
  rw [List.length_cons,rows,dRs,A5.den h3,f2v,← h1,A7.den h2,c5j]
theorem A7.den:∀ {gs:List G} {q:Q} {i:Nat},A7 gs q i→C1 (Abs.den q) i gs.length=gs.map dG
 | _,_,_,.nil q i=>by simp only [List.length_nil,C1,List.map_nil]
 | _,_,_,.cons g gs q i h1 h2=>by
  rw [List.length_cons,C1,A7.den h2,List.map_cons,← a1t,RG.den h1]
end
mutual
def dV:GV→D
 | .c g=>dG g
 | .a gs=>.agg (gs.map dG)
 | .t vs=>.tuple (dVs vs)
 | .p id off=>.ptr id off
 | .sl _ xs=>.slice xs.length (dRs xs) .no
 | .fr z xs=>.slice xs.length (dRs xs) (.fr z)
 | .f0 z xs=>.slice xs.length (dRs xs) (.fr z)
 | .nilI=>.nilIface
 | .fl t e p=>.iface t (.agg [.int .i64 e,.int .i64 p])
 | .raw v=>toD v
def dVs:List GV→List D
 | []=>[]
 | v :: vs=>dV v :: dVs vs
end
theorem c54:∀ vs:List GV,dVs vs=vs.map dV
 | []=>by simp [dVs]
 | g :: gs=>by rw [dVs,c54 gs];rfl
mutual
theorem RV.toD:∀ {g:GV} {v:V},RV g v→Abs.toD v=dV g
 | _,_,.b x=>by simp only [Abs.toD,dV,dG]
 | _,_,.kn x=>by simp only [Abs.toD,dV,dG]
 | _,_,.i k n=>by simp only [Abs.toD,dV,dG]
 | _,_,.s x l c h1 h2=>by subst h1 h2;simp only [Abs.toD,dV,dG,E6]
 | _,_,.cl xs t n off len h1 h2=>by subst h1;simp only [Abs.toD,dV,dG];rw [A5.den h2]
 | _,_,.q g x h=>by simp only [Abs.toD,dV];exact h.den
 | _,_,.a gs q m h1 h2=>by subst h1;simp only [Abs.toD,dV];rw [h2.den]
 | _,_,.ag gs cs h=>by
  simp only [Abs.toD,dV];rw [z7.toD h,c54,List.map_map];exact congrArg D.agg (List.map_congr_left fun g _=>by simp only [Function.comp,dV])
 | _,_,.t gs vs h=>by simp only [Abs.toD,dV];rw [z7.toD h]
 | _,_,.p id off=>by simp only [Abs.toD,dV]
 | _,_,.sl n xs t off len h1 h2=>by subst h1;simp only [Abs.toD,dV];rw [A5.den h2]
 | _,_,.sl0 n t off=>by simp only [Abs.toD,dV,rows,List.length_nil,dRs]
 | _,_,.slq n xs x h1 _=>by simp only [Abs.toD,dV];rw [h1.den];simp only [dG]
 | _,_,.fr z xs t off len h1 h2=>by subst h1;simp only [Abs.toD,dV];rw [A5.den h2]
 | _,_,.f0 z xs t len h1 h2=>by subst h1;simp only [Abs.toD,dV];rw [A5.den h2]
 | _,_,.nilI=>by simp only [Abs.toD,dV]
 | _,_,.fl t e p vs h=>by
  simp only [Abs.toD,dV];rw [z7.toD h];simp only [dVs,dV,dG]
 | _,_,.flq t e p q h=>by
  simp only [Abs.toD,dV];have:=h.den;simp only [List.length_cons,List.length_nil,List.map_cons,List.map_nil,dG] at this;rw [← this]
 | _,_,.raw v=>by simp only [dV]
theorem z7.toD:∀ {gs:List GV} {vs:List V},z7 gs vs→Q5 vs=dVs gs
 | _,_,.nil=>by simp only [Q5,dVs]
 | _,_,.cons g gs v vs h k=>by simp only [Q5,dVs];rw [RV.toD h,z7.toD k]
end
theorem z7.map_toD {gs:List GV} {vs:List V} (h:z7 gs vs):vs.map Abs.toD=gs.map dV:=by rw [← F5,h.toD,c54]
end
end Go.Abs
namespace LQ
open Go
theorem b5d:∀ n:Nat,Lib.decDigits n=s8 n:=by
 intro n
 induction n using Nat.strongRecOn with
 | _ n ih =>
  unfold Lib.decDigits;by_cases h:n < 10
  ·simp only [h,dite_true,if_true];by_cases h0:n=0
   ·subst h0;rfl
   ·unfold s8;rw [if_neg h0,F2 h0,show n / 10=0 by omega,C7,Nat.mod_eq_of_lt h];rfl
  ·simp only [h,dite_false,if_false];rw [ih (n / 10) oM];have h1:¬n / 10=0:=oM;have h0:¬n=0:=oM;unfold s8;rw [if_neg h1,if_neg h0,F2 h0,List.reverse_cons,List.map_append];rfl
theorem itoa_showNat (n:Nat):Lib.itoa (n:Int)=s8 n:=by
 unfold Lib.itoa;rw [if_neg oM,b5d,show ((n:Int)).toNat=n by omega]
theorem d3k {n k:Nat} (h:n < 10 ^ k):(t8 n).length≤k:=by
 induction k generalizing n with
 | zero=>rw [show n=0 by simpa using h,C7];simp
 | succ k ih =>
  by_cases h0:n=0
  ·rw [h0,C7];simp
  ·rw [F2 h0,List.length_cons];have:=ih (n:=n / 10) (by rw [Nat.pow_succ] at h;omega);omega
theorem b8e {m:Nat} (hm:m ≠ 0):∀ (k d:Nat),d < 10 ^ k→t8 (d+10 ^ k * m)=t8 d ++ (List.replicate (k - (t8 d).length) 0 ++ t8 m)
 | 0,d,h=>by
  have:d=0:=by simpa using h
  subst this;simp [C7]
 | k+1,d,h=>by
  have h':d / 10 < 10 ^ k:=by rw [Nat.pow_succ] at h;omega
  have e1:d+10 ^ (k+1) * m=d+10 * (10 ^ k * m):=by rw [Nat.pow_succ,Nat.mul_comm (10 ^ k) 10,Nat.mul_assoc]
  have hp:0 < 10 ^ k * m:=Nat.mul_pos (Nat.pow_pos dE) (Nat.pos_of_ne_zero hm);rw [e1,F2 oM,show (d+10 * (10 ^ k * m)) % 10=d % 10 by omega,show (d+10 * (10 ^ k * m)) / 10=d / 10+10 ^ k * m by omega,b8e hm k (d / 10) h'];by_cases h0:d=0
  ·subst h0;simp [C7,List.replicate_succ]
  ·rw [F2 h0,List.length_cons,List.cons_append,show k+1 - ((t8 (d / 10)).length+1)=k - (t8 (d / 10)).length by omega]
theorem showNat_len9 {n:Nat} (h:n < 1000000000):(s8 n).length≤9:=by
 by_cases h0:n=0
 ·subst h0;decide
 ·unfold s8;rw [if_neg h0];simpa using d3k (k:=9) h
theorem c33 {m d:Nat} (hm:m ≠ 0) (hd:d < 1000000000):s8 (d+B9 * m)=s8 m ++ (List.replicate (9 - (s8 d).length) 48 ++ s8 d):=by
 have hB:B9=10 ^ 9:=rfl;have hp:0 < B9 * m:=Nat.mul_pos dE (Nat.pos_of_ne_zero hm);have e:s8 (d+B9 * m)=(t8 (d+10 ^ 9 * m)).reverse.map (fun d=>UInt8.ofNat (48+d)):=by unfold s8;rw [if_neg oM,hB]
 rw [e,b8e hm 9 d hd];have e2:s8 m=(t8 m).reverse.map (fun d=>UInt8.ofNat (48+d)):=by unfold s8;rw [if_neg hm]
 rw [e2];simp only [List.reverse_append,List.map_append,List.reverse_replicate,List.map_replicate];by_cases h0:d=0
 ·subst h0;rw [C7];simp;decide
 ·have e3:s8 d=(t8 d).reverse.map (fun d=>UInt8.ofNat (48+d)):=by unfold s8;rw [if_neg h0]
  rw [e3];simp
end LQ
