/- What typed data are in memory. No program in sight. -/
import Derived.Test.YtkojildpddaccaaGreatDoorCJ8
set_option linter.all false
namespace Go.Abs
noncomputable section
mutual
def dG:G→D
 | .b x=>.bool x
 | .i k n=>.int k n
 | .s x=>.str x
 | .l xs=>.slice xs.length (dRs xs) .no
def dRs:List (List G)→List D
 | []=>[]
 | r :: rs=>dGs r ++ dRs rs
def dGs:List G→List D
 | []=>[]
 | g :: gs=>dG g :: dGs gs
end
theorem c2m:∀ gs:List G,dGs gs=gs.map dG
 | []=>by simp [dGs]
 | g :: gs=>by rw [dGs,c2m gs];rfl
theorem d9s (r:List G) (rs:List (List G)):dRs (r :: rs)=r.map dG ++ dRs rs:=by rw [dRs,c2m]
theorem f4x (t:s6 Q) (i:Nat):J1 (C3 t) i=den (tQ t i):=by
 rw [W5];unfold tQ;cases t.get i <;> rfl
mutual
theorem RG.den:∀ {g:G} {x:Q},RG g x→Abs.den x 0=dG g
 | _,_,.b x=>by simp only [Abs.den,dG];rfl
 | _,_,.i k n=>by simp only [Abs.den,dG];rfl
 | _,_,.s x l c h1 h2=>by subst h1 h2;simp only [Abs.den,dG,E8];rfl
 | _,_,.l xs t n off len h1 h2=>by subst h1;simp only [Abs.den,dG];rw [← u6.den h2];rfl
theorem u6.den:∀ {n:Nat} {xs:List (List G)} {t:s6 Q} {off:Nat},u6 n xs t off→A8 (C3 t) n off xs.length=dRs xs
 | _,_,_,_,.nil n t off=>by simp only [List.length_nil,A8,dRs]
 | _,_,_,_,.cons n r rs t off h1 h2 _ h3=>by
  rw [List.length_cons,A8,dRs,u6.den h3,f4x,← h1,u3.den h2,c2m]
theorem u3.den:∀ {gs:List G} {q:Q} {i:Nat},u3 gs q i→A6 (Abs.den q) i gs.length=gs.map dG
 | _,_,_,.nil q i=>by simp only [List.length_nil,A6,List.map_nil]
 | _,_,_,.cons g gs q i h1 h2=>by
  rw [List.length_cons,A6,u3.den h2,List.map_cons,← a2f,RG.den h1]
end
mutual
def dV:GV→D
 | .c g=>dG g
 | .a gs=>.agg (gs.map dG)
 | .t vs=>.tuple (dVs vs)
 | .p id off=>.ptr id off
 | .sl _ xs=>.slice xs.length (dRs xs) .no
 | .fr z xs=>.slice xs.length (dRs xs) (.fr z)
 | .f0 z xs=>.slice xs.length (dRs xs) (.fr z)
 | .nilI=>.nilIface
 | .fl t e p=>.iface t (.agg [.int .i64 e,.int .i64 p])
 | .raw v=>toD v
def dVs:List GV→List D
 | []=>[]
 | v :: vs=>dV v :: dVs vs
end
theorem c25:∀ vs:List GV,dVs vs=vs.map dV
 | []=>by simp [dVs]
 | g :: gs=>by rw [dVs,c25 gs];rfl
mutual
theorem RV.toD:∀ {g:GV} {v:V},RV g v→Abs.toD v=dV g
 | _,_,.b x=>by simp only [Abs.toD,dV,dG]
 | _,_,.kn x=>by simp only [Abs.toD,dV,dG]
 | _,_,.i k n=>by simp only [Abs.toD,dV,dG]
 | _,_,.s x l c h1 h2=>by subst h1 h2;simp only [Abs.toD,dV,dG,E8]
 | _,_,.cl xs t n off len h1 h2=>by subst h1;simp only [Abs.toD,dV,dG];rw [u6.den h2]
 | _,_,.q g x h=>by simp only [Abs.toD,dV];exact h.den
 | _,_,.a gs q m h1 h2=>by subst h1;simp only [Abs.toD,dV];rw [h2.den]
 | _,_,.ag gs cs h=>by
  simp only [Abs.toD,dV]
  rw [t7.toD h,c25,List.map_map]
  exact congrArg D.agg (List.map_congr_left fun g _=>by simp only [Function.comp,dV])
 | _,_,.t gs vs h=>by simp only [Abs.toD,dV];rw [t7.toD h]
 | _,_,.p id off=>by simp only [Abs.toD,dV]
 | _,_,.sl n xs t off len h1 h2=>by subst h1;simp only [Abs.toD,dV];rw [u6.den h2]
 | _,_,.sl0 n t off=>by simp only [Abs.toD,dV,A8,List.length_nil,dRs]
 | _,_,.slq n xs x h1 _=>by simp only [Abs.toD,dV];rw [h1.den];simp only [dG]
 | _,_,.fr z xs t off len h1 h2=>by subst h1;simp only [Abs.toD,dV];rw [u6.den h2]
 | _,_,.f0 z xs t len h1 h2=>by subst h1;simp only [Abs.toD,dV];rw [u6.den h2]
 | _,_,.nilI=>by simp only [Abs.toD,dV]
 | _,_,.fl t e p vs h=>by
  simp only [Abs.toD,dV]
  rw [t7.toD h];simp only [dVs,dV,dG]
 | _,_,.flq t e p q h=>by
  simp only [Abs.toD,dV]
  have:=h.den
  simp only [List.length_cons,List.length_nil,List.map_cons,List.map_nil,dG] at this
  rw [← this]
 | _,_,.raw v=>by simp only [dV]
theorem t7.toD:∀ {gs:List GV} {vs:List V},t7 gs vs→U3 vs=dVs gs
 | _,_,.nil=>by simp only [U3,dVs]
 | _,_,.cons g gs v vs h k=>by simp only [U3,dVs];rw [RV.toD h,t7.toD k]
end
theorem t7.map_toD {gs:List GV} {vs:List V} (h:t7 gs vs):vs.map Abs.toD=gs.map dV:=by rw [← E4,h.toD,c25]
end
end Go.Abs
namespace LQ
open Go
theorem b3j:∀ n:Nat,Lib.decDigits n=s3 n:=by
 intro n
 induction n using Nat.strongRecOn with
 | _ n ih =>
  unfold Lib.decDigits
  by_cases h:n < 10
  ·simp only [h,dite_true,if_true]
   by_cases h0:n=0
   ·subst h0;rfl
   ·unfold s3
    rw [if_neg h0,E1 h0,show n / 10=0 by omega,C5,Nat.mod_eq_of_lt h]
    rfl
  ·simp only [h,dite_false,if_false]
   rw [ih (n / 10) oM]
   have h1:¬n / 10=0:=oM
   have h0:¬n=0:=oM
   unfold s3
   rw [if_neg h1,if_neg h0,E1 h0,List.reverse_cons,List.map_append]
   rfl
theorem itoa_showNat (n:Nat):Lib.itoa (n:Int)=s3 n:=by
 unfold Lib.itoa
 rw [if_neg oM,b3j,show ((n:Int)).toNat=n by omega]
theorem d01 {n k:Nat} (h:n < 10 ^ k):(p7 n).length≤k:=by
 induction k generalizing n with
 | zero=>rw [show n=0 by simpa using h,C5];simp
 | succ k ih =>
  by_cases h0:n=0
  ·rw [h0,C5];simp
  ·rw [E1 h0,List.length_cons]
   have:=ih (n:=n / 10) (by rw [Nat.pow_succ] at h;omega)
   omega
theorem b5z {m:Nat} (hm:m ≠ 0):∀ (k d:Nat),d < 10 ^ k→p7 (d+10 ^ k * m)=p7 d ++ (List.replicate (k - (p7 d).length) 0 ++ p7 m)
 | 0,d,h=>by
  have:d=0:=by simpa using h
  subst this
  simp [C5]
 | k+1,d,h=>by
  have h':d / 10 < 10 ^ k:=by rw [Nat.pow_succ] at h;omega
  have e1:d+10 ^ (k+1) * m=d+10 * (10 ^ k * m):=by rw [Nat.pow_succ,Nat.mul_comm (10 ^ k) 10,Nat.mul_assoc]
  have hp:0 < 10 ^ k * m:=Nat.mul_pos (Nat.pow_pos dE) (Nat.pos_of_ne_zero hm)
  rw [e1,E1 oM,show (d+10 * (10 ^ k * m)) % 10=d % 10 by omega,show (d+10 * (10 ^ k * m)) / 10=d / 10+10 ^ k * m by omega,b5z hm k (d / 10) h']
  by_cases h0:d=0
  ·subst h0;simp [C5,List.replicate_succ]
  ·rw [E1 h0,List.length_cons,List.cons_append,show k+1 - ((p7 (d / 10)).length+1)=k - (p7 (d / 10)).length by omega]
theorem showNat_len9 {n:Nat} (h:n < 1000000000):(s3 n).length≤9:=by
 by_cases h0:n=0
 ·subst h0;decide
 ·unfold s3;rw [if_neg h0];simpa using d01 (k:=9) h
theorem c08 {m d:Nat} (hm:m ≠ 0) (hd:d < 1000000000):s3 (d+B9 * m)=s3 m ++ (List.replicate (9 - (s3 d).length) 48 ++ s3 d):=by
 have hB:B9=10 ^ 9:=rfl
 have hp:0 < B9 * m:=Nat.mul_pos dE (Nat.pos_of_ne_zero hm)
 have e:s3 (d+B9 * m)=(p7 (d+10 ^ 9 * m)).reverse.map (fun d=>UInt8.ofNat (48+d)):=by unfold s3;rw [if_neg oM,hB]
 rw [e,b5z hm 9 d hd]
 have e2:s3 m=(p7 m).reverse.map (fun d=>UInt8.ofNat (48+d)):=by unfold s3;rw [if_neg hm]
 rw [e2]
 simp only [List.reverse_append,List.map_append,List.reverse_replicate,List.map_replicate]
 by_cases h0:d=0
 ·subst h0;rw [C5];simp;decide
 ·have e3:s3 d=(p7 d).reverse.map (fun d=>UInt8.ofNat (48+d)):=by unfold s3;rw [if_neg h0]
  rw [e3];simp
end LQ
