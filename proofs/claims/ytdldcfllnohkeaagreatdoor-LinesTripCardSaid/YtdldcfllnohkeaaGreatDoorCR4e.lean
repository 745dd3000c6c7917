/- The reference's numbers: on strings. -/
import Derived.Test.YtdldcfllnohkeaaGreatDoorCR4d
set_option linter.all false
namespace Go.Proofs.YtdldcfllnohkeaaGreatDoor
open Go.Abs LQ
set_option maxRecDepth 100000
set_option maxHeartbeats 4000000
noncomputable section
theorem d1d:k9 77 (sp1 fun s=>.ret (.t [.c (.b (decide (j0 s < 0))),.sl 1 ((j7 (j0 s).natAbs).map dg)])):=by
 have:=e0h
 simpa only [b34] using this
theorem f6n (neg:Bool) (n:Nat):sgn neg n=j3 (if neg then -(n:Int) else n):=by
 unfold sgn j3
 by_cases h0:n=0
 ·subst h0;cases neg <;> rfl
 ·rw [if_neg h0]
  cases neg
  ·simp only [Bool.false_eq_true,if_false]
   rw [if_neg oM];simp
  ·simp only [if_true]
   rw [if_pos oM];simp
theorem b3h (n:Nat):sgn false n=i7 n:=by
 unfold sgn
 split
 ·rename_i h;subst h;rfl
 ·rfl
def sp2 (R:i6→i6→r7):Sp where
 ι:={ p:i6 × i6 // p.1.length < 9000∧p.2.length < 9000 }
 A p:=[.c (.s p.1.1),.c (.s p.1.2)]
 B _:=[]
 R p:=R p.1.1 p.1.2
 B' _:=[]
 inj i j vs bs h k _ _:=by
  obtain ⟨_,_,h1,k1,h,k⟩:=h.two k
  obtain ⟨_,_,h2,k2,h,k⟩:=h.two k
  rw [H3 h1 k1,H3 h2 k2];exact ⟨rfl,rfl⟩
def mu (m n:Nat):Nat:=if n=0 then 0 else 1+Nat.log2 (m * n)+(if m < n then 1 else 0)
theorem d1u {m n:Nat} (h:0 < n):mu n (m % n) < mu m n:=by
 have hlt:=Nat.mod_lt m h
 unfold mu
 rw [if_neg (by omega:¬n=0),if_neg (by omega:¬n < m % n)]
 split
 ·omega
 ·rename_i h0
  by_cases hmn:m < n
  ·rw [if_pos hmn,Nat.mod_eq_of_lt hmn,Nat.mul_comm];omega
  ·rw [if_neg hmn]
   have h1:n * (m % n) * 2≤m * n:=by
    have h2:n≤n * (m / n):=Nat.le_mul_of_pos_right _ (Nat.div_pos (Nat.le_of_not_lt hmn) h)
    have h3:=Nat.div_add_mod m n
    have h4:2 * (m % n)≤m:=oM
    calc n * (m % n) * 2=n * (2 * (m % n)):=by ac_rfl
     _≤n * m:=Nat.mul_le_mul_left _ h4
     _=m * n:=Nat.mul_comm _ _
   have h5:0 < n * (m % n):=Nat.mul_pos h oM
   have h6:=Nat.log2_self_le (by omega:n * (m % n) ≠ 0)
   have h7:2 ^ (Nat.log2 (n * (m % n))+1)≤m * n:=by rw [Nat.pow_succ];omega
   have h8:Nat.log2 (n * (m % n))+1≤Nat.log2 (m * n):=(Nat.le_log2 oM).2 h7
   omega
theorem e4t {m n:Nat} (hm:(j7 m).length < 9000) (hn:(j7 n).length < 9000):mu m n < C4:=by
 have h2:=a3j (j7 m) (E5 m)
 have h3:=a3j (j7 n) (E5 n)
 rw [D8] at h2 h3
 unfold mu
 simp only [C4]
 split
 ·omega
 ·by_cases h0:m * n=0
  ·rw [h0];simp;split <;> omega
  ·have h4:m * n < 10 ^ ((j7 m).length+(j7 n).length):=by rw [Nat.pow_add];exact Nat.mul_lt_mul'' h2 h3
   have h5:10 ^ ((j7 m).length+(j7 n).length)≤2 ^ (4 * ((j7 m).length+(j7 n).length)):=by rw [Nat.pow_mul];exact Nat.pow_le_pow_left dE _
   have h6:=(Nat.log2_lt h0).2 (Nat.lt_of_lt_of_le h4 h5)
   split <;> omega
theorem g1n:k9 78 (sp2 fun a b=>.ret (.c (.s (i7 (Nat.gcd (j0 a).natAbs (j0 b).natAbs))))):=n9 (fun fn h=>f5d h) [(77,_),(79,_),(80,_)] (.cons d1d (.cons e4o (.cons e4q .nil))) fun U fn hfn ⟨(a,b),ha,hbl⟩ vs bs hv hb=>by
 have hd:=hfn 77 _ rfl
 have ho:=hfn 79 _ rfl
 have hx:=hfn 80 _ rfl
 have ha:a.length < 9000:=ha
 have hbl:b.length < 9000:=hbl
 have hv:l7 [.c (.s a),.c (.s b)] vs:=hv
 have hb:RBs [] bs:=hb
 show j5 U _ fun v bs'=>l8 (.ret (.c (.s (i7 (Nat.gcd (j0 a).natAbs (j0 b).natAbs))))) v∧RBs [] bs'
 have la:=a1y a
 have lb:=a1y b
 unfold r78
 (refine Zx ?_;intros)
 refine j4 hd ⟨a,oM⟩ (r:=.t [.c (.b (decide (j0 a < 0))),.sl 1 ((j7 (j0 a).natAbs).map dg)]) rfl l5 .nil fun _ _ _ _=>?_
 (refine Zx ?_;intros)
 refine j4 hd ⟨b,oM⟩ (r:=.t [.c (.b (decide (j0 b < 0))),.sl 1 ((j7 (j0 b).natAbs).map dg)]) rfl l5 .nil fun _ _ _ _=>?_
 generalize (j0 a).natAbs=x at *
 generalize (j0 b).natAbs=y at *
 (refine Zx ?_;intros)
 refine H2 (fun (p:Nat × Nat) vs bs=>∃ (t:j8 Q) (off:Nat) (t':j8 Q) (off':Nat),vs=[.slice t 1 off (j7 p.1).length .no,.slice t' 1 off' (j7 p.2).length .no]∧bs=[]∧p9 1 ((j7 p.1).map dg) t off∧p9 1 ((j7 p.2).map dg) t' off'∧(j7 p.1).length < 9000∧(j7 p.2).length < 9000∧Nat.gcd p.1 p.2=Nat.gcd x y) (fun p=>mu p.1 p.2) (x,y)
  ⟨_,_,_,_,rfl,rfl,aS,aS,by simp only;omega,by simp only;omega,rfl⟩ (e4t (by simp only;omega) (by simp only;omega)) ?_
 rintro self ⟨m,n⟩ _ _ ⟨t,off,t',off',rfl,rfl,ht,ht',hm,hn,hg⟩ ih
 simp only at *
 (refine Zx ?_;with_reducible repeat' first|intro _|apply aI)
 ·have hn0:0 < n:=by
   by_cases h:n=0
   ·subst h;rw [y9] at *;simp at *
   ·omega
  have hml:=R3 (Nat.le_of_lt (Nat.mod_lt m hn0))
  refine j4 ho ⟨(m,n),show (j7 m).length < 80000 by omega,show (j7 n).length < 80000 by omega,hn0⟩ (r:=.t [.sl 1 ((j7 (m / n)).map dg),.sl 1 ((j7 (m % n)).map dg)]) rfl l5 .nil fun _ _ _ _=>?_
  (refine Zx ?_;intros)
  exact ih (n,m % n) _ _ ⟨_,_,_,_,rfl,rfl,aS,aS,hn,by simp only;omega,by rw [← hg,Nat.gcd_comm m n,Nat.gcd_rec n m,Nat.gcd_comm]⟩ (d1u hn0)
 ·have hn0:n=0:=by rw [← D8 n,List.length_eq_zero_iff.1 (by omega:(j7 n).length=0)];rfl
  subst hn0
  rw [Nat.gcd_zero_right] at hg
  refine j4 hx ⟨(false,j7 m),show (j7 m).length < 90000 by omega,E5 _⟩ (r:=.c (.s (i7 m))) (by show r7.ret (.c (.s (sgn false (val (j7 m)))))=_;rw [D8,b3h]) l5 .nil fun _ _ _ _=>?_
  rw [← hg]
  (refine Zx ?_;intros)
  exact j9 ⟨.ret _ _ l5,.nil⟩
end
end Go.Proofs.YtdldcfllnohkeaaGreatDoor
