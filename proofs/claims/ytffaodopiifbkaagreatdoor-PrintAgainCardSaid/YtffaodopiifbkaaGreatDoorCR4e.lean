/- The reference's numbers: products. -/
import Derived.Test.YtffaodopiifbkaaGreatDoorCR4c
set_option linter.all false
namespace Go.Proofs.YtffaodopiifbkaaGreatDoor
open Go.Abs LQ
set_option maxRecDepth 100000
set_option maxHeartbeats 4000000
noncomputable section
theorem d0t:l5 124 (sp1 fun s=>.ret (.t [.c (.b (decide (j0 s < 0))),.sl 1 ((j8 (j0 s).natAbs).map dg)])):=by
 have:=e2q
 simpa only [b4o] using this
theorem f3x (neg:Bool) (n:Nat):sgn neg n=j4 (if neg then -(n:Int) else n):=by
 unfold sgn j4
 by_cases h0:n=0
 ·subst h0;cases neg <;> rfl
 ·rw [if_neg h0]
  cases neg
  ·simp only [Bool.false_eq_true,if_false]
   rw [if_neg oM];simp
  ·simp only [if_true]
   rw [if_pos oM];simp
theorem b29 (n:Nat):sgn false n=i7 n:=by
 unfold sgn
 split
 ·rename_i h;subst h;rfl
 ·rfl
def sp2 (R:i6→i6→s8):Sp where
 ι:={ p:i6 × i6 // p.1.length < 9000∧p.2.length < 9000 }
 A p:=[.c (.s p.1.1),.c (.s p.1.2)]
 B _:=[]
 R p:=R p.1.1 p.1.2
 B' _:=[]
 inj i j vs bs h k _ _:=by
  obtain ⟨_,_,h1,k1,h,k⟩:=h.two k
  obtain ⟨_,_,h2,k2,h,k⟩:=h.two k
  rw [I7 h1 k1,I7 h2 k2];exact ⟨rfl,rfl⟩
def mu (m n:Nat):Nat:=if n=0 then 0 else 1+Nat.log2 (m * n)+(if m < n then 1 else 0)
theorem d0w {m n:Nat} (h:0 < n):mu n (m % n) < mu m n:=by
 have hlt:=Nat.mod_lt m h
 unfold mu
 rw [if_neg (by omega:¬n=0),if_neg (by omega:¬n < m % n)]
 split
 ·omega
 ·rename_i h0
  by_cases hmn:m < n
  ·rw [if_pos hmn,Nat.mod_eq_of_lt hmn,Nat.mul_comm];omega
  ·rw [if_neg hmn]
   have h1:n * (m % n) * 2≤m * n:=by
    have h2:n≤n * (m / n):=Nat.le_mul_of_pos_right _ (Nat.div_pos (Nat.le_of_not_lt hmn) h)
    have h3:=Nat.div_add_mod m n
    have h4:2 * (m % n)≤m:=oM
    calc n * (m % n) * 2=n * (2 * (m % n)):=by ac_rfl
     _≤n * m:=Nat.mul_le_mul_left _ h4
     _=m * n:=Nat.mul_comm _ _
   have h5:0 < n * (m % n):=Nat.mul_pos h oM
   have h6:=Nat.log2_self_le (by omega:n * (m % n) ≠ 0)
   have h7:2 ^ (Nat.log2 (n * (m % n))+1)≤m * n:=by rw [Nat.pow_succ];omega
   have h8:Nat.log2 (n * (m % n))+1≤Nat.log2 (m * n):=(Nat.le_log2 oM).2 h7
   omega
theorem e5b {m n:Nat} (hm:(j8 m).length < 9000) (hn:(j8 n).length < 9000):mu m n < C2:=by
 have h2:=a28 (j8 m) (E0 m)
 have h3:=a28 (j8 n) (E0 n)
 rw [D3] at h2 h3
 unfold mu
 simp only [C2]
 split
 ·omega
 ·by_cases h0:m * n=0
  ·rw [h0];simp;split <;> omega
  ·have h4:m * n < 10 ^ ((j8 m).length+(j8 n).length):=by rw [Nat.pow_add];exact Nat.mul_lt_mul'' h2 h3
   have h5:10 ^ ((j8 m).length+(j8 n).length)≤2 ^ (4 * ((j8 m).length+(j8 n).length)):=by rw [Nat.pow_mul];exact Nat.pow_le_pow_left dE _
   have h6:=(Nat.log2_lt h0).2 (Nat.lt_of_lt_of_le h4 h5)
   split <;> omega
theorem g05:l5 125 (sp2 fun a b=>.ret (.c (.s (i7 (Nat.gcd (j0 a).natAbs (j0 b).natAbs))))):=n6 (fun fn h=>f0d h) [(124,_),(126,_),(127,_)] (.cons d0t (.cons e5g (.cons e5k .nil))) fun U fn hfn ⟨(a,b),ha,hbl⟩ vs bs hv hb=>by
 have hd:=hfn 124 _ rfl
 have ho:=hfn 126 _ rfl
 have hx:=hfn 127 _ rfl
 have ha:a.length < 9000:=ha
 have hbl:b.length < 9000:=hbl
 have hv:l8 [.c (.s a),.c (.s b)] vs:=hv
 have hb:j5 [] bs:=hb
 show j6 U _ fun v bs'=>l9 (.ret (.c (.s (i7 (Nat.gcd (j0 a).natAbs (j0 b).natAbs))))) v∧j5 [] bs'
 have la:=a1z a
 have lb:=a1z b
 unfold e1b
 (refine Zx ?_;intros)
 refine j3 hd ⟨a,oM⟩ (r:=.t [.c (.b (decide (j0 a < 0))),.sl 1 ((j8 (j0 a).natAbs).map dg)]) rfl l6 .nil fun _ _ _ _=>?_
 (refine Zx ?_;intros)
 refine j3 hd ⟨b,oM⟩ (r:=.t [.c (.b (decide (j0 b < 0))),.sl 1 ((j8 (j0 b).natAbs).map dg)]) rfl l6 .nil fun _ _ _ _=>?_
 generalize (j0 a).natAbs=x at *
 generalize (j0 b).natAbs=y at *
 (refine Zx ?_;intros)
 refine H0 (fun (p:Nat × Nat) vs bs=>∃ (t:j9 Q) (off:Nat) (t':j9 Q) (off':Nat),vs=[.slice t 1 off (j8 p.1).length .no,.slice t' 1 off' (j8 p.2).length .no]∧bs=[]∧r7 1 ((j8 p.1).map dg) t off∧r7 1 ((j8 p.2).map dg) t' off'∧(j8 p.1).length < 9000∧(j8 p.2).length < 9000∧Nat.gcd p.1 p.2=Nat.gcd x y) (fun p=>mu p.1 p.2) (x,y)
  ⟨_,_,_,_,rfl,rfl,aS,aS,by simp only;omega,by simp only;omega,rfl⟩ (e5b (by simp only;omega) (by simp only;omega)) ?_
 rintro self ⟨m,n⟩ _ _ ⟨t,off,t',off',rfl,rfl,ht,ht',hm,hn,hg⟩ ih
 simp only at *
 (refine Zx ?_;with_reducible repeat' first|intro _|apply aI)
 ·have hn0:0 < n:=by
   by_cases h:n=0
   ·subst h;rw [A4] at *;simp at *
   ·omega
  have hml:=Q7 (Nat.le_of_lt (Nat.mod_lt m hn0))
  refine j3 ho ⟨(m,n),show (j8 m).length < 80000 by omega,show (j8 n).length < 80000 by omega,hn0⟩ (r:=.t [.sl 1 ((j8 (m / n)).map dg),.sl 1 ((j8 (m % n)).map dg)]) rfl l6 .nil fun _ _ _ _=>?_
  (refine Zx ?_;intros)
  exact ih (n,m % n) _ _ ⟨_,_,_,_,rfl,rfl,aS,aS,hn,by simp only;omega,by rw [← hg,Nat.gcd_comm m n,Nat.gcd_rec n m,Nat.gcd_comm]⟩ (d0w hn0)
 ·have hn0:n=0:=by rw [← D3 n,List.length_eq_zero_iff.1 (by omega:(j8 n).length=0)];rfl
  subst hn0
  rw [Nat.gcd_zero_right] at hg
  refine j3 hx ⟨(false,j8 m),show (j8 m).length < 90000 by omega,E0 _⟩ (r:=.c (.s (i7 m))) (by show s8.ret (.c (.s (sgn false (val (j8 m)))))=_;rw [D3,b29]) l6 .nil fun _ _ _ _=>?_
  rw [← hg]
  (refine Zx ?_;intros)
  exact k9 ⟨.ret _ _ l6,.nil⟩
end
end Go.Proofs.YtffaodopiifbkaaGreatDoor
