/- The reference's numbers: on strings. -/
import Derived.Test.YtffaodopiifbkaaGreatDoorCR4d
set_option linter.all false
namespace Go.Proofs.YtffaodopiifbkaaGreatDoor
open Go.Abs LQ
set_option maxRecDepth 100000
set_option maxHeartbeats 4000000
noncomputable section
theorem b65:l5 124 (sp1 fun s=>.ret (.t [.c (.b (decide (i6 s < 0))),.sl 1 ((j7 (i6 s).natAbs).map dg)])):=by
 have:=d4o
 simpa only [b1o] using this
theorem e44 (neg:Bool) (n:Nat):sgn neg n=j6 (if neg then -(n:Int) else n):=by
 unfold sgn j6
 by_cases h0:n=0
 ·subst h0;cases neg <;> rfl
 ·rw [if_neg h0]
  cases neg
  ·simp only [Bool.false_eq_true,if_false]
   rw [if_neg (by omega)];simp
  ·simp only [if_true]
   rw [if_pos (by omega)];simp
theorem a97 (n:Nat):sgn false n=j5 n:=by
 unfold sgn
 split
 ·rename_i h;subst h;rfl
 ·rfl
def sp2 (R:i7→i7→y4):Sp where
 ι:={ p:i7 × i7 // p.1.length < 9000∧p.2.length < 9000 }
 A p:=[.c (.s p.1.1),.c (.s p.1.2)]
 B _:=[]
 R p:=R p.1.1 p.1.2
 B' _:=[]
 inj i j vs bs h k _ _:=by
  obtain ⟨_,_,h1,k1,h,k⟩:=h.two k
  obtain ⟨_,_,h2,k2,h,k⟩:=h.two k
  rw [H3 h1 k1,H3 h2 k2];exact ⟨rfl,rfl⟩
theorem d5i:l5 103 (sp1 fun s=>.ret (.c (.i .i64 (G4 s)))):=v7 (fun fn h=>e0d h) [(124,_)] (.cons b65 .nil) fun U fn hfn ⟨s,hs⟩ vs bs hv hb=>by
 have hr:=hfn 124 _ rfl
 have hv:l9 [.c (.s s)] vs:=hv
 have hb:RBs [] bs:=hb
 show j3 U _ fun v bs'=>m8 (.ret (.c (.i .i64 (G4 s)))) v∧RBs [] bs'
 unfold d5l
 (refine Zx ?_;with_reducible repeat' first|intro _|apply aI)
 refine j4 hr ⟨s,hs⟩ (r:=.t [.c (.b (decide (i6 s < 0))),.sl 1 ((j7 (i6 s).natAbs).map dg)]) rfl j9 .nil fun _ _ _ _=>?_
 (refine Zx ?_;with_reducible repeat' first|intro _|apply aI)
 refine d12 a3p (fun h=>?_) (fun h=>?_)
 ·exact l6 ⟨.ret _ _ (rvI (by unfold G4;omega)),.nil⟩
 ·exact l6 ⟨.ret _ _ (rvI (by unfold G4;omega)),.nil⟩
def mu (m n:Nat):Nat:=if n=0 then 0 else 1+Nat.log2 (m * n)+(if m < n then 1 else 0)
theorem c5n {m n:Nat} (h:0 < n):mu n (m % n) < mu m n:=by
 have hlt:=Nat.mod_lt m h
 unfold mu
 rw [if_neg (by omega:¬n=0),if_neg (by omega:¬n < m % n)]
 split
 ·omega
 ·rename_i h0
  by_cases hmn:m < n
  ·rw [if_pos hmn,Nat.mod_eq_of_lt hmn,Nat.mul_comm];omega
  ·rw [if_neg hmn]
   have h1:n * (m % n) * 2≤m * n:=by
    have h2:n≤n * (m / n):=Nat.le_mul_of_pos_right _ (Nat.div_pos (Nat.le_of_not_lt hmn) h)
    have h3:=Nat.div_add_mod m n
    have h4:2 * (m % n)≤m:=by omega
    calc n * (m % n) * 2=n * (2 * (m % n)):=by ac_rfl
     _≤n * m:=Nat.mul_le_mul_left _ h4
     _=m * n:=Nat.mul_comm _ _
   have h5:0 < n * (m % n):=Nat.mul_pos h (by omega)
   have h6:=Nat.log2_self_le (by omega:n * (m % n) ≠ 0)
   have h7:2 ^ (Nat.log2 (n * (m % n))+1)≤m * n:=by rw [Nat.pow_succ];omega
   have h8:Nat.log2 (n * (m % n))+1≤Nat.log2 (m * n):=(Nat.le_log2 (by omega)).2 h7
   omega
theorem d70 {m n:Nat} (hm:(j7 m).length < 9000) (hn:(j7 n).length < 9000):mu m n < B8:=by
 have h2:=a1n (j7 m) (D8 m)
 have h3:=a1n (j7 n) (D8 n)
 rw [D3] at h2 h3
 unfold mu
 simp only [B8]
 split
 ·omega
 ·by_cases h0:m * n=0
  ·rw [h0];simp;split <;> omega
  ·have h4:m * n < 10 ^ ((j7 m).length+(j7 n).length):=by rw [Nat.pow_add];exact Nat.mul_lt_mul'' h2 h3
   have h5:10 ^ ((j7 m).length+(j7 n).length)≤2 ^ (4 * ((j7 m).length+(j7 n).length)):=by rw [Nat.pow_mul];exact Nat.pow_le_pow_left (by decide) _
   have h6:=(Nat.log2_lt h0).2 (Nat.lt_of_lt_of_le h4 h5)
   split <;> omega
theorem f09:l5 125 (sp2 fun a b=>.ret (.c (.s (j5 (Nat.gcd (i6 a).natAbs (i6 b).natAbs))))):=v7 (fun fn h=>d84 h) [(124,_),(126,_),(127,_)] (.cons b65 (.cons d74 (.cons d6x .nil))) fun U fn hfn ⟨(a,b),ha,hbl⟩ vs bs hv hb=>by
 have hd:=hfn 124 _ rfl
 have ho:=hfn 126 _ rfl
 have hx:=hfn 127 _ rfl
 have ha:a.length < 9000:=ha
 have hbl:b.length < 9000:=hbl
 have hv:l9 [.c (.s a),.c (.s b)] vs:=hv
 have hb:RBs [] bs:=hb
 show j3 U _ fun v bs'=>m8 (.ret (.c (.s (j5 (Nat.gcd (i6 a).natAbs (i6 b).natAbs))))) v∧RBs [] bs'
 have la:=a0q a
 have lb:=a0q b
 unfold d3i
 (refine Zx ?_;with_reducible repeat' first|intro _|apply aI)
 refine j4 hd ⟨a,by omega⟩ (r:=.t [.c (.b (decide (i6 a < 0))),.sl 1 ((j7 (i6 a).natAbs).map dg)]) rfl j9 .nil fun _ _ _ _=>?_
 (refine Zx ?_;with_reducible repeat' first|intro _|apply aI)
 refine j4 hd ⟨b,by omega⟩ (r:=.t [.c (.b (decide (i6 b < 0))),.sl 1 ((j7 (i6 b).natAbs).map dg)]) rfl j9 .nil fun _ _ _ _=>?_
 generalize (i6 a).natAbs=x at *
 generalize (i6 b).natAbs=y at *
 (refine Zx ?_;with_reducible repeat' first|intro _|apply aI)
 refine F8 (fun (p:Nat × Nat) vs bs=>∃ (t:j8 Q) (off:Nat) (t':j8 Q) (off':Nat),vs=[.slice t 1 off (j7 p.1).length .no,.slice t' 1 off' (j7 p.2).length .no]∧bs=[]∧u6 1 ((j7 p.1).map dg) t off∧u6 1 ((j7 p.2).map dg) t' off'∧(j7 p.1).length < 9000∧(j7 p.2).length < 9000∧Nat.gcd p.1 p.2=Nat.gcd x y) (fun p=>mu p.1 p.2) (x,y)
  ⟨_,_,_,_,rfl,rfl,by assumption,by assumption,by simp only;omega,by simp only;omega,rfl⟩ (d70 (by simp only;omega) (by simp only;omega)) ?_
 rintro self ⟨m,n⟩ _ _ ⟨t,off,t',off',rfl,rfl,ht,ht',hm,hn,hg⟩ ih
 simp only at *
 (refine Zx ?_;with_reducible repeat' first|intro _|apply aI)
 ·have hn0:0 < n:=by
   by_cases h:n=0
   ·subst h;rw [B4] at *;simp at *
   ·omega
  have hml:=O3 (Nat.le_of_lt (Nat.mod_lt m hn0))
  refine j4 ho ⟨(m,n),show (j7 m).length < 80000 by omega,show (j7 n).length < 80000 by omega,hn0⟩ (r:=.t [.sl 1 ((j7 (m / n)).map dg),.sl 1 ((j7 (m % n)).map dg)]) rfl j9 .nil fun _ _ _ _=>?_
  (refine Zx ?_;with_reducible repeat' first|intro _|apply aI)
  exact ih (n,m % n) _ _ ⟨_,_,_,_,rfl,rfl,by assumption,by assumption,hn,by simp only;omega,by rw [← hg,Nat.gcd_comm m n,Nat.gcd_rec n m,Nat.gcd_comm]⟩ (c5n hn0)
 ·have hn0:n=0:=by rw [← D3 n,List.length_eq_zero_iff.1 (by omega:(j7 n).length=0)];rfl
  subst hn0
  rw [Nat.gcd_zero_right] at hg
  refine j4 hx ⟨(false,j7 m),show (j7 m).length < 90000 by omega,D8 _⟩ (r:=.c (.s (j5 m))) (by show y4.ret (.c (.s (sgn false (val (j7 m)))))=_;rw [D3,a97]) j9 .nil fun _ _ _ _=>?_
  rw [← hg]
  (refine Zx ?_;with_reducible repeat' first|intro _|apply aI)
  exact l6 ⟨.ret _ _ j9,.nil⟩
end
end Go.Proofs.YtffaodopiifbkaaGreatDoor
