/- The reference's numbers: on strings. -/
import Derived.Test.YtffaodopiifbkaaGreatDoorCR4d
set_option linter.all false
namespace Go.Proofs.YtffaodopiifbkaaGreatDoor
open Go.Abs LQ
set_option maxRecDepth 100000
set_option maxHeartbeats 4000000
noncomputable section
theorem b8m:l6 124 (sp1 fun s=>.ret (.t [.c (.b (decide (i7 s < 0))),.sl 1 ((j8 (i7 s).natAbs).map dg)])):=by
 have:=d4g
 simpa only [b2d] using this
theorem e8o (neg:Bool) (n:Nat):sgn neg n=j6 (if neg then -(n:Int) else n):=by
 unfold sgn j6
 by_cases h0:n=0
 ·subst h0;cases neg <;> rfl
 ·rw [if_neg h0]
  cases neg
  ·simp only [Bool.false_eq_true,if_false]
   rw [if_neg oM];simp
  ·simp only [if_true]
   rw [if_pos oM];simp
theorem b1a (n:Nat):sgn false n=j5 n:=by
 unfold sgn
 split
 ·rename_i h;subst h;rfl
 ·rfl
def sp2 (R:j0→j0→t7):Sp where
 ι:={ p:j0 × j0 // p.1.length < 9000∧p.2.length < 9000 }
 A p:=[.c (.s p.1.1),.c (.s p.1.2)]
 B _:=[]
 R p:=R p.1.1 p.1.2
 B' _:=[]
 inj i j vs bs h k _ _:=by
  obtain ⟨_,_,h1,k1,h,k⟩:=h.two k
  obtain ⟨_,_,h2,k2,h,k⟩:=h.two k
  rw [F1 h1 k1,F1 h2 k2];exact ⟨rfl,rfl⟩
theorem d5b:l6 103 (sp1 fun s=>.ret (.c (.i .i64 (E8 s)))):=o7 (fun fn h=>e21 h) [(124,_)] (.cons b8m .nil) fun U fn hfn ⟨s,hs⟩ vs bs hv hb=>by
 have hr:=hfn 124 _ rfl
 have hv:l8 [.c (.s s)] vs:=hv
 have hb:RBs [] bs:=hb
 show j3 U _ fun v bs'=>l7 (.ret (.c (.i .i64 (E8 s)))) v∧RBs [] bs'
 unfold d74
 (refine Zx ?_;intros)
 refine i6 hr ⟨s,hs⟩ (r:=.t [.c (.b (decide (i7 s < 0))),.sl 1 ((j8 (i7 s).natAbs).map dg)]) rfl j7 .nil fun _ _ _ _=>?_
 (refine Zx ?_;intros)
 refine d1g a3p (fun h=>?_) (fun h=>?_)
 ·exact k9 ⟨.ret _ _ (S7 (by unfold E8;omega)),.nil⟩
 ·exact k9 ⟨.ret _ _ (S7 (by unfold E8;omega)),.nil⟩
def mu (m n:Nat):Nat:=if n=0 then 0 else 1+Nat.log2 (m * n)+(if m < n then 1 else 0)
theorem c74 {m n:Nat} (h:0 < n):mu n (m % n) < mu m n:=by
 have hlt:=Nat.mod_lt m h
 unfold mu
 rw [if_neg (by omega:¬n=0),if_neg (by omega:¬n < m % n)]
 split
 ·omega
 ·rename_i h0
  by_cases hmn:m < n
  ·rw [if_pos hmn,Nat.mod_eq_of_lt hmn,Nat.mul_comm];omega
  ·rw [if_neg hmn]
   have h1:n * (m % n) * 2≤m * n:=by
    have h2:n≤n * (m / n):=Nat.le_mul_of_pos_right _ (Nat.div_pos (Nat.le_of_not_lt hmn) h)
    have h3:=Nat.div_add_mod m n
    have h4:2 * (m % n)≤m:=oM
    calc n * (m % n) * 2=n * (2 * (m % n)):=by ac_rfl
     _≤n * m:=Nat.mul_le_mul_left _ h4
     _=m * n:=Nat.mul_comm _ _
   have h5:0 < n * (m % n):=Nat.mul_pos h oM
   have h6:=Nat.log2_self_le (by omega:n * (m % n) ≠ 0)
   have h7:2 ^ (Nat.log2 (n * (m % n))+1)≤m * n:=by rw [Nat.pow_succ];omega
   have h8:Nat.log2 (n * (m % n))+1≤Nat.log2 (m * n):=(Nat.le_log2 oM).2 h7
   omega
theorem d9w {m n:Nat} (hm:(j8 m).length < 9000) (hn:(j8 n).length < 9000):mu m n < x8:=by
 have h2:=a1q (j8 m) (C2 m)
 have h3:=a1q (j8 n) (C2 n)
 rw [B4] at h2 h3
 unfold mu
 simp only [x8]
 split
 ·omega
 ·by_cases h0:m * n=0
  ·rw [h0];simp;split <;> omega
  ·have h4:m * n < 10 ^ ((j8 m).length+(j8 n).length):=by rw [Nat.pow_add];exact Nat.mul_lt_mul'' h2 h3
   have h5:10 ^ ((j8 m).length+(j8 n).length)≤2 ^ (4 * ((j8 m).length+(j8 n).length)):=by rw [Nat.pow_mul];exact Nat.pow_le_pow_left dE _
   have h6:=(Nat.log2_lt h0).2 (Nat.lt_of_lt_of_le h4 h5)
   split <;> omega
theorem f4i:l6 125 (sp2 fun a b=>.ret (.c (.s (j5 (Nat.gcd (i7 a).natAbs (i7 b).natAbs))))):=o7 (fun fn h=>e1e h) [(124,_),(126,_),(127,_)] (.cons b8m (.cons d8s (.cons d9n .nil))) fun U fn hfn ⟨(a,b),ha,hbl⟩ vs bs hv hb=>by
 have hd:=hfn 124 _ rfl
 have ho:=hfn 126 _ rfl
 have hx:=hfn 127 _ rfl
 have ha:a.length < 9000:=ha
 have hbl:b.length < 9000:=hbl
 have hv:l8 [.c (.s a),.c (.s b)] vs:=hv
 have hb:RBs [] bs:=hb
 show j3 U _ fun v bs'=>l7 (.ret (.c (.s (j5 (Nat.gcd (i7 a).natAbs (i7 b).natAbs))))) v∧RBs [] bs'
 have la:=a01 a
 have lb:=a01 b
 unfold d6x
 (refine Zx ?_;intros)
 refine i6 hd ⟨a,oM⟩ (r:=.t [.c (.b (decide (i7 a < 0))),.sl 1 ((j8 (i7 a).natAbs).map dg)]) rfl j7 .nil fun _ _ _ _=>?_
 (refine Zx ?_;intros)
 refine i6 hd ⟨b,oM⟩ (r:=.t [.c (.b (decide (i7 b < 0))),.sl 1 ((j8 (i7 b).natAbs).map dg)]) rfl j7 .nil fun _ _ _ _=>?_
 generalize (i7 a).natAbs=x at *
 generalize (i7 b).natAbs=y at *
 (refine Zx ?_;intros)
 refine C7 (fun (p:Nat × Nat) vs bs=>∃ (t:j9 Q) (off:Nat) (t':j9 Q) (off':Nat),vs=[.slice t 1 off (j8 p.1).length .no,.slice t' 1 off' (j8 p.2).length .no]∧bs=[]∧p5 1 ((j8 p.1).map dg) t off∧p5 1 ((j8 p.2).map dg) t' off'∧(j8 p.1).length < 9000∧(j8 p.2).length < 9000∧Nat.gcd p.1 p.2=Nat.gcd x y) (fun p=>mu p.1 p.2) (x,y)
  ⟨_,_,_,_,rfl,rfl,aS,aS,by simp only;omega,by simp only;omega,rfl⟩ (d9w (by simp only;omega) (by simp only;omega)) ?_
 rintro self ⟨m,n⟩ _ _ ⟨t,off,t',off',rfl,rfl,ht,ht',hm,hn,hg⟩ ih
 simp only at *
 (refine Zx ?_;with_reducible repeat' first|intro _|apply aI)
 ·have hn0:0 < n:=by
   by_cases h:n=0
   ·subst h;rw [y6] at *;simp at *
   ·omega
  have hml:=N2 (Nat.le_of_lt (Nat.mod_lt m hn0))
  refine i6 ho ⟨(m,n),show (j8 m).length < 80000 by omega,show (j8 n).length < 80000 by omega,hn0⟩ (r:=.t [.sl 1 ((j8 (m / n)).map dg),.sl 1 ((j8 (m % n)).map dg)]) rfl j7 .nil fun _ _ _ _=>?_
  (refine Zx ?_;intros)
  exact ih (n,m % n) _ _ ⟨_,_,_,_,rfl,rfl,aS,aS,hn,by simp only;omega,by rw [← hg,Nat.gcd_comm m n,Nat.gcd_rec n m,Nat.gcd_comm]⟩ (c74 hn0)
 ·have hn0:n=0:=by rw [← B4 n,List.length_eq_zero_iff.1 (by omega:(j8 n).length=0)];rfl
  subst hn0
  rw [Nat.gcd_zero_right] at hg
  refine i6 hx ⟨(false,j8 m),show (j8 m).length < 90000 by omega,C2 _⟩ (r:=.c (.s (j5 m))) (by show t7.ret (.c (.s (sgn false (val (j8 m)))))=_;rw [B4,b1a]) j7 .nil fun _ _ _ _=>?_
  rw [← hg]
  (refine Zx ?_;intros)
  exact k9 ⟨.ret _ _ j7,.nil⟩
end
end Go.Proofs.YtffaodopiifbkaaGreatDoor
