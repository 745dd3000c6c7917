/- The reference's numbers: products. -/
import Derived.Test.YtdldcfllnohkeaaGreatDoorKR4c
set_option linter.all false
namespace Go.Proofs.YtdldcfllnohkeaaGreatDoor
open Go.Abs LQ
set_option maxRecDepth 100000
set_option maxHeartbeats 4000000
noncomputable section
theorem b74:j3 77 (sp1 fun s=>.ret (.t [.c (.b (decide (f7 s < 0))),.sl 1 ((i6 (f7 s).natAbs).map dg)])):=by
 have:=d7f
 simpa only [b2h] using this
theorem f2y (neg:Bool) (n:Nat):sgn neg n=f9 (if neg then -(n:Int) else n):=by
 unfold sgn f9
 by_cases h0:n=0
 ·subst h0;cases neg <;> rfl
 ·rw [if_neg h0]
  cases neg
  ·simp only [Bool.false_eq_true,if_false]
   rw [if_neg oM];simp
  ·simp only [if_true]
   rw [if_pos oM];simp
theorem b1w (n:Nat):sgn false n=f8 n:=by
 unfold sgn
 split
 ·rename_i h;subst h;rfl
 ·rfl
def sp2 (R:f5→f5→n6):Sp where
 ι:={ p:f5 × f5 // p.1.length < 9000∧p.2.length < 9000 }
 A p:=[.c (.s p.1.1),.c (.s p.1.2)]
 B _:=[]
 R p:=R p.1.1 p.1.2
 B' _:=[]
 inj i j vs bs h k _ _:=by
  obtain ⟨_,_,h1,k1,h,k⟩:=h.two k
  obtain ⟨_,_,h2,k2,h,k⟩:=h.two k
  rw [F7 h1 k1,F7 h2 k2];exact ⟨rfl,rfl⟩
theorem d7j:j3 93 (sp1 fun s=>.ret (.c (.i .i64 (A8 s)))):=k7 (fun fn h=>f15 h) [(77,_)] (.cons b74 .nil) fun U fn hfn ⟨s,hs⟩ vs bs hv hb=>by
 have hr:=hfn 77 _ rfl
 have hv:j5 [.c (.s s)] vs:=hv
 have hb:RBs [] bs:=hb
 show g7 U _ fun v bs'=>j6 (.ret (.c (.i .i64 (A8 s)))) v∧RBs [] bs'
 unfold r93
 (refine Zx ?_;intros)
 refine f6 hr ⟨s,hs⟩ (r:=.t [.c (.b (decide (f7 s < 0))),.sl 1 ((i6 (f7 s).natAbs).map dg)]) rfl j4 .nil fun _ _ _ _=>?_
 (refine Zx ?_;intros)
 refine b62 a1x (fun h=>?_) (fun h=>?_)
 ·exact g9 ⟨.ret _ _ (rvI (by unfold A8;omega)),.nil⟩
 ·exact g9 ⟨.ret _ _ (rvI (by unfold A8;omega)),.nil⟩
def mu (m n:Nat):Nat:=if n=0 then 0 else 1+Nat.log2 (m * n)+(if m < n then 1 else 0)
theorem c8o {m n:Nat} (h:0 < n):mu n (m % n) < mu m n:=by
 have hlt:=Nat.mod_lt m h
 unfold mu
 rw [if_neg (by omega:¬n=0),if_neg (by omega:¬n < m % n)]
 split
 ·omega
 ·rename_i h0
  by_cases hmn:m < n
  ·rw [if_pos hmn,Nat.mod_eq_of_lt hmn,Nat.mul_comm];omega
  ·rw [if_neg hmn]
   have h1:n * (m % n) * 2≤m * n:=by
    have h2:n≤n * (m / n):=Nat.le_mul_of_pos_right _ (Nat.div_pos (Nat.le_of_not_lt hmn) h)
    have h3:=Nat.div_add_mod m n
    have h4:2 * (m % n)≤m:=oM
    calc n * (m % n) * 2=n * (2 * (m % n)):=by ac_rfl
     _≤n * m:=Nat.mul_le_mul_left _ h4
     _=m * n:=Nat.mul_comm _ _
   have h5:0 < n * (m % n):=Nat.mul_pos h oM
   have h6:=Nat.log2_self_le (by omega:n * (m % n) ≠ 0)
   have h7:2 ^ (Nat.log2 (n * (m % n))+1)≤m * n:=by rw [Nat.pow_succ];omega
   have h8:Nat.log2 (n * (m % n))+1≤Nat.log2 (m * n):=(Nat.le_log2 oM).2 h7
   omega
theorem e1h {m n:Nat} (hm:(i6 m).length < 9000) (hn:(i6 n).length < 9000):mu m n < x8:=by
 have h2:=a13 (i6 m) (C2 m)
 have h3:=a13 (i6 n) (C2 n)
 rw [B6] at h2 h3
 unfold mu
 simp only [x8]
 split
 ·omega
 ·by_cases h0:m * n=0
  ·rw [h0];simp;split <;> omega
  ·have h4:m * n < 10 ^ ((i6 m).length+(i6 n).length):=by rw [Nat.pow_add];exact Nat.mul_lt_mul'' h2 h3
   have h5:10 ^ ((i6 m).length+(i6 n).length)≤2 ^ (4 * ((i6 m).length+(i6 n).length)):=by rw [Nat.pow_mul];exact Nat.pow_le_pow_left dE _
   have h6:=(Nat.log2_lt h0).2 (Nat.lt_of_lt_of_le h4 h5)
   split <;> omega
theorem f8m:j3 78 (sp2 fun a b=>.ret (.c (.s (f8 (Nat.gcd (f7 a).natAbs (f7 b).natAbs))))):=k7 (fun fn h=>f1e h) [(77,_),(79,_),(80,_)] (.cons b74 (.cons e1b (.cons e1c .nil))) fun U fn hfn ⟨(a,b),ha,hbl⟩ vs bs hv hb=>by
 have hd:=hfn 77 _ rfl
 have ho:=hfn 79 _ rfl
 have hx:=hfn 80 _ rfl
 have ha:a.length < 9000:=ha
 have hbl:b.length < 9000:=hbl
 have hv:j5 [.c (.s a),.c (.s b)] vs:=hv
 have hb:RBs [] bs:=hb
 show g7 U _ fun v bs'=>j6 (.ret (.c (.s (f8 (Nat.gcd (f7 a).natAbs (f7 b).natAbs))))) v∧RBs [] bs'
 have la:=a0s a
 have lb:=a0s b
 unfold r78
 (refine Zx ?_;intros)
 refine f6 hd ⟨a,oM⟩ (r:=.t [.c (.b (decide (f7 a < 0))),.sl 1 ((i6 (f7 a).natAbs).map dg)]) rfl j4 .nil fun _ _ _ _=>?_
 (refine Zx ?_;intros)
 refine f6 hd ⟨b,oM⟩ (r:=.t [.c (.b (decide (f7 b < 0))),.sl 1 ((i6 (f7 b).natAbs).map dg)]) rfl j4 .nil fun _ _ _ _=>?_
 generalize (f7 a).natAbs=x at *
 generalize (f7 b).natAbs=y at *
 (refine Zx ?_;intros)
 refine E1 (fun (p:Nat × Nat) vs bs=>∃ (t:i7 Q) (off:Nat) (t':i7 Q) (off':Nat),vs=[.slice t 1 off (i6 p.1).length .no,.slice t' 1 off' (i6 p.2).length .no]∧bs=[]∧m7 1 ((i6 p.1).map dg) t off∧m7 1 ((i6 p.2).map dg) t' off'∧(i6 p.1).length < 9000∧(i6 p.2).length < 9000∧Nat.gcd p.1 p.2=Nat.gcd x y) (fun p=>mu p.1 p.2) (x,y)
  ⟨_,_,_,_,rfl,rfl,aS,aS,by simp only;omega,by simp only;omega,rfl⟩ (e1h (by simp only;omega) (by simp only;omega)) ?_
 rintro self ⟨m,n⟩ _ _ ⟨t,off,t',off',rfl,rfl,ht,ht',hm,hn,hg⟩ ih
 simp only at *
 (refine Zx ?_;with_reducible repeat' first|intro _|apply aI)
 ·have hn0:0 < n:=by
   by_cases h:n=0
   ·subst h;rw [u9] at *;simp at *
   ·omega
  have hml:=O3 (Nat.le_of_lt (Nat.mod_lt m hn0))
  refine f6 ho ⟨(m,n),show (i6 m).length < 80000 by omega,show (i6 n).length < 80000 by omega,hn0⟩ (r:=.t [.sl 1 ((i6 (m / n)).map dg),.sl 1 ((i6 (m % n)).map dg)]) rfl j4 .nil fun _ _ _ _=>?_
  (refine Zx ?_;intros)
  exact ih (n,m % n) _ _ ⟨_,_,_,_,rfl,rfl,aS,aS,hn,by simp only;omega,by rw [← hg,Nat.gcd_comm m n,Nat.gcd_rec n m,Nat.gcd_comm]⟩ (c8o hn0)
 ·have hn0:n=0:=by rw [← B6 n,List.length_eq_zero_iff.1 (by omega:(i6 n).length=0)];rfl
  subst hn0
  rw [Nat.gcd_zero_right] at hg
  refine f6 hx ⟨(false,i6 m),show (i6 m).length < 90000 by omega,C2 _⟩ (r:=.c (.s (f8 m))) (by show n6.ret (.c (.s (sgn false (val (i6 m)))))=_;rw [B6,b1w]) j4 .nil fun _ _ _ _=>?_
  rw [← hg]
  (refine Zx ?_;intros)
  exact g9 ⟨.ret _ _ j4,.nil⟩
end
end Go.Proofs.YtdldcfllnohkeaaGreatDoor
