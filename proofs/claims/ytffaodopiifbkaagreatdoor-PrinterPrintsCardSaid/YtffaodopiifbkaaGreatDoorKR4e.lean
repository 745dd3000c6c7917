/- The reference's numbers: on strings. -/
import Derived.Test.YtffaodopiifbkaaGreatDoorKR4d
set_option linter.all false
namespace Go.Proofs.YtffaodopiifbkaaGreatDoor
open Go.Abs LQ
set_option maxRecDepth 100000
set_option maxHeartbeats 4000000
noncomputable section
theorem b64:j5 124 (sp1 fun s=>.ret (.t [.c (.b (decide (f6 s < 0))),.sl 1 ((i7 (f6 s).natAbs).map dg)])):=by
 have:=d5w
 simpa only [b1y] using this
theorem e6g (neg:Bool) (n:Nat):sgn neg n=f8 (if neg then -(n:Int) else n):=by
 unfold sgn f8
 by_cases h0:n=0
 ·subst h0;cases neg <;> rfl
 ·rw [if_neg h0]
  cases neg
  ·simp only [Bool.false_eq_true,if_false]
   rw [if_neg oM];simp
  ·simp only [if_true]
   rw [if_pos oM];simp
theorem b0t (n:Nat):sgn false n=f7 n:=by
 unfold sgn
 split
 ·rename_i h;subst h;rfl
 ·rfl
def sp2 (R:f4→f4→n5):Sp where
 ι:={ p:f4 × f4 // p.1.length < 9000∧p.2.length < 9000 }
 A p:=[.c (.s p.1.1),.c (.s p.1.2)]
 B _:=[]
 R p:=R p.1.1 p.1.2
 B' _:=[]
 inj i j vs bs h k _ _:=by
  obtain ⟨_,_,h1,k1,h,k⟩:=h.two k
  obtain ⟨_,_,h2,k2,h,k⟩:=h.two k
  rw [F2 h1 k1,F2 h2 k2];exact ⟨rfl,rfl⟩
theorem d6y:j5 103 (sp1 fun s=>.ret (.c (.i .i64 (A5 s)))):=k8 (fun fn h=>e47 h) [(124,_)] (.cons b64 .nil) fun U fn hfn ⟨s,hs⟩ vs bs hv hb=>by
 have hr:=hfn 124 _ rfl
 have hv:j6 [.c (.s s)] vs:=hv
 have hb:g9 [] bs:=hb
 show g8 U _ fun v bs'=>j7 (.ret (.c (.i .i64 (A5 s)))) v∧g9 [] bs'
 unfold d9h
 (refine Zx ?_;intros)
 refine f5 hr ⟨s,hs⟩ (r:=.t [.c (.b (decide (f6 s < 0))),.sl 1 ((i7 (f6 s).natAbs).map dg)]) rfl j4 .nil fun _ _ _ _=>?_
 (refine Zx ?_;intros)
 refine d37 a3e (fun h=>?_) (fun h=>?_)
 ·exact i6 ⟨.ret _ _ (rvI (by unfold A5;omega)),.nil⟩
 ·exact i6 ⟨.ret _ _ (rvI (by unfold A5;omega)),.nil⟩
def mu (m n:Nat):Nat:=if n=0 then 0 else 1+Nat.log2 (m * n)+(if m < n then 1 else 0)
theorem c7j {m n:Nat} (h:0 < n):mu n (m % n) < mu m n:=by
 have hlt:=Nat.mod_lt m h
 unfold mu
 rw [if_neg (by omega:¬n=0),if_neg (by omega:¬n < m % n)]
 split
 ·omega
 ·rename_i h0
  by_cases hmn:m < n
  ·rw [if_pos hmn,Nat.mod_eq_of_lt hmn,Nat.mul_comm];omega
  ·rw [if_neg hmn]
   have h1:n * (m % n) * 2≤m * n:=by
    have h2:n≤n * (m / n):=Nat.le_mul_of_pos_right _ (Nat.div_pos (Nat.le_of_not_lt hmn) h)
    have h3:=Nat.div_add_mod m n
    have h4:2 * (m % n)≤m:=oM
    calc n * (m % n) * 2=n * (2 * (m % n)):=by ac_rfl
     _≤n * m:=Nat.mul_le_mul_left _ h4
     _=m * n:=Nat.mul_comm _ _
   have h5:0 < n * (m % n):=Nat.mul_pos h oM
   have h6:=Nat.log2_self_le (by omega:n * (m % n) ≠ 0)
   have h7:2 ^ (Nat.log2 (n * (m % n))+1)≤m * n:=by rw [Nat.pow_succ];omega
   have h8:Nat.log2 (n * (m % n))+1≤Nat.log2 (m * n):=(Nat.le_log2 oM).2 h7
   omega
theorem e1d {m n:Nat} (hm:(i7 m).length < 9000) (hn:(i7 n).length < 9000):mu m n < v8:=by
 have h2:=a1h (i7 m) (B6 m)
 have h3:=a1h (i7 n) (B6 n)
 rw [A9] at h2 h3
 unfold mu
 simp only [v8]
 split
 ·omega
 ·by_cases h0:m * n=0
  ·rw [h0];simp;split <;> omega
  ·have h4:m * n < 10 ^ ((i7 m).length+(i7 n).length):=by rw [Nat.pow_add];exact Nat.mul_lt_mul'' h2 h3
   have h5:10 ^ ((i7 m).length+(i7 n).length)≤2 ^ (4 * ((i7 m).length+(i7 n).length)):=by rw [Nat.pow_mul];exact Nat.pow_le_pow_left dE _
   have h6:=(Nat.log2_lt h0).2 (Nat.lt_of_lt_of_le h4 h5)
   split <;> omega
theorem f6g:j5 125 (sp2 fun a b=>.ret (.c (.s (f7 (Nat.gcd (f6 a).natAbs (f6 b).natAbs))))):=k8 (fun fn h=>e2w h) [(124,_),(126,_),(127,_)] (.cons b64 (.cons e0j (.cons e0b .nil))) fun U fn hfn ⟨(a,b),ha,hbl⟩ vs bs hv hb=>by
 have hd:=hfn 124 _ rfl
 have ho:=hfn 126 _ rfl
 have hx:=hfn 127 _ rfl
 have ha:a.length < 9000:=ha
 have hbl:b.length < 9000:=hbl
 have hv:j6 [.c (.s a),.c (.s b)] vs:=hv
 have hb:g9 [] bs:=hb
 show g8 U _ fun v bs'=>j7 (.ret (.c (.s (f7 (Nat.gcd (f6 a).natAbs (f6 b).natAbs))))) v∧g9 [] bs'
 have la:=a0e a
 have lb:=a0e b
 unfold d5z
 (refine Zx ?_;intros)
 refine f5 hd ⟨a,oM⟩ (r:=.t [.c (.b (decide (f6 a < 0))),.sl 1 ((i7 (f6 a).natAbs).map dg)]) rfl j4 .nil fun _ _ _ _=>?_
 (refine Zx ?_;intros)
 refine f5 hd ⟨b,oM⟩ (r:=.t [.c (.b (decide (f6 b < 0))),.sl 1 ((i7 (f6 b).natAbs).map dg)]) rfl j4 .nil fun _ _ _ _=>?_
 generalize (f6 a).natAbs=x at *
 generalize (f6 b).natAbs=y at *
 (refine Zx ?_;intros)
 refine D3 (fun (p:Nat × Nat) vs bs=>∃ (t:j0 Q) (off:Nat) (t':j0 Q) (off':Nat),vs=[.slice t 1 off (i7 p.1).length .no,.slice t' 1 off' (i7 p.2).length .no]∧bs=[]∧m8 1 ((i7 p.1).map dg) t off∧m8 1 ((i7 p.2).map dg) t' off'∧(i7 p.1).length < 9000∧(i7 p.2).length < 9000∧Nat.gcd p.1 p.2=Nat.gcd x y) (fun p=>mu p.1 p.2) (x,y)
  ⟨_,_,_,_,rfl,rfl,aS,aS,by simp only;omega,by simp only;omega,rfl⟩ (e1d (by simp only;omega) (by simp only;omega)) ?_
 rintro self ⟨m,n⟩ _ _ ⟨t,off,t',off',rfl,rfl,ht,ht',hm,hn,hg⟩ ih
 simp only at *
 (refine Zx ?_;with_reducible repeat' first|intro _|apply aI)
 ·have hn0:0 < n:=by
   by_cases h:n=0
   ·subst h;rw [u3] at *;simp at *
   ·omega
  have hml:=N1 (Nat.le_of_lt (Nat.mod_lt m hn0))
  refine f5 ho ⟨(m,n),show (i7 m).length < 80000 by omega,show (i7 n).length < 80000 by omega,hn0⟩ (r:=.t [.sl 1 ((i7 (m / n)).map dg),.sl 1 ((i7 (m % n)).map dg)]) rfl j4 .nil fun _ _ _ _=>?_
  (refine Zx ?_;intros)
  exact ih (n,m % n) _ _ ⟨_,_,_,_,rfl,rfl,aS,aS,hn,by simp only;omega,by rw [← hg,Nat.gcd_comm m n,Nat.gcd_rec n m,Nat.gcd_comm]⟩ (c7j hn0)
 ·have hn0:n=0:=by rw [← A9 n,List.length_eq_zero_iff.1 (by omega:(i7 n).length=0)];rfl
  subst hn0
  rw [Nat.gcd_zero_right] at hg
  refine f5 hx ⟨(false,i7 m),show (i7 m).length < 90000 by omega,B6 _⟩ (r:=.c (.s (f7 m))) (by show n5.ret (.c (.s (sgn false (val (i7 m)))))=_;rw [A9,b0t]) j4 .nil fun _ _ _ _=>?_
  rw [← hg]
  (refine Zx ?_;intros)
  exact i6 ⟨.ret _ _ j4,.nil⟩
end
end Go.Proofs.YtffaodopiifbkaaGreatDoor
