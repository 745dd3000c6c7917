/- The reference's numbers: on strings. -/
import Derived.Test.YtkojildpddaccaaGreatDoorCJ0
set_option linter.all false
namespace Go.Proofs.YtkojildpddaccaaGreatDoor
open Go.Abs LQ
set_option maxRecDepth 100000
set_option maxHeartbeats 4000000
noncomputable section
theorem Z9:s9 137 (sp1 fun s=>.ret (.t [.c (.b (decide (p8 s < 0))),.sl 1 ((p7 (p8 s).natAbs).map dg)])):=by
 have:=e0k
 simpa only [c7c] using this
theorem W4 (neg:Bool) (n:Nat):J0 neg n=p5 (if neg then -(n:Int) else n):=by
 unfold J0 p5
 by_cases h0:n=0
 ·subst h0;cases neg <;> rfl
 ·rw [if_neg h0]
  cases neg
  ·simp only [Bool.false_eq_true,if_false]
   rw [if_neg oM];simp
  ·simp only [if_true]
   rw [if_pos oM];simp
theorem c0t (n:Nat):J0 false n=s3 n:=by
 unfold J0
 split
 ·rename_i h;subst h;rfl
 ·rfl
def sp2 (R:u4→u4→u9):Sp where
 ι:={ p:u4 × u4 // p.1.length < 9000∧p.2.length < 9000 }
 A p:=[.c (.s p.1.1),.c (.s p.1.2)]
 B _:=[]
 R p:=R p.1.1 p.1.2
 B' _:=[]
 inj i j vs bs h k _ _:=by
  obtain ⟨_,_,h1,k1,h,k⟩:=h.two k
  obtain ⟨_,_,h2,k2,h,k⟩:=h.two k
  rw [a4l h1 k1,a4l h2 k2];exact ⟨rfl,rfl⟩
theorem f2x (a b:Int):(if (decide (a < 0) != decide (b < 0))=true then -((a.natAbs * b.natAbs:Nat):Int) else ((a.natAbs * b.natAbs:Nat):Int))=a * b:=by
 rw [← Int.natAbs_mul]
 by_cases h1:a < 0 <;> by_cases h2:b < 0
 ·have h:=Int.mul_pos_of_neg_of_neg h1 h2
  generalize a * b=p at *
  simp [h1,h2];omega
 ·have h:=Int.mul_nonneg (Int.neg_nonneg_of_nonpos (Int.le_of_lt h1)) (Int.not_lt.1 h2)
  rw [Int.neg_mul] at h
  generalize a * b=p at *
  simp [h1,h2];omega
 ·have h:=Int.mul_nonneg (Int.not_lt.1 h1) (Int.neg_nonneg_of_nonpos (Int.le_of_lt h2))
  rw [Int.mul_neg] at h
  generalize a * b=p at *
  simp [h1,h2];omega
 ·have h:=Int.mul_nonneg (Int.not_lt.1 h1) (Int.not_lt.1 h2)
  generalize a * b=p at *
  simp [h1,h2];omega
theorem N0 (m n:Nat):(p7 (m * n)).length≤(p7 m).length+(p7 n).length:=by
 by_cases h:m * n=0
 ·rw [h,C5];simp
 ·have h1:=a76 (m * n) h
  have h2:=Z6 (p7 m) (B3 m)
  have h3:=Z6 (p7 n) (B3 n)
  rw [C0] at h2 h3
  have h4:m * n < 10 ^ ((p7 m).length+(p7 n).length):=by rw [Nat.pow_add];exact Nat.mul_lt_mul'' h2 h3
  have h5:=(Nat.pow_lt_pow_iff_right (by omega:1 < 10)).1 (Nat.lt_of_le_of_lt h1 h4)
  omega
theorem e0p:s9 174 (sp1 fun s=>.ret (.c (.i .i64 (J6 s)))):=u2 (fun fn h=>c84 h) [(137,_)] (.cons Z9 .nil) fun U fn hfn ⟨s,hs⟩ vs bs hv hb=>by
 have hr:=hfn 137 _ rfl
 have hv:t7 [.c (.s s)] vs:=hv
 have hb:s5 [] bs:=hb
 show s4 U _ fun v bs'=>u0 (.ret (.c (.i .i64 (J6 s)))) v∧s5 [] bs'
 unfold d2z
 (refine Zx ?_;intros)
 refine o7 hr ⟨s,hs⟩ (r:=.t [.c (.b (decide (p8 s < 0))),.sl 1 ((p7 (p8 s).natAbs).map dg)]) rfl u5 .nil fun _ _ _ _=>?_
 (refine Zx ?_;intros)
 refine f91 a1b (fun h=>?_) (fun h=>?_)
 ·exact p9 ⟨.ret _ _ (R6 (by unfold J6;omega)),.nil⟩
 ·exact p9 ⟨.ret _ _ (R6 (by unfold J6;omega)),.nil⟩
theorem b1j:s9 241 (sp2 fun a b=>.ret (.c (.s (p5 (p8 a * p8 b))))):=u2 (fun fn h=>f1x h) [(137,_),(269,_),(140,_)] (.cons Z9 (.cons f6p (.cons b2w .nil))) fun U fn hfn ⟨(a,b),ha,hbl⟩ vs bs hv hb=>by
 have hd:=hfn 137 _ rfl
 have ht:=hfn 269 _ rfl
 have hx:=hfn 140 _ rfl
 have ha:a.length < 9000:=ha
 have hbl:b.length < 9000:=hbl
 have hv:t7 [.c (.s a),.c (.s b)] vs:=hv
 have hb:s5 [] bs:=hb
 show s4 U _ fun v bs'=>u0 (.ret (.c (.s (p5 (p8 a * p8 b))))) v∧s5 [] bs'
 have la:=M6 a
 have lb:=M6 b
 unfold e22
 (refine Zx ?_;intros)
 refine o7 hd ⟨a,oM⟩ (r:=.t [.c (.b (decide (p8 a < 0))),.sl 1 ((p7 (p8 a).natAbs).map dg)]) rfl u5 .nil fun _ _ _ _=>?_
 (refine Zx ?_;intros)
 refine o7 hd ⟨b,oM⟩ (r:=.t [.c (.b (decide (p8 b < 0))),.sl 1 ((p7 (p8 b).natAbs).map dg)]) rfl u5 .nil fun _ _ _ _=>?_
 (refine Zw ?_;intros)
 refine o7 ht ⟨((p8 a).natAbs,(p8 b).natAbs),show (p7 (p8 a).natAbs).length < 40000 by omega,show (p7 (p8 b).natAbs).length < 40000 by omega⟩ (r:=.sl 1 ((p7 ((p8 a).natAbs * (p8 b).natAbs)).map dg)) rfl u5 .nil fun _ _ _ _=>?_
 (refine Zw ?_;intros)
 refine o7 hx ⟨(decide (p8 a < 0) != decide (p8 b < 0),p7 ((p8 a).natAbs * (p8 b).natAbs)),?_,B3 _⟩ (r:=.c (.s (p5 (p8 a * p8 b)))) ?_ u5 .nil fun _ _ _ _=>?_
 ·have:=N0 (p8 a).natAbs (p8 b).natAbs
  show (p7 _).length < 90000
  omega
 ·show u9.ret (.c (.s (J0 _ (val (p7 _)))))=_
  rw [C0,W4]
  rw [f2x]
 ·(refine Zw ?_;intros)
  exact p9 ⟨.ret _ _ u5,.nil⟩
theorem g8n:s9 240 (sp2 fun a b=>.ret (.c (.s (p5 (p8 a+p8 b))))):=u2 (fun fn h=>f1w h) [(137,_),(238,_),(207,_),(206,_),(140,_)] (.cons Z9 (.cons e50 (.cons c30 (.cons c32 (.cons b2w .nil))))) fun U fn hfn ⟨(a,b),ha,hbl⟩ vs bs hv hb=>by
 have hd:=hfn 137 _ rfl
 have hp:=hfn 238 _ rfl
 have hm:=hfn 207 _ rfl
 have ho:=hfn 206 _ rfl
 have hx:=hfn 140 _ rfl
 have ha:a.length < 9000:=ha
 have hbl:b.length < 9000:=hbl
 have hv:t7 [.c (.s a),.c (.s b)] vs:=hv
 have hb:s5 [] bs:=hb
 show s4 U _ fun v bs'=>u0 (.ret (.c (.s (p5 (p8 a+p8 b))))) v∧s5 [] bs'
 have la:=M6 a
 have lb:=M6 b
 unfold e21
 (refine Zx ?_;intros)
 refine o7 hd ⟨a,oM⟩ (r:=.t [.c (.b (decide (p8 a < 0))),.sl 1 ((p7 (p8 a).natAbs).map dg)]) rfl u5 .nil fun _ _ _ _=>?_
 (refine Zx ?_;intros)
 refine o7 hd ⟨b,oM⟩ (r:=.t [.c (.b (decide (p8 b < 0))),.sl 1 ((p7 (p8 b).natAbs).map dg)]) rfl u5 .nil fun _ _ _ _=>?_
 have l1:(p7 (p8 a).natAbs).length < 90000:=oM
 have l2:(p7 (p8 b).natAbs).length < 90000:=oM
 generalize p8 a=x at *
 generalize p8 b=y at *
 have hor:=a6o x.natAbs y.natAbs
 (refine Zx ?_;with_reducible repeat' first|intro _|apply aI)
 ·have he:decide (x < 0)=decide (y < 0):=by simpa using ‹(decide (x < 0) == decide (y < 0))=true›
  have hl:=a43 (p7 x.natAbs) (p7 y.natAbs) 0
  refine o7 hp ⟨(p7 x.natAbs,p7 y.natAbs),l1,l2,B3 _,B3 _⟩ (r:=.sl 1 ((G2 (p7 x.natAbs) (p7 y.natAbs) 0).map dg)) rfl u5 .nil fun _ _ _ _=>?_
  (refine Zx ?_;intros)
  refine o7 hx ⟨(decide (x < 0),G2 (p7 x.natAbs) (p7 y.natAbs) 0),show (G2 (p7 x.natAbs) (p7 y.natAbs) 0).length < 90000 by omega,a7w _ _ _ oM (B3 _) (B3 _)⟩ (r:=.c (.s (p5 (x+y)))) ?_ u5 .nil fun _ _ _ _=>?_
  ·show u9.ret (.c (.s (J0 _ (val (G2 _ _ _)))))=_
   rw [a45,C0,C0,W4]
   congr 4
   by_cases h:x < 0
   ·have:y < 0:=by simpa [h] using he
    simp [h];omega
   ·have:¬y < 0:=by simpa [h] using he
    simp [h];omega
  ·(refine Zx ?_;intros)
   exact p9 ⟨.ret _ _ u5,.nil⟩
 ·have he:¬decide (x < 0)=decide (y < 0):=by simpa using ‹¬(decide (x < 0) == decide (y < 0))=true›
  refine o7 ho ⟨(p7 x.natAbs,p7 y.natAbs),l1,l2,trivial⟩ (r:=.c (.i .i64 (a1x (p7 x.natAbs) (p7 y.natAbs)))) rfl u5 .nil fun _ _ _ _=>?_
  generalize a1x (p7 x.natAbs) (p7 y.natAbs)=o at *
  (refine Zx ?_;with_reducible repeat' first|intro _|apply aI)
  ·have hge:y.natAbs≤x.natAbs:=by
    by_cases h:x.natAbs < y.natAbs
    ·rw [if_pos h] at hor;omega
    ·omega
   have l3:(p7 (x.natAbs - y.natAbs)).length < 90000:=by have:=D3 (Nat.sub_le x.natAbs y.natAbs);omega
   refine o7 hm ⟨(p7 x.natAbs,p7 y.natAbs),l1,l2,B3 _,B3 _⟩ (r:=.sl 1 ((p7 (x.natAbs - y.natAbs)).map dg)) (by rw [← a6w _ _ hge];rfl) u5 .nil fun _ _ _ _=>?_
   (refine Zx ?_;intros)
   refine o7 hx ⟨(decide (x < 0),p7 (x.natAbs - y.natAbs)),l3,B3 _⟩ (r:=.c (.s (p5 (x+y)))) ?_ u5 .nil fun _ _ _ _=>?_
   ·show u9.ret (.c (.s (J0 _ (val (p7 _)))))=_
    rw [C0,W4]
    congr 4
    by_cases h:x < 0
    ·have:¬y < 0:=by simpa [h] using he
     simp [h];omega
    ·have:y < 0:=by simpa [h] using he
     simp [h];omega
   ·(refine Zx ?_;intros)
    exact p9 ⟨.ret _ _ u5,.nil⟩
  ·have hge:x.natAbs≤y.natAbs:=by
    by_cases h:x.natAbs < y.natAbs
    ·omega
    ·rw [if_neg h] at hor;split at hor <;> omega
   have l3:(p7 (y.natAbs - x.natAbs)).length < 90000:=by have:=D3 (Nat.sub_le y.natAbs x.natAbs);omega
   refine o7 hm ⟨(p7 y.natAbs,p7 x.natAbs),l2,l1,B3 _,B3 _⟩ (r:=.sl 1 ((p7 (y.natAbs - x.natAbs)).map dg)) (by rw [← a6w _ _ hge];rfl) u5 .nil fun _ _ _ _=>?_
   (refine Zx ?_;intros)
   refine o7 hx ⟨(decide (y < 0),p7 (y.natAbs - x.natAbs)),l3,B3 _⟩ (r:=.c (.s (p5 (x+y)))) ?_ u5 .nil fun _ _ _ _=>?_
   ·show u9.ret (.c (.s (J0 _ (val (p7 _)))))=_
    rw [C0,W4]
    congr 4
    by_cases h:y < 0
    ·have:¬x < 0:=by simpa [h] using he
     simp [h];omega
    ·have:x < 0:=by simpa [h] using he
     simp [h];omega
   ·(refine Zx ?_;intros)
    exact p9 ⟨.ret _ _ u5,.nil⟩
def a3w (x y:Int):Int:=if x < y then -1 else if y < x then 1 else 0
theorem e0i:s9 271 (sp2 fun a b=>.ret (.c (.i .i64 (a3w (p8 a) (p8 b))))):=u2 (fun fn h=>f2j h) [(137,_),(206,_)] (.cons Z9 (.cons c32 .nil)) fun U fn hfn ⟨(a,b),ha,hbl⟩ vs bs hv hb=>by
 have hd:=hfn 137 _ rfl
 have ho:=hfn 206 _ rfl
 have ha:a.length < 9000:=ha
 have hbl:b.length < 9000:=hbl
 have hv:t7 [.c (.s a),.c (.s b)] vs:=hv
 have hb:s5 [] bs:=hb
 show s4 U _ fun v bs'=>u0 (.ret (.c (.i .i64 (a3w (p8 a) (p8 b))))) v∧s5 [] bs'
 have la:=M6 a
 have lb:=M6 b
 unfold e3k
 (refine Zx ?_;intros)
 refine o7 hd ⟨a,oM⟩ (r:=.t [.c (.b (decide (p8 a < 0))),.sl 1 ((p7 (p8 a).natAbs).map dg)]) rfl u5 .nil fun _ _ _ _=>?_
 (refine Zx ?_;intros)
 refine o7 hd ⟨b,oM⟩ (r:=.t [.c (.b (decide (p8 b < 0))),.sl 1 ((p7 (p8 b).natAbs).map dg)]) rfl u5 .nil fun _ _ _ _=>?_
 have l1:(p7 (p8 a).natAbs).length < 90000:=oM
 have l2:(p7 (p8 b).natAbs).length < 90000:=oM
 generalize p8 a=x at *
 generalize p8 b=y at *
 have hor:=a6o x.natAbs y.natAbs
 have hor':=a6o y.natAbs x.natAbs
 (refine Zx ?_;with_reducible repeat' first|intro _|apply aI)
 all_goals simp only [decide_eq_true_eq] at *
 all_goals try (exfalso;omega)
 all_goals first
  | exact p9 ⟨.ret _ _ (R6 (by unfold a3w;rw [if_neg oM,if_pos oM])),.nil⟩
  | exact p9 ⟨.ret _ _ (R6 (by unfold a3w;rw [if_pos oM])),.nil⟩
  | (have hq:x < 0:=aS
     refine o7 ho ⟨(p7 y.natAbs,p7 x.natAbs),l2,l1,trivial⟩ (r:=.c (.i .i64 (a1x (p7 y.natAbs) (p7 x.natAbs)))) rfl u5 .nil fun _ _ _ _=>?_
     (refine Zx ?_;intros)
     exact p9 ⟨.ret _ _ (R6 (by rw [hor'];unfold a3w;(repeat' split) <;> omega)),.nil⟩)
  | (refine o7 ho ⟨(p7 x.natAbs,p7 y.natAbs),l1,l2,trivial⟩ (r:=.c (.i .i64 (a1x (p7 x.natAbs) (p7 y.natAbs)))) rfl u5 .nil fun _ _ _ _=>?_
     (refine Zx ?_;intros)
     exact p9 ⟨.ret _ _ (R6 (by rw [hor];unfold a3w;(repeat' split) <;> omega)),.nil⟩)
def mu (m n:Nat):Nat:=if n=0 then 0 else 1+Nat.log2 (m * n)+(if m < n then 1 else 0)
theorem e9x {m n:Nat} (h:0 < n):mu n (m % n) < mu m n:=by
 have hlt:=Nat.mod_lt m h
 unfold mu
 rw [if_neg (by omega:¬n=0),if_neg (by omega:¬n < m % n)]
 split
 ·omega
 ·rename_i h0
  by_cases hmn:m < n
  ·rw [if_pos hmn,Nat.mod_eq_of_lt hmn,Nat.mul_comm];omega
  ·rw [if_neg hmn]
   have h1:n * (m % n) * 2≤m * n:=by
    have h2:n≤n * (m / n):=Nat.le_mul_of_pos_right _ (Nat.div_pos (Nat.le_of_not_lt hmn) h)
    have h3:=Nat.div_add_mod m n
    have h4:2 * (m % n)≤m:=oM
    calc n * (m % n) * 2=n * (2 * (m % n)):=by ac_rfl
     _≤n * m:=Nat.mul_le_mul_left _ h4
     _=m * n:=Nat.mul_comm _ _
   have h5:0 < n * (m % n):=Nat.mul_pos h oM
   have h6:=Nat.log2_self_le (by omega:n * (m % n) ≠ 0)
   have h7:2 ^ (Nat.log2 (n * (m % n))+1)≤m * n:=by rw [Nat.pow_succ];omega
   have h8:Nat.log2 (n * (m % n))+1≤Nat.log2 (m * n):=(Nat.le_log2 oM).2 h7
   omega
theorem g4q {m n:Nat} (hm:(p7 m).length < 9000) (hn:(p7 n).length < 9000):mu m n < C9:=by
 have h2:=Z6 (p7 m) (B3 m)
 have h3:=Z6 (p7 n) (B3 n)
 rw [C0] at h2 h3
 unfold mu
 simp only [C9]
 split
 ·omega
 ·by_cases h0:m * n=0
  ·rw [h0];simp;split <;> omega
  ·have h4:m * n < 10 ^ ((p7 m).length+(p7 n).length):=by rw [Nat.pow_add];exact Nat.mul_lt_mul'' h2 h3
   have h5:10 ^ ((p7 m).length+(p7 n).length)≤2 ^ (4 * ((p7 m).length+(p7 n).length)):=by rw [Nat.pow_mul];exact Nat.pow_le_pow_left dE _
   have h6:=(Nat.log2_lt h0).2 (Nat.lt_of_lt_of_le h4 h5)
   split <;> omega
theorem g8w:s9 138 (sp2 fun a b=>.ret (.c (.s (s3 (Nat.gcd (p8 a).natAbs (p8 b).natAbs))))):=u2 (fun fn h=>c8z h) [(137,_),(139,_),(140,_)] (.cons Z9 (.cons d1f (.cons b2w .nil))) fun U fn hfn ⟨(a,b),ha,hbl⟩ vs bs hv hb=>by
 have hd:=hfn 137 _ rfl
 have ho:=hfn 139 _ rfl
 have hx:=hfn 140 _ rfl
 have ha:a.length < 9000:=ha
 have hbl:b.length < 9000:=hbl
 have hv:t7 [.c (.s a),.c (.s b)] vs:=hv
 have hb:s5 [] bs:=hb
 show s4 U _ fun v bs'=>u0 (.ret (.c (.s (s3 (Nat.gcd (p8 a).natAbs (p8 b).natAbs))))) v∧s5 [] bs'
 have la:=M6 a
 have lb:=M6 b
 unfold d2u
 (refine Zx ?_;intros)
 refine o7 hd ⟨a,oM⟩ (r:=.t [.c (.b (decide (p8 a < 0))),.sl 1 ((p7 (p8 a).natAbs).map dg)]) rfl u5 .nil fun _ _ _ _=>?_
 (refine Zx ?_;intros)
 refine o7 hd ⟨b,oM⟩ (r:=.t [.c (.b (decide (p8 b < 0))),.sl 1 ((p7 (p8 b).natAbs).map dg)]) rfl u5 .nil fun _ _ _ _=>?_
 generalize (p8 a).natAbs=x at *
 generalize (p8 b).natAbs=y at *
 (refine Zx ?_;intros)
 refine F9 (fun (p:Nat × Nat) vs bs=>∃ (t:s6 Q) (off:Nat) (t':s6 Q) (off':Nat),vs=[.slice t 1 off (p7 p.1).length .no,.slice t' 1 off' (p7 p.2).length .no]∧bs=[]∧u6 1 ((p7 p.1).map dg) t off∧u6 1 ((p7 p.2).map dg) t' off'∧(p7 p.1).length < 9000∧(p7 p.2).length < 9000∧Nat.gcd p.1 p.2=Nat.gcd x y) (fun p=>mu p.1 p.2) (x,y)
  ⟨_,_,_,_,rfl,rfl,aS,aS,by simp only;omega,by simp only;omega,rfl⟩ (g4q (by simp only;omega) (by simp only;omega)) ?_
 rintro self ⟨m,n⟩ _ _ ⟨t,off,t',off',rfl,rfl,ht,ht',hm,hn,hg⟩ ih
 simp only at *
 (refine Zx ?_;with_reducible repeat' first|intro _|apply aI)
 ·have hn0:0 < n:=by
   by_cases h:n=0
   ·subst h;rw [C5] at *;simp at *
   ·omega
  have hml:=D3 (Nat.le_of_lt (Nat.mod_lt m hn0))
  refine o7 ho ⟨(m,n),show (p7 m).length < 80000 by omega,show (p7 n).length < 80000 by omega,hn0⟩ (r:=.t [.sl 1 ((p7 (m / n)).map dg),.sl 1 ((p7 (m % n)).map dg)]) rfl u5 .nil fun _ _ _ _=>?_
  (refine Zx ?_;intros)
  exact ih (n,m % n) _ _ ⟨_,_,_,_,rfl,rfl,aS,aS,hn,by simp only;omega,by rw [← hg,Nat.gcd_comm m n,Nat.gcd_rec n m,Nat.gcd_comm]⟩ (e9x hn0)
 ·have hn0:n=0:=by rw [← C0 n,List.length_eq_zero_iff.1 (by omega:(p7 n).length=0)];rfl
  subst hn0
  rw [Nat.gcd_zero_right] at hg
  refine o7 hx ⟨(false,p7 m),show (p7 m).length < 90000 by omega,B3 _⟩ (r:=.c (.s (s3 m))) (by show u9.ret (.c (.s (J0 false (val (p7 m)))))=_;rw [C0,c0t]) u5 .nil fun _ _ _ _=>?_
  rw [← hg]
  (refine Zx ?_;intros)
  exact p9 ⟨.ret _ _ u5,.nil⟩
theorem a3c (n:Nat):(s3 n).length≤(p7 n).length+1:=by
 by_cases h:n=0
 ·subst h;decide
 ·rw [a12 n h];omega
theorem c7v:s9 93 (sp2 fun a b=>.ret (.t [.c (.s (I6 a b).1),.c (.s (I6 a b).2)])):=u2 (fun fn h=>d7a h) [(137,_),(139,_),(140,_),(138,_)] (.cons Z9 (.cons d1f (.cons b2w (.cons g8w .nil)))) fun U fn hfn ⟨(a,b),ha,hbl⟩ vs bs hv hb=>by
 have hd:=hfn 137 _ rfl
 have ho:=hfn 139 _ rfl
 have hx:=hfn 140 _ rfl
 have hg:=hfn 138 _ rfl
 have ha:a.length < 9000:=ha
 have hbl:b.length < 9000:=hbl
 have hv:t7 [.c (.s a),.c (.s b)] vs:=hv
 have hb:s5 [] bs:=hb
 show s4 U _ fun v bs'=>u0 (.ret (.t [.c (.s (I6 a b).1),.c (.s (I6 a b).2)])) v∧s5 [] bs'
 have la:=M6 a
 have lb:=M6 b
 unfold r93
 (refine Zx ?_;intros)
 refine o7 hd ⟨b,oM⟩ (r:=.t [.c (.b (decide (p8 b < 0))),.sl 1 ((p7 (p8 b).natAbs).map dg)]) rfl u5 .nil fun _ _ _ _=>?_
 (refine Zx ?_;with_reducible repeat' first|intro _|apply aI)
 ·have e0:p8 b=0:=by
   have h1:=C0 (p8 b).natAbs
   rw [List.length_eq_zero_iff.1 (by omega:(p7 (p8 b).natAbs).length=0)] at h1
   simp [val] at h1;omega
  have e:I6 a b=(I7,Q6):=by unfold I6;rw [if_pos e0]
  rw [e]
  exact p9 ⟨.ret _ _ u5,.nil⟩
 ·have e0:¬p8 b=0:=fun h=>‹¬((p7 (p8 b).natAbs).length:Int)=0› (by rw [h,Int.natAbs_zero,C5];rfl)
  refine o7 hd ⟨a,oM⟩ (r:=.t [.c (.b (decide (p8 a < 0))),.sl 1 ((p7 (p8 a).natAbs).map dg)]) rfl u5 .nil fun _ _ _ _=>?_
  (refine Zx ?_;intros)
  refine o7 hg ⟨(a,b),ha,hbl⟩ (r:=.c (.s (s3 (Nat.gcd (p8 a).natAbs (p8 b).natAbs)))) rfl u5 .nil fun _ _ _ _=>?_
  have e:I6 a b=(p5 ((if (p8 a < 0)=(p8 b < 0) then 1 else -1) * (((p8 a).natAbs / Nat.gcd (p8 a).natAbs (p8 b).natAbs:Nat):Int)),s3 ((p8 b).natAbs / Nat.gcd (p8 a).natAbs (p8 b).natAbs)):=by unfold I6;rw [if_neg e0]
  rw [e]
  have hgp:0 < Nat.gcd (p8 a).natAbs (p8 b).natAbs:=Nat.gcd_pos_of_pos_right _ oM
  have hgl:=D3 (Nat.gcd_le_right (p8 a).natAbs (by omega:0 < (p8 b).natAbs))
  generalize Nat.gcd (p8 a).natAbs (p8 b).natAbs=g at *
  have hsl:=a3c g
  (refine Zx ?_;intros)
  refine o7 hd ⟨s3 g,oM⟩ (r:=.t [.c (.b (decide ((g:Int) < 0))),.sl 1 ((p7 g).map dg)]) (by show u9.ret (.t [.c (.b (decide (p8 (s3 g) < 0))),.sl 1 ((p7 (p8 (s3 g)).natAbs).map dg)])=_;rw [A7];rfl) u5 .nil fun _ _ _ _=>?_
  (refine Zx ?_;intros)
  have l3:=D3 (Nat.div_le_self (p8 a).natAbs g)
  have l4:=D3 (Nat.div_le_self (p8 b).natAbs g)
  refine o7 ho ⟨((p8 a).natAbs,g),show (p7 (p8 a).natAbs).length < 80000 by omega,show (p7 g).length < 80000 by omega,hgp⟩ (r:=.t [.sl 1 ((p7 ((p8 a).natAbs / g)).map dg),.sl 1 ((p7 ((p8 a).natAbs % g)).map dg)]) rfl u5 .nil fun _ _ _ _=>?_
  (refine Zx ?_;intros)
  refine o7 ho ⟨((p8 b).natAbs,g),show (p7 (p8 b).natAbs).length < 80000 by omega,show (p7 g).length < 80000 by omega,hgp⟩ (r:=.t [.sl 1 ((p7 ((p8 b).natAbs / g)).map dg),.sl 1 ((p7 ((p8 b).natAbs % g)).map dg)]) rfl u5 .nil fun _ _ _ _=>?_
  (refine Zx ?_;intros)
  refine o7 hx ⟨(decide (p8 a < 0) != decide (p8 b < 0),p7 ((p8 a).natAbs / g)),show (p7 _).length < 90000 by omega,B3 _⟩ (r:=.c (.s (p5 ((if (p8 a < 0)=(p8 b < 0) then 1 else -1) * (((p8 a).natAbs / g:Nat):Int))))) ?_ u5 .nil fun _ _ _ _=>?_
  ·show u9.ret (.c (.s (J0 _ (val (p7 _)))))=_
   rw [C0,W4]
   congr 4
   by_cases h1:p8 a < 0 <;> by_cases h2:p8 b < 0 <;> simp [h1,h2]
  ·(refine Zx ?_;intros)
   refine o7 hx ⟨(false,p7 ((p8 b).natAbs / g)),show (p7 _).length < 90000 by omega,B3 _⟩ (r:=.c (.s (s3 ((p8 b).natAbs / g)))) (by show u9.ret (.c (.s (J0 false (val (p7 _)))))=_;rw [C0,c0t]) u5 .nil fun _ _ _ _=>?_
   (refine Zx ?_;intros)
   exact p9 ⟨.ret _ _ u5,.nil⟩
theorem u3.at {gs:List G} {q:Q} {j:Nat} {g:G} (h:u3 gs q 0) (e:gs[j]?=some g):RG g (CU.celQ q j):=by
 have:=h.get e;rw [Nat.zero_add] at this;exact this
def sg (s:Sy):List G:=[.s s.1,.s s.2]
theorem W3 {a b:Sy} (h:sg a=sg b):a=b:=by simp only [sg,List.cons.injEq,G.s.injEq,and_true] at h;exact Prod.ext h.1 h.2
def s8:u4:=[108,105,115,112]
def C8:O:=.sy (s8,[110,105,108])
def tO:O:=.sy (s8,[116])
def sp0 (g:GV):Sp where
 ι:=Unit
 A _:=[]
 B _:=[]
 R _:=.ret g
 B' _:=[]
 inj _ _ _ _ _ _ _ _:=⟨rfl,rfl⟩
def c1z (g:u4→GV):Sp where
 ι:=u4
 A s:=[.c (.s s)]
 B _:=[]
 R s:=.ret (g s)
 B' _:=[]
 inj i j vs bs h k _ _:=by
  obtain ⟨_,_,h1,k1,h,k⟩:=h.two k
  rw [a4l h1 k1];exact ⟨rfl,rfl⟩
def b46 (g:Sy→GV):Sp where
 ι:=Sy
 A s:=[.a (sg s)]
 B _:=[]
 R s:=.ret (g s)
 B' _:=[]
 inj i j vs bs h k _ _:=by
  obtain ⟨_,_,h1,k1,h,k⟩:=h.two k
  rw [W3 (h1.a_inj k1)];exact ⟨rfl,rfl⟩
def spO (g:O→GV):Sp where
 ι:=O
 A o:=[.a o.g]
 B _:=[]
 R o:=.ret (g o)
 B' _:=[]
 inj i j vs bs h k _ _:=by rw [b0u h k];exact ⟨rfl,rfl⟩
def g94 (g:O→O→GV):Sp where
 ι:=O × O
 A o:=[.a o.1.g,.a o.2.g]
 B _:=[]
 R o:=.ret (g o.1 o.2)
 B' _:=[]
 inj i j vs bs h k _ _:=by obtain ⟨e1,e2⟩:=b0v h k;rw [e1,e2];exact ⟨rfl,rfl⟩
theorem a6g:s9 20 (c1z fun s=>.a (sg (s8,s))):=u2 (fun fn h=>d6c h) [] .nil fun U fn hfn s vs bs hv hb=>by
 have hv:t7 [.c (.s s)] vs:=hv
 have hb:s5 [] bs:=hb
 show s4 U _ fun v bs'=>u0 (.ret (.a (sg (s8,s)))) v∧s5 [] bs'
 unfold r20
 (refine Zx ?_;intros)
 exact p9 ⟨.ret _ _ u5,.nil⟩
theorem a2k:s9 18 (b46 fun s=>.a (O.sy s).g):=u2 (fun fn h=>d6b h) [] .nil fun U fn hfn s vs bs hv hb=>by
 have hv:t7 [.a [.s s.1,.s s.2]] vs:=hv
 have hb:s5 [] bs:=hb
 show s4 U _ fun v bs'=>u0 (.ret (.a (O.sy s).g)) v∧s5 [] bs'
 unfold r18
 (refine Zx ?_;intros)
 exact E9 fun e=>by subst e;exact ⟨.ret _ _ (by (exact Zru)),.nil⟩
theorem c33:s9 63 (c1z fun s=>.a (O.tx s).g):=u2 (fun fn h=>f81 h) [] .nil fun U fn hfn s vs bs hv hb=>by
 have hv:t7 [.c (.s s)] vs:=hv
 have hb:s5 [] bs:=hb
 show s4 U _ fun v bs'=>u0 (.ret (.a (O.tx s).g)) v∧s5 [] bs'
 unfold r63
 (refine Zx ?_;intros)
 exact p9 ⟨.ret _ _ u5,.nil⟩
theorem c1q:s9 44 (g94 fun a d=>.a (O.co a d).g):=u2 (fun fn h=>d6l h) [] .nil fun U fn hfn ⟨a,d⟩ vs bs hv hb=>by
 have hv:t7 [.a a.g,.a d.g] vs:=hv
 have hb:s5 [] bs:=hb
 show s4 U _ fun v bs'=>u0 (.ret (.a (O.co a d).g)) v∧s5 [] bs'
 unfold r44
 refine M3 hv fun v l hv1 hv2=>?_
 refine C4 hv1 a.g_len fun qa ha=>?_
 refine M3 hv2 fun v l hv3 hv4=>?_
 refine C4 hv3 d.g_len fun qd hd=>?_
 refine b3e hv4 (a8p hb ?_)
 refine a5t ha fun xa ha=>?_
 refine a5t hd fun xd hd=>?_
 refine p9 ⟨.ret _ _ (.ag _ _ ?_),.nil⟩
 refine .k (.i _ _) (.k (.s _ _ _ rfl rfl) (.k (.s _ _ _ rfl rfl) (.k (.s _ _ _ rfl rfl) (.k (.s _ _ _ rfl rfl) (.k (.s _ _ _ rfl rfl) (.k (.cl _ _ _ _ _ rfl ?_) .nil))))))
 have r1:=Q9 (by rw [O.g_len];decide) ha
 have r2:=Q9 (by rw [O.g_len];decide) hd
 exact .cons _ _ _ _ _ a.g_len r1.1 r1.2 (.cons _ _ _ _ _ d.g_len r2.1 r2.2 (.nil _ _ _))
def O.isCo:O→Bool
 | .co _ _=>true
 | _=>false
def O.isInt:O→Bool
 | .num _ d=>decide (d=1)
 | _=>false
theorem e9f:s9 96 (spO fun a=>.c (.b a.isCo)):=u2 (fun fn h=>d7c h) [] .nil fun U fn hfn a vs bs hv hb=>by
 have hv:t7 [.a a.g] vs:=hv
 have hb:s5 [] bs:=hb
 show s4 U _ fun v bs'=>u0 (.ret (.c (.b a.isCo))) v∧s5 [] bs'
 unfold r96
 rw [a.g_eq] at hv
 cases a <;> simp only [O.k,O.nu,O.de,O.sym,O.txt,O.ps] at hv <;> (refine Zx ?_;with_reducible repeat' first|intro _|apply aI)
 all_goals try (exfalso;omega)
 all_goals first
  | exact p9 ⟨.ret _ _ (H8 rfl),.nil⟩
  | exact E9 fun e=>by subst e;exact ⟨.ret _ _ (N7 (by rw [a5c];rfl)),.nil⟩
theorem a3d:s3 1=Q6:=by unfold s3;rw [if_neg dE,E1 dE,show 1 / 10=0 from rfl,C5];rfl
theorem a9n:s9 193 (spO fun a=>.c (.b a.isInt)):=u2 (fun fn h=>f09 h) [] .nil fun U fn hfn a vs bs hv hb=>by
 have hv:t7 [.a a.g] vs:=hv
 have hb:s5 [] bs:=hb
 show s4 U _ fun v bs'=>u0 (.ret (.c (.b a.isInt))) v∧s5 [] bs'
 unfold e2e
 rw [a.g_eq] at hv
 cases a with
 | num n d =>
  simp only [O.k,O.nu,O.de,O.sym,O.txt,O.ps] at hv
  (refine Zx ?_;with_reducible repeat' first|intro _|apply aI)
  all_goals try (exfalso;omega)
  refine E9 fun e=>?_
  subst e
  refine ⟨.ret _ _ (N7 ?_),.nil⟩
  rw [b74]
  have e1:o8 1 49=s3 1:=by rw [a3d];rfl
  rw [e1]
  show decide (d=1)=_
  by_cases h:d=1
  ·rw [h];simp
  ·have:¬s3 d=s3 1:=fun k=>h (a3b k)
   simp [h,this]
 | _ =>
  simp only [O.k,O.nu,O.de,O.sym,O.txt,O.ps] at hv
  (refine Zx ?_;with_reducible repeat' first|intro _|apply aI)
  all_goals try (exfalso;omega)
  all_goals exact p9 ⟨.ret _ _ (H8 rfl),.nil⟩
theorem b8g:s9 35 (sp0 (.a C8.g)):=u2 (fun fn h=>d6j h) [(20,_),(18,_)] (.cons a6g (.cons a2k .nil)) fun U fn hfn _ vs bs hv hb=>by
 have hl:=hfn 20 _ rfl
 have hs:=hfn 18 _ rfl
 have hv:t7 [] vs:=hv
 have hb:s5 [] bs:=hb
 show s4 U _ fun v bs'=>u0 (.ret (.a C8.g)) v∧s5 [] bs'
 unfold r35
 (refine Zx ?_;intros)
 refine o7 hl ([110,105,108]:u4) (r:=.a (sg (s8,[110,105,108]))) rfl u5 .nil fun _ _ _ _=>?_
 (refine Zx ?_;intros)
 refine o7 hs (s8,([110,105,108]:u4)) (r:=.a C8.g) rfl u5 .nil fun _ _ _ _=>?_
 (refine Zx ?_;intros)
 exact p9 ⟨.ret _ _ u5,.nil⟩
theorem kT:s9 25 (sp0 (.a tO.g)):=u2 (fun fn h=>d6f h) [(20,_),(18,_)] (.cons a6g (.cons a2k .nil)) fun U fn hfn _ vs bs hv hb=>by
 have hl:=hfn 20 _ rfl
 have hs:=hfn 18 _ rfl
 have hv:t7 [] vs:=hv
 have hb:s5 [] bs:=hb
 show s4 U _ fun v bs'=>u0 (.ret (.a tO.g)) v∧s5 [] bs'
 unfold r25
 (refine Zx ?_;intros)
 refine o7 hl ([116]:u4) (r:=.a (sg (s8,[116]))) rfl u5 .nil fun _ _ _ _=>?_
 (refine Zx ?_;intros)
 refine o7 hs (s8,([116]:u4)) (r:=.a tO.g) rfl u5 .nil fun _ _ _ _=>?_
 (refine Zx ?_;intros)
 exact p9 ⟨.ret _ _ u5,.nil⟩
def G0 (b:Bool):O:=if b then tO else C8
def spB (g:Bool→GV):Sp where
 ι:=Bool
 A s:=[.c (.b s)]
 B _:=[]
 R s:=.ret (g s)
 B' _:=[]
 inj i j vs bs h k _ _:=by
  obtain ⟨_,_,h1,k1,h,k⟩:=h.two k
  rw [e5b h1 k1];exact ⟨rfl,rfl⟩
theorem d5p:s9 192 (spB fun b=>.a (G0 b).g):=u2 (fun fn h=>f08 h) [(25,_),(35,_)] (.cons kT (.cons b8g .nil)) fun U fn hfn b vs bs hv hb=>by
 have ht:=hfn 25 _ rfl
 have hn:=hfn 35 _ rfl
 have hv:t7 [.c (.b b)] vs:=hv
 have hb:s5 [] bs:=hb
 show s4 U _ fun v bs'=>u0 (.ret (.a (G0 b).g)) v∧s5 [] bs'
 unfold e2d
 (refine Zx ?_;with_reducible repeat' first|intro _|apply aI)
 ·have e:b=true:=‹_›
  subst e
  refine o7 ht () (r:=.a tO.g) rfl .nil .nil fun _ _ _ _=>?_
  (refine Zx ?_;intros)
  exact p9 ⟨.ret _ _ u5,.nil⟩
 ·have e:b=false:=Bool.eq_false_iff.2 ‹¬b=true›
  subst e
  refine o7 hn () (r:=.a C8.g) rfl .nil .nil fun _ _ _ _=>?_
  (refine Zx ?_;intros)
  exact p9 ⟨.ret _ _ u5,.nil⟩
theorem f6e:s9 97 (spO fun a=>.c (.b (O.eqb a C8))):=u2 (fun fn h=>d7d h) [(35,_),(15,_)] (.cons b8g (.cons c3x .nil)) fun U fn hfn a vs bs hv hb=>by
 have hn:=hfn 35 _ rfl
 have he:=hfn 15 _ rfl
 have hv:t7 [.a a.g] vs:=hv
 have hb:s5 [] bs:=hb
 show s4 U _ fun v bs'=>u0 (.ret (.c (.b (O.eqb a C8)))) v∧s5 [] bs'
 unfold r97
 refine M3 hv fun v l hv1 hv2=>?_
 refine C4 hv1 a.g_len fun qa ha=>?_
 (refine Zx ?_;intros)
 refine o7 hn () (r:=.a C8.g) rfl .nil .nil fun _ _ _ _=>?_
 (refine Zx ?_;intros)
 refine o7 he (a,C8) (r:=.c (.b (O.eqb a C8))) rfl u5 .nil fun _ _ _ _=>?_
 (refine Zx ?_;intros)
 exact p9 ⟨.ret _ _ u5,.nil⟩
theorem a0p {s:u4} {i:Nat} (h:i < s.length) (hb:a4y (bt s i)=true):J8 s i=J8 s (i+1):=by rw [J8,if_pos h,if_pos hb]
theorem c76 {s:u4} {i:Nat} (h:i < s.length) (hb:¬a4y (bt s i)=true):J8 s i=false:=by rw [J8,if_pos h,if_neg hb]
theorem b23 {s:u4} {i:Nat} (h:¬i < s.length):J8 s i=true:=by rw [J8,if_neg h]
theorem d1x {c:Int}:a4y c=true↔(97≤c∧c≤122)∨(48≤c∧c≤57)∨c=45:=by simp [a4y]
theorem b5e {s:u4} (h:¬(1≤s.length∧s.length≤40∧97≤bt s 0∧bt s 0≤122)):F6 s=false:=by unfold F6;rw [decide_eq_false h];rfl
theorem g5k {s:u4} (h:((s.getD 0 0).toNat:Int) < 97):F6 s=false:=b5e (fun k=>by have e:bt s 0=((s.getD 0 0).toNat:Int):=rfl;omega)
theorem g5l {s:u4} (h:122 < ((s.getD 0 0).toNat:Int)):F6 s=false:=b5e (fun k=>by have e:bt s 0=((s.getD 0 0).toNat:Int):=rfl;omega)
theorem e0q:s9 176 (sp1 fun s=>.ret (.c (.b (F6 s)))):=u2 (fun fn h=>c85 h) [] .nil fun U fn hfn ⟨s,hs⟩ vs bs hv hb=>by
 have hv:t7 [.c (.s s)] vs:=hv
 have hb:s5 [] bs:=hb
 show s4 U _ fun v bs'=>u0 (.ret (.c (.b (F6 s)))) v∧s5 [] bs'
 have hbt:bt s 0=((s.getD 0 0).toNat:Int):=rfl
 unfold d20
 (refine Zx ?_;with_reducible repeat' first|intro _|apply aI)
 all_goals try (exfalso;omega)
 all_goals first
  | exact p9 ⟨.ret _ _ (H8 (b5e oM)),.nil⟩
  | exact p9 ⟨.ret _ _ (H8 (g5k ‹_›)),.nil⟩
  | exact p9 ⟨.ret _ _ (H8 (g5l ‹_›)),.nil⟩
  | skip
 have g1:=‹¬((s.getD 0 0).toNat:Int) < 97›
 have g2:=‹¬122 < ((s.getD 0 0).toNat:Int)›
 have e:F6 s=J8 s 0:=by unfold F6;rw [decide_eq_true oM];rfl
 rw [e]
 refine F9 (fun (i:Nat) vs bs=>vs=[.str s.length (C6 s),.int .i64 i]∧bs=[]∧i≤s.length∧J8 s i=J8 s 0) (fun i=>s.length - i) 0 ⟨rfl,rfl,oM,rfl⟩ (by simp only [C9];omega) ?_
 rintro self i vs bs ⟨rfl,rfl,hi,he⟩ ih
 have hbi:bt s i=((s.getD i 0).toNat:Int):=rfl
 (refine Zx ?_;with_reducible repeat' first|intro _|apply aI)
 all_goals try (exfalso;omega)
 all_goals first
  | exact p9 ⟨.ret _ _ (H8 (he.symm.trans (b23 oM))),.nil⟩
  | exact p9 ⟨.ret _ _ (H8 (he.symm.trans (c76 oM (fun h=>by have:=d1x.1 h;omega)))),.nil⟩
  | exact ih (i+1) _ _ ⟨rfl,rfl,oM,(a0p (i:=i) oM (d1x.2 oM)).symm.trans he⟩ oM
def named (s:Sy):Bool:=F6 s.1 && decide (1≤s.2.length∧s.2.length≤40)
def c11 (g:Sy→GV):Sp where
 ι:={ s:Sy // s.1.length < 90000∧s.2.length < 90000 }
 A s:=[.a (sg s.1)]
 B _:=[]
 R s:=.ret (g s.1)
 B' _:=[]
 inj i j vs bs h k _ _:=by
  obtain ⟨_,_,h1,k1,h,k⟩:=h.two k
  rw [W3 (h1.a_inj k1)];exact ⟨rfl,rfl⟩
theorem c7t:s9 109 (c11 fun s=>.c (.b (named s))):=u2 (fun fn h=>c8b h) [(176,_)] (.cons e0q .nil) fun U fn hfn ⟨s,h1,h2⟩ vs bs hv hb=>by
 have hp:=hfn 176 _ rfl
 have hv:t7 [.a [.s s.1,.s s.2]] vs:=hv
 have hb:s5 [] bs:=hb
 show s4 U _ fun v bs'=>u0 (.ret (.c (.b (named s)))) v∧s5 [] bs'
 unfold d16
 (refine Zx ?_;intros)
 refine o7 hp ⟨s.1,h1⟩ (r:=.c (.b (F6 s.1))) rfl u5 .nil fun _ _ _ _=>?_
 (refine Zx ?_;with_reducible repeat' first|intro _|apply aI)
 ·refine E9 fun e=>?_
  subst e
  refine ⟨.ret _ _ (N7 ?_),.nil⟩
  rw [c2l]
  unfold named
  rw [‹F6 s.1=true›,Bool.true_and]
  apply decide_eq_decide.2
  omega
 ·exact p9 ⟨.ret _ _ (H8 (by unfold named;rw [decide_eq_false oM,Bool.and_false])),.nil⟩
 ·exact p9 ⟨.ret _ _ (H8 (by unfold named;rw [Bool.eq_false_iff.2 ‹¬F6 s.1=true›];rfl)),.nil⟩
theorem R0 {k:IntKind} {x y:Int} (h:y=x):RV (.c (.i k x)) (.int k y):=R6 h.symm
def c91:Sp where
 ι:={ p:O × Nat // 1≤p.2∧p.2≤100000 }
 A p:=[.a p.1.1.g,.c (.i .i64 p.1.2)]
 B _:=[]
 R p:=.ret (.c (.i .i64 (min p.1.1.size p.1.2:Nat)))
 B' _:=[]
 inj i j vs bs h k _ _:=by
  obtain ⟨_,_,h1,k1,h,k⟩:=h.two k
  obtain ⟨_,_,h2,k2,h,k⟩:=h.two k
  have e1:=O.g_inj (h1.a_inj k1)
  have e2:=d1b h2 k2
  have e2:i.1.2=j.1.2:=oM
  rw [e1,e2];exact ⟨rfl,rfl⟩
theorem f6a:s9 142 c91:=J4 (fun p=>p.1.1.size) fun n ih=>u2 (fun fn h=>c82 h) [(142,c91.lt _ n)] (.cons ih .nil) fun U fn hfn ⟨⟨(a,l),hl1,hl2⟩,hn⟩ vs bs hv hb=>by
 have hr:=hfn 142 _ rfl
 have hl1:1≤l:=hl1
 have hl2:l≤100000:=hl2
 have hv:t7 [.a a.g,.c (.i .i64 l)] vs:=hv
 have hb:s5 [] bs:=hb
 have hn:a.size < n+1:=hn
 show s4 U _ fun v bs'=>u0 (.ret (.c (.i .i64 (min a.size l:Nat)))) v∧s5 [] bs'
 unfold d2x
 rw [a.g_eq] at hv
 cases a with
 | co a d =>
  simp only [O.k,O.nu,O.de,O.sym,O.txt,O.ps] at hv
  have hs:(O.co a d).size=1+a.size+d.size:=rfl
  rw [hs] at hn ⊢
  have hpa:=a.size_pos
  have hpd:=d.size_pos
  (refine Zx ?_;with_reducible repeat' first|intro _|apply aI)
  all_goals try (exfalso;simp at * <;> omega)
  ·exact p9 ⟨.ret _ _ (R6 oM),.nil⟩
  ·refine o7 hr ⟨⟨(a,l - 1),show 1≤l - 1 by omega,show l - 1≤100000 by omega⟩,show a.size < n by omega⟩ (r:=.c (.i .i64 (min a.size (l - 1):Nat))) rfl (.k u5 (.k (R0 (by simp only;omega)) .nil)) .nil fun _ _ _ _=>?_
   (refine Zx ?_;with_reducible repeat' first|intro _|apply aI)
   ·exact p9 ⟨.ret _ _ (R6 oM),.nil⟩
   ·refine o7 hr ⟨⟨(d,l - (1+a.size)),show 1≤l - (1+a.size) by omega,show l - (1+a.size)≤100000 by omega⟩,show d.size < n by omega⟩ (r:=.c (.i .i64 (min d.size (l - (1+a.size)):Nat))) rfl (.k u5 (.k (R0 (by simp only;omega)) .nil)) .nil fun _ _ _ _=>?_
    (refine Zx ?_;intros)
    exact p9 ⟨.ret _ _ (R6 oM),.nil⟩
 | _ =>
  simp only [O.k,O.nu,O.de,O.sym,O.txt,O.ps] at hv
  (refine Zx ?_;with_reducible repeat' first|intro _|apply aI)
  all_goals try (exfalso;simp at * <;> omega)
  all_goals first
   | exact absurd ‹((([]:List O).length:Nat):Int)=2› dE
   | exact p9 ⟨.ret _ _ (R6 (by simp only [O.size];omega)),.nil⟩
theorem f6f:s9 95 (spO fun a=>.c (.i .i64 (min a.size 3001:Nat))):=u2 (fun fn h=>d7b h) [(142,_)] (.cons f6a .nil) fun U fn hfn a vs bs hv hb=>by
 have hr:=hfn 142 _ rfl
 have hv:t7 [.a a.g] vs:=hv
 have hb:s5 [] bs:=hb
 show s4 U _ fun v bs'=>u0 (.ret (.c (.i .i64 (min a.size 3001:Nat)))) v∧s5 [] bs'
 unfold r95
 refine M3 hv fun v l hv1 hv2=>?_
 refine C4 hv1 a.g_len fun qa ha=>?_
 (refine Zx ?_;intros)
 refine o7 hr ⟨(a,3001),show 1≤3001 by decide,show 3001≤100000 by decide⟩ (r:=.c (.i .i64 (min a.size 3001:Nat))) rfl u5 .nil fun _ _ _ _=>?_
 (refine Zx ?_;intros)
 exact p9 ⟨.ret _ _ u5,.nil⟩
section
variable {U:B0} {P:H4→List Bx→Prop}
theorem f2v {a b:Int} {x y:Om} (h:a=b) (k:s4 U x P):s4 U (U.cnd (U.iEq a b) x y) P:=a93 a1a (fun _=>k) (fun n=>absurd h n)
theorem f2u {a b:Int} {x y:Om} (h:¬a=b) (k:s4 U y P):s4 U (U.cnd (U.iEq a b) x y) P:=a93 a1a (fun n=>absurd n h) (fun _=>k)
theorem G7 {s:List UInt8} {l c:Nat} {x y:Om} (h:s=o8 l c) (k:s4 U x P):s4 U (U.cnd (U.sEq s.length (C6 s) l c) x y) P:=a93 a1c (fun _=>k) (fun n=>absurd h n)
theorem d7u {s:List UInt8} {l c:Nat} {b:Bool} {x y:Om} (h:s=o8 l c) (k:s4 U (U.cnd b x y) P):s4 U (U.cnd (U.band (U.sEq s.length (C6 s) l c) b) x y) P:=fun e=>by
 have:=k e
 have e1:U.sEq s.length (C6 s) l c=true:=by subst e;rw [b74];exact decide_eq_true h
 rw [e1]
 subst e
 exact this
end
theorem Zz {p q:Prop} (k:q) (h:Tr p q:=by ((repeat' (first | (with_reducible apply Tr.all) | (with_reducible intro _) | (apply Tr.b;(case f=>first | exact f2v dE | exact f2u dE | exact G7 (by rfl) | exact d7u (by rfl) | exact sCndBandT | exact b3c | exact M3 aS | exact b8x | exact b3e aS | exact b3d | exact a8p aS | exact a8n | exact a8o aS | exact sP | exact sPR aS | exact sIV | exact sI aS | exact sBV | exact sBK | exact sB aS | exact sSV | exact sS aS | exact sA | exact C4 aS (by rfl) | exact b44 (by rfl) | exact b8y (by rfl) | exact b69 aS (by rfl) | exact b8z aS (by rfl) | exact a94 aS | exact sSl aS | exact sTu aS | exact sBo | exact a32 aS (by rfl) | exact sBc | exact c5c aS | exact sBt | exact sBs | exact sBr | exact a5t aS | exact b3g aS | exact Y1 aS (by rfl) | exact c5d aS (by rfl) | exact sCI' aS (by rfl) | exact sCB' aS (by rfl) | exact sCS aS | exact sCI aS | exact sCB aS | exact b12 (by first | omega | (simp only [List.length_map] at *;omega)) | exact b3f (by first | omega | (simp only [List.length_map] at *;omega)) | exact b7b | exact a8q | exact a8u | exact b7a | exact b13 | exact b11 | exact sfSubN | exact a8s | exact a8r | exact sfB | exact sJn | exact b68 | exact b66 | exact b67 | exact E5 aS (by (first | exact v6 O.g_len | exact v6 (fun _=>rfl))) | exact b43 aS (by (first | exact v6 O.g_len | exact v6 (fun _=>rfl))) | exact b7c (by first | omega | (simp only [List.length_map] at *;omega)) | exact b7d (by first | omega | (simp only [List.length_map] at *;omega)) | exact c5f aS (by first | assumption | omega | (simp only [List.length_map] at *;omega)) | exact sfT aS (by rfl))) | (apply Tr.chk;(case ht=>(repeat' (first | exact trT | exact trF | apply a0f | apply V7 | exact a0e | exact Y2 | exact a1b | exact a0l | exact a1a | exact U6 | exact U7 | exact U5 | exact U4 | exact V9 | exact a0g | exact a2t | exact a1c | exact trS | exact trV)));(case hp=>first | omega | (simp only [List.length_map] at *;omega))) | (apply Tr.cnd;(case ht=>(repeat' (first | exact trT | exact trF | apply a0f | apply V7 | exact a0e | exact Y2 | exact a1b | exact a0l | exact a1a | exact U6 | exact U7 | exact U5 | exact U4 | exact V9 | exact a0g | exact a2t | exact a1c | exact trS | exact trV))))));all_goals exact Tr.refl)):p:=h.go k
def O.sm:O→Prop
 | .num n d=>(p5 n).length < 9000∧(s3 d).length < 9000
 | .sy s=>s.1.length < 9000∧s.2.length < 9000
 | .tx s=>s.length < 9000
 | .co a d=>a.sm∧d.sm
 | .no=>True
def O.fm:O→Bool
 | .num n d=>decide (I6 (p5 n) (s3 d)=(p5 n,s3 d)∧J6 (p5 n)≤100∧J6 (s3 d)≤100)
 | .sy s=>named s
 | .tx s=>decide (s.length≤200)
 | .co a d=>a.fm && d.fm
 | .no=>false
def c1y (g:O→GV):Sp where
 ι:={ o:O // o.sm }
 A o:=[.a o.1.g]
 B _:=[]
 R o:=.ret (g o.1)
 B' _:=[]
 inj i j vs bs h k _ _:=by rw [b0u h k];exact ⟨rfl,rfl⟩
theorem e9d:s9 203 (c1y fun a=>.c (.b a.fm)):=J4 (fun p=>p.1.size) fun n ih=>u2 (fun fn h=>c9e h) [(203,(c1y fun a=>.c (.b a.fm)).lt _ n),(93,_),(174,_),(109,_)] (.cons ih (.cons c7v (.cons e0p (.cons c7t .nil)))) fun U fn hfn ⟨⟨a,hsm⟩,hn⟩ vs bs hv hb=>by
 have hr:=hfn 203 _ rfl
 have hred:=hfn 93 _ rfl
 have hdg:=hfn 174 _ rfl
 have hnm:=hfn 109 _ rfl
 have hv:t7 [.a a.g] vs:=hv
 have hb:s5 [] bs:=hb
 have hn:a.size < n+1:=hn
 show s4 U _ fun v bs'=>u0 (.ret (.c (.b a.fm))) v∧s5 [] bs'
 unfold d3a
 rw [a.g_eq] at hv
 cases a with
 | num m d =>
  simp only [O.k,O.nu,O.de,O.sym,O.txt,O.ps] at hv
  have hs1:(p5 m).length < 9000:=hsm.1
  have hs2:(s3 d).length < 9000:=hsm.2
  (refine Zz ?_;intros)
  refine o7 hred ⟨(p5 m,s3 d),hs1,hs2⟩ (r:=.t [.c (.s (I6 (p5 m) (s3 d)).1),.c (.s (I6 (p5 m) (s3 d)).2)]) rfl u5 .nil fun _ _ _ _=>?_
  have hfm:(O.num m d).fm=decide (I6 (p5 m) (s3 d)=(p5 m,s3 d)∧J6 (p5 m)≤100∧J6 (s3 d)≤100):=rfl
  rw [hfm]
  generalize I6 (p5 m) (s3 d)=q at *
  obtain ⟨q1,q2⟩:=q
  simp only at *
  (refine Zz ?_;with_reducible repeat' first|intro _|apply aI)
  ·have e1:=‹q1=p5 m›
   have e2:=‹q2=s3 d›
   subst e1 e2
   refine o7 hdg ⟨p5 m,oM⟩ (r:=.c (.i .i64 (J6 (p5 m)))) rfl u5 .nil fun _ _ _ _=>?_
   (refine Zz ?_;with_reducible repeat' first|intro _|apply aI)
   ·refine o7 hdg ⟨s3 d,oM⟩ (r:=.c (.i .i64 (J6 (s3 d)))) rfl u5 .nil fun _ _ _ _=>?_
    (refine Zz ?_;intros)
    refine E9 fun e=>?_
    subst e
    refine ⟨.ret _ _ (N7 ?_),.nil⟩
    rw [c2l]
    apply decide_eq_decide.2
    constructor
    ·intro h;have:=h.2.2;omega
    ·intro h;exact ⟨rfl,oM,oM⟩
   ·exact p9 ⟨.ret _ _ (H8 (decide_eq_false fun h=>by have:=h.2.1;omega)),.nil⟩
  all_goals exact p9 ⟨.ret _ _ (H8 (decide_eq_false fun h=>by injection h.1 with k1 k2;contradiction)),.nil⟩
 | sy s =>
  simp only [O.k,O.nu,O.de,O.sym,O.txt,O.ps] at hv
  have hs1:s.1.length < 9000:=hsm.1
  have hs2:s.2.length < 9000:=hsm.2
  (refine Zz ?_;intros)
  have hc:=(‹u3 (List.drop 3 _) _ 0›).take 2
  refine o7 hnm ⟨s,oM,oM⟩ (r:=.c (.b (named s))) rfl (.k (.a _ _ _ rfl (by exact hc)) .nil) .nil fun _ _ _ _=>?_
  have hfm:(O.sy s).fm=named s:=rfl
  rw [hfm]
  (refine Zz ?_;with_reducible repeat' first|intro _|apply aI)
  ·refine E9 fun e=>?_
   subst e
   refine ⟨.ret _ _ (N7 ?_),.nil⟩
   rw [a5c,‹named s=true›]
   rfl
  ·exact p9 ⟨.ret _ _ (H8 (Bool.eq_false_iff.2 ‹¬named s=true›)),.nil⟩
 | tx s =>
  simp only [O.k,O.nu,O.de,O.sym,O.txt,O.ps] at hv
  have hfm:(O.tx s).fm=decide (s.length≤200):=rfl
  rw [hfm]
  (refine Zz ?_;with_reducible repeat' first|intro _|apply aI)
  ·refine E9 fun e=>?_
   subst e
   refine ⟨.ret _ _ (N7 ?_),.nil⟩
   rw [a5c,decide_eq_true (by omega:s.length≤200)]
   rfl
  ·exact p9 ⟨.ret _ _ (H8 (decide_eq_false oM)),.nil⟩
 | co a d =>
  simp only [O.k,O.nu,O.de,O.sym,O.txt,O.ps] at hv
  have hfm:(O.co a d).fm=(a.fm && d.fm):=rfl
  have hsz:(O.co a d).size=1+a.size+d.size:=rfl
  rw [hsz] at hn
  rw [hfm]
  (refine Zz ?_;with_reducible repeat' first|intro _|apply aI)
  ·refine o7 hr ⟨⟨a,hsm.1⟩,show a.size < n by omega⟩ (r:=.c (.b a.fm)) rfl u5 .nil fun _ _ _ _=>?_
   (refine Zz ?_;with_reducible repeat' first|intro _|apply aI)
   ·refine o7 hr ⟨⟨d,hsm.2⟩,show d.size < n by omega⟩ (r:=.c (.b d.fm)) rfl u5 .nil fun _ _ _ _=>?_
    (refine Zz ?_;intros)
    rw [‹a.fm=true›,Bool.true_and]
    exact p9 ⟨.ret _ _ u5,.nil⟩
   ·exact p9 ⟨.ret _ _ (H8 (by rw [Bool.eq_false_iff.2 ‹¬a.fm=true›];rfl)),.nil⟩
  ·exact absurd rfl ‹¬(([a,d].length:Nat):Int)=2›
 | no =>
  simp only [O.k,O.nu,O.de,O.sym,O.txt,O.ps] at hv
  (refine Zz ?_;intros)
  exact p9 ⟨.ret _ _ (H8 rfl),.nil⟩
theorem e9o:s9 136 (c1y fun a=>.c (.b (decide (a.size≤3000) && a.fm))):=u2 (fun fn h=>c8x h) [(95,_),(203,_)] (.cons f6f (.cons e9d .nil)) fun U fn hfn ⟨a,hsm⟩ vs bs hv hb=>by
 have hn:=hfn 95 _ rfl
 have hf:=hfn 203 _ rfl
 have hv:t7 [.a a.g] vs:=hv
 have hb:s5 [] bs:=hb
 show s4 U _ fun v bs'=>u0 (.ret (.c (.b (decide (a.size≤3000) && a.fm)))) v∧s5 [] bs'
 unfold d2s
 refine M3 hv fun v l hv1 hv2=>?_
 refine C4 hv1 a.g_len fun qa ha=>?_
 (refine Zz ?_;intros)
 refine o7 hn a (r:=.c (.i .i64 (min a.size 3001:Nat))) rfl u5 .nil fun _ _ _ _=>?_
 (refine Zz ?_;with_reducible repeat' first|intro _|apply aI)
 ·refine o7 hf ⟨a,hsm⟩ (r:=.c (.b a.fm)) rfl u5 .nil fun _ _ _ _=>?_
  (refine Zz ?_;intros)
  rw [decide_eq_true (by omega:a.size≤3000),Bool.true_and]
  exact p9 ⟨.ret _ _ u5,.nil⟩
 ·exact p9 ⟨.ret _ _ (H8 (by rw [decide_eq_false (by omega:¬a.size≤3000)];rfl)),.nil⟩
def u7:List O→O
 | []=>C8
 | a :: l=>.co a (u7 l)
def g95 (g:List O→GV):Sp where
 ι:={ l:List O // l.length < 90000 }
 A l:=[.sl 7 (l.1.map O.g)]
 B _:=[]
 R l:=.ret (g l.1)
 B' _:=[]
 inj i j vs bs h k _ _:=by
  obtain ⟨_,_,h1,k1,h,k⟩:=h.two k
  rw [a05 (h1.sl_inj k1)];exact ⟨rfl,rfl⟩
theorem c1r:s9 17 (g95 fun l=>.a (u7 l).g):=u2 (fun fn h=>d6a h) [(35,_),(44,_)] (.cons b8g (.cons c1q .nil)) fun U fn hfn ⟨l,hl⟩ vs bs hv hb=>by
 have hn:=hfn 35 _ rfl
 have hc:=hfn 44 _ rfl
 have hl:l.length < 90000:=hl
 have hv:t7 [.sl 7 (l.map O.g)] vs:=hv
 have hb:s5 [] bs:=hb
 show s4 U _ fun v bs'=>u0 (.ret (.a (u7 l).g)) v∧s5 [] bs'
 unfold r17
 (refine Zz ?_;intros)
 refine o7 hn () (r:=.a C8.g) rfl .nil .nil fun _ _ _ _=>?_
 (refine Zz ?_;intros)
 refine F9 (fun (m:Nat) vs bs=>∃ (t:s6 Q) (off:Nat) (i:Int) (q:Q),vs=[.slice t 7 off l.length .no,.ptr 0 0,.ptr 1 0,.int .i64 i]∧bs=[.cells [.int .i64 0,.str 0 0,.str 0 0,.str 0 0,.str 0 0,.str 0 0,.slice .nil 0 0 0 .exact],.opa q 7]∧i=m - 1∧m≤l.length∧u6 7 (l.map O.g) t off∧u3 (u7 (l.drop m)).g q 0) (fun m=>m) l.length
  ⟨_,_,_,_,rfl,rfl,rfl,oM,aS,by rw [List.drop_length];assumption⟩ (by simp only [C9];omega) ?_
 rintro self m _ _ ⟨t,off,i,q,rfl,rfl,rfl,hm,ht,hq⟩ ih
 (refine Zz ?_;with_reducible repeat' first|intro _|apply aI)
 ·refine e33 (y:=l[m - 1]) aS (by rw [show ((m:Int) - 1).toNat=m - 1 by omega];exact List.getElem?_eq_getElem oM) fun _ _=>?_
  (refine Zz ?_;intros)
  refine o7 hc (l[m - 1],u7 (l.drop m)) (r:=.a (O.co l[m - 1] (u7 (l.drop m))).g) rfl u5 .nil fun _ _ _ _=>?_
  (refine Zz ?_;intros)
  refine ih (m - 1) _ _ ⟨_,_,_,_,rfl,rfl,oM,oM,ht,?_⟩ oM
  rw [List.drop_eq_getElem_cons (by omega:m - 1 < l.length),show m - 1+1=m by omega]
  assumption
 ·have em:m=0:=oM
  subst em
  rw [List.drop_zero] at *
  exact p9 ⟨.ret _ _ u5,.nil⟩
def qn (x y:Int):Int × Nat:=if y=0 then (0,1) else ((if (x < 0)=(y < 0) then 1 else -1) * ((x.natAbs / Nat.gcd x.natAbs y.natAbs:Nat):Int),y.natAbs / Nat.gcd x.natAbs y.natAbs)
theorem a4j (a b:u4):I6 a b=(p5 (qn (p8 a) (p8 b)).1,s3 (qn (p8 a) (p8 b)).2):=by
 unfold I6 qn
 split
 ·rw [a3d];rfl
 ·rfl
def L1 (q:Int × Nat):O:=.num q.1 q.2
theorem Y8:s9 50 (sp2 fun a b=>.ret (.a (L1 (qn (p8 a) (p8 b))).g)):=u2 (fun fn h=>d6q h) [(93,_)] (.cons c7v .nil) fun U fn hfn ⟨(a,b),ha,hbl⟩ vs bs hv hb=>by
 have hr:=hfn 93 _ rfl
 have ha:a.length < 9000:=ha
 have hbl:b.length < 9000:=hbl
 have hv:t7 [.c (.s a),.c (.s b)] vs:=hv
 have hb:s5 [] bs:=hb
 show s4 U _ fun v bs'=>u0 (.ret (.a (L1 (qn (p8 a) (p8 b))).g)) v∧s5 [] bs'
 unfold r50
 (refine Zz ?_;intros)
 refine o7 hr ⟨(a,b),ha,hbl⟩ (r:=.t [.c (.s (p5 (qn (p8 a) (p8 b)).1)),.c (.s (s3 (qn (p8 a) (p8 b)).2))]) (by show u9.ret (.t [.c (.s (I6 a b).1),.c (.s (I6 a b).2)])=_;rw [a4j]) u5 .nil fun _ _ _ _=>?_
 (refine Zz ?_;intros)
 exact p9 ⟨.ret _ _ u5,.nil⟩
def O.rk:O→Int
 | .num _ _=>1
 | .tx _=>2
 | .sy _=>3
 | _=>4
theorem g4d:s9 270 (spO fun a=>.c (.i .i64 a.rk)):=u2 (fun fn h=>f2i h) [] .nil fun U fn hfn a vs bs hv hb=>by
 have hv:t7 [.a a.g] vs:=hv
 have hb:s5 [] bs:=hb
 show s4 U _ fun v bs'=>u0 (.ret (.c (.i .i64 a.rk))) v∧s5 [] bs'
 unfold e3j
 rw [a.g_eq] at hv
 cases a <;> simp only [O.k,O.nu,O.de,O.sym,O.txt,O.ps] at hv <;> (refine Zz ?_;with_reducible repeat' first|intro _|apply aI)
 all_goals exact p9 ⟨.ret _ _ (R6 rfl),.nil⟩
def g93 (ok:Int→Nat→Int→Nat→Prop) (g:Int→Nat→Int→Nat→GV):Sp where
 ι:={ p:(Int × Nat) × (Int × Nat) // (p5 p.1.1).length < 4000∧(s3 p.1.2).length < 4000∧(p5 p.2.1).length < 4000∧(s3 p.2.2).length < 4000∧ok p.1.1 p.1.2 p.2.1 p.2.2 }
 A p:=[.a (O.num p.1.1.1 p.1.1.2).g,.a (O.num p.1.2.1 p.1.2.2).g]
 B _:=[]
 R p:=.ret (g p.1.1.1 p.1.1.2 p.1.2.1 p.1.2.2)
 B' _:=[]
 inj i j vs bs h k _ _:=by
  obtain ⟨e1,e2⟩:=b0v h k
  injection e1 with a1 a2
  injection e2 with a3 a4
  rw [a1,a2,a3,a4];exact ⟨rfl,rfl⟩
theorem P7 (n:Int):(p5 n).length≤(p7 n.natAbs).length+2:=by
 unfold p5
 have:=a3c n.natAbs
 split <;> simp <;> omega
theorem a3y (n:Nat):(p7 n).length≤(s3 n).length:=by
 by_cases h:n=0
 ·subst h;rw [C5];simp
 ·rw [a12 n h];exact Nat.le_refl _
theorem N2 (n:Int):(p7 n.natAbs).length≤(p5 n).length:=by
 have:=a3y n.natAbs
 unfold p5
 split <;> simp <;> omega
theorem a4x (n:Int) (e:Nat):(p5 (n * e)).length≤(p5 n).length+(s3 e).length+2:=by
 have h1:=P7 (n * e)
 have h2:=N0 n.natAbs e
 have h3:=N2 n
 have h4:=a3y e
 rw [Int.natAbs_mul,Int.natAbs_natCast] at h1
 omega
theorem d5m:s9 242 (g93 (fun _ _ _ _=>True) fun n d m e=>.c (.i .i64 (a3w (n * e) (m * d)))):=u2 (fun fn h=>f1y h) [(270,_),(241,_),(271,_)] (.cons g4d (.cons b1j (.cons e0i .nil))) fun U fn hfn ⟨((n,d),(m,e)),h1,h2,h3,h4,_⟩ vs bs hv hb=>by
 have hr:=hfn 270 _ rfl
 have hm:=hfn 241 _ rfl
 have hc:=hfn 271 _ rfl
 have h1:(p5 n).length < 4000:=h1
 have h2:(s3 d).length < 4000:=h2
 have h3:(p5 m).length < 4000:=h3
 have h4:(s3 e).length < 4000:=h4
 have hv:t7 [.a (O.num n d).g,.a (O.num m e).g] vs:=hv
 have hb:s5 [] bs:=hb
 show s4 U _ fun v bs'=>u0 (.ret (.c (.i .i64 (a3w (n * e) (m * d))))) v∧s5 [] bs'
 unfold e23
 simp only [O.g] at hv
 (refine Zz ?_;intros)
 refine o7 hr (O.num n d) (r:=.c (.i .i64 1)) rfl u5 .nil fun _ _ _ _=>?_
 (refine Zz ?_;intros)
 refine o7 hr (O.num m e) (r:=.c (.i .i64 1)) rfl u5 .nil fun _ _ _ _=>?_
 (refine Zz ?_;intros)
 refine o7 hr (O.num n d) (r:=.c (.i .i64 1)) rfl u5 .nil fun _ _ _ _=>?_
 (refine Zz ?_;intros)
 refine o7 hm ⟨(p5 n,s3 e),show (p5 n).length < 9000 by omega,show (s3 e).length < 9000 by omega⟩ (r:=.c (.s (p5 (n * e)))) (by show u9.ret (.c (.s (p5 (p8 (p5 n) * p8 (s3 e)))))=_;rw [v7,A7]) u5 .nil fun _ _ _ _=>?_
 (refine Zz ?_;intros)
 refine o7 hm ⟨(p5 m,s3 d),show (p5 m).length < 9000 by omega,show (s3 d).length < 9000 by omega⟩ (r:=.c (.s (p5 (m * d)))) (by show u9.ret (.c (.s (p5 (p8 (p5 m) * p8 (s3 d)))))=_;rw [v7,A7]) u5 .nil fun _ _ _ _=>?_
 (refine Zz ?_;intros)
 have l1:=a4x n e
 have l2:=a4x m d
 refine o7 hc ⟨(p5 (n * e),p5 (m * d)),show (p5 (n * e)).length < 9000 by omega,show (p5 (m * d)).length < 9000 by omega⟩ (r:=.c (.i .i64 (a3w (n * e) (m * d)))) (by show u9.ret (.c (.i .i64 (a3w (p8 (p5 (n * e))) (p8 (p5 (m * d))))))=_;rw [v7,v7]) u5 .nil fun _ _ _ _=>?_
 (refine Zz ?_;intros)
 exact p9 ⟨.ret _ _ u5,.nil⟩
end
end Go.Proofs.YtkojildpddaccaaGreatDoor
