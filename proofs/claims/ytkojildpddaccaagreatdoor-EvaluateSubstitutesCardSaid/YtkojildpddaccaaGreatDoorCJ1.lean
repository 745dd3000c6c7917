/- The reference's numbers: on strings. -/
import Derived.Test.YtkojildpddaccaaGreatDoorCJ0
set_option linter.all false
namespace Go.Proofs.YtkojildpddaccaaGreatDoor
open Go.Abs LQ
set_option maxRecDepth 100000
set_option maxHeartbeats 4000000
noncomputable section
theorem d00:v8 137 (sp1 fun s=>.ret (.t [.c (.b (decide (s3 s < 0))),.sl 1 ((t8 (s3 s).natAbs).map dg)])):=by
 have:=e2a;simpa only [c0n] using this
theorem b9t (neg:Bool) (n:Nat):L1 neg n=s4 (if neg then -(n:Int) else n):=by
 unfold L1 s4;by_cases h0:n=0
 ·subst h0;cases neg <;> rfl
 ·rw [if_neg h0];cases neg
  ·simp only [Bool.false_eq_true,if_false];rw [if_neg oM];simp
  ·simp only [if_true];rw [if_pos oM];simp
theorem b3u (n:Nat):L1 false n=s8 n:=by
 unfold L1;split
 ·rename_i h;subst h;rfl
 ·rfl
def sp2 (R:u5→u5→z8):Sp where
 ι:={ p:u5 × u5 // p.1.length < 9000∧p.2.length < 9000 }
 A p:=[.c (.s p.1.1),.c (.s p.1.2)]
 B _:=[]
 R p:=R p.1.1 p.1.2
 B' _:=[]
 inj i j vs bs h k _ _:=by
  obtain ⟨_,_,h1,k1,h,k⟩:=h.two k;obtain ⟨_,_,h2,k2,h,k⟩:=h.two k;rw [T2 h1 k1,T2 h2 k2];exact ⟨rfl,rfl⟩
theorem f1m (a b:Int):(if (decide (a < 0) != decide (b < 0))=true then -((a.natAbs * b.natAbs:Nat):Int) else ((a.natAbs * b.natAbs:Nat):Int))=a * b:=by
 rw [← Int.natAbs_mul];by_cases h1:a < 0 <;> by_cases h2:b < 0
 ·have h:=Int.mul_pos_of_neg_of_neg h1 h2;generalize a * b=p at *;simp [h1,h2];omega
 ·have h:=Int.mul_nonneg (Int.neg_nonneg_of_nonpos (Int.le_of_lt h1)) (Int.not_lt.1 h2);rw [Int.neg_mul] at h;generalize a * b=p at *;simp [h1,h2];omega
 ·have h:=Int.mul_nonneg (Int.not_lt.1 h1) (Int.neg_nonneg_of_nonpos (Int.le_of_lt h2));rw [Int.mul_neg] at h;generalize a * b=p at *;simp [h1,h2];omega
 ·have h:=Int.mul_nonneg (Int.not_lt.1 h1) (Int.not_lt.1 h2);generalize a * b=p at *;simp [h1,h2];omega
theorem V1 (m n:Nat):(t8 (m * n)).length≤(t8 m).length+(t8 n).length:=by
 by_cases h:m * n=0
 ·rw [h,C7];simp
 ·have h1:=a9i (m * n) h;have h2:=a1n (t8 m) (G3 m);have h3:=a1n (t8 n) (G3 n);rw [G1] at h2 h3;have h4:m * n < 10 ^ ((t8 m).length+(t8 n).length):=by rw [Nat.pow_add];exact Nat.mul_lt_mul'' h2 h3
  have h5:=(Nat.pow_lt_pow_iff_right (by omega:1 < 10)).1 (Nat.lt_of_le_of_lt h1 h4);omega
def V0 (x y:Int):Int:=if x < y then -1 else if y < x then 1 else 0
def mu (m n:Nat):Nat:=if n=0 then 0 else 1+Nat.log2 (m * n)+(if m < n then 1 else 0)
theorem d1b {m n:Nat} (h:0 < n):mu n (m % n) < mu m n:=by
 have hlt:=Nat.mod_lt m h;unfold mu;rw [if_neg (by omega:¬n=0),if_neg (by omega:¬n < m % n)];split
 ·omega
 ·rename_i h0;by_cases hmn:m < n
  ·rw [if_pos hmn,Nat.mod_eq_of_lt hmn,Nat.mul_comm];omega
  ·rw [if_neg hmn];have h1:n * (m % n) * 2≤m * n:=by
    have h2:n≤n * (m / n):=Nat.le_mul_of_pos_right _ (Nat.div_pos (Nat.le_of_not_lt hmn) h);have h3:=Nat.div_add_mod m n;have h4:2 * (m % n)≤m:=oM
    calc n * (m % n) * 2=n * (2 * (m % n)):=by ac_rfl
     _≤n * m:=Nat.mul_le_mul_left _ h4
     _=m * n:=Nat.mul_comm _ _
   have h5:0 < n * (m % n):=Nat.mul_pos h oM;have h6:=Nat.log2_self_le (by omega:n * (m % n) ≠ 0);have h7:2 ^ (Nat.log2 (n * (m % n))+1)≤m * n:=by rw [Nat.pow_succ];omega
   have h8:Nat.log2 (n * (m % n))+1≤Nat.log2 (m * n):=(Nat.le_log2 oM).2 h7;omega
theorem e5t {m n:Nat} (hm:(t8 m).length < 9000) (hn:(t8 n).length < 9000):mu m n < E3:=by
 have h2:=a1n (t8 m) (G3 m);have h3:=a1n (t8 n) (G3 n);rw [G1] at h2 h3;unfold mu;simp only [E3];split
 ·omega
 ·by_cases h0:m * n=0
  ·rw [h0];simp;split <;> omega
  ·have h4:m * n < 10 ^ ((t8 m).length+(t8 n).length):=by rw [Nat.pow_add];exact Nat.mul_lt_mul'' h2 h3
   have h5:10 ^ ((t8 m).length+(t8 n).length)≤2 ^ (4 * ((t8 m).length+(t8 n).length)):=by rw [Nat.pow_mul];exact Nat.pow_le_pow_left dE _
   have h6:=(Nat.log2_lt h0).2 (Nat.lt_of_lt_of_le h4 h5);split <;> omega
theorem g9k:v8 138 (sp2 fun a b=>.ret (.c (.s (s8 (Nat.gcd (s3 a).natAbs (s3 b).natAbs))))):=A8 (fun fn h=>d1v h) [(137,_),(139,_),(140,_)] (.cons d00 (.cons e5n (.cons e5q .nil))) fun U fn hfn ⟨(a,b),ha,hbl⟩ vs bs hv hb=>by
 have hd:=hfn 137 _ rfl;have ha:a.length < 9000:=ha;have hbl:b.length < 9000:=hbl;have hv:z7 [.c (.s a),.c (.s b)] vs:=hv;have hb:u0 [] bs:=hb;show t6 U _ fun v bs'=>A3 (.ret (.c (.s (s8 (Nat.gcd (s3 a).natAbs (s3 b).natAbs))))) v∧u0 [] bs';have la:=a1v a;have lb:=a1v b;unfold e3h;refine Zx ?_;intros;refine s6 hd ⟨a,oM⟩ (r:=.t [.c (.b (decide (s3 a < 0))),.sl 1 ((t8 (s3 a).natAbs).map dg)]) rfl z6 .nil fun _ _ _ _=>?_;refine Zx ?_;intros;refine s6 hd ⟨b,oM⟩ (r:=.t [.c (.b (decide (s3 b < 0))),.sl 1 ((t8 (s3 b).natAbs).map dg)]) rfl z6 .nil fun _ _ _ _=>?_;generalize (s3 a).natAbs=x at *;generalize (s3 b).natAbs=y at *;refine Zx ?_;intros;refine I7 (fun (p:Nat × Nat) vs bs=>∃ (t:u1 Q) (off:Nat) (t':u1 Q) (off':Nat),vs=[.slice t 1 off (t8 p.1).length .no,.slice t' 1 off' (t8 p.2).length .no]∧bs=[]∧A5 1 ((t8 p.1).map dg) t off∧A5 1 ((t8 p.2).map dg) t' off'∧(t8 p.1).length < 9000∧(t8 p.2).length < 9000∧Nat.gcd p.1 p.2=Nat.gcd x y) (fun p=>mu p.1 p.2) (x,y)
  ⟨_,_,_,_,rfl,rfl,aS,aS,by simp only;omega,by simp only;omega,rfl⟩ (e5t (by simp only;omega) (by simp only;omega)) ?_
 rintro self ⟨m,n⟩ _ _ ⟨t,off,t',off',rfl,rfl,ht,ht',hm,hn,hg⟩ ih;simp only at *;(refine Zx ?_;with_reducible repeat' first|intro _|apply aI)
 ·have hn0:0 < n:=by
   by_cases h:n=0
   ·subst h;rw [C7] at *;simp at *
   ·omega
  have hml:=D8 (Nat.le_of_lt (Nat.mod_lt m hn0));refine s6 (hfn 139 _ rfl) ⟨(m,n),show (t8 m).length < 80000 by omega,show (t8 n).length < 80000 by omega,hn0⟩ (r:=.t [.sl 1 ((t8 (m / n)).map dg),.sl 1 ((t8 (m % n)).map dg)]) rfl z6 .nil fun _ _ _ _=>?_;refine Zx ?_;intros;exact ih (n,m % n) _ _ ⟨_,_,_,_,rfl,rfl,aS,aS,hn,by simp only;omega,by rw [← hg,Nat.gcd_comm m n,Nat.gcd_rec n m,Nat.gcd_comm]⟩ (d1b hn0)
 ·have hn0:n=0:=by rw [← G1 n,List.length_eq_zero_iff.1 (by omega:(t8 n).length=0)];rfl
  subst hn0;rw [Nat.gcd_zero_right] at hg;refine s6 (hfn 140 _ rfl) ⟨(false,t8 m),show (t8 m).length < 90000 by omega,G3 _⟩ (r:=.c (.s (s8 m))) (by show z8.ret (.c (.s (L1 false (val (t8 m)))))=_;rw [G1,b3u]) z6 .nil fun _ _ _ _=>?_;rw [← hg];refine Zx ?_;intros;exact s9 ⟨.ret _ _ z6,.nil⟩
theorem Z9 (n:Nat):(s8 n).length≤(t8 n).length+1:=by
 by_cases h:n=0
 ·subst h;decide
 ·rw [X3 n h];omega
theorem e7z:v8 93 (sp2 fun a b=>.ret (.t [.c (.s (D6 a b).1),.c (.s (D6 a b).2)])):=A8 (fun fn h=>d8p h) [(137,_),(139,_),(140,_),(138,_)] (.cons d00 (.cons e5n (.cons e5q (.cons g9k .nil)))) fun U fn hfn ⟨(a,b),ha,hbl⟩ vs bs hv hb=>by
 have hd:=hfn 137 _ rfl;have ho:=hfn 139 _ rfl;have hx:=hfn 140 _ rfl;have ha:a.length < 9000:=ha;have hbl:b.length < 9000:=hbl;have hv:z7 [.c (.s a),.c (.s b)] vs:=hv;have hb:u0 [] bs:=hb;show t6 U _ fun v bs'=>A3 (.ret (.t [.c (.s (D6 a b).1),.c (.s (D6 a b).2)])) v∧u0 [] bs';have la:=a1v a;have lb:=a1v b;unfold r93;refine Zx ?_;intros;refine s6 hd ⟨b,oM⟩ (r:=.t [.c (.b (decide (s3 b < 0))),.sl 1 ((t8 (s3 b).natAbs).map dg)]) rfl z6 .nil fun _ _ _ _=>?_;(refine Zx ?_;with_reducible repeat' first|intro _|apply aI)
 ·have e0:s3 b=0:=by
   have h1:=G1 (s3 b).natAbs;rw [List.length_eq_zero_iff.1 (by omega:(t8 (s3 b).natAbs).length=0)] at h1;simp [val] at h1;omega
  have e:D6 a b=(E9,P5):=by unfold D6;rw [if_pos e0]
  rw [e];exact s9 ⟨.ret _ _ z6,.nil⟩
 ·have e0:¬s3 b=0:=fun h=>‹¬((t8 (s3 b).natAbs).length:Int)=0› (by rw [h,Int.natAbs_zero,C7];rfl);refine s6 hd ⟨a,oM⟩ (r:=.t [.c (.b (decide (s3 a < 0))),.sl 1 ((t8 (s3 a).natAbs).map dg)]) rfl z6 .nil fun _ _ _ _=>?_;refine Zx ?_;intros;refine s6 (hfn 138 _ rfl) ⟨(a,b),ha,hbl⟩ (r:=.c (.s (s8 (Nat.gcd (s3 a).natAbs (s3 b).natAbs)))) rfl z6 .nil fun _ _ _ _=>?_;have e:D6 a b=(s4 ((if (s3 a < 0)=(s3 b < 0) then 1 else -1) * (((s3 a).natAbs / Nat.gcd (s3 a).natAbs (s3 b).natAbs:Nat):Int)),s8 ((s3 b).natAbs / Nat.gcd (s3 a).natAbs (s3 b).natAbs)):=by unfold D6;rw [if_neg e0]
  rw [e];have hgp:0 < Nat.gcd (s3 a).natAbs (s3 b).natAbs:=Nat.gcd_pos_of_pos_right _ oM;have hgl:=D8 (Nat.gcd_le_right (s3 a).natAbs (by omega:0 < (s3 b).natAbs));generalize Nat.gcd (s3 a).natAbs (s3 b).natAbs=g at *;have hsl:=Z9 g;refine Zx ?_;intros;refine s6 hd ⟨s8 g,oM⟩ (r:=.t [.c (.b (decide ((g:Int) < 0))),.sl 1 ((t8 g).map dg)]) (by show z8.ret (.t [.c (.b (decide (s3 (s8 g) < 0))),.sl 1 ((t8 (s3 (s8 g)).natAbs).map dg)])=_;rw [B3];rfl) z6 .nil fun _ _ _ _=>?_;refine Zx ?_;intros;have l3:=D8 (Nat.div_le_self (s3 a).natAbs g);have l4:=D8 (Nat.div_le_self (s3 b).natAbs g);refine s6 ho ⟨((s3 a).natAbs,g),show (t8 (s3 a).natAbs).length < 80000 by omega,show (t8 g).length < 80000 by omega,hgp⟩ (r:=.t [.sl 1 ((t8 ((s3 a).natAbs / g)).map dg),.sl 1 ((t8 ((s3 a).natAbs % g)).map dg)]) rfl z6 .nil fun _ _ _ _=>?_;refine Zx ?_;intros;refine s6 ho ⟨((s3 b).natAbs,g),show (t8 (s3 b).natAbs).length < 80000 by omega,show (t8 g).length < 80000 by omega,hgp⟩ (r:=.t [.sl 1 ((t8 ((s3 b).natAbs / g)).map dg),.sl 1 ((t8 ((s3 b).natAbs % g)).map dg)]) rfl z6 .nil fun _ _ _ _=>?_;refine Zx ?_;intros;refine s6 hx ⟨(decide (s3 a < 0) != decide (s3 b < 0),t8 ((s3 a).natAbs / g)),show (t8 _).length < 90000 by omega,G3 _⟩ (r:=.c (.s (s4 ((if (s3 a < 0)=(s3 b < 0) then 1 else -1) * (((s3 a).natAbs / g:Nat):Int))))) ?_ z6 .nil fun _ _ _ _=>?_
  ·show z8.ret (.c (.s (L1 _ (val (t8 _)))))=_;rw [G1,b9t];congr 4;by_cases h1:s3 a < 0 <;> by_cases h2:s3 b < 0 <;> simp [h1,h2]
  ·refine Zx ?_;intros;refine s6 hx ⟨(false,t8 ((s3 b).natAbs / g)),show (t8 _).length < 90000 by omega,G3 _⟩ (r:=.c (.s (s8 ((s3 b).natAbs / g)))) (by show z8.ret (.c (.s (L1 false (val (t8 _)))))=_;rw [G1,b3u]) z6 .nil fun _ _ _ _=>?_;refine Zx ?_;intros;exact s9 ⟨.ret _ _ z6,.nil⟩
theorem A7.at {gs:List G} {q:Q} {j:Nat} {g:G} (h:A7 gs q 0) (e:gs[j]?=some g):RG g (CU.celQ q j):=by
 have:=h.get e;rw [Nat.zero_add] at this;exact this
def sg (s:Sy):List G:=[.s s.1,.s s.2]
theorem a1f {a b:Sy} (h:sg a=sg b):a=b:=by simp only [sg,List.cons.injEq,G.s.injEq,and_true] at h;exact Prod.ext h.1 h.2
def B0:u5:=[108,105,115,112]
def F6:O:=.sy (B0,[110,105,108])
def tO:O:=.sy (B0,[116])
def sp0 (g:GV):Sp where
 ι:=Unit
 A _:=[]
 B _:=[]
 R _:=.ret g
 B' _:=[]
 inj _ _ _ _ _ _ _ _:=⟨rfl,rfl⟩
def c4y (g:u5→GV):Sp where
 ι:=u5
 A s:=[.c (.s s)]
 B _:=[]
 R s:=.ret (g s)
 B' _:=[]
 inj i j vs bs h k _ _:=by
  obtain ⟨_,_,h1,k1,h,k⟩:=h.two k;rw [T2 h1 k1];exact ⟨rfl,rfl⟩
def c8r (g:Sy→GV):Sp where
 ι:=Sy
 A s:=[.a (sg s)]
 B _:=[]
 R s:=.ret (g s)
 B' _:=[]
 inj i j vs bs h k _ _:=by
  obtain ⟨_,_,h1,k1,h,k⟩:=h.two k;rw [a1f (h1.a_inj k1)];exact ⟨rfl,rfl⟩
def spO (g:O→GV):Sp where
 ι:=O
 A o:=[.a o.g]
 B _:=[]
 R o:=.ret (g o)
 B' _:=[]
 inj i j vs bs h k _ _:=by rw [c44 h k];exact ⟨rfl,rfl⟩
def g02 (g:O→O→GV):Sp where
 ι:=O × O
 A o:=[.a o.1.g,.a o.2.g]
 B _:=[]
 R o:=.ret (g o.1 o.2)
 B' _:=[]
 inj i j vs bs h k _ _:=by obtain ⟨e1,e2⟩:=b7v h k;rw [e1,e2];exact ⟨rfl,rfl⟩
theorem d3v:v8 20 (c4y fun s=>.a (sg (B0,s))):=A8 (fun fn h=>d78 h) [] .nil fun U fn hfn s vs bs hv hb=>by
 have hv:z7 [.c (.s s)] vs:=hv;have hb:u0 [] bs:=hb;show t6 U _ fun v bs'=>A3 (.ret (.a (sg (B0,s)))) v∧u0 [] bs';unfold r20;refine Zx ?_;intros;exact s9 ⟨.ret _ _ z6,.nil⟩
theorem d04:v8 18 (c8r fun s=>.a (O.sy s).g):=A8 (fun fn h=>d77 h) [] .nil fun U fn hfn s vs bs hv hb=>by
 have hv:z7 [.a [.s s.1,.s s.2]] vs:=hv;have hb:u0 [] bs:=hb;show t6 U _ fun v bs'=>A3 (.ret (.a (O.sy s).g)) v∧u0 [] bs';unfold r18;refine Zx ?_;intros;exact P0 fun e=>by subst e;exact ⟨.ret _ _ (by (exact Zru)),.nil⟩
theorem f44:v8 63 (c4y fun s=>.a (O.tx s).g):=A8 (fun fn h=>f9s h) [] .nil fun U fn hfn s vs bs hv hb=>by
 have hv:z7 [.c (.s s)] vs:=hv;have hb:u0 [] bs:=hb;show t6 U _ fun v bs'=>A3 (.ret (.a (O.tx s).g)) v∧u0 [] bs';unfold r63;refine Zx ?_;intros;exact s9 ⟨.ret _ _ z6,.nil⟩
theorem e5m:v8 44 (g02 fun a d=>.a (O.co a d).g):=A8 (fun fn h=>d8h h) [] .nil fun U fn hfn ⟨a,d⟩ vs bs hv hb=>by
 have hv:z7 [.a a.g,.a d.g] vs:=hv;have hb:u0 [] bs:=hb;show t6 U _ fun v bs'=>A3 (.ret (.a (O.co a d).g)) v∧u0 [] bs';unfold r44;refine Z4 hv fun v l hv1 hv2=>?_;refine H3 hv1 a.g_len fun qa ha=>?_;refine Z4 hv2 fun v l hv3 hv4=>?_;refine H3 hv3 d.g_len fun qd hd=>?_;refine b1g hv4 (a4q hb ?_);refine a2u ha fun xa ha=>?_;refine a2u hd fun xd hd=>?_;refine s9 ⟨.ret _ _ (.ag _ _ ?_),.nil⟩;refine .k (.i _ _) (.k (.s _ _ _ rfl rfl) (.k (.s _ _ _ rfl rfl) (.k (.s _ _ _ rfl rfl) (.k (.s _ _ _ rfl rfl) (.k (.s _ _ _ rfl rfl) (.k (.cl _ _ _ _ _ rfl ?_) .nil))))));have r1:=a06 (by rw [O.g_len];decide) ha;have r2:=a06 (by rw [O.g_len];decide) hd;exact .cons _ _ _ _ _ a.g_len r1.1 r1.2 (.cons _ _ _ _ _ d.g_len r2.1 r2.2 (.nil _ _ _))
def O.isCo:O→Bool
 | .co _ _=>true
 | _=>false
def O.isInt:O→Bool
 | .num _ d=>decide (d=1)
 | _=>false
theorem R6:s8 1=P5:=by unfold s8;rw [if_neg dE,F2 dE,show 1 / 10=0 from rfl,C7];rfl
theorem f4x:v8 35 (sp0 (.a F6.g)):=A8 (fun fn h=>d8d h) [(20,_),(18,_)] (.cons d3v (.cons d04 .nil)) fun U fn hfn _ vs bs hv hb=>by
 have hv:z7 [] vs:=hv;have hb:u0 [] bs:=hb;show t6 U _ fun v bs'=>A3 (.ret (.a F6.g)) v∧u0 [] bs';unfold r35;refine Zx ?_;intros;refine s6 (hfn 20 _ rfl) ([110,105,108]:u5) (r:=.a (sg (B0,[110,105,108]))) rfl z6 .nil fun _ _ _ _=>?_;refine Zx ?_;intros;refine s6 (hfn 18 _ rfl) (B0,([110,105,108]:u5)) (r:=.a F6.g) rfl z6 .nil fun _ _ _ _=>?_;refine Zx ?_;intros;exact s9 ⟨.ret _ _ z6,.nil⟩
def G0 (b:Bool):O:=if b then tO else F6
def spB (g:Bool→GV):Sp where
 ι:=Bool
 A s:=[.c (.b s)]
 B _:=[]
 R s:=.ret (g s)
 B' _:=[]
 inj i j vs bs h k _ _:=by
  obtain ⟨_,_,h1,k1,h,k⟩:=h.two k;rw [b7w h1 k1];exact ⟨rfl,rfl⟩
theorem a2s {s:u5} {i:Nat} (h:i < s.length) (hb:a6a (bt s i)=true):P9 s i=P9 s (i+1):=by rw [P9,if_pos h,if_pos hb]
theorem e8m {s:u5} {i:Nat} (h:i < s.length) (hb:¬a6a (bt s i)=true):P9 s i=false:=by rw [P9,if_pos h,if_neg hb]
theorem c1e {s:u5} {i:Nat} (h:¬i < s.length):P9 s i=true:=by rw [P9,if_neg h]
theorem f5o {c:Int}:a6a c=true↔(97≤c∧c≤122)∨(48≤c∧c≤57)∨c=45:=by simp [a6a]
def named (s:Sy):Bool:=V5 s.1 && decide (1≤s.2.length∧s.2.length≤40)
def e6f (g:Sy→GV):Sp where
 ι:={ s:Sy // s.1.length < 90000∧s.2.length < 90000 }
 A s:=[.a (sg s.1)]
 B _:=[]
 R s:=.ret (g s.1)
 B' _:=[]
 inj i j vs bs h k _ _:=by
  obtain ⟨_,_,h1,k1,h,k⟩:=h.two k;rw [a1f (h1.a_inj k1)];exact ⟨rfl,rfl⟩
theorem X2 {k:IntKind} {x y:Int} (h:y=x):RV (.c (.i k x)) (.int k y):=rvI h.symm
section
variable {U:C3} {P:K0→List Bx→Prop}
theorem d2d {a b:Int} {x y:Om} (h:a=b) (k:t6 U x P):t6 U (U.cnd (U.iEq a b) x y) P:=b7i a41 (fun _=>k) (fun n=>absurd h n)
theorem d2c {a b:Int} {x y:Om} (h:¬a=b) (k:t6 U y P):t6 U (U.cnd (U.iEq a b) x y) P:=b7i a41 (fun n=>absurd n h) (fun _=>k)
theorem d86 {s:List UInt8} {l c:Nat} {x y:Om} (h:s=s5 l c) (k:t6 U x P):t6 U (U.cnd (U.sEq s.length (D0 s) l c) x y) P:=b7i a68 (fun _=>k) (fun n=>absurd h n)
theorem c3j {s:List UInt8} {l c:Nat} {b:Bool} {x y:Om} (h:s=s5 l c) (k:t6 U (U.cnd b x y) P):t6 U (U.cnd (U.band (U.sEq s.length (D0 s) l c) b) x y) P:=fun e=>by
 have:=k e;have e1:U.sEq s.length (D0 s) l c=true:=by subst e;rw [b2m];exact decide_eq_true h
 rw [e1];subst e;exact this
end
theorem Zz {p q:Prop} (k:q) (h:Tr p q:=by ((repeat' (first | (with_reducible apply Tr.all) | (with_reducible intro _) | (apply Tr.b;(case f=>first | exact d2d dE | exact d2c dE | exact d86 (by rfl) | exact c3j (by rfl) | exact sCndBandT | exact a3x | exact Z4 aS | exact b7j | exact b1g aS | exact b45 | exact a4q aS | exact a9w | exact a9x aS | exact sP | exact sPR aS | exact sIV | exact sI aS | exact sBV | exact sBK | exact sB aS | exact sSV | exact sS aS | exact sA | exact H3 aS (by rfl) | exact b7k (by rfl) | exact c1p (by rfl) | exact b9o aS (by rfl) | exact c1q aS (by rfl) | exact c1o aS | exact sSl aS | exact sTu aS | exact sBo | exact Y8 aS (by rfl) | exact sBc | exact c8h aS | exact sBt | exact sBs | exact sBr | exact a2u aS | exact b48 aS | exact T3 aS (by rfl) | exact c8j aS (by rfl) | exact sCI' aS (by rfl) | exact sCB' aS (by rfl) | exact sCS aS | exact sCI aS | exact sCB aS | exact b3r (by first | omega | (simp only [List.length_map] at *;omega)) | exact b47 (by first | omega | (simp only [List.length_map] at *;omega)) | exact b9r | exact a90 | exact a93 | exact b9q | exact b3s | exact b3q | exact sfSubN | exact a92 | exact a91 | exact sfB | exact sJn | exact b9n | exact b9l | exact b9m | exact F1 aS (by (first | exact B7 O.g_len | exact B7 (fun _=>rfl))) | exact a83 aS (by (first | exact B7 O.g_len | exact B7 (fun _=>rfl))) | exact b9s (by first | omega | (simp only [List.length_map] at *;omega)) | exact b49 (by first | omega | (simp only [List.length_map] at *;omega)) | exact c8n aS (by first | assumption | omega | (simp only [List.length_map] at *;omega)) | exact sfT aS (by rfl))) | (apply Tr.chk;(case ht=>(repeat' (first | exact trT | exact trF | apply a32 | apply a3z | exact a31 | exact a30 | exact a43 | exact a42 | exact a41 | exact a1l | exact a1m | exact a1k | exact a1j | exact a1r | exact a33 | exact a87 | exact a68 | exact trS | exact trV)));(case hp=>first | omega | (simp only [List.length_map] at *;omega))) | (apply Tr.cnd;(case ht=>(repeat' (first | exact trT | exact trF | apply a32 | apply a3z | exact a31 | exact a30 | exact a43 | exact a42 | exact a41 | exact a1l | exact a1m | exact a1k | exact a1j | exact a1r | exact a33 | exact a87 | exact a68 | exact trS | exact trV))))));all_goals exact Tr.refl)):p:=h.go k
def O.sm:O→Prop
 | .num n d=>(s4 n).length < 9000∧(s8 d).length < 9000
 | .sy s=>s.1.length < 9000∧s.2.length < 9000
 | .tx s=>s.length < 9000
 | .co a d=>a.sm∧d.sm
 | .no=>True
def O.fm:O→Bool
 | .num n d=>decide (D6 (s4 n) (s8 d)=(s4 n,s8 d)∧L6 (s4 n)≤100∧L6 (s8 d)≤100)
 | .sy s=>named s
 | .tx s=>decide (s.length≤200)
 | .co a d=>a.fm && d.fm
 | .no=>false
def a0e:List O→O
 | []=>F6
 | a :: l=>.co a (a0e l)
def h0p (g:List O→GV):Sp where
 ι:={ l:List O // l.length < 90000 }
 A l:=[.sl 7 (l.1.map O.g)]
 B _:=[]
 R l:=.ret (g l.1)
 B' _:=[]
 inj i j vs bs h k _ _:=by
  obtain ⟨_,_,h1,k1,h,k⟩:=h.two k;rw [b6x (h1.sl_inj k1)];exact ⟨rfl,rfl⟩
theorem g4r:v8 17 (h0p fun l=>.a (a0e l).g):=A8 (fun fn h=>d76 h) [(35,_),(44,_)] (.cons f4x (.cons e5m .nil)) fun U fn hfn ⟨l,hl⟩ vs bs hv hb=>by
 have hl:l.length < 90000:=hl;have hv:z7 [.sl 7 (l.map O.g)] vs:=hv;have hb:u0 [] bs:=hb;show t6 U _ fun v bs'=>A3 (.ret (.a (a0e l).g)) v∧u0 [] bs';unfold r17;refine Zz ?_;intros;refine s6 (hfn 35 _ rfl) () (r:=.a F6.g) rfl .nil .nil fun _ _ _ _=>?_;refine Zz ?_;intros;refine I7 (fun (m:Nat) vs bs=>∃ (t:u1 Q) (off:Nat) (i:Int) (q:Q),vs=[.slice t 7 off l.length .no,.ptr 0 0,.ptr 1 0,.int .i64 i]∧bs=[.cells [.int .i64 0,.str 0 0,.str 0 0,.str 0 0,.str 0 0,.str 0 0,.slice .nil 0 0 0 .exact],.opa q 7]∧i=m - 1∧m≤l.length∧A5 7 (l.map O.g) t off∧A7 (a0e (l.drop m)).g q 0) (fun m=>m) l.length
  ⟨_,_,_,_,rfl,rfl,rfl,oM,aS,by rw [List.drop_length];assumption⟩ (by simp only [E3];omega) ?_
 rintro self m _ _ ⟨t,off,i,q,rfl,rfl,rfl,hm,ht,hq⟩ ih;(refine Zz ?_;with_reducible repeat' first|intro _|apply aI)
 ·refine d4v (y:=l[m - 1]) aS (by rw [show ((m:Int) - 1).toNat=m - 1 by omega];exact List.getElem?_eq_getElem oM) fun _ _=>?_;refine Zz ?_;intros;refine s6 (hfn 44 _ rfl) (l[m - 1],a0e (l.drop m)) (r:=.a (O.co l[m - 1] (a0e (l.drop m))).g) rfl z6 .nil fun _ _ _ _=>?_;refine Zz ?_;intros;refine ih (m - 1) _ _ ⟨_,_,_,_,rfl,rfl,oM,oM,ht,?_⟩ oM;rw [List.drop_eq_getElem_cons (by omega:m - 1 < l.length),show m - 1+1=m by omega]
  assumption
 ·have em:m=0:=oM;subst em;rw [List.drop_zero] at *;exact s9 ⟨.ret _ _ z6,.nil⟩
def qn (x y:Int):Int × Nat:=if y=0 then (0,1) else ((if (x < 0)=(y < 0) then 1 else -1) * ((x.natAbs / Nat.gcd x.natAbs y.natAbs:Nat):Int),y.natAbs / Nat.gcd x.natAbs y.natAbs)
theorem O9 (a b:u5):D6 a b=(s4 (qn (s3 a) (s3 b)).1,s8 (qn (s3 a) (s3 b)).2):=by
 unfold D6 qn;split
 ·rw [R6];rfl
 ·rfl
def K2 (q:Int × Nat):O:=.num q.1 q.2
theorem c2u:v8 50 (sp2 fun a b=>.ret (.a (K2 (qn (s3 a) (s3 b))).g)):=A8 (fun fn h=>d8i h) [(93,_)] (.cons e7z .nil) fun U fn hfn ⟨(a,b),ha,hbl⟩ vs bs hv hb=>by
 have ha:a.length < 9000:=ha;have hbl:b.length < 9000:=hbl;have hv:z7 [.c (.s a),.c (.s b)] vs:=hv;have hb:u0 [] bs:=hb;show t6 U _ fun v bs'=>A3 (.ret (.a (K2 (qn (s3 a) (s3 b))).g)) v∧u0 [] bs';unfold r50;refine Zz ?_;intros;refine s6 (hfn 93 _ rfl) ⟨(a,b),ha,hbl⟩ (r:=.t [.c (.s (s4 (qn (s3 a) (s3 b)).1)),.c (.s (s8 (qn (s3 a) (s3 b)).2))]) (by show z8.ret (.t [.c (.s (D6 a b).1),.c (.s (D6 a b).2)])=_;rw [O9]) z6 .nil fun _ _ _ _=>?_;refine Zz ?_;intros;exact s9 ⟨.ret _ _ z6,.nil⟩
theorem R5 (n:Int):(s4 n).length≤(t8 n.natAbs).length+2:=by
 unfold s4;have:=Z9 n.natAbs;split <;> simp <;> omega
theorem a4v (n:Nat):(t8 n).length≤(s8 n).length:=by
 by_cases h:n=0
 ·subst h;rw [C7];simp
 ·rw [X3 n h];exact Nat.le_refl _
theorem K8 (n:Int):(t8 n.natAbs).length≤(s4 n).length:=by
 have:=a4v n.natAbs;unfold s4;split <;> simp <;> omega
end
end Go.Proofs.YtkojildpddaccaaGreatDoor
