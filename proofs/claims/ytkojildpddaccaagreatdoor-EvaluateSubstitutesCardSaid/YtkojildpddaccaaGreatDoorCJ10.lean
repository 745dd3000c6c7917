/- The program's numbers: greatest common divisor, quotients, lowest terms. -/
import Derived.Test.YtkojildpddaccaaGreatDoorCJ9
set_option linter.all false
namespace Go.Proofs.YtkojildpddaccaaGreatDoor
open Go.Abs LQ
set_option maxRecDepth 100000
set_option maxHeartbeats 4000000
noncomputable section
section
variable {U:C3} {P:K0→List Bx→Prop}
theorem sQR {g:G} {v:V} {K:Q→Om} (hv:RV (.c g) v) (h:∀ x,RG g x→t6 U (K x) P):t6 U (U.uQ v K) P:=fun e=>by
 have h2:∃ x,CU.uQ v K=K x∧RG g x:=by
  cases hv with
  | b x=>exact ⟨_,rfl,.b x⟩
  | kn x=>exact ⟨_,rfl,.b x⟩
  | i k n=>exact ⟨_,rfl,.i k n⟩
  | s x l c h1 h2=>exact ⟨_,rfl,.s x l c h1 h2⟩
  | cl xs t n off len h1 h2=>exact ⟨_,rfl,.l xs t n off len h1 h2⟩
  | q _ x h=>exact ⟨_,rfl,h⟩
 obtain ⟨x,h3,h4⟩:=h2;have:=h x h4 e;subst e;rw [h3];exact this
theorem g5e {x y:List UInt8} {l c1 c2:Nat} {K:Nat→Om} (h1:l=x.length) (e1:c1=D0 x) (e2:c2=D0 y) (k:t6 U (K (D0 (x ++ y))) P):t6 U (U.fN (U.sCat l c1 c2) K) P:=fun e=>by
 subst h1 e1 e2;have:=k e;subst e;rw [b0a];show ∃ v bs,K (sCat x.length (D0 x) (D0 y))=some (v,bs)∧P v bs;rw [c3i];exact this
end
instance {a:Bool} {n:Nat}:NX (J0 a n):=⟨rfl⟩
theorem b6t {a b:Bool} {m n:Nat} (h:J0 a m=J0 b n):a=b∧m=n:=by
 simp only [J0,List.cons.injEq,G.b.injEq,G.l.injEq,and_true] at h;exact ⟨h.1,a9p h.2⟩
def b1m:Sp where
 ι:={ p:Bool × Nat // (u3 p.2).length < 20000 }
 A p:=[.a (J0 p.1.1 p.1.2)]
 B _:=[]
 R p:=.ret (.c (.s (L1 p.1.1 p.1.2)))
 B' _:=[]
 inj i j vs bs h k _ _:=by
  obtain ⟨_,_,h1,k1,h,k⟩:=h.two k;obtain ⟨e1,e2⟩:=b6t (h1.a_inj k1);rw [e1,e2];exact ⟨rfl,rfl⟩
theorem b4q (n:Nat):∀ r ∈ B8 n,r.length=1:=fun r hr=>by obtain ⟨_,_,rfl⟩:=List.mem_map.1 hr;rfl
theorem V4 {n:Nat} {x:Q} (h:RG (.l (B8 n)) x):RV (.sl 1 (B8 n)) (.q x):=.slq _ _ _ h (b4q n)
theorem a8u (n:Nat):(u3 n).length≤(t8 n).length:=by
 refine a58 ?_;have h:=a1n (t8 n) (G3 n);rw [G1] at h;exact Nat.lt_of_lt_of_le h (Nat.pow_le_pow_left dE _)
theorem f1n (n:Nat):L1 false n=s8 n:=b3u n
theorem g4o (hst:v8 257 b1m):v8 287 (sp2 fun a b=>.ret (.c (.s (s8 (Nat.gcd (s3 a).natAbs (s3 b).natAbs))))):=A8 (fun fn h=>f1c h) [(256,_),(265,_),(257,_)] (.cons a9o (.cons b6u (.cons hst .nil))) fun U fn hfn ⟨(a,b),ha,hbl⟩ vs bs hv hb=>by
 have hp:=hfn 256 _ rfl;have ha:a.length < 9000:=ha;have hbl:b.length < 9000:=hbl;have hv:z7 [.c (.s a),.c (.s b)] vs:=hv;have hb:u0 [] bs:=hb;show t6 U _ fun v bs'=>A3 (.ret (.c (.s (s8 (Nat.gcd (s3 a).natAbs (s3 b).natAbs))))) v∧u0 [] bs';have la:=a1v a;have lb:=a1v b;unfold f8u;refine Zq ?_;intros;refine s6 hp ⟨a,by show a.length < 90000;omega⟩ (r:=.a (J0 (decide (s3 a < 0)) (s3 a).natAbs)) rfl z6 .nil fun _ _ hv1 _=>?_;have hv1:RV (.a [.b _,.l (B8 _)]) _:=hv1;refine Zq ?_;intros;refine s6 hp ⟨b,by show b.length < 90000;omega⟩ (r:=.a (J0 (decide (s3 b < 0)) (s3 b).natAbs)) rfl z6 .nil fun _ _ hv2 _=>?_;have hv2:RV (.a [.b _,.l (B8 _)]) _:=hv2;generalize (s3 a).natAbs=x at *;generalize (s3 b).natAbs=y at *;refine Zq ?_;intros;refine I7 (fun (p:Nat × Nat) vs bs=>∃ (m n:Nat) (v1 v2:V),p=(m,n)∧vs=[v1,v2]∧bs=[]∧RV (.c (.l (B8 m))) v1∧RV (.c (.l (B8 n))) v2∧Nat.gcd m n=Nat.gcd x y∧(t8 m).length < 9000∧(t8 n).length < 9000) (fun p=>mu p.1 p.2) (x,y) ⟨x,y,_,_,rfl,rfl,rfl,.q _ _ aS,.q _ _ aS,rfl,oM,oM⟩ (show mu x y < E3 from e5t oM oM) ?_;rintro self _ _ _ ⟨m,n,v1,v2,rfl,rfl,rfl,h1,h2,hg,hm,hn⟩ ih;have lm:=a8u m;have ln:=a8u n;refine Zq ?_;intros;refine sQR h1 fun x1 g1=>?_;refine Zq ?_;intros;refine sQR h2 fun x2 g2=>?_;refine Zq ?_;intros;refine a83 g2 (b4q n) fun t off ht=>?_;(refine Zq ?_;with_reducible repeat' first|intro _|apply aI)
 ·have hn0:n ≠ 0:=by rintro rfl;simp [B8,H6] at *
  refine s6 (hfn 265 _ rfl) ⟨(m,n),by show (u3 m).length < 20000;omega,by show (u3 n).length < 20000;omega,hn0,by show (u3 m).length < 9000;omega,by show (u3 n).length < 9000;omega⟩ (r:=.t [.sl 1 (B8 (m / n)),.sl 1 (B8 (m % n))]) rfl (.k (V4 g1) (.k (V4 g2) .nil)) .nil fun _ _ _ _=>?_;refine Zq ?_;intros;refine ih (n,m % n) _ _ ⟨n,m % n,_,_,rfl,rfl,rfl,.q _ _ g2,.cl _ _ _ _ _ (by simp [B8]) aS,?_,hn,Nat.lt_of_le_of_lt (D8 (Nat.le_of_lt (Nat.mod_lt m (Nat.pos_of_ne_zero hn0)))) hn⟩ (d1b (Nat.pos_of_ne_zero hn0));rw [← hg,Nat.gcd_comm n (m % n),← Nat.gcd_rec n m,Nat.gcd_comm]
 ·have hn0:n=0:=by
   have:(B8 n).length=0:=oM;simp only [B8,List.length_map,List.length_eq_zero_iff] at this;exact b4r (this.trans H6.symm)
  subst hn0;rw [Nat.gcd_zero_right] at hg;subst hg;refine s6 (hfn 257 _ rfl) ⟨(false,Nat.gcd x y),by show (u3 (Nat.gcd x y)).length < 20000;omega⟩ (r:=.c (.s (s8 (Nat.gcd x y)))) (by show z8.ret (.c (.s (L1 false _)))=_;rw [f1n]) (.k (.ag _ _ (.k (.kn _) (.k (.q _ _ g1) .nil))) .nil) .nil fun _ _ _ _=>?_;refine Zq ?_;intros;exact s9 ⟨.ret _ _ (.s _ _ _ rfl rfl),.nil⟩
theorem b51 (n:Int):0 < (s4 n).length:=by
 have:=a3y n.natAbs;unfold s4;split <;> simp <;> omega
theorem a5u (n:Int):bt (s4 n) 0=45↔n < 0:=by
 unfold s4;split
 ·rename_i h;exact ⟨fun _=>h,fun _=>rfl⟩
 ·rename_i h;have:=W3 n.natAbs 0 (a3y _);exact ⟨fun k=>by omega,fun k=>absurd k h⟩
theorem c3n:s4 1=s5 1 49:=by
 show s4 ((1:Nat):Int)=_;rw [a84,R6];decide
theorem b50 (n:Int):s4 n=s5 1 49↔n=1:=⟨fun h=>R4 (h.trans c3n.symm),fun h=>by subst h;exact c3n⟩
theorem a2w (n:Int):s4 n=s5 1 48↔n=0:=⟨fun h=>R4 (h.trans dE),fun h=>by subst h;decide⟩
theorem c60:v8 264 (sp1 fun s=>.ret (.c (.s (c7i s)))):=A8 (fun fn h=>f04 h) [(262,_)] (.cons a1x .nil) fun U fn hfn ⟨s,hs⟩ vs bs hv hb=>by
 have hv:z7 [.c (.s s)] vs:=hv;have hb:u0 [] bs:=hb;have hs:s.length < 90000:=hs;show t6 U _ fun v bs'=>A3 (.ret (.c (.s (c7i s)))) v∧u0 [] bs';unfold f8n;refine Zq ?_;intros;have hl:=b0o s;refine s6 (hfn 262 _ rfl) ⟨s,hs⟩ (r:=.c (.s (K7 s))) rfl z6 .nil fun _ _ _ _=>?_;rw [a0l] at *;unfold c7i;generalize s3 s=n at *;have h0:=b51 n;have hbt:(((s4 n).getD 0 0).toNat:Int)=bt (s4 n) 0:=rfl;(refine Zq ?_;with_reducible repeat' first|intro _|apply aI)
 ·have e:n=0:=(a2w n).1 ‹_›;subst e;exact s9 ⟨.ret _ _ (.s _ _ _ rfl rfl),.nil⟩
 ·have e:n < 0:=(a5u n).1 ‹_›;have e2:s4 (-n)=(s4 n).drop (Int.toNat 1):=by
   unfold s4;rw [if_pos e,if_neg oM,Int.natAbs_neg];rfl
  rw [e2];exact s9 ⟨.ret _ _ (.s _ _ _ rfl rfl),.nil⟩
 ·have e:¬n < 0:=fun k=>‹¬(((s4 n).getD (Int.toNat 0) 0).toNat:Int)=45› ((a5u n).2 k);have e0:n ≠ 0:=fun k=>‹¬s4 n=s5 1 48› ((a2w n).2 k);have e2:s4 (-n)=[45] ++ s4 n:=by
   unfold s4;rw [if_neg e,if_pos oM,Int.natAbs_neg]
  rw [e2];refine g5e (x:=[45]) (y:=s4 n) rfl rfl rfl ?_;exact s9 ⟨.ret _ _ (.s _ _ _ (by simp;omega) rfl),.nil⟩
theorem a1d {s:u5} (h:s.length < 9000):(u3 (s3 s).natAbs).length < 9000:=by
 have:=a1v s;have:=a8u (s3 s).natAbs;omega
theorem f1o {a b:Int} (hb:0 < b) (hd:b ∣ a):L1 (decide (a < 0) != decide (b < 0)) (a.natAbs / b.natAbs)=s4 (a / b):=by
 obtain ⟨q,rfl⟩:=hd;have h1:¬b < 0:=oM;have hb':0 < b.natAbs:=oM;rw [Int.mul_ediv_cancel_left _ oM,Int.natAbs_mul,Nat.mul_div_cancel_left _ hb',← f1l q];have:decide (b * q < 0)=decide (q < 0):=by
  rw [Bool.eq_iff_iff,decide_eq_true_iff,decide_eq_true_iff];constructor
  ·intro h;by_cases hq:q < 0
   ·exact hq
   ·have:=Int.mul_nonneg (show 0≤b by omega) (show 0≤q by omega);omega
  ·intro h;exact Int.mul_neg_of_pos_of_neg hb h
 rw [this,decide_eq_false h1,Bool.bne_false]
theorem e2o {a b:Int} (hd:b ∣ a):a.natAbs % b.natAbs=0:=Nat.mod_eq_zero_of_dvd (Int.natAbs_dvd_natAbs.2 hd)
def g5l:Sp where
 ι:={ p:u5 × u5 // p.1.length < 9000∧p.2.length < 9000∧0 < s3 p.2∧s3 p.2 ∣ s3 p.1 }
 A p:=[.c (.s p.1.1),.c (.s p.1.2)]
 B _:=[]
 R p:=.ret (.t [.c (.s (s4 (s3 p.1.1 / s3 p.1.2))),.c (.s E9)])
 B' _:=[]
 inj i j vs bs h k _ _:=by
  obtain ⟨_,_,h1,k1,h,k⟩:=h.two k;obtain ⟨_,_,h2,k2,h,k⟩:=h.two k;rw [T2 h1 k1,T2 h2 k2];exact ⟨rfl,rfl⟩
theorem e2b (hst:v8 257 b1m):v8 228 g5l:=A8 (fun fn h=>d12 h) [(256,_),(262,_),(265,_),(257,_)] (.cons a9o (.cons a1x (.cons b6u (.cons hst .nil)))) fun U fn hfn ⟨(a,b),ha,hbl,hb0,hba⟩ vs bs hv hb=>by
 have hp:=hfn 256 _ rfl;have hs:=hfn 257 _ rfl;have ha:a.length < 9000:=ha;have hbl:b.length < 9000:=hbl;have hb0:0 < s3 b:=hb0;have hba:s3 b ∣ s3 a:=hba;have hv:z7 [.c (.s a),.c (.s b)] vs:=hv;have hb:u0 [] bs:=hb;show t6 U _ fun v bs'=>A3 (.ret (.t [.c (.s (s4 (s3 a / s3 b))),.c (.s E9)])) v∧u0 [] bs';have la:=a1d ha;have lb:=a1d hbl;have e1:=f1o hb0 hba;have e2:=e2o hba;have hx0:(s3 b).natAbs ≠ 0:=oM;have hq:(u3 ((s3 a).natAbs / (s3 b).natAbs)).length≤(u3 (s3 a).natAbs).length:=Q2 (Nat.div_le_self _ _);unfold e3o;refine Zq ?_;intros;refine s6 hp ⟨a,by show a.length < 90000;omega⟩ (r:=.a (J0 (decide (s3 a < 0)) (s3 a).natAbs)) rfl z6 .nil fun _ _ hv1 _=>?_;have hv1:RV (.a [.b _,.l (B8 _)]) _:=hv1;refine Zq ?_;intros;refine s6 hp ⟨b,by show b.length < 90000;omega⟩ (r:=.a (J0 (decide (s3 b < 0)) (s3 b).natAbs)) rfl z6 .nil fun _ _ hv2 _=>?_;have hv2:RV (.a [.b _,.l (B8 _)]) _:=hv2;generalize (s3 a).natAbs=x at *;generalize (s3 b).natAbs=y at *;have hly:(B8 y).length ≠ 0:=by
  intro e;simp only [B8,List.length_map,List.length_eq_zero_iff] at e;exact hx0 (b4r (e.trans H6.symm))
 refine Zq ?_;intros;refine a83 aS (b4q y) fun t off ht=>?_;(refine Zq ?_;with_reducible repeat' first|intro _|apply aI)
 ·exact absurd oM hly
 ·refine s6 (hfn 265 _ rfl) ⟨(x,y),by show (u3 x).length < 20000;omega,by show (u3 y).length < 20000;omega,hx0,la,lb⟩ (r:=.t [.sl 1 (B8 (x / y)),.sl 1 (B8 0)]) (by show z8.ret (.t [.sl 1 (B8 (x / y)),.sl 1 (B8 (x % y))])=_;rw [e2]) (.k (V4 aS) (.k (V4 aS) .nil)) .nil fun _ _ _ _=>?_;(refine Zq ?_;with_reducible repeat' first|intro _|apply aI)
  all_goals
   refine Y8 (gs:=J0 (decide (s3 a < 0) != decide (s3 b < 0)) (x / y)) (.cells _ _ (.k (.b _) (.k (.cl _ _ _ _ _ (by simp [B8]) aS) .nil))) rfl fun _ hc1=>?_;refine Zq ?_;intros;refine Y8 (gs:=J0 (decide (s3 b < 0)) 0) (.cells _ _ (.k (.q _ _ aS) (.k (.cl _ _ _ _ _ (by simp [B8]) aS) .nil))) rfl fun _ hc2=>?_;(refine Zq ?_;with_reducible repeat' first|intro _|apply aI)
   all_goals first
   | exact absurd ‹0 < (((u3 0).length:Nat):Int)› (by simp [H6])
   | refine s6 hs ⟨(_,x / y),by show (u3 (x / y)).length < 20000;omega⟩ (r:=.c (.s (s4 (s3 a / s3 b)))) (by show z8.ret (.c (.s (L1 (decide (s3 a < 0) != decide (s3 b < 0)) (x / y))))=_;rw [e1]) (.cons _ _ _ _ (.a _ _ _ rfl aS) .nil) .nil fun _ _ _ _=>?_
     refine Zq ?_;intros;refine s6 hs ⟨(decide (s3 b < 0),0),by show (u3 0).length < 20000;simp [H6]⟩ (r:=.c (.s E9)) rfl (.k (.a _ _ _ rfl aS) .nil) .nil fun _ _ _ _=>?_;refine Zq ?_;intros;exact s9 ⟨.ret _ _ z6,.nil⟩
theorem b6i (s:u5):s3 (K7 s)=s3 s:=by rw [a0l,u2]
theorem c94 {a b a' b':u5} (h1:s3 a=s3 a') (h2:s3 b=s3 b'):D6 a b=D6 a' b':=by unfold D6;rw [h1,h2]
def c1u (R:u5→u5→z8):Sp where
 ι:={ p:u5 × u5 // p.1.length < 8000∧p.2.length < 8000 }
 A p:=[.c (.s p.1.1),.c (.s p.1.2)]
 B _:=[]
 R p:=R p.1.1 p.1.2
 B' _:=[]
 inj i j vs bs h k _ _:=by
  obtain ⟨_,_,h1,k1,h,k⟩:=h.two k;obtain ⟨_,_,h2,k2,h,k⟩:=h.two k;rw [T2 h1 k1,T2 h2 k2];exact ⟨rfl,rfl⟩
theorem d1c (n:Int):(s4 (-n)).length≤(s4 n).length+1:=by
 unfold s4;rw [Int.natAbs_neg];split <;> split <;> simp <;> omega
theorem g48 (x:Int):D6 (s4 x) (s4 0)=(E9,P5):=by unfold D6;rw [u2,if_pos rfl]
theorem g49 (x:Int):D6 (s4 x) (s4 1)=(s4 x,s4 1):=by
 rw [a81 x 1 dE];simp
theorem f1i (x y:Int):D6 (s4 x) (s4 y)=D6 (s4 (-x)) (s4 (-y)):=by
 rw [O9,O9];simp only [u2];have:qn x y=qn (-x) (-y):=by
  unfold qn;rw [Int.natAbs_neg,Int.natAbs_neg];by_cases hy:y=0
  ·rw [if_pos hy,if_pos oM]
  ·rw [if_neg hy,if_neg (show ¬-y=0 by omega)];by_cases hx:x=0
   ·subst hx;simp <;> (intro h;exact absurd h hy)
   ·have e:(if (x < 0)=(y < 0) then (1:Int) else -1)=if (-x < 0)=(-y < 0) then 1 else -1:=by
     by_cases h1:x < 0 <;> by_cases h2:y < 0 <;> simp [h1,h2] <;> omega
    rw [e]
 rw [this]
theorem f1h {m n:Int} (hn:0 < n) (h:Nat.gcd m.natAbs n.natAbs=1):D6 (s4 m) (s4 n)=(s4 m,s4 n):=by
 rw [a81 m n hn,h];simp
theorem c62 (hst:v8 257 b1m):v8 258 (c1u fun a b=>.ret (.t [.c (.s (D6 a b).1),.c (.s (D6 a b).2)])):=A8 (fun fn h=>f0z h) [(262,_),(264,_),(287,_),(228,_)] (.cons a1x (.cons c60 (.cons (g4o hst) (.cons (e2b hst) .nil)))) fun U fn hfn ⟨(a,b),ha,hbl⟩ vs bs hv hb=>by
 have hd:=hfn 262 _ rfl;have hn:=hfn 264 _ rfl;have hq:=hfn 228 _ rfl;have ha:a.length < 8000:=ha;have hbl:b.length < 8000:=hbl;have hv:z7 [.c (.s a),.c (.s b)] vs:=hv;have hb:u0 [] bs:=hb;show t6 U _ fun v bs'=>A3 (.ret (.t [.c (.s (D6 a b).1),.c (.s (D6 a b).2)])) v∧u0 [] bs';unfold f8h;refine Zq ?_;intros;refine s6 hd ⟨a,by show a.length < 90000;omega⟩ (r:=.c (.s (K7 a))) rfl z6 .nil fun _ _ _ _=>?_;refine Zq ?_;intros;refine s6 hd ⟨b,by show b.length < 90000;omega⟩ (r:=.c (.s (K7 b))) rfl z6 .nil fun _ _ _ _=>?_;have la:(K7 a).length < 8000:=by have:=b0o a;omega
 have lb:(K7 b).length < 8000:=by have:=b0o b;omega
 rw [c94 (b6i a).symm (b6i b).symm];rw [a0l a,a0l b] at *;generalize s3 a=x at *;generalize s3 b=y at *;have h0:=b51 y;have hbt:(((s4 y).getD 0 0).toNat:Int)=bt (s4 y) 0:=rfl;refine Zy ?_;intros;refine c8k (fun vs bs=>∃ m n:Int,z7 [.c (.s (s4 m)),.c (.s (s4 n))] vs∧u0 [] bs∧0 < n∧(s4 m).length < 8500∧(s4 n).length < 8500∧D6 (s4 x) (s4 y)=D6 (s4 m) (s4 n)) ?_ ?_
 ·rintro vs' bs' ⟨m,n,hv',hb',hn0,hml,hnl,he⟩;rw [he];have hgv:z8.ret (.c (.s (s8 (Nat.gcd (s3 (s4 m)).natAbs (s3 (s4 n)).natAbs))))=.ret (.c (.s (s8 (Nat.gcd m.natAbs n.natAbs)))):=by rw [u2,u2]
  obtain ⟨g,hge⟩:∃ g,g=Nat.gcd m.natAbs n.natAbs:=⟨_,rfl⟩;rw [← hge] at hgv;have hg0:0 < g:=by rw [hge];exact Nat.gcd_pos_of_pos_right _ oM
  have hgd:(g:Int) ∣ m∧(g:Int) ∣ n:=by
   rw [hge];exact ⟨Int.ofNat_dvd_left.2 (Nat.gcd_dvd_left _ _),Int.ofNat_dvd_left.2 (Nat.gcd_dvd_right _ _)⟩
  have hdv:s3 (s8 g)=(g:Int):=B3 g;have hgl:(s8 g).length < 9000:=by
   have h1:=Z9 g;have h2:(t8 g).length≤(t8 n.natAbs).length:=D8 (by rw [hge];exact Nat.le_of_dvd oM (Nat.gcd_dvd_right _ _));have h3:=K8 n;omega
  refine Zq ?_;intros;refine s6 (hfn 287 _ rfl) ⟨(s4 m,s4 n),by show (s4 m).length < 9000;omega,by show (s4 n).length < 9000;omega⟩ (r:=.c (.s (s8 g))) hgv z6 .nil fun _ _ _ _=>?_;(refine Zq ?_;with_reducible repeat' first|intro _|apply aI)
  ·have e1:g=1:=by
    have:=(b50 (g:Int)).1 (by rw [a84];assumption);omega
   rw [f1h hn0 (by rw [← hge];exact e1)];exact s9 ⟨.ret _ _ z6,.nil⟩
  ·rw [a81 m n hn0,← hge];refine s6 hq ⟨(s4 m,s8 g),by show (s4 m).length < 9000;omega,hgl,by show 0 < s3 (s8 g);omega,by show s3 (s8 g) ∣ s3 (s4 m);rw [hdv,u2];exact hgd.1⟩ (r:=.t [.c (.s (s4 (m / g))),.c (.s E9)]) (by show z8.ret (.t [.c (.s (s4 (s3 (s4 m) / s3 (s8 g)))),.c (.s E9)])=_;rw [hdv,u2]) z6 .nil fun _ _ _ _=>?_;refine Zq ?_;intros;refine s6 hq ⟨(s4 n,s8 g),by show (s4 n).length < 9000;omega,hgl,by show 0 < s3 (s8 g);omega,by show s3 (s8 g) ∣ s3 (s4 n);rw [hdv,u2];exact hgd.2⟩ (r:=.t [.c (.s (s4 (n / g))),.c (.s E9)]) (by show z8.ret (.t [.c (.s (s4 (s3 (s4 n) / s3 (s8 g)))),.c (.s E9)])=_;rw [hdv,u2]) z6 .nil fun _ _ _ _=>?_;refine Zq ?_;intros;exact s9 ⟨.ret _ _ z6,.nil⟩
 ·intro c hc;(refine Zq ?_;with_reducible repeat' first|intro _|apply aI)
  ·have e:y=0:=(a2w y).1 ‹_›;subst e;rw [g48];exact s9 ⟨.ret _ _ z6,.nil⟩
  ·have e:y=1:=(b50 y).1 ‹_›;subst e;rw [g49];exact s9 ⟨.ret _ _ z6,.nil⟩
  ·have e:y < 0:=(a5u y).1 ‹_›;refine s6 hn ⟨s4 x,by show (s4 x).length < 90000;omega⟩ (r:=.c (.s (s4 (-x)))) (by show z8.ret (.c (.s (s4 (-s3 (s4 x)))))=_;rw [u2]) z6 .nil fun _ _ _ _=>?_;refine Zq ?_;intros;refine s6 hn ⟨s4 y,by show (s4 y).length < 90000;omega⟩ (r:=.c (.s (s4 (-y)))) (by show z8.ret (.c (.s (s4 (-s3 (s4 y)))))=_;rw [u2]) z6 .nil fun _ _ _ _=>?_;refine Zq ?_;intros;have l1:=d1c x;have l2:=d1c y;exact hc _ _ ⟨-x,-y,by (exact z6),.nil,oM,oM,oM,f1i x y⟩
  ·have e:¬y < 0:=fun k=>‹¬(((s4 y).getD (Int.toNat 0) 0).toNat:Int)=45› ((a5u y).2 k);have e0:y ≠ 0:=fun k=>‹¬s4 y=s5 1 48› ((a2w y).2 k);exact hc _ _ ⟨x,y,by (exact z6),.nil,oM,oM,oM,rfl⟩
inductive RT where
 | nil
 | node (k:Int) (nu de:u5) (s:Sy) (t:u5) (ps r:RT)
def RT.rows:RT→List (List G)
 | .nil=>[]
 | .node k nu de s t ps r=>[.i .i64 k,.s nu,.s de,.s s.1,.s s.2,.s t,.l ps.rows] :: r.rows
structure Ob where
 k:Int
 nu:u5
 de:u5
 s:Sy
 t:u5
 ps:RT
def Ob.g (o:Ob):List G:=[.i .i64 o.k,.s o.nu,.s o.de,.s o.s.1,.s o.s.2,.s o.t,.l o.ps.rows]
def RT.obs:RT→List Ob
 | .nil=>[]
 | .node k nu de s t ps r=>⟨k,nu,de,s,t,ps⟩ :: r.obs
theorem RT.rows_eq:∀ p:RT,p.rows=p.obs.map Ob.g
 | .nil=>rfl
 | .node _ _ _ _ _ _ r=>by simp only [RT.rows,RT.obs,List.map_cons,r.rows_eq];rfl
theorem Ob.g_eq (o:Ob):o.g=[.i .i64 o.k,.s o.nu,.s o.de,.s o.s.1,.s o.s.2,.s o.t,.l (o.ps.obs.map Ob.g)]:=by rw [← RT.rows_eq];rfl
theorem Ob.g_len (o:Ob):o.g.length=7:=rfl
theorem RT.rows_inj:∀ {p q:RT},p.rows=q.rows→p=q
 | .nil,.nil,_=>rfl
 | .nil,.node ..,h=>by simp [RT.rows] at h
 | .node ..,.nil,h=>by simp [RT.rows] at h
 | .node k nu de s t ps r,.node k' nu' de' s' t' ps' r',h=>by
  simp only [RT.rows,List.cons.injEq,G.i.injEq,G.s.injEq,G.l.injEq,true_and,and_true] at h;obtain ⟨⟨h1,h2,h3,h4,h5,h6,h7⟩,h8⟩:=h;rw [h1,h2,h3,Prod.ext h4 h5,h6,RT.rows_inj h7,RT.rows_inj h8]
theorem Ob.g_inj {a b:Ob} (h:a.g=b.g):a=b:=by
 obtain ⟨k,nu,de,s,t,ps⟩:=a;obtain ⟨k',nu',de',s',t',ps'⟩:=b;simp only [Ob.g,List.cons.injEq,G.i.injEq,G.s.injEq,G.l.injEq,true_and,and_true] at h;obtain ⟨h1,h2,h3,h4,h5,h6,h7⟩:=h;rw [h1,h2,h3,Prod.ext h4 h5,h6,RT.rows_inj h7]
def RT.sz:RT→Nat
 | .nil=>0
 | .node _ _ _ _ _ ps r=>1+ps.sz+r.sz
def Ob.sz (o:Ob):Nat:=1+o.ps.sz
theorem RT.obs_sz:∀ {p:RT} {x:Ob},x ∈ p.obs→x.sz≤p.sz
 | .nil,x,h=>by simp [RT.obs] at h
 | .node k nu de s t ps r,x,h=>by
  simp only [RT.obs,List.mem_cons] at h;rcases h with rfl | h
  ·simp only [Ob.sz,RT.sz];omega
  ·have:=RT.obs_sz h;simp only [RT.sz];omega
theorem RT.two_sz {p:RT} {x y:Ob} (h:p.obs=[x,y]):x.sz+y.sz=p.sz:=by
 cases p with
 | nil=>cases h
 | node k nu de s t ps r =>
  simp only [RT.obs,List.cons.injEq] at h;obtain ⟨rfl,h⟩:=h;cases r with
  | nil=>cases h
  | node k nu de s t ps' r =>
   simp only [RT.obs,List.cons.injEq] at h;obtain ⟨rfl,h⟩:=h;cases r with
   | nil=>simp only [Ob.sz,RT.sz];omega
   | node=>simp [RT.obs] at h
theorem g1c {l:List Ob} (h:((l.length:Nat):Int)=2):∃ x y,l=[x,y]:=by
 match l,h with
 | [x,y],_=>exact ⟨x,y,rfl⟩
 | [],h=>simp at h
 | [_],h=>simp at h
 | _ :: _ :: _ :: _,h=>simp at h;omega
def RT.sm:RT→Prop
 | .nil=>True
 | .node _ nu de s _ ps r=>(nu.length < 8000∧de.length < 8000∧s.1.length < 90000∧s.2.length < 90000)∧ps.sm∧r.sm
def Ob.sm (o:Ob):Prop:=(o.nu.length < 8000∧o.de.length < 8000∧o.s.1.length < 90000∧o.s.2.length < 90000)∧o.ps.sm
theorem RT.obs_sm:∀ {p:RT} {x:Ob},p.sm→x ∈ p.obs→x.sm
 | .nil,x,_,h=>by simp [RT.obs] at h
 | .node k nu de s t ps r,x,hs,h=>by
  simp only [RT.obs,List.mem_cons] at h;rcases h with rfl | h
  ·exact ⟨hs.1,hs.2.1⟩
  ·exact RT.obs_sm hs.2.2 h
def RT.rest:RT→List (Int→Int)
 | .nil=>[]
 | .node _ _ _ _ _ ps r=>(fun l=>if 0 < l then match ps.rest with
  | [f,g]=>g (f (l - 1))
  | _=>l - 1 else l - 1) :: r.rest
def Ob.rest (o:Ob) (l:Int):Int:=if 0 < l then match o.ps.rest with
 | [f,g]=>g (f (l - 1))
 | _=>l - 1 else l - 1
theorem RT.rest_eq:∀ p:RT,p.rest=p.obs.map Ob.rest
 | .nil=>rfl
 | .node _ _ _ _ _ ps r=>by simp only [RT.rest,RT.obs,List.map_cons,r.rest_eq];rfl
theorem Ob.rest_eq (o:Ob) (l:Int):o.rest l=if 0 < l then match o.ps.obs with
  | [x,y]=>y.rest (x.rest (l - 1))
  | _=>l - 1 else l - 1:=by
 unfold Ob.rest;rw [o.ps.rest_eq];rcases o.ps.obs with _ | ⟨x,_ | ⟨y,_ | ⟨z,r⟩⟩⟩ <;> rfl
def RT.nd:RT→List Nat
 | .nil=>[]
 | .node _ _ _ _ _ ps r=>(match ps.nd with
  | [f,g]=>1+f+g
  | _=>1) :: r.nd
def Ob.nd (o:Ob):Nat:=match o.ps.nd with
 | [f,g]=>1+f+g
 | _=>1
theorem RT.nd_eq:∀ p:RT,p.nd=p.obs.map Ob.nd
 | .nil=>rfl
 | .node _ _ _ _ _ ps r=>by simp only [RT.nd,RT.obs,List.map_cons,r.nd_eq];rfl
theorem Ob.nd_eq (o:Ob):o.nd=match o.ps.obs with
  | [x,y]=>1+x.nd+y.nd
  | _=>1:=by
 unfold Ob.nd;rw [o.ps.nd_eq];rcases o.ps.obs with _ | ⟨x,_ | ⟨y,_ | ⟨z,r⟩⟩⟩ <;> rfl
theorem Ob.nd_pos (o:Ob):1≤o.nd:=by rw [o.nd_eq];split <;> omega
theorem b7d {o:Ob} {l:Int} (h:l≤0):o.rest l=l - 1:=by rw [o.rest_eq,if_neg oM]
theorem b43:∀ (n:Nat) (o:Ob) (l:Int),o.sz≤n→0≤l→((o.nd:Int)≤l→o.rest l=l - o.nd)∧(l < o.nd→o.rest l < 0)∧-1 - l≤o.rest l
 | 0,o,_,h,_=>by simp [Ob.sz] at h
 | n+1,o,l,h,hl=>by
  have h2:o.sz=1+o.ps.sz:=rfl;rw [o.rest_eq,o.nd_eq];by_cases h0:0 < l
  ·rw [if_pos h0];rcases e:o.ps.obs with _ | ⟨x,_ | ⟨y,_ | ⟨z,r⟩⟩⟩
   ·simp only [];omega
   ·simp only [];omega
   ·simp only [];have h1:=RT.two_sz e;have h3:1≤y.sz:=by simp [Ob.sz]
    have h4:1≤x.sz:=by simp [Ob.sz]
    have i1:=b43 n x (l - 1) oM oM;have p1:=x.nd_pos;have p2:=y.nd_pos;rcases Int.lt_or_le (x.rest (l - 1)) 0 with hx | hx
    ·rw [b7d (o:=y) oM];omega
    ·have i2:=b43 n y (x.rest (l - 1)) oM hx;have i3:=b7d (o:=y) (l:=0) oM;omega
   ·simp only [];omega
  ·rw [if_neg h0];have:=o.nd_pos;rw [o.nd_eq] at this;omega
theorem d1h (p:RT):(∃ x y,p.obs=[x,y])∨(¬((p.obs.length:Nat):Int)=2∧∀ x y,p.obs ≠ [x,y]):=by
 by_cases h:((p.obs.length:Nat):Int)=2
 ·exact .inl (g1c h)
 ·exact .inr ⟨h,fun x y e=>h (by rw [e];rfl)⟩
theorem e3u {o x y:Ob} {l:Int} (h:o.ps.obs=[x,y]) (hl:0 < l):o.rest l=y.rest (x.rest (l - 1)):=by rw [o.rest_eq,if_pos hl,h]
theorem f1k {o:Ob} {l:Int} (h:∀ x y,o.ps.obs ≠ [x,y]):o.rest l=l - 1:=by
 rw [o.rest_eq];split
 ·split
  ·rename_i e;exact absurd e (h _ _)
  ·rfl
 ·rfl
def d4y (ok:Ob→Prop) (g:Ob→GV):Sp where
 ι:={ o:Ob // ok o }
 A o:=[.a o.1.g]
 B _:=[]
 R o:=.ret (g o.1)
 B' _:=[]
 inj i j vs bs h k _ _:=by
  obtain ⟨_,_,h1,k1,h,k⟩:=h.two k;rw [Ob.g_inj (h1.a_inj k1)];exact ⟨rfl,rfl⟩
def d9t:Sp where
 ι:={ p:Ob × Int // -1000000000≤p.2∧p.2 < 90000 }
 A p:=[.a p.1.1.g,.c (.i .i64 p.1.2)]
 B _:=[]
 R p:=.ret (.c (.i .i64 (p.1.1.rest p.1.2)))
 B' _:=[]
 inj i j vs bs h k _ _:=by
  obtain ⟨_,_,h1,k1,h,k⟩:=h.two k;obtain ⟨_,_,h2,k2,h,k⟩:=h.two k;rw [Ob.g_inj (h1.a_inj k1),b4l h2 k2];exact ⟨rfl,rfl⟩
theorem g4s:v8 233 d9t:=Y2 (fun p=>p.1.2.toNat) fun n ih=>A8 (fun fn h=>f0m h) [(233,d9t.lt _ n)] (.cons ih .nil) fun U fn hfn ⟨⟨(o,l),hl1,hl2⟩,hn⟩ vs bs hv hb=>by
 have hl1:-1000000000≤l:=hl1;have hl2:l < 90000:=hl2;have hv:z7 [.a o.g,.c (.i .i64 l)] vs:=hv;have hb:u0 [] bs:=hb;have hn:l.toNat < n+1:=hn;show t6 U _ fun v bs'=>A3 (.ret (.c (.i .i64 (o.rest l)))) v∧u0 [] bs';unfold f72;refine Zq ?_;intros;refine I7 (fun (p:Ob × Int) vs bs=>∃ (x:Ob) (l':Int),p=(x,l')∧vs=[.int .i64 l',.ptr 0 0]∧u0 [x.g] bs∧x.rest l'=o.rest l∧-1000000000≤l'∧l' < 90000∧l'≤l) (fun p=>p.2.toNat) (o,l) ⟨o,l,rfl,rfl,RB.bx aS rfl,rfl,hl1,hl2,Int.le_refl _⟩ (show l.toNat < E3 by simp only [E3];omega) ?_;rintro self _ _ _ ⟨x,l',rfl,rfl,hb,he,h1,h2,h3⟩ ih2;rw [x.g_eq] at hb;rcases d1h x.ps with ⟨a,b,e⟩ | ⟨hne,hno⟩
 ·rw [e] at hb;(refine Zq ?_;with_reducible repeat' first|intro _|apply aI)
  ·(refine F1 (f:=Ob.g) aS (B7 Ob.g_len) fun _ _ _=>?_)
   (refine Zq ?_;with_reducible repeat' first|intro _|apply aI)
   ·(refine F1 (f:=Ob.g) aS (B7 Ob.g_len) fun _ _ _=>?_)
    refine Zq ?_;intros;have k1:=b43 a.sz a (l' - 1) (Nat.le_refl _) oM;refine s6 (hfn 233 _ rfl) ⟨⟨(a,l' - 1),show -1000000000≤l' - 1 by omega,show l' - 1 < 90000 by omega⟩,show (l' - 1).toNat < n by omega⟩ (r:=.c (.i .i64 (a.rest (l' - 1)))) rfl z6 .nil fun _ _ _ _=>?_;refine Zq ?_;intros
    (refine F1 (f:=Ob.g) aS (B7 Ob.g_len) fun _ _ _=>?_)
    refine Zq ?_;intros;have k2:a.rest (l' - 1)≤l' - 1 - 1:=by
     have:=a.nd_pos;rcases Int.lt_or_le (l' - 1) a.nd with h | h
     ·have:=k1.2.1 h;omega
     ·have:=k1.1 h;omega
    exact ih2 (b,a.rest (l' - 1)) _ _ ⟨b,_,rfl,rfl,RB.bx aS rfl,by rw [← he,e3u e oM],oM,oM,oM⟩ (show (a.rest (l' - 1)).toNat < l'.toNat by omega)
   ·exact absurd rfl ‹¬_›
  ·rw [← he,b7d oM];exact s9 ⟨.ret _ _ (.i _ _),.nil⟩
 ·rw [← he,f1k hno];(refine Zq ?_;with_reducible repeat' first|intro _|apply aI)
  ·(refine F1 (f:=Ob.g) aS (B7 Ob.g_len) fun _ _ _=>?_)
   (refine Zq ?_;with_reducible repeat' first|intro _|apply aI)
   ·exact absurd ‹_› hne
   ·exact s9 ⟨.ret _ _ (.i _ _),.nil⟩
  ·exact s9 ⟨.ret _ _ (.i _ _),.nil⟩
theorem e7y:v8 188 (d4y (fun _=>True) fun o=>.c (.i .i64 (min o.nd 3001:Nat))):=A8 (fun fn h=>e9z h) [(233,_)] (.cons g4s .nil) fun U fn hfn ⟨o,_⟩ vs bs hv hb=>by
 have hv:z7 [.a o.g] vs:=hv;have hb:u0 [] bs:=hb;show t6 U _ fun v bs'=>A3 (.ret (.c (.i .i64 (min o.nd 3001:Nat)))) v∧u0 [] bs';unfold f7e;have key:=b43 o.sz o 3001 (Nat.le_refl _) oM;refine Zq ?_;intros;refine s6 (hfn 233 _ rfl) ⟨(o,3001),oM,oM⟩ (r:=.c (.i .i64 (o.rest 3001))) rfl z6 .nil fun _ _ _ _=>?_;refine Zq ?_;intros;refine d9h ?_;refine b49 (by split <;> omega) ?_;exact s9 ⟨.ret _ _ (rvI (by split <;> omega)),.nil⟩
def J4 (o:Ob) (n s t:Bool):Bool:=(n || decide (o.nu=[]∧o.de=[])) && (s || decide (o.s.1=[]∧o.s.2=[])) && (t || decide (o.t=[]))
def g0y:Sp where
 ι:=Ob × Bool × Bool × Bool
 A p:=[.a p.1.g,.c (.b p.2.1),.c (.b p.2.2.1),.c (.b p.2.2.2)]
 B _:=[]
 R p:=.ret (.c (.b (J4 p.1 p.2.1 p.2.2.1 p.2.2.2)))
 B' _:=[]
 inj i j vs bs h k _ _:=by
  obtain ⟨_,_,h1,k1,h,k⟩:=h.two k;obtain ⟨_,_,h2,k2,h,k⟩:=h.two k;obtain ⟨_,_,h3,k3,h,k⟩:=h.two k;obtain ⟨_,_,h4,k4,h,k⟩:=h.two k;rw [Ob.g_inj (h1.a_inj k1),b7w h2 k2,b7w h3 k3,b7w h4 k4];exact ⟨rfl,rfl⟩
theorem g4l:v8 234 g0y:=A8 (fun fn h=>f0n h) [] .nil fun U fn hfn ⟨o,n,s,t⟩ vs bs hv hb=>by
 have hv:z7 [.a [.i .i64 o.k,.s o.nu,.s o.de,.s o.s.1,.s o.s.2,.s o.t,.l o.ps.rows],.c (.b n),.c (.b s),.c (.b t)] vs:=hv;have hb:u0 [] bs:=hb;show t6 U _ fun v bs'=>A3 (.ret (.c (.b (J4 o n s t)))) v∧u0 [] bs';unfold f73;cases n <;> cases s <;> cases t
 all_goals
  (refine Zq ?_;with_reducible repeat' first|intro _|apply aI)
  all_goals try simp only [show s5 0 0=[] from rfl] at *
  all_goals exact P0 fun e=>⟨.ret _ _ (by
   clear hv hb hfn
   first
   | exact T6 (by simp_all [J4])
   | (subst e;refine rvB ?_;rw [b2m];show _=decide (o.t=[]);simp_all [J4])),.nil⟩
theorem g4v:v8 236 (e6f fun s=>.c (.b (named s))):=A8 (fun fn h=>f0p h) [] .nil fun U fn hfn ⟨s,h1,h2⟩ vs bs hv hb=>by
 have h1:s.1.length < 90000:=h1;have hv:z7 [.a [.s s.1,.s s.2]] vs:=hv;have hb:u0 [] bs:=hb;show t6 U _ fun v bs'=>A3 (.ret (.c (.b (named s)))) v∧u0 [] bs';unfold f75;refine Zy ?_;intros;refine c8k (fun vs bs=>∃ b:Bool,z7 [.p 0 0,.c (.b b)] vs∧u0 [[.s s.1,.s s.2]] bs∧(U=CU→b=!decide (1≤s.1.length∧s.1.length≤40∧1≤s.2.length∧s.2.length≤40))) ?_ ?_
 ·rintro vs' bs' ⟨b,hv',hb',hbe⟩;refine fun e=>?_;have hbe:=hbe e;refine (show t6 U _ _ from ?_) e;(refine Zq ?_;with_reducible repeat' first|intro _|apply aI)
  ·have:named s=false:=by
    have hb1:b=true:=‹_›;rw [hb1] at hbe;have h3:¬(1≤s.1.length∧s.1.length≤40∧1≤s.2.length∧s.2.length≤40):=fun h=>by rw [decide_eq_true h] at hbe;cases hbe
    unfold named V5;rw [Bool.eq_false_iff];intro h4;simp only [Bool.and_eq_true,decide_eq_true_iff] at h4;omega
   rw [this];exact s9 ⟨.ret _ _ (.kn _),.nil⟩
  ·have h3:1≤s.1.length∧s.1.length≤40∧1≤s.2.length∧s.2.length≤40:=by
    have hb1:b=false:=by simpa using ‹¬b=true›
    rw [hb1] at hbe;by_cases h:1≤s.1.length∧s.1.length≤40∧1≤s.2.length∧s.2.length≤40
    ·exact h
    ·rw [decide_eq_false h] at hbe;cases hbe
   have hnm:named s=(decide (97≤bt s.1 0∧bt s.1 0≤122) && P9 s.1 0):=by
    unfold named V5;rw [Bool.eq_iff_iff];simp only [Bool.and_eq_true,decide_eq_true_iff];constructor
    ·rintro ⟨⟨a,b⟩,c⟩;exact ⟨⟨oM,oM⟩,b⟩
    ·rintro ⟨a,b⟩;exact ⟨⟨⟨oM,oM,oM,oM⟩,b⟩,oM⟩
   rw [hnm];refine I7 (fun (i:Nat) vs bs=>vs=[.ptr 0 0,.int .i64 s.1.length,.int .i64 i]∧u0 [[.s s.1,.s s.2]] bs∧i≤s.1.length∧P9 s.1 i=P9 s.1 0∧(i=0∨97≤bt s.1 0∧bt s.1 0≤122)) (fun i=>s.1.length - i) 0 ⟨rfl,RB.bx aS rfl,oM,rfl,.inl rfl⟩ (by simp only [E3];omega) ?_;rintro self i _ _ ⟨rfl,hb,hi,he,h0⟩ ih;have hbi:bt s.1 i=((s.1.getD i 0).toNat:Int):=rfl;have hz:i=0→bt s.1 0=((s.1.getD i 0).toNat:Int):=by rintro rfl;rfl
   have no:¬a6a (bt s.1 i)=true→i < s.1.length→(decide (97≤bt s.1 0∧bt s.1 0≤122) && P9 s.1 0)=false:=fun h hl=>by rw [← he,e8m hl h,Bool.and_false]
   have no2:¬(97≤bt s.1 0∧bt s.1 0≤122)→(decide (97≤bt s.1 0∧bt s.1 0≤122) && P9 s.1 0)=false:=fun h=>by rw [decide_eq_false h];rfl
   (refine Zq ?_;with_reducible repeat' first|intro _|apply aI)
   all_goals first
    | exact ih (i+1) _ _ ⟨rfl,RB.bx aS rfl,oM,(a2s (i:=i) oM (f5o.2 oM)).symm.trans he,.inr oM⟩ oM
    | exact s9 ⟨.ret _ _ (T6 (no (fun h=>by have:=f5o.1 h;omega) oM)),.nil⟩
    | exact s9 ⟨.ret _ _ (T6 (no2 oM)),.nil⟩
    | skip
   have hl:¬i < s.1.length:=oM;rw [decide_eq_true oM,← he,c1e hl];exact s9 ⟨.ret _ _ (.kn _),.nil⟩
 ·intro c hc;(refine Zq ?_;with_reducible repeat' first|intro _|apply aI)
  all_goals refine hc _ _ ⟨_,by (exact z6),RB.bx aS rfl,fun e=>?_⟩
  all_goals first
   | exact (congrArg (!·) (decide_eq_false oM)).symm
   | skip
  subst e;rw [c5i];by_cases h:(40:Int) < (s.2.length:Int)
  ·rw [decide_eq_true h,decide_eq_false oM];rfl
  ·rw [decide_eq_false h,decide_eq_true oM];rfl
def a2o (s:u5):Nat:=(s8 (s3 s).natAbs).length
def a19 (nu de:u5):Bool:=C2 nu && C2 de && decide (a2o nu≤100) && decide (a2o de≤100) && decide (D6 nu de=(nu,de))
theorem e7v (hst:v8 257 b1m):v8 235 (c1u fun nu de=>.ret (.c (.b (a19 nu de)))):=A8 (fun fn h=>f0o h) [(268,_),(260,_),(258,_)] (.cons c05 (.cons c6y (.cons (c62 hst) .nil))) fun U fn hfn ⟨(nu,de),h1,h2⟩ vs bs hv hb=>by
 have hva:=hfn 268 _ rfl;have hdi:=hfn 260 _ rfl;have h1:nu.length < 8000:=h1;have h2:de.length < 8000:=h2;have hv:z7 [.c (.s nu),.c (.s de)] vs:=hv;have hb:u0 [] bs:=hb;show t6 U _ fun v bs'=>A3 (.ret (.c (.b (a19 nu de)))) v∧u0 [] bs';unfold f74;refine Zy ?_;intros;refine c8k (fun vs bs=>∃ b:Bool,z7 [.c (.s nu),.c (.s de),.c (.b b)] vs∧u0 [] bs∧(U=CU→b=!(C2 nu && C2 de && decide (a2o nu≤100) && decide (a2o de≤100)))) ?_ ?_
 ·rintro vs' bs' ⟨b,hv',hb',hbe⟩;refine fun e=>?_;have hbe:=hbe e;refine (show t6 U _ _ from ?_) e;have hlb:a19 nu de=(!b && decide (D6 nu de=(nu,de))):=by rw [hbe,Bool.not_not];rfl
  rw [hlb];(refine Zq ?_;with_reducible repeat' first|intro _|apply aI)
  ·rw [‹b=true›];exact s9 ⟨.ret _ _ (.kn _),.nil⟩
  ·have hb1:b=false:=by simpa using ‹¬b=true›
   rw [hb1];refine s6 (hfn 258 _ rfl) ⟨(nu,de),h1,h2⟩ (r:=.t [.c (.s (D6 nu de).1),.c (.s (D6 nu de).2)]) rfl z6 .nil fun _ _ _ _=>?_;generalize D6 nu de=q at *;obtain ⟨q1,q2⟩:=q;(refine Zq ?_;with_reducible repeat' first|intro _|apply aI)
   ·have e1:q1=nu:=‹_›;exact P0 fun e=>by
     subst e;refine ⟨.ret _ _ (rvB ?_),.nil⟩;rw [cuS];simp [e1]
   ·have e1:¬q1=nu:=‹_›;exact s9 ⟨.ret _ _ (T6 (by simp [e1])),.nil⟩
 ·intro c hc;have d1:(s8 (s3 nu).natAbs).length=a2o nu:=rfl;have d2:(s8 (s3 de).natAbs).length=a2o de:=rfl;refine Zq ?_;intros;refine s6 hva ⟨nu,by show nu.length < 90000;omega⟩ (r:=.c (.b (C2 nu))) rfl z6 .nil fun _ _ _ _=>?_;(refine Zq ?_;with_reducible repeat' first|intro _|apply aI)
  ·refine s6 hva ⟨de,by show de.length < 90000;omega⟩ (r:=.c (.b (C2 de))) rfl z6 .nil fun _ _ _ _=>?_;(refine Zq ?_;with_reducible repeat' first|intro _|apply aI)
   ·refine s6 hdi ⟨nu,by show nu.length < 90000;omega⟩ (r:=.c (.i .i64 (a2o nu))) rfl z6 .nil fun _ _ _ _=>?_;(refine Zq ?_;with_reducible repeat' first|intro _|apply aI)
    ·exact hc _ _ ⟨_,by (exact z6),.nil,fun e=>by simp [*];omega⟩
    ·refine s6 hdi ⟨de,by show de.length < 90000;omega⟩ (r:=.c (.i .i64 (a2o de))) rfl z6 .nil fun _ _ _ _=>?_;refine Zq ?_;intros;refine hc _ _ ⟨_,by (exact z6),.nil,fun e=>?_⟩;subst e;rw [c5i];by_cases h:(100:Int) < (a2o de:Int)
     ·rw [decide_eq_true h,show decide (a2o de≤100)=false from decide_eq_false oM,Bool.and_false];rfl
     ·rw [decide_eq_false h,show decide (a2o de≤100)=true from decide_eq_true oM,show decide (a2o nu≤100)=true from decide_eq_true oM,‹C2 nu=true›,‹C2 de=true›];rfl
   ·exact hc _ _ ⟨_,by (exact z6),.nil,fun e=>by simp [*]⟩
  ·exact hc _ _ ⟨_,by (exact z6),.nil,fun e=>by simp [*]⟩
def fmB (k:Int) (nu de:u5) (s:Sy) (t:u5) (ps:RT) (l:List Bool):Bool :=
 if k=4 then (match l with
  | [a,b]=>J4 ⟨k,nu,de,s,t,ps⟩ false false false && a && b
  | _=>false)
 else if k=1 then J4 ⟨k,nu,de,s,t,ps⟩ true false false && decide (ps.obs.length=0) && a19 nu de
 else if k=2 then J4 ⟨k,nu,de,s,t,ps⟩ false true false && decide (ps.obs.length=0) && named s
 else if k=3 then J4 ⟨k,nu,de,s,t,ps⟩ false false true && decide (ps.obs.length=0) && decide (t.length≤200)
 else false
def RT.fm:RT→List Bool
 | .nil=>[]
 | .node k nu de s t ps r=>fmB k nu de s t ps ps.fm :: r.fm
def Ob.fm (o:Ob):Bool:=fmB o.k o.nu o.de o.s o.t o.ps o.ps.fm
theorem RT.fm_eq:∀ p:RT,p.fm=p.obs.map Ob.fm
 | .nil=>rfl
 | .node _ _ _ _ _ _ r=>by simp only [RT.fm,RT.obs,List.map_cons,r.fm_eq];rfl
theorem b8q {o x y:Ob} (h:o.ps.obs=[x,y]) (hk:o.k=4):o.fm=(J4 o false false false && x.fm && y.fm):=by
 unfold Ob.fm fmB;rw [if_pos hk,o.ps.fm_eq,h];rfl
theorem g4g {o:Ob} (h:∀ x y,o.ps.obs ≠ [x,y]) (hk:o.k=4):o.fm=false:=by
 unfold Ob.fm fmB;rw [if_pos hk,o.ps.fm_eq];rcases e:o.ps.obs with _ | ⟨x,_ | ⟨y,_ | ⟨z,r⟩⟩⟩
 ·rfl
 ·rfl
 ·exact absurd e (h x y)
 ·rfl
theorem c0t {o:Ob} (hk:o.k=1):o.fm=(J4 o true false false && decide (o.ps.obs.length=0) && a19 o.nu o.de):=by
 unfold Ob.fm fmB;rw [if_neg oM,if_pos hk]
theorem b6r {o:Ob} (hk:o.k=2):o.fm=(J4 o false true false && decide (o.ps.obs.length=0) && named o.s):=by
 unfold Ob.fm fmB;rw [if_neg oM,if_neg oM,if_pos hk]
theorem c0u {o:Ob} (hk:o.k=3):o.fm=(J4 o false false true && decide (o.ps.obs.length=0) && decide (o.t.length≤200)):=by
 unfold Ob.fm fmB;rw [if_neg oM,if_neg oM,if_neg oM,if_pos hk]
theorem e1z {o:Ob} (h1:¬o.k=4) (h2:¬o.k=1) (h3:¬o.k=2) (h4:¬o.k=3):o.fm=false:=by
 unfold Ob.fm fmB;rw [if_neg h1,if_neg h2,if_neg h3,if_neg h4]
theorem f5b {o x y:Ob} (h:o.ps.obs=[x,y]):o.nd=1+x.nd+y.nd:=by rw [o.nd_eq,h]
theorem g0x {o x y:Ob} (h:o.ps.obs=[x,y]) (hs:o.sm):x.sm∧y.sm:=⟨RT.obs_sm hs.2 (by rw [h];simp),RT.obs_sm hs.2 (by rw [h];simp)⟩
def f5i (o:Ob):Prop:=o.sm∧o.nd≤3000
theorem e2c (hst:v8 257 b1m):v8 189 (d4y f5i fun o=>.c (.b o.fm)):=Y2 (fun p=>p.1.nd) fun n ih=>A8 (fun fn h=>e90 h) [(189,(d4y f5i fun o=>.c (.b o.fm)).lt _ n),(234,_),(235,_),(236,_)] (.cons ih (.cons g4l (.cons (e7v hst) (.cons g4v .nil)))) fun U fn hfn ⟨⟨o,hs,hnd⟩,hn⟩ vs bs hv hb=>by
 have hba:=hfn 234 _ rfl;have hv:z7 [.a o.g] vs:=hv;have hb:u0 [] bs:=hb;have hn:o.nd < n+1:=hn;show t6 U _ fun v bs'=>A3 (.ret (.c (.b o.fm))) v∧u0 [] bs';unfold f7f;refine Zq ?_;intros;refine I7 (fun (x:Ob) vs bs=>vs=[.ptr 0 0]∧u0 [x.g] bs∧x.fm=o.fm∧x.sm∧x.nd≤o.nd) (fun x=>x.nd) o ⟨rfl,RB.bx aS rfl,rfl,hs,Nat.le_refl _⟩ (show o.nd < E3 by simp only [E3];omega) ?_;rintro self x _ _ ⟨rfl,hb,he,hxs,hxn⟩ ih2;rw [← he];rw [x.g_eq] at hb;have gq:∀ q,A7 [G.i .i64 x.k,.s x.nu,.s x.de,.s x.s.1,.s x.s.2,.s x.t,.l (x.ps.obs.map Ob.g)] q 0→A7 x.g q 0:=fun q h=>by rw [x.g_eq];exact h
 have fin:∀ (b:Bool),x.fm=b→t6 U (some (.ret (.known b),[])) fun v bs'=>A3 (.ret (.c (.b x.fm))) v∧u0 [] bs':=fun b h=>s9 ⟨.ret _ _ (T6 h),.nil⟩;rcases d1h x.ps with ⟨a,b,e⟩ | ⟨hne,hno⟩
 ·have hab:=g0x e hxs;have hnd2:=f5b e;have hp1:=a.nd_pos;have hp2:=b.nd_pos;rw [e] at hb gq;have hlen:decide (x.ps.obs.length=0)=false:=by rw [e];rfl
  (refine Zq ?_;with_reducible repeat' first|intro _|apply aI)
  ·(refine F1 (f:=Ob.g) aS (B7 Ob.g_len) fun _ _ _=>?_)
   (refine Zq ?_;with_reducible repeat' first|intro _|apply aI)
   ·refine s6 hba (x,false,false,false) (r:=.c (.b (J4 x false false false))) rfl (.k (.a _ _ _ rfl (gq _ aS)) z6) .nil fun _ _ _ _=>?_;(refine Zq ?_;with_reducible repeat' first|intro _|apply aI)
    ·(refine F1 (f:=Ob.g) aS (B7 Ob.g_len) fun _ _ _=>?_)
     refine Zq ?_;intros;refine s6 (hfn 189 _ rfl) ⟨⟨a,hab.1,oM⟩,show a.nd < n by omega⟩ (r:=.c (.b a.fm)) rfl z6 .nil fun _ _ _ _=>?_;(refine Zq ?_;with_reducible repeat' first|intro _|apply aI)
     ·(refine F1 (f:=Ob.g) aS (B7 Ob.g_len) fun _ _ _=>?_)
      refine Zq ?_;intros;rw [he];exact ih2 b _ _ ⟨rfl,RB.bx aS rfl,by rw [← he,b8q e ‹x.k=4›];simp [*],hab.2,oM⟩ oM
     ·exact fin false ((b8q e ‹x.k=4›).trans (by simp [*]))
    ·exact fin false ((b8q e ‹x.k=4›).trans (by simp [*]))
   ·exact absurd rfl ‹¬_›
  ·refine s6 hba (x,true,false,false) (r:=.c (.b (J4 x true false false))) rfl (.k (.a _ _ _ rfl (gq _ aS)) z6) .nil fun _ _ _ _=>?_;(refine Zq ?_;with_reducible repeat' first|intro _|apply aI)
   ·(refine F1 (f:=Ob.g) aS (B7 Ob.g_len) fun _ _ _=>?_)
    (refine Zq ?_;with_reducible repeat' first|intro _|apply aI)
    ·exact absurd ‹((([a,b]:List Ob).length:Nat):Int)=0› (by simp)
    ·exact fin false ((c0t ‹x.k=1›).trans (by rw [hlen,Bool.and_false];rfl))
   ·exact fin false ((c0t ‹x.k=1›).trans (by simp [*]))
  ·refine s6 hba (x,false,true,false) (r:=.c (.b (J4 x false true false))) rfl (.k (.a _ _ _ rfl (gq _ aS)) z6) .nil fun _ _ _ _=>?_;(refine Zq ?_;with_reducible repeat' first|intro _|apply aI)
   ·(refine F1 (f:=Ob.g) aS (B7 Ob.g_len) fun _ _ _=>?_)
    (refine Zq ?_;with_reducible repeat' first|intro _|apply aI)
    ·exact absurd ‹((([a,b]:List Ob).length:Nat):Int)=0› (by simp)
    ·exact fin false ((b6r ‹x.k=2›).trans (by rw [hlen,Bool.and_false];rfl))
   ·exact fin false ((b6r ‹x.k=2›).trans (by simp [*]))
  ·refine s6 hba (x,false,false,true) (r:=.c (.b (J4 x false false true))) rfl (.k (.a _ _ _ rfl (gq _ aS)) z6) .nil fun _ _ _ _=>?_;(refine Zq ?_;with_reducible repeat' first|intro _|apply aI)
   ·(refine F1 (f:=Ob.g) aS (B7 Ob.g_len) fun _ _ _=>?_)
    (refine Zq ?_;with_reducible repeat' first|intro _|apply aI)
    ·exact absurd ‹((([a,b]:List Ob).length:Nat):Int)=0› (by simp)
    ·exact fin false ((c0u ‹x.k=3›).trans (by rw [hlen,Bool.and_false];rfl))
   ·exact fin false ((c0u ‹x.k=3›).trans (by simp [*]))
  ·exact fin false (e1z (o:=x) aS aS aS aS)
 ·(refine Zq ?_;with_reducible repeat' first|intro _|apply aI)
  ·(refine F1 (f:=Ob.g) aS (B7 Ob.g_len) fun _ _ _=>?_)
   (refine Zq ?_;with_reducible repeat' first|intro _|apply aI)
   ·exact absurd ‹_› hne
   ·exact fin false (g4g hno ‹x.k=4›)
  ·refine s6 hba (x,true,false,false) (r:=.c (.b (J4 x true false false))) rfl (.k (.a _ _ _ rfl (gq _ aS)) z6) .nil fun _ _ _ _=>?_;(refine Zq ?_;with_reducible repeat' first|intro _|apply aI)
   ·(refine F1 (f:=Ob.g) aS (B7 Ob.g_len) fun _ _ _=>?_)
    (refine Zq ?_;with_reducible repeat' first|intro _|apply aI)
    ·have hl0:decide (x.ps.obs.length=0)=true:=decide_eq_true oM;refine s6 (hfn 235 _ rfl) ⟨(x.nu,x.de),hxs.1.1,hxs.1.2.1⟩ (r:=.c (.b (a19 x.nu x.de))) rfl z6 .nil fun _ _ _ _=>?_;refine Zq ?_;intros;rw [c0t ‹x.k=1›,hl0,‹J4 x true false false=true›,Bool.true_and,Bool.true_and];exact s9 ⟨.ret _ _ (.b _),.nil⟩
    ·exact fin false ((c0t ‹x.k=1›).trans (by rw [show decide (x.ps.obs.length=0)=false from decide_eq_false oM,Bool.and_false];rfl))
   ·exact fin false ((c0t ‹x.k=1›).trans (by simp [*]))
  ·refine s6 hba (x,false,true,false) (r:=.c (.b (J4 x false true false))) rfl (.k (.a _ _ _ rfl (gq _ aS)) z6) .nil fun _ _ _ _=>?_;(refine Zq ?_;with_reducible repeat' first|intro _|apply aI)
   ·(refine F1 (f:=Ob.g) aS (B7 Ob.g_len) fun _ _ _=>?_)
    (refine Zq ?_;with_reducible repeat' first|intro _|apply aI)
    ·have hl0:decide (x.ps.obs.length=0)=true:=decide_eq_true oM;refine s6 (hfn 236 _ rfl) ⟨x.s,hxs.1.2.2.1,hxs.1.2.2.2⟩ (r:=.c (.b (named x.s))) rfl (.k (.a _ _ _ rfl (show A7 (List.take 2 [G.s x.s.1,.s x.s.2,.s x.t,.l (x.ps.obs.map Ob.g)]) _ 0 from A7.take 2 aS)) .nil) .nil fun _ _ _ _=>?_;refine Zq ?_;intros;rw [b6r ‹x.k=2›,hl0,‹J4 x false true false=true›,Bool.true_and,Bool.true_and];exact s9 ⟨.ret _ _ (.b _),.nil⟩
    ·exact fin false ((b6r ‹x.k=2›).trans (by rw [show decide (x.ps.obs.length=0)=false from decide_eq_false oM,Bool.and_false];rfl))
   ·exact fin false ((b6r ‹x.k=2›).trans (by simp [*]))
  ·refine s6 hba (x,false,false,true) (r:=.c (.b (J4 x false false true))) rfl (.k (.a _ _ _ rfl (gq _ aS)) z6) .nil fun _ _ _ _=>?_;(refine Zq ?_;with_reducible repeat' first|intro _|apply aI)
   ·(refine F1 (f:=Ob.g) aS (B7 Ob.g_len) fun _ _ _=>?_)
    (refine Zq ?_;with_reducible repeat' first|intro _|apply aI)
    ·have hl0:decide (x.ps.obs.length=0)=true:=decide_eq_true oM;rw [c0u ‹x.k=3›,hl0,‹J4 x false false true=true›,Bool.true_and,Bool.true_and];exact P0 fun e=>⟨.ret _ _ (rvB (by subst e;rw [e1d,Bool.eq_iff_iff,decide_eq_true_iff,decide_eq_true_iff];omega)),.nil⟩
    ·exact fin false ((c0u ‹x.k=3›).trans (by rw [show decide (x.ps.obs.length=0)=false from decide_eq_false oM,Bool.and_false];rfl))
   ·exact fin false ((c0u ‹x.k=3›).trans (by simp [*]))
  ·exact fin false (e1z (o:=x) aS aS aS aS)
def Ob.vd (o:Ob):Bool:=decide (o.nd≤3000) && o.fm
theorem d06 (hst:v8 257 b1m):v8 128 (d4y Ob.sm fun o=>.c (.b o.vd)):=A8 (fun fn h=>e8z h) [(188,_),(189,_)] (.cons e7y (.cons (e2c hst) .nil)) fun U fn hfn ⟨o,hs⟩ vs bs hv hb=>by
 have hv:z7 [.a o.g] vs:=hv;have hb:u0 [] bs:=hb;show t6 U _ fun v bs'=>A3 (.ret (.c (.b o.vd))) v∧u0 [] bs';unfold f58;refine Zq ?_;intros;refine s6 (hfn 188 _ rfl) ⟨o,trivial⟩ (r:=.c (.i .i64 (min o.nd 3001:Nat))) rfl z6 .nil fun _ _ _ _=>?_;(refine Zq ?_;with_reducible repeat' first|intro _|apply aI)
 ·have h:o.nd≤3000:=oM;refine s6 (hfn 189 _ rfl) ⟨o,hs,h⟩ (r:=.c (.b o.fm)) rfl z6 .nil fun _ _ _ _=>?_;refine Zq ?_;intros;unfold Ob.vd;rw [decide_eq_true h,Bool.true_and];exact s9 ⟨.ret _ _ (.b _),.nil⟩
 ·exact s9 ⟨.ret _ _ (T6 (by unfold Ob.vd;rw [decide_eq_false oM];rfl)),.nil⟩
theorem b0x:v8 177 (c8r fun s=>.a (O.sy s).g):=A8 (fun fn h=>e9y h) [] .nil fun U fn hfn s vs bs hv hb=>by
 have hv:z7 [.a [.s s.1,.s s.2]] vs:=hv;have hb:u0 [] bs:=hb;show t6 U _ fun v bs'=>A3 (.ret (.a (O.sy s).g)) v∧u0 [] bs';unfold f7c;refine Zq ?_;intros;exact P0 fun e=>by
  subst e;exact ⟨.ret _ _ (.ag _ _ (by (exact Zru))),.nil⟩
def syB (s:Sy):Ob:=⟨2,[],[],s,[],.nil⟩
theorem g06 (s:Sy):(syB s).vd=named s:=by
 have h1:(syB s).nd=1:=rfl;unfold Ob.vd;rw [h1,b6r rfl];simp [J4,syB,RT.obs]
theorem e74 (hst:v8 257 b1m):v8 129 (e6f fun s=>.c (.b (named s))):=A8 (fun fn h=>e80 h) [(177,_),(128,_)] (.cons b0x (.cons (d06 hst) .nil)) fun U fn hfn ⟨s,h1,h2⟩ vs bs hv hb=>by
 have hv:z7 [.a (sg s)] vs:=hv;have hb:u0 [] bs:=hb;show t6 U _ fun v bs'=>A3 (.ret (.c (.b (named s)))) v∧u0 [] bs';unfold f59;refine Zq ?_;intros;refine s6 (hfn 177 _ rfl) s (r:=.a (syB s).g) rfl z6 .nil fun _ _ _ _=>?_;refine Zq ?_;intros;refine s6 (hfn 128 _ rfl) ⟨syB s,⟨⟨by show 0 < 8000;omega,by show 0 < 8000;omega,h1,h2⟩,trivial⟩⟩ (r:=.c (.b (named s))) (by show z8.ret (.c (.b (syB s).vd))=_;rw [g06]) (.k (.a _ _ _ rfl aS) .nil) .nil fun _ _ _ _=>?_;refine Zq ?_;intros;exact s9 ⟨.ret _ _ (.b _),.nil⟩
end
end Go.Proofs.YtkojildpddaccaaGreatDoor
