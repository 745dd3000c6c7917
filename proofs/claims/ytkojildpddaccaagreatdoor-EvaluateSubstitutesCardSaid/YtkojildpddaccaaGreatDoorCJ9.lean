/- The program's numbers: decimals, limbs. -/
import Derived.Test.YtkojildpddaccaaGreatDoorCJ8
set_option linter.all false
namespace Go.Proofs.YtkojildpddaccaaGreatDoor
open Go.Abs LQ
set_option maxRecDepth 100000
set_option maxHeartbeats 4000000
noncomputable section
theorem d3i:s5 1 45=[45]:=dE
theorem a8j (s:u5):T9 s [45]=s.drop (u6 s):=by
 unfold T9 b07 u6;cases s with
 | nil=>simp
 | cons c s =>
  have hb:bt (c :: s) 0=c.toNat:=rfl;by_cases h:c=45
  ·subst h;simp [hb]
  ·have h':¬(c.toNat:Int)=45:=fun e=>h (UInt8.toNat_inj.1 (by show c.toNat=45;omega));simp [h,hb,h']
theorem c0h (s:u5) (a k:Nat):bt (s.drop a) k=bt s (a+k):=by unfold bt;simp [List.getD]
theorem c9j (s:u5) (a k:Nat) (h:a+k≤s.length):E7 s (a+k)=a+E7 (s.drop a) k:=by
 generalize hm:s.length - (a+k)=m
 induction m generalizing k with
 | zero=>rw [E7,if_neg oM,E7,if_neg (by simp;omega)]
 | succ m ih =>
  have hb:bt (s.drop a) k=bt s (a+k):=c0h s a k;rw [E7,if_pos oM]
  conv=>rhs;rw [E7,if_pos (by rw [List.length_drop];omega),hb]
  by_cases hc:b4n (bt s (a+k))=true
  ·rw [if_pos hc,if_pos hc];exact ih (k+1) oM oM
  ·rw [if_neg hc,if_neg hc]
theorem c05:v8 268 (sp1 fun s=>.ret (.c (.b (C2 s)))):=A8 (fun fn h=>f08 h) [(281,_)] (.cons a8t .nil) fun U fn hfn ⟨s,hs⟩ vs bs hv hb=>by
 have hv:z7 [.c (.s s)] vs:=hv;have hb:u0 [] bs:=hb;show t6 U _ fun v bs'=>A3 (.ret (.c (.b (C2 s)))) v∧u0 [] bs';obtain ⟨d,hd⟩:∃ d,s.drop (u6 s)=d:=⟨_,rfl⟩;unfold f8p;refine Zq ?_;intros;refine s6 (hfn 281 _ rfl) ⟨(s,s5 1 45),trivial⟩ (r:=.c (.s d)) (by show z8.ret (.c (.s (T9 s (s5 1 45))))=_;rw [d3i,a8j,hd]) z6 .nil fun _ _ _ _=>?_;have hsl:=b1k s;have hdl:d.length=s.length - u6 s:=by rw [← hd];simp
 have hb0:((d.getD 0 0).toNat:Int)=bt s (u6 s):=by rw [← hd];exact (c0h s (u6 s) 0).trans (by rw [Nat.add_zero])
 have hb0':((d.getD (Int.toNat 0) 0).toNat:Int)=bt s (u6 s):=hb0;have zz:∀ b:Bool,C2 s=b→∀ x:Bool,(U=CU→x=b)→t6 U (some (.ret (.bool x),[])) fun v bs'=>A3 (.ret (.c (.b (C2 s)))) v∧u0 [] bs':=fun b h x hx=>P0 fun e=>⟨.ret _ _ (rvB (by rw [h,hx e])),.nil⟩;have zs:(d=[]∨bt s (u6 s)=48)→∀ x:Bool,(U=CU→x=decide (s=s5 1 48))→t6 U (some (.ret (.bool x),[])) fun v bs'=>A3 (.ret (.c (.b (C2 s)))) v∧u0 [] bs':=fun h x hx=>by
  refine zz (decide (s=s5 1 48)) ?_ x hx;have:¬(u6 s < s.length∧bt s (u6 s) ≠ 48):=by
   rcases h with h | h
   ·rw [h] at hdl;simp at hdl;omega
   ·exact fun k=>k.2 h
  unfold C2;rw [decide_eq_false this,Bool.false_and,Bool.or_false];rfl
 (refine Zq ?_;with_reducible repeat' first|intro _|apply aI)
 ·exact zs (.inl ‹d=s5 0 0›) _ fun e=>by subst e;exact b2m s 1 48
 ·have hne:d ≠ []:=‹¬d=s5 0 0›;have hpos:0 < d.length:=List.length_pos_iff.2 hne;(refine Zq ?_;with_reducible repeat' first|intro _|apply aI)
  ·exact zs (.inr (hb0.symm.trans aS)) _ fun e=>by subst e;exact b2m s 1 48
  ·have h48:¬((d.getD 0 0).toNat:Int)=48:=aS;have e0:C2 s=decide (E7 d 0=d.length):=by
    have hz:¬s=E9:=fun e=>h48 (by rw [hb0];subst e;decide);have h1:u6 s < s.length∧bt s (u6 s) ≠ 48:=⟨oM,oM⟩;have h2:=c9j s (u6 s) 0 oM;rw [Nat.add_zero,hd] at h2;unfold C2;rw [decide_eq_true h1,Bool.true_and,decide_eq_false hz,Bool.false_or];rw [Bool.eq_iff_iff,decide_eq_true_iff,decide_eq_true_iff];omega
   have hl:d.length < 90000:=by have:s.length < 90000:=hs;omega
   refine I7 (fun (i:Nat) vs bs=>vs=[.str d.length (D0 d),.int .i64 d.length,.int .i64 i]∧bs=[]∧i≤d.length∧E7 d i=E7 d 0) (fun i=>d.length - i) 0 ⟨rfl,rfl,oM,rfl⟩ (by simp only [E3];omega) ?_;rintro self i vs bs ⟨rfl,rfl,hi,he⟩ ih;(refine Zq ?_;with_reducible repeat' first|intro _|apply aI)
   ·exact s9 ⟨.ret _ _ (T6 (by rw [e0,← he,b8d (i:=i) oM oM];exact decide_eq_false oM)),.nil⟩
   ·exact s9 ⟨.ret _ _ (T6 (by rw [e0,← he,b8d (i:=i) oM oM];exact decide_eq_false oM)),.nil⟩
   ·exact ih (i+1) _ _ ⟨rfl,rfl,oM,by rw [← he,c6f (i:=i) oM ‹_› ‹_›]⟩ oM
   ·exact s9 ⟨.ret _ _ (T6 (by rw [e0,← he,c0o (i:=i) oM];exact decide_eq_true oM)),.nil⟩
theorem a1x:v8 262 (sp1 fun s=>.ret (.c (.s (K7 s)))):=A8 (fun fn h=>f02 h) [(268,_)] (.cons c05 .nil) fun U fn hfn ⟨s,hs⟩ vs bs hv hb=>by
 have hv:z7 [.c (.s s)] vs:=hv;have hb:u0 [] bs:=hb;show t6 U _ fun v bs'=>A3 (.ret (.c (.s (K7 s)))) v∧u0 [] bs';unfold f8l;refine Zq ?_;intros;refine s6 (hfn 268 _ rfl) ⟨s,hs⟩ (r:=.c (.b (C2 s))) rfl z6 .nil fun _ _ _ _=>?_;(refine Zq ?_;with_reducible repeat' first|intro _|apply aI)
 ·have e:K7 s=s:=by unfold K7;rw [if_pos ‹_›]
  rw [e];exact s9 ⟨.ret _ _ (.s _ _ _ rfl rfl),.nil⟩
 ·have e:K7 s=s5 1 48:=by unfold K7;rw [if_neg ‹_›];rfl
  rw [e];exact s9 ⟨.ret _ _ (.s _ _ _ rfl rfl),.nil⟩
theorem b0o (s:u5):(K7 s).length≤s.length∨(K7 s).length≤1:=by unfold K7;split;exact .inl (Nat.le_refl _);exact .inr dE
theorem c56 (s:u5):(K7 s).drop (u6 (K7 s))=s8 (s3 s).natAbs:=by
 rw [a0l,d4w];have h:=c97 (s3 s) (s3 s).natAbs [];rw [List.append_nil] at h;rw [h,List.drop_left]
theorem c6y:v8 260 (sp1 fun s=>.ret (.c (.i .i64 ((s8 (s3 s).natAbs).length:Nat)))):=A8 (fun fn h=>f01 h) [(262,_),(281,_)] (.cons a1x (.cons a8t .nil)) fun U fn hfn ⟨s,hs⟩ vs bs hv hb=>by
 have hv:z7 [.c (.s s)] vs:=hv;have hb:u0 [] bs:=hb;show t6 U _ fun v bs'=>A3 (.ret (.c (.i .i64 ((s8 (s3 s).natAbs).length:Nat)))) v∧u0 [] bs';unfold f8k;refine Zq ?_;intros;refine s6 (hfn 262 _ rfl) ⟨s,hs⟩ (r:=.c (.s (K7 s))) rfl z6 .nil fun _ _ _ _=>?_;refine Zq ?_;intros;refine s6 (hfn 281 _ rfl) ⟨(K7 s,s5 1 45),trivial⟩ (r:=.c (.s (s8 (s3 s).natAbs))) (by show z8.ret (.c (.s (T9 (K7 s) (s5 1 45))))=_;rw [d3i,a8j,c56]) z6 .nil fun _ _ _ _=>?_;refine Zq ?_;intros;exact s9 ⟨.ret _ _ (.i _ _),.nil⟩
def lg (d:Nat):List G:=[.i .u32 (d:Int)]
theorem f45 {a b:Nat} (h:lg a=lg b):a=b:=by simp only [lg,List.cons.injEq,G.i.injEq,and_true,true_and] at h;omega
theorem a4m:∀ {l m:List Nat},l.map lg=m.map lg→l=m
 | [],[],_=>rfl
 | [],_ :: _,h=>by simp at h
 | _ :: _,[],h=>by simp at h
 | a :: l,b :: m,h=>by simp only [List.map_cons,List.cons.injEq] at h;exact congr (congrArg List.cons (f45 h.1)) (a4m h.2)
section
variable {U:C3} {P:K0→List Bx→Prop}
theorem c1s {l:List Nat} {t:u1 Q} {off:Nat} {i:Int} (n:Nat) {K:Q→Om} (ht:A5 1 (l.map lg) t off) (hn:i=n) (hi:n < l.length) (h:∀ x,A7 (lg (l.getD n 0)) x 0→t6 U (K x) P):t6 U (U.fQ (U.tQ t (U.nAdd off (U.iNat i))) K) P:=by
 subst hn;refine d4v (y:=l.getD n 0) ht ?_ h;rw [Int.toNat_natCast,List.getElem?_eq_getElem hi];simp [List.getD,List.getElem?_eq_getElem hi]
end
def spM (R:List Nat→z8):Sp where
 ι:={ l:List Nat // l.length < 20000 }
 A l:=[.sl 1 (l.1.map lg)]
 B _:=[]
 R l:=R l.1
 B' _:=[]
 inj i j vs bs h k _ _:=by
  obtain ⟨_,_,h1,k1,h,k⟩:=h.two k;rw [a4m (h1.sl_inj k1)];exact ⟨rfl,rfl⟩
def g01 (ok:List Nat→List Nat→Prop) (R:List Nat→List Nat→z8):Sp where
 ι:={ p:List Nat × List Nat // p.1.length < 20000∧p.2.length < 20000∧ok p.1 p.2 }
 A p:=[.sl 1 (p.1.1.map lg),.sl 1 (p.1.2.map lg)]
 B _:=[]
 R p:=R p.1.1 p.1.2
 B' _:=[]
 inj i j vs bs h k _ _:=by
  obtain ⟨_,_,h1,k1,h,k⟩:=h.two k;obtain ⟨_,_,h2,k2,h,k⟩:=h.two k;rw [a4m (h1.sl_inj k1),a4m (h2.sl_inj k2)];exact ⟨rfl,rfl⟩
theorem b29:v8 283 (spM fun l=>.ret (.sl 1 ((H7 l).map lg))):=A8 (fun fn h=>f1b h) [] .nil fun U fn hfn ⟨l,hs⟩ vs bs hv hb=>by
 have hv:z7 [.sl 1 (l.map lg)] vs:=hv;have hb:u0 [] bs:=hb;have hs:l.length < 20000:=hs;show t6 U _ fun v bs'=>A3 (.ret (.sl 1 ((H7 l).map lg))) v∧u0 [] bs';unfold f8t;refine Zx ?_;intros;refine I7 (fun (m:Nat) vs bs=>∃ (t:u1 Q) (off:Nat),vs=[.slice t 1 off m .no]∧bs=[]∧A5 1 (l.map lg) t off∧m≤l.length∧W2 l m=W2 l l.length) (fun m=>m) l.length ⟨_,_,rfl,rfl,aS,oM,rfl⟩ (by simp only [E3];omega) ?_;rintro self m _ _ ⟨t,off,rfl,rfl,ht,hm,he⟩ ih;have fin:¬(0 < m∧l.getD (m - 1) 0=0)→t6 U (some (.ret (.slice t 1 off m .no),[])) fun v bs'=>A3 (.ret (.sl 1 ((H7 l).map lg))) v∧u0 [] bs':=fun h=>by
  have e:H7 l=l.take m:=by
   unfold H7;rw [← he];cases m with
   | zero=>rfl
   | succ m=>rw [W2,if_neg (fun k=>h ⟨oM,by simpa using k⟩)]
  rw [e,List.map_take];exact s9 ⟨.ret _ _ (.sl _ _ _ _ _ (by simp;omega) (ht.take m)),.nil⟩
 (refine Zx ?_;with_reducible repeat' first|intro _|apply aI)
 ·refine c1s (m - 1) aS oM oM fun _ _=>?_;(refine Zx ?_;with_reducible repeat' first|intro _|apply aI)
  ·have h0:=‹((l.getD (m - 1) 0:Nat):Int)=0›;simp only [Int.toNat_zero,Nat.add_zero,Nat.sub_zero];refine ih (m - 1) _ _ ⟨t,off,by rw [show ((m:Int) - 1).toNat=m - 1 by omega],rfl,ht,oM,?_⟩ oM;obtain ⟨m,rfl⟩:∃ n,m=n+1:=⟨m - 1,oM⟩;rw [← he,W2,if_pos (by simpa using h0)];rfl
  ·exact fin fun h=>‹¬((l.getD (m - 1) 0:Nat):Int)=0› oM
 ·exact fin fun h=>oM
theorem a5i:v8 280 (g01 (fun _ _=>True) fun a b=>.ret (.c (.i .i64 (N1 a b)))):=A8 (fun fn h=>f09 h) [] .nil fun U fn hfn ⟨(a,b),ha,hbl,_⟩ vs bs hv hb=>by
 have ha:a.length < 20000:=ha;have hbl:b.length < 20000:=hbl;have hv:z7 [.sl 1 (a.map lg),.sl 1 (b.map lg)] vs:=hv;have hb:u0 [] bs:=hb;show t6 U _ fun v bs'=>A3 (.ret (.c (.i .i64 (N1 a b)))) v∧u0 [] bs';unfold f8r;(refine Zx ?_;with_reducible repeat' first|intro _|apply aI)
 ·have hl:a.length=b.length:=oM;have e:N1 a b=J1 a b a.length:=by unfold N1;rw [if_pos hl]
  rw [e];refine I7 (fun (m:Nat) vs bs=>∃ (t:u1 Q) (off:Nat) (t':u1 Q) (off':Nat) (i:Int),vs=[.slice t 1 off a.length .no,.slice t' 1 off' b.length .no,.int .i64 i]∧bs=[]∧i=m - 1∧A5 1 (a.map lg) t off∧A5 1 (b.map lg) t' off'∧m≤a.length∧J1 a b m=J1 a b a.length) (fun m=>m) a.length ⟨_,_,_,_,_,rfl,rfl,rfl,aS,aS,oM,rfl⟩ (by simp only [E3];omega) ?_;rintro self m _ _ ⟨t,off,t',off',i,rfl,rfl,rfl,ht,ht',hm,he⟩ ih;(refine Zx ?_;with_reducible repeat' first|intro _|apply aI)
  ·refine c1s (m - 1) aS oM oM fun _ _=>?_;refine Zx ?_;intros;refine c1s (m - 1) aS oM oM fun _ _=>?_;(refine Zx ?_;with_reducible repeat' first|intro _|apply aI)
   ·refine ih (m - 1) _ _ ?_ oM;obtain ⟨m,rfl⟩:∃ n,m=n+1:=⟨m - 1,oM⟩;exact ⟨_,_,_,_,_,rfl,rfl,oM,ht,ht',oM,by rw [← he,Nat.add_sub_cancel];conv=>rhs;rw [J1,if_neg (by simp only [Nat.add_sub_cancel] at *;omega),if_neg (by simp only [Nat.add_sub_cancel] at *;omega)]⟩
   ·refine c1s (m - 1) aS oM oM fun _ _=>?_;refine Zx ?_;intros;refine c1s (m - 1) aS oM oM fun _ _=>?_;(refine Zx ?_;with_reducible repeat' first|intro _|apply aI)
    ·obtain ⟨m,rfl⟩:∃ n,m=n+1:=⟨m - 1,oM⟩;exact s9 ⟨.ret _ _ (rvI (by rw [← he,J1,if_pos (by simp only [Nat.add_sub_cancel] at *;omega)])),.nil⟩
    ·obtain ⟨m,rfl⟩:∃ n,m=n+1:=⟨m - 1,oM⟩;exact s9 ⟨.ret _ _ (rvI (by rw [← he,J1,if_neg (by simp only [Nat.add_sub_cancel] at *;omega),if_pos (by simp only [Nat.add_sub_cancel] at *;omega)])),.nil⟩
  ·have em:m=0:=oM;subst em;exact s9 ⟨.ret _ _ (rvI (by rw [← he];rfl)),.nil⟩
 ·exact s9 ⟨.ret _ _ (rvI (by unfold N1;rw [if_neg oM,if_pos oM])),.nil⟩
 ·exact s9 ⟨.ret _ _ (rvI (by unfold N1;rw [if_neg oM,if_neg oM])),.nil⟩
section
variable {U:C3} {P:K0→List Bx→Prop}
theorem c9a {e:Int} (h1:0≤e) (h2:e < 4294967296):wr .u32 e=e:=by
 rw [a2y];show e % 4294967296=e;omega
theorem b99 {e:Int} (h1:0≤e) (h2:e < 18446744073709551616):wr .u64 e=e:=by
 rw [a2y];show e % 18446744073709551616=e;omega
theorem a5t {e m:Int} {K:Int→Om} (he:e=m) (hr:0≤m∧m < 4294967296) (h:t6 U (K m) P):t6 U (U.fI (U.wr .u32 e) K) P:=fun e'=>by
 have:=h e';subst e' he;rw [T7];show ∃ v bs,K (wr .u32 e)=some (v,bs)∧P v bs;rw [c9a hr.1 hr.2];exact this
theorem c4v {e m:Int} {K:Int→Om} (he:e=m) (hr:0≤m∧m < 18446744073709551616) (h:t6 U (K m) P):t6 U (U.fI (U.wr .u64 e) K) P:=fun e'=>by
 have:=h e';subst e' he;rw [T7];show ∃ v bs,K (wr .u64 e)=some (v,bs)∧P v bs;rw [b99 hr.1 hr.2];exact this
end
def B8 (n:Nat):List (List G):=(u3 n).map lg
theorem a9p {a b:Nat} (h:B8 a=B8 b):a=b:=b4r (a4m h)
def e4a (ok:Nat→Nat→Prop) (R:Nat→Nat→z8):Sp where
 ι:={ p:Nat × Nat // (u3 p.1).length < 20000∧(u3 p.2).length < 20000∧ok p.1 p.2 }
 A p:=[.sl 1 (B8 p.1.1),.sl 1 (B8 p.1.2)]
 B _:=[]
 R p:=R p.1.1 p.1.2
 B' _:=[]
 inj i j vs bs h k _ _:=by
  obtain ⟨_,_,h1,k1,h,k⟩:=h.two k;obtain ⟨_,_,h2,k2,h,k⟩:=h.two k;rw [a9p (h1.sl_inj k1),a9p (h2.sl_inj k2)];exact ⟨rfl,rfl⟩
theorem K4 (l:List Nat) (i:Nat):v7 (l.take (i+1))=v7 (l.take i)+B9 ^ i * l.getD i 0:=by
 rcases Nat.lt_or_ge i l.length with h | h
 ·exact c08 l i h
 ·rw [List.take_of_length_le h,List.take_of_length_le oM];simp [List.getD,List.getElem?_eq_none h]
theorem e4e (l:List Nat) (i x:Nat):(l.set i x).take i=l.take i:=by
 rw [List.take_set_of_le (Nat.le_refl _)]
theorem Q2 {x y:Nat} (h:y≤x):(u3 y).length≤(u3 x).length:=by
 have h1:=T8 (u3 x) (J8 x);rw [G5] at h1;exact a58 oM
theorem b58 (n:Nat):LQ.LB (List.replicate n 0):=fun d h=>by rw [List.eq_of_mem_replicate h];decide
theorem c31 {l:List Nat} {i x:Nat} (h:i < l.length):(l.set i x).getD i 0=x:=by simp [List.getD,List.getElem?_set,h]
theorem a5m {a b out:List Nat} {i bor bor' x:Nat} (hi:i < out.length) (he:v7 (a.take i)+B9 ^ i * bor=v7 (out.take i)+v7 (b.take i)) (hx:a.getD i 0+1000000000 * bor'=x+b.getD i 0+bor) :
  v7 (a.take (i+1))+B9 ^ (i+1) * bor'=v7 ((out.set i x).take (i+1))+v7 (b.take (i+1)):=by
 rw [K4 a,K4 b,K4 (out.set i x),e4e,c31 hi,Nat.pow_succ,Nat.mul_assoc];have h:=congrArg (B9 ^ i * ·) hx;rw [show (1000000000:Nat)=B9 from rfl] at h;simp only [Nat.mul_add] at h;omega
theorem gD {l:List Nat} {i:Nat} (h:i < l.length):l[i]=l.getD i 0:=by simp only [List.getD,List.getElem?_eq_getElem h,Option.getD_some]
theorem gD0 {l:List Nat} {i:Nat} (h:l.length≤i):l.getD i 0=0:=by simp only [List.getD,List.getElem?_eq_none h,Option.getD_none]
theorem d7i {a b out:List Nat} {bor:Nat} (hol:out.length=a.length) (hyx:b.length≤a.length) (hxy:v7 b≤v7 a) (hLo:LQ.LB out) (hb:bor≤1) (he:v7 (a.take a.length)+B9 ^ a.length * bor=v7 (out.take a.length)+v7 (b.take a.length)):v7 out=v7 a - v7 b:=by
 rw [List.take_of_length_le (Nat.le_refl _),List.take_of_length_le oM,List.take_of_length_le oM] at he;have h:=T8 out hLo;rw [hol] at h;rcases Nat.lt_or_ge bor 1 with h1 | h1
 ·have:bor=0:=oM;subst this;omega
 ·have:bor=1:=oM;subst this;omega
theorem f48 {U:C3} {fn:FF} {vs:List V} {bs:List Bx} (ht:Ans fn 283 (spM fun l=>.ret (.sl 1 ((H7 l).map lg)))) {a b:List Nat} (hx:a.length < 20000) (hyx:b.length≤a.length) (hxy:v7 b≤v7 a) (hLa:LQ.LB a) (hLb:LQ.LB b) (hv:z7 [.sl 1 (a.map lg),.sl 1 (b.map lg)] vs) (hb:u0 [] bs) :
  t6 U (e3r U fn vs bs) fun v bs'=>A3 (.ret (.sl 1 (B8 (v7 a - v7 b)))) v∧u0 [] bs':=by
 unfold e3r;refine Zx ?_;intros;refine sZT (n:=1) (r:=lg 0) (fun _=>L0 (.i _ _)) rfl oM fun t' ht'=>?_;refine Zx ?_;intros;refine I7 (fun (i:Nat) vs bs=>∃ (t1:u1 Q) (o1:Nat) (t2:u1 Q) (o2:Nat) (t3:u1 Q) (out:List Nat) (bor:Nat),vs=[.slice t1 1 o1 a.length .no,.slice t2 1 o2 b.length .no,.bslice 0 a.length,.int .i64 bor,.int .i64 a.length,.int .i64 i]∧bs=[.row t3 a.length]∧A5 1 (a.map lg) t1 o1∧A5 1 (b.map lg) t2 o2∧A5 1 (out.map lg) t3 0∧out.length=a.length∧LQ.LB out∧i≤a.length∧bor≤1∧v7 (a.take i)+B9 ^ i * bor=v7 (out.take i)+v7 (b.take i)) (fun i=>a.length - i) 0 ?_ (by simp only [E3];omega) ?_
 ·exact ⟨_,_,_,_,t',List.replicate a.length 0,0,by simp only [Int.toNat_natCast];rfl,by simp,aS,aS,by simpa [List.map_replicate] using ht',by simp,b58 _,oM,oM,by simp [v7]⟩
 rintro self i _ _ ⟨t1,o1,t2,o2,t3,out,bor,rfl,rfl,h1,h2,h3,hol,hLo,hi,hbor,he⟩ ih;(refine Zx ?_;with_reducible repeat' first|intro _|apply aI)
 ·have q1:a.getD i 0 < 1000000000:=a14 hLa i;have q2:b.getD i 0 < 1000000000:=a14 hLb i;rw [gD (l:=a) oM];refine a94 rfl oM ?_;(refine Zx ?_;with_reducible repeat' first|intro _|apply aI)
  ·rw [gD (l:=b) oM];refine a94 rfl oM ?_;(refine Zx ?_;with_reducible repeat' first|intro _|apply aI)
   ·(refine a5t (m:=((a.getD i 0+1000000000 - bor - b.getD i 0:Nat):Int)) oM oM ?_;(refine Zx ?_;with_reducible repeat' first|intro _|apply aI);refine b1h (r:=lg (a.getD i 0+1000000000 - bor - b.getD i 0)) h3 (fun _=>L0 (.i _ _)) rfl (by simp;omega) oM fun t9 h9=>?_;(refine Zx ?_;with_reducible repeat' first|intro _|apply aI);refine ih (i+1) _ _ ?_ oM;exact ⟨t1,o1,t2,o2,t9,out.set i (a.getD i 0+1000000000 - bor - b.getD i 0),1,by simp,by simp,h1,h2,by rw [List.map_set];simpa using h9,by simp [hol],a4b hLo _ _ (by show _ < 1000000000;omega),oM,oM,a5m oM he oM⟩)
   ·(refine a5t (m:=((a.getD i 0 - bor - b.getD i 0:Nat):Int)) oM oM ?_;(refine Zx ?_;with_reducible repeat' first|intro _|apply aI);refine b1h (r:=lg (a.getD i 0 - bor - b.getD i 0)) h3 (fun _=>L0 (.i _ _)) rfl (by simp;omega) oM fun t9 h9=>?_;(refine Zx ?_;with_reducible repeat' first|intro _|apply aI);refine ih (i+1) _ _ ?_ oM;exact ⟨t1,o1,t2,o2,t9,out.set i (a.getD i 0 - bor - b.getD i 0),0,by simp,by simp,h1,h2,by rw [List.map_set];simpa using h9,by simp [hol],a4b hLo _ _ (by show _ < 1000000000;omega),oM,oM,a5m oM he oM⟩)
  ·have e2:b.getD i 0=0:=gD0 oM
   (refine a5t (m:=((a.getD i 0+1000000000 - bor:Nat):Int)) oM oM ?_;(refine Zx ?_;with_reducible repeat' first|intro _|apply aI);refine b1h (r:=lg (a.getD i 0+1000000000 - bor)) h3 (fun _=>L0 (.i _ _)) rfl (by simp;omega) oM fun t9 h9=>?_;(refine Zx ?_;with_reducible repeat' first|intro _|apply aI);refine ih (i+1) _ _ ?_ oM;exact ⟨t1,o1,t2,o2,t9,out.set i (a.getD i 0+1000000000 - bor),1,by simp,by simp,h1,h2,by rw [List.map_set];simpa using h9,by simp [hol],a4b hLo _ _ (by show _ < 1000000000;omega),oM,oM,a5m oM he oM⟩)
  ·have e2:b.getD i 0=0:=gD0 oM
   (refine a5t (m:=((a.getD i 0 - bor:Nat):Int)) oM oM ?_;(refine Zx ?_;with_reducible repeat' first|intro _|apply aI);refine b1h (r:=lg (a.getD i 0 - bor)) h3 (fun _=>L0 (.i _ _)) rfl (by simp;omega) oM fun t9 h9=>?_;(refine Zx ?_;with_reducible repeat' first|intro _|apply aI);refine ih (i+1) _ _ ?_ oM;exact ⟨t1,o1,t2,o2,t9,out.set i (a.getD i 0 - bor),0,by simp,by simp,h1,h2,by rw [List.map_set];simpa using h9,by simp [hol],a4b hLo _ _ (by show _ < 1000000000;omega),oM,oM,a5m oM he oM⟩)
 ·have em:i=a.length:=oM;subst em;refine s6 ht ⟨out,by show out.length < 20000;omega⟩ (r:=.sl 1 (B8 (v7 a - v7 b))) (by rw [← d7i hol hyx hxy hLo hbor he];show z8.ret (.sl 1 ((H7 out).map lg))=_;rw [a0u out hLo];rfl) (.k (.sl _ _ _ _ _ (by simp [hol]) h3) .nil) .nil fun _ _ _ _=>?_;refine Zx ?_;intros;exact s9 ⟨.ret _ _ (.sl _ _ _ _ _ (by simp [B8]) aS),.nil⟩
theorem c03:v8 267 (e4a (fun x y=>y≤x) fun x y=>.ret (.sl 1 (B8 (x - y)))):=A8 (fun fn h=>f07 h) [(283,_)] (.cons b29 .nil) fun U fn hfn ⟨(x,y),hx,hy,hxy⟩ vs bs hv hb=>by
 have h:=f48 (U:=U) (hfn 283 _ rfl) (a:=u3 x) (b:=u3 y) hx (Q2 hxy) (by rw [G5,G5];exact hxy) (J8 x) (J8 y) hv hb;rw [G5,G5] at h;exact h
section
variable {U:C3} {P:K0→List Bx→Prop}
theorem d9j {a b m:Int} {K:Int→Om} (he:a+b=m) (hr:0≤m∧m < 18446744073709551616) (h:t6 U (K m) P):t6 U (U.fI (U.wr .u64 (U.iAdd a b)) K) P:=fun e'=>by
 have:=h e';subst e';rw [T7];show ∃ v bs,K (wr .u64 (iAdd a b))=some (v,bs)∧P v bs;rw [b4j,he,b99 hr.1 hr.2];exact this
theorem g0r {a b m:Int} {K:Int→Om} (he:a * b=m) (hr:0≤m∧m < 18446744073709551616) (h:t6 U (K m) P):t6 U (U.fI (U.wr .u64 (U.iMul a b)) K) P:=fun e'=>by
 have:=h e';subst e';rw [T7];show ∃ v bs,K (wr .u64 (iMul a b))=some (v,bs)∧P v bs;rw [c0y,he,b99 hr.1 hr.2];exact this
theorem g0s {n m:Nat} {K:Int→Om} (hn:n < 18446744073709551616) (h:t6 U (K ((n / m:Nat):Int)) P):t6 U (U.fI (U.wr .u64 (U.iQuo (n:Int) (m:Int))) K) P:=fun e'=>by
 have:=h e';subst e';rw [T7];show ∃ v bs,K (wr .u64 (iQuo (n:Int) (m:Int)))=some (v,bs)∧P v bs;have hd:=Nat.div_le_self n m;rw [a9l,show (n:Int).tdiv m=((n / m:Nat):Int) from (Int.ofNat_tdiv n m).symm,b99 (Int.natCast_nonneg _) oM];exact this
theorem sQV {x:Q} {K:Q→Om} (h:t6 U (K x) P):t6 U (U.uQ (.q x) K) P:=fun e=>by have:=h e;subst e;exact this
end
theorem c7e (l:List Nat) (n:Nat):v7 (l.take n)≤v7 l:=by
 have h:=V2 (l.take n) (l.drop n);rw [List.take_append_drop] at h;omega
theorem d6y {l:List Nat} {k:Nat} (h:v7 l < B9 ^ k):l.getD k 0=0:=by
 have h1:=c7e l (k+1);rw [K4] at h1;rcases Nat.eq_zero_or_pos (l.getD k 0) with h2 | h2
 ·exact h2
 ·have:=Nat.le_mul_of_pos_right (B9 ^ k) h2;omega
theorem e79 {x y:Nat} (hx:x < 1000000000) (hy:y < 1000000000):x * y≤999999998000000001 :=
 Nat.le_trans (Nat.mul_le_mul (show x≤999999999 by omega) (show y≤999999999 by omega)) dE
theorem d42 {out b:List Nat} {i j c x L:Nat} (hj:i+j < out.length) (he:v7 out+B9 ^ (i+j) * c=L+B9 ^ i * x * v7 (b.take j)) :
  v7 (out.set (i+j) ((out.getD (i+j) 0+x * b.getD j 0+c) % 1000000000))+B9 ^ (i+(j+1)) * ((out.getD (i+j) 0+x * b.getD j 0+c) / 1000000000)=L+B9 ^ i * x * v7 (b.take (j+1)):=by
 have h:=c7d out (i+j) ((out.getD (i+j) 0+x * b.getD j 0+c) % 1000000000) hj;rw [K4 b,Nat.mul_add,show i+(j+1)=(i+j)+1 by omega,Nat.pow_succ];have hd:=Nat.div_add_mod (out.getD (i+j) 0+x * b.getD j 0+c) 1000000000;have h2:=congrArg (B9 ^ (i+j) * ·) hd;simp only [Nat.mul_add] at h2;rw [show B9 ^ i * x * (B9 ^ j * b.getD j 0)=B9 ^ (i+j) * (x * b.getD j 0) by rw [Nat.pow_add];ac_rfl,show B9 ^ (i+j) * B9 * ((out.getD (i+j) 0+x * b.getD j 0+c) / 1000000000)=B9 ^ (i+j) * (1000000000 * ((out.getD (i+j) 0+x * b.getD j 0+c) / 1000000000)) by rw [Nat.mul_assoc];rfl];omega
theorem d9z {out a b:List Nat} {i c:Nat} (hi:i+b.length < out.length) (hz:out.getD (i+b.length) 0=0) (he:v7 out+B9 ^ (i+b.length) * c=v7 (a.take i) * v7 b+B9 ^ i * a.getD i 0 * v7 (b.take b.length)) :
  v7 (out.set (i+b.length) c)=v7 (a.take (i+1)) * v7 b:=by
 have h:=c7d out (i+b.length) c hi;rw [hz,Nat.mul_zero,Nat.add_zero] at h;rw [List.take_of_length_le (Nat.le_refl _)] at he;rw [K4 a,Nat.add_mul];omega
theorem d43 {out a b:List Nat} {i:Nat} (ha:LQ.LB a) (hb:LQ.LB b) (he:v7 out=v7 (a.take i) * v7 b) (hi:i≤a.length):out.getD (i+b.length) 0=0:=by
 refine d6y ?_;have h1:=T8 (a.take i) (fun d hd=>ha d (List.mem_of_mem_take hd));rw [List.length_take,Nat.min_eq_left hi] at h1;have h2:=T8 b hb;rw [he,Nat.pow_add];exact Nat.mul_lt_mul'' h1 h2
section
theorem g1a {U:C3} {fn:FF} {vs:List V} {bs:List Bx} (ht:Ans fn 283 (spM fun l=>.ret (.sl 1 ((H7 l).map lg)))) {a b:List Nat} (hab:a.length+b.length < 20000) (hLa:LQ.LB a) (hLb:LQ.LB b) (hv:z7 [.sl 1 (a.map lg),.sl 1 (b.map lg)] vs) (hb:u0 [] bs) :
  t6 U (e3p U fn vs bs) fun v bs'=>A3 (.ret (.sl 1 (B8 (v7 a * v7 b)))) v∧u0 [] bs':=by
 unfold e3p;refine Zx ?_;intros;refine sZT (n:=1) (r:=lg 0) (fun _=>L0 (.i _ _)) rfl oM fun t' ht'=>?_;refine Zx ?_;intros;refine I7 (fun (i:Nat) vs bs=>∃ (t1:u1 Q) (o1:Nat) (t2:u1 Q) (o2:Nat) (t3:u1 Q) (out:List Nat),vs=[.slice t2 1 o2 b.length .no,.bslice 0 (a.length+b.length),.slice t1 1 o1 a.length .no,.int .i64 a.length,.int .i64 i]∧bs=[.row t3 (a.length+b.length)]∧A5 1 (a.map lg) t1 o1∧A5 1 (b.map lg) t2 o2∧A5 1 (out.map lg) t3 0∧out.length=a.length+b.length∧LQ.LB out∧i≤a.length∧v7 out=v7 (a.take i) * v7 b) (fun i=>a.length - i) 0 ?_ (by simp only [E3];omega) ?_
 ·exact ⟨_,_,_,_,t',List.replicate (a.length+b.length) 0,by simp only [← Int.natCast_add,Int.toNat_natCast];rfl,by simp only [← Int.natCast_add,Int.toNat_natCast],aS,aS,by simpa [← Int.natCast_add,List.map_replicate] using ht',by simp,b58 _,oM,by simp [v7,d32]⟩
 rintro self i _ _ ⟨t1,o1,t2,o2,t3,out,rfl,rfl,h1,h2,h3,hol,hLo,hi,he⟩ ih;(refine Zx ?_;with_reducible repeat' first|intro _|apply aI)
 ·have hi':i < a.length:=oM;have q1:a.getD i 0 < 1000000000:=a14 hLa i;have hz:=d43 hLa hLb he hi;rename_i x1 hx1 x2 hx2;rw [gD (l:=a) hi'] at hx2;refine I7 (fun (j:Nat) vs bs=>∃ (t1:u1 Q) (o1:Nat) (t2:u1 Q) (o2:Nat) (t4:u1 Q) (o4:Nat) (t3:u1 Q) (o:List Nat) (c:Nat),vs=[.slice t2 1 o2 b.length .no,.bslice 0 (a.length+b.length),.int .i64 i,.q x2,.int .u64 c,.slice t1 1 o1 a.length .no,.int .i64 a.length,.int .i64 i,.slice t4 1 o4 b.length .no,.int .i64 b.length,.int .i64 j]∧bs=[.row t3 (a.length+b.length)]∧A5 1 (a.map lg) t1 o1∧A5 1 (b.map lg) t2 o2∧A5 1 (b.map lg) t4 o4∧A5 1 (o.map lg) t3 0∧o.length=a.length+b.length∧LQ.LB o∧j≤b.length∧c < 1000000000∧o.getD (i+b.length) 0=0∧v7 o+B9 ^ (i+j) * c=v7 (a.take i) * v7 b+B9 ^ i * a.getD i 0 * v7 (b.take j)) (fun j=>b.length - j) 0 ⟨t1,o1,t2,o2,t2,o2,t3,out,0,rfl,rfl,h1,h2,h2,h3,hol,hLo,oM,oM,hz,by simp [v7,he]⟩ (by simp only [E3];omega) ?_;clear h1 h2 h3;rintro self' j _ _ ⟨t1,o1,t2,o2,t4,o4,t3,o,c,rfl,rfl,h1,h2,h4,h3,hol,hLo,hj,hc,hz,he⟩ ih';refine Zx ?_;intros;refine sQV ?_;(refine Zx ?_;with_reducible repeat' first|intro _|apply aI)
  ·have hj':j < b.length:=oM;have q2:b.getD j 0 < 1000000000:=a14 hLb j;have q3:o.getD (i+j) 0 < 1000000000:=a14 hLo (i+j);have q4:=e79 q1 q2;rw [show ((i:Int)+j).toNat * 1=i+j by omega];refine g0p (g:=.i .u32 (o.getD (i+j) 0)) h3 (by rw [List.getElem?_map,List.getElem?_eq_getElem oM,gD oM];rfl) fun x98 hx98=>?_;refine sCI hx98 ?_;refine c4v rfl oM ?_;refine sCI hx2 ?_;refine c4v rfl oM ?_;refine Zx ?_;intros;rw [gD (l:=b) hj'];refine c4v rfl oM ?_;refine g0r (m:=((a.getD i 0 * b.getD j 0:Nat):Int)) (by rw [Int.natCast_mul]) oM ?_;refine d9j (m:=((o.getD (i+j) 0+a.getD i 0 * b.getD j 0:Nat):Int)) (by rw [← Int.natCast_add]) oM ?_;refine d9j (m:=((o.getD (i+j) 0+a.getD i 0 * b.getD j 0+c:Nat):Int)) (by rw [← Int.natCast_add]) oM ?_;refine Zx ?_;intros;have st:=d42 (out:=o) (b:=b) (x:=a.getD i 0) (L:=v7 (a.take i) * v7 b) oM he;generalize hT:o.getD (i+j) 0+a.getD i 0 * b.getD j 0+c=T at st ⊢;refine g0o (n:=T) (m:=1000000000) rfl rfl ?_;refine a5t (m:=((T % 1000000000:Nat):Int)) rfl oM ?_;refine Zx ?_;intros;refine g0s (n:=T) (m:=1000000000) oM ?_;refine Zx ?_;intros;refine b1h (r:=lg (T % 1000000000)) h3 (fun _=>L0 (.i _ _)) rfl (by simp;omega) oM fun t9 h9=>?_;refine Zx ?_;intros;refine ih' (j+1) _ _ ?_ oM;exact ⟨t1,o1,t2,o2,t4,o4,t9,o.set (i+j) (T % 1000000000),T / 1000000000,by simp,by simp,h1,h2,h4,by rw [List.map_set];simpa [← Int.natCast_add] using h9,by simp [hol],a4b hLo _ _ (by show _ < 1000000000;omega),oM,oM,by rw [b5o oM];exact hz,st⟩
  ·have ej:j=b.length:=oM;subst ej;refine a5t rfl oM ?_;refine Zx ?_;intros;refine b1h (r:=lg c) h3 (fun _=>L0 (.i _ _)) rfl (by simp;omega) oM fun t9 h9=>?_;refine Zx ?_;intros;refine ih (i+1) _ _ ?_ oM;exact ⟨t1,o1,t2,o2,t9,o.set (i+b.length) c,by simp,by simp,h1,h2,by rw [List.map_set];simpa [← Int.natCast_add] using h9,by simp [hol],a4b hLo _ _ (by show _ < 1000000000;omega),oM,d9z oM hz he⟩
 ·have em:i=a.length:=oM;subst em;rw [List.take_of_length_le (Nat.le_refl _)] at he;refine s6 ht ⟨out,by show out.length < 20000;omega⟩ (r:=.sl 1 (B8 (v7 a * v7 b))) (by rw [← he];show z8.ret (.sl 1 ((H7 out).map lg))=_;rw [a0u out hLo];rfl) (.k (.sl _ _ _ _ _ (by simp [hol]) h3) .nil) .nil fun _ _ _ _=>?_;refine Zx ?_;intros;exact s9 ⟨.ret _ _ (.sl _ _ _ _ _ (by simp [B8]) aS),.nil⟩
theorem c04:v8 259 (g01 (fun a b=>LQ.LB a∧LQ.LB b∧a.length+b.length < 20000) fun a b=>.ret (.sl 1 (B8 (v7 a * v7 b)))):=A8 (fun fn h=>f00 h) [(283,_)] (.cons b29 .nil) fun U fn hfn ⟨(a,b),_,_,ha,hb',hl⟩ vs bs hv hb =>
 g1a (U:=U) (hfn 283 _ rfl) (a:=a) (b:=b) hl ha hb' hv hb
end
section
variable {U:C3} {P:K0→List Bx→Prop}
theorem e3z {g:Nat} {l cs:List V} {v:V} {K:List V→List V→Om} (hv:RV (.raw (.func (.func g) l cs)) v) (h:t6 U (K l cs) P):t6 U (U.uFn g v K) P:=fun e=>by
 cases hv;have:=h e;subst e;show ∃ v bs,cond (Nat.beq g g) (K l cs) none=some (v,bs)∧P v bs;rw [Nat.beq_refl];exact this
theorem g0m {n m:Nat} {e M:Int} {K:Int→Om} (he:e=n) (hM:M=m) (h:t6 U (K ((n / m:Nat):Int)) P):t6 U (U.fI (U.iQuo e M) K) P:=by
 subst he hM;exact g5f (by rw [Int.ofNat_tdiv] at *;exact h)
theorem g0g {g:Nat} {l cs:List V} {K:List V→List V→Om} (h:t6 U (K l cs) P):t6 U (U.uFn g (.func (.func g) l cs) K) P:=e3z (.raw _) h
theorem a5s {n:Nat} {v:V} {K:u1 Q→Nat→Nat→Om} (hv:RV (.c (.l (B8 n))) v) (h:∀ t off,A5 1 ((u3 n).map lg) t off→t6 U (K t off (u3 n).length) P):t6 U (U.uSl 1 0 v K) P :=
 h0g hv (fun r hr=>by obtain ⟨d,_,rfl⟩:=List.mem_map.1 hr;rfl) fun t off ht=>by
  have:=h t off ht
  rwa [show (B8 n).length=(u3 n).length by simp [B8]]
end
def clo:V:=.func (.func 291) [] [.ptr 0 0,.ptr 1 0]
theorem b7a {n:Nat} {t:u1 Q} {off k:Nat} (h:A5 1 ((u3 n).map lg) t off) (hk:k=(u3 n).length):RB [.l (B8 n)] (.cells [.slice t 1 off k .no]):=.cells _ _ (.k (.cl _ _ _ _ _ (by simp [B8,hk]) h) .nil)
theorem d09 {d:Nat} (h:d < 1000000000):(u3 d).length≤1:=a58 (k:=1) (by rw [Nat.pow_one];exact h)
theorem lb1 {d:Nat} (h:d < 1000000000):LQ.LB [d]:=fun x hx=>by simp at hx;subst hx;exact h
theorem d31 (d:Nat):v7 [d]=d:=by simp [v7]
theorem e3y {d:Nat}:A5 1 ([d].map lg) (.node (.int .u32 (d:Int)) .nil .nil) 0:=.cons _ _ _ _ _ rfl (L0 (.i _ _)).1 (fun g e=>(L0 (.i _ _)).2 g e) (.nil _ _ _)
theorem a8v {y m:Nat} (h:m < 1000000000):(u3 (y * m)).length≤(u3 y).length+1:=by
 have h1:=T8 (u3 y) (J8 y);rw [G5] at h1;refine a58 ?_;rw [Nat.pow_succ];exact Nat.mul_lt_mul'' h1 h
abbrev D1I:={ p:(Nat × Nat) × Nat // (u3 p.1.1).length < 10000∧(u3 p.1.2).length < 19999∧p.2 < 1000000000 }
theorem c76 {a b c d:Nat} {bs:List Bx} (h:u0 [[.l (B8 a)],[.l (B8 b)]] bs) (k:u0 [[.l (B8 c)],[.l (B8 d)]] bs):a=c∧b=d:=by
 cases h with
 | cons _ _ b1 bs h1 h2=>cases k with
  | cons _ _ _ _ k1 k2=>cases h2 with
   | cons _ _ _ _ h2 _=>cases k2 with
    | cons _ _ _ _ k2 _ =>
     have e1:=h1.inj k1;have e2:=h2.inj k2;injection e1 with e1;injection e1 with e1;injection e2 with e2;injection e2 with e2;exact ⟨a9p e1,a9p e2⟩
def h0k:Sp where
 ι:=D1I
 A p:=[.c (.i .i64 p.1.2),.p 0 0,.p 1 0]
 B p:=[[.l (B8 p.1.1.1)],[.l (B8 p.1.1.2)]]
 R p:=.ret (.c (.b (decide (p.1.1.2 < p.1.1.1 * p.1.2))))
 B' p:=[[.l (B8 p.1.1.1)],[.l (B8 p.1.1.2)]]
 inj i j vs bs h k hb kb:=by
  obtain ⟨e1,e2⟩:=c76 hb kb;obtain ⟨_,_,h1,k1,h,k⟩:=h.two k;have e3:=b4l h1 k1;have e3:i.1.2=j.1.2:=oM;rw [e1,e2,e3];exact ⟨rfl,rfl⟩
def h0v:Sp where
 ι:={ p:Nat × Nat // (u3 p.1).length < 10000∧(u3 p.2).length < 19999∧p.1 ≠ 0∧p.2 < p.1 * 1000000000 }
 A p:=[.c (.i .i64 1000000000),.raw clo]
 B p:=[[.l (B8 p.1.1)],[.l (B8 p.1.2)]]
 R p:=.ret (.c (.i .i64 ((p.1.2 / p.1.1+1:Nat):Int)))
 B' p:=[[.l (B8 p.1.1)],[.l (B8 p.1.2)]]
 inj i j vs bs h k hb kb:=by
  obtain ⟨e1,e2⟩:=c76 hb kb;rw [e1,e2];exact ⟨rfl,rfl⟩
section
theorem kD1:v8 291 h0k:=A8 (fun fn h=>f1e h) [(259,_),(280,_)] (.cons c04 (.cons a5i .nil)) fun U fn hfn ⟨((y,r),m),hy,hr,hm⟩ vs bs hv hb=>by
 have hv:z7 [.c (.i .i64 (m:Int)),.p 0 0,.p 1 0] vs:=hv;have hb:u0 [[.l (B8 y)],[.l (B8 r)]] bs:=hb;have hy:(u3 y).length < 10000:=hy;have hr:(u3 r).length < 19999:=hr;have hm:m < 1000000000:=hm;show t6 U _ fun v bs'=>A3 (.ret (.c (.b (decide (r < y * m))))) v∧u0 [[.l (B8 y)],[.l (B8 r)]] bs';unfold f8x;refine Zq ?_;intros;refine a5s aS fun tb ob htb=>?_;refine Zq ?_;intros;refine a5s aS fun tr or htr=>?_;refine Zq ?_;intros;refine a5t rfl oM ?_;refine Zq ?_;intros;have hl:=a8v (y:=y) hm;refine s6 (hfn 259 _ rfl) ⟨(u3 y,[m]),by show (u3 y).length < 20000;omega,by show 1 < 20000;omega,J8 y,lb1 hm,by show (u3 y).length+1 < 20000;omega⟩ (r:=.sl 1 (B8 (y * m))) (by show z8.ret (.sl 1 (B8 (v7 (u3 y) * v7 [m])))=_;rw [G5,d31]) (.k (.sl _ _ _ _ _ (by simp) htb) (.k (.sl _ _ _ _ _ rfl e3y) .nil)) .nil fun _ _ _ _=>?_;refine Zq ?_;intros;refine s6 (hfn 280 _ rfl) ⟨(u3 (y * m),u3 r),by show (u3 (y * m)).length < 20000;omega,by show (u3 r).length < 20000;omega,trivial⟩ (r:=.c (.i .i64 (N1 (u3 (y * m)) (u3 r)))) rfl (.k (.sl _ _ _ _ _ (by simp [B8]) aS) (.k (.sl _ _ _ _ _ (by simp) htr) .nil)) .nil fun _ _ _ _=>?_;refine Zq ?_;intros;refine P0 fun e=>⟨.ret _ _ ?_,.k (b7a htb rfl) (.k (b7a htr rfl) .nil)⟩;have eb:U.iLt 0 (N1 (u3 (y * m)) (u3 r))=decide (r < y * m):=by
  subst e;show iLt 0 (N1 (u3 (y * m)) (u3 r))=_;rw [a1c,a6v];by_cases h1:r < y * m
  ·rw [if_neg oM,if_pos h1];simp [h1]
  ·by_cases h2:y * m < r
   ·rw [if_pos h2];simp [h1]
   ·rw [if_neg h2,if_neg h1];simp [h1]
 rw [eb];exact .b _
theorem kSr:v8 290 h0v:=A8 (fun fn h=>f1d h) [(291,_)] (.cons kD1 .nil) fun U fn hfn ⟨(y,r),hy,hr,hy0,hr9⟩ vs bs hv hb=>by
 have hv:z7 [.c (.i .i64 1000000000),.raw clo] vs:=hv;have hb:u0 [[.l (B8 y)],[.l (B8 r)]] bs:=hb;have hy:(u3 y).length < 10000:=hy;have hr:(u3 r).length < 19999:=hr;have hy0:y ≠ 0:=hy0;have hr9:r < y * 1000000000:=hr9;show t6 U _ fun v bs'=>A3 (.ret (.c (.i .i64 ((r / y+1:Nat):Int)))) v∧u0 [[.l (B8 y)],[.l (B8 r)]] bs';have hq:r / y < 1000000000:=(Nat.div_lt_iff_lt_mul oM).2 (by rw [Nat.mul_comm];exact hr9);unfold f8w;refine Zq ?_;intros;refine e3z aS ?_;refine Zq ?_;intros;refine a5s aS fun tb ob htb=>?_;refine Zq ?_;intros;refine a5s aS fun tr or htr=>?_;refine Zq ?_;intros;refine I7 (fun (k:Nat) vs bs=>∃ (i j:Nat) (tb:u1 Q) (ob:Nat) (tr:u1 Q) (or:Nat),vs=[.func (.func 291) [] [.ptr 0 0,.ptr 1 0],.int .i64 i,.int .i64 j]∧bs=[.cells [.slice tb 1 ob (u3 y).length .no],.cells [.slice tr 1 or (u3 r).length .no]]∧A5 1 ((u3 y).map lg) tb ob∧A5 1 ((u3 r).map lg) tr or∧i≤r / y+1∧r / y+1≤j∧j≤1000000000∧j - i < 2 ^ k) (fun k=>k) 30 ⟨0,1000000000,tb,ob,tr,or,rfl,rfl,htb,htr,Nat.zero_le _,oM,oM,dE⟩ dE ?_;clear htb htr;rintro self k _ _ ⟨i,j,tb,ob,tr,or,rfl,rfl,htb,htr,hi,hj,hj9,hk⟩ ih;refine Zq ?_;intros;refine g0g ?_;(refine Zq ?_;with_reducible repeat' first|intro _|apply aI)
 ·refine c4v rfl oM ?_;refine Zq ?_;intros;refine g0m (n:=i+j) (m:=2) oM rfl ?_;have hm:(i+j) / 2 < 1000000000:=oM;refine a94 rfl oM ?_;obtain ⟨k,rfl⟩:∃ n,k=n+1:=by
   cases k with
   | zero=>exact absurd hk oM
   | succ n=>exact ⟨n,rfl⟩
  have hk':(2:Nat) ^ (k+1)=2 * 2 ^ k:=by rw [Nat.pow_succ];omega
  refine s6 (hfn 291 _ rfl) ⟨((y,r),(i+j) / 2),hy,hr,hm⟩ (r:=.c (.b (decide (r < y * ((i+j) / 2))))) rfl (.k (.i _ _) (.k (.p _ _) (.k (.p _ _) .nil))) (.k (b7a htb rfl) (.k (b7a htr rfl) .nil)) fun _ _ _ hb9=>?_;have hb9:u0 [[.l (B8 y)],[.l (B8 r)]] _:=hb9;have hdiv:r < y * ((i+j) / 2)↔r / y < (i+j) / 2:=by rw [Nat.div_lt_iff_lt_mul oM,Nat.mul_comm]
  refine Zq ?_;intros;refine a5s aS fun tb ob htb=>?_;refine Zq ?_;intros;refine a5s aS fun tr or htr=>?_;(refine Zq ?_;with_reducible repeat' first|intro _|apply aI)
  ·have hc:r < y * ((i+j) / 2):=of_decide_eq_true ‹_›;exact ih k _ _ ⟨i,(i+j) / 2,tb,ob,tr,or,rfl,rfl,htb,htr,hi,hdiv.1 hc,oM,oM⟩ oM
  ·have hc:¬r < y * ((i+j) / 2):=fun h=>‹¬decide (r < y * ((i+j) / 2))=true› (decide_eq_true h);have hc':¬r / y < (i+j) / 2:=fun h=>hc (hdiv.2 h);exact ih k _ _ ⟨(i+j) / 2+1,j,tb,ob,tr,or,rfl,rfl,htb,htr,oM,hj,hj9,oM⟩ oM
 ·have e:i=r / y+1:=oM;subst e;exact s9 ⟨.ret _ _ (.i _ _),.k (b7a htb rfl) (.k (b7a htr rfl) .nil)⟩
end
theorem c3z {l:List Nat} {i x:Nat} (h:i < l.length):(l.set i x).drop i=x :: l.drop (i+1):=by
 rw [List.drop_eq_getElem_cons (by simpa using h)];simp [List.drop_set_of_lt (show i < i+1 by omega)]
theorem e1i {out a:List Nat} {m r y:Nat} (ho:m < out.length) (ha:m < a.length) (he:v7 (out.drop (m+1)) * y+r=v7 (a.drop (m+1))) :
  v7 ((out.set m ((a.getD m 0+B9 * r) / y)).drop m) * y+(a.getD m 0+B9 * r) % y=v7 (a.drop m):=by
 rw [c3z ho,d7e a m ha,← he];show ((a.getD m 0+B9 * r) / y+B9 * v7 (out.drop (m+1))) * y+_=_;have h:=Nat.div_add_mod (a.getD m 0+B9 * r) y;rw [Nat.add_mul,Nat.mul_add,show (a.getD m 0+B9 * r) / y * y=y * ((a.getD m 0+B9 * r) / y) from Nat.mul_comm _ _,Nat.mul_assoc];omega
theorem e7a {out a:List Nat} {r y:Nat} (hr:r < y) (he:v7 out * y+r=v7 a):v7 out=v7 a / y∧r=v7 a % y:=by
 have hy:0 < y:=oM;rw [← he,Nat.mul_comm,Nat.mul_add_div hy,Nat.mul_add_mod,Nat.div_eq_of_lt hr,Nat.mod_eq_of_lt hr];simp
theorem f3c {a r y:Nat} (ha:a < 1000000000) (hr:r < y):(a+B9 * r) / y < 1000000000:=by
 refine (Nat.div_lt_iff_lt_mul oM).2 ?_;have:B9 * r+B9≤B9 * y:=by rw [← Nat.mul_succ];exact Nat.mul_le_mul_left _ hr
 have e:1000000000 * y=B9 * y:=rfl;have e':B9=1000000000:=rfl;omega
theorem c7b {d r:Nat} (h:d < B9):(u3 (d+B9 * r)).length≤(u3 r).length+1:=by
 have h1:=T8 (u3 r) (J8 r);rw [G5] at h1;refine a58 ?_;rw [Nat.pow_succ,Nat.mul_comm (B9 ^ _) B9];have e':B9=1000000000:=rfl;have:B9 * r+B9≤B9 * B9 ^ (u3 r).length:=by rw [← Nat.mul_succ];exact Nat.mul_le_mul_left _ h1
 omega
def g9n (x y:Nat):Prop:=y ≠ 0∧(u3 x).length < 9000∧(u3 y).length < 9000
section
theorem b6u:v8 265 (e4a g9n fun x y=>.ret (.t [.sl 1 (B8 (x / y)),.sl 1 (B8 (x % y))])):=A8 (fun fn h=>f05 h) [(283,_),(259,_),(280,_),(267,_),(290,_)] (.cons b29 (.cons c04 (.cons a5i (.cons c03 (.cons kSr .nil))))) fun U fn hfn ⟨(x,y),_,_,hy0,hx,hy⟩ vs bs hv hb=>by
 have hv:z7 [.sl 1 (B8 x),.sl 1 (B8 y)] vs:=hv;have hb:u0 [] bs:=hb;have hy0:y ≠ 0:=hy0;have hx:(u3 x).length < 9000:=hx;have hy:(u3 y).length < 9000:=hy;show t6 U _ fun v bs'=>A3 (.ret (.t [.sl 1 (B8 (x / y)),.sl 1 (B8 (x % y))])) v∧u0 [] bs';have htr:=hfn 283 _ rfl;unfold B8 at hv;have hLa:=J8 x;have hLb:=J8 y;unfold f8o;refine Zq ?_;intros;refine sZT (n:=1) (r:=lg 0) (fun _=>L0 (.i _ _)) rfl oM fun t' ht'=>?_;refine Zq ?_;intros;refine I7 (fun (m:Nat) vs bs=>∃ (i:Int) (t1:u1 Q) (o1:Nat) (tb:u1 Q) (ob:Nat) (vr:V) (t3:u1 Q) (out:List Nat) (r:Nat) (v6:V),vs=[.slice t1 1 o1 (u3 x).length .no,.ptr 0 0,.bslice 1 (u3 x).length,.ptr 2 0,.int .i64 i,v6]∧bs=[.cells [.slice tb 1 ob (u3 y).length .no],.row t3 (u3 x).length,.cells [vr]]∧i=m - 1∧RV (.c (.l (B8 r))) vr∧A5 1 ((u3 x).map lg) t1 o1∧A5 1 ((u3 y).map lg) tb ob∧A5 1 (out.map lg) t3 0∧out.length=(u3 x).length∧LQ.LB out∧m≤(u3 x).length∧r < y∧v7 (out.drop m) * y+r=v7 ((u3 x).drop m)) (fun m=>m) (u3 x).length ?_ (by simp only [E3];omega) ?_
 ·exact ⟨_,_,_,_,_,_,t',List.replicate (u3 x).length 0,0,_,by simp only [Int.toNat_natCast];rfl,by simp only [Int.toNat_natCast];rfl,rfl,.cl _ _ _ _ _ (by simp [B8,H6]) (by simp only [B8,H6];exact .nil _ _ _),aS,aS,by simpa [List.map_replicate] using ht',by simp,b58 _,oM,oM,by simp [v7]⟩
 rintro self m _ _ ⟨i,t1,o1,tb,ob,vr,t3,out,r,v6,rfl,rfl,hi,hvr,h1,hbb,h3,hol,hLo,hm,hry,he⟩ ih;have hrl:(u3 r).length≤(u3 y).length:=Q2 oM;refine Zq ?_;intros;refine a5s aS fun tr or htr'=>?_;(refine Zq ?_;with_reducible repeat' first|intro _|apply aI)
 ·obtain ⟨n,rfl⟩:∃ n:Nat,i=n:=⟨i.toNat,oM⟩;have em:m=n+1:=oM;subst em;have q1:(u3 x).getD n 0 < 1000000000:=a14 hLa n;refine c1s n h1 rfl oM fun x59 hx59=>?_;refine T3 hx59 rfl fun x60 hx60=>?_;refine Zq ?_;intros;refine sAT (n:=1) (xs:=[lg ((u3 x).getD n 0)]) (ys:=(u3 r).map lg) (.cons _ _ _ _ _ rfl (L0 hx60).1 (fun g e=>(L0 hx60).2 g e) (.nil _ _ _)) htr' rfl (by simp) (by simp;omega) fun t62 h62=>?_;have hR:=c7b (d:=(u3 x).getD n 0) (r:=r) q1;have hRl:=e2k ((u3 x).getD n 0) r q1;have hst:=e1i (out:=out) (a:=u3 x) (m:=n) (r:=r) (y:=y) oM oM he;have hdl:=f3c q1 hry;generalize hRR:(u3 x).getD n 0+B9 * r=R at *;refine s6 htr ⟨(u3 x).getD n 0 :: u3 r,by show (u3 r).length+1 < 20000;omega⟩ (r:=.sl 1 (B8 R)) (by show z8.ret (.sl 1 ((H7 ((u3 x).getD n 0 :: u3 r)).map lg))=_;rw [hRl];rfl) (.k (.sl _ _ _ _ _ (by simp;omega) h62) .nil) .nil fun _ _ _ _=>?_;refine Zq ?_;intros;refine s6 (hfn 280 _ rfl) ⟨(u3 R,u3 y),by show (u3 R).length < 20000;omega,by show (u3 y).length < 20000;omega,trivial⟩ (r:=.c (.i .i64 (if R < y then -1 else if y < R then 1 else 0))) (by show z8.ret (.c (.i .i64 (N1 (u3 R) (u3 y))))=_;rw [a6v]) (.k (.sl _ _ _ _ _ (by simp [B8]) aS) (.k (.sl _ _ _ _ _ (by simp) hbb) .nil)) .nil fun _ _ _ _=>?_;(refine Zq ?_;with_reducible repeat' first|intro _|apply aI)
  ·have hge:¬R < y:=fun h=>by
    rw [if_pos h] at *;omega
   obtain ⟨q,hqe⟩:∃ q,q=R / y:=⟨_,rfl⟩;rw [← hqe] at hst;have hdl9:=hdl;rw [← hqe] at hdl;refine s6 (hfn 290 _ rfl) ⟨(y,R),by show (u3 y).length < 10000;omega,by show (u3 R).length < 19999;omega,hy0,(Nat.div_lt_iff_lt_mul oM).1 hdl9 |> fun h=>by rw [Nat.mul_comm];exact h⟩ (r:=.c (.i .i64 ((q+1:Nat):Int))) (by rw [hqe];rfl) (.k (.i _ _) (.k (.raw _) .nil)) (.k (b7a hbb rfl) (.k (.cells _ _ (.k (.cl _ _ _ _ _ (by simp [B8]) aS) .nil)) .nil)) fun _ _ _ hb9=>?_;have hb9:u0 [[.l (B8 y)],[.l (B8 R)]] _:=hb9;refine Zq ?_;intros;refine a5s aS fun tb ob htb=>?_;refine Zq ?_;intros;refine a5s aS fun tR oR htR=>?_;refine Zq ?_;intros;refine a5t (m:=(q:Int)) oM oM ?_;refine Zq ?_;intros;refine s6 htr ⟨[q],by show 1 < 20000;omega⟩ (r:=.sl 1 (B8 q)) (by show z8.ret (.sl 1 ((H7 [q]).map lg))=_;rw [a0u [q] (lb1 hdl),d31];rfl) (.k (.sl _ _ _ _ _ rfl e3y) .nil) .nil fun _ _ _ _=>?_;refine Zq ?_;intros;have hq1:=d09 hdl;refine s6 (hfn 259 _ rfl) ⟨(u3 y,u3 q),by show (u3 y).length < 20000;omega,by show (u3 q).length < 20000;omega,J8 y,J8 q,by show (u3 y).length+(u3 q).length < 20000;omega⟩ (r:=.sl 1 (B8 (y * q))) (by show z8.ret (.sl 1 (B8 (v7 (u3 y) * v7 (u3 q))))=_;rw [G5,G5]) (.k (.sl _ _ _ _ _ (by simp) htb) (.k (.sl _ _ _ _ _ (by simp [B8]) aS) .nil)) .nil fun _ _ _ _=>?_;refine Zq ?_;intros;have hle:y * q≤R:=by rw [hqe];exact Nat.mul_div_le R y
   have hsub:R - y * q=R % y:=by have:=Nat.div_add_mod R y;rw [← hqe] at this;omega
   have hml:=Q2 hle;refine s6 (hfn 267 _ rfl) ⟨(R,y * q),by show (u3 R).length < 20000;omega,by show (u3 (y * q)).length < 20000;omega,hle⟩ (r:=.sl 1 (B8 (R % y))) (by show z8.ret (.sl 1 (B8 (R - y * q)))=_;rw [hsub]) (.k (.sl _ _ _ _ _ (by simp [B8]) htR) (.k (.sl _ _ _ _ _ (by simp [B8]) aS) .nil)) .nil fun _ _ _ _=>?_;refine Zq ?_;intros;refine b1h (r:=lg (q)) h3 (fun _=>L0 (.i _ _)) rfl (by simp;omega) oM fun t9 h9=>?_;refine Zq ?_;intros;refine ih n _ _ ⟨_,t1,o1,_,_,_,t9,out.set n (q),R % y,_,rfl,rfl,rfl,.cl _ _ _ _ _ (by simp [B8]) aS,h1,aS,by rw [List.map_set];simpa using h9,by simp [hol],a4b hLo _ _ (by show _ < 1000000000;omega),oM,Nat.mod_lt _ oM,hst⟩ oM
  ·have hlt:R < y:=by
    by_cases h:R < y
    ·exact h
    ·exfalso;rw [if_neg h] at *;split at * <;> omega
   rw [Nat.div_eq_of_lt hlt] at hst;have hmod:=Nat.mod_eq_of_lt hlt;rw [hmod] at hst;refine Zq ?_;intros;refine b1h (r:=lg (0)) h3 (fun _=>L0 (.i _ _)) rfl (by simp;omega) oM fun t9 h9=>?_;refine Zq ?_;intros;refine ih n _ _ ⟨_,t1,o1,_,_,_,t9,out.set n (0),R,_,rfl,rfl,rfl,.cl _ _ _ _ _ (by simp [B8]) aS,h1,aS,by rw [List.map_set];simpa using h9,by simp [hol],a4b hLo _ _ (by show _ < 1000000000;omega),oM,hlt,hst⟩ oM
 ·have em:m=0:=oM;subst em;simp only [List.drop_zero] at he;obtain ⟨hd1,hd2⟩:=e7a hry he;rw [G5] at hd1 hd2;refine s6 htr ⟨out,by show out.length < 20000;omega⟩ (r:=.sl 1 (B8 (x / y))) (by rw [← hd1];show z8.ret (.sl 1 ((H7 out).map lg))=_;rw [a0u out hLo];rfl) (.k (.sl _ _ _ _ _ (by simp [hol]) h3) .nil) .nil fun _ _ _ _=>?_;refine Zq ?_;intros;rw [← hd2];exact s9 ⟨.ret _ _ (.t _ _ (.k (.sl _ _ _ _ _ (by simp [B8]) aS) (.k (.sl _ _ _ _ _ (by simp [B8]) aS) .nil))),.nil⟩
end
end
end Go.Proofs.YtkojildpddaccaaGreatDoor
namespace Go.Proofs.YtkojildpddaccaaGreatDoor
open Go.Abs LQ Go.RowKit Go.Lib Go.Sort
set_option maxRecDepth 100000
set_option maxHeartbeats 4000000
noncomputable section
theorem f5r (l:List UInt8):∀ acc:Nat,(∀ c ∈ l,48≤c.toNat∧c.toNat≤57)→acc * 10 ^ l.length+E4 l≤4294967295→Lib.parseUintM 4294967295 acc l=.ok (acc * 10 ^ l.length+E4 l):=by
 induction l with
 | nil=>intro acc _ _;simp [Lib.parseUintM,E4,D3]
 | cons c r ih =>
  intro acc hd h;obtain ⟨h1,h2⟩:=hd c (by simp);have e:E4 (c :: r)=(c.toNat - 48) * 10 ^ r.length+E4 r:=by
   rw [b01];have:(bt [c] 0 - 48).toNat=c.toNat - 48:=by show (((c.toNat:Nat):Int) - 48).toNat=_;omega
   rw [this]
  rw [e,List.length_cons,Nat.pow_succ] at h ⊢;have hp:1≤10 ^ r.length:=Nat.one_le_pow _ _ dE;have e2:(acc * 10+(c.toNat - 48)) * 10 ^ r.length+E4 r=acc * (10 ^ r.length * 10)+((c.toNat - 48) * 10 ^ r.length+E4 r):=by
   rw [Nat.add_mul,Nat.mul_assoc,Nat.mul_comm 10,Nat.add_assoc]
  have hb:acc * 10+(c.toNat - 48)≤(acc * 10+(c.toNat - 48)) * 10 ^ r.length:=Nat.le_mul_of_pos_right _ hp;rw [Lib.parseUintM,if_pos ⟨h1,h2⟩,if_neg oM,if_neg oM,ih _ (fun d hd'=>hd d (by simp [hd'])) (by rw [e2];exact h),e2]
theorem d0t {s:u5} (h:∀ j,j < s.length→48≤bt s j∧bt s j≤57):∀ c ∈ s,48≤c.toNat∧c.toNat≤57:=fun c hc=>by
 obtain ⟨j,hj,rfl⟩:=List.getElem_of_mem hc;have:=h j hj;unfold bt at this;simp only [List.getD,List.getElem?_eq_getElem hj,Option.getD_some] at this;omega
theorem f5q {s:u5} (h0:0 < s.length) (h9:s.length≤9) (h:∀ j,j < s.length→48≤bt s j∧bt s j≤57):Lib.parseUintB 32 s=.ok (E4 s):=by
 have hl:=b6z s h;have hp:(10:Nat) ^ s.length≤10 ^ 9:=Nat.pow_le_pow_right dE h9;have:=f5r s 0 (d0t h) (by rw [Nat.zero_mul];omega);rw [Nat.zero_mul,Nat.zero_add] at this;unfold Lib.parseUintB;rw [if_neg (by intro e;subst e;simp at h0)];exact this
def h0r:Sp where
 ι:={ s:u5 // 0 < s.length∧s.length≤9∧∀ j,j < s.length→48≤bt s j∧bt s j≤57 }
 A s:=[.c (.s s.1),.c (.i .i64 10),.c (.i .i64 32)]
 B _:=[]
 R s:=.ret (.t [.c (.i .u64 ((E4 s.1:Nat):Int)),.nilI])
 B' _:=[]
 inj i j vs bs h k _ _:=by
  obtain ⟨_,_,h1,k1,h,k⟩:=h.two k;rw [T2 h1 k1];exact ⟨rfl,rfl⟩
theorem kPU:v8 282 h0r:=fun ⟨s,h0,h9,hd⟩ vs bs hv hb=>by
 change z7 [.c (.s s),.c (.i .i64 10),.c (.i .i64 32)] vs at hv;cases hb;refine ⟨.ret (.tuple [.int .u64 ((E4 s:Nat):Int),.nilIface]),[],fun hok=>?_,.ret _ _ (.t _ _ (.k (.i _ _) (.k .nilI .nil))),.nil⟩;have hx:vs.map toD=[D.str s,.int .i64 10,.int .i64 32]:=by
  cases hv with
  | cons _ _ v _ h1 h2=>cases h2 with
   | cons _ _ v2 _ h2 h3=>cases h3 with
    | cons _ _ v3 _ h3 h4 =>
     cases h4;rw [List.map_cons,List.map_cons,List.map_cons,d44 h1,b5c h2,b5c h3];rfl
 rw [hx];refine Z6 (d:=.tuple [.int .u64 ((E4 s:Nat):Int),.nilIface]) Tryz.call282 fun w S M us hg hwi hr=>?_;have hus:us=[.string ⟨s.toArray⟩,.int .i64 10,.int .i64 32]:=by
  cases hr with
  | cons _ _ _ _ r1 r2=>cases r2 with
   | cons _ _ _ _ r2 r3=>cases r3 with
    | cons _ _ _ _ r3 r4 =>
     cases r4;cases r1;cases r2;cases r3;rename_i sb hs;rw [c8u hs]
 subst hus;refine (Any.strconv_ParseUint_10_at32_ok Tryz.laysPu14 ⟨s.toArray⟩ (by simp [ByteArray.size];omega) (E4 s) (f5q h0 h9 hd) w).mono ?_;rintro e w' ⟨rfl,hw⟩;have hb:Below w.heap.size w w':=by
  rcases hw with rfl | rfl
  ·exact Below.refl _ _
  ·exact Lib.bytesWorld_below _ _ _
 refine ⟨hb,_,S,rfl,⟨fun _ _ h=>h,fun _ _ h=>.inl h⟩,X4 hwi hb,.tuple _ _ (.k (.int _ _) (.k .nilIface .nil)),⟨(fun _ _ _ h=>by cases h),fun vs ds hv hd i u e h1 h2=>?_⟩⟩;injection hv with hv;injection hd with hd;subst hv hd;intro len c z he;subst he
 match i with
 | 0=>simp at h2
 | 1=>simp at h2
 | i+2=>simp at h2
section
variable {U:C3} {P:K0→List Bx→Prop}
theorem c4u {v:V} {K:Om} (hv:RV .nilI v) (h:t6 U K P):t6 U (U.uNilI v K) P:=fun e=>by
 have:=h e;subst e;cases hv;exact this
theorem d9h {a:Int} {K:Int→Om} (h:t6 U (K (if 0 < a then a else 0)) P):t6 U (U.fI (U.isel (U.iLt 0 a) a 0) K) P :=
 g0l a43 (fun k=>by rw [if_pos k] at h;exact h) (fun k=>by rw [if_neg k] at h;exact h)
end
def J0 (neg:Bool) (n:Nat):List G:=[.b neg,.l (B8 n)]
theorem c9u {D:u5} {m:Nat} (hm:m≤D.length) (h9:9≤m):E4 (D.take m)=E4 (D.take (m - 9)) * 10 ^ 9+E4 ((D.take m).drop (m - 9)):=by
 have e:D.take m=D.take (m - 9) ++ (D.take m).drop (m - 9):=by
  have:=(List.take_append_drop (m - 9) (D.take m)).symm;rw [List.take_take,Nat.min_eq_left oM] at this;exact this
 conv=>lhs;rw [e]
 rw [c2y];have:((D.take m).drop (m - 9)).length=9:=by simp;omega
 rw [this]
theorem c2f {D:u5} (h:∀ j,j < D.length→48≤bt D j∧bt D j≤57) (k m:Nat) (hm:m≤D.length):∀ j,j < ((D.take m).drop k).length→48≤bt ((D.take m).drop k) j∧bt ((D.take m).drop k) j≤57:=fun j hj=>by
 simp at hj;have e:bt ((D.take m).drop k) j=bt D (k+j):=by
  rw [c0h];unfold bt;simp [List.getD,List.getElem?_take,show k+j < m by omega]
 rw [e];exact h _ oM
theorem b3c (a:List Nat) (d:Nat):v7 (a ++ [d])=v7 a+B9 ^ a.length * d:=by rw [V2,d31]
theorem d7g {acc:List Nat} {d:Nat} {n:Int} (h:n=d):acc.map lg ++ [[.i .u32 n]]=(acc ++ [d]).map lg:=by subst h;simp [lg]
theorem c0f {a:List Nat} {d:Nat} (h:LQ.LB a) (hd:d < 1000000000):LQ.LB (a ++ [d]):=fun x hx=>by
 rcases List.mem_append.1 hx with hx | hx
 ·exact h x hx
 ·simp at hx;subst hx;exact hd
theorem d4m {D:u5} {acc:List Nat} {m k N:Nat} (hd:∀ j,j < D.length→48≤bt D j∧bt D j≤57) (hm:m≤D.length) (hk:k=m - 9) (he:v7 acc+B9 ^ acc.length * E4 (D.take m)=N) :
  E4 ((D.take m).drop k) < 1000000000∧v7 (acc ++ [E4 ((D.take m).drop k)])+B9 ^ (acc ++ [E4 ((D.take m).drop k)]).length * E4 (D.take k)=N:=by
 subst hk;have hlt:=b6z _ (c2f hd (m - 9) m hm);have hl:((D.take m).drop (m - 9)).length≤9:=by simp;omega
 have h9:E4 ((D.take m).drop (m - 9)) < 1000000000:=Nat.lt_of_lt_of_le hlt (Nat.pow_le_pow_right dE hl);refine ⟨h9,?_⟩;rw [b3c,← he,List.length_append,List.length_singleton,Nat.pow_succ];by_cases h:9≤m
 ·rw [c9u hm h];generalize E4 (D.take (m - 9))=a;generalize E4 ((D.take m).drop (m - 9))=b;rw [show (10:Nat) ^ 9=B9 from rfl,Nat.mul_add,Nat.mul_comm a B9,← Nat.mul_assoc];omega
 ·have e:m - 9=0:=oM;rw [e,List.take_zero,List.drop_zero,show E4 ([]:u5)=0 by simp [E4,D3],Nat.mul_zero,Nat.add_zero]
theorem b02 (n:Nat):E4 (s8 n)=n:=by
 have hv:=B3 n;have hok:=a4t n;have hs:u6 (s8 n)=0:=by
  unfold u6;rw [if_neg];rintro ⟨h,h2⟩;have:=W3 n 0 h;omega
 unfold s3 at hv;rw [if_pos hok,hs,if_neg dE] at hv;unfold E4;omega
theorem f1p (s:u5):(s8 (s3 s).natAbs).length≤(K7 s).length∧(decide (((s8 (s3 s).natAbs).length:Int) < ((K7 s).length:Int))=decide (s3 s < 0)):=by
 rw [a0l];unfold s4;split <;> simp <;> omega
theorem a9o:v8 256 (sp1 fun s=>.ret (.a (J0 (decide (s3 s < 0)) (s3 s).natAbs))):=A8 (fun fn h=>f0y h) [(262,_),(281,_),(282,_),(283,_)] (.cons a1x (.cons a8t (.cons kPU (.cons b29 .nil)))) fun U fn hfn ⟨s,hs⟩ vs bs hv hb=>by
 have hv:z7 [.c (.s s)] vs:=hv;have hb:u0 [] bs:=hb;have hs:s.length < 90000:=hs;show t6 U _ fun v bs'=>A3 (.ret (.a (J0 (decide (s3 s < 0)) (s3 s).natAbs))) v∧u0 [] bs';unfold f8g;refine Zq ?_;intros;refine s6 (hfn 262 _ rfl) ⟨s,hs⟩ (r:=.c (.s (K7 s))) rfl z6 .nil fun _ _ _ _=>?_;have hl:=b0o s;have h7:=f1p s;refine Zq ?_;intros;refine s6 (hfn 281 _ rfl) ⟨(K7 s,s5 1 45),trivial⟩ (r:=.c (.s (s8 (s3 s).natAbs))) (by show z8.ret (.c (.s (T9 (K7 s) (s5 1 45))))=_;rw [d3i,a8j,c56]) z6 .nil fun _ _ _ _=>?_;refine Zq ?_;intros;generalize hD:s8 (s3 s).natAbs=D at *;have hdig:∀ j,j < D.length→48≤bt D j∧bt D j≤57:=by rw [← hD];exact W3 _
 have hval:E4 D=(s3 s).natAbs:=by rw [← hD,b02]
 refine I7 (fun (p:Nat × List Nat) vs bs=>∃ (m:Nat) (acc:List Nat) (v bx:V) (ng:Bool) (v4:V),p=(m,acc)∧vs=[.ptr 0 0,.str (D.take m).length (D0 (D.take m)),.ptr 1 0,v4]∧bs=[.cells [bx,.slice .nil 0 0 0 .exact],.cells [.bool ng,v],.tok acc.length 1]∧(U=CU→ng=decide (s3 s < 0))∧S4 2 1 (acc.map lg) v∧m≤D.length∧LQ.LB acc∧(9 * acc.length+m=D.length∨m=0∧9 * acc.length≤D.length+8)∧v7 acc+B9 ^ acc.length * E4 (D.take m)=(s3 s).natAbs∧RV (.c (.b false)) bx) (fun p=>p.1) (D.length,[]) ?_ (by simp only [E3];omega) ?_
 ·refine ⟨D.length,[],_,_,_,_,rfl,by simp only [List.take_length];rfl,rfl,fun e=>by subst e;rw [c5i];exact h7.2,.b rfl,Nat.le_refl _,fun d h=>(by cases h),by simp,by rw [← hval];simp [v7],.kn _⟩
 rintro self _ _ _ ⟨m,acc,v,bx,ng,v4,rfl,rfl,rfl,hng,htok,hm,hLB,hlen,he,hbx⟩ ih;have hml:(D.take m).length=m:=by simp;omega
 (refine Zq ?_;with_reducible repeat' first|intro _|apply aI)
 ·refine d9h ?_;obtain ⟨k,hk,hk2⟩:∃ k:Nat,k=m - 9∧(if 0 < ((D.take m).length:Int) - 9 then ((D.take m).length:Int) - 9 else 0)=(k:Int):=⟨m - 9,rfl,by split <;> omega⟩;rw [hk2];have hkm:k≤m:=oM;have hm0:0 < m:=oM;refine Zq ?_;intros;obtain ⟨s1,s2⟩:=d4m hdig hm hk he;have hcl:((D.take m).drop k).length=m - k:=by simp;omega
  refine s6 (hfn 282 _ rfl) ⟨(D.take m).drop k,oM,oM,c2f hdig k m hm⟩ (r:=.t [.c (.i .u64 ((E4 ((D.take m).drop k):Nat):Int)),.nilI]) rfl z6 .nil fun _ _ _ _=>?_;refine Zq ?_;intros;refine c4u aS ?_;refine Zq ?_;intros;refine a5t (m:=((E4 ((D.take m).drop k):Nat):Int)) rfl oM ?_;refine Zq ?_;intros;refine S7 aS (fun _=>L0 (by first | exact .i _ _ | exact .s _ _ _ rfl rfl | assumption)) (by rfl) (by simp) (by simp only [List.length_map];omega) fun _ _=>?_;refine Zq ?_;intros;have e1:List.drop (Int.toNat 0) (List.take ((k:Int)).toNat (D.take m))=D.take k:=by
   rw [Int.toNat_natCast,List.take_take,Nat.min_eq_left hkm];rfl
  rw [e1];refine ih (k,acc ++ [E4 ((D.take m).drop k)]) _ _ ?_ (by show k < m;omega);refine ⟨k,_,_,_,_,_,rfl,rfl,by rw [List.length_append];rfl,hng,.a _ _ (by simp) ?_,oM,c0f hLB s1,by rw [List.length_append,List.length_singleton];omega,s2,.b _⟩;rw [← d7g (n:=((E4 ((D.take m).drop k):Nat):Int)) rfl]
  assumption
 ·have hm0:m=0:=oM;subst hm0;have e0:v7 acc=(s3 s).natAbs:=by
   rw [List.take_zero,show E4 ([]:u5)=0 by simp [E4,D3],Nat.mul_zero,Nat.add_zero] at he;exact he
  refine s6 (hfn 283 _ rfl) ⟨acc,oM⟩ (r:=.sl 1 (B8 (s3 s).natAbs)) (by show z8.ret (.sl 1 ((H7 acc).map lg))=_;rw [a0u acc hLB,e0];rfl) z6 .nil fun _ _ _ _=>?_;refine Zq ?_;intros;exact P0 fun e=>by
   rw [hng e];exact ⟨.ret _ _ (.ag _ _ (.k (.b _) (.k (.cl _ _ _ _ _ (by simp [B8]) aS) .nil))),.nil⟩
end
end Go.Proofs.YtkojildpddaccaaGreatDoor
