/- The program's numbers: products. -/
import Derived.Test.YtdldcfllnohkeaaGreatDoorCEB
set_option linter.all false
namespace Go.Proofs.YtdldcfllnohkeaaGreatDoor
open Go.Abs LQ
set_option maxRecDepth 100000
set_option maxHeartbeats 4000000
noncomputable section
section
variable {U:v8} {P:L6→List Bx→Prop}
theorem d8e {a b m:Int} {K:Int→Om} (he:a+b=m) (hr:0≤m∧m < 18446744073709551616) (h:j5 U (K m) P):j5 U (U.fI (U.wr .u64 (U.iAdd a b)) K) P:=fun e'=>by
 have:=h e';subst e';rw [a0c]
 show ∃ v bs,K (wr .u64 (iAdd a b))=some (v,bs)∧P v bs
 rw [c0g,he,b9t hr.1 hr.2];exact this
theorem f6l {a b m:Int} {K:Int→Om} (he:a * b=m) (hr:0≤m∧m < 18446744073709551616) (h:j5 U (K m) P):j5 U (U.fI (U.wr .u64 (U.iMul a b)) K) P:=fun e'=>by
 have:=h e';subst e';rw [a0c]
 show ∃ v bs,K (wr .u64 (iMul a b))=some (v,bs)∧P v bs
 rw [d07,he,b9t hr.1 hr.2];exact this
theorem f6m {n m:Nat} {K:Int→Om} (hn:n < 18446744073709551616) (h:j5 U (K ((n / m:Nat):Int)) P):j5 U (U.fI (U.wr .u64 (U.iQuo (n:Int) (m:Int))) K) P:=fun e'=>by
 have:=h e';subst e';rw [a0c]
 show ∃ v bs,K (wr .u64 (iQuo (n:Int) (m:Int)))=some (v,bs)∧P v bs
 have hd:=Nat.div_le_self n m
 rw [b35,show (n:Int).tdiv m=((n / m:Nat):Int) from (Int.ofNat_tdiv n m).symm,b9t (Int.natCast_nonneg _) oM];exact this
theorem sQV {x:Q} {K:Q→Om} (h:j5 U (K x) P):j5 U (U.uQ (.q x) K) P:=fun e=>by have:=h e;subst e;exact this
end
theorem c6x (l:List Nat) (n:Nat):m7 (l.take n)≤m7 l:=by
 have h:=V0 (l.take n) (l.drop n)
 rw [List.take_append_drop] at h;omega
theorem d6o {l:List Nat} {k:Nat} (h:m7 l < B9 ^ k):l.getD k 0=0:=by
 have h1:=c6x l (k+1)
 rw [P5] at h1
 rcases Nat.eq_zero_or_pos (l.getD k 0) with h2 | h2
 ·exact h2
 ·have:=Nat.le_mul_of_pos_right (B9 ^ k) h2
  omega
theorem e69 {x y:Nat} (hx:x < 1000000000) (hy:y < 1000000000):x * y≤999999998000000001 :=
 Nat.le_trans (Nat.mul_le_mul (show x≤999999999 by omega) (show y≤999999999 by omega)) dE
theorem d5c {out b:List Nat} {i j c x L:Nat} (hj:i+j < out.length) (he:m7 out+B9 ^ (i+j) * c=L+B9 ^ i * x * m7 (b.take j)) :
  m7 (out.set (i+j) ((out.getD (i+j) 0+x * b.getD j 0+c) % 1000000000))+B9 ^ (i+(j+1)) * ((out.getD (i+j) 0+x * b.getD j 0+c) / 1000000000)=L+B9 ^ i * x * m7 (b.take (j+1)):=by
 have h:=c6w out (i+j) ((out.getD (i+j) 0+x * b.getD j 0+c) % 1000000000) hj
 rw [P5 b,Nat.mul_add,show i+(j+1)=(i+j)+1 by omega,Nat.pow_succ]
 have hd:=Nat.div_add_mod (out.getD (i+j) 0+x * b.getD j 0+c) 1000000000
 have h2:=congrArg (B9 ^ (i+j) * ·) hd
 simp only [Nat.mul_add] at h2
 rw [show B9 ^ i * x * (B9 ^ j * b.getD j 0)=B9 ^ (i+j) * (x * b.getD j 0) by rw [Nat.pow_add];ac_rfl,show B9 ^ (i+j) * B9 * ((out.getD (i+j) 0+x * b.getD j 0+c) / 1000000000)=B9 ^ (i+j) * (1000000000 * ((out.getD (i+j) 0+x * b.getD j 0+c) / 1000000000)) by rw [Nat.mul_assoc];rfl]
 omega
theorem d8u {out a b:List Nat} {i c:Nat} (hi:i+b.length < out.length) (hz:out.getD (i+b.length) 0=0) (he:m7 out+B9 ^ (i+b.length) * c=m7 (a.take i) * m7 b+B9 ^ i * a.getD i 0 * m7 (b.take b.length)) :
  m7 (out.set (i+b.length) c)=m7 (a.take (i+1)) * m7 b:=by
 have h:=c6w out (i+b.length) c hi
 rw [hz,Nat.mul_zero,Nat.add_zero] at h
 rw [List.take_of_length_le (Nat.le_refl _)] at he
 rw [P5 a,Nat.add_mul]
 omega
theorem d5d {out a b:List Nat} {i:Nat} (ha:LQ.LB a) (hb:LQ.LB b) (he:m7 out=m7 (a.take i) * m7 b) (hi:i≤a.length):out.getD (i+b.length) 0=0:=by
 refine d6o ?_
 have h1:=Z3 (a.take i) (fun d hd=>ha d (List.mem_of_mem_take hd))
 rw [List.length_take,Nat.min_eq_left hi] at h1
 have h2:=Z3 b hb
 rw [he,Nat.pow_add]
 exact Nat.mul_lt_mul'' h1 h2
section
theorem f7b {U:v8} {fn:FF} {vs:List V} {bs:List Bx} (ht:Ans fn 192 (spM fun l=>.ret (.sl 1 ((G0 l).map lg)))) {a b:List Nat} (hab:a.length+b.length < 20000) (hLa:LQ.LB a) (hLb:LQ.LB b) (hv:l7 [.sl 1 (a.map lg),.sl 1 (b.map lg)] vs) (hb:RBs [] bs) :
  j5 U (d4v U fn vs bs) fun v bs'=>l8 (.ret (.sl 1 (z8 (m7 a * m7 b)))) v∧RBs [] bs':=by
 unfold d4v
 (refine Zx ?_;intros)
 refine sZT (n:=1) (r:=lg 0) (fun _=>L4 (.i _ _)) rfl oM fun t' ht'=>?_
 (refine Zx ?_;intros)
 refine H2 (fun (i:Nat) vs bs=>∃ (t1:j8 Q) (o1:Nat) (t2:j8 Q) (o2:Nat) (t3:j8 Q) (out:List Nat),vs=[.slice t2 1 o2 b.length .no,.bslice 0 (a.length+b.length),.slice t1 1 o1 a.length .no,.int .i64 a.length,.int .i64 i]∧bs=[.row t3 (a.length+b.length)]∧p9 1 (a.map lg) t1 o1∧p9 1 (b.map lg) t2 o2∧p9 1 (out.map lg) t3 0∧out.length=a.length+b.length∧LQ.LB out∧i≤a.length∧m7 out=m7 (a.take i) * m7 b) (fun i=>a.length - i) 0 ?_ (by simp only [C4];omega) ?_
 ·exact ⟨_,_,_,_,t',List.replicate (a.length+b.length) 0,by simp only [← Int.natCast_add,Int.toNat_natCast];rfl,by simp only [← Int.natCast_add,Int.toNat_natCast],aS,aS,by simpa [← Int.natCast_add,List.map_replicate] using ht',by simp,b5p _,oM,by simp [m7,d37]⟩
 rintro self i _ _ ⟨t1,o1,t2,o2,t3,out,rfl,rfl,h1,h2,h3,hol,hLo,hi,he⟩ ih
 (refine Zx ?_;with_reducible repeat' first|intro _|apply aI)
 ·have hi':i < a.length:=oM
  have q1:a.getD i 0 < 1000000000:=a6i hLa i
  have hz:=d5d hLa hLb he hi
  rename_i x1 hx1 x2 hx2
  rw [gD (l:=a) hi'] at hx2
  refine H2 (fun (j:Nat) vs bs=>∃ (t1:j8 Q) (o1:Nat) (t2:j8 Q) (o2:Nat) (t4:j8 Q) (o4:Nat) (t3:j8 Q) (o:List Nat) (c:Nat),vs=[.slice t2 1 o2 b.length .no,.bslice 0 (a.length+b.length),.int .i64 i,.q x2,.int .u64 c,.slice t1 1 o1 a.length .no,.int .i64 a.length,.int .i64 i,.slice t4 1 o4 b.length .no,.int .i64 b.length,.int .i64 j]∧bs=[.row t3 (a.length+b.length)]∧p9 1 (a.map lg) t1 o1∧p9 1 (b.map lg) t2 o2∧p9 1 (b.map lg) t4 o4∧p9 1 (o.map lg) t3 0∧o.length=a.length+b.length∧LQ.LB o∧j≤b.length∧c < 1000000000∧o.getD (i+b.length) 0=0∧m7 o+B9 ^ (i+j) * c=m7 (a.take i) * m7 b+B9 ^ i * a.getD i 0 * m7 (b.take j)) (fun j=>b.length - j) 0 ⟨t1,o1,t2,o2,t2,o2,t3,out,0,rfl,rfl,h1,h2,h2,h3,hol,hLo,oM,oM,hz,by simp [m7,he]⟩ (by simp only [C4];omega) ?_
  clear h1 h2 h3
  rintro self' j _ _ ⟨t1,o1,t2,o2,t4,o4,t3,o,c,rfl,rfl,h1,h2,h4,h3,hol,hLo,hj,hc,hz,he⟩ ih'
  (refine Zx ?_;intros)
  refine sQV ?_
  (refine Zx ?_;with_reducible repeat' first|intro _|apply aI)
  ·have hj':j < b.length:=oM
   have q2:b.getD j 0 < 1000000000:=a6i hLb j
   have q3:o.getD (i+j) 0 < 1000000000:=a6i hLo (i+j)
   have q4:=e69 q1 q2
   rw [show ((i:Int)+j).toNat * 1=i+j by omega]
   refine f6k (g:=.i .u32 (o.getD (i+j) 0)) h3 (by rw [List.getElem?_map,List.getElem?_eq_getElem oM,gD oM];rfl) fun x98 hx98=>?_
   refine sCI hx98 ?_
   refine c4s rfl oM ?_
   refine sCI hx2 ?_
   refine c4s rfl oM ?_
   (refine Zx ?_;intros)
   rw [gD (l:=b) hj']
   refine c4s rfl oM ?_
   refine f6l (m:=((a.getD i 0 * b.getD j 0:Nat):Int)) (by rw [Int.natCast_mul]) oM ?_
   refine d8e (m:=((o.getD (i+j) 0+a.getD i 0 * b.getD j 0:Nat):Int)) (by rw [← Int.natCast_add]) oM ?_
   refine d8e (m:=((o.getD (i+j) 0+a.getD i 0 * b.getD j 0+c:Nat):Int)) (by rw [← Int.natCast_add]) oM ?_
   (refine Zx ?_;intros)
   have st:=d5c (out:=o) (b:=b) (x:=a.getD i 0) (L:=m7 (a.take i) * m7 b) oM he
   generalize hT:o.getD (i+j) 0+a.getD i 0 * b.getD j 0+c=T at st ⊢
   refine f6j (n:=T) (m:=1000000000) rfl rfl ?_
   refine a56 (m:=((T % 1000000000:Nat):Int)) rfl oM ?_
   (refine Zx ?_;intros)
   refine f6m (n:=T) (m:=1000000000) oM ?_
   (refine Zx ?_;intros)
   refine b09 (r:=lg (T % 1000000000)) h3 (fun _=>L4 (.i _ _)) rfl (by simp;omega) oM fun t9 h9=>?_
   (refine Zx ?_;intros)
   refine ih' (j+1) _ _ ?_ oM
   exact ⟨t1,o1,t2,o2,t4,o4,t9,o.set (i+j) (T % 1000000000),T / 1000000000,by simp,by simp,h1,h2,h4,by rw [List.map_set];simpa [← Int.natCast_add] using h9,by simp [hol],a4q hLo _ _ (by show _ < 1000000000;omega),oM,oM,by rw [b4z oM];exact hz,st⟩
  ·have ej:j=b.length:=oM
   subst ej
   refine a56 rfl oM ?_
   (refine Zx ?_;intros)
   refine b09 (r:=lg c) h3 (fun _=>L4 (.i _ _)) rfl (by simp;omega) oM fun t9 h9=>?_
   (refine Zx ?_;intros)
   refine ih (i+1) _ _ ?_ oM
   exact ⟨t1,o1,t2,o2,t9,o.set (i+b.length) c,by simp,by simp,h1,h2,by rw [List.map_set];simpa [← Int.natCast_add] using h9,by simp [hol],a4q hLo _ _ (by show _ < 1000000000;omega),oM,d8u oM hz he⟩
 ·have em:i=a.length:=oM
  subst em
  rw [List.take_of_length_le (Nat.le_refl _)] at he
  refine j4 ht ⟨out,by show out.length < 20000;omega⟩ (r:=.sl 1 (z8 (m7 a * m7 b))) (by rw [← he];show r7.ret (.sl 1 ((G0 out).map lg))=_;rw [a2k out hLo];rfl) (.k (.sl _ _ _ _ _ (by simp [hol]) h3) .nil) .nil fun _ _ _ _=>?_
  (refine Zx ?_;intros)
  exact j9 ⟨.ret _ _ (.sl _ _ _ _ _ (by simp [z8]) aS),.nil⟩
theorem d1i:k9 196 (f60 (fun a b=>LQ.LB a∧LQ.LB b∧a.length+b.length < 20000) fun a b=>.ret (.sl 1 (z8 (m7 a * m7 b)))):=n9 (fun fn h=>e81 h) [(192,_)] (.cons b72 .nil) fun U fn hfn ⟨(a,b),_,_,ha,hb',hl⟩ vs bs hv hb =>
 f7b (U:=U) (hfn 192 _ rfl) (a:=a) (b:=b) hl ha hb' hv hb
end
section
variable {U:v8} {P:L6→List Bx→Prop}
theorem f6f {g:Nat} {l cs:List V} {v:V} {K:List V→List V→Om} (hv:RV (.raw (.func (.func g) l cs)) v) (h:j5 U (K l cs) P):j5 U (U.uFn g v K) P:=fun e=>by
 cases hv
 have:=h e;subst e
 show ∃ v bs,cond (Nat.beq g g) (K l cs) none=some (v,bs)∧P v bs
 rw [Nat.beq_refl];exact this
theorem f6i {n m:Nat} {e M:Int} {K:Int→Om} (he:e=n) (hM:M=m) (h:j5 U (K ((n / m:Nat):Int)) P):j5 U (U.fI (U.iQuo e M) K) P:=by
 subst he hM
 exact f9q (by rw [Int.ofNat_tdiv] at *;exact h)
theorem g10 {g:Nat} {l cs:List V} {K:List V→List V→Om} (h:j5 U (K l cs) P):j5 U (U.uFn g (.func (.func g) l cs) K) P:=f6f (.raw _) h
theorem a5z {n:Nat} {v:V} {K:j8 Q→Nat→Nat→Om} (hv:RV (.c (.l (z8 n))) v) (h:∀ t off,p9 1 ((m9 n).map lg) t off→j5 U (K t off (m9 n).length) P):j5 U (U.uSl 1 0 v K) P :=
 f6g hv (fun r hr=>by obtain ⟨d,_,rfl⟩:=List.mem_map.1 hr;rfl) fun t off ht=>by
  have:=h t off ht
  rwa [show (z8 n).length=(m9 n).length by simp [z8]]
end
def clo:V:=.func (.func 195) [] [.ptr 0 0,.ptr 1 0]
theorem b6o {n:Nat} {t:j8 Q} {off k:Nat} (h:p9 1 ((m9 n).map lg) t off) (hk:k=(m9 n).length):RB [.l (z8 n)] (.cells [.slice t 1 off k .no]):=.cells _ _ (.k (.cl _ _ _ _ _ (by simp [z8,hk]) h) .nil)
theorem e65 {d:Nat} (h:d < 1000000000):(m9 d).length≤1:=a9y (k:=1) (by rw [Nat.pow_one];exact h)
theorem lb1 {d:Nat} (h:d < 1000000000):LQ.LB [d]:=fun x hx=>by simp at hx;subst hx;exact h
theorem d36 (d:Nat):m7 [d]=d:=by simp [m7]
theorem f6c {d:Nat}:p9 1 ([d].map lg) (.node (.int .u32 (d:Int)) .nil .nil) 0:=.cons _ _ _ _ _ rfl (L4 (.i _ _)).1 (fun g e=>(L4 (.i _ _)).2 g e) (.nil _ _ _)
theorem c9m {y m:Nat} (h:m < 1000000000):(m9 (y * m)).length≤(m9 y).length+1:=by
 have h1:=Z3 (m9 y) (Q1 y)
 rw [H6] at h1
 refine a9y ?_
 rw [Nat.pow_succ]
 exact Nat.mul_lt_mul'' h1 h
abbrev D1I:={ p:(Nat × Nat) × Nat // (m9 p.1.1).length < 10000∧(m9 p.1.2).length < 19999∧p.2 < 1000000000 }
theorem c7u {a b c d:Nat} {bs:List Bx} (h:RBs [[.l (z8 a)],[.l (z8 b)]] bs) (k:RBs [[.l (z8 c)],[.l (z8 d)]] bs):a=c∧b=d:=by
 cases h with
 | cons _ _ b1 bs h1 h2=>cases k with
  | cons _ _ _ _ k1 k2=>cases h2 with
   | cons _ _ _ _ h2 _=>cases k2 with
    | cons _ _ _ _ k2 _ =>
     have e1:=h1.inj k1
     have e2:=h2.inj k2
     injection e1 with e1;injection e1 with e1
     injection e2 with e2;injection e2 with e2
     exact ⟨a9x e1,a9x e2⟩
def g15:Sp where
 ι:=D1I
 A p:=[.c (.i .i64 p.1.2),.p 0 0,.p 1 0]
 B p:=[[.l (z8 p.1.1.1)],[.l (z8 p.1.1.2)]]
 R p:=.ret (.c (.b (decide (p.1.1.2 < p.1.1.1 * p.1.2))))
 B' p:=[[.l (z8 p.1.1.1)],[.l (z8 p.1.1.2)]]
 inj i j vs bs h k hb kb:=by
  obtain ⟨e1,e2⟩:=c7u hb kb
  obtain ⟨_,_,h1,k1,h,k⟩:=h.two k
  have e3:=a2v h1 k1
  have e3:i.1.2=j.1.2:=oM
  rw [e1,e2,e3];exact ⟨rfl,rfl⟩
def g2d:Sp where
 ι:={ p:Nat × Nat // (m9 p.1).length < 10000∧(m9 p.2).length < 19999∧p.1 ≠ 0∧p.2 < p.1 * 1000000000 }
 A p:=[.c (.i .i64 1000000000),.raw clo]
 B p:=[[.l (z8 p.1.1)],[.l (z8 p.1.2)]]
 R p:=.ret (.c (.i .i64 ((p.1.2 / p.1.1+1:Nat):Int)))
 B' p:=[[.l (z8 p.1.1)],[.l (z8 p.1.2)]]
 inj i j vs bs h k hb kb:=by
  obtain ⟨e1,e2⟩:=c7u hb kb
  rw [e1,e2];exact ⟨rfl,rfl⟩
section
theorem kD1:k9 195 g15:=n9 (fun fn h=>e80 h) [(196,_),(193,_)] (.cons d1i (.cons b70 .nil)) fun U fn hfn ⟨((y,r),m),hy,hr,hm⟩ vs bs hv hb=>by
 have hv:l7 [.c (.i .i64 (m:Int)),.p 0 0,.p 1 0] vs:=hv
 have hb:RBs [[.l (z8 y)],[.l (z8 r)]] bs:=hb
 have hy:(m9 y).length < 10000:=hy
 have hr:(m9 r).length < 19999:=hr
 have hm:m < 1000000000:=hm
 show j5 U _ fun v bs'=>l8 (.ret (.c (.b (decide (r < y * m))))) v∧RBs [[.l (z8 y)],[.l (z8 r)]] bs'
 unfold e2x
 (refine Zq ?_;intros)
 have ht:=hfn 196 _ rfl
 have hc:=hfn 193 _ rfl
 refine a5z aS fun tb ob htb=>?_
 (refine Zq ?_;intros)
 refine a5z aS fun tr or htr=>?_
 (refine Zq ?_;intros)
 refine a56 rfl oM ?_
 (refine Zq ?_;intros)
 have hl:=c9m (y:=y) hm
 refine j4 ht ⟨(m9 y,[m]),by show (m9 y).length < 20000;omega,by show 1 < 20000;omega,Q1 y,lb1 hm,by show (m9 y).length+1 < 20000;omega⟩ (r:=.sl 1 (z8 (y * m))) (by show r7.ret (.sl 1 (z8 (m7 (m9 y) * m7 [m])))=_;rw [H6,d36]) (.k (.sl _ _ _ _ _ (by simp) htb) (.k (.sl _ _ _ _ _ rfl f6c) .nil)) .nil fun _ _ _ _=>?_
 (refine Zq ?_;intros)
 refine j4 hc ⟨(m9 (y * m),m9 r),by show (m9 (y * m)).length < 20000;omega,by show (m9 r).length < 20000;omega,trivial⟩ (r:=.c (.i .i64 (T7 (m9 (y * m)) (m9 r)))) rfl (.k (.sl _ _ _ _ _ (by simp [z8]) aS) (.k (.sl _ _ _ _ _ (by simp) htr) .nil)) .nil fun _ _ _ _=>?_
 (refine Zq ?_;intros)
 refine J3 fun e=>⟨.ret _ _ ?_,.k (b6o htb rfl) (.k (b6o htr rfl) .nil)⟩
 have eb:U.iLt 0 (T7 (m9 (y * m)) (m9 r))=decide (r < y * m):=by
  subst e
  show iLt 0 (T7 (m9 (y * m)) (m9 r))=_
  rw [a1l,c7m]
  by_cases h1:r < y * m
  ·rw [if_neg oM,if_pos h1];simp [h1]
  ·by_cases h2:y * m < r
   ·rw [if_pos h2];simp [h1]
   ·rw [if_neg h2,if_neg h1];simp [h1]
 rw [eb];exact .b _
theorem kSr:k9 194 g2d:=n9 (fun fn h=>e8z h) [(195,_)] (.cons kD1 .nil) fun U fn hfn ⟨(y,r),hy,hr,hy0,hr9⟩ vs bs hv hb=>by
 have hv:l7 [.c (.i .i64 1000000000),.raw clo] vs:=hv
 have hb:RBs [[.l (z8 y)],[.l (z8 r)]] bs:=hb
 have hy:(m9 y).length < 10000:=hy
 have hr:(m9 r).length < 19999:=hr
 have hy0:y ≠ 0:=hy0
 have hr9:r < y * 1000000000:=hr9
 show j5 U _ fun v bs'=>l8 (.ret (.c (.i .i64 ((r / y+1:Nat):Int)))) v∧RBs [[.l (z8 y)],[.l (z8 r)]] bs'
 have hd:=hfn 195 _ rfl
 have hq:r / y < 1000000000:=(Nat.div_lt_iff_lt_mul oM).2 (by rw [Nat.mul_comm];exact hr9)
 unfold e2w
 (refine Zq ?_;intros)
 refine f6f aS ?_
 (refine Zq ?_;intros)
 refine a5z aS fun tb ob htb=>?_
 (refine Zq ?_;intros)
 refine a5z aS fun tr or htr=>?_
 (refine Zq ?_;intros)
 refine H2 (fun (k:Nat) vs bs=>∃ (i j:Nat) (tb:j8 Q) (ob:Nat) (tr:j8 Q) (or:Nat),vs=[.func (.func 195) [] [.ptr 0 0,.ptr 1 0],.int .i64 i,.int .i64 j]∧bs=[.cells [.slice tb 1 ob (m9 y).length .no],.cells [.slice tr 1 or (m9 r).length .no]]∧p9 1 ((m9 y).map lg) tb ob∧p9 1 ((m9 r).map lg) tr or∧i≤r / y+1∧r / y+1≤j∧j≤1000000000∧j - i < 2 ^ k) (fun k=>k) 30 ⟨0,1000000000,tb,ob,tr,or,rfl,rfl,htb,htr,Nat.zero_le _,oM,oM,dE⟩ dE ?_
 clear htb htr
 rintro self k _ _ ⟨i,j,tb,ob,tr,or,rfl,rfl,htb,htr,hi,hj,hj9,hk⟩ ih
 (refine Zq ?_;intros)
 refine g10 ?_
 (refine Zq ?_;with_reducible repeat' first|intro _|apply aI)
 ·refine c4s rfl oM ?_
  (refine Zq ?_;intros)
  refine f6i (n:=i+j) (m:=2) oM rfl ?_
  have hm:(i+j) / 2 < 1000000000:=oM
  refine b3g rfl oM ?_
  obtain ⟨k,rfl⟩:∃ n,k=n+1:=by
   cases k with
   | zero=>exact absurd hk oM
   | succ n=>exact ⟨n,rfl⟩
  have hk':(2:Nat) ^ (k+1)=2 * 2 ^ k:=by rw [Nat.pow_succ];omega
  refine j4 hd ⟨((y,r),(i+j) / 2),hy,hr,hm⟩ (r:=.c (.b (decide (r < y * ((i+j) / 2))))) rfl (.k (.i _ _) (.k (.p _ _) (.k (.p _ _) .nil))) (.k (b6o htb rfl) (.k (b6o htr rfl) .nil)) fun _ _ _ hb9=>?_
  have hb9:RBs [[.l (z8 y)],[.l (z8 r)]] _:=hb9
  have hdiv:r < y * ((i+j) / 2)↔r / y < (i+j) / 2:=by rw [Nat.div_lt_iff_lt_mul oM,Nat.mul_comm]
  (refine Zq ?_;intros)
  refine a5z aS fun tb ob htb=>?_
  (refine Zq ?_;intros)
  refine a5z aS fun tr or htr=>?_
  (refine Zq ?_;with_reducible repeat' first|intro _|apply aI)
  ·have hc:r < y * ((i+j) / 2):=of_decide_eq_true ‹_›
   exact ih k _ _ ⟨i,(i+j) / 2,tb,ob,tr,or,rfl,rfl,htb,htr,hi,hdiv.1 hc,oM,oM⟩ oM
  ·have hc:¬r < y * ((i+j) / 2):=fun h=>‹¬decide (r < y * ((i+j) / 2))=true› (decide_eq_true h)
   have hc':¬r / y < (i+j) / 2:=fun h=>hc (hdiv.2 h)
   exact ih k _ _ ⟨(i+j) / 2+1,j,tb,ob,tr,or,rfl,rfl,htb,htr,oM,hj,hj9,oM⟩ oM
 ·have e:i=r / y+1:=oM
  subst e
  exact j9 ⟨.ret _ _ (.i _ _),.k (b6o htb rfl) (.k (b6o htr rfl) .nil)⟩
end
theorem c3y {l:List Nat} {i x:Nat} (h:i < l.length):(l.set i x).drop i=x :: l.drop (i+1):=by
 rw [List.drop_eq_getElem_cons (by simpa using h)]
 simp [List.drop_set_of_lt (show i < i+1 by omega)]
theorem d9x {out a:List Nat} {m r y:Nat} (ho:m < out.length) (ha:m < a.length) (he:m7 (out.drop (m+1)) * y+r=m7 (a.drop (m+1))) :
  m7 ((out.set m ((a.getD m 0+B9 * r) / y)).drop m) * y+(a.getD m 0+B9 * r) % y=m7 (a.drop m):=by
 rw [c3y ho,d7b a m ha,← he]
 show ((a.getD m 0+B9 * r) / y+B9 * m7 (out.drop (m+1))) * y+_=_
 have h:=Nat.div_add_mod (a.getD m 0+B9 * r) y
 rw [Nat.add_mul,Nat.mul_add,show (a.getD m 0+B9 * r) / y * y=y * ((a.getD m 0+B9 * r) / y) from Nat.mul_comm _ _,Nat.mul_assoc]
 omega
theorem e58 {out a:List Nat} {r y:Nat} (hr:r < y) (he:m7 out * y+r=m7 a):m7 out=m7 a / y∧r=m7 a % y:=by
 have hy:0 < y:=oM
 rw [← he,Nat.mul_comm,Nat.mul_add_div hy,Nat.mul_add_mod,Nat.div_eq_of_lt hr,Nat.mod_eq_of_lt hr];simp
theorem f0p {a r y:Nat} (ha:a < 1000000000) (hr:r < y):(a+B9 * r) / y < 1000000000:=by
 refine (Nat.div_lt_iff_lt_mul oM).2 ?_
 have:B9 * r+B9≤B9 * y:=by rw [← Nat.mul_succ];exact Nat.mul_le_mul_left _ hr
 have e:1000000000 * y=B9 * y:=rfl
 have e':B9=1000000000:=rfl
 omega
theorem c6r {d r:Nat} (h:d < B9):(m9 (d+B9 * r)).length≤(m9 r).length+1:=by
 have h1:=Z3 (m9 r) (Q1 r)
 rw [H6] at h1
 refine a9y ?_
 rw [Nat.pow_succ,Nat.mul_comm (B9 ^ _) B9]
 have e':B9=1000000000:=rfl
 have:B9 * r+B9≤B9 * B9 ^ (m9 r).length:=by rw [← Nat.mul_succ];exact Nat.mul_le_mul_left _ h1
 omega
def g1t (x y:Nat):Prop:=y ≠ 0∧(m9 x).length < 9000∧(m9 y).length < 9000
section
theorem c57:k9 178 (f67 g1t fun x y=>.ret (.t [.sl 1 (z8 (x / y)),.sl 1 (z8 (x % y))])):=n9 (fun fn h=>e8s h) [(192,_),(196,_),(193,_),(181,_),(194,_)] (.cons b72 (.cons d1i (.cons b70 (.cons e6q (.cons kSr .nil))))) fun U fn hfn ⟨(x,y),_,_,hy0,hx,hy⟩ vs bs hv hb=>by
 have hv:l7 [.sl 1 (z8 x),.sl 1 (z8 y)] vs:=hv
 have hb:RBs [] bs:=hb
 have hy0:y ≠ 0:=hy0
 have hx:(m9 x).length < 9000:=hx
 have hy:(m9 y).length < 9000:=hy
 show j5 U _ fun v bs'=>l8 (.ret (.t [.sl 1 (z8 (x / y)),.sl 1 (z8 (x % y))])) v∧RBs [] bs'
 have htr:=hfn 192 _ rfl
 have hti:=hfn 196 _ rfl
 have hco:=hfn 193 _ rfl
 have hmi:=hfn 181 _ rfl
 have hse:=hfn 194 _ rfl
 unfold z8 at hv
 have hLa:=Q1 x
 have hLb:=Q1 y
 unfold e2q
 (refine Zq ?_;intros)
 refine sZT (n:=1) (r:=lg 0) (fun _=>L4 (.i _ _)) rfl oM fun t' ht'=>?_
 (refine Zq ?_;intros)
 refine H2 (fun (m:Nat) vs bs=>∃ (i:Int) (t1:j8 Q) (o1:Nat) (tb:j8 Q) (ob:Nat) (vr:V) (t3:j8 Q) (out:List Nat) (r:Nat) (v6:V),vs=[.slice t1 1 o1 (m9 x).length .no,.ptr 0 0,.bslice 1 (m9 x).length,.ptr 2 0,.int .i64 i,v6]∧bs=[.cells [.slice tb 1 ob (m9 y).length .no],.row t3 (m9 x).length,.cells [vr]]∧i=m - 1∧RV (.c (.l (z8 r))) vr∧p9 1 ((m9 x).map lg) t1 o1∧p9 1 ((m9 y).map lg) tb ob∧p9 1 (out.map lg) t3 0∧out.length=(m9 x).length∧LQ.LB out∧m≤(m9 x).length∧r < y∧m7 (out.drop m) * y+r=m7 ((m9 x).drop m)) (fun m=>m) (m9 x).length ?_ (by simp only [C4];omega) ?_
 ·exact ⟨_,_,_,_,_,_,t',List.replicate (m9 x).length 0,0,_,by simp only [Int.toNat_natCast];rfl,by simp only [Int.toNat_natCast];rfl,rfl,.cl _ _ _ _ _ (by simp [z8,H5]) (by simp only [z8,H5];exact .nil _ _ _),aS,aS,by simpa [List.map_replicate] using ht',by simp,b5p _,oM,oM,by simp [m7]⟩
 rintro self m _ _ ⟨i,t1,o1,tb,ob,vr,t3,out,r,v6,rfl,rfl,hi,hvr,h1,hbb,h3,hol,hLo,hm,hry,he⟩ ih
 have hrl:(m9 r).length≤(m9 y).length:=b0v oM
 (refine Zq ?_;intros)
 refine a5z aS fun tr or htr'=>?_
 (refine Zq ?_;with_reducible repeat' first|intro _|apply aI)
 ·obtain ⟨n,rfl⟩:∃ n:Nat,i=n:=⟨i.toNat,oM⟩
  have em:m=n+1:=oM
  subst em
  have q1:(m9 x).getD n 0 < 1000000000:=a6i hLa n
  refine c1d n h1 rfl oM fun x59 hx59=>?_
  refine b81 hx59 rfl fun x60 hx60=>?_
  (refine Zq ?_;intros)
  refine sAT (n:=1) (xs:=[lg ((m9 x).getD n 0)]) (ys:=(m9 r).map lg) (.cons _ _ _ _ _ rfl (L4 hx60).1 (fun g e=>(L4 hx60).2 g e) (.nil _ _ _)) htr' rfl (by simp) (by simp;omega) fun t62 h62=>?_
  have hR:=c6r (d:=(m9 x).getD n 0) (r:=r) q1
  have hRl:=e0r ((m9 x).getD n 0) r q1
  have hst:=d9x (out:=out) (a:=m9 x) (m:=n) (r:=r) (y:=y) oM oM he
  have hdl:=f0p q1 hry
  generalize hRR:(m9 x).getD n 0+B9 * r=R at *
  refine j4 htr ⟨(m9 x).getD n 0 :: m9 r,by show (m9 r).length+1 < 20000;omega⟩ (r:=.sl 1 (z8 R)) (by show r7.ret (.sl 1 ((G0 ((m9 x).getD n 0 :: m9 r)).map lg))=_;rw [hRl];rfl) (.k (.sl _ _ _ _ _ (by simp;omega) h62) .nil) .nil fun _ _ _ _=>?_
  (refine Zq ?_;intros)
  refine j4 hco ⟨(m9 R,m9 y),by show (m9 R).length < 20000;omega,by show (m9 y).length < 20000;omega,trivial⟩ (r:=.c (.i .i64 (if R < y then -1 else if y < R then 1 else 0))) (by show r7.ret (.c (.i .i64 (T7 (m9 R) (m9 y))))=_;rw [c7m]) (.k (.sl _ _ _ _ _ (by simp [z8]) aS) (.k (.sl _ _ _ _ _ (by simp) hbb) .nil)) .nil fun _ _ _ _=>?_
  (refine Zq ?_;with_reducible repeat' first|intro _|apply aI)
  ·have hge:¬R < y:=fun h=>by
    rw [if_pos h] at *
    omega
   obtain ⟨q,hqe⟩:∃ q,q=R / y:=⟨_,rfl⟩
   rw [← hqe] at hst
   have hdl9:=hdl
   rw [← hqe] at hdl
   refine j4 hse ⟨(y,R),by show (m9 y).length < 10000;omega,by show (m9 R).length < 19999;omega,hy0,(Nat.div_lt_iff_lt_mul oM).1 hdl9 |> fun h=>by rw [Nat.mul_comm];exact h⟩ (r:=.c (.i .i64 ((q+1:Nat):Int))) (by rw [hqe];rfl) (.k (.i _ _) (.k (.raw _) .nil)) (.k (b6o hbb rfl) (.k (.cells _ _ (.k (.cl _ _ _ _ _ (by simp [z8]) aS) .nil)) .nil)) fun _ _ _ hb9=>?_
   have hb9:RBs [[.l (z8 y)],[.l (z8 R)]] _:=hb9
   (refine Zq ?_;intros)
   refine a5z aS fun tb ob htb=>?_
   (refine Zq ?_;intros)
   refine a5z aS fun tR oR htR=>?_
   (refine Zq ?_;intros)
   refine a56 (m:=(q:Int)) oM oM ?_
   (refine Zq ?_;intros)
   refine j4 htr ⟨[q],by show 1 < 20000;omega⟩ (r:=.sl 1 (z8 q)) (by show r7.ret (.sl 1 ((G0 [q]).map lg))=_;rw [a2k [q] (lb1 hdl),d36];rfl) (.k (.sl _ _ _ _ _ rfl f6c) .nil) .nil fun _ _ _ _=>?_
   (refine Zq ?_;intros)
   have hq1:=e65 hdl
   refine j4 hti ⟨(m9 y,m9 q),by show (m9 y).length < 20000;omega,by show (m9 q).length < 20000;omega,Q1 y,Q1 q,by show (m9 y).length+(m9 q).length < 20000;omega⟩ (r:=.sl 1 (z8 (y * q))) (by show r7.ret (.sl 1 (z8 (m7 (m9 y) * m7 (m9 q))))=_;rw [H6,H6]) (.k (.sl _ _ _ _ _ (by simp) htb) (.k (.sl _ _ _ _ _ (by simp [z8]) aS) .nil)) .nil fun _ _ _ _=>?_
   (refine Zq ?_;intros)
   have hle:y * q≤R:=by rw [hqe];exact Nat.mul_div_le R y
   have hsub:R - y * q=R % y:=by have:=Nat.div_add_mod R y;rw [← hqe] at this;omega
   have hml:=b0v hle
   refine j4 hmi ⟨(R,y * q),by show (m9 R).length < 20000;omega,by show (m9 (y * q)).length < 20000;omega,hle⟩ (r:=.sl 1 (z8 (R % y))) (by show r7.ret (.sl 1 (z8 (R - y * q)))=_;rw [hsub]) (.k (.sl _ _ _ _ _ (by simp [z8]) htR) (.k (.sl _ _ _ _ _ (by simp [z8]) aS) .nil)) .nil fun _ _ _ _=>?_
   (refine Zq ?_;intros)
   refine b09 (r:=lg (q)) h3 (fun _=>L4 (.i _ _)) rfl (by simp;omega) oM fun t9 h9=>?_
   (refine Zq ?_;intros)
   refine ih n _ _ ⟨_,t1,o1,_,_,_,t9,out.set n (q),R % y,_,rfl,rfl,rfl,.cl _ _ _ _ _ (by simp [z8]) aS,h1,aS,by rw [List.map_set];simpa using h9,by simp [hol],a4q hLo _ _ (by show _ < 1000000000;omega),oM,Nat.mod_lt _ oM,hst⟩ oM
  ·have hlt:R < y:=by
    by_cases h:R < y
    ·exact h
    ·exfalso;rw [if_neg h] at *;split at * <;> omega
   rw [Nat.div_eq_of_lt hlt] at hst
   have hmod:=Nat.mod_eq_of_lt hlt
   rw [hmod] at hst
   (refine Zq ?_;intros)
   refine b09 (r:=lg (0)) h3 (fun _=>L4 (.i _ _)) rfl (by simp;omega) oM fun t9 h9=>?_
   (refine Zq ?_;intros)
   refine ih n _ _ ⟨_,t1,o1,_,_,_,t9,out.set n (0),R,_,rfl,rfl,rfl,.cl _ _ _ _ _ (by simp [z8]) aS,h1,aS,by rw [List.map_set];simpa using h9,by simp [hol],a4q hLo _ _ (by show _ < 1000000000;omega),oM,hlt,hst⟩ oM
 ·have em:m=0:=oM
  subst em
  simp only [List.drop_zero] at he
  obtain ⟨hd1,hd2⟩:=e58 hry he
  rw [H6] at hd1 hd2
  refine j4 htr ⟨out,by show out.length < 20000;omega⟩ (r:=.sl 1 (z8 (x / y))) (by rw [← hd1];show r7.ret (.sl 1 ((G0 out).map lg))=_;rw [a2k out hLo];rfl) (.k (.sl _ _ _ _ _ (by simp [hol]) h3) .nil) .nil fun _ _ _ _=>?_
  (refine Zq ?_;intros)
  rw [← hd2]
  exact j9 ⟨.ret _ _ (.t _ _ (.k (.sl _ _ _ _ _ (by simp [z8]) aS) (.k (.sl _ _ _ _ _ (by simp [z8]) aS) .nil))),.nil⟩
end
end
end Go.Proofs.YtdldcfllnohkeaaGreatDoor
