/- The program's numbers: products. -/
import Derived.Test.YtffaodopiifbkaaGreatDoorCEB
set_option linter.all false
namespace Go.Proofs.YtffaodopiifbkaaGreatDoor
open Go.Abs LQ
set_option maxRecDepth 100000
set_option maxHeartbeats 4000000
noncomputable section
section
variable {U:w7} {P:G3→List Bx→Prop}
theorem c9x {a b m:Int} {K:Int→Om} (he:a+b=m) (hr:0≤m∧m < 18446744073709551616) (h:j3 U (K m) P):j3 U (U.fI (U.wr .u64 (U.iAdd a b)) K) P:=fun e'=>by
 have:=h e';subst e';rw [V8]
 show ∃ v bs,K (wr .u64 (iAdd a b))=some (v,bs)∧P v bs
 rw [b7u,he,b5u hr.1 hr.2];exact this
theorem e5u {a b m:Int} {K:Int→Om} (he:a * b=m) (hr:0≤m∧m < 18446744073709551616) (h:j3 U (K m) P):j3 U (U.fI (U.wr .u64 (U.iMul a b)) K) P:=fun e'=>by
 have:=h e';subst e';rw [V8]
 show ∃ v bs,K (wr .u64 (iMul a b))=some (v,bs)∧P v bs
 rw [c6m,he,b5u hr.1 hr.2];exact this
theorem e3z {n m:Nat} {K:Int→Om} (hn:n < 18446744073709551616) (h:j3 U (K ((n / m:Nat):Int)) P):j3 U (U.fI (U.wr .u64 (U.iQuo (n:Int) (m:Int))) K) P:=fun e'=>by
 have:=h e';subst e';rw [V8]
 show ∃ v bs,K (wr .u64 (iQuo (n:Int) (m:Int)))=some (v,bs)∧P v bs
 have hd:=Nat.div_le_self n m
 rw [b1v,show (n:Int).tdiv m=((n / m:Nat):Int) from (Int.ofNat_tdiv n m).symm,b5u (Int.natCast_nonneg _) (by omega)];exact this
theorem sQV {x:Q} {K:Q→Om} (h:j3 U (K x) P):j3 U (U.uQ (.q x) K) P:=fun e=>by have:=h e;subst e;exact this
end
theorem c05 (l:List Nat) (n:Nat):m9 (l.take n)≤m9 l:=by
 have h:=Q8 (l.take n) (l.drop n)
 rw [List.take_append_drop] at h;omega
theorem c9s {l:List Nat} {k:Nat} (h:m9 l < B9 ^ k):l.getD k 0=0:=by
 have h1:=c05 l (k+1)
 rw [M4] at h1
 rcases Nat.eq_zero_or_pos (l.getD k 0) with h2 | h2
 ·exact h2
 ·have:=Nat.le_mul_of_pos_right (B9 ^ k) h2
  omega
theorem e0s {x y:Nat} (hx:x < 1000000000) (hy:y < 1000000000):x * y≤999999998000000001 :=
 Nat.le_trans (Nat.mul_le_mul (show x≤999999999 by omega) (show y≤999999999 by omega)) (by decide)
theorem c80 {out b:List Nat} {i j c x L:Nat} (hj:i+j < out.length) (he:m9 out+B9 ^ (i+j) * c=L+B9 ^ i * x * m9 (b.take j)) :
  m9 (out.set (i+j) ((out.getD (i+j) 0+x * b.getD j 0+c) % 1000000000))+B9 ^ (i+(j+1)) * ((out.getD (i+j) 0+x * b.getD j 0+c) / 1000000000)=L+B9 ^ i * x * m9 (b.take (j+1)):=by
 have h:=c3g out (i+j) ((out.getD (i+j) 0+x * b.getD j 0+c) % 1000000000) hj
 rw [M4 b,Nat.mul_add,show i+(j+1)=(i+j)+1 by omega,Nat.pow_succ]
 have hd:=Nat.div_add_mod (out.getD (i+j) 0+x * b.getD j 0+c) 1000000000
 have h2:=congrArg (B9 ^ (i+j) * ·) hd
 simp only [Nat.mul_add] at h2
 rw [show B9 ^ i * x * (B9 ^ j * b.getD j 0)=B9 ^ (i+j) * (x * b.getD j 0) by rw [Nat.pow_add];ac_rfl,show B9 ^ (i+j) * B9 * ((out.getD (i+j) 0+x * b.getD j 0+c) / 1000000000)=B9 ^ (i+j) * (1000000000 * ((out.getD (i+j) 0+x * b.getD j 0+c) / 1000000000)) by rw [Nat.mul_assoc];rfl]
 omega
theorem c9k {out a b:List Nat} {i c:Nat} (hi:i+b.length < out.length) (hz:out.getD (i+b.length) 0=0) (he:m9 out+B9 ^ (i+b.length) * c=m9 (a.take i) * m9 b+B9 ^ i * a.getD i 0 * m9 (b.take b.length)) :
  m9 (out.set (i+b.length) c)=m9 (a.take (i+1)) * m9 b:=by
 have h:=c3g out (i+b.length) c hi
 rw [hz,Nat.mul_zero,Nat.add_zero] at h
 rw [List.take_of_length_le (Nat.le_refl _)] at he
 rw [M4 a,Nat.add_mul]
 omega
theorem c8j {out a b:List Nat} {i:Nat} (ha:LQ.LB a) (hb:LQ.LB b) (he:m9 out=m9 (a.take i) * m9 b) (hi:i≤a.length):out.getD (i+b.length) 0=0:=by
 refine c9s ?_
 have h1:=U8 (a.take i) (fun d hd=>ha d (List.mem_of_mem_take hd))
 rw [List.length_take,Nat.min_eq_left hi] at h1
 have h2:=U8 b hb
 rw [he,Nat.pow_add]
 exact Nat.mul_lt_mul'' h1 h2
section
theorem e62 {U:w7} {fn:FF} {vs:List V} {bs:List Bx} (ht:Ans fn 222 (spM fun l=>.ret (.sl 1 ((F2 l).map lg)))) {a b:List Nat} (hab:a.length+b.length < 20000) (hLa:LQ.LB a) (hLb:LQ.LB b) (hv:l9 [.sl 1 (a.map lg),.sl 1 (b.map lg)] vs) (hb:RBs [] bs) :
  j3 U (c6x U fn vs bs) fun v bs'=>m8 (.ret (.sl 1 (z8 (m9 a * m9 b)))) v∧RBs [] bs':=by
 unfold c6x
 (refine Zx ?_;with_reducible repeat' first|intro _|apply aI)
 refine sZT (n:=1) (r:=lg 0) (fun _=>I9 (.i _ _)) rfl (by omega) fun t' ht'=>?_
 (refine Zx ?_;with_reducible repeat' first|intro _|apply aI)
 refine F8 (fun (i:Nat) vs bs=>∃ (t1:j8 Q) (o1:Nat) (t2:j8 Q) (o2:Nat) (t3:j8 Q) (out:List Nat),vs=[.slice t2 1 o2 b.length .no,.bslice 0 (a.length+b.length),.slice t1 1 o1 a.length .no,.int .i64 a.length,.int .i64 i]∧bs=[.row t3 (a.length+b.length)]∧u6 1 (a.map lg) t1 o1∧u6 1 (b.map lg) t2 o2∧u6 1 (out.map lg) t3 0∧out.length=a.length+b.length∧LQ.LB out∧i≤a.length∧m9 out=m9 (a.take i) * m9 b) (fun i=>a.length - i) 0 ?_ (by simp only [B8];omega) ?_
 ·exact ⟨_,_,_,_,t',List.replicate (a.length+b.length) 0,by simp only [← Int.natCast_add,Int.toNat_natCast];rfl,by simp only [← Int.natCast_add,Int.toNat_natCast],by assumption,by assumption,by simpa [← Int.natCast_add,List.map_replicate] using ht',by simp,b3u _,by omega,by simp [m9,c7m]⟩
 rintro self i _ _ ⟨t1,o1,t2,o2,t3,out,rfl,rfl,h1,h2,h3,hol,hLo,hi,he⟩ ih
 (refine Zx ?_;with_reducible repeat' first|intro _|apply aI)
 ·have hi':i < a.length:=by omega
  have q1:a.getD i 0 < 1000000000:=a4s hLa i
  have hz:=c8j hLa hLb he hi
  rename_i x1 hx1 x2 hx2
  rw [gD (l:=a) hi'] at hx2
  refine F8 (fun (j:Nat) vs bs=>∃ (t1:j8 Q) (o1:Nat) (t2:j8 Q) (o2:Nat) (t4:j8 Q) (o4:Nat) (t3:j8 Q) (o:List Nat) (c:Nat),vs=[.slice t2 1 o2 b.length .no,.bslice 0 (a.length+b.length),.int .i64 i,.q x2,.int .u64 c,.slice t1 1 o1 a.length .no,.int .i64 a.length,.int .i64 i,.slice t4 1 o4 b.length .no,.int .i64 b.length,.int .i64 j]∧bs=[.row t3 (a.length+b.length)]∧u6 1 (a.map lg) t1 o1∧u6 1 (b.map lg) t2 o2∧u6 1 (b.map lg) t4 o4∧u6 1 (o.map lg) t3 0∧o.length=a.length+b.length∧LQ.LB o∧j≤b.length∧c < 1000000000∧o.getD (i+b.length) 0=0∧m9 o+B9 ^ (i+j) * c=m9 (a.take i) * m9 b+B9 ^ i * a.getD i 0 * m9 (b.take j)) (fun j=>b.length - j) 0 ⟨t1,o1,t2,o2,t2,o2,t3,out,0,rfl,rfl,h1,h2,h2,h3,hol,hLo,by omega,by omega,hz,by simp [m9,he]⟩ (by simp only [B8];omega) ?_
  clear h1 h2 h3
  rintro self' j _ _ ⟨t1,o1,t2,o2,t4,o4,t3,o,c,rfl,rfl,h1,h2,h4,h3,hol,hLo,hj,hc,hz,he⟩ ih'
  (refine Zx ?_;with_reducible repeat' first|intro _|apply aI)
  refine sQV ?_
  (refine Zx ?_;with_reducible repeat' first|intro _|apply aI)
  ·have hj':j < b.length:=by omega
   have q2:b.getD j 0 < 1000000000:=a4s hLb j
   have q3:o.getD (i+j) 0 < 1000000000:=a4s hLo (i+j)
   have q4:=e0s q1 q2
   rw [show ((i:Int)+j).toNat * 1=i+j by omega]
   refine e4d (g:=.i .u32 (o.getD (i+j) 0)) h3 (by rw [List.getElem?_map,List.getElem?_eq_getElem (by omega),gD (by omega)];rfl) fun x98 hx98=>?_
   refine sCI hx98 ?_
   refine b98 rfl (by omega) ?_
   refine sCI hx2 ?_
   refine b98 rfl (by omega) ?_
   (refine Zx ?_;with_reducible repeat' first|intro _|apply aI)
   rw [gD (l:=b) hj']
   refine b98 rfl (by omega) ?_
   refine e5u (m:=((a.getD i 0 * b.getD j 0:Nat):Int)) (by rw [Int.natCast_mul]) (by omega) ?_
   refine c9x (m:=((o.getD (i+j) 0+a.getD i 0 * b.getD j 0:Nat):Int)) (by rw [← Int.natCast_add]) (by omega) ?_
   refine c9x (m:=((o.getD (i+j) 0+a.getD i 0 * b.getD j 0+c:Nat):Int)) (by rw [← Int.natCast_add]) (by omega) ?_
   (refine Zx ?_;with_reducible repeat' first|intro _|apply aI)
   have st:=c80 (out:=o) (b:=b) (x:=a.getD i 0) (L:=m9 (a.take i) * m9 b) (by omega) he
   generalize hT:o.getD (i+j) 0+a.getD i 0 * b.getD j 0+c=T at st ⊢
   refine e6z (n:=T) (m:=1000000000) rfl rfl ?_
   refine a4i (m:=((T % 1000000000:Nat):Int)) rfl (by omega) ?_
   (refine Zx ?_;with_reducible repeat' first|intro _|apply aI)
   refine e3z (n:=T) (m:=1000000000) (by omega) ?_
   (refine Zx ?_;with_reducible repeat' first|intro _|apply aI)
   refine a86 (r:=lg (T % 1000000000)) h3 (fun _=>I9 (.i _ _)) rfl (by simp;omega) (by omega) fun t9 h9=>?_
   (refine Zx ?_;with_reducible repeat' first|intro _|apply aI)
   refine ih' (j+1) _ _ ?_ (by omega)
   exact ⟨t1,o1,t2,o2,t4,o4,t9,o.set (i+j) (T % 1000000000),T / 1000000000,by simp,by simp,h1,h2,h4,by rw [List.map_set];simpa [← Int.natCast_add] using h9,by simp [hol],a28 hLo _ _ (by show _ < 1000000000;omega),by omega,by omega,by rw [b2b (by omega)];exact hz,st⟩
  ·have ej:j=b.length:=by omega
   subst ej
   refine a4i rfl (by omega) ?_
   (refine Zx ?_;with_reducible repeat' first|intro _|apply aI)
   refine a86 (r:=lg c) h3 (fun _=>I9 (.i _ _)) rfl (by simp;omega) (by omega) fun t9 h9=>?_
   (refine Zx ?_;with_reducible repeat' first|intro _|apply aI)
   refine ih (i+1) _ _ ?_ (by omega)
   exact ⟨t1,o1,t2,o2,t9,o.set (i+b.length) c,by simp,by simp,h1,h2,by rw [List.map_set];simpa [← Int.natCast_add] using h9,by simp [hol],a28 hLo _ _ (by show _ < 1000000000;omega),by omega,c9k (by omega) hz he⟩
 ·have em:i=a.length:=by omega
  subst em
  rw [List.take_of_length_le (Nat.le_refl _)] at he
  refine j4 ht ⟨out,by show out.length < 20000;omega⟩ (r:=.sl 1 (z8 (m9 a * m9 b))) (by rw [← he];show y4.ret (.sl 1 ((F2 out).map lg))=_;rw [a01 out hLo];rfl) (.cons _ _ _ _ (.sl _ _ _ _ _ (by simp [hol]) h3) .nil) .nil fun _ _ _ _=>?_
  (refine Zx ?_;with_reducible repeat' first|intro _|apply aI)
  exact l6 ⟨.ret _ _ (.sl _ _ _ _ _ (by simp [z8]) (by assumption)),.nil⟩
theorem c5t:l5 226 (e4r (fun a b=>LQ.LB a∧LQ.LB b∧a.length+b.length < 20000) fun a b=>.ret (.sl 1 (z8 (m9 a * m9 b)))):=v7 (fun fn h=>d8g h) [(222,_)] (.cons b5z .nil) fun U fn hfn ⟨(a,b),_,_,ha,hb',hl⟩ vs bs hv hb =>
 e62 (U:=U) (hfn 222 _ rfl) (a:=a) (b:=b) hl ha hb' hv hb
end
end
end Go.Proofs.YtffaodopiifbkaaGreatDoor
namespace Go.Proofs.YtffaodopiifbkaaGreatDoor
open Go.Abs LQ
set_option maxRecDepth 100000
set_option maxHeartbeats 4000000
noncomputable section
section
variable {U:w7} {P:G3→List Bx→Prop}
theorem e35 {g:Nat} {l cs:List V} {v:V} {K:List V→List V→Om} (hv:RV (.raw (.func (.func g) l cs)) v) (h:j3 U (K l cs) P):j3 U (U.uFn g v K) P:=fun e=>by
 cases hv
 have:=h e;subst e
 show ∃ v bs,cond (Nat.beq g g) (K l cs) none=some (v,bs)∧P v bs
 rw [Nat.beq_refl];exact this
theorem e3j {n m:Nat} {e M:Int} {K:Int→Om} (he:e=n) (hM:M=m) (h:j3 U (K ((n / m:Nat):Int)) P):j3 U (U.fI (U.iQuo e M) K) P:=by
 subst he hM
 exact e8g (by rw [Int.ofNat_tdiv] at *;exact h)
theorem f2m {g:Nat} {l cs:List V} {K:List V→List V→Om} (h:j3 U (K l cs) P):j3 U (U.uFn g (.func (.func g) l cs) K) P:=e35 (.raw _) h
theorem a3u {n:Nat} {v:V} {K:j8 Q→Nat→Nat→Om} (hv:RV (.c (.l (z8 n))) v) (h:∀ t off,u6 1 ((n7 n).map lg) t off→j3 U (K t off (n7 n).length) P):j3 U (U.uSl 1 0 v K) P :=
 e3u hv (fun r hr=>by obtain ⟨d,_,rfl⟩:=List.mem_map.1 hr;rfl) fun t off ht=>by
  have:=h t off ht
  rwa [show (z8 n).length=(n7 n).length by simp [z8]]
end
def clo:V:=.func (.func 225) [] [.ptr 0 0,.ptr 1 0]
theorem b38 {n:Nat} {t:j8 Q} {off k:Nat} (h:u6 1 ((n7 n).map lg) t off) (hk:k=(n7 n).length):RB [.l (z8 n)] (.cells [.slice t 1 off k .no]):=.cells _ _ (.cons _ _ _ _ (.cl _ _ _ _ _ (by simp [z8,hk]) h) .nil)
theorem d9p {d:Nat} (h:d < 1000000000):(n7 d).length≤1:=a7m (k:=1) (by rw [Nat.pow_one];exact h)
theorem lb1 {d:Nat} (h:d < 1000000000):LQ.LB [d]:=fun x hx=>by simp at hx;subst hx;exact h
theorem c63 (d:Nat):m9 [d]=d:=by simp [m9]
theorem e4n {d:Nat}:u6 1 ([d].map lg) (.node (.int .u32 (d:Int)) .nil .nil) 0:=.cons _ _ _ _ _ rfl (I9 (.i _ _)).1 (fun g e=>(I9 (.i _ _)).2 g e) (.nil _ _ _)
theorem c4a {y m:Nat} (h:m < 1000000000):(n7 (y * m)).length≤(n7 y).length+1:=by
 have h1:=U8 (n7 y) (N1 y)
 rw [G8] at h1
 refine a7m ?_
 rw [Nat.pow_succ]
 exact Nat.mul_lt_mul'' h1 h
abbrev D1I:={ p:(Nat × Nat) × Nat // (n7 p.1.1).length < 10000∧(n7 p.1.2).length < 19999∧p.2 < 1000000000 }
theorem c24 {a b c d:Nat} {bs:List Bx} (h:RBs [[.l (z8 a)],[.l (z8 b)]] bs) (k:RBs [[.l (z8 c)],[.l (z8 d)]] bs):a=c∧b=d:=by
 cases h with
 | cons _ _ b1 bs h1 h2=>cases k with
  | cons _ _ _ _ k1 k2=>cases h2 with
   | cons _ _ _ _ h2 _=>cases k2 with
    | cons _ _ _ _ k2 _ =>
     have e1:=h1.inj k1
     have e2:=h2.inj k2
     injection e1 with e1;injection e1 with e1
     injection e2 with e2;injection e2 with e2
     exact ⟨a7o e1,a7o e2⟩
def f2e:Sp where
 ι:=D1I
 A p:=[.c (.i .i64 p.1.2),.p 0 0,.p 1 0]
 B p:=[[.l (z8 p.1.1.1)],[.l (z8 p.1.1.2)]]
 R p:=.ret (.c (.b (decide (p.1.1.2 < p.1.1.1 * p.1.2))))
 B' p:=[[.l (z8 p.1.1.1)],[.l (z8 p.1.1.2)]]
 inj i j vs bs h k hb kb:=by
  obtain ⟨e1,e2⟩:=c24 hb kb
  obtain ⟨_,_,h1,k1,h,k⟩:=h.two k
  have e3:=M7 h1 k1
  have e3:i.1.2=j.1.2:=by omega
  rw [e1,e2,e3];exact ⟨rfl,rfl⟩
def f2r:Sp where
 ι:={ p:Nat × Nat // (n7 p.1).length < 10000∧(n7 p.2).length < 19999∧p.1 ≠ 0∧p.2 < p.1 * 1000000000 }
 A p:=[.c (.i .i64 1000000000),.raw clo]
 B p:=[[.l (z8 p.1.1)],[.l (z8 p.1.2)]]
 R p:=.ret (.c (.i .i64 ((p.1.2 / p.1.1+1:Nat):Int)))
 B' p:=[[.l (z8 p.1.1)],[.l (z8 p.1.2)]]
 inj i j vs bs h k hb kb:=by
  obtain ⟨e1,e2⟩:=c24 hb kb
  rw [e1,e2];exact ⟨rfl,rfl⟩
section
theorem kD1:l5 225 f2e:=v7 (fun fn h=>e1e h) [(226,_),(223,_)] (.cons c5t (.cons b50 .nil)) fun U fn hfn ⟨((y,r),m),hy,hr,hm⟩ vs bs hv hb=>by
 have hv:l9 [.c (.i .i64 (m:Int)),.p 0 0,.p 1 0] vs:=hv
 have hb:RBs [[.l (z8 y)],[.l (z8 r)]] bs:=hb
 have hy:(n7 y).length < 10000:=hy
 have hr:(n7 r).length < 19999:=hr
 have hm:m < 1000000000:=hm
 show j3 U _ fun v bs'=>m8 (.ret (.c (.b (decide (r < y * m))))) v∧RBs [[.l (z8 y)],[.l (z8 r)]] bs'
 unfold d3w
 (refine Zq ?_;with_reducible repeat' first|intro _|apply aI)
 have ht:=hfn 226 _ rfl
 have hc:=hfn 223 _ rfl
 refine a3u (by assumption) fun tb ob htb=>?_
 (refine Zq ?_;with_reducible repeat' first|intro _|apply aI)
 refine a3u (by assumption) fun tr or htr=>?_
 (refine Zq ?_;with_reducible repeat' first|intro _|apply aI)
 refine a4i rfl (by omega) ?_
 (refine Zq ?_;with_reducible repeat' first|intro _|apply aI)
 have hl:=c4a (y:=y) hm
 refine j4 ht ⟨(n7 y,[m]),by show (n7 y).length < 20000;omega,by show 1 < 20000;omega,N1 y,lb1 hm,by show (n7 y).length+1 < 20000;omega⟩ (r:=.sl 1 (z8 (y * m))) (by show y4.ret (.sl 1 (z8 (m9 (n7 y) * m9 [m])))=_;rw [G8,c63]) (.cons _ _ _ _ (.sl _ _ _ _ _ (by simp) htb) (.cons _ _ _ _ (.sl _ _ _ _ _ rfl e4n) .nil)) .nil fun _ _ _ _=>?_
 (refine Zq ?_;with_reducible repeat' first|intro _|apply aI)
 refine j4 hc ⟨(n7 (y * m),n7 r),by show (n7 (y * m)).length < 20000;omega,by show (n7 r).length < 20000;omega,trivial⟩ (r:=.c (.i .i64 (P8 (n7 (y * m)) (n7 r)))) rfl (.cons _ _ _ _ (.sl _ _ _ _ _ (by simp [z8]) (by assumption)) (.cons _ _ _ _ (.sl _ _ _ _ _ (by simp) htr) .nil)) .nil fun _ _ _ _=>?_
 (refine Zq ?_;with_reducible repeat' first|intro _|apply aI)
 refine N5 fun e=>⟨.ret _ _ ?_,.cons _ _ _ _ (b38 htb rfl) (.cons _ _ _ _ (b38 htr rfl) .nil)⟩
 have eb:U.iLt 0 (P8 (n7 (y * m)) (n7 r))=decide (r < y * m):=by
  subst e
  show iLt 0 (P8 (n7 (y * m)) (n7 r))=_
  rw [a0h,c3p]
  by_cases h1:r < y * m
  ·rw [if_neg (by omega),if_pos h1];simp [h1]
  ·by_cases h2:y * m < r
   ·rw [if_pos h2];simp [h1]
   ·rw [if_neg h2,if_neg h1];simp [h1]
 rw [eb];exact .b _
theorem kSr:l5 224 f2r:=v7 (fun fn h=>d9z h) [(225,_)] (.cons kD1 .nil) fun U fn hfn ⟨(y,r),hy,hr,hy0,hr9⟩ vs bs hv hb=>by
 have hv:l9 [.c (.i .i64 1000000000),.raw clo] vs:=hv
 have hb:RBs [[.l (z8 y)],[.l (z8 r)]] bs:=hb
 have hy:(n7 y).length < 10000:=hy
 have hr:(n7 r).length < 19999:=hr
 have hy0:y ≠ 0:=hy0
 have hr9:r < y * 1000000000:=hr9
 show j3 U _ fun v bs'=>m8 (.ret (.c (.i .i64 ((r / y+1:Nat):Int)))) v∧RBs [[.l (z8 y)],[.l (z8 r)]] bs'
 have hd:=hfn 225 _ rfl
 have hq:r / y < 1000000000:=(Nat.div_lt_iff_lt_mul (by omega)).2 (by rw [Nat.mul_comm];exact hr9)
 unfold d2a
 (refine Zq ?_;with_reducible repeat' first|intro _|apply aI)
 refine e35 (by assumption) ?_
 (refine Zq ?_;with_reducible repeat' first|intro _|apply aI)
 refine a3u (by assumption) fun tb ob htb=>?_
 (refine Zq ?_;with_reducible repeat' first|intro _|apply aI)
 refine a3u (by assumption) fun tr or htr=>?_
 (refine Zq ?_;with_reducible repeat' first|intro _|apply aI)
 refine F8 (fun (k:Nat) vs bs=>∃ (i j:Nat) (tb:j8 Q) (ob:Nat) (tr:j8 Q) (or:Nat),vs=[.func (.func 225) [] [.ptr 0 0,.ptr 1 0],.int .i64 i,.int .i64 j]∧bs=[.cells [.slice tb 1 ob (n7 y).length .no],.cells [.slice tr 1 or (n7 r).length .no]]∧u6 1 ((n7 y).map lg) tb ob∧u6 1 ((n7 r).map lg) tr or∧i≤r / y+1∧r / y+1≤j∧j≤1000000000∧j - i < 2 ^ k) (fun k=>k) 30 ⟨0,1000000000,tb,ob,tr,or,rfl,rfl,htb,htr,Nat.zero_le _,by omega,by omega,by decide⟩ (by decide) ?_
 clear htb htr
 rintro self k _ _ ⟨i,j,tb,ob,tr,or,rfl,rfl,htb,htr,hi,hj,hj9,hk⟩ ih
 (refine Zq ?_;with_reducible repeat' first|intro _|apply aI)
 refine f2m ?_
 (refine Zq ?_;with_reducible repeat' first|intro _|apply aI)
 ·refine b98 rfl (by omega) ?_
  (refine Zq ?_;with_reducible repeat' first|intro _|apply aI)
  refine e3j (n:=i+j) (m:=2) (by omega) rfl ?_
  have hm:(i+j) / 2 < 1000000000:=by omega
  refine b1a rfl (by omega) ?_
  obtain ⟨k,rfl⟩:∃ n,k=n+1:=by
   cases k with
   | zero=>exact absurd hk (by omega)
   | succ n=>exact ⟨n,rfl⟩
  have hk':(2:Nat) ^ (k+1)=2 * 2 ^ k:=by rw [Nat.pow_succ];omega
  refine j4 hd ⟨((y,r),(i+j) / 2),hy,hr,hm⟩ (r:=.c (.b (decide (r < y * ((i+j) / 2))))) rfl (.cons _ _ _ _ (.i _ _) (.cons _ _ _ _ (.p _ _) (.cons _ _ _ _ (.p _ _) .nil))) (.cons _ _ _ _ (b38 htb rfl) (.cons _ _ _ _ (b38 htr rfl) .nil)) fun _ _ _ hb9=>?_
  have hb9:RBs [[.l (z8 y)],[.l (z8 r)]] _:=hb9
  have hdiv:r < y * ((i+j) / 2)↔r / y < (i+j) / 2:=by rw [Nat.div_lt_iff_lt_mul (by omega),Nat.mul_comm]
  (refine Zq ?_;with_reducible repeat' first|intro _|apply aI)
  refine a3u (by assumption) fun tb ob htb=>?_
  (refine Zq ?_;with_reducible repeat' first|intro _|apply aI)
  refine a3u (by assumption) fun tr or htr=>?_
  (refine Zq ?_;with_reducible repeat' first|intro _|apply aI)
  ·have hc:r < y * ((i+j) / 2):=of_decide_eq_true ‹_›
   exact ih k _ _ ⟨i,(i+j) / 2,tb,ob,tr,or,rfl,rfl,htb,htr,hi,hdiv.1 hc,by omega,by omega⟩ (by omega)
  ·have hc:¬r < y * ((i+j) / 2):=fun h=>‹¬decide (r < y * ((i+j) / 2))=true› (decide_eq_true h)
   have hc':¬r / y < (i+j) / 2:=fun h=>hc (hdiv.2 h)
   exact ih k _ _ ⟨(i+j) / 2+1,j,tb,ob,tr,or,rfl,rfl,htb,htr,by omega,hj,hj9,by omega⟩ (by omega)
 ·have e:i=r / y+1:=by omega
  subst e
  exact l6 ⟨.ret _ _ (.i _ _),.cons _ _ _ _ (b38 htb rfl) (.cons _ _ _ _ (b38 htr rfl) .nil)⟩
end
end
end Go.Proofs.YtffaodopiifbkaaGreatDoor
namespace Go.Proofs.YtffaodopiifbkaaGreatDoor
open Go.Abs LQ
set_option maxRecDepth 100000
set_option maxHeartbeats 4000000
noncomputable section
theorem b92 {l:List Nat} {i x:Nat} (h:i < l.length):(l.set i x).drop i=x :: l.drop (i+1):=by
 rw [List.drop_eq_getElem_cons (by simpa using h)]
 simp [List.drop_set_of_lt (show i < i+1 by omega)]
theorem d3l {out a:List Nat} {m r y:Nat} (ho:m < out.length) (ha:m < a.length) (he:m9 (out.drop (m+1)) * y+r=m9 (a.drop (m+1))) :
  m9 ((out.set m ((a.getD m 0+B9 * r) / y)).drop m) * y+(a.getD m 0+B9 * r) % y=m9 (a.drop m):=by
 rw [b92 ho,d0l a m ha,← he]
 show ((a.getD m 0+B9 * r) / y+B9 * m9 (out.drop (m+1))) * y+_=_
 have h:=Nat.div_add_mod (a.getD m 0+B9 * r) y
 rw [Nat.add_mul,Nat.mul_add,show (a.getD m 0+B9 * r) / y * y=y * ((a.getD m 0+B9 * r) / y) from Nat.mul_comm _ _,Nat.mul_assoc]
 omega
theorem e0v {out a:List Nat} {r y:Nat} (hr:r < y) (he:m9 out * y+r=m9 a):m9 out=m9 a / y∧r=m9 a % y:=by
 have hy:0 < y:=by omega
 rw [← he,Nat.mul_comm,Nat.mul_add_div hy,Nat.mul_add_mod,Nat.div_eq_of_lt hr,Nat.mod_eq_of_lt hr];simp
theorem e2v {a r y:Nat} (ha:a < 1000000000) (hr:r < y):(a+B9 * r) / y < 1000000000:=by
 refine (Nat.div_lt_iff_lt_mul (by omega)).2 ?_
 have:B9 * r+B9≤B9 * y:=by rw [← Nat.mul_succ];exact Nat.mul_le_mul_left _ hr
 have e:1000000000 * y=B9 * y:=rfl
 have e':B9=1000000000:=rfl
 omega
theorem c1c {d r:Nat} (h:d < B9):(n7 (d+B9 * r)).length≤(n7 r).length+1:=by
 have h1:=U8 (n7 r) (N1 r)
 rw [G8] at h1
 refine a7m ?_
 rw [Nat.pow_succ,Nat.mul_comm (B9 ^ _) B9]
 have e':B9=1000000000:=rfl
 have:B9 * r+B9≤B9 * B9 ^ (n7 r).length:=by rw [← Nat.mul_succ];exact Nat.mul_le_mul_left _ h1
 omega
def f1j (x y:Nat):Prop:=y ≠ 0∧(n7 x).length < 9000∧(n7 y).length < 9000
section
theorem c3t:l5 202 (e4g f1j fun x y=>.ret (.t [.sl 1 (z8 (x / y)),.sl 1 (z8 (x % y))])):=v7 (fun fn h=>d9t h) [(222,_),(226,_),(223,_),(205,_),(224,_)] (.cons b5z (.cons c5t (.cons b50 (.cons d8x (.cons kSr .nil))))) fun U fn hfn ⟨(x,y),_,_,hy0,hx,hy⟩ vs bs hv hb=>by
 have hv:l9 [.sl 1 (z8 x),.sl 1 (z8 y)] vs:=hv
 have hb:RBs [] bs:=hb
 have hy0:y ≠ 0:=hy0
 have hx:(n7 x).length < 9000:=hx
 have hy:(n7 y).length < 9000:=hy
 show j3 U _ fun v bs'=>m8 (.ret (.t [.sl 1 (z8 (x / y)),.sl 1 (z8 (x % y))])) v∧RBs [] bs'
 have htr:=hfn 222 _ rfl
 have hti:=hfn 226 _ rfl
 have hco:=hfn 223 _ rfl
 have hmi:=hfn 205 _ rfl
 have hse:=hfn 224 _ rfl
 unfold z8 at hv
 have hLa:=N1 x
 have hLb:=N1 y
 unfold d2n
 (refine Zq ?_;with_reducible repeat' first|intro _|apply aI)
 refine sZT (n:=1) (r:=lg 0) (fun _=>I9 (.i _ _)) rfl (by omega) fun t' ht'=>?_
 (refine Zq ?_;with_reducible repeat' first|intro _|apply aI)
 refine F8 (fun (m:Nat) vs bs=>∃ (i:Int) (t1:j8 Q) (o1:Nat) (tb:j8 Q) (ob:Nat) (vr:V) (t3:j8 Q) (out:List Nat) (r:Nat) (v6:V),vs=[.slice t1 1 o1 (n7 x).length .no,.ptr 0 0,.bslice 1 (n7 x).length,.ptr 2 0,.int .i64 i,v6]∧bs=[.cells [.slice tb 1 ob (n7 y).length .no],.row t3 (n7 x).length,.cells [vr]]∧i=m - 1∧RV (.c (.l (z8 r))) vr∧u6 1 ((n7 x).map lg) t1 o1∧u6 1 ((n7 y).map lg) tb ob∧u6 1 (out.map lg) t3 0∧out.length=(n7 x).length∧LQ.LB out∧m≤(n7 x).length∧r < y∧m9 (out.drop m) * y+r=m9 ((n7 x).drop m)) (fun m=>m) (n7 x).length ?_ (by simp only [B8];omega) ?_
 ·exact ⟨_,_,_,_,_,_,t',List.replicate (n7 x).length 0,0,_,by simp only [Int.toNat_natCast];rfl,by simp only [Int.toNat_natCast];rfl,rfl,.cl _ _ _ _ _ (by simp [z8,G7]) (by simp only [z8,G7];exact .nil _ _ _),by assumption,by assumption,by simpa [List.map_replicate] using ht',by simp,b3u _,by omega,by omega,by simp [m9]⟩
 rintro self m _ _ ⟨i,t1,o1,tb,ob,vr,t3,out,r,v6,rfl,rfl,hi,hvr,h1,hbb,h3,hol,hLo,hm,hry,he⟩ ih
 have hrl:(n7 r).length≤(n7 y).length:=a81 (by omega)
 (refine Zq ?_;with_reducible repeat' first|intro _|apply aI)
 refine a3u (by assumption) fun tr or htr'=>?_
 (refine Zq ?_;with_reducible repeat' first|intro _|apply aI)
 ·obtain ⟨n,rfl⟩:∃ n:Nat,i=n:=⟨i.toNat,by omega⟩
  have em:m=n+1:=by omega
  subst em
  have q1:(n7 x).getD n 0 < 1000000000:=a4s hLa n
  refine b60 n h1 rfl (by omega) fun x59 hx59=>?_
  refine b6h hx59 rfl fun x60 hx60=>?_
  (refine Zq ?_;with_reducible repeat' first|intro _|apply aI)
  refine sAT (n:=1) (xs:=[lg ((n7 x).getD n 0)]) (ys:=(n7 r).map lg) (.cons _ _ _ _ _ rfl (I9 hx60).1 (fun g e=>(I9 hx60).2 g e) (.nil _ _ _)) htr' rfl (by simp) (by simp;omega) fun t62 h62=>?_
  have hR:=c1c (d:=(n7 x).getD n 0) (r:=r) q1
  have hRl:=d5k ((n7 x).getD n 0) r q1
  have hst:=d3l (out:=out) (a:=n7 x) (m:=n) (r:=r) (y:=y) (by omega) (by omega) he
  have hdl:=e2v q1 hry
  generalize hRR:(n7 x).getD n 0+B9 * r=R at *
  refine j4 htr ⟨(n7 x).getD n 0 :: n7 r,by show (n7 r).length+1 < 20000;omega⟩ (r:=.sl 1 (z8 R)) (by show y4.ret (.sl 1 ((F2 ((n7 x).getD n 0 :: n7 r)).map lg))=_;rw [hRl];rfl) (.cons _ _ _ _ (.sl _ _ _ _ _ (by simp;omega) h62) .nil) .nil fun _ _ _ _=>?_
  (refine Zq ?_;with_reducible repeat' first|intro _|apply aI)
  refine j4 hco ⟨(n7 R,n7 y),by show (n7 R).length < 20000;omega,by show (n7 y).length < 20000;omega,trivial⟩ (r:=.c (.i .i64 (if R < y then -1 else if y < R then 1 else 0))) (by show y4.ret (.c (.i .i64 (P8 (n7 R) (n7 y))))=_;rw [c3p]) (.cons _ _ _ _ (.sl _ _ _ _ _ (by simp [z8]) (by assumption)) (.cons _ _ _ _ (.sl _ _ _ _ _ (by simp) hbb) .nil)) .nil fun _ _ _ _=>?_
  (refine Zq ?_;with_reducible repeat' first|intro _|apply aI)
  ·have hge:¬R < y:=fun h=>by
    rw [if_pos h] at *
    omega
   obtain ⟨q,hqe⟩:∃ q,q=R / y:=⟨_,rfl⟩
   rw [← hqe] at hst
   have hdl9:=hdl
   rw [← hqe] at hdl
   refine j4 hse ⟨(y,R),by show (n7 y).length < 10000;omega,by show (n7 R).length < 19999;omega,hy0,(Nat.div_lt_iff_lt_mul (by omega)).1 hdl9 |> fun h=>by rw [Nat.mul_comm];exact h⟩ (r:=.c (.i .i64 ((q+1:Nat):Int))) (by rw [hqe];rfl) (.cons _ _ _ _ (.i _ _) (.cons _ _ _ _ (.raw _) .nil)) (.cons _ _ _ _ (b38 hbb rfl) (.cons _ _ _ _ (.cells _ _ (.cons _ _ _ _ (.cl _ _ _ _ _ (by simp [z8]) (by assumption)) .nil)) .nil)) fun _ _ _ hb9=>?_
   have hb9:RBs [[.l (z8 y)],[.l (z8 R)]] _:=hb9
   (refine Zq ?_;with_reducible repeat' first|intro _|apply aI)
   refine a3u (by assumption) fun tb ob htb=>?_
   (refine Zq ?_;with_reducible repeat' first|intro _|apply aI)
   refine a3u (by assumption) fun tR oR htR=>?_
   (refine Zq ?_;with_reducible repeat' first|intro _|apply aI)
   refine a4i (m:=(q:Int)) (by omega) (by omega) ?_
   (refine Zq ?_;with_reducible repeat' first|intro _|apply aI)
   refine j4 htr ⟨[q],by show 1 < 20000;omega⟩ (r:=.sl 1 (z8 q)) (by show y4.ret (.sl 1 ((F2 [q]).map lg))=_;rw [a01 [q] (lb1 hdl),c63];rfl) (.cons _ _ _ _ (.sl _ _ _ _ _ rfl e4n) .nil) .nil fun _ _ _ _=>?_
   (refine Zq ?_;with_reducible repeat' first|intro _|apply aI)
   have hq1:=d9p hdl
   refine j4 hti ⟨(n7 y,n7 q),by show (n7 y).length < 20000;omega,by show (n7 q).length < 20000;omega,N1 y,N1 q,by show (n7 y).length+(n7 q).length < 20000;omega⟩ (r:=.sl 1 (z8 (y * q))) (by show y4.ret (.sl 1 (z8 (m9 (n7 y) * m9 (n7 q))))=_;rw [G8,G8]) (.cons _ _ _ _ (.sl _ _ _ _ _ (by simp) htb) (.cons _ _ _ _ (.sl _ _ _ _ _ (by simp [z8]) (by assumption)) .nil)) .nil fun _ _ _ _=>?_
   (refine Zq ?_;with_reducible repeat' first|intro _|apply aI)
   have hle:y * q≤R:=by rw [hqe];exact Nat.mul_div_le R y
   have hsub:R - y * q=R % y:=by have:=Nat.div_add_mod R y;rw [← hqe] at this;omega
   have hml:=a81 hle
   refine j4 hmi ⟨(R,y * q),by show (n7 R).length < 20000;omega,by show (n7 (y * q)).length < 20000;omega,hle⟩ (r:=.sl 1 (z8 (R % y))) (by show y4.ret (.sl 1 (z8 (R - y * q)))=_;rw [hsub]) (.cons _ _ _ _ (.sl _ _ _ _ _ (by simp [z8]) htR) (.cons _ _ _ _ (.sl _ _ _ _ _ (by simp [z8]) (by assumption)) .nil)) .nil fun _ _ _ _=>?_
   (refine Zq ?_;with_reducible repeat' first|intro _|apply aI)
   refine a86 (r:=lg (q)) h3 (fun _=>I9 (.i _ _)) rfl (by simp;omega) (by omega) fun t9 h9=>?_
   (refine Zq ?_;with_reducible repeat' first|intro _|apply aI)
   refine ih n _ _ ⟨_,t1,o1,_,_,_,t9,out.set n (q),R % y,_,rfl,rfl,rfl,.cl _ _ _ _ _ (by simp [z8]) (by assumption),h1,by assumption,by rw [List.map_set];simpa using h9,by simp [hol],a28 hLo _ _ (by show _ < 1000000000;omega),by omega,Nat.mod_lt _ (by omega),hst⟩ (by omega)
  ·have hlt:R < y:=by
    by_cases h:R < y
    ·exact h
    ·exfalso;rw [if_neg h] at *;split at * <;> omega
   rw [Nat.div_eq_of_lt hlt] at hst
   have hmod:=Nat.mod_eq_of_lt hlt
   rw [hmod] at hst
   (refine Zq ?_;with_reducible repeat' first|intro _|apply aI)
   refine a86 (r:=lg (0)) h3 (fun _=>I9 (.i _ _)) rfl (by simp;omega) (by omega) fun t9 h9=>?_
   (refine Zq ?_;with_reducible repeat' first|intro _|apply aI)
   refine ih n _ _ ⟨_,t1,o1,_,_,_,t9,out.set n (0),R,_,rfl,rfl,rfl,.cl _ _ _ _ _ (by simp [z8]) (by assumption),h1,by assumption,by rw [List.map_set];simpa using h9,by simp [hol],a28 hLo _ _ (by show _ < 1000000000;omega),by omega,hlt,hst⟩ (by omega)
 ·have em:m=0:=by omega
  subst em
  simp only [List.drop_zero] at he
  obtain ⟨hd1,hd2⟩:=e0v hry he
  rw [G8] at hd1 hd2
  refine j4 htr ⟨out,by show out.length < 20000;omega⟩ (r:=.sl 1 (z8 (x / y))) (by rw [← hd1];show y4.ret (.sl 1 ((F2 out).map lg))=_;rw [a01 out hLo];rfl) (.cons _ _ _ _ (.sl _ _ _ _ _ (by simp [hol]) h3) .nil) .nil fun _ _ _ _=>?_
  (refine Zq ?_;with_reducible repeat' first|intro _|apply aI)
  rw [← hd2]
  exact l6 ⟨.ret _ _ (.t _ _ (.cons _ _ _ _ (.sl _ _ _ _ _ (by simp [z8]) (by assumption)) (.cons _ _ _ _ (.sl _ _ _ _ _ (by simp [z8]) (by assumption)) .nil))),.nil⟩
end
end
end Go.Proofs.YtffaodopiifbkaaGreatDoor
