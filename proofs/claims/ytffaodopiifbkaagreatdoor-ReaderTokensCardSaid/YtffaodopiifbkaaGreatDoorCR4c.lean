/- The reference's numbers: texts, quotients. -/
import Derived.Test.YtffaodopiifbkaaGreatDoorCR4b
set_option linter.all false
namespace Go.Proofs.YtffaodopiifbkaaGreatDoor
open Go.Abs LQ
set_option maxRecDepth 100000
set_option maxHeartbeats 4000000
noncomputable section
theorem b7l {l:List Nat} {i:Nat} (h:i < l.length):l.getD i 0=l[i]:=(b5q h).symm
def db (d:Nat):UInt8:=UInt8.ofNat (48+d)
theorem c9m {d:Nat} (h:d≤9):(db d).toNat=48+d:=by unfold db;rw [UInt8.toNat_ofNat'];omega
theorem c0v {l:List Nat} {m:Nat} (h:m < l.length):(l.take (m+1)).reverse.map db=db (l.getD m 0) :: (l.take m).reverse.map db:=by
 rw [List.take_add_one,List.getElem?_eq_getElem h,b7l h]
 simp only [Option.toList_some,List.reverse_append,List.reverse_cons,List.reverse_nil,List.nil_append,List.map_cons,List.cons_append]
theorem b6a {n:Nat} (h:n ≠ 0):j5 n=(j7 n).reverse.map db:=by unfold j5;rw [if_neg h];rfl
theorem a9a {acc:i7} {n:Int} {d:UInt8} (h:n=d.toNat):acc.map bg ++ [[.i .u8 n]]=(acc ++ [d]).map bg:=by subst h;simp [bg]
def sgn (neg:Bool) (n:Nat):i7:=if n=0 then A5 else if neg then [45] ++ j5 n else j5 n
theorem d8f (n:Int):sgn (decide (n < 0)) n.natAbs=j6 n:=by
 unfold sgn j6
 by_cases h:n < 0
 ·rw [if_neg (by omega),if_pos h];simp [h]
 ·rw [if_neg h]
  by_cases h0:n.natAbs=0
  ·rw [if_pos h0,h0];rfl
  ·rw [if_neg h0];simp [h]
def e5k:Sp where
 ι:={ p:Bool × List Nat // p.2.length < 90000∧D9 p.2 }
 A p:=[.c (.b p.1.1),.sl 1 (p.1.2.map dg)]
 B _:=[]
 R p:=.ret (.c (.s (sgn p.1.1 (val p.1.2))))
 B' _:=[]
 inj i j vs bs h k _ _:=by
  obtain ⟨_,_,h1,k1,h,k⟩:=h.two k
  obtain ⟨_,_,h2,k2,h,k⟩:=h.two k
  rw [c0q h1 k1,W9 (h2.sl_inj k2)];exact ⟨rfl,rfl⟩
theorem d6x:l5 127 e5k:=v7 (fun fn h=>e1m h) [(152,_)] (.cons c7a .nil) fun U fn hfn ⟨(neg,l),hl,h9⟩ vs bs hv hb=>by
 have hr:=hfn 152 _ rfl
 have hl:l.length < 90000:=hl
 have hv:l9 [.c (.b neg),.sl 1 (l.map dg)] vs:=hv
 have hb:RBs [] bs:=hb
 show j3 U _ fun v bs'=>m8 (.ret (.c (.s (sgn neg (val l))))) v∧RBs [] bs'
 have et:F2 l=j7 (val l):=a38 l h9
 have htl:(j7 (val l)).length < 90000:=by rw [← et];unfold F2;simp;omega
 have h9:=D8 (val l)
 generalize val l=n at *
 generalize hd:j7 n=d at *
 unfold d49
 (refine Zx ?_;with_reducible repeat' first|intro _|apply aI)
 refine j4 hr ⟨l,by omega⟩ (r:=.sl 1 (d.map dg)) (by rw [← et];rfl) j9 .nil fun _ _ _ _=>?_
 (refine Zx ?_;with_reducible repeat' first|intro _|apply aI)
 ·have e0:d=[]:=List.length_eq_zero_iff.1 (by omega)
  have en:n=0:=by rw [← D3 n,hd,e0];rfl
  exact l6 ⟨.ret _ _ (.s _ _ _ (by rw [en];rfl) (by rw [en];rfl)),.nil⟩
 all_goals
  have en:n ≠ 0:=fun e=>by rw [e,B4] at hd;subst hd;simp at *
 ·have ht:neg=true:=‹_›
  have es:sgn neg n=[45] ++ d.reverse.map db:=by unfold sgn;rw [if_neg en,if_pos ht,b6a en,hd]
  refine Z5 (u6.nil 1 .nil 0) (fun _=>I9 (.i _ _)) rfl rfl (by decide) fun _ _=>?_
  (refine Zx ?_;with_reducible repeat' first|intro _|apply aI)
  (have hA:([45]:i7).length≤1:=(by simp);refine F8 (fun (m:Nat) vs bs=>∃ (t:j8 Q) (off:Nat) (v:V) (acc:i7) (i:Int),vs=[.slice t 1 off d.length .no,v,.int .i64 i]∧bs=[.tok acc.length 1]∧Z4 0 1 (acc.map bg) v∧i=m - 1∧u6 1 (d.map dg) t off∧m≤d.length∧acc.length+m=([45]:i7).length+d.length∧acc ++ (d.take m).reverse.map db=([45]:i7) ++ d.reverse.map db) (fun m=>m) d.length ⟨_,_,_,[45],_,rfl,rfl,?_,rfl,by assumption,by omega,rfl,by simp⟩ (by simp only [B8];omega) ?_;rotate_left;(rintro self m _ _ ⟨t,off,v,acc,i,rfl,rfl,hv',rfl,ht,hm,ha,he⟩ ih;(refine Zx ?_;with_reducible repeat' first|intro _|apply aI);(refine a94 (m - 1) (by assumption) (by omega) (by omega) fun _ _=>?_;have q9:=D9.at h9 (m - 1);(refine Zx ?_;with_reducible repeat' first|intro _|apply aI);refine d7l rfl (by omega) ?_;(refine Zx ?_;with_reducible repeat' first|intro _|apply aI);refine Z5 (by assumption) (fun _=>I9 (by first | exact .i _ _ | exact .s _ _ _ rfl rfl | assumption)) (by rfl) (by simp) (by simp only [List.length_map];omega) fun _ _=>?_;(refine Zx ?_;with_reducible repeat' first|intro _|apply aI);refine ih (m - 1) _ _ ?_ (by omega);refine ⟨_,_,_,acc ++ [db (d.getD (m - 1) 0)],_,rfl,by simp,.a _ _ (by simp) ?_,by omega,by assumption,by omega,by simp at *;omega,?_⟩;(have hq:=‹u6 1 (acc.map bg ++ [_]) _ 0›;rw [a9a (d:=db (d.getD (m - 1) 0)) (by rw [c9m q9];omega)] at hq;exact hq);(obtain ⟨m,rfl⟩:∃ n,m=n+1:=⟨m - 1,by omega⟩;exact (by rw [← he,c0v (m:=m) (by omega)] <;> simp)));(have em:m=0:=(by omega);subst em;simp only [List.take_zero,List.reverse_nil,List.map_nil,List.append_nil] at he;subst he;refine sBT (ys:=_) (by assumption) (by simp) ?_;exact l6 ⟨.ret _ _ (.s _ _ _ (by rw [es] <;> rfl) (by rw [es] <;> rfl)),.nil⟩)))
  ·exact .a _ _ rfl (by assumption)
 ·have ht:neg=false:=by simpa using ‹¬neg=true›
  have es:sgn neg n=[] ++ d.reverse.map db:=by unfold sgn;rw [if_neg en,if_neg (by simp [ht]),b6a en,hd];rfl
  (have hA:([]:i7).length≤1:=(by simp);refine F8 (fun (m:Nat) vs bs=>∃ (t:j8 Q) (off:Nat) (v:V) (acc:i7) (i:Int),vs=[.slice t 1 off d.length .no,v,.int .i64 i]∧bs=[.tok acc.length 1]∧Z4 0 1 (acc.map bg) v∧i=m - 1∧u6 1 (d.map dg) t off∧m≤d.length∧acc.length+m=([]:i7).length+d.length∧acc ++ (d.take m).reverse.map db=([]:i7) ++ d.reverse.map db) (fun m=>m) d.length ⟨_,_,_,[],_,rfl,rfl,?_,rfl,by assumption,by omega,rfl,by simp⟩ (by simp only [B8];omega) ?_;rotate_left;(rintro self m _ _ ⟨t,off,v,acc,i,rfl,rfl,hv',rfl,ht,hm,ha,he⟩ ih;(refine Zx ?_;with_reducible repeat' first|intro _|apply aI);(refine a94 (m - 1) (by assumption) (by omega) (by omega) fun _ _=>?_;have q9:=D9.at h9 (m - 1);(refine Zx ?_;with_reducible repeat' first|intro _|apply aI);refine d7l rfl (by omega) ?_;(refine Zx ?_;with_reducible repeat' first|intro _|apply aI);refine Z5 (by assumption) (fun _=>I9 (by first | exact .i _ _ | exact .s _ _ _ rfl rfl | assumption)) (by rfl) (by simp) (by simp only [List.length_map];omega) fun _ _=>?_;(refine Zx ?_;with_reducible repeat' first|intro _|apply aI);refine ih (m - 1) _ _ ?_ (by omega);refine ⟨_,_,_,acc ++ [db (d.getD (m - 1) 0)],_,rfl,by simp,.a _ _ (by simp) ?_,by omega,by assumption,by omega,by simp at *;omega,?_⟩;(have hq:=‹u6 1 (acc.map bg ++ [_]) _ 0›;rw [a9a (d:=db (d.getD (m - 1) 0)) (by rw [c9m q9];omega)] at hq;exact hq);(obtain ⟨m,rfl⟩:∃ n,m=n+1:=⟨m - 1,by omega⟩;exact (by rw [← he,c0v (m:=m) (by omega)] <;> simp)));(have em:m=0:=(by omega);subst em;simp only [List.take_zero,List.reverse_nil,List.map_nil,List.append_nil] at he;subst he;refine sBT (ys:=_) (by assumption) (by simp) ?_;exact l6 ⟨.ret _ _ (.s _ _ _ (by rw [es] <;> rfl) (by rw [es] <;> rfl)),.nil⟩)))
  ·exact .a _ _ rfl (.nil _ _ _)
theorem b2v (s:i7) (e:Nat):∀ (k:Nat) (acc:List Nat),(y9 s e k acc).length≤acc.length+k
 | 0,acc=>by simp [y9]
 | k+1,acc=>by
  rw [y9]
  split
  ·have:=b2v s e k (acc ++ [(bt s k - 48).toNat]);simp at this;omega
  ·omega
theorem O3 {a b:Nat} (h:a≤b):(j7 a).length≤(j7 b).length:=by
 by_cases ha:a=0
 ·rw [ha,B4];simp
 ·have h1:=b1q a ha
  have h2:=a1n (j7 b) (D8 b)
  rw [D3] at h2
  have h3:10 ^ ((j7 a).length - 1) < 10 ^ (j7 b).length:=by omega
  have h4:=(Nat.pow_lt_pow_iff_right (by omega:1 < 10)).1 h3
  omega
theorem a0q (s:i7):(j7 (i6 s).natAbs).length≤s.length:=by
 have h:=b1o s
 have:(Z2 s).2=j7 (i6 s).natAbs:=by rw [h]
 rw [← this]
 unfold Z2
 split
 ·have:=b2v s (j0 s) s.length [];simpa using this
 ·simp
theorem f1r (n j:Nat):(List.replicate n 0).getD j 0=0:=by
 by_cases h:j < n
 ·rw [b7l (by simpa using h)];simp
 ·simp [List.getD,List.getElem?_replicate,h]
theorem d23 {l:List Nat} {k:Nat} (v:Nat) (h:k < l.length):(l.set k v).drop k=v :: l.drop (k+1):=by
 rw [List.drop_eq_getElem_cons (by simpa using h),List.getElem_set_self,List.drop_set_of_lt (by omega)]
theorem d2d {l:List Nat} {k v:Nat} (h:l.getD k 0=v):l.set k v=l:=by
 by_cases hk:k < l.length
 ·rw [b7l hk] at h;subst h;exact List.set_getElem_self hk
 ·exact List.set_eq_of_length_le (by omega)
theorem e2g {l:List Nat} (h:D9 l) (k:Nat) {v:Nat} (hv:v≤9):D9 (l.set k v):=fun d hd=>by
 rcases List.mem_or_eq_of_mem_set hd with h1 | h1
 ·exact h d h1
 ·omega
theorem b2b {l:List Nat} {k j v:Nat} (h:j ≠ k):(l.set k v).getD j 0=l.getD j 0:=by
 simp only [List.getD,List.getElem?_set_ne (Ne.symm h)]
theorem c9t (l:List Nat) (k v:Nat) {n:Int} (h:n=v):(l.map dg).set k [.i .i64 n]=(l.set k v).map dg:=by subst h;rw [List.map_set];rfl
def e4h:Sp where
 ι:={ p:Nat × Nat // (j7 p.1).length < 80000∧(j7 p.2).length < 80000∧0 < p.2 }
 A p:=[.sl 1 ((j7 p.1.1).map dg),.sl 1 ((j7 p.1.2).map dg)]
 B _:=[]
 R p:=.ret (.t [.sl 1 ((j7 (p.1.1 / p.1.2)).map dg),.sl 1 ((j7 (p.1.1 % p.1.2)).map dg)])
 B' _:=[]
 inj i j vs bs h k _ _:=by
  obtain ⟨_,_,h1,k1,h,k⟩:=h.two k
  obtain ⟨_,_,h2,k2,h,k⟩:=h.two k
  have e1:=congrArg val (W9 (h1.sl_inj k1))
  have e2:=congrArg val (W9 (h2.sl_inj k2))
  rw [D3,D3] at e1 e2
  rw [e1,e2];exact ⟨rfl,rfl⟩
theorem d74:l5 126 e4h:=v7 (fun fn h=>e0p h) [(152,_),(153,_),(154,_)] (.cons c7a (.cons e6x (.cons e2p .nil))) fun U fn hfn ⟨(x,y),hx,hy,hp⟩ vs bs hv hb=>by
 have hr:=hfn 152 _ rfl
 have ho:=hfn 153 _ rfl
 have hmi:=hfn 154 _ rfl
 have hx:(j7 x).length < 80000:=hx
 have hy:(j7 y).length < 80000:=hy
 have hp:0 < y:=hp
 have hv:l9 [.sl 1 ((j7 x).map dg),.sl 1 ((j7 y).map dg)] vs:=hv
 have hb:RBs [] bs:=hb
 show j3 U _ fun v bs'=>m8 (.ret (.t [.sl 1 ((j7 (x / y)).map dg),.sl 1 ((j7 (x % y)).map dg)])) v∧RBs [] bs'
 unfold d56
 (refine Zx ?_;with_reducible repeat' first|intro _|apply aI)
 refine sZT (fun _=>I9 (.i _ _)) rfl (by simp;omega) fun t0 ht0=>?_
 have ht0:u6 1 ((List.replicate (j7 x).length 0).map dg) t0 0:=by have:=ht0;simpa [dg] using this
 have h9x:=D8 x
 have h9y:=D8 y
 (refine Zx ?_;with_reducible repeat' first|intro _|apply aI)
 refine F8 (fun (m:Nat) vs bs=>∃ (t:j8 Q) (off:Nat) (t':j8 Q) (off':Nat) (v:V) (i:Int) (tq:j8 Q) (qs:List Nat),vs=[.slice t 1 off (j7 x).length .no,.slice t' 1 off' (j7 y).length .no,.bslice 0 (j7 x).length,v,.int .i64 i]∧bs=[.row tq (j7 x).length]∧i=m - 1∧m≤(j7 x).length∧u6 1 ((j7 x).map dg) t off∧u6 1 ((j7 y).map dg) t' off' ∧
  RV (.sl 1 ((j7 (val ((j7 x).drop m) % y)).map dg)) v∧u6 1 (qs.map dg) tq 0∧qs.length=(j7 x).length∧D9 qs∧(∀ j,j < m→qs.getD j 0=0)∧val (qs.drop m)=val ((j7 x).drop m) / y) (fun m=>m) (j7 x).length
  ⟨_,_,_,_,_,_,_,_,rfl,by simp,rfl,by omega,by assumption,by assumption,by rw [List.drop_length];simp only [val,Nat.zero_mod,B4];exact .sl0 _ _ _,ht0,by simp,by intro d hd;simp at hd;omega,fun j _=>f1r _ j,by simp [val]⟩ (by simp only [B8];omega) ?_
 rintro self m _ _ ⟨t,off,t',off',v,i,tq,qs,rfl,rfl,rfl,hm,ht,ht',hv',hq,hql,hq9,hq0,hqv⟩ ih
 have hrl:(j7 (val ((j7 x).drop m) % y)).length≤(j7 y).length:=O3 (Nat.le_of_lt (Nat.mod_lt _ hp))
 (refine Zx ?_;with_reducible repeat' first|intro _|apply aI)
 ·refine a94 (m - 1) (by assumption) (by omega) (by omega) fun _ _=>?_
  have hd9:=D9.at h9x (m - 1)
  have hdr:=d0c x (m - 1) (by omega)
  rw [show m - 1+1=m by omega] at hdr
  generalize hX:val ((j7 x).drop m)=X at *
  generalize hdd:(j7 x).getD (m - 1) 0=d at *
  have hml:=Nat.mod_lt X hp
  (refine Zx ?_;with_reducible repeat' first|intro _|apply aI)
  refine sAT (xs:=[dg d]) (ys:=(j7 (X % y)).map dg) (n:=1) (.cons _ _ _ _ _ rfl (I9 (by assumption)).1 (I9 (by assumption)).2 (.nil _ _ _)) (by assumption) rfl (by simp) (by simp;omega) fun _ _=>?_
  (refine Zx ?_;with_reducible repeat' first|intro _|apply aI)
  have htr:=b6w d (X % y) hd9
  refine j4 hr ⟨d :: j7 (X % y),by simp;omega⟩ (r:=.sl 1 ((j7 (d+10 * (X % y))).map dg)) (by rw [← htr];rfl) (.cons _ _ _ _ (.sl _ _ _ _ _ (by simp;omega) (by assumption)) .nil) .nil fun _ _ _ _=>?_
  generalize hR:d+10 * (X % y)=R at *
  (refine Zx ?_;with_reducible repeat' first|intro _|apply aI)
  have hRl:(j7 R).length < 90000:=by rw [← htr];unfold F2;simp;omega
  have hRy:R < 10 * y:=by omega
  refine F8 (fun (c:Nat) vs bs=>∃ (t:j8 Q) (off:Nat) (t':j8 Q) (off':Nat) (v:V) (i:Int) (tq:j8 Q),vs=[.slice t 1 off (j7 x).length .no,.slice t' 1 off' (j7 y).length .no,.bslice 0 (j7 x).length,v,.int .i64 i]∧bs=[.row tq (j7 x).length]∧i=m - 1∧u6 1 ((j7 x).map dg) t off∧u6 1 ((j7 y).map dg) t' off' ∧
   RV (.sl 1 ((j7 (R - c * y)).map dg)) v∧u6 1 ((qs.set (m - 1) c).map dg) tq 0∧c * y≤R) (fun c=>10 - c) 0
   ⟨_,_,_,_,_,_,_,rfl,rfl,rfl,by assumption,by assumption,by rw [Nat.zero_mul,Nat.sub_zero];exact .sl _ _ _ _ _ (by simp) (by assumption),by rw [show qs.set (m - 1) 0=qs from d2d (hq0 _ (by omega))];exact hq,by omega⟩ (by simp only [B8];omega) ?_
  rintro self2 c _ _ ⟨t,off,t',off',v,i,tq,rfl,rfl,rfl,ht,ht',hv',hq,hc⟩ ih2
  have hc9:c≤9:=by
   have:c * y < 10 * y:=by omega
   have:=Nat.lt_of_mul_lt_mul_right this
   omega
  have hcl:(j7 (R - c * y)).length < 90000:=by have:=O3 (Nat.sub_le R (c * y));omega
  (refine Zx ?_;with_reducible repeat' first|intro _|apply aI)
  refine j4 ho ⟨(j7 (R - c * y),j7 y),hcl,show (j7 y).length < 90000 by omega,trivial⟩ (r:=.c (.i .i64 (P8 (j7 (R - c * y)) (j7 y)))) rfl j9 .nil fun _ _ _ _=>?_
  have hord:=d01 (R - c * y) y
  generalize P8 (j7 (R - c * y)) (j7 y)=o at *
  (refine Zx ?_;with_reducible repeat' first|intro _|apply aI)
  ·have hge:y≤R - c * y:=by
    by_cases h:R - c * y < y
    ·rw [if_pos h] at hord;omega
    ·omega
   have hmul:(c+1) * y=c * y+y:=by rw [Nat.add_mul,Nat.one_mul]
   have hsub:b6z (j7 (R - c * y)) (j7 y)=j7 (R - (c+1) * y):=by rw [d1o _ _ hge];congr 1;omega
   refine j4 hmi ⟨(j7 (R - c * y),j7 y),hcl,show (j7 y).length < 90000 by omega,D8 _,D8 _⟩ (r:=.sl 1 ((j7 (R - (c+1) * y)).map dg)) (by rw [← hsub];rfl) j9 .nil fun _ _ _ _=>?_
   (refine Zx ?_;with_reducible repeat' first|intro _|apply aI)
   have hk:((m:Int) - 1).toNat * 1=m - 1:=by omega
   rw [hk]
   refine e4d (g:=.i .i64 (c:Int)) hq (by rw [List.getElem?_map,List.getElem?_set_self (by omega)];rfl) fun _ _=>?_
   (refine Zx ?_;with_reducible repeat' first|intro _|apply aI)
   rw [hk]
   refine a86 hq (fun _=>I9 (.i _ _)) rfl (by simp;omega) (by omega) fun _ hq2=>?_
   rw [c9t (n:=(c:Int)+1) _ _ (c+1) (by omega),List.set_set] at hq2
   exact ih2 (c+1) _ _ ⟨_,_,_,_,_,_,_,rfl,rfl,rfl,ht,ht',.sl _ _ _ _ _ (by simp) (by assumption),hq2,by omega⟩ (by omega)
  ·have hlt:R - c * y < y:=by
    by_cases h:R - c * y < y
    ·exact h
    ·rw [if_neg h] at hord;split at hord <;> omega
   obtain ⟨o1,o2⟩:=c8l R c y hp hc hlt
   obtain ⟨s1,s2⟩:=d14 X d y hp
   have hdv:val ((j7 x).drop (m - 1))=d+10 * X:=hdr
   refine ih (m - 1) _ _ ⟨_,_,_,_,_,_,_,_,rfl,rfl,by omega,by omega,ht,ht',?_,hq,by simp;omega,e2g hq9 _ hc9,fun j hj=>by rw [b2b (by omega)];exact hq0 j (by omega),?_⟩ (by omega)
   ·rw [hdv,s2,hR,o2];exact .sl _ _ _ _ _ (by simp) (by assumption)
   ·rw [d23 c (by omega),val,show m - 1+1=m by omega,hqv,hdv,s1,hR,o1]
 ·have em:m=0:=by omega
  subst em
  rw [List.drop_zero,List.drop_zero,D3] at hqv
  refine j4 hr ⟨qs,by omega⟩ (r:=.sl 1 ((j7 (x / y)).map dg)) (by rw [← hqv,← a38 qs hq9];rfl) (.cons _ _ _ _ (.sl _ _ _ _ _ (by simp;omega) hq) .nil) .nil fun _ _ _ _=>?_
  rw [List.drop_zero,D3] at *
  (refine Zx ?_;with_reducible repeat' first|intro _|apply aI)
  exact l6 ⟨.ret _ _ (.t _ _ j9),.nil⟩
end
end Go.Proofs.YtffaodopiifbkaaGreatDoor
