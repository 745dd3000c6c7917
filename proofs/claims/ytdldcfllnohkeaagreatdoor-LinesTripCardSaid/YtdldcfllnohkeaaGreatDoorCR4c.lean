/- The reference's numbers: texts, quotients. -/
import Derived.Test.YtdldcfllnohkeaaGreatDoorCR4b
set_option linter.all false
namespace Go.Proofs.YtdldcfllnohkeaaGreatDoor
open Go.Abs LQ
set_option maxRecDepth 100000
set_option maxHeartbeats 4000000
noncomputable section
theorem c0e {l:List Nat} {i:Nat} (h:i < l.length):l.getD i 0=l[i]:=(b7s h).symm
def db (d:Nat):UInt8:=UInt8.ofNat (48+d)
theorem d6a {d:Nat} (h:d≤9):(db d).toNat=48+d:=by unfold db;rw [UInt8.toNat_ofNat'];omega
theorem c8m {l:List Nat} {m:Nat} (h:m < l.length):(l.take (m+1)).reverse.map db=db (l.getD m 0) :: (l.take m).reverse.map db:=by
 rw [List.take_add_one,List.getElem?_eq_getElem h,c0e h]
 simp only [Option.toList_some,List.reverse_append,List.reverse_cons,List.reverse_nil,List.nil_append,List.map_cons,List.cons_append]
theorem b87 {n:Nat} (h:n ≠ 0):i7 n=(j7 n).reverse.map db:=by unfold i7;rw [if_neg h];rfl
theorem b77 {acc:i6} {n:Int} {d:UInt8} (h:n=d.toNat):acc.map bg ++ [[.i .u8 n]]=(acc ++ [d]).map bg:=by subst h;simp [bg]
def sgn (neg:Bool) (n:Nat):i6:=if n=0 then B5 else if neg then [45] ++ i7 n else i7 n
theorem e9f (n:Int):sgn (decide (n < 0)) n.natAbs=j3 n:=by
 unfold sgn j3
 by_cases h:n < 0
 ·rw [if_neg oM,if_pos h];simp [h]
 ·rw [if_neg h]
  by_cases h0:n.natAbs=0
  ·rw [if_pos h0,h0];rfl
  ·rw [if_neg h0];simp [h]
def f66:Sp where
 ι:={ p:Bool × List Nat // p.2.length < 90000∧D9 p.2 }
 A p:=[.c (.b p.1.1),.sl 1 (p.1.2.map dg)]
 B _:=[]
 R p:=.ret (.c (.s (sgn p.1.1 (val p.1.2))))
 B' _:=[]
 inj i j vs bs h k _ _:=by
  obtain ⟨_,_,h1,k1,h,k⟩:=h.two k
  obtain ⟨_,_,h2,k2,h,k⟩:=h.two k
  rw [c4b h1 k1,a0s (h2.sl_inj k2)];exact ⟨rfl,rfl⟩
theorem e4q:k9 80 f66:=n9 (fun fn h=>f5h h) [(115,_)] (.cons d30 .nil) fun U fn hfn ⟨(neg,l),hl,h9⟩ vs bs hv hb=>by
 have hr:=hfn 115 _ rfl
 have hl:l.length < 90000:=hl
 have hv:l7 [.c (.b neg),.sl 1 (l.map dg)] vs:=hv
 have hb:RBs [] bs:=hb
 show j5 U _ fun v bs'=>l8 (.ret (.c (.s (sgn neg (val l))))) v∧RBs [] bs'
 have et:G0 l=j7 (val l):=a6d l h9
 have htl:(j7 (val l)).length < 90000:=by rw [← et];unfold G0;simp;omega
 have h9:=E5 (val l)
 generalize val l=n at *
 generalize hd:j7 n=d at *
 unfold r80
 (refine Zx ?_;intros)
 refine j4 hr ⟨l,oM⟩ (r:=.sl 1 (d.map dg)) (by rw [← et];rfl) l5 .nil fun _ _ _ _=>?_
 (refine Zx ?_;with_reducible repeat' first|intro _|apply aI)
 ·have e0:d=[]:=List.length_eq_zero_iff.1 oM
  have en:n=0:=by rw [← D8 n,hd,e0];rfl
  exact j9 ⟨.ret _ _ (.s _ _ _ (by rw [en];rfl) (by rw [en];rfl)),.nil⟩
 all_goals
  have en:n ≠ 0:=fun e=>by rw [e,y9] at hd;subst hd;simp at *
 ·have ht:neg=true:=‹_›
  have es:sgn neg n=[45] ++ d.reverse.map db:=by unfold sgn;rw [if_neg en,if_pos ht,b87 en,hd]
  refine a2b (p9.nil 1 .nil 0) (fun _=>L4 (.i _ _)) rfl rfl dE fun _ _=>?_
  (refine Zx ?_;intros)
  (have hA:([45]:i6).length≤1:=(by simp);refine H2 (fun (m:Nat) vs bs=>∃ (t:j8 Q) (off:Nat) (v:V) (acc:i6) (i:Int),vs=[.slice t 1 off d.length .no,v,.int .i64 i]∧bs=[.tok acc.length 1]∧a1e 0 1 (acc.map bg) v∧i=m - 1∧p9 1 (d.map dg) t off∧m≤d.length∧acc.length+m=([45]:i6).length+d.length∧acc ++ (d.take m).reverse.map db=([45]:i6) ++ d.reverse.map db) (fun m=>m) d.length ⟨_,_,_,[45],_,rfl,rfl,?_,rfl,aS,oM,rfl,by simp⟩ (by simp only [C4];omega) ?_;rotate_left;(rintro self m _ _ ⟨t,off,v,acc,i,rfl,rfl,hv',rfl,ht,hm,ha,he⟩ ih;(refine Zx ?_;with_reducible repeat' first|intro _|apply aI);(refine b3f (m - 1) aS oM oM fun _ _=>?_;have q9:=D9.at h9 (m - 1);(refine Zx ?_;with_reducible repeat' first|intro _|apply aI);refine e5g rfl oM ?_;(refine Zx ?_;with_reducible repeat' first|intro _|apply aI);refine a2b aS (fun _=>L4 (by first | exact .i _ _ | exact .s _ _ _ rfl rfl | assumption)) (by rfl) (by simp) (by simp only [List.length_map];omega) fun _ _=>?_;(refine Zx ?_;with_reducible repeat' first|intro _|apply aI);refine ih (m - 1) _ _ ?_ oM;refine ⟨_,_,_,acc ++ [db (d.getD (m - 1) 0)],_,rfl,by simp,.a _ _ (by simp) ?_,oM,aS,oM,by simp at *;omega,?_⟩;(have hq:=‹p9 1 (acc.map bg ++ [_]) _ 0›;rw [b77 (d:=db (d.getD (m - 1) 0)) (by rw [d6a q9];omega)] at hq;exact hq);(obtain ⟨m,rfl⟩:∃ n,m=n+1:=⟨m - 1,oM⟩;exact (by rw [← he,c8m (m:=m) oM] <;> simp)));(have em:m=0:=oM;subst em;simp only [List.take_zero,List.reverse_nil,List.map_nil,List.append_nil] at he;subst he;refine sBT (ys:=_) aS (by simp) ?_;exact j9 ⟨.ret _ _ (.s _ _ _ (by rw [es] <;> rfl) (by rw [es] <;> rfl)),.nil⟩)))
  ·exact .a _ _ rfl aS
 ·have ht:neg=false:=by simpa using ‹¬neg=true›
  have es:sgn neg n=[] ++ d.reverse.map db:=by unfold sgn;rw [if_neg en,if_neg (by simp [ht]),b87 en,hd];rfl
  (have hA:([]:i6).length≤1:=(by simp);refine H2 (fun (m:Nat) vs bs=>∃ (t:j8 Q) (off:Nat) (v:V) (acc:i6) (i:Int),vs=[.slice t 1 off d.length .no,v,.int .i64 i]∧bs=[.tok acc.length 1]∧a1e 0 1 (acc.map bg) v∧i=m - 1∧p9 1 (d.map dg) t off∧m≤d.length∧acc.length+m=([]:i6).length+d.length∧acc ++ (d.take m).reverse.map db=([]:i6) ++ d.reverse.map db) (fun m=>m) d.length ⟨_,_,_,[],_,rfl,rfl,?_,rfl,aS,oM,rfl,by simp⟩ (by simp only [C4];omega) ?_;rotate_left;(rintro self m _ _ ⟨t,off,v,acc,i,rfl,rfl,hv',rfl,ht,hm,ha,he⟩ ih;(refine Zx ?_;with_reducible repeat' first|intro _|apply aI);(refine b3f (m - 1) aS oM oM fun _ _=>?_;have q9:=D9.at h9 (m - 1);(refine Zx ?_;with_reducible repeat' first|intro _|apply aI);refine e5g rfl oM ?_;(refine Zx ?_;with_reducible repeat' first|intro _|apply aI);refine a2b aS (fun _=>L4 (by first | exact .i _ _ | exact .s _ _ _ rfl rfl | assumption)) (by rfl) (by simp) (by simp only [List.length_map];omega) fun _ _=>?_;(refine Zx ?_;with_reducible repeat' first|intro _|apply aI);refine ih (m - 1) _ _ ?_ oM;refine ⟨_,_,_,acc ++ [db (d.getD (m - 1) 0)],_,rfl,by simp,.a _ _ (by simp) ?_,oM,aS,oM,by simp at *;omega,?_⟩;(have hq:=‹p9 1 (acc.map bg ++ [_]) _ 0›;rw [b77 (d:=db (d.getD (m - 1) 0)) (by rw [d6a q9];omega)] at hq;exact hq);(obtain ⟨m,rfl⟩:∃ n,m=n+1:=⟨m - 1,oM⟩;exact (by rw [← he,c8m (m:=m) oM] <;> simp)));(have em:m=0:=oM;subst em;simp only [List.take_zero,List.reverse_nil,List.map_nil,List.append_nil] at he;subst he;refine sBT (ys:=_) aS (by simp) ?_;exact j9 ⟨.ret _ _ (.s _ _ _ (by rw [es] <;> rfl) (by rw [es] <;> rfl)),.nil⟩)))
  ·exact .a _ _ rfl (.nil _ _ _)
theorem b4v (s:i6) (e:Nat):∀ (k:Nat) (acc:List Nat),(y7 s e k acc).length≤acc.length+k
 | 0,acc=>by simp [y7]
 | k+1,acc=>by
  rw [y7]
  split
  ·have:=b4v s e k (acc ++ [(bt s k - 48).toNat]);simp at this;omega
  ·omega
theorem R3 {a b:Nat} (h:a≤b):(j7 a).length≤(j7 b).length:=by
 by_cases ha:a=0
 ·rw [ha,y9];simp
 ·have h1:=a6m a ha
  have h2:=a3j (j7 b) (E5 b)
  rw [D8] at h2
  have h3:10 ^ ((j7 a).length - 1) < 10 ^ (j7 b).length:=oM
  have h4:=(Nat.pow_lt_pow_iff_right (by omega:1 < 10)).1 h3
  omega
theorem a1y (s:i6):(j7 (j0 s).natAbs).length≤s.length:=by
 have h:=b34 s
 have:(a1g s).2=j7 (j0 s).natAbs:=by rw [h]
 rw [← this]
 unfold a1g
 split
 ·have:=b4v s (j6 s) s.length [];simpa using this
 ·simp
theorem g1x (n j:Nat):(List.replicate n 0).getD j 0=0:=by
 by_cases h:j < n
 ·rw [c0e (by simpa using h)];simp
 ·simp [List.getD,List.getElem?_replicate,h]
theorem d9y {l:List Nat} {k:Nat} (v:Nat) (h:k < l.length):(l.set k v).drop k=v :: l.drop (k+1):=by
 rw [List.drop_eq_getElem_cons (by simpa using h),List.getElem_set_self,List.drop_set_of_lt oM]
theorem e27 {l:List Nat} {k v:Nat} (h:l.getD k 0=v):l.set k v=l:=by
 by_cases hk:k < l.length
 ·rw [c0e hk] at h;subst h;exact List.set_getElem_self hk
 ·exact List.set_eq_of_length_le oM
theorem e96 {l:List Nat} (h:D9 l) (k:Nat) {v:Nat} (hv:v≤9):D9 (l.set k v):=fun d hd=>by
 rcases List.mem_or_eq_of_mem_set hd with h1 | h1
 ·exact h d h1
 ·omega
theorem b4z {l:List Nat} {k j v:Nat} (h:j ≠ k):(l.set k v).getD j 0=l.getD j 0:=by
 simp only [List.getD,List.getElem?_set_ne (Ne.symm h)]
theorem d7d (l:List Nat) (k v:Nat) {n:Int} (h:n=v):(l.map dg).set k [.i .i64 n]=(l.set k v).map dg:=by subst h;rw [List.map_set];rfl
def f64:Sp where
 ι:={ p:Nat × Nat // (j7 p.1).length < 80000∧(j7 p.2).length < 80000∧0 < p.2 }
 A p:=[.sl 1 ((j7 p.1.1).map dg),.sl 1 ((j7 p.1.2).map dg)]
 B _:=[]
 R p:=.ret (.t [.sl 1 ((j7 (p.1.1 / p.1.2)).map dg),.sl 1 ((j7 (p.1.1 % p.1.2)).map dg)])
 B' _:=[]
 inj i j vs bs h k _ _:=by
  obtain ⟨_,_,h1,k1,h,k⟩:=h.two k
  obtain ⟨_,_,h2,k2,h,k⟩:=h.two k
  have e1:=congrArg val (a0s (h1.sl_inj k1))
  have e2:=congrArg val (a0s (h2.sl_inj k2))
  rw [D8,D8] at e1 e2
  rw [e1,e2];exact ⟨rfl,rfl⟩
theorem e4o:k9 79 f64:=n9 (fun fn h=>f5f h) [(115,_),(116,_),(117,_)] (.cons d30 (.cons f03 (.cons f0z .nil))) fun U fn hfn ⟨(x,y),hx,hy,hp⟩ vs bs hv hb=>by
 have hr:=hfn 115 _ rfl
 have ho:=hfn 116 _ rfl
 have hmi:=hfn 117 _ rfl
 have hx:(j7 x).length < 80000:=hx
 have hy:(j7 y).length < 80000:=hy
 have hp:0 < y:=hp
 have hv:l7 [.sl 1 ((j7 x).map dg),.sl 1 ((j7 y).map dg)] vs:=hv
 have hb:RBs [] bs:=hb
 show j5 U _ fun v bs'=>l8 (.ret (.t [.sl 1 ((j7 (x / y)).map dg),.sl 1 ((j7 (x % y)).map dg)])) v∧RBs [] bs'
 unfold r79
 (refine Zx ?_;intros)
 refine sZT (fun _=>L4 (.i _ _)) rfl (by simp;omega) fun t0 ht0=>?_
 have ht0:p9 1 ((List.replicate (j7 x).length 0).map dg) t0 0:=by have:=ht0;simpa [dg] using this
 have h9x:=E5 x
 have h9y:=E5 y
 (refine Zx ?_;intros)
 refine H2 (fun (m:Nat) vs bs=>∃ (t:j8 Q) (off:Nat) (t':j8 Q) (off':Nat) (v:V) (i:Int) (tq:j8 Q) (qs:List Nat),vs=[.slice t 1 off (j7 x).length .no,.slice t' 1 off' (j7 y).length .no,.bslice 0 (j7 x).length,v,.int .i64 i]∧bs=[.row tq (j7 x).length]∧i=m - 1∧m≤(j7 x).length∧p9 1 ((j7 x).map dg) t off∧p9 1 ((j7 y).map dg) t' off' ∧
  RV (.sl 1 ((j7 (val ((j7 x).drop m) % y)).map dg)) v∧p9 1 (qs.map dg) tq 0∧qs.length=(j7 x).length∧D9 qs∧(∀ j,j < m→qs.getD j 0=0)∧val (qs.drop m)=val ((j7 x).drop m) / y) (fun m=>m) (j7 x).length
  ⟨_,_,_,_,_,_,_,_,rfl,by simp,rfl,oM,aS,aS,by rw [List.drop_length];simp only [val,Nat.zero_mod,y9];exact .sl0 _ _ _,ht0,by simp,by intro d hd;simp at hd;omega,fun j _=>g1x _ j,by simp [val]⟩ (by simp only [C4];omega) ?_
 rintro self m _ _ ⟨t,off,t',off',v,i,tq,qs,rfl,rfl,rfl,hm,ht,ht',hv',hq,hql,hq9,hq0,hqv⟩ ih
 have hrl:(j7 (val ((j7 x).drop m) % y)).length≤(j7 y).length:=R3 (Nat.le_of_lt (Nat.mod_lt _ hp))
 (refine Zx ?_;with_reducible repeat' first|intro _|apply aI)
 ·refine b3f (m - 1) aS oM oM fun _ _=>?_
  have hd9:=D9.at h9x (m - 1)
  have hdr:=d6h x (m - 1) oM
  rw [show m - 1+1=m by omega] at hdr
  generalize hX:val ((j7 x).drop m)=X at *
  generalize hdd:(j7 x).getD (m - 1) 0=d at *
  have hml:=Nat.mod_lt X hp
  (refine Zx ?_;intros)
  refine sAT (xs:=[dg d]) (ys:=(j7 (X % y)).map dg) (n:=1) (.cons _ _ _ _ _ rfl (L4 aS).1 (L4 aS).2 (.nil _ _ _)) aS rfl (by simp) (by simp;omega) fun _ _=>?_
  (refine Zx ?_;intros)
  have htr:=b96 d (X % y) hd9
  refine j4 hr ⟨d :: j7 (X % y),by simp;omega⟩ (r:=.sl 1 ((j7 (d+10 * (X % y))).map dg)) (by rw [← htr];rfl) (.k (.sl _ _ _ _ _ (by simp;omega) aS) .nil) .nil fun _ _ _ _=>?_
  generalize hR:d+10 * (X % y)=R at *
  (refine Zx ?_;intros)
  have hRl:(j7 R).length < 90000:=by rw [← htr];unfold G0;simp;omega
  have hRy:R < 10 * y:=oM
  refine H2 (fun (c:Nat) vs bs=>∃ (t:j8 Q) (off:Nat) (t':j8 Q) (off':Nat) (v:V) (i:Int) (tq:j8 Q),vs=[.slice t 1 off (j7 x).length .no,.slice t' 1 off' (j7 y).length .no,.bslice 0 (j7 x).length,v,.int .i64 i]∧bs=[.row tq (j7 x).length]∧i=m - 1∧p9 1 ((j7 x).map dg) t off∧p9 1 ((j7 y).map dg) t' off' ∧
   RV (.sl 1 ((j7 (R - c * y)).map dg)) v∧p9 1 ((qs.set (m - 1) c).map dg) tq 0∧c * y≤R) (fun c=>10 - c) 0
   ⟨_,_,_,_,_,_,_,rfl,rfl,rfl,aS,aS,by rw [Nat.zero_mul,Nat.sub_zero];exact .sl _ _ _ _ _ (by simp) aS,by rw [show qs.set (m - 1) 0=qs from e27 (hq0 _ oM)];exact hq,oM⟩ (by simp only [C4];omega) ?_
  rintro self2 c _ _ ⟨t,off,t',off',v,i,tq,rfl,rfl,rfl,ht,ht',hv',hq,hc⟩ ih2
  have hc9:c≤9:=by
   have:c * y < 10 * y:=oM
   have:=Nat.lt_of_mul_lt_mul_right this
   omega
  have hcl:(j7 (R - c * y)).length < 90000:=by have:=R3 (Nat.sub_le R (c * y));omega
  (refine Zx ?_;intros)
  refine j4 ho ⟨(j7 (R - c * y),j7 y),hcl,show (j7 y).length < 90000 by omega,trivial⟩ (r:=.c (.i .i64 (T7 (j7 (R - c * y)) (j7 y)))) rfl l5 .nil fun _ _ _ _=>?_
  have hord:=d7s (R - c * y) y
  generalize T7 (j7 (R - c * y)) (j7 y)=o at *
  (refine Zx ?_;with_reducible repeat' first|intro _|apply aI)
  ·have hge:y≤R - c * y:=by
    by_cases h:R - c * y < y
    ·rw [if_pos h] at hord;omega
    ·omega
   have hmul:(c+1) * y=c * y+y:=by rw [Nat.add_mul,Nat.one_mul]
   have hsub:c1g (j7 (R - c * y)) (j7 y)=j7 (R - (c+1) * y):=by rw [d8s _ _ hge];congr 1;omega
   refine j4 hmi ⟨(j7 (R - c * y),j7 y),hcl,show (j7 y).length < 90000 by omega,E5 _,E5 _⟩ (r:=.sl 1 ((j7 (R - (c+1) * y)).map dg)) (by rw [← hsub];rfl) l5 .nil fun _ _ _ _=>?_
   (refine Zx ?_;intros)
   have hk:((m:Int) - 1).toNat * 1=m - 1:=oM
   rw [hk]
   refine f6k (g:=.i .i64 (c:Int)) hq (by rw [List.getElem?_map,List.getElem?_set_self oM];rfl) fun _ _=>?_
   (refine Zx ?_;intros)
   rw [hk]
   refine b09 hq (fun _=>L4 (.i _ _)) rfl (by simp;omega) oM fun _ hq2=>?_
   rw [d7d (n:=(c:Int)+1) _ _ (c+1) oM,List.set_set] at hq2
   exact ih2 (c+1) _ _ ⟨_,_,_,_,_,_,_,rfl,rfl,rfl,ht,ht',.sl _ _ _ _ _ (by simp) aS,hq2,oM⟩ oM
  ·have hlt:R - c * y < y:=by
    by_cases h:R - c * y < y
    ·exact h
    ·rw [if_neg h] at hord;split at hord <;> omega
   obtain ⟨o1,o2⟩:=d4m R c y hp hc hlt
   obtain ⟨s1,s2⟩:=d7t X d y hp
   have hdv:val ((j7 x).drop (m - 1))=d+10 * X:=hdr
   refine ih (m - 1) _ _ ⟨_,_,_,_,_,_,_,_,rfl,rfl,oM,oM,ht,ht',?_,hq,by simp;omega,e96 hq9 _ hc9,fun j hj=>by rw [b4z oM];exact hq0 j oM,?_⟩ oM
   ·rw [hdv,s2,hR,o2];exact .sl _ _ _ _ _ (by simp) aS
   ·rw [d9y c oM,val,show m - 1+1=m by omega,hqv,hdv,s1,hR,o1]
 ·have em:m=0:=oM
  subst em
  rw [List.drop_zero,List.drop_zero,D8] at hqv
  refine j4 hr ⟨qs,oM⟩ (r:=.sl 1 ((j7 (x / y)).map dg)) (by rw [← hqv,← a6d qs hq9];rfl) (.k (.sl _ _ _ _ _ (by simp;omega) hq) .nil) .nil fun _ _ _ _=>?_
  rw [List.drop_zero,D8] at *
  (refine Zx ?_;intros)
  exact j9 ⟨.ret _ _ (.t _ _ l5),.nil⟩
end
end Go.Proofs.YtdldcfllnohkeaaGreatDoor
