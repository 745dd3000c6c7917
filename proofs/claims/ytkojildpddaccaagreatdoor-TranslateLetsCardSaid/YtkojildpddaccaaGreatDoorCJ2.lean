/- Trees of numbers and strings; how many nodes; parts. -/
import Derived.Test.YtkojildpddaccaaGreatDoorCJ1
import Derived.ChangeArms
import GoSem.ClaimJoined
set_option linter.all false
namespace Go.Proofs.YtkojildpddaccaaGreatDoor
open Go.Abs LQ
set_option maxRecDepth 100000
set_option maxHeartbeats 4000000
noncomputable section
inductive Raw where
 | mk (k n:Int) (s:u4) (l:List Raw)
namespace Raw
def k:Raw→Int
 | mk k _ _ _=>k
def n:Raw→Int
 | mk _ n _ _=>n
def s:Raw→u4
 | mk _ _ s _=>s
def l:Raw→List Raw
 | mk _ _ _ l=>l
mutual
def g:Raw→List G
 | mk k n s l=>[.i .i64 k,.i .i64 n,.s s,.l (gs l)]
def gs:List Raw→List (List G)
 | []=>[]
 | x :: xs=>x.g :: gs xs
end
theorem gs_eq:∀ l:List Raw,gs l=l.map g
 | []=>rfl
 | x :: xs=>by rw [gs,gs_eq xs];rfl
theorem g_eq (r:Raw):r.g=[.i .i64 r.k,.i .i64 r.n,.s r.s,.l (r.l.map g)]:=by
 cases r with | mk k n s l=>rw [g,gs_eq];rfl
theorem g_len (r:Raw):r.g.length=4:=by cases r;rfl
mutual
theorem g_inj:∀ {a b:Raw},a.g=b.g→a=b
 | mk k n s l,mk k' n' s' l',h=>by
  simp only [g,List.cons.injEq,G.i.injEq,G.s.injEq,G.l.injEq] at h
  obtain ⟨⟨_,h1⟩,⟨_,h2⟩,h3,h4,_⟩:=h
  rw [h1,h2,h3,gs_inj h4]
theorem gs_inj:∀ {a b:List Raw},gs a=gs b→a=b
 | [],[],_=>rfl
 | [],_ :: _,h=>by simp [gs] at h
 | _ :: _,[],h=>by simp [gs] at h
 | x :: xs,y :: ys,h=>by
  simp only [gs,List.cons.injEq] at h
  rw [g_inj h.1,gs_inj h.2]
end
theorem map_inj {a b:List Raw} (h:a.map g=b.map g):a=b:=gs_inj (by rw [gs_eq,gs_eq];exact h)
mutual
def nodes:Raw→Nat
 | mk _ _ _ l=>1+nodesL l
def nodesL:List Raw→Nat
 | []=>0
 | x :: xs=>x.nodes+nodesL xs
end
theorem nodes_eq (r:Raw):r.nodes=1+nodesL r.l:=by cases r;rfl
theorem nodes_mem:∀ {l:List Raw} {x:Raw},x ∈ l→x.nodes≤nodesL l
 | y :: l,x,h=>by
  cases h with
  | head=>exact Nat.le_add_right _ _
  | tail _ h=>exact Nat.le_trans (nodes_mem h) (Nat.le_add_left _ _)
mutual
def left:Raw→Int→Int
 | mk _ _ s l,m=>if 12 < s.length∨6 < l.length then -1 else leftL l (m - 1)
def leftL:List Raw→Int→Int
 | [],m=>m
 | x :: xs,m=>if 0≤m then leftL xs (x.left m) else m
end
theorem left_eq (r:Raw) (m:Int):r.left m=if 12 < r.s.length∨6 < r.l.length then -1 else leftL r.l (m - 1):=by cases r;rfl
mutual
theorem left_le:∀ (r:Raw) {m:Int},0≤m→-1≤r.left m∧r.left m≤m
 | mk _ _ s l,m,h=>by
  rw [left]
  split
  ·omega
  ·have:=a9o l (m:=m - 1) oM
   omega
theorem a9o:∀ (l:List Raw) {m:Int},-1≤m→-1≤leftL l m∧leftL l m≤m
 | [],m,h=>by rw [leftL];omega
 | x :: xs,m,h=>by
  rw [leftL]
  split
  ·rename_i h0
   have h1:=left_le x h0
   have h2:=a9o xs (m:=x.left m) h1.1
   omega
  ·omega
end
mutual
def okR:Raw→Prop
 | mk _ _ s l=>s.length≤12∧l.length≤6∧okRL l
def okRL:List Raw→Prop
 | []=>True
 | x :: xs=>x.okR∧okRL xs
end
theorem okR_eq (r:Raw):r.okR↔r.s.length≤12∧r.l.length≤6∧okRL r.l:=by cases r;exact Iff.rfl
theorem okR_mem:∀ {l:List Raw} {x:Raw},okRL l→x ∈ l→x.okR
 | y :: l,x,h,hx=>by
  cases hx with
  | head=>exact h.1
  | tail _ hx=>exact okR_mem h.2 hx
mutual
theorem c7y:∀ (r:Raw) {m:Int},0≤m→0≤r.left m→r.okR∧r.left m+r.nodes=m
 | mk _ _ s l,m,h,k=>by
  rw [left] at k ⊢
  split at k
  ·omega
  ·rename_i hc
   rw [if_neg hc]
   have hm:0≤m - 1:=by have:=a9o l (m:=m - 1) oM;omega
   have:=c4a l hm k
   refine ⟨⟨oM,oM,this.1⟩,?_⟩
   show _+((1+nodesL l:Nat):Int)=m
   omega
theorem c4a:∀ (l:List Raw) {m:Int},0≤m→0≤leftL l m→okRL l∧leftL l m+nodesL l=m
 | [],m,h,k=>by rw [leftL];exact ⟨trivial,by show m+((0:Nat):Int)=m;omega⟩
 | x :: xs,m,h,k=>by
  rw [leftL,if_pos h] at k ⊢
  have h1:0≤x.left m:=by
   have:=a9o xs (m:=x.left m) (left_le x h).1
   omega
  have h2:=c7y x h h1
  have h3:=c4a xs h1 k
  refine ⟨⟨h2.1,h3.1⟩,?_⟩
  show _+((x.nodes+nodesL xs:Nat):Int)=m
  omega
end
def few (r:Raw) (m:Nat):Bool:=decide (0≤r.left m)
theorem few_ok {r:Raw} {m:Nat} (h:r.few m=true):r.okR∧r.nodes≤m:=by
 have:=c7y r (m:=m) oM (of_decide_eq_true h)
 exact ⟨this.1,by have:=of_decide_eq_true h;omega⟩
def zero:Raw:=mk 0 0 [] []
def part (r:Raw) (i:Nat):Raw:=r.l.getD i zero
end Raw
def g5g:Sp where
 ι:={ p:Int × Nat // 0 < p.2∧p.2 < 1000000 }
 A p:=[.c (.i .i64 p.1.1),.c (.i .i64 p.1.2)]
 B _:=[]
 R p:=.ret (.c (.i .i64 (p.1.1 % p.1.2)))
 B' _:=[]
 inj i j vs bs h k _ _:=by
  obtain ⟨_,_,h1,k1,h,k⟩:=h.two k
  obtain ⟨_,_,h2,k2,h,k⟩:=h.two k
  have e1:=(G.i.inj (h1.c_inj k1)).2
  have e2:=(G.i.inj (h2.c_inj k2)).2
  rw [e1,e2];exact ⟨rfl,rfl⟩
theorem e0o:s9 59 g5g:=u2 (fun fn h=>f8u h) [] .nil fun U fn hfn ⟨(n,m),h0,h1⟩ vs bs hv hb=>by
 change t7 [.c (.i .i64 n),.c (.i .i64 m)] vs at hv
 change s5 [] bs at hb
 have h0:0 < m:=h0
 have h1:m < 1000000:=h1
 show s4 U _ fun v bs'=>u0 (.ret (.c (.i .i64 (n % m)))) v∧s5 [] bs'
 have hlt:=Int.tmod_lt_of_pos n (b:=(m:Int)) oM
 have hgt:=Int.lt_tmod_of_pos n (b:=(m:Int)) oM
 have he:n % (m:Int)=if n.tmod m < 0 then n.tmod m+m else n.tmod m:=by
  have k1:=Int.emod_emod_of_dvd n (Int.dvd_refl (m:Int))
  have k2:n.tmod m % m=n % m:=by
   rw [Int.tmod_def,Int.sub_mul_emod_self_left]
  split
  ·rw [← k2,← Int.add_emod_right,Int.emod_eq_of_lt oM oM]
  ·rw [← k2,Int.emod_eq_of_lt oM oM]
 unfold r59
 (refine Zz ?_;intros)
 refine e7j ?_
 (refine Zz ?_;with_reducible repeat' first|intro _|apply aI)
 ·rw [he,if_pos aS]
  exact p9 ⟨.ret _ _ (.i _ _),.nil⟩
 ·rw [he,if_neg aS]
  exact p9 ⟨.ret _ _ (.i _ _),.nil⟩
def d79:Sp where
 ι:={ p:Raw × Int // 0≤p.2∧p.2≤1000 }
 A p:=[.a p.1.1.g,.c (.i .i64 p.1.2)]
 B _:=[]
 R p:=.ret (.c (.i .i64 (p.1.1.left p.1.2)))
 B' _:=[]
 inj i j vs bs h k _ _:=by
  obtain ⟨_,_,h1,k1,h,k⟩:=h.two k
  obtain ⟨_,_,h2,k2,h,k⟩:=h.two k
  have e1:=Raw.g_inj (h1.a_inj k1)
  have e2:=(G.i.inj (h2.c_inj k2)).2
  rw [e1,e2];exact ⟨rfl,rfl⟩
theorem g37:s9 28 d79:=J4 (fun p=>p.1.1.nodes) fun z ih=>u2 (fun fn h=>f7t h) [(28,d79.lt (fun p=>p.1.1.nodes) z)] (.cons ih .nil) fun U fn hfn ⟨⟨(r,m),h0,h1⟩,hz⟩ vs bs hv hb=>by
 have hL:=hfn 28 _ rfl
 change t7 [.a r.g,.c (.i .i64 m)] vs at hv
 change s5 [] bs at hb
 have h0:0≤m:=h0
 have h1:m≤1000:=h1
 have hz:r.nodes < z+1:=hz
 show s4 U _ fun v bs'=>u0 (.ret (.c (.i .i64 (r.left m)))) v∧s5 [] bs'
 rw [Raw.left_eq]
 rw [Raw.nodes_eq] at hz
 rw [Raw.g_eq] at hv
 generalize r.k=rk at *
 generalize r.n=rn at *
 generalize r.s=rs at *
 generalize r.l=rl at *
 unfold r28
 (refine Zz ?_;with_reducible repeat' first|intro _|apply aI)
 ·rw [if_pos (.inl oM)]
  exact p9 ⟨.ret _ _ (.i _ _),.nil⟩
 refine E5 aS (v6 Raw.g_len) fun _ _ _=>?_
 (refine Zz ?_;with_reducible repeat' first|intro _|apply aI)
 ·rw [if_pos (.inr oM)]
  exact p9 ⟨.ret _ _ (.i _ _),.nil⟩
 rw [if_neg oM]
 refine F9 (fun (i:Nat) vs bs=>∃ (m':Int) (q:Q),vs=[.int .i64 m',.ptr 0 0,.int .i64 i]∧bs=[.opa q 4]∧u3 [.i .i64 rk,.i .i64 rn,.s rs,.l (rl.map Raw.g)] q 0∧i≤rl.length∧Raw.leftL (rl.drop i) m'=Raw.leftL rl (m - 1)∧-1≤m'∧m'≤1000) (fun i=>rl.length - i) 0
  ⟨_,_,rfl,rfl,aS,oM,rfl,oM,oM⟩ (by simp only [C9];omega) ?_
 rintro self i _ _ ⟨m',q,rfl,rfl,hq,hi,he,hm1,hm2⟩ ih
 (refine Zz ?_;intros)
 refine E5 aS (v6 Raw.g_len) fun _ _ _=>?_
 (refine Zz ?_;with_reducible repeat' first|intro _|apply aI)
 ·refine E5 aS (v6 Raw.g_len) fun _ _ _=>?_
  (refine Zz ?_;intros)
  have hiw:i < rl.length:=oM
  have hnd:=Raw.nodes_mem (List.getElem_mem hiw)
  have hlb:=Raw.left_le rl[i] (m:=m') aS
  rw [List.drop_eq_getElem_cons hiw,Raw.leftL,if_pos aS] at he
  refine o7 hL ⟨⟨(rl[i],m'),aS,hm2⟩,show rl[i].nodes < z by omega⟩ (r:=.c (.i .i64 (rl[i].left m'))) rfl (.k (.a _ _ _ (Raw.g_len _).symm aS) (.k (.i _ _) .nil)) .nil fun _ _ _ _=>?_
  (refine Zz ?_;intros)
  exact ih (i+1) _ _ ⟨_,_,rfl,rfl,hq,oM,he,oM,oM⟩ oM
 ·rw [List.drop_eq_getElem_cons (by omega:i < rl.length),Raw.leftL,if_neg aS] at he
  rw [← he]
  exact p9 ⟨.ret _ _ (.i _ _),.nil⟩
 ·rw [List.drop_of_length_le oM,Raw.leftL] at he
  rw [← he]
  exact p9 ⟨.ret _ _ (.i _ _),.nil⟩
def e7r (g:Raw→Nat→GV):Sp where
 ι:={ p:Raw × Nat // p.2≤1000 }
 A p:=[.a p.1.1.g,.c (.i .i64 p.1.2)]
 B _:=[]
 R p:=.ret (g p.1.1 p.1.2)
 B' _:=[]
 inj i j vs bs h k _ _:=by
  obtain ⟨_,_,h1,k1,h,k⟩:=h.two k
  obtain ⟨_,_,h2,k2,h,k⟩:=h.two k
  have e1:=Raw.g_inj (h1.a_inj k1)
  have e2:=(G.i.inj (h2.c_inj k2)).2
  have e2:i.1.2=j.1.2:=oM
  rw [e1,e2];exact ⟨rfl,rfl⟩
theorem f6c:s9 6 (e7r fun r m=>.c (.b (r.few m))):=u2 (fun fn h=>g4w h) [(28,_)] (.cons g37 .nil) fun U fn hfn ⟨(r,m),h1⟩ vs bs hv hb=>by
 have hL:=hfn 28 _ rfl
 change t7 [.a r.g,.c (.i .i64 m)] vs at hv
 change s5 [] bs at hb
 have h1:m≤1000:=h1
 show s4 U _ fun v bs'=>u0 (.ret (.c (.b (r.few m)))) v∧s5 [] bs'
 unfold r6
 (refine Zz ?_;intros)
 refine C4 aS (Raw.g_len _) fun _ _=>?_
 (refine Zz ?_;intros)
 refine o7 hL ⟨(r,m),show (0:Int)≤m by omega,show (m:Int)≤1000 by omega⟩ (r:=.c (.i .i64 (r.left m))) rfl (.k (.a _ _ _ (Raw.g_len _).symm aS) (.k (.i _ _) .nil)) .nil fun _ _ _ _=>?_
 (refine Zz ?_;intros)
 refine E9 fun e=>?_
 subst e
 exact ⟨.ret _ _ (N7 (by rw [c2l];rfl)),.nil⟩
def Y7 (l:List Raw) (m:Nat):Bool:=decide (l.length≤8) && l.all fun r=>r.few m
def e36:Sp where
 ι:={ p:List Raw × Nat // p.2≤1000 }
 A p:=[.sl 4 (p.1.1.map Raw.g),.c (.i .i64 p.1.2)]
 B _:=[]
 R p:=.ret (.c (.b (Y7 p.1.1 p.1.2)))
 B' _:=[]
 inj i j vs bs h k _ _:=by
  obtain ⟨_,_,h1,k1,h,k⟩:=h.two k
  obtain ⟨_,_,h2,k2,h,k⟩:=h.two k
  have e1:=Raw.map_inj (h1.sl_inj k1)
  have e2:=(G.i.inj (h2.c_inj k2)).2
  have e2:i.1.2=j.1.2:=oM
  rw [e1,e2];exact ⟨rfl,rfl⟩
theorem e9a:s9 7 e36:=u2 (fun fn h=>g4x h) [(6,_)] (.cons f6c .nil) fun U fn hfn ⟨(l,m),h1⟩ vs bs hv hb=>by
 have hF:=hfn 6 _ rfl
 change t7 [.sl 4 (l.map Raw.g),.c (.i .i64 m)] vs at hv
 change s5 [] bs at hb
 have h1:m≤1000:=h1
 show s4 U _ fun v bs'=>u0 (.ret (.c (.b (Y7 l m)))) v∧s5 [] bs'
 unfold r7
 (refine Zz ?_;with_reducible repeat' first|intro _|apply aI)
 ·exact p9 ⟨.ret _ _ (H8 (by unfold Y7;rw [decide_eq_false oM];rfl)),.nil⟩
 have e0:Y7 l m=l.all fun r=>r.few m:=by unfold Y7;rw [decide_eq_true oM];rfl
 rw [e0]
 refine F9 (fun (i:Nat) vs bs=>∃ (t:s6 Q) (off:Nat),vs=[.slice t 4 off l.length .no,.int .i64 m,.int .i64 i]∧bs=[]∧u6 4 (l.map Raw.g) t off∧i≤l.length∧((l.drop i).all fun r=>r.few m)=(l.all fun r=>r.few m)) (fun i=>l.length - i) 0
  ⟨_,_,rfl,rfl,aS,oM,rfl⟩ (by simp only [C9];omega) ?_
 rintro self i _ _ ⟨t,off,rfl,rfl,ht,hi,he⟩ ih
 (refine Zz ?_;with_reducible repeat' first|intro _|apply aI)
 ·have hiw:i < l.length:=oM
  rw [List.drop_eq_getElem_cons hiw,List.all_cons] at he
  cases hb2:l[i].few m with
  | true =>
   refine o7 hF ⟨(l[i],m),h1⟩ (r:=.c (.b true)) (by show u9.ret (.c (.b (l[i].few m)))=_;rw [hb2]) (.k (.a _ _ _ (Raw.g_len _).symm aS) (.k (.i _ _) .nil)) .nil fun _ _ _ _=>?_
   (refine Zz ?_;intros)
   rw [hb2,Bool.true_and] at he
   exact ih (i+1) _ _ ⟨_,_,by simp,rfl,ht,oM,he⟩ oM
  | false =>
   refine o7 hF ⟨(l[i],m),h1⟩ (r:=.c (.b false)) (by show u9.ret (.c (.b (l[i].few m)))=_;rw [hb2]) (.k (.a _ _ _ (Raw.g_len _).symm aS) (.k (.i _ _) .nil)) .nil fun _ _ _ _=>?_
   (refine Zz ?_;intros)
   rw [hb2,Bool.false_and] at he
   rw [← he]
   exact p9 ⟨.ret _ _ (.kn _),.nil⟩
 ·rw [List.drop_of_length_le oM] at he
  rw [← he]
  exact p9 ⟨.ret _ _ (.kn _),.nil⟩
theorem e5z:s9 61 (e7r fun r i=>.a (r.part i).g):=u2 (fun fn h=>f8w h) [] .nil fun U fn hfn ⟨(r,i),h1⟩ vs bs hv hb=>by
 change t7 [.a r.g,.c (.i .i64 i)] vs at hv
 change s5 [] bs at hb
 have h1:i≤1000:=h1
 show s4 U _ fun v bs'=>u0 (.ret (.a (r.part i).g)) v∧s5 [] bs'
 unfold r61
 unfold Raw.part
 rw [Raw.g_eq] at hv
 generalize r.k=rk at *
 generalize r.n=rn at *
 generalize r.s=rs at *
 generalize r.l=rl at *
 (refine Zz ?_;intros)
 refine E5 aS (v6 Raw.g_len) fun _ _ _=>?_
 (refine Zz ?_;with_reducible repeat' first|intro _|apply aI)
 ·refine E5 aS (v6 Raw.g_len) fun _ _ _=>?_
  (refine Zz ?_;intros)
  rw [show rl.getD i Raw.zero=rl[i]'oM by simp [List.getD,List.getElem?_eq_getElem (by omega:i < rl.length)]]
  exact p9 ⟨.ret _ _ (.a _ _ _ (Raw.g_len _).symm aS),.nil⟩
 ·rw [show rl.getD i Raw.zero=Raw.zero by simp [List.getD,List.getElem?_eq_none (by omega:rl.length≤i)]]
  exact p9 ⟨.ret _ _ (.ag _ _ (by (exact Zru))),.nil⟩
def H9:u4:=o8 4 1919251317
theorem e53:s9 32 (c1z fun s=>.a (sg (H9,s))):=u2 (fun fn h=>d6i h) [] .nil fun U fn hfn s vs bs hv hb=>by
 change t7 [.c (.s s)] vs at hv
 change s5 [] bs at hb
 show s4 U _ fun v bs'=>u0 (.ret (.a (sg (H9,s)))) v∧s5 [] bs'
 unfold r32
 (refine Zz ?_;intros)
 exact p9 ⟨.ret _ _ (.ag _ _ (by (exact Zru))),.nil⟩
def b18 (f:Nat→Q):Nat→Nat→Nat→s6 Q
 | 0,_,_=>.nil
 | d+1,a,b=>.node (f a) (b18 f d (a+b) (2 * b)) (b18 f d (a+2 * b) (2 * b))
theorem b5d (f:Nat→Q):∀ (d a b i:Nat),i+2≤2 ^ d→(b18 f d a b).get i=some (f (a+b * i))
 | 0,_,_,i,h=>by simp at h
 | d+1,a,b,0,h=>by rw [b18,s6.get_zero,Nat.mul_zero,Nat.add_zero]
 | d+1,a,b,j+1,h=>by
  rw [Nat.pow_succ] at h
  have hj:j / 2+2≤2 ^ d:=oM
  rw [b18,s6.get_succ]
  rcases Nat.mod_two_eq_zero_or_one j with h0 | h0
  ·obtain ⟨m,rfl⟩:∃ m,j=2 * m:=⟨j / 2,oM⟩
   rw [h0]
   show (b18 f d (a+b) (2 * b)).get (2 * m / 2)=_
   rw [b5d f d _ _ _ hj,show 2 * m / 2=m by omega]
   congr 2
   rw [Nat.mul_add,Nat.mul_one,← Nat.mul_assoc,Nat.mul_comm b 2]
   omega
  ·obtain ⟨m,rfl⟩:∃ m,j=2 * m+1:=⟨j / 2,oM⟩
   rw [h0]
   show (b18 f d (a+2 * b) (2 * b)).get ((2 * m+1) / 2)=_
   rw [b5d f d _ _ _ hj,show (2 * m+1) / 2=m by omega]
   congr 2
   rw [show 2 * m+1+1=2 * m+2 by omega,Nat.mul_add,← Nat.mul_assoc,Nat.mul_comm b 2]
   omega
def a5v (A8:List (List Q)):s6 Q:=b18 (fun i=>.agg (A8.getD i []) 0) 48 0 1
theorem c5q {A8:List (List Q)} {i:Nat} (h:i < 140737488355328):(a5v A8).get i=some (.agg (A8.getD i []) 0):=by
 unfold a5v
 rw [b5d _ 48 0 1 i oM,Nat.zero_add,Nat.one_mul]
theorem f3l {A8:List (List Q)} {i:Nat} (h:i < 140737488355328):tQ (a5v A8) i=.agg (A8.getD i []) 0:=by
 unfold tQ
 rw [c5q h]
mutual
/-- A tree's cells. -/
def qc:Raw→List Q
 | .mk k n s l=>[.int .i64 k,.int .i64 n,.str s.length (C6 s),.slice (a5v (qs l)) 4 0 l.length]
def qs:List Raw→List (List Q)
 | []=>[]
 | x :: xs=>qc x :: qs xs
end
theorem d11:∀ l:List Raw,qs l=l.map qc
 | []=>rfl
 | x :: xs=>by rw [qs,d11 xs];rfl
theorem f7e (r:Raw):(qc r).length=4:=by cases r;rfl
mutual
/-- No list is longer than memory. -/
def b2b:Raw→Prop
 | .mk _ _ _ l=>l.length < 140737488355328∧b0f l
def b0f:List Raw→Prop
 | []=>True
 | x :: xs=>b2b x∧b0f xs
end
theorem c01:∀ {l:List Raw},b0f l↔∀ x ∈ l,b2b x
 | []=>⟨fun _ x h=>absurd h (by simp),fun _=>trivial⟩
 | y :: l=>by
  show b2b y∧b0f l↔_
  rw [c01]
  simp
theorem d7j {l:List Raw} (h:l.length < 140737488355328) (hx:∀ x ∈ l,a00 x.g (qc x)):u6 4 (l.map Raw.g) (a5v (qs l)) 0:=.of fun j r e=>by
 rw [List.getElem?_map] at e
 cases hj:l[j]? with
 | none=>rw [hj] at e;cases e
 | some x =>
  rw [hj] at e
  injection e with e
  subst e
  have hlt:j < l.length:=(List.getElem?_eq_some_iff.1 hj).1
  have hx2:=hx x (List.mem_of_getElem? hj)
  refine ⟨x.g_len,?_⟩
  rw [Nat.zero_add,f3l oM,d11]
  rw [show (l.map qc).getD j []=qc x by simp [List.getD,hj]]
  exact Q9 (by rw [Raw.g_len];decide) hx2.cel
theorem g3t {g0 g1 g2 g3:G} {q0 q1 q2 q3:Q} (h0:RG g0 q0) (h1:RG g1 q1) (h2:RG g2 q2) (h3:RG g3 q3):a00 [g0,g1,g2,g3] [q0,q1,q2,q3]:=by
 repeat' first | assumption | constructor
mutual
theorem e58:∀ {r:Raw},b2b r→a00 r.g (qc r)
 | .mk k n s l,h=>by
  have hr:=d7j h.1 (d12 h.2)
  rw [← Raw.gs_eq] at hr
  exact g3t (.i _ _) (.i _ _) (.s _ _ _ rfl rfl) (.l _ _ _ _ _ (by rw [Raw.gs_eq,List.length_map]) hr)
theorem d12:∀ {l:List Raw},b0f l→∀ x ∈ l,a00 x.g (qc x)
 | [],_,x,h=>absurd h (by simp)
 | y :: l,h,x,hx=>by
  cases hx with
  | head=>exact e58 h.1
  | tail _ hx=>exact d12 h.2 x hx
end
def dc (r:Raw):List D:=(qc r).map fun q=>den q 0
theorem c26 {cs:List Q}:∀ {n i:Nat},i+n=cs.length→A6 (den (.agg cs 0)) i n=(cs.drop i).map fun q=>den q 0
 | 0,i,h=>by rw [List.drop_of_length_le oM];rfl
 | n+1,i,h=>by
  have hi:i < cs.length:=oM
  rw [A6,c26 oM,List.drop_eq_getElem_cons hi,List.map_cons]
  congr 1
  simp only [den]
  rw [Nat.zero_add,b7x,List.getElem?_eq_getElem hi]
  rfl
theorem e5k (r:Raw):A6 (den (.agg (qc r) 0)) 0 4=dc r:=by
 rw [c26 (by rw [f7e])]
 rfl
theorem d7g {l:List Raw} {k m:Nat} (h:k+(m+1)=l.length) (hl:l.length < 140737488355328):A8 (C3 (a5v (qs l))) 4 k (m+1)=dc (l[k]'oM) ++ A8 (C3 (a5v (qs l))) 4 (k+1) m:=by
 have hk:k < l.length:=oM
 rw [A8,W5,c5q oM,d11,show (l.map qc).getD k []=qc l[k] by simp [List.getD,List.getElem?_eq_getElem hk]]
 show A6 (den (.agg (qc l[k]) 0)) 0 4 ++ _=_
 rw [e5k]
variable {H:Type} {enc:TypeId × Value→H} {w:World} {sp:Nat→Bool} {held:Bool}
def a7b (w:World):A4:=fun b _=>b < w.heap.size
def okW (t:TypeId) (d:DataW H):Prop:=(d.weights Tryz.prog t).all (·≤reachBytes)=true
theorem c2f:Tryz.prog.cellsOf 24=4:=kR
theorem d9m:Tryz.prog.bytesOf 24=56:=kR
theorem c2e:Tryz.prog.cellsOf 3=1:=kR
theorem d9q:Tryz.prog.cellsOf 9=1:=kR
theorem e8p:Tryz.prog.cellsOf 22=1:=kR
theorem b6a {a:Addr} {cs:List Value} (h:w.cells? 0 a 4=some cs):∃ c0 c1 c2 c3,cs=[c0,c1,c2,c3]∧w.cell? a=some c0∧w.cell? (a.add 1)=some c1∧w.cell? (a.add 2)=some c2∧w.cell? (a.add 3)=some c3:=by
 unfold World.cells? at h
 rw [if_pos (Nat.zero_le _),show List.range 4=[0,1,2,3] from rfl] at h
 simp only [List.mapM_cons,List.mapM_nil,Option.bind_eq_bind,Option.bind_eq_some_iff,Option.pure_def,Option.some.injEq] at h
 obtain ⟨c0,h0,l0,⟨c1,h1,l1,⟨c2,h2,l2,⟨c3,h3,l3,rfl,rfl⟩,rfl⟩,rfl⟩,rfl⟩:=h
 exact ⟨c0,c1,c2,c3,rfl,h0,h1,h2,h3⟩
theorem e8o {a:Addr} {v:Value} (h:w.cell? a=some v):a.block < w.heap.size:=by
 unfold World.cell? at h
 cases e:w.heap[a.block]? with
 | none=>rw [e] at h;cases h
 | some o=>exact (Array.getElem?_eq_some_iff.1 e).1
theorem d39 {a:Addr} {v:Value} (h:w.cell? a=some v):a.spot=none:=by
 unfold World.cell? at h
 split at h
 ·split at h
  ·cases h
  ·rename_i hs
   cases e:a.spot with
   | none=>rfl
   | some x=>rw [e] at hs;exact absurd rfl hs
 ·cases h
theorem c16 {b o n:Nat}:(⟨b,o,none⟩:Addr).add n=⟨b,o+n,none⟩:=by
 unfold Addr.add
 split
 ·rename_i h;rw [h];rfl
 ·rfl
def L6 (w:World) (b:Nat):Nat→Nat→List Value
 | _,0=>[]
 | o,n+1=>(w.cell? ⟨b,o,none⟩).getD .nilIface :: L6 w b (o+1) n
theorem b5k {b:Nat}:∀ {n o i:Nat} {v:Value},(L6 w b o n)[i]?=some v→i < n∧v=(w.cell? ⟨b,o+i,none⟩).getD .nilIface
 | 0,o,i,v,h=>by simp [L6] at h
 | n+1,o,0,v,h=>by
  simp only [L6,List.getElem?_cons_zero,Option.some.injEq] at h
  exact ⟨oM,h.symm⟩
 | n+1,o,i+1,v,h=>by
  simp only [L6,List.getElem?_cons_succ] at h
  have:=b5k h
  exact ⟨oM,by rw [this.2];congr 3;omega⟩
theorem a80 {t:TypeId}:∀ {l:List (DataW H)},(DataW.weightsAll Tryz.prog t l).all (·≤reachBytes)=true→∀ d ∈ l,okW t d
 | [],_,d,hd=>absurd hd (by simp)
 | x :: l,h,d,hd=>by
  rw [DataW.weightsAll,List.all_append,Bool.and_eq_true] at h
  cases hd with
  | head=>exact h.1
  | tail _ hd=>exact a80 h.2 d hd
theorem c6e {P:Nat→Raw→Prop} {n:Nat} (h:∀ i,i < n→∃ r,P i r):∃ l:List Raw,∃ hl:l.length=n,∀ i (hi:i < n),P i (l[i]'oM):=by
 induction n with
 | zero=>exact ⟨[],rfl,fun i hi=>absurd hi (Nat.not_lt_zero _)⟩
 | succ n ih =>
  obtain ⟨l,hl,k⟩:=ih fun i hi=>h i oM
  obtain ⟨r,hr⟩:=h n oM
  refine ⟨l ++ [r],by simp [hl],fun i hi=>?_⟩
  by_cases hin:i < n
  ·rw [List.getElem_append_left oM];exact k i hin
  ·have:i=n:=oM
   subst this
   rw [List.getElem_append_right oM]
   simpa [hl] using hr
theorem e7l {n:Nat} (IH:∀ cs x,DataW.trod enc Tryz.prog w 0 sp held n 24 cs=some x→okW 24 x.1→∃ r,b2b r∧C2 (a7b w) L4 w cs (dc r)) {cs:List Value} {x:DataW H × List MemPlace}
  (h:DataW.trod enc Tryz.prog w 0 sp held (n+1) 22 cs=some x) (hw:okW 22 x.1) :
  ∃ v l,cs=[v]∧l.length < 140737488355328∧b0f l∧Rd (a7b w) L4 w v (.slice l.length (A8 (C3 (a5v (qs l))) 4 0 l.length) .no):=by
 rcases DataW.trod_slice Tryz.underlying22 h with ⟨rfl,hx⟩ | ⟨a,len,cap,elems,rest,n',e1,rfl,hx,_,hlc,hcap,hel,hget,_,_⟩
 ·exact ⟨_,[],rfl,dE,trivial,.slice none 0 0 [] [] .no (.inl rfl) .nil trivial (Nat.le_refl _) (fun _=>rfl)⟩
 ·have e1:n'=n:=oM
  subst e1
  rw [hx] at hw
  unfold okW at hw
  simp only [DataW.weights,Tryz.underlying22,d9m,List.all_cons,List.all_append,Bool.and_eq_true,decide_eq_true_eq,List.length_map] at hw
  obtain ⟨hw1,hw2,_⟩:=hw
  have hlen:len < 140737488355328:=by
   have:reachBytes=140737488351232:=rfl
   omega
  have key:∀ i,i < len→∃ r,b2b r∧∃ cs,w.cells? 0 (a.add (i * 4)) 4=some cs∧C2 (a7b w) L4 w cs (dc r):=fun i hi=>by
   have hg:=hget i hi
   rw [List.getElem?_eq_getElem oM,c2f,Option.bind_eq_some_iff] at hg
   obtain ⟨cs,h1,h2⟩:=hg
   obtain ⟨r,h3,h4⟩:=IH cs _ h2 (a80 hw2 _ (List.mem_map_of_mem (List.getElem_mem _)))
   exact ⟨r,h3,cs,h1,h4⟩
  obtain ⟨l,hl,hP⟩:=c6e key
  have hwl:b0f l:=c01.2 fun x hx=>by
   obtain ⟨i,hi,rfl⟩:=List.getElem_of_mem hx
   exact (hP i oM).1
  by_cases h0:len=0
  ·have:l=[]:=List.eq_nil_of_length_eq_zero oM
   subst this
   subst h0
   exact ⟨_,[],rfl,dE,trivial,.slice (some a) 0 cap [] [] .no (.inl rfl) .nil trivial hlc (fun h=>by cases h)⟩
  ·have ha:a=⟨a.block,a.off,none⟩:=by
    obtain ⟨_,cs,h1,_⟩:=hP 0 oM
    obtain ⟨c0,_,_,_,_,h2,_⟩:=b6a h1
    have hs:=d39 h2
    rw [Nat.zero_mul] at hs
    have e:a.add 0=a:=if_pos rfl
    rw [e] at hs
    cases a
    simp only at hs
    rw [hs]
   generalize a.block=b at ha
   generalize a.off=o at ha
   subst ha
   have hblk:∀ i,i < len→∃ c0 c1 c2 c3,w.cell? ⟨b,o+4 * i,none⟩=some c0∧w.cell? ⟨b,o+4 * i+1,none⟩=some c1∧w.cell? ⟨b,o+4 * i+2,none⟩=some c2∧w.cell? ⟨b,o+4 * i+3,none⟩=some c3∧∀ hi:i < l.length,C2 (a7b w) L4 w [c0,c1,c2,c3] (dc l[i]):=fun i hi=>by
    obtain ⟨_,cs,h1,h2⟩:=hP i hi
    obtain ⟨c0,c1,c2,c3,rfl,k0,k1,k2,k3⟩:=b6a h1
    rw [c16,Nat.mul_comm] at k0 k1 k2 k3
    rw [c16] at k1 k2 k3
    exact ⟨c0,c1,c2,c3,k0,k1,k2,k3,fun _=>h2⟩
   have hrds:∀ m k,k+m=len→C2 (a7b w) L4 w (L6 w b (o+4 * k) (4 * m)) (A8 (C3 (a5v (qs l))) 4 k m):=by
    intro m
    induction m with
    | zero=>intro k _;exact .nil
    | succ m ih =>
     intro k hk
     obtain ⟨c0,c1,c2,c3,k0,k1,k2,k3,kr⟩:=hblk k oM
     have h2:=ih (k+1) oM
     rw [d7g oM oM]
     have e:L6 w b (o+4 * k) (4 * (m+1))=[c0,c1,c2,c3] ++ L6 w b (o+4 * (k+1)) (4 * m):=by
      rw [show 4 * (m+1)=4 * m+1+1+1+1 by omega]
      simp only [L6]
      rw [k0,k1,show o+4 * k+1+1=o+4 * k+2 by omega,k2,show o+4 * k+2+1=o+4 * k+3 by omega,k3,show o+4 * k+3+1=o+4 * (k+1) by omega]
      rfl
     rw [e]
     exact (kr oM).append h2
   refine ⟨_,l,rfl,oM,hwl,?_⟩
   have h3:=hrds len 0 oM
   rw [hl]
   refine .slice (some ⟨b,o,none⟩) len cap _ _ .no (.inr ⟨b,o,rfl,fun i v hi=>?_⟩) h3 trivial hlc (fun h=>by cases h)
   obtain ⟨hi4,hv⟩:=b5k hi
   rw [Nat.mul_zero,Nat.add_zero] at hv
   obtain ⟨c0,c1,c2,c3,k0,k1,k2,k3,_⟩:=hblk (i / 4) oM
   have hc:w.cell? ⟨b,o+i,none⟩=some v:=by
    have:i % 4=0∨i % 4=1∨i % 4=2∨i % 4=3:=oM
    rcases this with e | e | e | e
    ·rw [show o+i=o+4 * (i / 4) by omega] at hv ⊢;rw [k0] at hv ⊢;rw [hv];rfl
    ·rw [show o+i=o+4 * (i / 4)+1 by omega] at hv ⊢;rw [k1] at hv ⊢;rw [hv];rfl
    ·rw [show o+i=o+4 * (i / 4)+2 by omega] at hv ⊢;rw [k2] at hv ⊢;rw [hv];rfl
    ·rw [show o+i=o+4 * (i / 4)+3 by omega] at hv ⊢;rw [k3] at hv ⊢;rw [hv];rfl
   exact ⟨e8o hc,hc⟩
theorem d7e:∀ (n:Nat) (cs:List Value) (x:DataW H × List MemPlace),DataW.trod enc Tryz.prog w 0 sp held n 24 cs=some x→okW 24 x.1→∃ r,b2b r∧C2 (a7b w) L4 w cs (dc r):=by
 intro n
 induction n using Nat.strongRecOn with
 | _ n ih =>
 intro cs x h hw
 obtain ⟨xs,m,rfl,hx,hlen,hxl,hf⟩:=DataW.trod_struct Tryz.underlying24 h
 rw [c2f] at hlen
 obtain ⟨c0,c1,c2,c3,rfl⟩:∃ c0 c1 c2 c3,cs=[c0,c1,c2,c3]:=by
  match cs,hlen with
  | [c0,c1,c2,c3],_=>exact ⟨c0,c1,c2,c3,rfl⟩
 obtain ⟨x0,x1,x2,x3,rfl⟩:∃ x0 x1 x2 x3,xs=[x0,x1,x2,x3]:=by
  match xs,hxl with
  | [x0,x1,x2,x3],_=>exact ⟨x0,x1,x2,x3,rfl⟩
 have f0:DataW.trod enc Tryz.prog w 0 sp held m 3 (([c0,c1,c2,c3].drop 0).take (Tryz.prog.cellsOf 3))=some x0:=hf 0 _ rfl
 rw [c2e] at f0
 change DataW.trod enc Tryz.prog w 0 sp held m 3 [c0]=some x0 at f0
 have f1:DataW.trod enc Tryz.prog w 0 sp held m 3 (([c0,c1,c2,c3].drop 1).take (Tryz.prog.cellsOf 3))=some x1:=hf 1 _ rfl
 rw [c2e] at f1
 change DataW.trod enc Tryz.prog w 0 sp held m 3 [c1]=some x1 at f1
 have f2:DataW.trod enc Tryz.prog w 0 sp held m 9 (([c0,c1,c2,c3].drop 2).take (Tryz.prog.cellsOf 9))=some x2:=hf 2 _ rfl
 rw [d9q] at f2
 change DataW.trod enc Tryz.prog w 0 sp held m 9 [c2]=some x2 at f2
 have f3:DataW.trod enc Tryz.prog w 0 sp held m 22 (([c0,c1,c2,c3].drop 3).take (Tryz.prog.cellsOf 22))=some x3:=hf 3 _ rfl
 rw [e8p] at f3
 change DataW.trod enc Tryz.prog w 0 sp held m 22 [c3]=some x3 at f3
 obtain ⟨k,e0,_,_⟩:=DataW.trod_int Tryz.underlying3 f0
 obtain ⟨nn,e1,_,_⟩:=DataW.trod_int Tryz.underlying3 f1
 obtain ⟨s,e2,_,_⟩:=DataW.trod_string Tryz.underlying9 f2
 injection e0 with e0
 injection e1 with e1
 injection e2 with e2
 subst e0 e1 e2
 rw [hx] at hw
 unfold okW at hw
 simp only [DataW.weights,Tryz.underlying24,List.map_cons,List.map_nil,DataW.weightsEach,List.all_append,Bool.and_eq_true] at hw
 obtain ⟨_,_,_,hw3,_⟩:=hw
 cases m with
 | zero=>simp [DataW.trod] at f3
 | succ m =>
  obtain ⟨v,l,e3,hl,hwl,hr⟩:=e7l (n:=m) (fun cs x h1 h2=>ih m oM cs x h1 h2) f3 hw3
  injection e3 with e3
  subst e3
  refine ⟨.mk k nn s.data.toList l,⟨hl,hwl⟩,?_⟩
  refine .k (.int _ _) (.k (.int _ _) (.k (.str _ _ ?_) (.k ?_ .nil)))
  ·exact (E8 _).symm
  ·exact hr
inductive T where
 | v (s:Sy)
 | c (o:O)
 | call (f:Sy) (args:List T)
mutual
def T.g:T→List G
 | .v s=>[.i .i64 1,.s s.1,.s s.2,.i .i64 0,.s [],.s [],.s [],.s [],.s [],.l [],.l []]
 | .c o=>[.i .i64 2,.s [],.s [],.i .i64 o.k,.s o.nu,.s o.de,.s o.sym.1,.s o.sym.2,.s o.txt,.l (o.ps.map O.g),.l []]
 | .call f args=>[.i .i64 3,.s f.1,.s f.2,.i .i64 0,.s [],.s [],.s [],.s [],.s [],.l [],.l (T.gs args)]
def T.gs:List T→List (List G)
 | []=>[]
 | t :: ts=>t.g :: T.gs ts
end
theorem T.gs_eq:∀ l:List T,T.gs l=l.map T.g
 | []=>rfl
 | t :: ts=>by rw [T.gs,T.gs_eq ts];rfl
theorem T.g_len (t:T):t.g.length=11:=by cases t <;> rfl
mutual
theorem T.g_inj:∀ {a b:T},a.g=b.g→a=b
 | .v s,b,h=>by
  cases b with
  | v r =>
   simp only [T.g,List.cons.injEq,G.s.injEq] at h
   exact congrArg T.v (Prod.ext h.2.1 h.2.2.1)
  | c o=>simp only [T.g,List.cons.injEq,G.i.injEq] at h;exact absurd h.1.2 dE
  | call f l=>simp only [T.g,List.cons.injEq,G.i.injEq] at h;exact absurd h.1.2 dE
 | .c o,b,h=>by
  cases b with
  | v r=>simp only [T.g,List.cons.injEq,G.i.injEq] at h;exact absurd h.1.2 dE
  | c p =>
   refine congrArg T.c (O.g_inj ?_)
   rw [o.g_eq,p.g_eq]
   simp only [T.g,List.cons.injEq] at h ⊢
   obtain ⟨_,_,_,h1,h2,h3,h4,h5,h6,h7,_⟩:=h
   exact ⟨h1,h2,h3,h4,h5,h6,h7,trivial⟩
  | call f l=>simp only [T.g,List.cons.injEq,G.i.injEq] at h;exact absurd h.1.2 dE
 | .call f l,b,h=>by
  cases b with
  | v r=>simp only [T.g,List.cons.injEq,G.i.injEq] at h;exact absurd h.1.2 dE
  | c p=>simp only [T.g,List.cons.injEq,G.i.injEq] at h;exact absurd h.1.2 dE
  | call f' l' =>
   simp only [T.g,List.cons.injEq,G.s.injEq,G.l.injEq] at h
   obtain ⟨_,h1,h2,_,_,_,_,_,_,_,h3,_⟩:=h
   rw [T.gs_inj h3,show f=f' from Prod.ext h1 h2]
theorem T.gs_inj:∀ {a b:List T},T.gs a=T.gs b→a=b
 | [],b,h=>by
  cases b with
  | nil=>rfl
  | cons x y=>simp [T.gs] at h
 | t :: ts,b,h=>by
  cases b with
  | nil=>simp [T.gs] at h
  | cons x y =>
   simp only [T.gs,List.cons.injEq] at h
   rw [T.g_inj h.1,T.gs_inj h.2]
end
theorem f59:s9 24 (spO fun a=>.a (T.c a).g):=u2 (fun fn h=>d6e h) [] .nil fun U fn hfn a vs bs hv hb=>by
 have hv:t7 [.a a.g] vs:=hv
 have hb:s5 [] bs:=hb
 show s4 U _ fun v bs'=>u0 (.ret (.a (T.c a).g)) v∧s5 [] bs'
 unfold r24
 rw [a.g_eq] at hv
 (refine Zz ?_;intros)
 exact E9 fun e=>by subst e;exact ⟨.ret _ _ (by (exact Zru)),.nil⟩
def e7n:Sp where
 ι:=Sy × List T
 A p:=[.a (sg p.1),.sl 11 (p.2.map T.g)]
 B _:=[]
 R p:=.ret (.a (T.call p.1 p.2).g)
 B' _:=[]
 inj i j vs bs h k _ _:=by
  obtain ⟨_,_,h1,k1,h,k⟩:=h.two k
  obtain ⟨_,_,h2,k2,h,k⟩:=h.two k
  have e1:=W3 (h1.a_inj k1)
  have e2:=h2.sl_inj k2
  rw [← T.gs_eq,← T.gs_eq] at e2
  have e3:=T.gs_inj e2
  rw [e1,e3];exact ⟨rfl,rfl⟩
theorem g8o:s9 39 e7n:=u2 (fun fn h=>d6k h) [] .nil fun U fn hfn ⟨f,l⟩ vs bs hv hb=>by
 have hv:t7 [.a [.s f.1,.s f.2],.sl 11 (l.map T.g)] vs:=hv
 have hb:s5 [] bs:=hb
 show s4 U _ fun v bs'=>u0 (.ret (.a (T.call f l).g)) v∧s5 [] bs'
 unfold r39
 (refine Zz ?_;intros)
 refine E9 fun e=>?_
 subst e
 refine ⟨.ret _ _ (.ag _ _ ?_),.nil⟩
 simp only [T.g,T.gs_eq,List.map_cons,List.map_nil]
 refine .k (.i _ _) (.k (.q _ _ (u3.at aS rfl)) (.k (.q _ _ (u3.at aS rfl)) (.k (.i _ _) (.k (.s _ _ _ rfl rfl) (.k (.s _ _ _ rfl rfl) (.k (.s _ _ _ rfl rfl) (.k (.s _ _ _ rfl rfl) (.k (.s _ _ _ rfl rfl) (.k (.cl _ _ _ _ _ rfl (u6.nil _ _ _)) (.k (.cl _ _ _ _ _ (by simp) aS) .nil))))))))))
theorem e0m:s9 90 (spO fun a=>.c (.b (O.eqb a C8))):=u2 (fun fn h=>f9i h) [] .nil fun U fn hfn a vs bs hv hb=>by
 have hv:t7 [.a a.g] vs:=hv
 have hb:s5 [] bs:=hb
 show s4 U _ fun v bs'=>u0 (.ret (.c (.b (O.eqb a C8)))) v∧s5 [] bs'
 unfold r90
 rw [a.g_eq] at hv
 cases a with
 | sy s =>
  simp only [O.k,O.nu,O.de,O.sym,O.txt,O.ps] at hv
  (refine Zz ?_;with_reducible repeat' first|intro _|apply aI)
  ·refine E9 fun e=>?_
   subst e
   refine ⟨.ret _ _ (N7 ?_),.nil⟩
   rw [b74]
   have h1:s.1=s8:=‹s.1=o8 4 1886611820›
   have e2:o8 3 7104878=[110,105,108]:=rfl
   rw [e2]
   by_cases h:s.2=[110,105,108]
   ·rw [decide_eq_true h];exact O.eqb_t.2 (congrArg O.sy (Prod.ext h1 h))
   ·rw [decide_eq_false h];exact O.eqb_f.2 fun k=>h (by injection k with k;rw [k])
  ·exact p9 ⟨.ret _ _ (H8 (O.eqb_f.2 fun k=>by injection k with k;exact absurd (congrArg Prod.fst k) ‹¬s.1=o8 4 1886611820›)),.nil⟩
 | _ =>
  simp only [O.k,O.nu,O.de,O.sym,O.txt,O.ps] at hv
  (refine Zz ?_;with_reducible repeat' first|intro _|apply aI)
  all_goals exact p9 ⟨.ret _ _ (H8 (O.eqb_f.2 fun k=>by cases k)),.nil⟩
def bd (b:Sy × O):List G:=[.s b.1.1,.s b.1.2,.i .i64 b.2.k,.s b.2.nu,.s b.2.de,.s b.2.sym.1,.s b.2.sym.2,.s b.2.txt,.l (b.2.ps.map O.g)]
theorem f4z {a b:Sy × O} (h:bd a=bd b):a=b:=by
 simp only [bd,List.cons.injEq,G.s.injEq] at h
 obtain ⟨h1,h2,h3⟩:=h
 refine Prod.ext (Prod.ext h1 h2) (O.g_inj ?_)
 rw [a.2.g_eq,b.2.g_eq]
 simp only [List.cons.injEq,G.s.injEq]
 exact h3
theorem a6m:∀ {l m:List (Sy × O)},l.map bd=m.map bd→l=m
 | [],[],_=>rfl
 | [],_ :: _,h=>by simp at h
 | _ :: _,[],h=>by simp at h
 | a :: l,b :: m,h=>by simp only [List.map_cons,List.cons.injEq] at h;exact congr (congrArg List.cons (f4z h.1)) (a6m h.2)
def O1:List (Sy × O)→Sy→Option O
 | [],_=>none
 | b :: l,s=>if b.1=s then some b.2 else O1 l s
def f3e:Sp where
 ι:={ p:List (Sy × O) × Sy // p.1.length < 90000 }
 A p:=[.sl 9 (p.1.1.map bd),.a (sg p.1.2)]
 B _:=[]
 R p:=.ret (match O1 p.1.1 p.1.2 with
  | some o=>.t [.a o.g,.c (.b true)]
  | none=>.t [.a O.no.g,.c (.b false)])
 B' _:=[]
 inj i j vs bs h k _ _:=by
  obtain ⟨_,_,h1,k1,h,k⟩:=h.two k
  obtain ⟨_,_,h2,k2,h,k⟩:=h.two k
  rw [a6m (h1.sl_inj k1),W3 (h2.a_inj k2)];exact ⟨rfl,rfl⟩
theorem f6q:s9 86 f3e:=u2 (fun fn h=>f9d h) [] .nil fun U fn hfn ⟨(l,s),hl⟩ vs bs hv hb=>by
 have hl:l.length < 90000:=hl
 have hv:t7 [.sl 9 (l.map bd),.a [.s s.1,.s s.2]] vs:=hv
 have hb:s5 [] bs:=hb
 show s4 U _ fun v bs'=>u0 (.ret (match O1 l s with
  | some o=>.t [.a o.g,.c (.b true)]
  | none=>.t [.a O.no.g,.c (.b false)])) v∧s5 [] bs'
 unfold r86
 (refine Zz ?_;intros)
 refine F9 (fun (i:Nat) vs bs=>∃ (t:s6 Q) (off:Nat) (q:Q),vs=[.slice t 9 off l.length .no,.ptr 0 0,.ptr 1 0,.int .i64 i]∧bs=[.opa q 2,.cells [.int .i64 0,.str 0 0,.str 0 0,.str 0 0,.str 0 0,.str 0 0,.slice .nil 0 0 0 .exact]]∧u3 [.s s.1,.s s.2] q 0∧u6 9 (l.map bd) t off∧i≤l.length∧O1 (l.drop i) s=O1 l s) (fun i=>l.length - i) 0
  ⟨_,_,_,rfl,rfl,aS,aS,oM,rfl⟩ (by simp only [C9];omega) ?_
 rintro self i _ _ ⟨t,off,q,rfl,rfl,hq,ht,hi,he⟩ ih
 (refine Zz ?_;with_reducible repeat' first|intro _|apply aI)
 ·rw [List.drop_eq_getElem_cons (by omega:i < l.length),O1,if_pos (Prod.ext (‹_∧_∧True›).1 (‹_∧_∧True›).2.1)] at he
  rw [← he]
  exact p9 ⟨.ret _ _ (.t _ _ (.k (.a _ _ _ (O.g_len _).symm (by rw [O.g_eq];exact (by assumption:u3 (List.drop 2 (bd l[i])) _ 0))) (.k (.kn _) .nil))),.nil⟩
 ·rw [List.drop_eq_getElem_cons (by omega:i < l.length),O1,if_neg (fun h=>‹¬(_∧_∧True)› ⟨congrArg Prod.fst h,congrArg Prod.snd h,trivial⟩)] at he
  exact ih (i+1) _ _ ⟨_,_,_,by simp,rfl,hq,ht,oM,he⟩ oM
 ·have ei:i=l.length:=oM
  rw [ei,List.drop_length] at he
  rw [← he]
  exact p9 ⟨.ret _ _ (.t _ _ (.k (.ag _ _ (by (exact Zru))) (.k (.kn _) .nil))),.nil⟩
theorem a8w (s:Sy):(sg s).length=2:=rfl
theorem a6n:∀ {l m:List Sy},l.map sg=m.map sg→l=m
 | [],[],_=>rfl
 | [],_ :: _,h=>by simp at h
 | _ :: _,[],h=>by simp at h
 | a :: l,b :: m,h=>by simp only [List.map_cons,List.cons.injEq] at h;exact congr (congrArg List.cons (W3 h.1)) (a6n h.2)
theorem b0y (b:Sy × O):(bd b).length=9:=rfl
theorem d0h {s:Sy} {o:O} {x y:Q} (h:u3 (sg s) x 0) (k:u3 o.g y 0):Row (bd (s,o)) (.agg [CU.celQ x 0,CU.celQ x 1,CU.celQ y 0,CU.celQ y 1,CU.celQ y 2,CU.celQ y 3,CU.celQ y 4,CU.celQ y 5,CU.celQ y 6] 0):=by
 rw [o.g_eq] at k
 exact Q9 (by rw [b0y];decide) (a00.cel (.cons _ _ _ _ (u3.at h rfl) (.cons _ _ _ _ (u3.at h rfl) (.cons _ _ _ _ (u3.at k rfl) (.cons _ _ _ _ (u3.at k rfl) (.cons _ _ _ _ (u3.at k rfl) (.cons _ _ _ _ (u3.at k rfl) (.cons _ _ _ _ (u3.at k rfl) (.cons _ _ _ _ (u3.at k rfl) (.cons _ _ _ _ (u3.at k rfl) .nil))))))))))
def g0a:Sp where
 ι:={ p:List Sy × List O // p.1.length < 90000 }
 A p:=[.sl 2 (p.1.1.map sg),.sl 7 (p.1.2.map O.g)]
 B _:=[]
 R p:=.ret (.sl 9 ((List.zip p.1.1 p.1.2).map bd))
 B' _:=[]
 inj i j vs bs h k _ _:=by
  obtain ⟨_,_,h1,k1,h,k⟩:=h.two k
  obtain ⟨_,_,h2,k2,h,k⟩:=h.two k
  rw [a6n (h1.sl_inj k1),a05 (h2.sl_inj k2)];exact ⟨rfl,rfl⟩
theorem c1d {α β:Type} (l:List α) (m:List β) (i:Nat) (h:i < l.length) (k:i < m.length):(List.zip l m).take (i+1)=(List.zip l m).take i ++ [(l[i],m[i])]:=by
 rw [List.take_add_one,List.getElem?_eq_getElem (by simp;omega)]
 simp
theorem g32:s9 92 g0a:=u2 (fun fn h=>f9m h) [] .nil fun U fn hfn ⟨(l,m),hl⟩ vs bs hv hb=>by
 have hl:l.length < 90000:=hl
 have hv:t7 [.sl 2 (l.map sg),.sl 7 (m.map O.g)] vs:=hv
 have hb:s5 [] bs:=hb
 show s4 U _ fun v bs'=>u0 (.ret (.sl 9 ((List.zip l m).map bd))) v∧s5 [] bs'
 unfold r92
 (refine Zz ?_;intros)
 refine F9 (fun (i:Nat) vs bs=>∃ (t:s6 Q) (off:Nat) (t2:s6 Q) (off2:Nat) (v:V) (acc:List (Sy × O)),vs=[.slice t 2 off l.length .no,.slice t2 7 off2 m.length .no,.int .i64 i,v]∧bs=[.tok acc.length 9]∧R7 0 9 (acc.map bd) v∧u6 2 (l.map sg) t off∧u6 7 (m.map O.g) t2 off2∧acc=(List.zip l m).take i∧acc.length=i∧i≤l.length∧i≤m.length) (fun i=>l.length - i) 0
  ⟨_,_,_,_,_,[],rfl,rfl,.b rfl,aS,aS,rfl,rfl,oM,oM⟩ (by simp only [C9];omega) ?_
 rintro self i _ _ ⟨t,off,t2,off2,v,acc,rfl,rfl,htk,ht,ht2,hacc,hlen,hi,hi2⟩ ih
 (refine Zz ?_;with_reducible repeat' first|intro _|apply aI)
 ·refine N8 aS (r:=bd (l[i],m[i])) (fun e=>by subst e;exact d0h aS aS) rfl (by simp) (by simp only [List.length_map];omega) fun _ _=>?_
  (refine Zz ?_;intros)
  refine ih (i+1) _ _ ⟨_,_,_,_,_,acc ++ [(l[i],m[i])],rfl,by simp,.a _ _ (by simp) (by rw [List.map_append];assumption),ht,ht2,?_,by simp [hlen],oM,oM⟩ oM
  rw [hacc,c1d]
 ·have e9:acc=List.zip l m:=by rw [hacc,List.take_of_length_le (by simp;omega)]
  rw [← e9]
  exact p9 ⟨.ret _ _ u5,.nil⟩
 ·have e9:acc=List.zip l m:=by rw [hacc,List.take_of_length_le (by simp;omega)]
  rw [← e9]
  exact p9 ⟨.ret _ _ u5,.nil⟩
def isC (t:T) (s:u4) (n:Int):Bool:=match t with
 | .call f l=>decide (f=(s8,s)) && decide ((l.length:Int)=n)
 | _=>false
def g5c:Sp where
 ι:=T × u4 × Int
 A p:=[.a p.1.g,.c (.s p.2.1),.c (.i .i64 p.2.2)]
 B _:=[]
 R p:=.ret (.c (.b (isC p.1 p.2.1 p.2.2)))
 B' _:=[]
 inj i j vs bs h k _ _:=by
  obtain ⟨_,_,h1,k1,h,k⟩:=h.two k
  obtain ⟨_,_,h2,k2,h,k⟩:=h.two k
  obtain ⟨_,_,h3,k3,h,k⟩:=h.two k
  rw [T.g_inj (h1.a_inj k1),(G.s.inj (h2.c_inj k2):i.2.1=j.2.1),(G.i.inj (h3.c_inj k3)).2];exact ⟨rfl,rfl⟩
theorem kIs:s9 89 g5c:=u2 (fun fn h=>f9f h) [(20,_)] (.cons a6g .nil) fun U fn hfn ⟨t,s,n⟩ vs bs hv hb=>by
 have hL:=hfn 20 _ rfl
 have hv:t7 [.a t.g,.c (.s s),.c (.i .i64 n)] vs:=hv
 have hb:s5 [] bs:=hb
 show s4 U _ fun v bs'=>u0 (.ret (.c (.b (isC t s n)))) v∧s5 [] bs'
 unfold r89
 cases t with
 | v r =>
  simp only [T.g] at hv
  (refine Zz ?_;with_reducible repeat' first|intro _|apply aI)
  all_goals exact p9 ⟨.ret _ _ (H8 rfl),.nil⟩
 | c o =>
  simp only [T.g] at hv
  (refine Zz ?_;with_reducible repeat' first|intro _|apply aI)
  all_goals exact p9 ⟨.ret _ _ (H8 rfl),.nil⟩
 | call f l =>
  simp only [T.g,T.gs_eq] at hv
  (refine Zz ?_;intros)
  refine o7 hL s (r:=.a [.s s8,.s s]) rfl u5 .nil fun _ _ _ _=>?_
  (refine Zz ?_;with_reducible repeat' first|intro _|apply aI)
  ·refine E5 aS (v6 T.g_len) fun _ _ _=>?_
   (refine Zz ?_;intros)
   refine E9 fun e=>?_
   subst e
   refine ⟨.ret _ _ (N7 ?_),.nil⟩
   rw [a5c,isC,decide_eq_true (Prod.ext (‹_∧_∧True›).1 (‹_∧_∧True›).2.1)]
   rfl
  ·exact p9 ⟨.ret _ _ (H8 (by rw [isC,decide_eq_false (fun h=>‹¬(_∧_∧True)› ⟨congrArg Prod.fst h,congrArg Prod.snd h,trivial⟩)];rfl)),.nil⟩
end
end Go.Proofs.YtkojildpddaccaaGreatDoor
namespace Go.Abs
noncomputable section
def one (f:G→Q→Bool) (r:List G) (q:Q):Bool:=match r with | [g]=>f g q | _=>true
def a2g (f:G→Q→Bool) (n:Nat) (t:s6 Q):List (List G)→Nat→Bool
 | [],_=>true
 | r :: rs,off=>Nat.beq r.length n && ((chkCel f (tQ t off) r 0) && (one f r (tQ t off) && a2g f n t rs (off+1)))
where chkCel (f:G→Q→Bool) (q:Q):List G→Nat→Bool
 | [],_=>true
 | g :: gs,i=>f g (celQ q i) && chkCel f q gs (i+1)
def d0p:Nat→G→Q→Bool
 | 0,_,_=>false
 | f+1,g,q=>match g,q with
  | .b x,.bool y=>x == y
  | .i k n,.int k' n'=>decide (k=k') && decide (n=n')
  | .s x,.str l c=>Nat.beq l x.length && Nat.beq c (C6 x)
  | .l xs,.slice t n off len=>Nat.beq len xs.length && a2g (d0p f) n t xs off
  | _,_=>false
theorem b9m {f:G→Q→Bool} (h:∀ g q,f g q=true→RG g q) {q:Q}:∀ {gs:List G} {i:Nat},a2g.chkCel f q gs i=true→u3 gs q i
 | [],_,_=>.nil _ _
 | g :: gs,i,e=>by
  rw [a2g.chkCel,Bool.and_eq_true] at e
  exact .k (h _ _ e.1) (b9m h e.2)
theorem Z7 {f:G→Q→Bool} (h:∀ g q,f g q=true→RG g q) {n:Nat} {t:s6 Q}:∀ {xs:List (List G)} {off:Nat},a2g f n t xs off=true→u6 n xs t off
 | [],_,_=>.nil _ _ _
 | r :: rs,off,e=>by
  rw [a2g,Bool.and_eq_true,Bool.and_eq_true,Bool.and_eq_true] at e
  obtain ⟨e1,e2,e3,e4⟩:=e
  refine .cons _ _ _ _ _ (Nat.eq_of_beq_eq_true e1) (b9m h e2) (fun g k=>?_) (Z7 h e4)
  subst k
  exact h _ _ e3
theorem a71:∀ (f:Nat) (g:G) (q:Q),d0p f g q=true→RG g q
 | 0,_,_,e=>by cases e
 | f+1,g,q,e=>by
  unfold d0p at e
  split at e
  ·have:=eq_of_beq e;subst this;exact .b _
  ·rw [Bool.and_eq_true] at e
   have e1:=of_decide_eq_true e.1
   have e2:=of_decide_eq_true e.2
   subst e1 e2;exact .i _ _
  ·rw [Bool.and_eq_true] at e
   exact .s _ _ _ (Nat.eq_of_beq_eq_true e.1) (Nat.eq_of_beq_eq_true e.2)
  ·rw [Bool.and_eq_true] at e
   exact .l _ _ _ _ _ (Nat.eq_of_beq_eq_true e.1) (Z7 (a71 f) e.2)
  ·cases e
end
end Go.Abs
namespace Go.Proofs.YtkojildpddaccaaGreatDoor
open Go.Abs LQ
set_option maxRecDepth 100000
set_option maxHeartbeats 4000000
noncomputable section
def X8:List (u4 × Int):=[(o8 2 26217,3),(o8 5 465491554661,2),(o8 4 1936617315,2),(o8 3 7496035,1),(o8 3 7496803,1),(o8 5 482972954467,1),(o8 7 31644423040104819,1),(o8 7 31638921304765555,1),(o8 9 2073844980909096591730,1),(o8 8 8102650174351109737,1),(o8 8 3111276449750739298,2),(o8 8 3039218855712811362,2),(o8 7 12716373585260149,1),(o8 7 13279323538681461,1),(o8 1 60,2),(o8 9 2110959975582353159534,1),(o8 11 138343872958643594702251364,1),(o8 5 491495844966,1),(o8 11 122618043001006431572687219,1),(o8 19 2261903658058535744205936875630873591400986995,1),(o8 6 121437607456361,2),(o8 13 7956982234992646578836044149875,2),(o8 13 8275754203313416711865239762035,1),(o8 11 122651541423547657927947379,2),(o8 11 125040764888893661906237794,1)]
def rg (p:u4 × Int):List G:=[.s p.1,.i .i64 p.2]
theorem e51:s9 100 (sp0 (.sl 2 (X8.map rg))):=u2 (fun fn h=>c78 h) [] .nil fun U fn hfn _ vs bs hv hb=>by
 have hv:t7 [] vs:=hv
 have hb:s5 [] bs:=hb
 show s4 U _ fun v bs'=>u0 (.ret (.sl 2 (X8.map rg))) v∧s5 [] bs'
 unfold d13
 (refine Zz ?_;intros)
 exact p9 ⟨.ret _ _ (.sl _ _ _ _ _ rfl (Z7 (a71 2) (by rfl))),.nil⟩
def a0y:List (u4 × Int)→u4→Option Int
 | [],_=>none
 | p :: l,s=>if p.1=s then some p.2 else a0y l s
def D5 (s:Sy):Option Int:=if s.1=s8 then a0y X8 s.2 else none
def V0 (o:Option Int):GV:=match o with
 | some n=>.t [.c (.i .i64 n),.c (.b true)]
 | none=>.t [.c (.i .i64 0),.c (.b false)]
theorem b8e:s9 87 (b46 fun s=>V0 (D5 s)):=u2 (fun fn h=>d68 h) [(100,_)] (.cons e51 .nil) fun U fn hfn s vs bs hv hb=>by
 have hr:=hfn 100 _ rfl
 have hv:t7 [.a [.s s.1,.s s.2]] vs:=hv
 have hb:s5 [] bs:=hb
 show s4 U _ fun v bs'=>u0 (.ret (V0 (D5 s))) v∧s5 [] bs'
 unfold r87
 (refine Zz ?_;with_reducible repeat' first|intro _|apply aI)
 ·refine o7 hr () (r:=.sl 2 (X8.map rg)) rfl .nil .nil fun _ _ _ _=>?_
  have e0:D5 s=a0y X8 s.2:=if_pos (by assumption:s.1=s8)
  rw [e0]
  have hl:X8.length=25:=rfl
  generalize X8=l at *
  (refine Zz ?_;intros)
  refine F9 (fun (i:Nat) vs bs=>∃ (t:s6 Q) (off:Nat) (q:Q),vs=[.ptr 0 0,.slice t 2 off l.length .no,.int .i64 i]∧bs=[.opa q 2]∧u3 [.s s.1,.s s.2] q 0∧u6 2 (l.map rg) t off∧i≤l.length∧a0y (l.drop i) s.2=a0y l s.2) (fun i=>l.length - i) 0
   ⟨_,_,_,rfl,rfl,aS,aS,oM,rfl⟩ (by simp only [C9];omega) ?_
  rintro self i _ _ ⟨t,off,q,rfl,rfl,hq,ht,hi,he⟩ ih
  (refine Zz ?_;with_reducible repeat' first|intro _|apply aI)
  ·rw [List.drop_eq_getElem_cons (by omega:i < l.length),a0y,if_pos aS] at he
   rw [← he]
   exact p9 ⟨.ret _ _ (.t _ _ (.k (.q _ _ aS) (.k (.kn _) .nil))),.nil⟩
  ·rw [List.drop_eq_getElem_cons (by omega:i < l.length),a0y,if_neg aS] at he
   exact ih (i+1) _ _ ⟨_,_,_,by simp,rfl,hq,ht,oM,he⟩ oM
  ·have ei:i=l.length:=oM
   rw [ei,List.drop_length] at he
   rw [← he]
   exact p9 ⟨.ret _ _ (.t _ _ (.k (.i _ _) (.k (.kn _) .nil))),.nil⟩
 ·have e0:D5 s=none:=if_neg (by assumption:¬s.1=s8)
  rw [e0]
  exact p9 ⟨.ret _ _ (.t _ _ (.k (.i _ _) (.k (.kn _) .nil))),.nil⟩
structure F where
 nm:Sy
 ps:List Sy
 cl:Int
 gd:T
 bo:T
 me:Fin 11→G
def F.mg (f:F):List G:=[f.me 0,f.me 1,f.me 2,f.me 3,f.me 4,f.me 5,f.me 6,f.me 7,f.me 8,f.me 9,f.me 10]
def F.g (f:F):List G:=.s f.nm.1 :: .s f.nm.2 :: .l (f.ps.map sg) :: .i .i64 f.cl :: (f.gd.g ++ (f.bo.g ++ f.mg))
theorem F.g_len (f:F):f.g.length=37:=by simp [F.g,F.mg,T.g_len]
theorem F.g_inj {a b:F} (h:a.g=b.g):a=b:=by
 simp only [F.g,List.cons.injEq,G.s.injEq,G.l.injEq,G.i.injEq] at h
 obtain ⟨h1,h2,h3,⟨_,h4⟩,h5⟩:=h
 have k1:=List.append_inj h5 (by rw [T.g_len,T.g_len])
 have k2:=List.append_inj k1.2 (by rw [T.g_len,T.g_len])
 have e1:a.nm=b.nm:=Prod.ext h1 h2
 have e2:=a6n h3
 have e3:=T.g_inj k1.1
 have e4:=T.g_inj k2.1
 have e5:a.me=b.me:=by
  have h:=k2.2
  simp only [F.mg,List.cons.injEq,and_true] at h
  obtain ⟨h0,h1,h2,h3,h4,h5,h6,h7,h8,h9,h10⟩:=h
  funext ⟨i,hi⟩
  match i,hi with
  | 0,_=>exact h0
  | 1,_=>exact h1
  | 2,_=>exact h2
  | 3,_=>exact h3
  | 4,_=>exact h4
  | 5,_=>exact h5
  | 6,_=>exact h6
  | 7,_=>exact h7
  | 8,_=>exact h8
  | 9,_=>exact h9
  | 10,_=>exact h10
 cases a;cases b
 simp only at e1 e2 e3 e4 e5 h4
 subst e1 e2 e3 e4 e5 h4
 rfl
theorem b4n:∀ {l m:List F},l.map F.g=m.map F.g→l=m
 | [],[],_=>rfl
 | [],_ :: _,h=>by simp at h
 | _ :: _,[],h=>by simp at h
 | a :: l,b :: m,h=>by simp only [List.map_cons,List.cons.injEq] at h;exact congr (congrArg List.cons (F.g_inj h.1)) (b4n h.2)
structure Et where
 kd:Int
 nm:Sy
 pre:Fin 17→G
 fns:List F
 post:Fin 11→G
def Et.g (e:Et):List G:=[.i .i64 e.kd,.s e.nm.1,.s e.nm.2,e.pre 0,e.pre 1,e.pre 2,e.pre 3,e.pre 4,e.pre 5,e.pre 6,e.pre 7,e.pre 8,e.pre 9,e.pre 10,e.pre 11,e.pre 12,e.pre 13,e.pre 14,e.pre 15,e.pre 16,.l (e.fns.map F.g),e.post 0,e.post 1,e.post 2,e.post 3,e.post 4,e.post 5,e.post 6,e.post 7,e.post 8,e.post 9,e.post 10]
theorem Et.g_len (e:Et):e.g.length=32:=rfl
theorem Et.g_key {a b:Et} (h:a.g=b.g):a.kd=b.kd∧a.fns=b.fns:=by
 have h0:(a.g)[0]?=(b.g)[0]?:=by rw [h]
 have h1:(a.g)[20]?=(b.g)[20]?:=by rw [h]
 have k0:some (G.i .i64 a.kd)=some (G.i .i64 b.kd):=h0
 have k1:some (G.l (a.fns.map F.g))=some (G.l (b.fns.map F.g)):=h1
 injection k0 with k0
 injection k0 with _ k0
 injection k1 with k1
 injection k1 with k1
 exact ⟨k0,b4n k1⟩
def Et.has (e:Et):Bool:=decide (e.kd=3) || decide (e.kd=5) || decide (e.kd=6) || decide (e.kd=7)
def Et.fl (e:Et):List F:=if e.has then e.fns else []
theorem Et.fl_key {a b:Et} (h:a.g=b.g):a.fl=b.fl:=by
 have k:=Et.g_key h
 unfold Et.fl Et.has
 rw [k.1,k.2]
def g0b (g:List F→GV):Sp where
 ι:=Et
 A e:=[.a e.g]
 B _:=[]
 R e:=.ret (g e.fl)
 B' _:=[]
 inj i j vs bs h k _ _:=by
  obtain ⟨_,_,h1,k1,h,k⟩:=h.two k
  rw [Et.fl_key (h1.a_inj k1)];exact ⟨rfl,rfl⟩
theorem b6e:s9 133 (g0b fun l=>.sl 37 (l.map F.g)):=u2 (fun fn h=>c8w h) [] .nil fun U fn hfn (e:Et) vs bs hv hb=>by
 have hv:t7 [.a e.g] vs:=hv
 have hb:s5 [] bs:=hb
 show s4 U _ fun v bs'=>u0 (.ret (.sl 37 (e.fl.map F.g))) v∧s5 [] bs'
 unfold d2r
 unfold Et.g at hv
 (refine Zz ?_;with_reducible repeat' first|intro _|apply aI)
 ·have e1:e.fl=e.fns:=if_pos (by simp [Et.has, *])
  rw [e1]
  exact p9 ⟨.ret _ _ (.slq _ _ _ aS (v6 F.g_len)),.nil⟩
 ·have e1:e.fl=e.fns:=if_pos (by simp [Et.has, *])
  rw [e1]
  exact p9 ⟨.ret _ _ (.slq _ _ _ aS (v6 F.g_len)),.nil⟩
 ·have e1:e.fl=e.fns:=if_pos (by simp [Et.has, *])
  rw [e1]
  exact p9 ⟨.ret _ _ (.slq _ _ _ aS (v6 F.g_len)),.nil⟩
 ·have e1:e.fl=e.fns:=if_pos (by simp [Et.has, *])
  rw [e1]
  exact p9 ⟨.ret _ _ (.slq _ _ _ aS (v6 F.g_len)),.nil⟩
 ·have e1:e.fl=[]:=if_neg (by simp [Et.has, *])
  rw [e1]
  exact p9 ⟨.ret _ _ (.sl0 _ _ _),.nil⟩
def plF:List F→Sy→Option Nat
 | [],_=>none
 | f :: l,s=>if f.nm=s then some 0 else (plF l s).map (·+1)
def V1:List (List F)→Sy→Option (Nat × Nat)
 | [],_=>none
 | l :: w,s=>match plF l s with
  | some k=>some (0,k)
  | none=>(V1 w s).map fun p=>(p.1+1,p.2)
theorem d55:∀ {l:List F} {s:Sy} {k:Nat},plF l s=some k→k < l.length
 | [],_,_,h=>by cases h
 | f :: l,s,k,h=>by
  rw [plF] at h
  split at h
  ·injection h with h;subst h;simp
  ·cases e:plF l s with
   | none=>rw [e] at h;cases h
   | some j =>
    rw [e] at h
    simp only [Option.map_some,Option.some.injEq] at h
    have:=d55 e
    simp;omega
theorem c4w:∀ {w:List (List F)} {s:Sy} {i k:Nat},V1 w s=some (i,k)→∃ h:i < w.length,k < w[i].length
 | [],_,_,_,h=>by cases h
 | l :: w,s,i,k,h=>by
  rw [V1] at h
  split at h
  ·rename_i j e
   injection h with h
   injection h with h1 h2
   subst h1 h2
   exact ⟨by simp,d55 e⟩
  ·cases e:V1 w s with
   | none=>rw [e] at h;cases h
   | some p =>
    rw [e] at h
    injection h with h
    injection h with h1 h2
    obtain ⟨k1,k2⟩:=c4w (i:=p.1) (k:=p.2) e
    subst h1 h2
    exact ⟨by simp;omega,k2⟩
def okP (o:Option (Nat × Nat)):GV:=match o with
 | some p=>.t [.c (.i .i64 p.1),.c (.i .i64 p.2),.c (.b true)]
 | none=>.t [.c (.i .i64 0),.c (.i .i64 0),.c (.b false)]
abbrev Wd:={ w:List Et // w.length < 90000∧∀ e ∈ w,e.fl.length < 90000 }
def Wd.L (w:Wd):List (List F):=w.1.map Et.fl
theorem Z0:∀ {l m:List Et},l.map Et.g=m.map Et.g→l.map Et.fl=m.map Et.fl
 | [],[],_=>rfl
 | [],_ :: _,h=>by simp at h
 | _ :: _,[],h=>by simp at h
 | a :: l,b :: m,h=>by
  simp only [List.map_cons,List.cons.injEq] at h
  rw [List.map_cons,List.map_cons,Et.fl_key h.1,Z0 h.2]
def b84 (g:List (List F)→Sy→GV):Sp where
 ι:=Wd × Sy
 A p:=[.sl 32 (p.1.1.map Et.g),.a (sg p.2)]
 B _:=[]
 R p:=.ret (g p.1.L p.2)
 B' _:=[]
 inj i j vs bs h k _ _:=by
  obtain ⟨_,_,h1,k1,h,k⟩:=h.two k
  obtain ⟨_,_,h2,k2,h,k⟩:=h.two k
  rw [Wd.L,Wd.L,Z0 (h1.sl_inj k1),W3 (h2.a_inj k2)];exact ⟨rfl,rfl⟩
theorem f6h:s9 132 (b84 fun L s=>okP (V1 L s)):=u2 (fun fn h=>c8v h) [(133,_)] (.cons b6e .nil) fun U fn hfn ⟨⟨w,hw,hwl⟩,s⟩ vs bs hv hb=>by
 have hf:=hfn 133 _ rfl
 have hv:t7 [.sl 32 (w.map Et.g),.a [.s s.1,.s s.2]] vs:=hv
 have hb:s5 [] bs:=hb
 show s4 U _ fun v bs'=>u0 (.ret (okP (V1 (w.map Et.fl) s))) v∧s5 [] bs'
 unfold d2q
 (refine Zz ?_;intros)
 refine F9 (fun (i:Nat) vs bs=>∃ (t:s6 Q) (off:Nat) (q:Q),vs=[.slice t 32 off w.length .no,.ptr 0 0,.int .i64 i]∧bs=[.opa q 2]∧u3 [.s s.1,.s s.2] q 0∧u6 32 (w.map Et.g) t off∧i≤w.length∧V1 (w.map Et.fl) s=(V1 ((w.drop i).map Et.fl) s).map fun p=>(p.1+i,p.2)) (fun i=>w.length - i) 0
  ⟨_,_,_,rfl,rfl,aS,aS,oM,by simp⟩ (by simp only [C9];omega) ?_
 rintro self i _ _ ⟨t,off,q,rfl,rfl,hq,ht,hi,he⟩ ih
 (refine Zz ?_;with_reducible repeat' first|intro _|apply aI)
 ·refine o7 hf w[i] (r:=.sl 37 (w[i].fl.map F.g)) rfl u5 .nil fun _ _ _ _=>?_
  have hl:w[i].fl.length < 90000:=hwl _ (List.getElem_mem _)
  have hiw:i < w.length:=oM
  have hd:=List.drop_eq_getElem_cons hiw
  generalize w[i]=e at *
  (refine Zz ?_;intros)
  refine F9 (fun (k:Nat) vs bs=>∃ (t:s6 Q) (off:Nat) (t2:s6 Q) (off2:Nat) (q:Q),vs=[.slice t 32 off w.length .no,.ptr 0 0,.int .i64 i,.slice t2 37 off2 e.fl.length .no,.int .i64 k]∧bs=[.opa q 2]∧u3 [.s s.1,.s s.2] q 0∧u6 32 (w.map Et.g) t off∧u6 37 (e.fl.map F.g) t2 off2∧k≤e.fl.length∧plF e.fl s=(plF (e.fl.drop k) s).map (·+k)) (fun k=>e.fl.length - k) 0
   ⟨_,_,_,_,_,rfl,rfl,aS,aS,aS,oM,by simp⟩ (by simp only [C9];omega) ?_
  rintro self2 k _ _ ⟨t,off,t2,off2,q,rfl,rfl,hq,ht,ht2,hk,hke⟩ ih2
  (refine Zz ?_;with_reducible repeat' first|intro _|apply aI)
  ·rw [List.drop_eq_getElem_cons (by omega:k < e.fl.length),plF,if_pos (Prod.ext (‹_∧_∧True›).1 (‹_∧_∧True›).2.1)] at hke
   have hk2:plF e.fl s=some k:=by rw [hke];simp
   have he2:V1 (w.map Et.fl) s=some (i,k):=by rw [he,hd,List.map_cons,V1,hk2];simp
   rw [he2]
   exact p9 ⟨.ret _ _ (.t _ _ (.k (.i _ _) (.k (.i _ _) (.k (.kn _) .nil)))),.nil⟩
  ·rw [List.drop_eq_getElem_cons (by omega:k < e.fl.length),plF,if_neg (fun h=>‹¬(_∧_∧True)› ⟨congrArg Prod.fst h,congrArg Prod.snd h,trivial⟩),Option.map_map] at hke
   exact ih2 (k+1) _ _ ⟨_,_,_,_,_,by simp,rfl,hq,ht,ht2,oM,by rw [hke];exact congrArg (fun f=>Option.map f _) (funext fun x=>by simp only [Function.comp];omega)⟩ oM
  ·have ek:k=e.fl.length:=oM
   rw [ek,List.drop_length] at hke
   have hk2:plF e.fl s=none:=by rw [hke];rfl
   refine ih (i+1) _ _ ⟨_,_,_,by simp,rfl,hq,ht,oM,?_⟩ oM
   rw [he,hd,List.map_cons,V1,hk2]
   simp only [Option.map_map]
   congr
   funext x
   simp;omega
 ·have ei:i=w.length:=oM
  rw [ei,List.drop_length] at he
  have he2:V1 (w.map Et.fl) s=none:=by rw [he];rfl
  rw [he2]
  exact p9 ⟨.ret _ _ (.t _ _ (.k (.i _ _) (.k (.i _ _) (.k (.kn _) .nil)))),.nil⟩
def K1 (L:List (List F)) (s:Sy):Option F:=match V1 L s with
 | some p=>(L[p.1]?).bind fun l=>l[p.2]?
 | none=>none
def zF:List G:=[.s [],.s [],.l [],.i .i64 0,.i .i64 0,.s [],.s [],.i .i64 0,.s [],.s [],.s [],.s [],.s [],.l [],.l [],.i .i64 0,.s [],.s [],.i .i64 0,.s [],.s [],.s [],.s [],.s [],.l [],.l [],.i .i64 0,.s [],.s [],.i .i64 0,.s [],.s [],.s [],.s [],.s [],.l [],.l []]
def okF (o:Option F):GV:=match o with
 | some f=>.t [.a f.g,.c (.b true)]
 | none=>.t [.a zF,.c (.b false)]
theorem b90:s9 88 (b84 fun L s=>okF (K1 L s)):=u2 (fun fn h=>d69 h) [(133,_),(132,_)] (.cons b6e (.cons f6h .nil)) fun U fn hfn ⟨⟨w,hw,hwl⟩,s⟩ vs bs hv hb=>by
 have hf:=hfn 133 _ rfl
 have hp:=hfn 132 _ rfl
 have hv:t7 [.sl 32 (w.map Et.g),.a [.s s.1,.s s.2]] vs:=hv
 have hb:s5 [] bs:=hb
 show s4 U _ fun v bs'=>u0 (.ret (okF (K1 (w.map Et.fl) s))) v∧s5 [] bs'
 unfold r88
 (refine Zz ?_;with_reducible repeat' first|intro _|apply aI)
 cases e:V1 (w.map Et.fl) s with
 | none =>
  rw [(by rw [K1,e]:K1 (w.map Et.fl) s=none)]
  refine o7 hp (⟨w,hw,hwl⟩,s) (r:=.t [.c (.i .i64 0),.c (.i .i64 0),.c (.b false)]) (by show u9.ret (okP (V1 (w.map Et.fl) s))=_;rw [e];rfl) u5 .nil fun _ _ _ _=>?_
  (refine Zz ?_;intros)
  exact p9 ⟨.ret _ _ (.t _ _ (.k (.ag _ _ (by (exact Zru))) (.k (.kn _) .nil))),.nil⟩
 | some p =>
  obtain ⟨i,k⟩:=p
  obtain ⟨k1,k2⟩:=c4w e
  simp only [List.getElem_map] at k2
  rw [List.length_map] at k1
  rw [(by rw [K1,e];simp [k1,k2]:K1 (w.map Et.fl) s=some (w[i].fl)[k])]
  refine o7 hp (⟨w,hw,hwl⟩,s) (r:=.t [.c (.i .i64 i),.c (.i .i64 k),.c (.b true)]) (by show u9.ret (okP (V1 (w.map Et.fl) s))=_;rw [e];rfl) u5 .nil fun _ _ _ _=>?_
  (refine Zz ?_;intros)
  refine o7 hf w[i] (r:=.sl 37 (w[i].fl.map F.g)) rfl u5 .nil fun _ _ _ _=>?_
  generalize w[i]=e at *
  (refine Zz ?_;intros)
  exact p9 ⟨.ret _ _ (.t _ _ (.k (.a _ _ _ (F.g_len _).symm aS) (.k (.kn _) .nil))),.nil⟩
def Q5 (L:List (List F)) (s:Sy):GV:=V0 (match D5 s with
 | some n=>some n
 | none=>(K1 L s).map fun f=>(f.ps.length:Int))
theorem c3w:s9 60 (b84 Q5):=u2 (fun fn h=>d6t h) [(87,_),(88,_)] (.cons b8e (.cons b90 .nil)) fun U fn hfn ⟨⟨w,hw,hwl⟩,s⟩ vs bs hv hb=>by
 have ha:=hfn 87 _ rfl
 have hf:=hfn 88 _ rfl
 have hv:t7 [.sl 32 (w.map Et.g),.a [.s s.1,.s s.2]] vs:=hv
 have hb:s5 [] bs:=hb
 show s4 U _ fun v bs'=>u0 (.ret (Q5 (w.map Et.fl) s)) v∧s5 [] bs'
 unfold r60
 (refine Zz ?_;with_reducible repeat' first|intro _|apply aI)
 cases e:D5 s with
 | some n =>
  rw [(by rw [Q5,e];rfl:Q5 (w.map Et.fl) s=.t [.c (.i .i64 n),.c (.b true)])]
  refine o7 ha s (r:=.t [.c (.i .i64 n),.c (.b true)]) (by show u9.ret (V0 (D5 s))=_;rw [e];rfl) u5 .nil fun _ _ _ _=>?_
  (refine Zz ?_;intros)
  exact p9 ⟨.ret _ _ (.t _ _ (.k (.i _ _) (.k (.kn _) .nil))),.nil⟩
 | none =>
  refine o7 ha s (r:=.t [.c (.i .i64 0),.c (.b false)]) (by show u9.ret (V0 (D5 s))=_;rw [e];rfl) u5 .nil fun _ _ _ _=>?_
  (refine Zz ?_;with_reducible repeat' first|intro _|apply aI)
  cases e2:K1 (w.map Et.fl) s with
  | none =>
   rw [(by rw [Q5,e];show V0 ((K1 (w.map Et.fl) s).map _)=_;rw [e2];rfl:Q5 (w.map Et.fl) s=.t [.c (.i .i64 0),.c (.b false)])]
   refine o7 hf (⟨w,hw,hwl⟩,s) (r:=.t [.a zF,.c (.b false)]) (by show u9.ret (okF (K1 (w.map Et.fl) s))=_;rw [e2];rfl) u5 .nil fun _ _ _ _=>?_
   (refine Zz ?_;intros)
   exact p9 ⟨.ret _ _ (.t _ _ (.k (.i _ _) (.k (.kn _) .nil))),.nil⟩
  | some f =>
   rw [(by rw [Q5,e];show V0 ((K1 (w.map Et.fl) s).map _)=_;rw [e2];rfl:Q5 (w.map Et.fl) s=.t [.c (.i .i64 f.ps.length),.c (.b true)])]
   refine o7 hf (⟨w,hw,hwl⟩,s) (r:=.t [.a f.g,.c (.b true)]) (by show u9.ret (okF (K1 (w.map Et.fl) s))=_;rw [e2];rfl) u5 .nil fun _ _ _ _=>?_
   (refine Zz ?_;intros)
   refine C4 aS (by first | exact (F.g_len _).symm | exact F.g_len _) fun _ _=>?_
   (refine Zz ?_;intros)
   refine E5 aS (v6 a8w) fun _ _ _=>?_
   (refine Zz ?_;intros)
   exact p9 ⟨.ret _ _ (.t _ _ (.k (.i _ _) (.k (.kn _) .nil))),.nil⟩
end
end Go.Proofs.YtkojildpddaccaaGreatDoor
