/- Trees of numbers and strings; how many nodes; parts. -/
import Derived.Test.YtkojildpddaccaaGreatDoorCJ1
import Derived.ChangeArms
import GoSem.ClaimJoined
set_option linter.all false
namespace Go.Proofs.YtkojildpddaccaaGreatDoor
open Go.Abs LQ
set_option maxRecDepth 100000
set_option maxHeartbeats 4000000
noncomputable section
inductive Raw where
 | mk (k n:Int) (s:u5) (l:List Raw)
namespace Raw
def k:Raw→Int
 | mk k _ _ _=>k
def n:Raw→Int
 | mk _ n _ _=>n
def s:Raw→u5
 | mk _ _ s _=>s
def l:Raw→List Raw
 | mk _ _ _ l=>l
mutual
def g:Raw→List G
 | mk k n s l=>[.i .i64 k,.i .i64 n,.s s,.l (gs l)]
def gs:List Raw→List (List G)
 | []=>[]
 | x :: xs=>x.g :: gs xs
end
theorem gs_eq:∀ l:List Raw,gs l=l.map g
 | []=>rfl
 | x :: xs=>by rw [gs,gs_eq xs];rfl
theorem g_eq (r:Raw):r.g=[.i .i64 r.k,.i .i64 r.n,.s r.s,.l (r.l.map g)]:=by
 cases r with | mk k n s l=>rw [g,gs_eq];rfl
theorem g_len (r:Raw):r.g.length=4:=by cases r;rfl
mutual
theorem g_inj:∀ {a b:Raw},a.g=b.g→a=b
 | mk k n s l,mk k' n' s' l',h=>by
  simp only [g,List.cons.injEq,G.i.injEq,G.s.injEq,G.l.injEq] at h;obtain ⟨⟨_,h1⟩,⟨_,h2⟩,h3,h4,_⟩:=h;rw [h1,h2,h3,gs_inj h4]
theorem gs_inj:∀ {a b:List Raw},gs a=gs b→a=b
 | [],[],_=>rfl
 | [],_ :: _,h=>by simp [gs] at h
 | _ :: _,[],h=>by simp [gs] at h
 | x :: xs,y :: ys,h=>by
  simp only [gs,List.cons.injEq] at h;rw [g_inj h.1,gs_inj h.2]
end
theorem map_inj {a b:List Raw} (h:a.map g=b.map g):a=b:=gs_inj (by rw [gs_eq,gs_eq];exact h)
mutual
def nodes:Raw→Nat
 | mk _ _ _ l=>1+nodesL l
def nodesL:List Raw→Nat
 | []=>0
 | x :: xs=>x.nodes+nodesL xs
end
theorem nodes_eq (r:Raw):r.nodes=1+nodesL r.l:=by cases r;rfl
theorem nodes_mem:∀ {l:List Raw} {x:Raw},x ∈ l→x.nodes≤nodesL l
 | y :: l,x,h=>by
  cases h with
  | head=>exact Nat.le_add_right _ _
  | tail _ h=>exact Nat.le_trans (nodes_mem h) (Nat.le_add_left _ _)
mutual
def left:Raw→Int→Int
 | mk _ _ s l,m=>if 12 < s.length∨6 < l.length then -1 else leftL l (m - 1)
def leftL:List Raw→Int→Int
 | [],m=>m
 | x :: xs,m=>if 0≤m then leftL xs (x.left m) else m
end
theorem left_eq (r:Raw) (m:Int):r.left m=if 12 < r.s.length∨6 < r.l.length then -1 else leftL r.l (m - 1):=by cases r;rfl
mutual
theorem left_le:∀ (r:Raw) {m:Int},0≤m→-1≤r.left m∧r.left m≤m
 | mk _ _ s l,m,h=>by
  rw [left];split
  ·omega
  ·have:=b0z l (m:=m - 1) oM;omega
theorem b0z:∀ (l:List Raw) {m:Int},-1≤m→-1≤leftL l m∧leftL l m≤m
 | [],m,h=>by rw [leftL];omega
 | x :: xs,m,h=>by
  rw [leftL];split
  ·rename_i h0;have h1:=left_le x h0;have h2:=b0z xs (m:=x.left m) h1.1;omega
  ·omega
end
mutual
def okR:Raw→Prop
 | mk _ _ s l=>s.length≤12∧l.length≤6∧okRL l
def okRL:List Raw→Prop
 | []=>True
 | x :: xs=>x.okR∧okRL xs
end
theorem okR_eq (r:Raw):r.okR↔r.s.length≤12∧r.l.length≤6∧okRL r.l:=by cases r;exact Iff.rfl
theorem okR_mem:∀ {l:List Raw} {x:Raw},okRL l→x ∈ l→x.okR
 | y :: l,x,h,hx=>by
  cases hx with
  | head=>exact h.1
  | tail _ hx=>exact okR_mem h.2 hx
mutual
theorem d07:∀ (r:Raw) {m:Int},0≤m→0≤r.left m→r.okR∧r.left m+r.nodes=m
 | mk _ _ s l,m,h,k=>by
  rw [left] at k ⊢;split at k
  ·omega
  ·rename_i hc;rw [if_neg hc];have hm:0≤m - 1:=by have:=b0z l (m:=m - 1) oM;omega
   have:=c67 l hm k;refine ⟨⟨oM,oM,this.1⟩,?_⟩;show _+((1+nodesL l:Nat):Int)=m;omega
theorem c67:∀ (l:List Raw) {m:Int},0≤m→0≤leftL l m→okRL l∧leftL l m+nodesL l=m
 | [],m,h,k=>by rw [leftL];exact ⟨trivial,by show m+((0:Nat):Int)=m;omega⟩
 | x :: xs,m,h,k=>by
  rw [leftL,if_pos h] at k ⊢;have h1:0≤x.left m:=by
   have:=b0z xs (m:=x.left m) (left_le x h).1;omega
  have h2:=d07 x h h1;have h3:=c67 xs h1 k;refine ⟨⟨h2.1,h3.1⟩,?_⟩;show _+((x.nodes+nodesL xs:Nat):Int)=m;omega
end
def few (r:Raw) (m:Nat):Bool:=decide (0≤r.left m)
theorem few_ok {r:Raw} {m:Nat} (h:r.few m=true):r.okR∧r.nodes≤m:=by
 have:=d07 r (m:=m) oM (of_decide_eq_true h);exact ⟨this.1,by have:=of_decide_eq_true h;omega⟩
def zero:Raw:=mk 0 0 [] []
def part (r:Raw) (i:Nat):Raw:=r.l.getD i zero
end Raw
def g5q:Sp where
 ι:={ p:Int × Nat // 0 < p.2∧p.2 < 1000000 }
 A p:=[.c (.i .i64 p.1.1),.c (.i .i64 p.1.2)]
 B _:=[]
 R p:=.ret (.c (.i .i64 (p.1.1 % p.1.2)))
 B' _:=[]
 inj i j vs bs h k _ _:=by
  obtain ⟨_,_,h1,k1,h,k⟩:=h.two k;obtain ⟨_,_,h2,k2,h,k⟩:=h.two k;have e1:=(G.i.inj (h1.c_inj k1)).2;have e2:=(G.i.inj (h2.c_inj k2)).2;rw [e1,e2];exact ⟨rfl,rfl⟩
theorem e2f:v8 59 g5q:=A8 (fun fn h=>f9o h) [] .nil fun U fn hfn ⟨(n,m),h0,h1⟩ vs bs hv hb=>by
 change z7 [.c (.i .i64 n),.c (.i .i64 m)] vs at hv;change u0 [] bs at hb;have h0:0 < m:=h0;have h1:m < 1000000:=h1;show t6 U _ fun v bs'=>A3 (.ret (.c (.i .i64 (n % m)))) v∧u0 [] bs';have hlt:=Int.tmod_lt_of_pos n (b:=(m:Int)) oM;have hgt:=Int.lt_tmod_of_pos n (b:=(m:Int)) oM;have he:n % (m:Int)=if n.tmod m < 0 then n.tmod m+m else n.tmod m:=by
  have k1:=Int.emod_emod_of_dvd n (Int.dvd_refl (m:Int));have k2:n.tmod m % m=n % m:=by
   rw [Int.tmod_def,Int.sub_mul_emod_self_left]
  split
  ·rw [← k2,← Int.add_emod_right,Int.emod_eq_of_lt oM oM]
  ·rw [← k2,Int.emod_eq_of_lt oM oM]
 unfold r59;refine Zz ?_;intros;refine e55 ?_;(refine Zz ?_;with_reducible repeat' first|intro _|apply aI)
 ·rw [he,if_pos aS];exact s9 ⟨.ret _ _ (.i _ _),.nil⟩
 ·rw [he,if_neg aS];exact s9 ⟨.ret _ _ (.i _ _),.nil⟩
def d9r:Sp where
 ι:={ p:Raw × Int // 0≤p.2∧p.2≤1000 }
 A p:=[.a p.1.1.g,.c (.i .i64 p.1.2)]
 B _:=[]
 R p:=.ret (.c (.i .i64 (p.1.1.left p.1.2)))
 B' _:=[]
 inj i j vs bs h k _ _:=by
  obtain ⟨_,_,h1,k1,h,k⟩:=h.two k;obtain ⟨_,_,h2,k2,h,k⟩:=h.two k;have e1:=Raw.g_inj (h1.a_inj k1);have e2:=(G.i.inj (h2.c_inj k2)).2;rw [e1,e2];exact ⟨rfl,rfl⟩
theorem g4q:v8 28 d9r:=Y2 (fun p=>p.1.1.nodes) fun z ih=>A8 (fun fn h=>f8v h) [(28,d9r.lt (fun p=>p.1.1.nodes) z)] (.cons ih .nil) fun U fn hfn ⟨⟨(r,m),h0,h1⟩,hz⟩ vs bs hv hb=>by
 change z7 [.a r.g,.c (.i .i64 m)] vs at hv;change u0 [] bs at hb;have h0:0≤m:=h0;have h1:m≤1000:=h1;have hz:r.nodes < z+1:=hz;show t6 U _ fun v bs'=>A3 (.ret (.c (.i .i64 (r.left m)))) v∧u0 [] bs';rw [Raw.left_eq];rw [Raw.nodes_eq] at hz;rw [Raw.g_eq] at hv;generalize r.k=rk at *;generalize r.n=rn at *;generalize r.s=rs at *;generalize r.l=rl at *;unfold r28;(refine Zz ?_;with_reducible repeat' first|intro _|apply aI)
 ·rw [if_pos (.inl oM)];exact s9 ⟨.ret _ _ (.i _ _),.nil⟩
 refine F1 aS (B7 Raw.g_len) fun _ _ _=>?_;(refine Zz ?_;with_reducible repeat' first|intro _|apply aI)
 ·rw [if_pos (.inr oM)];exact s9 ⟨.ret _ _ (.i _ _),.nil⟩
 rw [if_neg oM];refine I7 (fun (i:Nat) vs bs=>∃ (m':Int) (q:Q),vs=[.int .i64 m',.ptr 0 0,.int .i64 i]∧bs=[.opa q 4]∧A7 [.i .i64 rk,.i .i64 rn,.s rs,.l (rl.map Raw.g)] q 0∧i≤rl.length∧Raw.leftL (rl.drop i) m'=Raw.leftL rl (m - 1)∧-1≤m'∧m'≤1000) (fun i=>rl.length - i) 0
  ⟨_,_,rfl,rfl,aS,oM,rfl,oM,oM⟩ (by simp only [E3];omega) ?_
 rintro self i _ _ ⟨m',q,rfl,rfl,hq,hi,he,hm1,hm2⟩ ih;refine Zz ?_;intros;refine F1 aS (B7 Raw.g_len) fun _ _ _=>?_;(refine Zz ?_;with_reducible repeat' first|intro _|apply aI)
 ·refine F1 aS (B7 Raw.g_len) fun _ _ _=>?_;refine Zz ?_;intros;have hiw:i < rl.length:=oM;have hnd:=Raw.nodes_mem (List.getElem_mem hiw);have hlb:=Raw.left_le rl[i] (m:=m') aS;rw [List.drop_eq_getElem_cons hiw,Raw.leftL,if_pos aS] at he;refine s6 (hfn 28 _ rfl) ⟨⟨(rl[i],m'),aS,hm2⟩,show rl[i].nodes < z by omega⟩ (r:=.c (.i .i64 (rl[i].left m'))) rfl (.k (.a _ _ _ (Raw.g_len _).symm aS) (.k (.i _ _) .nil)) .nil fun _ _ _ _=>?_;refine Zz ?_;intros;exact ih (i+1) _ _ ⟨_,_,rfl,rfl,hq,oM,he,oM,oM⟩ oM
 ·rw [List.drop_eq_getElem_cons (by omega:i < rl.length),Raw.leftL,if_neg aS] at he;rw [← he];exact s9 ⟨.ret _ _ (.i _ _),.nil⟩
 ·rw [List.drop_of_length_le oM,Raw.leftL] at he;rw [← he];exact s9 ⟨.ret _ _ (.i _ _),.nil⟩
def e6b (g:Raw→Nat→GV):Sp where
 ι:={ p:Raw × Nat // p.2≤1000 }
 A p:=[.a p.1.1.g,.c (.i .i64 p.1.2)]
 B _:=[]
 R p:=.ret (g p.1.1 p.1.2)
 B' _:=[]
 inj i j vs bs h k _ _:=by
  obtain ⟨_,_,h1,k1,h,k⟩:=h.two k;obtain ⟨_,_,h2,k2,h,k⟩:=h.two k;have e1:=Raw.g_inj (h1.a_inj k1);have e2:=(G.i.inj (h2.c_inj k2)).2;have e2:i.1.2=j.1.2:=oM;rw [e1,e2];exact ⟨rfl,rfl⟩
theorem f4s:v8 6 (e6b fun r m=>.c (.b (r.few m))):=A8 (fun fn h=>g45 h) [(28,_)] (.cons g4q .nil) fun U fn hfn ⟨(r,m),h1⟩ vs bs hv hb=>by
 change z7 [.a r.g,.c (.i .i64 m)] vs at hv;change u0 [] bs at hb;have h1:m≤1000:=h1;show t6 U _ fun v bs'=>A3 (.ret (.c (.b (r.few m)))) v∧u0 [] bs';unfold r6;refine Zz ?_;intros;refine H3 aS (Raw.g_len _) fun _ _=>?_;refine Zz ?_;intros;refine s6 (hfn 28 _ rfl) ⟨(r,m),show (0:Int)≤m by omega,show (m:Int)≤1000 by omega⟩ (r:=.c (.i .i64 (r.left m))) rfl (.k (.a _ _ _ (Raw.g_len _).symm aS) (.k (.i _ _) .nil)) .nil fun _ _ _ _=>?_;refine Zz ?_;intros;refine P0 fun e=>?_;subst e;exact ⟨.ret _ _ (rvB (by rw [e1d];rfl)),.nil⟩
def Q8 (l:List Raw) (m:Nat):Bool:=decide (l.length≤8) && l.all fun r=>r.few m
def e36:Sp where
 ι:={ p:List Raw × Nat // p.2≤1000 }
 A p:=[.sl 4 (p.1.1.map Raw.g),.c (.i .i64 p.1.2)]
 B _:=[]
 R p:=.ret (.c (.b (Q8 p.1.1 p.1.2)))
 B' _:=[]
 inj i j vs bs h k _ _:=by
  obtain ⟨_,_,h1,k1,h,k⟩:=h.two k;obtain ⟨_,_,h2,k2,h,k⟩:=h.two k;have e1:=Raw.map_inj (h1.sl_inj k1);have e2:=(G.i.inj (h2.c_inj k2)).2;have e2:i.1.2=j.1.2:=oM;rw [e1,e2];exact ⟨rfl,rfl⟩
theorem e7r:v8 7 e36:=A8 (fun fn h=>g46 h) [(6,_)] (.cons f4s .nil) fun U fn hfn ⟨(l,m),h1⟩ vs bs hv hb=>by
 have hF:=hfn 6 _ rfl;change z7 [.sl 4 (l.map Raw.g),.c (.i .i64 m)] vs at hv;change u0 [] bs at hb;have h1:m≤1000:=h1;show t6 U _ fun v bs'=>A3 (.ret (.c (.b (Q8 l m)))) v∧u0 [] bs';unfold r7;(refine Zz ?_;with_reducible repeat' first|intro _|apply aI)
 ·exact s9 ⟨.ret _ _ (T6 (by unfold Q8;rw [decide_eq_false oM];rfl)),.nil⟩
 have e0:Q8 l m=l.all fun r=>r.few m:=by unfold Q8;rw [decide_eq_true oM];rfl
 rw [e0];refine I7 (fun (i:Nat) vs bs=>∃ (t:u1 Q) (off:Nat),vs=[.slice t 4 off l.length .no,.int .i64 m,.int .i64 i]∧bs=[]∧A5 4 (l.map Raw.g) t off∧i≤l.length∧((l.drop i).all fun r=>r.few m)=(l.all fun r=>r.few m)) (fun i=>l.length - i) 0
  ⟨_,_,rfl,rfl,aS,oM,rfl⟩ (by simp only [E3];omega) ?_
 rintro self i _ _ ⟨t,off,rfl,rfl,ht,hi,he⟩ ih;(refine Zz ?_;with_reducible repeat' first|intro _|apply aI)
 ·have hiw:i < l.length:=oM;rw [List.drop_eq_getElem_cons hiw,List.all_cons] at he;cases hb2:l[i].few m with
  | true =>
   refine s6 hF ⟨(l[i],m),h1⟩ (r:=.c (.b true)) (by show z8.ret (.c (.b (l[i].few m)))=_;rw [hb2]) (.k (.a _ _ _ (Raw.g_len _).symm aS) (.k (.i _ _) .nil)) .nil fun _ _ _ _=>?_;refine Zz ?_;intros;rw [hb2,Bool.true_and] at he;exact ih (i+1) _ _ ⟨_,_,by simp,rfl,ht,oM,he⟩ oM
  | false =>
   refine s6 hF ⟨(l[i],m),h1⟩ (r:=.c (.b false)) (by show z8.ret (.c (.b (l[i].few m)))=_;rw [hb2]) (.k (.a _ _ _ (Raw.g_len _).symm aS) (.k (.i _ _) .nil)) .nil fun _ _ _ _=>?_;refine Zz ?_;intros;rw [hb2,Bool.false_and] at he;rw [← he];exact s9 ⟨.ret _ _ (.kn _),.nil⟩
 ·rw [List.drop_of_length_le oM] at he;rw [← he];exact s9 ⟨.ret _ _ (.kn _),.nil⟩
theorem e5o:v8 61 (e6b fun r i=>.a (r.part i).g):=A8 (fun fn h=>f9q h) [] .nil fun U fn hfn ⟨(r,i),h1⟩ vs bs hv hb=>by
 change z7 [.a r.g,.c (.i .i64 i)] vs at hv;change u0 [] bs at hb;have h1:i≤1000:=h1;show t6 U _ fun v bs'=>A3 (.ret (.a (r.part i).g)) v∧u0 [] bs';unfold r61;unfold Raw.part;rw [Raw.g_eq] at hv;generalize r.k=rk at *;generalize r.n=rn at *;generalize r.s=rs at *;generalize r.l=rl at *;refine Zz ?_;intros;refine F1 aS (B7 Raw.g_len) fun _ _ _=>?_;(refine Zz ?_;with_reducible repeat' first|intro _|apply aI)
 ·refine F1 aS (B7 Raw.g_len) fun _ _ _=>?_;refine Zz ?_;intros;rw [show rl.getD i Raw.zero=rl[i]'oM by simp [List.getD,List.getElem?_eq_getElem (by omega:i < rl.length)]];exact s9 ⟨.ret _ _ (.a _ _ _ (Raw.g_len _).symm aS),.nil⟩
 ·rw [show rl.getD i Raw.zero=Raw.zero by simp [List.getD,List.getElem?_eq_none (by omega:rl.length≤i)]];exact s9 ⟨.ret _ _ (.ag _ _ (by (exact Zru))),.nil⟩
def T4:u5:=s5 4 1919251317
theorem e5r:v8 32 (c4y fun s=>.a (sg (T4,s))):=A8 (fun fn h=>d8c h) [] .nil fun U fn hfn s vs bs hv hb=>by
 change z7 [.c (.s s)] vs at hv;change u0 [] bs at hb;show t6 U _ fun v bs'=>A3 (.ret (.a (sg (T4,s)))) v∧u0 [] bs';unfold r32;refine Zz ?_;intros;exact s9 ⟨.ret _ _ (.ag _ _ (by (exact Zru))),.nil⟩
def b31 (f:Nat→Q):Nat→Nat→Nat→u1 Q
 | 0,_,_=>.nil
 | d+1,a,b=>.node (f a) (b31 f d (a+b) (2 * b)) (b31 f d (a+2 * b) (2 * b))
theorem b7q (f:Nat→Q):∀ (d a b i:Nat),i+2≤2 ^ d→(b31 f d a b).get i=some (f (a+b * i))
 | 0,_,_,i,h=>by simp at h
 | d+1,a,b,0,h=>by rw [b31,u1.get_zero,Nat.mul_zero,Nat.add_zero]
 | d+1,a,b,j+1,h=>by
  rw [Nat.pow_succ] at h;have hj:j / 2+2≤2 ^ d:=oM;rw [b31,u1.get_succ];rcases Nat.mod_two_eq_zero_or_one j with h0 | h0
  ·obtain ⟨m,rfl⟩:∃ m,j=2 * m:=⟨j / 2,oM⟩;rw [h0];show (b31 f d (a+b) (2 * b)).get (2 * m / 2)=_;rw [b7q f d _ _ _ hj,show 2 * m / 2=m by omega];congr 2;rw [Nat.mul_add,Nat.mul_one,← Nat.mul_assoc,Nat.mul_comm b 2];omega
  ·obtain ⟨m,rfl⟩:∃ m,j=2 * m+1:=⟨j / 2,oM⟩;rw [h0];show (b31 f d (a+2 * b) (2 * b)).get ((2 * m+1) / 2)=_;rw [b7q f d _ _ _ hj,show (2 * m+1) / 2=m by omega];congr 2;rw [show 2 * m+1+1=2 * m+2 by omega,Nat.mul_add,← Nat.mul_assoc,Nat.mul_comm b 2];omega
def a69 (rows:List (List Q)):u1 Q:=b31 (fun i=>.agg (rows.getD i []) 0) 48 0 1
theorem c8x {rows:List (List Q)} {i:Nat} (h:i < 140737488355328):(a69 rows).get i=some (.agg (rows.getD i []) 0):=by
 unfold a69;rw [b7q _ 48 0 1 i oM,Nat.zero_add,Nat.one_mul]
theorem f1z {rows:List (List Q)} {i:Nat} (h:i < 140737488355328):tQ (a69 rows) i=.agg (rows.getD i []) 0:=by
 unfold tQ;rw [c8x h]
mutual
/-- A tree's cells. -/
def qc:Raw→List Q
 | .mk k n s l=>[.int .i64 k,.int .i64 n,.str s.length (D0 s),.slice (a69 (qs l)) 4 0 l.length]
def qs:List Raw→List (List Q)
 | []=>[]
 | x :: xs=>qc x :: qs xs
end
theorem d4q:∀ l:List Raw,qs l=l.map qc
 | []=>rfl
 | x :: xs=>by rw [qs,d4q xs];rfl
theorem f5s (r:Raw):(qc r).length=4:=by cases r;rfl
mutual
/-- No list is longer than memory. -/
def b34:Raw→Prop
 | .mk _ _ _ l=>l.length < 140737488355328∧b1s l
def b1s:List Raw→Prop
 | []=>True
 | x :: xs=>b34 x∧b1s xs
end
theorem c3s:∀ {l:List Raw},b1s l↔∀ x ∈ l,b34 x
 | []=>⟨fun _ x h=>absurd h (by simp),fun _=>trivial⟩
 | y :: l=>by
  show b34 y∧b1s l↔_;rw [c3s];simp
theorem d8x {l:List Raw} (h:l.length < 140737488355328) (hx:∀ x ∈ l,a04 x.g (qc x)):A5 4 (l.map Raw.g) (a69 (qs l)) 0:=.of fun j r e=>by
 rw [List.getElem?_map] at e;cases hj:l[j]? with
 | none=>rw [hj] at e;cases e
 | some x =>
  rw [hj] at e;injection e with e;subst e;have hlt:j < l.length:=(List.getElem?_eq_some_iff.1 hj).1;have hx2:=hx x (List.mem_of_getElem? hj);refine ⟨x.g_len,?_⟩;rw [Nat.zero_add,f1z oM,d4q];rw [show (l.map qc).getD j []=qc x by simp [List.getD,hj]];exact a06 (by rw [Raw.g_len];decide) hx2.cel
theorem g38 {g0 g1 g2 g3:G} {q0 q1 q2 q3:Q} (h0:RG g0 q0) (h1:RG g1 q1) (h2:RG g2 q2) (h3:RG g3 q3):a04 [g0,g1,g2,g3] [q0,q1,q2,q3]:=by
 repeat' first | assumption | constructor
mutual
theorem e5y:∀ {r:Raw},b34 r→a04 r.g (qc r)
 | .mk k n s l,h=>by
  have hr:=d8x h.1 (d4r h.2);rw [← Raw.gs_eq] at hr;exact g38 (.i _ _) (.i _ _) (.s _ _ _ rfl rfl) (.l _ _ _ _ _ (by rw [Raw.gs_eq,List.length_map]) hr)
theorem d4r:∀ {l:List Raw},b1s l→∀ x ∈ l,a04 x.g (qc x)
 | [],_,x,h=>absurd h (by simp)
 | y :: l,h,x,hx=>by
  cases hx with
  | head=>exact e5y h.1
  | tail _ hx=>exact d4r h.2 x hx
end
def dc (r:Raw):List D:=(qc r).map fun q=>den q 0
theorem c55 {cs:List Q}:∀ {n i:Nat},i+n=cs.length→C1 (den (.agg cs 0)) i n=(cs.drop i).map fun q=>den q 0
 | 0,i,h=>by rw [List.drop_of_length_le oM];rfl
 | n+1,i,h=>by
  have hi:i < cs.length:=oM;rw [C1,c55 oM,List.drop_eq_getElem_cons hi,List.map_cons];congr 1;simp only [den];rw [Nat.zero_add,c0g,List.getElem?_eq_getElem hi];rfl
theorem e45 (r:Raw):C1 (den (.agg (qc r) 0)) 0 4=dc r:=by
 rw [c55 (by rw [f5s])];rfl
theorem d8t {l:List Raw} {k m:Nat} (h:k+(m+1)=l.length) (hl:l.length < 140737488355328):rows (D2 (a69 (qs l))) 4 k (m+1)=dc (l[k]'oM) ++ rows (D2 (a69 (qs l))) 4 (k+1) m:=by
 have hk:k < l.length:=oM;rw [rows,W4,c8x oM,d4q,show (l.map qc).getD k []=qc l[k] by simp [List.getD,List.getElem?_eq_getElem hk]];show C1 (den (.agg (qc l[k]) 0)) 0 4 ++ _=_;rw [e45]
variable {H:Type} {enc:TypeId × Value→H} {w:World} {sp:Nat→Bool} {held:Bool}
def a8g (w:World):B6:=fun b _=>b < w.heap.size
def okW (t:TypeId) (d:DataW H):Prop:=(d.weights Tryz.prog t).all (·≤reachBytes)=true
theorem c5g:Tryz.prog.cellsOf 24=4:=kR
theorem e09:Tryz.prog.bytesOf 24=56:=kR
theorem c5f:Tryz.prog.cellsOf 3=1:=kR
theorem e1b:Tryz.prog.cellsOf 9=1:=kR
theorem e66:Tryz.prog.cellsOf 22=1:=kR
theorem b8r {a:Addr} {cs:List Value} (h:w.cells? 0 a 4=some cs):∃ c0 c1 c2 c3,cs=[c0,c1,c2,c3]∧w.cell? a=some c0∧w.cell? (a.add 1)=some c1∧w.cell? (a.add 2)=some c2∧w.cell? (a.add 3)=some c3:=by
 unfold World.cells? at h;rw [if_pos (Nat.zero_le _),show List.range 4=[0,1,2,3] from rfl] at h;simp only [List.mapM_cons,List.mapM_nil,Option.bind_eq_bind,Option.bind_eq_some_iff,Option.pure_def,Option.some.injEq] at h;obtain ⟨c0,h0,l0,⟨c1,h1,l1,⟨c2,h2,l2,⟨c3,h3,l3,rfl,rfl⟩,rfl⟩,rfl⟩,rfl⟩:=h;exact ⟨c0,c1,c2,c3,rfl,h0,h1,h2,h3⟩
theorem e65 {a:Addr} {v:Value} (h:w.cell? a=some v):a.block < w.heap.size:=by
 unfold World.cell? at h;cases e:w.heap[a.block]? with
 | none=>rw [e] at h;cases h
 | some o=>exact (Array.getElem?_eq_some_iff.1 e).1
theorem d5m {a:Addr} {v:Value} (h:w.cell? a=some v):a.spot=none:=by
 unfold World.cell? at h;split at h
 ·split at h
  ·cases h
  ·rename_i hs;cases e:a.spot with
   | none=>rfl
   | some x=>rw [e] at hs;exact absurd rfl hs
 ·cases h
theorem c45 {b o n:Nat}:(⟨b,o,none⟩:Addr).add n=⟨b,o+n,none⟩:=by
 unfold Addr.add;split
 ·rename_i h;rw [h];rfl
 ·rfl
def N7 (w:World) (b:Nat):Nat→Nat→List Value
 | _,0=>[]
 | o,n+1=>(w.cell? ⟨b,o,none⟩).getD .nilIface :: N7 w b (o+1) n
theorem b7y {b:Nat}:∀ {n o i:Nat} {v:Value},(N7 w b o n)[i]?=some v→i < n∧v=(w.cell? ⟨b,o+i,none⟩).getD .nilIface
 | 0,o,i,v,h=>by simp [N7] at h
 | n+1,o,0,v,h=>by
  simp only [N7,List.getElem?_cons_zero,Option.some.injEq] at h;exact ⟨oM,h.symm⟩
 | n+1,o,i+1,v,h=>by
  simp only [N7,List.getElem?_cons_succ] at h;have:=b7y h;exact ⟨oM,by rw [this.2];congr 3;omega⟩
theorem a97 {t:TypeId}:∀ {l:List (DataW H)},(DataW.weightsAll Tryz.prog t l).all (·≤reachBytes)=true→∀ d ∈ l,okW t d
 | [],_,d,hd=>absurd hd (by simp)
 | x :: l,h,d,hd=>by
  rw [DataW.weightsAll,List.all_append,Bool.and_eq_true] at h;cases hd with
  | head=>exact h.1
  | tail _ hd=>exact a97 h.2 d hd
theorem c9q {P:Nat→Raw→Prop} {n:Nat} (h:∀ i,i < n→∃ r,P i r):∃ l:List Raw,∃ hl:l.length=n,∀ i (hi:i < n),P i (l[i]'oM):=by
 induction n with
 | zero=>exact ⟨[],rfl,fun i hi=>absurd hi (Nat.not_lt_zero _)⟩
 | succ n ih =>
  obtain ⟨l,hl,k⟩:=ih fun i hi=>h i oM;obtain ⟨r,hr⟩:=h n oM;refine ⟨l ++ [r],by simp [hl],fun i hi=>?_⟩;by_cases hin:i < n
  ·rw [List.getElem_append_left oM];exact k i hin
  ·have:i=n:=oM;subst this;rw [List.getElem_append_right oM];simpa [hl] using hr
theorem e57 {n:Nat} (IH:∀ cs x,DataW.trod enc Tryz.prog w 0 sp held n 24 cs=some x→okW 24 x.1→∃ r,b34 r∧C4 (a8g w) H4 w cs (dc r)) {cs:List Value} {x:DataW H × List MemPlace}
  (h:DataW.trod enc Tryz.prog w 0 sp held (n+1) 22 cs=some x) (hw:okW 22 x.1) :
  ∃ v l,cs=[v]∧l.length < 140737488355328∧b1s l∧Rd (a8g w) H4 w v (.slice l.length (rows (D2 (a69 (qs l))) 4 0 l.length) .no):=by
 rcases DataW.trod_slice Tryz.underlying22 h with ⟨rfl,hx⟩ | ⟨a,len,cap,elems,rest,n',e1,rfl,hx,_,hlc,hcap,hel,hget,_,_⟩
 ·exact ⟨_,[],rfl,dE,trivial,.slice none 0 0 [] [] .no (.inl rfl) .nil trivial (Nat.le_refl _) (fun _=>rfl)⟩
 ·have e1:n'=n:=oM;subst e1;rw [hx] at hw;unfold okW at hw;simp only [DataW.weights,Tryz.underlying22,e09,List.all_cons,List.all_append,Bool.and_eq_true,decide_eq_true_eq,List.length_map] at hw;obtain ⟨hw1,hw2,_⟩:=hw;have hlen:len < 140737488355328:=by
   have:reachBytes=140737488351232:=rfl;omega
  have key:∀ i,i < len→∃ r,b34 r∧∃ cs,w.cells? 0 (a.add (i * 4)) 4=some cs∧C4 (a8g w) H4 w cs (dc r):=fun i hi=>by
   have hg:=hget i hi;rw [List.getElem?_eq_getElem oM,c5g,Option.bind_eq_some_iff] at hg;obtain ⟨cs,h1,h2⟩:=hg;obtain ⟨r,h3,h4⟩:=IH cs _ h2 (a97 hw2 _ (List.mem_map_of_mem (List.getElem_mem _)));exact ⟨r,h3,cs,h1,h4⟩
  obtain ⟨l,hl,hP⟩:=c9q key;have hwl:b1s l:=c3s.2 fun x hx=>by
   obtain ⟨i,hi,rfl⟩:=List.getElem_of_mem hx;exact (hP i oM).1
  by_cases h0:len=0
  ·have:l=[]:=List.eq_nil_of_length_eq_zero oM;subst this;subst h0;exact ⟨_,[],rfl,dE,trivial,.slice (some a) 0 cap [] [] .no (.inl rfl) .nil trivial hlc (fun h=>by cases h)⟩
  ·have ha:a=⟨a.block,a.off,none⟩:=by
    obtain ⟨_,cs,h1,_⟩:=hP 0 oM;obtain ⟨c0,_,_,_,_,h2,_⟩:=b8r h1;have hs:=d5m h2;rw [Nat.zero_mul] at hs;have e:a.add 0=a:=if_pos rfl;rw [e] at hs;cases a;simp only at hs;rw [hs]
   generalize a.block=b at ha;generalize a.off=o at ha;subst ha;have hblk:∀ i,i < len→∃ c0 c1 c2 c3,w.cell? ⟨b,o+4 * i,none⟩=some c0∧w.cell? ⟨b,o+4 * i+1,none⟩=some c1∧w.cell? ⟨b,o+4 * i+2,none⟩=some c2∧w.cell? ⟨b,o+4 * i+3,none⟩=some c3∧∀ hi:i < l.length,C4 (a8g w) H4 w [c0,c1,c2,c3] (dc l[i]):=fun i hi=>by
    obtain ⟨_,cs,h1,h2⟩:=hP i hi;obtain ⟨c0,c1,c2,c3,rfl,k0,k1,k2,k3⟩:=b8r h1;rw [c45,Nat.mul_comm] at k0 k1 k2 k3;rw [c45] at k1 k2 k3;exact ⟨c0,c1,c2,c3,k0,k1,k2,k3,fun _=>h2⟩
   have hrds:∀ m k,k+m=len→C4 (a8g w) H4 w (N7 w b (o+4 * k) (4 * m)) (rows (D2 (a69 (qs l))) 4 k m):=by
    intro m
    induction m with
    | zero=>intro k _;exact .nil
    | succ m ih =>
     intro k hk;obtain ⟨c0,c1,c2,c3,k0,k1,k2,k3,kr⟩:=hblk k oM;have h2:=ih (k+1) oM;rw [d8t oM oM];have e:N7 w b (o+4 * k) (4 * (m+1))=[c0,c1,c2,c3] ++ N7 w b (o+4 * (k+1)) (4 * m):=by
      rw [show 4 * (m+1)=4 * m+1+1+1+1 by omega];simp only [N7];rw [k0,k1,show o+4 * k+1+1=o+4 * k+2 by omega,k2,show o+4 * k+2+1=o+4 * k+3 by omega,k3,show o+4 * k+3+1=o+4 * (k+1) by omega];rfl
     rw [e];exact (kr oM).append h2
   refine ⟨_,l,rfl,oM,hwl,?_⟩;have h3:=hrds len 0 oM;rw [hl];refine .slice (some ⟨b,o,none⟩) len cap _ _ .no (.inr ⟨b,o,rfl,fun i v hi=>?_⟩) h3 trivial hlc (fun h=>by cases h);obtain ⟨hi4,hv⟩:=b7y hi;rw [Nat.mul_zero,Nat.add_zero] at hv;obtain ⟨c0,c1,c2,c3,k0,k1,k2,k3,_⟩:=hblk (i / 4) oM;have hc:w.cell? ⟨b,o+i,none⟩=some v:=by
    have:i % 4=0∨i % 4=1∨i % 4=2∨i % 4=3:=oM;rcases this with e | e | e | e
    ·rw [show o+i=o+4 * (i / 4) by omega] at hv ⊢;rw [k0] at hv ⊢;rw [hv];rfl
    ·rw [show o+i=o+4 * (i / 4)+1 by omega] at hv ⊢;rw [k1] at hv ⊢;rw [hv];rfl
    ·rw [show o+i=o+4 * (i / 4)+2 by omega] at hv ⊢;rw [k2] at hv ⊢;rw [hv];rfl
    ·rw [show o+i=o+4 * (i / 4)+3 by omega] at hv ⊢;rw [k3] at hv ⊢;rw [hv];rfl
   exact ⟨e65 hc,hc⟩
theorem d8q:∀ (n:Nat) (cs:List Value) (x:DataW H × List MemPlace),DataW.trod enc Tryz.prog w 0 sp held n 24 cs=some x→okW 24 x.1→∃ r,b34 r∧C4 (a8g w) H4 w cs (dc r):=by
 intro n
 induction n using Nat.strongRecOn with
 | _ n ih =>
 intro cs x h hw;obtain ⟨xs,m,rfl,hx,hlen,hxl,hf⟩:=DataW.trod_struct Tryz.underlying24 h;rw [c5g] at hlen;obtain ⟨c0,c1,c2,c3,rfl⟩:∃ c0 c1 c2 c3,cs=[c0,c1,c2,c3]:=by
  match cs,hlen with
  | [c0,c1,c2,c3],_=>exact ⟨c0,c1,c2,c3,rfl⟩
 obtain ⟨x0,x1,x2,x3,rfl⟩:∃ x0 x1 x2 x3,xs=[x0,x1,x2,x3]:=by
  match xs,hxl with
  | [x0,x1,x2,x3],_=>exact ⟨x0,x1,x2,x3,rfl⟩
 have f0:DataW.trod enc Tryz.prog w 0 sp held m 3 (([c0,c1,c2,c3].drop 0).take (Tryz.prog.cellsOf 3))=some x0:=hf 0 _ rfl;rw [c5f] at f0;change DataW.trod enc Tryz.prog w 0 sp held m 3 [c0]=some x0 at f0;have f1:DataW.trod enc Tryz.prog w 0 sp held m 3 (([c0,c1,c2,c3].drop 1).take (Tryz.prog.cellsOf 3))=some x1:=hf 1 _ rfl;rw [c5f] at f1;change DataW.trod enc Tryz.prog w 0 sp held m 3 [c1]=some x1 at f1;have f2:DataW.trod enc Tryz.prog w 0 sp held m 9 (([c0,c1,c2,c3].drop 2).take (Tryz.prog.cellsOf 9))=some x2:=hf 2 _ rfl;rw [e1b] at f2;change DataW.trod enc Tryz.prog w 0 sp held m 9 [c2]=some x2 at f2;have f3:DataW.trod enc Tryz.prog w 0 sp held m 22 (([c0,c1,c2,c3].drop 3).take (Tryz.prog.cellsOf 22))=some x3:=hf 3 _ rfl;rw [e66] at f3;change DataW.trod enc Tryz.prog w 0 sp held m 22 [c3]=some x3 at f3;obtain ⟨k,e0,_,_⟩:=DataW.trod_int Tryz.underlying3 f0;obtain ⟨nn,e1,_,_⟩:=DataW.trod_int Tryz.underlying3 f1;obtain ⟨s,e2,_,_⟩:=DataW.trod_string Tryz.underlying9 f2;injection e0 with e0;injection e1 with e1;injection e2 with e2;subst e0 e1 e2;rw [hx] at hw;unfold okW at hw;simp only [DataW.weights,Tryz.underlying24,List.map_cons,List.map_nil,DataW.weightsEach,List.all_append,Bool.and_eq_true] at hw;obtain ⟨_,_,_,hw3,_⟩:=hw;cases m with
 | zero=>simp [DataW.trod] at f3
 | succ m =>
  obtain ⟨v,l,e3,hl,hwl,hr⟩:=e57 (n:=m) (fun cs x h1 h2=>ih m oM cs x h1 h2) f3 hw3;injection e3 with e3;subst e3;refine ⟨.mk k nn s.data.toList l,⟨hl,hwl⟩,?_⟩;refine .k (.int _ _) (.k (.int _ _) (.k (.str _ _ ?_) (.k ?_ .nil)))
  ·exact (E6 _).symm
  ·exact hr
inductive T where
 | v (s:Sy)
 | c (o:O)
 | call (f:Sy) (args:List T)
mutual
def T.g:T→List G
 | .v s=>[.i .i64 1,.s s.1,.s s.2,.i .i64 0,.s [],.s [],.s [],.s [],.s [],.l [],.l []]
 | .c o=>[.i .i64 2,.s [],.s [],.i .i64 o.k,.s o.nu,.s o.de,.s o.sym.1,.s o.sym.2,.s o.txt,.l (o.ps.map O.g),.l []]
 | .call f args=>[.i .i64 3,.s f.1,.s f.2,.i .i64 0,.s [],.s [],.s [],.s [],.s [],.l [],.l (T.gs args)]
def T.gs:List T→List (List G)
 | []=>[]
 | t :: ts=>t.g :: T.gs ts
end
theorem T.gs_eq:∀ l:List T,T.gs l=l.map T.g
 | []=>rfl
 | t :: ts=>by rw [T.gs,T.gs_eq ts];rfl
theorem T.g_len (t:T):t.g.length=11:=by cases t <;> rfl
mutual
theorem T.g_inj:∀ {a b:T},a.g=b.g→a=b
 | .v s,b,h=>by
  cases b with
  | v r =>
   simp only [T.g,List.cons.injEq,G.s.injEq] at h;exact congrArg T.v (Prod.ext h.2.1 h.2.2.1)
  | c o=>simp only [T.g,List.cons.injEq,G.i.injEq] at h;exact absurd h.1.2 dE
  | call f l=>simp only [T.g,List.cons.injEq,G.i.injEq] at h;exact absurd h.1.2 dE
 | .c o,b,h=>by
  cases b with
  | v r=>simp only [T.g,List.cons.injEq,G.i.injEq] at h;exact absurd h.1.2 dE
  | c p =>
   refine congrArg T.c (O.g_inj ?_);rw [o.g_eq,p.g_eq];simp only [T.g,List.cons.injEq] at h ⊢;obtain ⟨_,_,_,h1,h2,h3,h4,h5,h6,h7,_⟩:=h;exact ⟨h1,h2,h3,h4,h5,h6,h7,trivial⟩
  | call f l=>simp only [T.g,List.cons.injEq,G.i.injEq] at h;exact absurd h.1.2 dE
 | .call f l,b,h=>by
  cases b with
  | v r=>simp only [T.g,List.cons.injEq,G.i.injEq] at h;exact absurd h.1.2 dE
  | c p=>simp only [T.g,List.cons.injEq,G.i.injEq] at h;exact absurd h.1.2 dE
  | call f' l' =>
   simp only [T.g,List.cons.injEq,G.s.injEq,G.l.injEq] at h;obtain ⟨_,h1,h2,_,_,_,_,_,_,_,h3,_⟩:=h;rw [T.gs_inj h3,show f=f' from Prod.ext h1 h2]
theorem T.gs_inj:∀ {a b:List T},T.gs a=T.gs b→a=b
 | [],b,h=>by
  cases b with
  | nil=>rfl
  | cons x y=>simp [T.gs] at h
 | t :: ts,b,h=>by
  cases b with
  | nil=>simp [T.gs] at h
  | cons x y =>
   simp only [T.gs,List.cons.injEq] at h;rw [T.g_inj h.1,T.gs_inj h.2]
end
theorem f4q:v8 24 (spO fun a=>.a (T.c a).g):=A8 (fun fn h=>d79 h) [] .nil fun U fn hfn a vs bs hv hb=>by
 have hv:z7 [.a a.g] vs:=hv;have hb:u0 [] bs:=hb;show t6 U _ fun v bs'=>A3 (.ret (.a (T.c a).g)) v∧u0 [] bs';unfold r24;rw [a.g_eq] at hv;refine Zz ?_;intros;exact P0 fun e=>by subst e;exact ⟨.ret _ _ (by (exact Zru)),.nil⟩
def g5i:Sp where
 ι:=Sy × List T
 A p:=[.a (sg p.1),.sl 11 (p.2.map T.g)]
 B _:=[]
 R p:=.ret (.a (T.call p.1 p.2).g)
 B' _:=[]
 inj i j vs bs h k _ _:=by
  obtain ⟨_,_,h1,k1,h,k⟩:=h.two k;obtain ⟨_,_,h2,k2,h,k⟩:=h.two k;have e1:=a1f (h1.a_inj k1);have e2:=h2.sl_inj k2;rw [← T.gs_eq,← T.gs_eq] at e2;have e3:=T.gs_inj e2;rw [e1,e3];exact ⟨rfl,rfl⟩
theorem f4l:v8 39 g5i:=A8 (fun fn h=>d8g h) [] .nil fun U fn hfn ⟨f,l⟩ vs bs hv hb=>by
 have hv:z7 [.a [.s f.1,.s f.2],.sl 11 (l.map T.g)] vs:=hv;have hb:u0 [] bs:=hb;show t6 U _ fun v bs'=>A3 (.ret (.a (T.call f l).g)) v∧u0 [] bs';unfold r39;refine Zz ?_;intros;refine P0 fun e=>?_;subst e;refine ⟨.ret _ _ (.ag _ _ ?_),.nil⟩;simp only [T.g,T.gs_eq,List.map_cons,List.map_nil];refine .k (.i _ _) (.k (.q _ _ (A7.at aS rfl)) (.k (.q _ _ (A7.at aS rfl)) (.k (.i _ _) (.k (.s _ _ _ rfl rfl) (.k (.s _ _ _ rfl rfl) (.k (.s _ _ _ rfl rfl) (.k (.s _ _ _ rfl rfl) (.k (.s _ _ _ rfl rfl) (.k (.cl _ _ _ _ _ rfl (A5.nil _ _ _)) (.k (.cl _ _ _ _ _ (by simp) aS) .nil))))))))))
def bd (b:Sy × O):List G:=[.s b.1.1,.s b.1.2,.i .i64 b.2.k,.s b.2.nu,.s b.2.de,.s b.2.sym.1,.s b.2.sym.2,.s b.2.txt,.l (b.2.ps.map O.g)]
theorem f2x {a b:Sy × O} (h:bd a=bd b):a=b:=by
 simp only [bd,List.cons.injEq,G.s.injEq] at h;obtain ⟨h1,h2,h3⟩:=h;refine Prod.ext (Prod.ext h1 h2) (O.g_inj ?_);rw [a.2.g_eq,b.2.g_eq];simp only [List.cons.injEq,G.s.injEq];exact h3
theorem a7w:∀ {l m:List (Sy × O)},l.map bd=m.map bd→l=m
 | [],[],_=>rfl
 | [],_ :: _,h=>by simp at h
 | _ :: _,[],h=>by simp at h
 | a :: l,b :: m,h=>by simp only [List.map_cons,List.cons.injEq] at h;exact congr (congrArg List.cons (f2x h.1)) (a7w h.2)
def Z0:List (Sy × O)→Sy→Option O
 | [],_=>none
 | b :: l,s=>if b.1=s then some b.2 else Z0 l s
theorem a95 (s:Sy):(sg s).length=2:=rfl
theorem b3f:∀ {l m:List Sy},l.map sg=m.map sg→l=m
 | [],[],_=>rfl
 | [],_ :: _,h=>by simp at h
 | _ :: _,[],h=>by simp at h
 | a :: l,b :: m,h=>by simp only [List.map_cons,List.cons.injEq] at h;exact congr (congrArg List.cons (a1f h.1)) (b3f h.2)
theorem a9b (b:Sy × O):(bd b).length=9:=rfl
theorem e4w {s:Sy} {o:O} {x y:Q} (h:A7 (sg s) x 0) (k:A7 o.g y 0):Row (bd (s,o)) (.agg [CU.celQ x 0,CU.celQ x 1,CU.celQ y 0,CU.celQ y 1,CU.celQ y 2,CU.celQ y 3,CU.celQ y 4,CU.celQ y 5,CU.celQ y 6] 0):=by
 rw [o.g_eq] at k;exact a06 (by rw [a9b];decide) (a04.cel (.cons _ _ _ _ (A7.at h rfl) (.cons _ _ _ _ (A7.at h rfl) (.cons _ _ _ _ (A7.at k rfl) (.cons _ _ _ _ (A7.at k rfl) (.cons _ _ _ _ (A7.at k rfl) (.cons _ _ _ _ (A7.at k rfl) (.cons _ _ _ _ (A7.at k rfl) (.cons _ _ _ _ (A7.at k rfl) (.cons _ _ _ _ (A7.at k rfl) .nil))))))))))
theorem b2c {α β:Type} (l:List α) (m:List β) (i:Nat) (h:i < l.length) (k:i < m.length):(List.zip l m).take (i+1)=(List.zip l m).take i ++ [(l[i],m[i])]:=by
 rw [List.take_add_one,List.getElem?_eq_getElem (by simp;omega)];simp
def isC (t:T) (s:u5) (n:Int):Bool:=match t with
 | .call f l=>decide (f=(B0,s)) && decide ((l.length:Int)=n)
 | _=>false
end
end Go.Proofs.YtkojildpddaccaaGreatDoor
namespace Go.Abs
noncomputable section
def one (f:G→Q→Bool) (r:List G) (q:Q):Bool:=match r with | [g]=>f g q | _=>true
def a3b (f:G→Q→Bool) (n:Nat) (t:u1 Q):List (List G)→Nat→Bool
 | [],_=>true
 | r :: rs,off=>Nat.beq r.length n && ((chkCel f (tQ t off) r 0) && (one f r (tQ t off) && a3b f n t rs (off+1)))
where chkCel (f:G→Q→Bool) (q:Q):List G→Nat→Bool
 | [],_=>true
 | g :: gs,i=>f g (celQ q i) && chkCel f q gs (i+1)
def d26:Nat→G→Q→Bool
 | 0,_,_=>false
 | f+1,g,q=>match g,q with
  | .b x,.bool y=>x == y
  | .i k n,.int k' n'=>decide (k=k') && decide (n=n')
  | .s x,.str l c=>Nat.beq l x.length && Nat.beq c (D0 x)
  | .l xs,.slice t n off len=>Nat.beq len xs.length && a3b (d26 f) n t xs off
  | _,_=>false
theorem c2e {f:G→Q→Bool} (h:∀ g q,f g q=true→RG g q) {q:Q}:∀ {gs:List G} {i:Nat},a3b.chkCel f q gs i=true→A7 gs q i
 | [],_,_=>.nil _ _
 | g :: gs,i,e=>by
  rw [a3b.chkCel,Bool.and_eq_true] at e;exact .k (h _ _ e.1) (c2e h e.2)
theorem a2k {f:G→Q→Bool} (h:∀ g q,f g q=true→RG g q) {n:Nat} {t:u1 Q}:∀ {xs:List (List G)} {off:Nat},a3b f n t xs off=true→A5 n xs t off
 | [],_,_=>.nil _ _ _
 | r :: rs,off,e=>by
  rw [a3b,Bool.and_eq_true,Bool.and_eq_true,Bool.and_eq_true] at e;obtain ⟨e1,e2,e3,e4⟩:=e;refine .cons _ _ _ _ _ (Nat.eq_of_beq_eq_true e1) (c2e h e2) (fun g k=>?_) (a2k h e4);subst k;exact h _ _ e3
theorem b39:∀ (f:Nat) (g:G) (q:Q),d26 f g q=true→RG g q
 | 0,_,_,e=>by cases e
 | f+1,g,q,e=>by
  unfold d26 at e;split at e
  ·have:=eq_of_beq e;subst this;exact .b _
  ·rw [Bool.and_eq_true] at e;have e1:=of_decide_eq_true e.1;have e2:=of_decide_eq_true e.2;subst e1 e2;exact .i _ _
  ·rw [Bool.and_eq_true] at e;exact .s _ _ _ (Nat.eq_of_beq_eq_true e.1) (Nat.eq_of_beq_eq_true e.2)
  ·rw [Bool.and_eq_true] at e;exact .l _ _ _ _ _ (Nat.eq_of_beq_eq_true e.1) (a2k (b39 f) e.2)
  ·cases e
end
end Go.Abs
namespace Go.Proofs.YtkojildpddaccaaGreatDoor
open Go.Abs LQ
set_option maxRecDepth 100000
set_option maxHeartbeats 4000000
noncomputable section
def K5:List (u5 × Int):=[(s5 2 26217,3),(s5 5 465491554661,2),(s5 4 1936617315,2),(s5 3 7496035,1),(s5 3 7496803,1),(s5 5 482972954467,1),(s5 7 31644423040104819,1),(s5 7 31638921304765555,1),(s5 9 2073844980909096591730,1),(s5 8 8102650174351109737,1),(s5 8 3111276449750739298,2),(s5 8 3039218855712811362,2),(s5 7 12716373585260149,1),(s5 7 13279323538681461,1),(s5 1 60,2),(s5 9 2110959975582353159534,1),(s5 11 138343872958643594702251364,1),(s5 5 491495844966,1),(s5 11 122618043001006431572687219,1),(s5 19 2261903658058535744205936875630873591400986995,1),(s5 6 121437607456361,2),(s5 13 7956982234992646578836044149875,2),(s5 13 8275754203313416711865239762035,1),(s5 11 122651541423547657927947379,2),(s5 11 125040764888893661906237794,1)]
def rg (p:u5 × Int):List G:=[.s p.1,.i .i64 p.2]
theorem e5p:v8 100 (sp0 (.sl 2 (K5.map rg))):=A8 (fun fn h=>d1p h) [] .nil fun U fn hfn _ vs bs hv hb=>by
 have hv:z7 [] vs:=hv;have hb:u0 [] bs:=hb;show t6 U _ fun v bs'=>A3 (.ret (.sl 2 (K5.map rg))) v∧u0 [] bs';unfold e3b;refine Zz ?_;intros;exact s9 ⟨.ret _ _ (.sl _ _ _ _ _ rfl (a2k (b39 2) (by rfl))),.nil⟩
def N4:List (u5 × Int)→u5→Option Int
 | [],_=>none
 | p :: l,s=>if p.1=s then some p.2 else N4 l s
def D7 (s:Sy):Option Int:=if s.1=B0 then N4 K5 s.2 else none
def okI (o:Option Int):GV:=match o with
 | some n=>.t [.c (.i .i64 n),.c (.b true)]
 | none=>.t [.c (.i .i64 0),.c (.b false)]
theorem e7q:v8 87 (c8r fun s=>okI (D7 s)):=A8 (fun fn h=>d8n h) [(100,_)] (.cons e5p .nil) fun U fn hfn s vs bs hv hb=>by
 have hv:z7 [.a [.s s.1,.s s.2]] vs:=hv;have hb:u0 [] bs:=hb;show t6 U _ fun v bs'=>A3 (.ret (okI (D7 s))) v∧u0 [] bs';unfold r87;(refine Zz ?_;with_reducible repeat' first|intro _|apply aI)
 ·refine s6 (hfn 100 _ rfl) () (r:=.sl 2 (K5.map rg)) rfl .nil .nil fun _ _ _ _=>?_;have e0:D7 s=N4 K5 s.2:=if_pos (by assumption:s.1=B0);rw [e0];have hl:K5.length=25:=rfl;generalize K5=l at *;refine Zz ?_;intros;refine I7 (fun (i:Nat) vs bs=>∃ (t:u1 Q) (off:Nat) (q:Q),vs=[.ptr 0 0,.slice t 2 off l.length .no,.int .i64 i]∧bs=[.opa q 2]∧A7 [.s s.1,.s s.2] q 0∧A5 2 (l.map rg) t off∧i≤l.length∧N4 (l.drop i) s.2=N4 l s.2) (fun i=>l.length - i) 0
   ⟨_,_,_,rfl,rfl,aS,aS,oM,rfl⟩ (by simp only [E3];omega) ?_
  rintro self i _ _ ⟨t,off,q,rfl,rfl,hq,ht,hi,he⟩ ih;(refine Zz ?_;with_reducible repeat' first|intro _|apply aI)
  ·rw [List.drop_eq_getElem_cons (by omega:i < l.length),N4,if_pos aS] at he;rw [← he];exact s9 ⟨.ret _ _ (.t _ _ (.k (.q _ _ aS) (.k (.kn _) .nil))),.nil⟩
  ·rw [List.drop_eq_getElem_cons (by omega:i < l.length),N4,if_neg aS] at he;exact ih (i+1) _ _ ⟨_,_,_,by simp,rfl,hq,ht,oM,he⟩ oM
  ·have ei:i=l.length:=oM;rw [ei,List.drop_length] at he;rw [← he];exact s9 ⟨.ret _ _ (.t _ _ (.k (.i _ _) (.k (.kn _) .nil))),.nil⟩
 ·have e0:D7 s=none:=if_neg (by assumption:¬s.1=B0);rw [e0];exact s9 ⟨.ret _ _ (.t _ _ (.k (.i _ _) (.k (.kn _) .nil))),.nil⟩
structure F where
 nm:Sy
 ps:List Sy
 cl:Int
 gd:T
 bo:T
 me:Fin 11→G
def F.mg (f:F):List G:=[f.me 0,f.me 1,f.me 2,f.me 3,f.me 4,f.me 5,f.me 6,f.me 7,f.me 8,f.me 9,f.me 10]
def F.g (f:F):List G:=.s f.nm.1 :: .s f.nm.2 :: .l (f.ps.map sg) :: .i .i64 f.cl :: (f.gd.g ++ (f.bo.g ++ f.mg))
theorem F.g_len (f:F):f.g.length=37:=by simp [F.g,F.mg,T.g_len]
theorem F.g_inj {a b:F} (h:a.g=b.g):a=b:=by
 simp only [F.g,List.cons.injEq,G.s.injEq,G.l.injEq,G.i.injEq] at h;obtain ⟨h1,h2,h3,⟨_,h4⟩,h5⟩:=h;have k1:=List.append_inj h5 (by rw [T.g_len,T.g_len]);have k2:=List.append_inj k1.2 (by rw [T.g_len,T.g_len]);have e1:a.nm=b.nm:=Prod.ext h1 h2;have e2:=b3f h3;have e3:=T.g_inj k1.1;have e4:=T.g_inj k2.1;have e5:a.me=b.me:=by
  have h:=k2.2;simp only [F.mg,List.cons.injEq,and_true] at h;obtain ⟨h0,h1,h2,h3,h4,h5,h6,h7,h8,h9,h10⟩:=h;funext ⟨i,hi⟩
  match i,hi with
  | 0,_=>exact h0
  | 1,_=>exact h1
  | 2,_=>exact h2
  | 3,_=>exact h3
  | 4,_=>exact h4
  | 5,_=>exact h5
  | 6,_=>exact h6
  | 7,_=>exact h7
  | 8,_=>exact h8
  | 9,_=>exact h9
  | 10,_=>exact h10
 cases a;cases b;simp only at e1 e2 e3 e4 e5 h4;subst e1 e2 e3 e4 e5 h4;rfl
theorem b6w:∀ {l m:List F},l.map F.g=m.map F.g→l=m
 | [],[],_=>rfl
 | [],_ :: _,h=>by simp at h
 | _ :: _,[],h=>by simp at h
 | a :: l,b :: m,h=>by simp only [List.map_cons,List.cons.injEq] at h;exact congr (congrArg List.cons (F.g_inj h.1)) (b6w h.2)
structure Et where
 kd:Int
 nm:Sy
 pre:Fin 17→G
 fns:List F
 post:Fin 11→G
def Et.g (e:Et):List G:=[.i .i64 e.kd,.s e.nm.1,.s e.nm.2,e.pre 0,e.pre 1,e.pre 2,e.pre 3,e.pre 4,e.pre 5,e.pre 6,e.pre 7,e.pre 8,e.pre 9,e.pre 10,e.pre 11,e.pre 12,e.pre 13,e.pre 14,e.pre 15,e.pre 16,.l (e.fns.map F.g),e.post 0,e.post 1,e.post 2,e.post 3,e.post 4,e.post 5,e.post 6,e.post 7,e.post 8,e.post 9,e.post 10]
theorem Et.g_len (e:Et):e.g.length=32:=rfl
theorem Et.g_key {a b:Et} (h:a.g=b.g):a.kd=b.kd∧a.fns=b.fns:=by
 have h0:(a.g)[0]?=(b.g)[0]?:=by rw [h]
 have h1:(a.g)[20]?=(b.g)[20]?:=by rw [h]
 have k0:some (G.i .i64 a.kd)=some (G.i .i64 b.kd):=h0;have k1:some (G.l (a.fns.map F.g))=some (G.l (b.fns.map F.g)):=h1;injection k0 with k0;injection k0 with _ k0;injection k1 with k1;injection k1 with k1;exact ⟨k0,b6w k1⟩
def Et.has (e:Et):Bool:=decide (e.kd=3) || decide (e.kd=5) || decide (e.kd=6) || decide (e.kd=7)
def Et.fl (e:Et):List F:=if e.has then e.fns else []
theorem Et.fl_key {a b:Et} (h:a.g=b.g):a.fl=b.fl:=by
 have k:=Et.g_key h;unfold Et.fl Et.has;rw [k.1,k.2]
def g0z (g:List F→GV):Sp where
 ι:=Et
 A e:=[.a e.g]
 B _:=[]
 R e:=.ret (g e.fl)
 B' _:=[]
 inj i j vs bs h k _ _:=by
  obtain ⟨_,_,h1,k1,h,k⟩:=h.two k;rw [Et.fl_key (h1.a_inj k1)];exact ⟨rfl,rfl⟩
theorem b8x:v8 133 (g0z fun l=>.sl 37 (l.map F.g)):=A8 (fun fn h=>d1t h) [] .nil fun U fn hfn (e:Et) vs bs hv hb=>by
 have hv:z7 [.a e.g] vs:=hv;have hb:u0 [] bs:=hb;show t6 U _ fun v bs'=>A3 (.ret (.sl 37 (e.fl.map F.g))) v∧u0 [] bs';unfold e3f;unfold Et.g at hv;(refine Zz ?_;with_reducible repeat' first|intro _|apply aI)
 ·have e1:e.fl=e.fns:=if_pos (by simp [Et.has, *]);rw [e1];exact s9 ⟨.ret _ _ (.slq _ _ _ aS (B7 F.g_len)),.nil⟩
 ·have e1:e.fl=e.fns:=if_pos (by simp [Et.has, *]);rw [e1];exact s9 ⟨.ret _ _ (.slq _ _ _ aS (B7 F.g_len)),.nil⟩
 ·have e1:e.fl=e.fns:=if_pos (by simp [Et.has, *]);rw [e1];exact s9 ⟨.ret _ _ (.slq _ _ _ aS (B7 F.g_len)),.nil⟩
 ·have e1:e.fl=e.fns:=if_pos (by simp [Et.has, *]);rw [e1];exact s9 ⟨.ret _ _ (.slq _ _ _ aS (B7 F.g_len)),.nil⟩
 ·have e1:e.fl=[]:=if_neg (by simp [Et.has, *]);rw [e1];exact s9 ⟨.ret _ _ (.sl0 _ _ _),.nil⟩
def plF:List F→Sy→Option Nat
 | [],_=>none
 | f :: l,s=>if f.nm=s then some 0 else (plF l s).map (·+1)
def X8:List (List F)→Sy→Option (Nat × Nat)
 | [],_=>none
 | l :: w,s=>match plF l s with
  | some k=>some (0,k)
  | none=>(X8 w s).map fun p=>(p.1+1,p.2)
theorem d7y:∀ {l:List F} {s:Sy} {k:Nat},plF l s=some k→k < l.length
 | [],_,_,h=>by cases h
 | f :: l,s,k,h=>by
  rw [plF] at h;split at h
  ·injection h with h;subst h;simp
  ·cases e:plF l s with
   | none=>rw [e] at h;cases h
   | some j =>
    rw [e] at h;simp only [Option.map_some,Option.some.injEq] at h;have:=d7y e;simp;omega
theorem c7z:∀ {w:List (List F)} {s:Sy} {i k:Nat},X8 w s=some (i,k)→∃ h:i < w.length,k < w[i].length
 | [],_,_,_,h=>by cases h
 | l :: w,s,i,k,h=>by
  rw [X8] at h;split at h
  ·rename_i j e;injection h with h;injection h with h1 h2;subst h1 h2;exact ⟨by simp,d7y e⟩
  ·cases e:X8 w s with
   | none=>rw [e] at h;cases h
   | some p =>
    rw [e] at h;injection h with h;injection h with h1 h2;obtain ⟨k1,k2⟩:=c7z (i:=p.1) (k:=p.2) e;subst h1 h2;exact ⟨by simp;omega,k2⟩
def okP (o:Option (Nat × Nat)):GV:=match o with
 | some p=>.t [.c (.i .i64 p.1),.c (.i .i64 p.2),.c (.b true)]
 | none=>.t [.c (.i .i64 0),.c (.i .i64 0),.c (.b false)]
abbrev Wd:={ w:List Et // w.length < 90000∧∀ e ∈ w,e.fl.length < 90000 }
def Wd.L (w:Wd):List (List F):=w.1.map Et.fl
theorem U2:∀ {l m:List Et},l.map Et.g=m.map Et.g→l.map Et.fl=m.map Et.fl
 | [],[],_=>rfl
 | [],_ :: _,h=>by simp at h
 | _ :: _,[],h=>by simp at h
 | a :: l,b :: m,h=>by
  simp only [List.map_cons,List.cons.injEq] at h;rw [List.map_cons,List.map_cons,Et.fl_key h.1,U2 h.2]
def c8s (g:List (List F)→Sy→GV):Sp where
 ι:=Wd × Sy
 A p:=[.sl 32 (p.1.1.map Et.g),.a (sg p.2)]
 B _:=[]
 R p:=.ret (g p.1.L p.2)
 B' _:=[]
 inj i j vs bs h k _ _:=by
  obtain ⟨_,_,h1,k1,h,k⟩:=h.two k;obtain ⟨_,_,h2,k2,h,k⟩:=h.two k;rw [Wd.L,Wd.L,U2 (h1.sl_inj k1),a1f (h2.a_inj k2)];exact ⟨rfl,rfl⟩
theorem f4z:v8 132 (c8s fun L s=>okP (X8 L s)):=A8 (fun fn h=>d1s h) [(133,_)] (.cons b8x .nil) fun U fn hfn ⟨⟨w,hw,hwl⟩,s⟩ vs bs hv hb=>by
 have hv:z7 [.sl 32 (w.map Et.g),.a [.s s.1,.s s.2]] vs:=hv;have hb:u0 [] bs:=hb;show t6 U _ fun v bs'=>A3 (.ret (okP (X8 (w.map Et.fl) s))) v∧u0 [] bs';unfold e3e;refine Zz ?_;intros;refine I7 (fun (i:Nat) vs bs=>∃ (t:u1 Q) (off:Nat) (q:Q),vs=[.slice t 32 off w.length .no,.ptr 0 0,.int .i64 i]∧bs=[.opa q 2]∧A7 [.s s.1,.s s.2] q 0∧A5 32 (w.map Et.g) t off∧i≤w.length∧X8 (w.map Et.fl) s=(X8 ((w.drop i).map Et.fl) s).map fun p=>(p.1+i,p.2)) (fun i=>w.length - i) 0
  ⟨_,_,_,rfl,rfl,aS,aS,oM,by simp⟩ (by simp only [E3];omega) ?_
 rintro self i _ _ ⟨t,off,q,rfl,rfl,hq,ht,hi,he⟩ ih;(refine Zz ?_;with_reducible repeat' first|intro _|apply aI)
 ·refine s6 (hfn 133 _ rfl) w[i] (r:=.sl 37 (w[i].fl.map F.g)) rfl z6 .nil fun _ _ _ _=>?_;have hl:w[i].fl.length < 90000:=hwl _ (List.getElem_mem _);have hiw:i < w.length:=oM;have hd:=List.drop_eq_getElem_cons hiw;generalize w[i]=e at *;refine Zz ?_;intros;refine I7 (fun (k:Nat) vs bs=>∃ (t:u1 Q) (off:Nat) (t2:u1 Q) (off2:Nat) (q:Q),vs=[.slice t 32 off w.length .no,.ptr 0 0,.int .i64 i,.slice t2 37 off2 e.fl.length .no,.int .i64 k]∧bs=[.opa q 2]∧A7 [.s s.1,.s s.2] q 0∧A5 32 (w.map Et.g) t off∧A5 37 (e.fl.map F.g) t2 off2∧k≤e.fl.length∧plF e.fl s=(plF (e.fl.drop k) s).map (·+k)) (fun k=>e.fl.length - k) 0
   ⟨_,_,_,_,_,rfl,rfl,aS,aS,aS,oM,by simp⟩ (by simp only [E3];omega) ?_
  rintro self2 k _ _ ⟨t,off,t2,off2,q,rfl,rfl,hq,ht,ht2,hk,hke⟩ ih2;(refine Zz ?_;with_reducible repeat' first|intro _|apply aI)
  ·rw [List.drop_eq_getElem_cons (by omega:k < e.fl.length),plF,if_pos (Prod.ext (‹_∧_∧True›).1 (‹_∧_∧True›).2.1)] at hke;have hk2:plF e.fl s=some k:=by rw [hke];simp
   have he2:X8 (w.map Et.fl) s=some (i,k):=by rw [he,hd,List.map_cons,X8,hk2];simp
   rw [he2];exact s9 ⟨.ret _ _ (.t _ _ (.k (.i _ _) (.k (.i _ _) (.k (.kn _) .nil)))),.nil⟩
  ·rw [List.drop_eq_getElem_cons (by omega:k < e.fl.length),plF,if_neg (fun h=>‹¬(_∧_∧True)› ⟨congrArg Prod.fst h,congrArg Prod.snd h,trivial⟩),Option.map_map] at hke;exact ih2 (k+1) _ _ ⟨_,_,_,_,_,by simp,rfl,hq,ht,ht2,oM,by rw [hke];exact congrArg (fun f=>Option.map f _) (funext fun x=>by simp only [Function.comp];omega)⟩ oM
  ·have ek:k=e.fl.length:=oM;rw [ek,List.drop_length] at hke;have hk2:plF e.fl s=none:=by rw [hke];rfl
   refine ih (i+1) _ _ ⟨_,_,_,by simp,rfl,hq,ht,oM,?_⟩ oM;rw [he,hd,List.map_cons,X8,hk2];simp only [Option.map_map];congr;funext x;simp;omega
 ·have ei:i=w.length:=oM;rw [ei,List.drop_length] at he;have he2:X8 (w.map Et.fl) s=none:=by rw [he];rfl
  rw [he2];exact s9 ⟨.ret _ _ (.t _ _ (.k (.i _ _) (.k (.i _ _) (.k (.kn _) .nil)))),.nil⟩
def L9 (L:List (List F)) (s:Sy):Option F:=match X8 L s with
 | some p=>(L[p.1]?).bind fun l=>l[p.2]?
 | none=>none
def zF:List G:=[.s [],.s [],.l [],.i .i64 0,.i .i64 0,.s [],.s [],.i .i64 0,.s [],.s [],.s [],.s [],.s [],.l [],.l [],.i .i64 0,.s [],.s [],.i .i64 0,.s [],.s [],.s [],.s [],.s [],.l [],.l [],.i .i64 0,.s [],.s [],.i .i64 0,.s [],.s [],.s [],.s [],.s [],.l [],.l []]
def okF (o:Option F):GV:=match o with
 | some f=>.t [.a f.g,.c (.b true)]
 | none=>.t [.a zF,.c (.b false)]
theorem d67:v8 88 (c8s fun L s=>okF (L9 L s)):=A8 (fun fn h=>d8o h) [(133,_),(132,_)] (.cons b8x (.cons f4z .nil)) fun U fn hfn ⟨⟨w,hw,hwl⟩,s⟩ vs bs hv hb=>by
 have hp:=hfn 132 _ rfl;have hv:z7 [.sl 32 (w.map Et.g),.a [.s s.1,.s s.2]] vs:=hv;have hb:u0 [] bs:=hb;show t6 U _ fun v bs'=>A3 (.ret (okF (L9 (w.map Et.fl) s))) v∧u0 [] bs';unfold r88;(refine Zz ?_;with_reducible repeat' first|intro _|apply aI);cases e:X8 (w.map Et.fl) s with
 | none =>
  rw [(by rw [L9,e]:L9 (w.map Et.fl) s=none)];refine s6 hp (⟨w,hw,hwl⟩,s) (r:=.t [.c (.i .i64 0),.c (.i .i64 0),.c (.b false)]) (by show z8.ret (okP (X8 (w.map Et.fl) s))=_;rw [e];rfl) z6 .nil fun _ _ _ _=>?_;refine Zz ?_;intros;exact s9 ⟨.ret _ _ (.t _ _ (.k (.ag _ _ (by (exact Zru))) (.k (.kn _) .nil))),.nil⟩
 | some p =>
  obtain ⟨i,k⟩:=p;obtain ⟨k1,k2⟩:=c7z e;simp only [List.getElem_map] at k2;rw [List.length_map] at k1;rw [(by rw [L9,e];simp [k1,k2]:L9 (w.map Et.fl) s=some (w[i].fl)[k])];refine s6 hp (⟨w,hw,hwl⟩,s) (r:=.t [.c (.i .i64 i),.c (.i .i64 k),.c (.b true)]) (by show z8.ret (okP (X8 (w.map Et.fl) s))=_;rw [e];rfl) z6 .nil fun _ _ _ _=>?_;refine Zz ?_;intros;refine s6 (hfn 133 _ rfl) w[i] (r:=.sl 37 (w[i].fl.map F.g)) rfl z6 .nil fun _ _ _ _=>?_;generalize w[i]=e at *;refine Zz ?_;intros;exact s9 ⟨.ret _ _ (.t _ _ (.k (.a _ _ _ (F.g_len _).symm aS) (.k (.kn _) .nil))),.nil⟩
def a6u (L:List (List F)) (s:Sy):GV:=okI (match D7 s with
 | some n=>some n
 | none=>(L9 L s).map fun f=>(f.ps.length:Int))
theorem e19:v8 60 (c8s a6u):=A8 (fun fn h=>d8l h) [(87,_),(88,_)] (.cons e7q (.cons d67 .nil)) fun U fn hfn ⟨⟨w,hw,hwl⟩,s⟩ vs bs hv hb=>by
 have ha:=hfn 87 _ rfl;have hf:=hfn 88 _ rfl;have hv:z7 [.sl 32 (w.map Et.g),.a [.s s.1,.s s.2]] vs:=hv;have hb:u0 [] bs:=hb;show t6 U _ fun v bs'=>A3 (.ret (a6u (w.map Et.fl) s)) v∧u0 [] bs';unfold r60;(refine Zz ?_;with_reducible repeat' first|intro _|apply aI);cases e:D7 s with
 | some n =>
  rw [(by rw [a6u,e];rfl:a6u (w.map Et.fl) s=.t [.c (.i .i64 n),.c (.b true)])];refine s6 ha s (r:=.t [.c (.i .i64 n),.c (.b true)]) (by show z8.ret (okI (D7 s))=_;rw [e];rfl) z6 .nil fun _ _ _ _=>?_;refine Zz ?_;intros;exact s9 ⟨.ret _ _ (.t _ _ (.k (.i _ _) (.k (.kn _) .nil))),.nil⟩
 | none =>
  refine s6 ha s (r:=.t [.c (.i .i64 0),.c (.b false)]) (by show z8.ret (okI (D7 s))=_;rw [e];rfl) z6 .nil fun _ _ _ _=>?_;(refine Zz ?_;with_reducible repeat' first|intro _|apply aI);cases e2:L9 (w.map Et.fl) s with
  | none =>
   rw [(by rw [a6u,e];show okI ((L9 (w.map Et.fl) s).map _)=_;rw [e2];rfl:a6u (w.map Et.fl) s=.t [.c (.i .i64 0),.c (.b false)])];refine s6 hf (⟨w,hw,hwl⟩,s) (r:=.t [.a zF,.c (.b false)]) (by show z8.ret (okF (L9 (w.map Et.fl) s))=_;rw [e2];rfl) z6 .nil fun _ _ _ _=>?_;refine Zz ?_;intros;exact s9 ⟨.ret _ _ (.t _ _ (.k (.i _ _) (.k (.kn _) .nil))),.nil⟩
  | some f =>
   rw [(by rw [a6u,e];show okI ((L9 (w.map Et.fl) s).map _)=_;rw [e2];rfl:a6u (w.map Et.fl) s=.t [.c (.i .i64 f.ps.length),.c (.b true)])];refine s6 hf (⟨w,hw,hwl⟩,s) (r:=.t [.a f.g,.c (.b true)]) (by show z8.ret (okF (L9 (w.map Et.fl) s))=_;rw [e2];rfl) z6 .nil fun _ _ _ _=>?_;refine Zz ?_;intros;refine H3 aS (by first | exact (F.g_len _).symm | exact F.g_len _) fun _ _=>?_;refine Zz ?_;intros;refine F1 aS (B7 a95) fun _ _ _=>?_;refine Zz ?_;intros;exact s9 ⟨.ret _ _ (.t _ _ (.k (.i _ _) (.k (.kn _) .nil))),.nil⟩
end
end Go.Proofs.YtkojildpddaccaaGreatDoor
