/- Trees of numbers and strings; how many nodes; parts. -/
import Derived.Test.YtdldcfllnohkeaaGreatDoorCR5e
set_option linter.all false
namespace Go.Proofs.YtdldcfllnohkeaaGreatDoor
open Go.Abs LQ
set_option maxRecDepth 100000
set_option maxHeartbeats 4000000
noncomputable section
inductive Raw where
 | mk (k n:Int) (s:i6) (l:List Raw)
namespace Raw
def k:Raw→Int
 | mk k _ _ _=>k
def n:Raw→Int
 | mk _ n _ _=>n
def s:Raw→i6
 | mk _ _ s _=>s
def l:Raw→List Raw
 | mk _ _ _ l=>l
mutual
def g:Raw→List G
 | mk k n s l=>[.i .i64 k,.i .i64 n,.s s,.l (gs l)]
def gs:List Raw→List (List G)
 | []=>[]
 | x :: xs=>x.g :: gs xs
end
theorem gs_eq:∀ l:List Raw,gs l=l.map g
 | []=>rfl
 | x :: xs=>by rw [gs,gs_eq xs];rfl
theorem g_eq (r:Raw):r.g=[.i .i64 r.k,.i .i64 r.n,.s r.s,.l (r.l.map g)]:=by
 cases r with | mk k n s l=>rw [g,gs_eq];rfl
theorem g_len (r:Raw):r.g.length=4:=by cases r;rfl
mutual
theorem g_inj:∀ {a b:Raw},a.g=b.g→a=b
 | mk k n s l,mk k' n' s' l',h=>by
  simp only [g,List.cons.injEq,G.i.injEq,G.s.injEq,G.l.injEq] at h
  obtain ⟨⟨_,h1⟩,⟨_,h2⟩,h3,h4,_⟩:=h
  rw [h1,h2,h3,d6r h4]
theorem d6r:∀ {a b:List Raw},gs a=gs b→a=b
 | [],[],_=>rfl
 | [],_ :: _,h=>by simp [gs] at h
 | _ :: _,[],h=>by simp [gs] at h
 | x :: xs,y :: ys,h=>by
  simp only [gs,List.cons.injEq] at h
  rw [g_inj h.1,d6r h.2]
end
mutual
def nodes:Raw→Nat
 | mk _ _ _ l=>1+nodesL l
def nodesL:List Raw→Nat
 | []=>0
 | x :: xs=>x.nodes+nodesL xs
end
theorem nodes_eq (r:Raw):r.nodes=1+nodesL r.l:=by cases r;rfl
theorem nodes_mem:∀ {l:List Raw} {x:Raw},x ∈ l→x.nodes≤nodesL l
 | y :: l,x,h=>by
  cases h with
  | head=>exact Nat.le_add_right _ _
  | tail _ h=>exact Nat.le_trans (nodes_mem h) (Nat.le_add_left _ _)
mutual
def left:Raw→Int→Int
 | mk _ _ s l,m=>if 12 < s.length∨6 < l.length then -1 else leftL l (m - 1)
def leftL:List Raw→Int→Int
 | [],m=>m
 | x :: xs,m=>if 0≤m then leftL xs (x.left m) else m
end
theorem left_eq (r:Raw) (m:Int):r.left m=if 12 < r.s.length∨6 < r.l.length then -1 else leftL r.l (m - 1):=by cases r;rfl
mutual
theorem left_le:∀ (r:Raw) {m:Int},0≤m→-1≤r.left m∧r.left m≤m
 | mk _ _ s l,m,h=>by
  rw [left]
  split
  ·omega
  ·have:=b0s l (m:=m - 1) oM
   omega
theorem b0s:∀ (l:List Raw) {m:Int},-1≤m→-1≤leftL l m∧leftL l m≤m
 | [],m,h=>by rw [leftL];omega
 | x :: xs,m,h=>by
  rw [leftL]
  split
  ·rename_i h0
   have h1:=left_le x h0
   have h2:=b0s xs (m:=x.left m) h1.1
   omega
  ·omega
end
mutual
def okR:Raw→Prop
 | mk _ _ s l=>s.length≤12∧l.length≤6∧okRL l
def okRL:List Raw→Prop
 | []=>True
 | x :: xs=>x.okR∧okRL xs
end
theorem okR_eq (r:Raw):r.okR↔r.s.length≤12∧r.l.length≤6∧okRL r.l:=by cases r;exact Iff.rfl
theorem okR_mem:∀ {l:List Raw} {x:Raw},okRL l→x ∈ l→x.okR
 | y :: l,x,h,hx=>by
  cases hx with
  | head=>exact h.1
  | tail _ hx=>exact okR_mem h.2 hx
mutual
theorem d1m:∀ (r:Raw) {m:Int},0≤m→0≤r.left m→r.okR∧r.left m+r.nodes=m
 | mk _ _ s l,m,h,k=>by
  rw [left] at k ⊢
  split at k
  ·omega
  ·rename_i hc
   rw [if_neg hc]
   have hm:0≤m - 1:=by have:=b0s l (m:=m - 1) oM;omega
   have:=c6m l hm k
   refine ⟨⟨oM,oM,this.1⟩,?_⟩
   show _+((1+nodesL l:Nat):Int)=m
   omega
theorem c6m:∀ (l:List Raw) {m:Int},0≤m→0≤leftL l m→okRL l∧leftL l m+nodesL l=m
 | [],m,h,k=>by rw [leftL];exact ⟨trivial,by show m+((0:Nat):Int)=m;omega⟩
 | x :: xs,m,h,k=>by
  rw [leftL,if_pos h] at k ⊢
  have h1:0≤x.left m:=by
   have:=b0s xs (m:=x.left m) (left_le x h).1
   omega
  have h2:=d1m x h h1
  have h3:=c6m xs h1 k
  refine ⟨⟨h2.1,h3.1⟩,?_⟩
  show _+((x.nodes+nodesL xs:Nat):Int)=m
  omega
end
def few (r:Raw) (m:Nat):Bool:=decide (0≤r.left m)
theorem few_ok {r:Raw} {m:Nat} (h:r.few m=true):r.okR∧r.nodes≤m:=by
 have:=d1m r (m:=m) oM (of_decide_eq_true h)
 exact ⟨this.1,by have:=of_decide_eq_true h;omega⟩
def zero:Raw:=mk 0 0 [] []
def part (r:Raw) (i:Nat):Raw:=r.l.getD i zero
end Raw
def f9t:Sp where
 ι:={ p:Int × Nat // 0 < p.2∧p.2 < 1000000 }
 A p:=[.c (.i .i64 p.1.1),.c (.i .i64 p.1.2)]
 B _:=[]
 R p:=.ret (.c (.i .i64 (p.1.1 % p.1.2)))
 B' _:=[]
 inj i j vs bs h k _ _:=by
  obtain ⟨_,_,h1,k1,h,k⟩:=h.two k
  obtain ⟨_,_,h2,k2,h,k⟩:=h.two k
  have e1:=(G.i.inj (h1.c_inj k1)).2
  have e2:=(G.i.inj (h2.c_inj k2)).2
  rw [e1,e2];exact ⟨rfl,rfl⟩
theorem f00:k9 33 f9t:=n9 (fun fn h=>f3e h) [] .nil fun U fn hfn ⟨(n,m),h0,h1⟩ vs bs hv hb=>by
 change l7 [.c (.i .i64 n),.c (.i .i64 m)] vs at hv
 change RBs [] bs at hb
 have h0:0 < m:=h0
 have h1:m < 1000000:=h1
 show j5 U _ fun v bs'=>l8 (.ret (.c (.i .i64 (n % m)))) v∧RBs [] bs'
 have hlt:=Int.tmod_lt_of_pos n (b:=(m:Int)) oM
 have hgt:=Int.lt_tmod_of_pos n (b:=(m:Int)) oM
 have he:n % (m:Int)=if n.tmod m < 0 then n.tmod m+m else n.tmod m:=by
  have k1:=Int.emod_emod_of_dvd n (Int.dvd_refl (m:Int))
  have k2:n.tmod m % m=n % m:=by
   rw [Int.tmod_def,Int.sub_mul_emod_self_left]
  split
  ·rw [← k2,← Int.add_emod_right,Int.emod_eq_of_lt oM oM]
  ·rw [← k2,Int.emod_eq_of_lt oM oM]
 unfold r33
 (refine Zz ?_;intros)
 refine e5f ?_
 (refine Zz ?_;with_reducible repeat' first|intro _|apply aI)
 ·rw [he,if_pos aS]
  exact j9 ⟨.ret _ _ (.i _ _),.nil⟩
 ·rw [he,if_neg aS]
  exact j9 ⟨.ret _ _ (.i _ _),.nil⟩
def d8n:Sp where
 ι:={ p:Raw × Int // 0≤p.2∧p.2≤1000 }
 A p:=[.a p.1.1.g,.c (.i .i64 p.1.2)]
 B _:=[]
 R p:=.ret (.c (.i .i64 (p.1.1.left p.1.2)))
 B' _:=[]
 inj i j vs bs h k _ _:=by
  obtain ⟨_,_,h1,k1,h,k⟩:=h.two k
  obtain ⟨_,_,h2,k2,h,k⟩:=h.two k
  have e1:=Raw.g_inj (h1.a_inj k1)
  have e2:=(G.i.inj (h2.c_inj k2)).2
  rw [e1,e2];exact ⟨rfl,rfl⟩
theorem f83:k9 32 d8n:=a3x (fun p=>p.1.1.nodes) fun z ih=>n9 (fun fn h=>f3c h) [(32,d8n.lt (fun p=>p.1.1.nodes) z)] (.cons ih .nil) fun U fn hfn ⟨⟨(r,m),h0,h1⟩,hz⟩ vs bs hv hb=>by
 have hL:=hfn 32 _ rfl
 change l7 [.a r.g,.c (.i .i64 m)] vs at hv
 change RBs [] bs at hb
 have h0:0≤m:=h0
 have h1:m≤1000:=h1
 have hz:r.nodes < z+1:=hz
 show j5 U _ fun v bs'=>l8 (.ret (.c (.i .i64 (r.left m)))) v∧RBs [] bs'
 rw [Raw.left_eq]
 rw [Raw.nodes_eq] at hz
 rw [Raw.g_eq] at hv
 generalize r.k=rk at *
 generalize r.n=rn at *
 generalize r.s=rs at *
 generalize r.l=rl at *
 unfold r32
 (refine Zz ?_;with_reducible repeat' first|intro _|apply aI)
 ·rw [if_pos (.inl oM)]
  exact j9 ⟨.ret _ _ (.i _ _),.nil⟩
 refine E8 aS (A0 Raw.g_len) fun _ _ _=>?_
 (refine Zz ?_;with_reducible repeat' first|intro _|apply aI)
 ·rw [if_pos (.inr oM)]
  exact j9 ⟨.ret _ _ (.i _ _),.nil⟩
 rw [if_neg oM]
 refine H2 (fun (i:Nat) vs bs=>∃ (m':Int) (q:Q),vs=[.int .i64 m',.ptr 0 0,.int .i64 i]∧bs=[.opa q 4]∧A6 [.i .i64 rk,.i .i64 rn,.s rs,.l (rl.map Raw.g)] q 0∧i≤rl.length∧Raw.leftL (rl.drop i) m'=Raw.leftL rl (m - 1)∧-1≤m'∧m'≤1000) (fun i=>rl.length - i) 0
  ⟨_,_,rfl,rfl,aS,oM,rfl,oM,oM⟩ (by simp only [C4];omega) ?_
 rintro self i _ _ ⟨m',q,rfl,rfl,hq,hi,he,hm1,hm2⟩ ih
 (refine Zz ?_;intros)
 refine E8 aS (A0 Raw.g_len) fun _ _ _=>?_
 (refine Zz ?_;with_reducible repeat' first|intro _|apply aI)
 ·refine E8 aS (A0 Raw.g_len) fun _ _ _=>?_
  (refine Zz ?_;intros)
  have hiw:i < rl.length:=oM
  have hnd:=Raw.nodes_mem (List.getElem_mem hiw)
  have hlb:=Raw.left_le rl[i] (m:=m') aS
  rw [List.drop_eq_getElem_cons hiw,Raw.leftL,if_pos aS] at he
  refine j4 hL ⟨⟨(rl[i],m'),aS,hm2⟩,show rl[i].nodes < z by omega⟩ (r:=.c (.i .i64 (rl[i].left m'))) rfl (.k (.a _ _ _ (Raw.g_len _).symm aS) (.k (.i _ _) .nil)) .nil fun _ _ _ _=>?_
  (refine Zz ?_;intros)
  exact ih (i+1) _ _ ⟨_,_,rfl,rfl,hq,oM,he,oM,oM⟩ oM
 ·rw [List.drop_eq_getElem_cons (by omega:i < rl.length),Raw.leftL,if_neg aS] at he
  rw [← he]
  exact j9 ⟨.ret _ _ (.i _ _),.nil⟩
 ·rw [List.drop_of_length_le oM,Raw.leftL] at he
  rw [← he]
  exact j9 ⟨.ret _ _ (.i _ _),.nil⟩
def e5k (g:Raw→Nat→GV):Sp where
 ι:={ p:Raw × Nat // p.2≤1000 }
 A p:=[.a p.1.1.g,.c (.i .i64 p.1.2)]
 B _:=[]
 R p:=.ret (g p.1.1 p.1.2)
 B' _:=[]
 inj i j vs bs h k _ _:=by
  obtain ⟨_,_,h1,k1,h,k⟩:=h.two k
  obtain ⟨_,_,h2,k2,h,k⟩:=h.two k
  have e1:=Raw.g_inj (h1.a_inj k1)
  have e2:=(G.i.inj (h2.c_inj k2)).2
  have e2:i.1.2=j.1.2:=oM
  rw [e1,e2];exact ⟨rfl,rfl⟩
theorem g1m:k9 11 (e5k fun r m=>.c (.b (r.few m))):=n9 (fun fn h=>f2c h) [(32,_)] (.cons f83 .nil) fun U fn hfn ⟨(r,m),h1⟩ vs bs hv hb=>by
 have hL:=hfn 32 _ rfl
 change l7 [.a r.g,.c (.i .i64 m)] vs at hv
 change RBs [] bs at hb
 have h1:m≤1000:=h1
 show j5 U _ fun v bs'=>l8 (.ret (.c (.b (r.few m)))) v∧RBs [] bs'
 unfold r11
 (refine Zz ?_;intros)
 refine M5 aS (Raw.g_len _) fun _ _=>?_
 (refine Zz ?_;intros)
 refine j4 hL ⟨(r,m),show (0:Int)≤m by omega,show (m:Int)≤1000 by omega⟩ (r:=.c (.i .i64 (r.left m))) rfl (.k (.a _ _ _ (Raw.g_len _).symm aS) (.k (.i _ _) .nil)) .nil fun _ _ _ _=>?_
 (refine Zz ?_;intros)
 refine J3 fun e=>?_
 subst e
 exact ⟨.ret _ _ (U6 (by rw [d3e];rfl)),.nil⟩
theorem f87:k9 39 (e5k fun r i=>.a (r.part i).g):=n9 (fun fn h=>f3q h) [] .nil fun U fn hfn ⟨(r,i),h1⟩ vs bs hv hb=>by
 change l7 [.a r.g,.c (.i .i64 i)] vs at hv
 change RBs [] bs at hb
 have h1:i≤1000:=h1
 show j5 U _ fun v bs'=>l8 (.ret (.a (r.part i).g)) v∧RBs [] bs'
 unfold r39
 unfold Raw.part
 rw [Raw.g_eq] at hv
 generalize r.k=rk at *
 generalize r.n=rn at *
 generalize r.s=rs at *
 generalize r.l=rl at *
 (refine Zz ?_;intros)
 refine E8 aS (A0 Raw.g_len) fun _ _ _=>?_
 (refine Zz ?_;with_reducible repeat' first|intro _|apply aI)
 ·refine E8 aS (A0 Raw.g_len) fun _ _ _=>?_
  (refine Zz ?_;intros)
  rw [show rl.getD i Raw.zero=rl[i]'oM by simp [List.getD,List.getElem?_eq_getElem (by omega:i < rl.length)]]
  exact j9 ⟨.ret _ _ (.a _ _ _ (Raw.g_len _).symm aS),.nil⟩
 ·rw [show rl.getD i Raw.zero=Raw.zero by simp [List.getD,List.getElem?_eq_none (by omega:rl.length≤i)]]
  exact j9 ⟨.ret _ _ (.ag _ _ (by (exact Zru))),.nil⟩
def D4:i6:=m8 4 1919251317
theorem f9c:k9 68 (c4v fun s=>.a (sg (D4,s))):=n9 (fun fn h=>f4w h) [] .nil fun U fn hfn s vs bs hv hb=>by
 change l7 [.c (.s s)] vs at hv
 change RBs [] bs at hb
 show j5 U _ fun v bs'=>l8 (.ret (.a (sg (D4,s)))) v∧RBs [] bs'
 unfold r68
 (refine Zz ?_;intros)
 exact j9 ⟨.ret _ _ (.ag _ _ (by (exact Zru))),.nil⟩
end
end Go.Proofs.YtdldcfllnohkeaaGreatDoor
