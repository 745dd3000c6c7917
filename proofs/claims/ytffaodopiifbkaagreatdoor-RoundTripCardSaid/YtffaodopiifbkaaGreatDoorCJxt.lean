/- Jxt -/
import Derived.Test.YtffaodopiifbkaaGreatDoorCL3
import Derived.Test.YtffaodopiifbkaaGreatDoorCJ7
import Derived.Test.YtffaodopiifbkaaGreatDoorCZ1
set_option linter.all false
namespace Go.Proofs.YtffaodopiifbkaaGreatDoor
open Go.Abs LQ
set_option maxRecDepth 100000
set_option maxHeartbeats 4000000
noncomputable section
theorem f2v:l5 72 (b8e fun s=>.a (O.tx s).g):=n6 (fun fn h=>f07 h) [] .nil fun U fn hfn s vs bs hv hb=>by
 have hv:l8 [.c (.s s)] vs:=hv
 have hb:j5 [] bs:=hb
 show j6 U _ fun v bs'=>l9 (.ret (.a (O.tx s).g)) v∧j5 [] bs'
 unfold r72
 (refine Zx ?_;intros)
 exact k9 ⟨.ret _ _ l6,.nil⟩
namespace Raw
theorem gs_eq:∀ l:List Raw,gs l=l.map g
 | []=>rfl
 | x :: xs=>by rw [gs,gs_eq xs];rfl
theorem g_eq (r:Raw):r.g=[.i .i64 r.k,.i .i64 r.n,.s r.s,.l (r.l.map g)]:=by
 cases r with | mk k n s l=>rw [g,gs_eq];rfl
theorem nodes_eq (r:Raw):r.nodes=1+nodesL r.l:=by cases r;rfl
theorem nodes_mem:∀ {l:List Raw} {x:Raw},x ∈ l→x.nodes≤nodesL l
 | y :: l,x,h=>by
  cases h with
  | head=>exact Nat.le_add_right _ _
  | tail _ h=>exact Nat.le_trans (nodes_mem h) (Nat.le_add_left _ _)
theorem left_eq (r:Raw) (m:Int):r.left m=if 12 < r.s.length∨6 < r.l.length then -1 else leftL r.l (m - 1):=by cases r;rfl
theorem okR_eq (r:Raw):r.okR↔r.s.length≤12∧r.l.length≤6∧okRL r.l:=by cases r;exact Iff.rfl
theorem okR_mem:∀ {l:List Raw} {x:Raw},okRL l→x ∈ l→x.okR
 | y :: l,x,h,hx=>by
  cases hx with
  | head=>exact h.1
  | tail _ hx=>exact okR_mem h.2 hx
theorem few_ok {r:Raw} {m:Nat} (h:r.few m=true):r.okR∧r.nodes≤m:=by
 have:=d2g r (m:=m) oM (of_decide_eq_true h)
 exact ⟨this.1,by have:=of_decide_eq_true h;omega⟩
def part (r:Raw) (i:Nat):Raw:=r.l.getD i zero
end Raw
def d9j:Sp where
 ι:={ p:Raw × Int // 0≤p.2∧p.2≤1000 }
 A p:=[.a p.1.1.g,.c (.i .i64 p.1.2)]
 B _:=[]
 R p:=.ret (.c (.i .i64 (p.1.1.left p.1.2)))
 B' _:=[]
 inj i j vs bs h k _ _:=by
  obtain ⟨_,_,h1,k1,h,k⟩:=h.two k
  obtain ⟨_,_,h2,k2,h,k⟩:=h.two k
  have e1:=Raw.g_inj (h1.a_inj k1)
  have e2:=(G.i.inj (h2.c_inj k2)).2
  rw [e1,e2];exact ⟨rfl,rfl⟩
theorem f83:l5 69 d9j:=a32 (fun p=>p.1.1.nodes) fun z ih=>n6 (fun fn h=>f06 h) [(69,d9j.lt (fun p=>p.1.1.nodes) z)] (.cons ih .nil) fun U fn hfn ⟨⟨(r,m),h0,h1⟩,hz⟩ vs bs hv hb=>by
 have hL:=hfn 69 _ rfl
 change l8 [.a r.g,.c (.i .i64 m)] vs at hv
 change j5 [] bs at hb
 have h0:0≤m:=h0
 have h1:m≤1000:=h1
 have hz:r.nodes < z+1:=hz
 show j6 U _ fun v bs'=>l9 (.ret (.c (.i .i64 (r.left m)))) v∧j5 [] bs'
 rw [Raw.left_eq]
 rw [Raw.nodes_eq] at hz
 rw [Raw.g_eq] at hv
 generalize r.k=rk at *
 generalize r.n=rn at *
 generalize r.s=rs at *
 generalize r.l=rl at *
 unfold r69
 (refine Zz ?_;with_reducible repeat' first|intro _|apply aI)
 ·rw [if_pos (.inl oM)]
  exact k9 ⟨.ret _ _ (.i _ _),.nil⟩
 refine E2 aS (A3 Raw.g_len) fun _ _ _=>?_
 (refine Zz ?_;with_reducible repeat' first|intro _|apply aI)
 ·rw [if_pos (.inr oM)]
  exact k9 ⟨.ret _ _ (.i _ _),.nil⟩
 rw [if_neg oM]
 refine H0 (fun (i:Nat) vs bs=>∃ (m':Int) (q:Q),vs=[.int .i64 m',.ptr 0 0,.int .i64 i]∧bs=[.opa q 4]∧A8 [.i .i64 rk,.i .i64 rn,.s rs,.l (rl.map Raw.g)] q 0∧i≤rl.length∧Raw.leftL (rl.drop i) m'=Raw.leftL rl (m - 1)∧-1≤m'∧m'≤1000) (fun i=>rl.length - i) 0
  ⟨_,_,rfl,rfl,aS,oM,rfl,oM,oM⟩ (by simp only [C2];omega) ?_
 rintro self i _ _ ⟨m',q,rfl,rfl,hq,hi,he,hm1,hm2⟩ ih
 (refine Zz ?_;intros)
 refine E2 aS (A3 Raw.g_len) fun _ _ _=>?_
 (refine Zz ?_;with_reducible repeat' first|intro _|apply aI)
 ·refine E2 aS (A3 Raw.g_len) fun _ _ _=>?_
  (refine Zz ?_;intros)
  have hiw:i < rl.length:=oM
  have hnd:=Raw.nodes_mem (List.getElem_mem hiw)
  have hlb:=Raw.left_le rl[i] (m:=m') aS
  rw [List.drop_eq_getElem_cons hiw,Raw.leftL,if_pos aS] at he
  refine j3 hL ⟨⟨(rl[i],m'),aS,hm2⟩,show rl[i].nodes < z by omega⟩ (r:=.c (.i .i64 (rl[i].left m'))) rfl (.k (.a _ _ _ (Raw.g_len _).symm aS) (.k (.i _ _) .nil)) .nil fun _ _ _ _=>?_
  (refine Zz ?_;intros)
  exact ih (i+1) _ _ ⟨_,_,rfl,rfl,hq,oM,he,oM,oM⟩ oM
 ·rw [List.drop_eq_getElem_cons (by omega:i < rl.length),Raw.leftL,if_neg aS] at he
  rw [← he]
  exact k9 ⟨.ret _ _ (.i _ _),.nil⟩
 ·rw [List.drop_of_length_le oM,Raw.leftL] at he
  rw [← he]
  exact k9 ⟨.ret _ _ (.i _ _),.nil⟩
def e5w (g:Raw→Nat→GV):Sp where
 ι:={ p:Raw × Nat // p.2≤1000 }
 A p:=[.a p.1.1.g,.c (.i .i64 p.1.2)]
 B _:=[]
 R p:=.ret (g p.1.1 p.1.2)
 B' _:=[]
 inj i j vs bs h k _ _:=by
  obtain ⟨_,_,h1,k1,h,k⟩:=h.two k
  obtain ⟨_,_,h2,k2,h,k⟩:=h.two k
  have e1:=Raw.g_inj (h1.a_inj k1)
  have e2:=(G.i.inj (h2.c_inj k2)).2
  have e2:i.1.2=j.1.2:=oM
  rw [e1,e2];exact ⟨rfl,rfl⟩
theorem g09:l5 36 (e5w fun r m=>.c (.b (r.few m))):=n6 (fun fn h=>f6t h) [(69,_)] (.cons f83 .nil) fun U fn hfn ⟨(r,m),h1⟩ vs bs hv hb=>by
 have hL:=hfn 69 _ rfl
 change l8 [.a r.g,.c (.i .i64 m)] vs at hv
 change j5 [] bs at hb
 have h1:m≤1000:=h1
 show j6 U _ fun v bs'=>l9 (.ret (.c (.b (r.few m)))) v∧j5 [] bs'
 unfold r36
 (refine Zz ?_;intros)
 refine L0 aS (Raw.g_len _) fun _ _=>?_
 (refine Zz ?_;intros)
 refine j3 hL ⟨(r,m),show (0:Int)≤m by omega,show (m:Int)≤1000 by omega⟩ (r:=.c (.i .i64 (r.left m))) rfl (.k (.a _ _ _ (Raw.g_len _).symm aS) (.k (.i _ _) .nil)) .nil fun _ _ _ _=>?_
 (refine Zz ?_;intros)
 refine L7 fun e=>?_
 subst e
 exact ⟨.ret _ _ (V9 (by rw [e0c];rfl)),.nil⟩
theorem f76:l5 74 (e5w fun r i=>.a (r.part i).g):=n6 (fun fn h=>f64 h) [] .nil fun U fn hfn ⟨(r,i),h1⟩ vs bs hv hb=>by
 change l8 [.a r.g,.c (.i .i64 i)] vs at hv
 change j5 [] bs at hb
 have h1:i≤1000:=h1
 show j6 U _ fun v bs'=>l9 (.ret (.a (r.part i).g)) v∧j5 [] bs'
 unfold r74
 unfold Raw.part
 rw [Raw.g_eq] at hv
 generalize r.k=rk at *
 generalize r.n=rn at *
 generalize r.s=rs at *
 generalize r.l=rl at *
 (refine Zz ?_;intros)
 refine E2 aS (A3 Raw.g_len) fun _ _ _=>?_
 (refine Zz ?_;with_reducible repeat' first|intro _|apply aI)
 ·refine E2 aS (A3 Raw.g_len) fun _ _ _=>?_
  (refine Zz ?_;intros)
  rw [show rl.getD i Raw.zero=rl[i]'oM by simp [List.getD,List.getElem?_eq_getElem (by omega:i < rl.length)]]
  exact k9 ⟨.ret _ _ (.a _ _ _ (Raw.g_len _).symm aS),.nil⟩
 ·rw [show rl.getD i Raw.zero=Raw.zero by simp [List.getD,List.getElem?_eq_none (by omega:rl.length≤i)]]
  exact k9 ⟨.ret _ _ (.ag _ _ (by (exact Zru))),.nil⟩
theorem f85:l5 58 (b8e fun s=>.a (sg (D1,s))):=n6 (fun fn h=>f3n h) [] .nil fun U fn hfn s vs bs hv hb=>by
 change l8 [.c (.s s)] vs at hv
 change j5 [] bs at hb
 show j6 U _ fun v bs'=>l9 (.ret (.a (sg (D1,s)))) v∧j5 [] bs'
 unfold r58
 (refine Zz ?_;intros)
 exact k9 ⟨.ret _ _ (.ag _ _ (by (exact Zru))),.nil⟩
open Classical
def a4o:List i6→List i6
 | []=>[]
 | [l]=>[l ++ [41]]
 | l :: r=>l :: a4o r
def b4b:List i6→List i6
 | []=>[]
 | l :: r=>(40 :: l) :: r.map (32 :: ·)
def a41 (L:List Pk) (cur:i6):Nat→O→Int→List i6
 | 0,_,_=>[]
 | n+1,o,w=>match E4 o with
  | some l=>if ((C1 L cur o).length:Int)≤w∨l.length < 2∨M7 o ≠ none then [C1 L cur o] else a4o (b4b (l.flatMap fun x=>a41 L cur n x (w - 1)))
  | none=>[C1 L cur o]
def P6 (l:List i6):i6:=l.flatMap (· ++ [10])
theorem b7u:∀ {l:List O} {o:O},E4 o=some l→∀ x ∈ l,x.size < o.size
 | [],_,_,_,hx=>by cases hx
 | a :: l,o,h,x,hx=>by
  obtain ⟨d,rfl,hd⟩:=a3c h
  simp only [O.size]
  rcases List.mem_cons.1 hx with rfl | hx
  ·have:=O.size_pos d;omega
  ·have:=b7u hd x hx;omega
end
end Go.Proofs.YtffaodopiifbkaaGreatDoor
namespace Go.Proofs.YtffaodopiifbkaaGreatDoor
open Go.Abs LQ
set_option maxRecDepth 100000
set_option maxHeartbeats 4000000
noncomputable section
def spI (g:Int→GV):Sp where
 ι:={ n:Int // -1000000000 < n∧n < 1000000000 }
 A n:=[.c (.i .i64 n.1)]
 B _:=[]
 R n:=.ret (g n.1)
 B' _:=[]
 inj i j vs bs h k _ _:=by
  obtain ⟨_,_,h1,k1,h,k⟩:=h.two k
  rw [(G.i.inj (h1.c_inj k1)).2];exact ⟨rfl,rfl⟩
abbrev c5m:=l5 111 (spI fun n=>.c (.s (j4 n)))
theorem c7n (hI:c5m):l5 71 (spI fun n=>.c (.s (j4 n))):=n6 (fun fn h=>f4i h) [(111,_)] (.cons hI .nil) fun U fn hfn ⟨n,hn⟩ vs bs hv hb=>by
 have hi:=hfn 111 _ rfl
 change l8 [.c (.i .i64 n)] vs at hv
 change j5 [] bs at hb
 show j6 U _ fun v bs'=>l9 (.ret (.c (.s (j4 n)))) v∧j5 [] bs'
 unfold r71
 (refine Zz ?_;intros)
 refine j3 hi ⟨n,hn⟩ (r:=.c (.s (j4 n))) rfl l6 .nil fun _ _ _ _=>?_
 (refine Zz ?_;intros)
 exact k9 ⟨.ret _ _ l6,.nil⟩
theorem a45 {n:Int} (h:-1000000000 < n∧n < 1000000000):(j4 n).length≤11:=by
 have h1:=c93 n
 have h2:=a29 (n:=n.natAbs) (k:=9) oM
 omega
theorem d4o:j0 [49]=1:=by
 show j0 P2=1
 rw [← a9b];exact A7 1
theorem g2r (hI:c5m):l5 70 (spI fun n=>.a (O.num n 1).g):=n6 (fun fn h=>f6n h) [(71,_),(48,_)] (.cons (c7n hI) (.cons b2l .nil)) fun U fn hfn ⟨n,hn⟩ vs bs hv hb=>by
 have hi:=hfn 71 _ rfl
 have hr:=hfn 48 _ rfl
 change l8 [.c (.i .i64 n)] vs at hv
 change j5 [] bs at hb
 have hl:=a45 hn
 show j6 U _ fun v bs'=>l9 (.ret (.a (O.num n 1).g)) v∧j5 [] bs'
 unfold r70
 (refine Zz ?_;intros)
 refine j3 hi ⟨n,hn⟩ (r:=.c (.s (j4 n))) rfl l6 .nil fun _ _ _ _=>?_
 (refine Zz ?_;intros)
 refine j3 hr ⟨(j4 n,[49]),show (j4 n).length < 9000 by omega,show ([49]:i6).length < 9000 by decide⟩ (r:=.a (O.num n 1).g) (by show s8.ret (.a (a3s (qn (j0 (j4 n)) (j0 [49]))).g)=_;rw [r8,d4o,c8i];rfl) (.k l6 (.k (.s _ _ _ rfl rfl) .nil)) .nil fun _ _ _ _=>?_
 (refine Zz ?_;intros)
 exact k9 ⟨.ret _ _ oV,.nil⟩
theorem g07:l5 31 (e48 fun n=>.a (sg (a11 n))):=n6 (fun fn h=>f56 h) [(29,_),(58,_),(47,_)] (.cons e3w (.cons f85 (.cons c4m .nil))) fun U fn hfn (n:Int) vs bs hv hb=>by
 have hM:=hfn 29 _ rfl
 have hU:=hfn 58 _ rfl
 have hL:=hfn 47 _ rfl
 change l8 [.c (.i .i64 n)] vs at hv
 change j5 [] bs at hb
 show j6 U _ fun v bs'=>l9 (.ret (.a (sg (a11 n)))) v∧j5 [] bs'
 unfold r31
 (refine Zz ?_;intros)
 refine j3 hM ⟨(n,13),show 0 < 13 by decide,show 13 < 1000000 by decide⟩ (r:=.c (.i .i64 (n % 13))) rfl (.k (.i _ _) (.k (b5x (by show ((9:Nat):Int)+4=((13:Nat):Int);decide)) .nil)) .nil fun _ _ _ _=>?_
 have h1:0≤n % 13:=Int.emod_nonneg _ dE
 have h2:n % 13 < 13:=Int.emod_lt_of_pos _ dE
 unfold a11
 generalize n % 13=z at *
 obtain ⟨k,rfl⟩:∃ k:Nat,z=k:=⟨z.toNat,oM⟩
 (refine Zz ?_;with_reducible repeat' first|intro _|apply aI)
 ·rw [if_pos oM,Int.toNat_natCast]
  have hk:k < W5.length:=by show k < 9;omega
  refine sfT (xs:=W5.map s1) (r:=s1 (W5.getD k [])) (n:=1) (a5q (b98 2) (by rfl)) (by rw [Int.toNat_natCast,List.getElem?_map,List.getElem?_eq_getElem hk];simp [List.getD,List.getElem?_eq_getElem hk]) fun _ _=>?_
  unfold s1 at *
  (refine Zz ?_;intros)
  refine j3 hU (W5.getD k []) (r:=.a (sg (D1,W5.getD k []))) rfl (.k (.q _ _ aS) .nil) .nil fun _ _ _ _=>?_
  (refine Zz ?_;intros)
  exact k9 ⟨.ret _ _ (.a _ _ _ rfl aS),.nil⟩
 ·rw [if_neg oM,if_pos oM]
  refine j3 hL (n5 3 7104878) (r:=.a (sg (u1,n5 3 7104878))) rfl (.k (.s _ _ _ rfl rfl) .nil) .nil fun _ _ _ _=>?_
  (refine Zz ?_;intros)
  exact k9 ⟨.ret _ _ (.a _ _ _ rfl aS),.nil⟩
 ·rw [if_neg oM,if_neg oM,if_pos oM]
  refine j3 hL (n5 1 116) (r:=.a (sg (u1,n5 1 116))) rfl (.k (.s _ _ _ rfl rfl) .nil) .nil fun _ _ _ _=>?_
  (refine Zz ?_;intros)
  exact k9 ⟨.ret _ _ (.a _ _ _ rfl aS),.nil⟩
 ·rw [if_neg oM,if_neg oM,if_neg oM,if_pos oM]
  refine j3 hL (n5 3 7496035) (r:=.a (sg (u1,n5 3 7496035))) rfl (.k (.s _ _ _ rfl rfl) .nil) .nil fun _ _ _ _=>?_
  (refine Zz ?_;intros)
  exact k9 ⟨.ret _ _ (.a _ _ _ rfl aS),.nil⟩
 ·rw [if_neg oM,if_neg oM,if_neg oM,if_neg oM]
  refine j3 hL (n5 5 435745158513) (r:=.a (sg (u1,n5 5 435745158513))) rfl (.k (.s _ _ _ rfl rfl) .nil) .nil fun _ _ _ _=>?_
  (refine Zz ?_;intros)
  exact k9 ⟨.ret _ _ (.a _ _ _ rfl aS),.nil⟩
theorem b6b:∀ l:List Raw,D8 l=l.map B6
 | []=>rfl
 | x :: xs=>by rw [D8,b6b xs];rfl
theorem d66:B6 Raw.zero=.num (-1000) 1:=by
 show B6 (.mk 0 0 [] [])=_
 rw [B6,if_pos dE,atR,if_pos (.inl dE)]
 rfl
theorem b9a (l:List Raw) (i:Nat):(D8 l).getD i (.num (-1000) 1)=B6 (l.getD i Raw.zero):=by
 rw [b6b,← d66]
 simp only [List.getD,List.getElem?_map]
 cases l[i]? <;> rfl
theorem e6u (r:Raw):B6 r=if r.k % 8 < 5 then atR r else if r.k % 8=5 then .co (B6 (r.part 0)) (B6 (r.part 1)) else E7 (r.l.map B6):=by
 cases r with
 | mk k n s l =>
  rw [B6,b9a,b9a,b6b]
  rfl
def muR (r:Raw):Nat:=if r.k % 8 < 5 then 2 * r.nodes - 1 else 2 * r.nodes
theorem d88 (r:Raw):muR r≤2 * r.nodes:=by unfold muR;split <;> omega
theorem e2l:Raw.zero.okR:=⟨dE,dE,trivial⟩
theorem d13 {r:Raw} (h:r.okR) (i:Nat):(r.part i).okR:=by
 unfold Raw.part
 have h:=((Raw.okR_eq r).1 h).2.2
 by_cases hi:i < r.l.length
 ·rw [show r.l.getD i Raw.zero=r.l[i] by simp [List.getD,List.getElem?_eq_getElem hi]]
  exact Raw.okR_mem h (List.getElem_mem hi)
 ·rw [show r.l.getD i Raw.zero=Raw.zero by simp [List.getD,List.getElem?_eq_none (by omega:r.l.length≤i)]]
  exact e2l
theorem d0v {r:Raw} (h:¬r.k % 8 < 5) (i:Nat):muR (r.part i) < muR r:=by
 unfold Raw.part
 have e:muR r=2 * r.nodes:=if_neg h
 have hn:=Raw.nodes_eq r
 by_cases hi:i < r.l.length
 ·rw [show r.l.getD i Raw.zero=r.l[i] by simp [List.getD,List.getElem?_eq_getElem hi]]
  have h1:=Raw.nodes_mem (List.getElem_mem hi)
  have h2:=d88 r.l[i]
  omega
 ·rw [show r.l.getD i Raw.zero=Raw.zero by simp [List.getD,List.getElem?_eq_none (by omega:r.l.length≤i)]]
  have:muR Raw.zero=1:=dE
  omega
theorem f5b {r:Raw} (h:¬r.k % 8 < 5) {x:Raw} (hx:x ∈ r.l):muR x < muR r:=by
 have e:muR r=2 * r.nodes:=if_neg h
 have hn:=Raw.nodes_eq r
 have h1:=Raw.nodes_mem hx
 have h2:=d88 x
 omega
def e6d:Sp where
 ι:={ r:Raw // r.okR }
 A r:=[.a r.1.g]
 B _:=[]
 R r:=.ret (.a (B6 r.1).g)
 B' _:=[]
 inj i j vs bs h k _ _:=by
  obtain ⟨_,_,h1,k1,h,k⟩:=h.two k
  rw [Raw.g_inj (h1.a_inj k1)];exact ⟨rfl,rfl⟩
theorem e99 (hItoa:c5m):l5 37 e6d:=a32 (fun r=>muR r.1) fun z ih=>n6 (fun fn h=>f1h h) [(37,e6d.lt (fun r=>muR r.1) z),(29,_),(31,_),(74,_),(71,_),(70,_),(48,_),(43,_),(72,_),(73,_),(46,_)] (.cons ih (.cons e3w (.cons g07 (.cons f76 (.cons (c7n hItoa) (.cons (g2r hItoa) (.cons b2l (.cons b4p (.cons f2v (.cons e4y (.cons e5e .nil))))))))))) fun U fn hfn ⟨⟨r,hr⟩,hz⟩ vs bs hv hb=>by
 have hO:=hfn 37 _ rfl
 have hM:=hfn 29 _ rfl
 have hS:=hfn 31 _ rfl
 have hP:=hfn 74 _ rfl
 have hF:=hfn 71 _ rfl
 have hI:=hfn 70 _ rfl
 have hR:=hfn 48 _ rfl
 have hY:=hfn 43 _ rfl
 have hT:=hfn 72 _ rfl
 have hC:=hfn 73 _ rfl
 have hL:=hfn 46 _ rfl
 change l8 [.a r.g] vs at hv
 change j5 [] bs at hb
 have hz:muR r < z+1:=hz
 have hok:=(Raw.okR_eq r).1 hr
 show j6 U _ fun v bs'=>l9 (.ret (.a (B6 r).g)) v∧j5 [] bs'
 rw [e6u]
 have h1:0≤r.k % 8:=Int.emod_nonneg _ dE
 have h2:r.k % 8 < 8:=Int.emod_lt_of_pos _ dE
 unfold r37
 (refine Zz ?_;intros)
 refine L0 aS (Raw.g_len _) fun _ _=>?_
 have hcel:=(‹A8 r.g _ 0›)
 rw [Raw.g_eq] at hcel
 (refine Zz ?_;intros)
 refine j3 hM ⟨(r.k,8),show 0 < 8 by decide,show 8 < 1000000 by decide⟩ (r:=.c (.i .i64 (r.k % 8))) rfl (.k (.q _ _ aS) (.k (b5x rfl) .nil)) .nil fun _ _ _ _=>?_
 (refine Zz ?_;with_reducible repeat' first|intro _|apply aI)
 ·refine j3 hM ⟨(r.n,2001),show 0 < 2001 by decide,show 2001 < 1000000 by decide⟩ (r:=.c (.i .i64 (r.n % 2001))) rfl (.k (.q _ _ aS) (.k (b5x rfl) .nil)) .nil fun _ _ _ _=>?_
  have b1:0≤r.n % 2001:=Int.emod_nonneg _ dE
  have b2:r.n % 2001 < 2001:=Int.emod_lt_of_pos _ dE
  (refine Zz ?_;intros)
  refine j3 hI ⟨r.n % 2001 - 1000,oM,oM⟩ (r:=.a (O.num (r.n % 2001 - 1000) 1).g) rfl (.k (.i _ _) .nil) .nil fun _ _ _ _=>?_
  (refine Zz ?_;intros)
  rw [if_pos oM,atR,if_pos oM]
  exact k9 ⟨.ret _ _ oV,.nil⟩
 ·refine j3 hM ⟨(r.n,2001),show 0 < 2001 by decide,show 2001 < 1000000 by decide⟩ (r:=.c (.i .i64 (r.n % 2001))) rfl (.k (.q _ _ aS) (.k (b5x rfl) .nil)) .nil fun _ _ _ _=>?_
  have b1:0≤r.n % 2001:=Int.emod_nonneg _ dE
  have b2:r.n % 2001 < 2001:=Int.emod_lt_of_pos _ dE
  (refine Zz ?_;intros)
  refine j3 hI ⟨r.n % 2001 - 1000,oM,oM⟩ (r:=.a (O.num (r.n % 2001 - 1000) 1).g) rfl (.k (.i _ _) .nil) .nil fun _ _ _ _=>?_
  (refine Zz ?_;intros)
  rw [if_pos oM,atR,if_pos oM]
  exact k9 ⟨.ret _ _ oV,.nil⟩
 ·refine j3 hM ⟨(r.n,41),show 0 < 41 by decide,show 41 < 1000000 by decide⟩ (r:=.c (.i .i64 (r.n % 41))) rfl (.k (.q _ _ aS) (.k (b5x rfl) .nil)) .nil fun _ _ _ _=>?_
  have b1:0≤r.n % 41:=Int.emod_nonneg _ dE
  have b2:r.n % 41 < 41:=Int.emod_lt_of_pos _ dE
  have b3:=hok.1
  have c1:-1000000000 < r.n % 41 - 20∧r.n % 41 - 20 < 1000000000:=⟨oM,oM⟩
  have c2:-1000000000 < 1+(r.s.length:Int)∧1+(r.s.length:Int) < 1000000000:=⟨oM,oM⟩
  have l1:=a45 c1
  have l2:=a45 c2
  (refine Zz ?_;intros)
  refine j3 hF ⟨r.n % 41 - 20,c1⟩ (r:=.c (.s (j4 (r.n % 41 - 20)))) rfl (.k (.i _ _) .nil) .nil fun _ _ _ _=>?_
  (refine Zz ?_;intros)
  refine j3 hF ⟨1+(r.s.length:Int),c2⟩ (r:=.c (.s (j4 (1+(r.s.length:Int))))) rfl (.k (.i _ _) .nil) .nil fun _ _ _ _=>?_
  (refine Zz ?_;intros)
  refine j3 hR ⟨(j4 (r.n % 41 - 20),j4 (1+(r.s.length:Int))),Nat.lt_of_le_of_lt l1 dE,Nat.lt_of_le_of_lt l2 dE⟩ (r:=.a (a3s (qn (r.n % 41 - 20) (1+(r.s.length:Int)))).g) (by show s8.ret (.a (a3s (qn (j0 (j4 (r.n % 41 - 20))) (j0 (j4 (1+(r.s.length:Int)))))).g)=_;rw [r8,r8]) (.k (.s _ _ _ rfl rfl) (.k (.s _ _ _ rfl rfl) .nil)) .nil fun _ _ _ _=>?_
  (refine Zz ?_;intros)
  rw [if_pos oM,atR,if_neg oM,if_pos oM]
  exact k9 ⟨.ret _ _ oV,.nil⟩
 ·refine j3 hS r.n (r:=.a (sg (a11 r.n))) rfl (.k (.q _ _ aS) .nil) .nil fun _ _ _ _=>?_
  (refine Zz ?_;intros)
  refine j3 hY (a11 r.n) (r:=.a (O.sy (a11 r.n)).g) rfl (.k (.a _ _ _ rfl aS) .nil) .nil fun _ _ _ _=>?_
  (refine Zz ?_;intros)
  rw [if_pos oM,atR,if_neg oM,if_neg oM,if_pos oM]
  exact k9 ⟨.ret _ _ oV,.nil⟩
 ·refine j3 hT r.s (r:=.a (O.tx r.s).g) rfl (.k (.q _ _ aS) .nil) .nil fun _ _ _ _=>?_
  (refine Zz ?_;intros)
  rw [if_pos oM,atR,if_neg oM,if_neg oM,if_neg oM]
  exact k9 ⟨.ret _ _ oV,.nil⟩
 ·rw [if_neg oM,if_pos aS]
  have hm0:=d0v (r:=r) oM 0
  have hm1:=d0v (r:=r) oM 1
  refine j3 hP ⟨(r,0),show 0≤1000 by decide⟩ (r:=.a (r.part 0).g) rfl (.k (.a _ _ _ (Raw.g_len _).symm (by rw [Raw.g_eq];assumption)) (.k (b5x rfl) .nil)) .nil fun _ _ _ _=>?_
  (refine Zz ?_;intros)
  refine L0 aS (Raw.g_len _) fun _ _=>?_
  (refine Zz ?_;intros)
  refine j3 hO ⟨⟨r.part 0,d13 hr 0⟩,show muR (r.part 0) < z by omega⟩ (r:=.a (B6 (r.part 0)).g) rfl (.k (.a _ _ _ (Raw.g_len _).symm aS) .nil) .nil fun _ _ _ _=>?_
  (refine Zz ?_;intros)
  refine oR fun _ _=>?_
  (refine Zz ?_;intros)
  refine j3 hP ⟨(r,1),show 1≤1000 by decide⟩ (r:=.a (r.part 1).g) rfl (.k (.a _ _ _ (Raw.g_len _).symm (by rw [Raw.g_eq];assumption)) (.k (b5x rfl) .nil)) .nil fun _ _ _ _=>?_
  (refine Zz ?_;intros)
  refine L0 aS (Raw.g_len _) fun _ _=>?_
  (refine Zz ?_;intros)
  refine j3 hO ⟨⟨r.part 1,d13 hr 1⟩,show muR (r.part 1) < z by omega⟩ (r:=.a (B6 (r.part 1)).g) rfl (.k (.a _ _ _ (Raw.g_len _).symm aS) .nil) .nil fun _ _ _ _=>?_
  (refine Zz ?_;intros)
  refine oR fun _ _=>?_
  (refine Zz ?_;intros)
  refine j3 hC (B6 (r.part 0),B6 (r.part 1)) (r:=.a (O.co (B6 (r.part 0)) (B6 (r.part 1))).g) rfl (.k oV oA) .nil fun _ _ _ _=>?_
  (refine Zz ?_;intros)
  exact k9 ⟨.ret _ _ oV,.nil⟩
 ·rw [if_neg oM,if_neg aS]
  have hl6:=hok.2.1
  refine H0 (fun (i:Nat) vs bs=>∃ (q:Q) (v:V) (acc:List O),vs=[.ptr 0 0,.ptr 1 0,.int .i64 i,v]∧bs=[.opa q 4,.cells [.int .i64 0,.str 0 0,.str 0 0,.str 0 0,.str 0 0,.str 0 0,.slice .nil 0 0 0 .exact],.tok acc.length 7]∧a1c 2 7 (acc.map O.g) v∧A8 [.i .i64 r.k,.i .i64 r.n,.s r.s,.l (r.l.map Raw.g)] q 0∧acc=(r.l.take i).map B6∧acc.length=i∧i≤r.l.length) (fun i=>r.l.length - i) 0
   ⟨_,_,[],rfl,rfl,.b rfl,aS,rfl,rfl,oM⟩ (by simp only [C2];omega) ?_
  rintro self i _ _ ⟨q,v,acc,rfl,rfl,htk,hq,hacc,hlen,hi⟩ ih
  (refine Zz ?_;intros)
  refine E2 aS (A3 Raw.g_len) fun _ _ _=>?_
  (refine Zz ?_;with_reducible repeat' first|intro _|apply aI)
  ·refine E2 aS (A3 Raw.g_len) fun _ _ _=>?_
   (refine Zz ?_;intros)
   have hiw:i < r.l.length:=oM
   have hmm:=f5b (r:=r) oM (List.getElem_mem hiw)
   refine j3 hO ⟨⟨r.l[i],Raw.okR_mem hok.2.2 (List.getElem_mem hiw)⟩,show muR r.l[i] < z by omega⟩ (r:=.a (B6 r.l[i]).g) rfl (.k (.a _ _ _ (Raw.g_len _).symm aS) .nil) .nil fun _ _ _ _=>?_
   (refine Zz ?_;intros)
   refine oR fun _ _=>?_
   (refine Zz ?_;intros)
   refine a12 aS (r:=(B6 r.l[i]).g) (fun _=>a1a (by rw [O.g_len];decide) aS) (O.g_len _) (by simp) (by simp only [List.length_map];omega) fun _ _=>?_
   (refine Zz ?_;intros)
   exact ih (i+1) _ _ ⟨_,_,acc ++ [B6 r.l[i]],rfl,(by rw [List.length_append];rfl),.a _ _ (by simp) (by rw [List.map_append];assumption),hq,(by rw [hacc,List.take_add_one,List.getElem?_eq_getElem hiw,List.map_append];rfl),by simp [hlen],oM⟩ oM
  ·have e9:acc=r.l.map B6:=by rw [hacc,List.take_of_length_le oM]
   refine j3 hL ⟨acc,oM⟩ (r:=.a (E7 acc).g) rfl (.k (.sl _ _ _ _ _ (by simp) aS) .nil) .nil fun _ _ _ _=>?_
   (refine Zz ?_;intros)
   refine oR fun _ _=>?_
   (refine Zz ?_;intros)
   rw [← e9]
   exact k9 ⟨.ret _ _ oV,.nil⟩
theorem d0z {r:Raw} {m:Nat} (h:r.few m=true):(B6 r).size+1≤4 * m∧(B6 r).fm=true:=by
 have h:=Raw.few_ok h
 have:=a96 r
 exact ⟨oM,d10 h.1⟩
end
end Go.Proofs.YtffaodopiifbkaaGreatDoor
namespace Go.Proofs.YtffaodopiifbkaaGreatDoor
open Go.Abs LQ Go.RowKit Go.Lib Go.Sort
set_option maxRecDepth 100000
set_option maxHeartbeats 4000000
noncomputable section
theorem U2:∀ n:Nat,Lib.decDigits n=i7 n:=by
 intro n
 induction n using Nat.strongRecOn with
 | _ n ih =>
  unfold Lib.decDigits
  by_cases h:n < 10
  ·simp only [h,dite_true,if_true]
   by_cases h0:n=0
   ·subst h0;rfl
   ·unfold i7
    rw [if_neg h0,F6 h0,show n / 10=0 by omega,A4,Nat.mod_eq_of_lt h]
    rfl
  ·simp only [h,dite_false,if_false]
   rw [ih (n / 10) oM]
   have h1:¬n / 10=0:=oM
   have h0:¬n=0:=oM
   unfold i7
   rw [if_neg h1,if_neg h0,F6 h0,List.reverse_cons,List.map_append]
   rfl
theorem c7d (n:Int):Lib.itoa n=j4 n:=by
 unfold Lib.itoa j4
 split
 ·rw [U2];rfl
 ·rw [U2,show n.toNat=n.natAbs by omega]
theorem e6l:c5m:=fun ⟨n,hn⟩ vs bs hv hb=>by
 change l8 [.c (.i .i64 n)] vs at hv
 cases hb
 refine ⟨.ret (.str (j4 n).length (p9 (j4 n))),[],fun hok=>?_,.ret _ _ (.s _ _ _ rfl rfl),.nil⟩
 have hx:vs.map toD=[D.int .i64 n]:=by
  cases hv with
  | cons _ _ v _ h1 h2 =>
   cases h2
   cases h1 with
   | i=>rfl
   | q _ x h=>cases h;rfl
 rw [hx]
 show CM X0.P X0.G _ _ [] (.ret (.str (n5 (j4 n).length (p9 (j4 n))))) []
 rw [C0]
 refine L1 (d:=.str (j4 n)) Tryz.call111 fun w S M us hg hwi hr=>?_
 cases hr with
 | cons _ _ _ _ r1 r2 =>
 cases r2
 cases r1
 refine (Any.strconv_Itoa Tryz.laysM171 n oM oM w (d68 hg)).mono ?_
 rintro e w' ⟨rfl,k,os,rfl⟩
 have hb:Below w.heap.size w (grow (w.drewN k) os):=⟨rfl,rfl,rfl,by show w.heap.size≤(w.heap ++ os).size;rw [Array.size_append];omega,fun j hj=>by show (w.heap ++ os)[j]?=w.heap[j]?;exact Array.getElem?_append_left hj⟩
 exact ⟨hb,_,S,rfl,⟨fun _ _ h=>h,fun _ _ h=>.inl h⟩,R0 hwi hb,.str _ _ (by rw [c7d]),R3 (fun _ _ _ h=>by cases h) (fun _ h=>by cases h)⟩
end
end Go.Proofs.YtffaodopiifbkaaGreatDoor
namespace Go.Proofs.YtffaodopiifbkaaGreatDoor
open Go.Abs LQ
noncomputable section
open Classical
section
variable {L:List Pk} {cur:i6}
theorem d9s (a b:List i6):(P6 (a ++ b)).length=(P6 a).length+(P6 b).length:=by simp [P6]
theorem a0m (a:i6) (b:List i6):(P6 (a :: b)).length=a.length+1+(P6 b).length:=by simp [P6];omega
theorem d42 (a:List i6):(P6 (a.map (32 :: ·))).length=(P6 a).length+a.length:=by
 induction a with
 | nil=>rfl
 | cons x a ih=>rw [List.map_cons,a0m,a0m,ih];simp;omega
theorem d7u (a:List i6):(P6 (b4b a)).length=(P6 a).length+a.length:=by
 cases a with
 | nil=>rfl
 | cons x a=>rw [b4b,a0m,a0m,d42];simp;omega
theorem b9c:∀ (a:List i6),(P6 (a4o a)).length≤(P6 a).length+1
 | []=>by simp [a4o]
 | [l]=>by simp [a4o,P6]
 | l :: m :: r=>by
  have:=b9c (m :: r)
  show (P6 (l :: a4o (m :: r))).length≤_
  rw [a0m,a0m];omega
theorem e3h (a:List i6):(b4b a).length=a.length:=by cases a <;> simp [b4b]
theorem c1n:∀ (a:List i6),(a4o a).length=a.length
 | []=>rfl
 | [l]=>rfl
 | l :: m :: r=>by simp [a4o,c1n (m :: r)]
theorem c6x:∀ {l:List O} {o:O},E4 o=some l→(l.map lv).sum+1=lv o∧(l.map (X8 L cur)).sum≤X8 L cur o∧(∀ x ∈ l,(dO x).1≤(dO o).2)
 | [],o,h=>by rw [c14 h];exact ⟨rfl,Nat.zero_le _,fun x hx=>by cases hx⟩
 | a :: l,o,h=>by
  obtain ⟨d,rfl,hd⟩:=a3c h
  obtain ⟨h1,h2,h3⟩:=c6x hd
  simp only [List.map_cons,List.sum_cons,lv,X8,dO]
  refine ⟨oM,oM,fun x hx=>?_⟩
  rcases List.mem_cons.1 hx with rfl | hx
  ·omega
  ·have:=h3 x hx;omega
theorem d8o {n:Nat}:∀ {o:O} {w:Int},o.size≤n→(a41 L cur n o w).length≤lv o∧(P6 (a41 L cur n o w)).length≤X8 L cur o+6 * lv o+lv o * (dO o).1:=by
 induction n with
 | zero=>intro o w h;have:=O.size_pos o;omega
 | succ n ih =>
  intro o w h
  have hone:([C1 L cur o]:List i6).length≤lv o∧(P6 [C1 L cur o]).length≤X8 L cur o+6 * lv o+lv o * (dO o).1:=by
   have:=(a7f (L:=L) (cur:=cur) o).1
   have hp:=d7z o
   refine ⟨by simp;omega,?_⟩
   rw [a0m]
   show (pT L cur o).1.length+1+0≤_
   omega
  rw [a41]
  split
  ·rename_i l hl
   split
   ·exact hone
   ·rename_i hcn
    cases l with
    | nil=>exact absurd (.inr (.inl (by simp))) hcn
    | cons a l =>
     obtain ⟨i1,i2,i3⟩:=c6x (L:=L) (cur:=cur) hl
     obtain ⟨d,ho,hd⟩:=a3c hl
     have hdo:(dO o).1=1+(dO o).2:=by rw [ho];rfl
     have hsz:=b7u hl
     have hall:∀ m:List O,(∀ x ∈ m,x ∈ a :: l)→(m.flatMap fun x=>a41 L cur n x (w - 1)).length≤(m.map lv).sum∧(P6 (m.flatMap fun x=>a41 L cur n x (w - 1))).length≤(m.map (X8 L cur)).sum+6 * (m.map lv).sum+(m.map lv).sum * (dO o).2:=by
      intro m
      induction m with
      | nil=>intro _;exact ⟨Nat.le_refl _,Nat.zero_le _⟩
      | cons x m ihm =>
       intro hm
       have hx:=hm x (by simp)
       have h1:=ih (o:=x) (w:=w - 1) (by have:=hsz x hx;omega)
       have h2:=ihm fun y hy=>hm y (by simp [hy])
       simp only [List.flatMap_cons,List.map_cons,List.sum_cons,List.length_append,d9s]
       have h3:=Nat.mul_le_mul_left (lv x) (i3 x hx)
       rw [Nat.add_mul]
       omega
     obtain ⟨g1,g2⟩:=hall (a :: l) fun _ hx=>hx
     generalize ((a :: l).flatMap fun x=>a41 L cur n x (w - 1))=Z at *
     refine ⟨by rw [c1n,e3h];omega,?_⟩
     have k1:=b9c (b4b Z)
     rw [d7u] at k1
     rw [hdo]
     generalize hS:((a :: l).map lv).sum=S at *
     have e:lv o * (1+(dO o).2)=S * (dO o).2+S+1+(dO o).2:=by
      rw [← i1,Nat.mul_add,Nat.mul_one,Nat.add_mul,Nat.one_mul];omega
     rw [e]
     omega
  ·exact hone
end
theorem e0r {L:List Pk} {cur:i6} {r:Raw} {w:Int} (h:r.few 40=true):(C1 L cur (B6 r)).length≤6000∧(P6 (a41 L cur (B6 r).size (B6 r) w)).length≤6000∧(B6 r).size≤3000∧(dO (B6 r)).1≤201:=by
 have h9:=Raw.few_ok h
 have h1:=(d0z h).1
 have h2:=d1t (B6 r)
 have h3:=d2y L cur h9.1
 have h4:=(a7f (L:=L) (cur:=cur) (B6 r)).1
 have h5:=(d8o (L:=L) (cur:=cur) (o:=B6 r) (w:=w) (Nat.le_refl _)).2
 have h6:=d0y r
 have h8:lv (B6 r)≤80:=oM
 have h7:=Nat.mul_le_mul h8 (show (dO (B6 r)).1≤40 by omega)
 refine ⟨by show (pT L cur (B6 r)).1.length≤_;omega,oM,oM,oM⟩
end
end Go.Proofs.YtffaodopiifbkaaGreatDoor
namespace Go.Proofs.YtffaodopiifbkaaGreatDoor
open Go.Abs LQ
set_option maxRecDepth 100000
set_option maxHeartbeats 8000000
noncomputable section
theorem d3s:l5 13 { ι:=Raw × Int,A:=fun p=>[.a p.1.g,.c (.i .i64 p.2)],B:=fun _=>[],R:=fun _=>.ret (.c (.b true)),B':=fun _=>[],inj:=fun _ _ _ _ _ _ _ _=>⟨rfl,rfl⟩ }:=n6 (fun fn h=>f42 h) [(30,_),(36,_),(37,_),(33,_),(34,_),(38,_),(19,_),(22,_)] (.cons b30 (.cons g09 (.cons (e99 e6l) (.cons a5r (.cons c66 (.cons c50 (.cons d43 (.cons d7t .nil)))))))) fun U fn hfn ⟨r,n⟩ vs bs hv hb=>by
 have hfi:=hfn 30 _ rfl
 have hfe:=hfn 36 _ rfl
 have hob:=hfn 37 _ rfl
 have hpk:=hfn 33 _ rfl
 have hwh:=hfn 34 _ rfl
 have hpr:=hfn 38 _ rfl
 have hon:=hfn 19 _ rfl
 have heq:=hfn 22 _ rfl
 have hv:l8 [.a r.g,.c (.i .i64 n)] vs:=hv
 have hb:j5 [] bs:=hb
 show j6 U _ fun v bs'=>l9 (.ret (.c (.b true))) v∧j5 [] bs'
 unfold r13
 (refine Zz ?_;intros)
 refine L0 aS (Raw.g_len _) fun q0 hq0=>?_
 (refine Zz ?_;intros)
 refine j3 hfi () (r:=.c (.b true)) rfl .nil .nil fun _ _ _ _=>?_
 (refine Zz ?_;intros)
 refine j3 hfe ⟨(r,40),show 40≤1000 by decide⟩ (r:=.c (.b (r.few 40))) rfl (.k (.a _ _ _ (Raw.g_len _).symm aS) (.k (.i _ _) .nil)) .nil fun _ _ _ _=>?_
 (refine Zz ?_;with_reducible repeat' first|intro _|apply aI)
 ·have hf:r.few 40=true:=‹_›
  have h9:=Raw.few_ok hf
  have ho:=d0z hf
  have hov:okV (B6 r):=⟨ho.2,oM⟩
  refine j3 hob ⟨r,h9.1⟩ (r:=.a (B6 r).g) rfl (.k (.a _ _ _ (Raw.g_len _).symm aS) .nil) .nil fun _ _ _ _=>?_
  refine L0 aS (O.g_len _) fun q1 hq1=>?_
  (refine Zz ?_;intros)
  refine j3 hpk () (r:=.sl 2 (D2.map pg)) rfl .nil .nil fun _ _ _ _=>?_
  (refine Zz ?_;intros)
  refine j3 hwh n (r:=.c (.s (F5 n))) rfl (.k (.i _ _) .nil) .nil fun _ _ _ _=>?_
  (refine Zz ?_;intros)
  by_cases hbad:C8 D2 (F5 n)=none∨C7 D2 (B6 r)=false
  ·have e:G7 D2 (F5 n) (B6 r)=([],13):=by unfold G7;rw [if_pos hbad]
   refine j3 hpr ⟨(D2,F5 n,B6 r),X5,hov⟩ (r:=.t [.c (.s []),.c (.i .i64 13)]) (by show s8.ret (prG _ _ _)=_;unfold prG;rw [e]) (.k (.sl _ _ _ _ _ (by simp) aS) (.k (.s _ _ _ rfl rfl) (.k (oV aS) .nil))) .nil fun _ _ _ _=>?_
   (refine Zz ?_;intros)
   exact k9 ⟨.ret _ _ (.kn _),.nil⟩
  ·have e:G7 D2 (F5 n) (B6 r)=(C1 D2 (F5 n) (B6 r),0):=by unfold G7;rw [if_neg hbad]
   have hh:C7 D2 (B6 r)=true:=by
    cases h:C7 D2 (B6 r) with
    | true=>rfl
    | false=>exact absurd (.inr h) hbad
   have hc:C8 D2 (F5 n) ≠ none:=fun h=>hbad (.inl h)
   obtain ⟨t1,_,t3,t4⟩:=e0r (L:=D2) (cur:=F5 n) (w:=0) hf
   have h1:=c61 (c87 hc (e6i hov hh) t1 t3 t4)
   generalize C1 D2 (F5 n) (B6 r)=T at e t1 h1
   refine j3 hpr ⟨(D2,F5 n,B6 r),X5,hov⟩ (r:=.t [.c (.s T),.c (.i .i64 0)]) (by show s8.ret (prG _ _ _)=_;unfold prG;rw [e]) (.k (.sl _ _ _ _ _ (by simp) aS) (.k (.s _ _ _ rfl rfl) (.k (oV aS) .nil))) .nil fun _ _ _ _=>?_
   (refine Zz ?_;intros)
   refine j3 hpk () (r:=.sl 2 (D2.map pg)) rfl .nil .nil fun _ _ _ _=>?_
   (refine Zz ?_;intros)
   refine j3 hwh n (r:=.c (.s (F5 n))) rfl (.k (.i _ _) .nil) .nil fun _ _ _ _=>?_
   (refine Zz ?_;intros)
   refine j3 hon ⟨(D2,F5 n,T),X5,by show T.length < 8000;omega⟩ (r:=.t [.a (B6 r).g,.a [.i .i64 0,.i .i64 0]]) h1 (.k (.sl _ _ _ _ _ (by simp) aS) (.k (.s _ _ _ rfl rfl) (.k (.s _ _ _ rfl rfl) .nil))) .nil fun _ _ _ _=>?_
   (refine Zz ?_;intros)
   refine L0 aS (O.g_len _) fun q2 hq2=>?_
   (refine Zz ?_;intros)
   refine j3 heq (B6 r,B6 r) (r:=.c (.b true)) (congrArg (fun b=>s8.ret (.c (.b b))) (O.eqb_t.2 rfl)) (.k oV oA) .nil fun _ _ _ _=>?_
   (refine Zz ?_;intros)
   exact k9 ⟨.ret _ _ (.b _),.nil⟩
 ·exact k9 ⟨.ret _ _ (.kn _),.nil⟩
set_option maxHeartbeats 4000000
mutual
theorem e5i:∀ {r:Raw},b2t r→a5c r.g (qc r)
 | .mk k n s l,h=>by
  have hr:=f3z h.1 (e6k h.2)
  rw [← Raw.gs_eq] at hr
  exact .cons _ _ _ _ (.i _ _) (.cons _ _ _ _ (.i _ _) (.cons _ _ _ _ (.s _ _ _ rfl rfl) (.cons _ _ _ _ (.l _ _ _ _ _ (by rw [Raw.gs_eq,List.length_map]) hr) .nil)))
theorem e6k:∀ {l:List Raw},b1e l→∀ x ∈ l,a5c x.g (qc x)
 | [],_,x,h=>absurd h (by simp)
 | y :: l,h,x,hx=>by
  cases hx with
  | head=>exact e5i h.1
  | tail _ hx=>exact e6k h.2 x hx
end
theorem f5z (r:Raw):(qc r).length=4:=by cases r;rfl
theorem c2y:∀ {l:List Raw},b1e l↔∀ x ∈ l,b2t x
 | []=>⟨fun _ x h=>absurd h (by simp),fun _=>trivial⟩
 | y :: l=>by
  show b2t y∧b1e l↔_
  rw [c2y]
  simp
def dc (r:Raw):List D:=(qc r).map fun q=>den q 0
theorem c5l {cs:List Q}:∀ {n i:Nat},i+n=cs.length→u3 (den (.agg cs 0)) i n=(cs.drop i).map fun q=>den q 0
 | 0,i,h=>by rw [List.drop_of_length_le oM];rfl
 | n+1,i,h=>by
  have hi:i < cs.length:=oM
  rw [u3,c5l oM,List.drop_eq_getElem_cons hi,List.map_cons]
  congr 1
  simp only [den]
  rw [Nat.zero_add,c0t,List.getElem?_eq_getElem hi]
  rfl
theorem e5v (r:Raw):u3 (den (.agg (qc r) 0)) 0 4=dc r:=by
 rw [c5l (by rw [f5z])]
 rfl
theorem d64 {l:List Raw} {k m:Nat} (h:k+(m+1)=l.length) (hl:l.length < 140737488355328):rows (z7 (b00 (qs l))) 4 k (m+1)=dc (l[k]'oM) ++ rows (z7 (b00 (qs l))) 4 (k+1) m:=by
 have hk:k < l.length:=oM
 rw [rows,Y9,c8g oM,d4f,show (l.map qc).getD k []=qc l[k] by simp [List.getD,List.getElem?_eq_getElem hk]]
 show u3 (den (.agg (qc l[k]) 0)) 0 4 ++ _=_
 rw [e5v]
variable {H:Type} {enc:TypeId × Value→H} {w:World} {sp:Nat→Bool} {held:Bool}
def okW (t:TypeId) (d:DataW H):Prop:=(d.weights Tryz.prog t).all (·≤reachBytes)=true
theorem c45:Tryz.prog.cellsOf 62=4:=kR
theorem e0k:Tryz.prog.bytesOf 62=56:=kR
theorem c5j:Tryz.prog.cellsOf 3=1:=kR
theorem e08:Tryz.prog.cellsOf 9=1:=kR
theorem e97:Tryz.prog.cellsOf 60=1:=kR
theorem b7r {a:Addr} {cs:List Value} (h:w.cells? 0 a 4=some cs):∃ c0 c1 c2 c3,cs=[c0,c1,c2,c3]∧w.cell? a=some c0∧w.cell? (a.add 1)=some c1∧w.cell? (a.add 2)=some c2∧w.cell? (a.add 3)=some c3:=by
 unfold World.cells? at h
 rw [if_pos (Nat.zero_le _),show List.range 4=[0,1,2,3] from rfl] at h
 simp only [List.mapM_cons,List.mapM_nil,Option.bind_eq_bind,Option.bind_eq_some_iff,Option.pure_def,Option.some.injEq] at h
 obtain ⟨c0,h0,l0,⟨c1,h1,l1,⟨c2,h2,l2,⟨c3,h3,l3,rfl,rfl⟩,rfl⟩,rfl⟩,rfl⟩:=h
 exact ⟨c0,c1,c2,c3,rfl,h0,h1,h2,h3⟩
theorem e6q {a:Addr} {v:Value} (h:w.cell? a=some v):a.block < w.heap.size:=by
 unfold World.cell? at h
 cases e:w.heap[a.block]? with
 | none=>rw [e] at h;cases h
 | some o=>exact (Array.getElem?_eq_some_iff.1 e).1
theorem d54 {a:Addr} {v:Value} (h:w.cell? a=some v):a.spot=none:=by
 unfold World.cell? at h
 split at h
 ·split at h
  ·cases h
  ·rename_i hs
   cases e:a.spot with
   | none=>rfl
   | some x=>rw [e] at hs;exact absurd rfl hs
 ·cases h
theorem c6o {b o n:Nat}:(⟨b,o,none⟩:Addr).add n=⟨b,o+n,none⟩:=by
 unfold Addr.add
 split
 ·rename_i h;rw [h];rfl
 ·rfl
def M8 (w:World) (b:Nat):Nat→Nat→List Value
 | _,0=>[]
 | o,n+1=>(w.cell? ⟨b,o,none⟩).getD .nilIface :: M8 w b (o+1) n
theorem b8b {b:Nat}:∀ {n o i:Nat} {v:Value},(M8 w b o n)[i]?=some v→i < n∧v=(w.cell? ⟨b,o+i,none⟩).getD .nilIface
 | 0,o,i,v,h=>by simp [M8] at h
 | n+1,o,0,v,h=>by
  simp only [M8,List.getElem?_cons_zero,Option.some.injEq] at h
  exact ⟨oM,h.symm⟩
 | n+1,o,i+1,v,h=>by
  simp only [M8,List.getElem?_cons_succ] at h
  have:=b8b h
  exact ⟨oM,by rw [this.2];congr 3;omega⟩
theorem a9x {t:TypeId}:∀ {l:List (DataW H)},(DataW.weightsAll Tryz.prog t l).all (·≤reachBytes)=true→∀ d ∈ l,okW t d
 | [],_,d,hd=>absurd hd (by simp)
 | x :: l,h,d,hd=>by
  rw [DataW.weightsAll,List.all_append,Bool.and_eq_true] at h
  cases hd with
  | head=>exact h.1
  | tail _ hd=>exact a9x h.2 d hd
theorem c96 {P:Nat→Raw→Prop} {n:Nat} (h:∀ i,i < n→∃ r,P i r):∃ l:List Raw,∃ hl:l.length=n,∀ i (hi:i < n),P i (l[i]'oM):=by
 induction n with
 | zero=>exact ⟨[],rfl,fun i hi=>absurd hi (Nat.not_lt_zero _)⟩
 | succ n ih =>
  obtain ⟨l,hl,k⟩:=ih fun i hi=>h i oM
  obtain ⟨r,hr⟩:=h n oM
  refine ⟨l ++ [r],by simp [hl],fun i hi=>?_⟩
  by_cases hin:i < n
  ·rw [List.getElem_append_left oM];exact k i hin
  ·have:i=n:=oM
   subst this
   rw [List.getElem_append_right oM]
   simpa [hl] using hr
theorem f96 {n:Nat} (IH:∀ cs x,DataW.trod enc Tryz.prog w 0 sp held n 62 cs=some x→okW 62 x.1→∃ r,b2t r∧v8 (b0d w) u6 w cs (dc r)) {cs:List Value} {x:DataW H × List MemPlace}
  (h:DataW.trod enc Tryz.prog w 0 sp held (n+1) 60 cs=some x) (hw:okW 60 x.1) :
  ∃ v l,cs=[v]∧l.length < 140737488355328∧b1e l∧Rd (b0d w) u6 w v (.slice l.length (rows (z7 (b00 (qs l))) 4 0 l.length) .no):=by
 rcases DataW.trod_slice Tryz.underlying60 h with ⟨rfl,hx⟩ | ⟨a,len,cap,elems,rest,n',e1,rfl,hx,_,hlc,hcap,hel,hget,_,_⟩
 ·exact ⟨_,[],rfl,dE,trivial,.slice none 0 0 [] [] .no (.inl rfl) .nil trivial (Nat.le_refl _) (fun _=>rfl)⟩
 ·have e1:n'=n:=oM
  subst e1
  rw [hx] at hw
  unfold okW at hw
  simp only [DataW.weights,Tryz.underlying60,e0k,List.all_cons,List.all_append,Bool.and_eq_true,decide_eq_true_eq,List.length_map] at hw
  obtain ⟨hw1,hw2,_⟩:=hw
  have hlen:len < 140737488355328:=by
   have:reachBytes=140737488351232:=rfl
   omega
  have key:∀ i,i < len→∃ r,b2t r∧∃ cs,w.cells? 0 (a.add (i * 4)) 4=some cs∧v8 (b0d w) u6 w cs (dc r):=fun i hi=>by
   have hg:=hget i hi
   rw [List.getElem?_eq_getElem oM,c45,Option.bind_eq_some_iff] at hg
   obtain ⟨cs,h1,h2⟩:=hg
   obtain ⟨r,h3,h4⟩:=IH cs _ h2 (a9x hw2 _ (List.mem_map_of_mem (List.getElem_mem _)))
   exact ⟨r,h3,cs,h1,h4⟩
  obtain ⟨l,hl,hP⟩:=c96 key
  have hwl:b1e l:=c2y.2 fun x hx=>by
   obtain ⟨i,hi,rfl⟩:=List.getElem_of_mem hx
   exact (hP i oM).1
  by_cases h0:len=0
  ·have:l=[]:=List.eq_nil_of_length_eq_zero oM
   subst this
   subst h0
   exact ⟨_,[],rfl,dE,trivial,.slice (some a) 0 cap [] [] .no (.inl rfl) .nil trivial hlc (fun h=>by cases h)⟩
  ·have ha:a=⟨a.block,a.off,none⟩:=by
    obtain ⟨_,cs,h1,_⟩:=hP 0 oM
    obtain ⟨c0,_,_,_,_,h2,_⟩:=b7r h1
    have hs:=d54 h2
    rw [Nat.zero_mul] at hs
    have e:a.add 0=a:=if_pos rfl
    rw [e] at hs
    cases a
    simp only at hs
    rw [hs]
   generalize a.block=b at ha
   generalize a.off=o at ha
   subst ha
   have hblk:∀ i,i < len→∃ c0 c1 c2 c3,w.cell? ⟨b,o+4 * i,none⟩=some c0∧w.cell? ⟨b,o+4 * i+1,none⟩=some c1∧w.cell? ⟨b,o+4 * i+2,none⟩=some c2∧w.cell? ⟨b,o+4 * i+3,none⟩=some c3∧∀ hi:i < l.length,v8 (b0d w) u6 w [c0,c1,c2,c3] (dc l[i]):=fun i hi=>by
    obtain ⟨_,cs,h1,h2⟩:=hP i hi
    obtain ⟨c0,c1,c2,c3,rfl,k0,k1,k2,k3⟩:=b7r h1
    rw [c6o,Nat.mul_comm] at k0 k1 k2 k3
    rw [c6o] at k1 k2 k3
    exact ⟨c0,c1,c2,c3,k0,k1,k2,k3,fun _=>h2⟩
   have hrds:∀ m k,k+m=len→v8 (b0d w) u6 w (M8 w b (o+4 * k) (4 * m)) (rows (z7 (b00 (qs l))) 4 k m):=by
    intro m
    induction m with
    | zero=>intro k _;exact .nil
    | succ m ih =>
     intro k hk
     obtain ⟨c0,c1,c2,c3,k0,k1,k2,k3,kr⟩:=hblk k oM
     have h2:=ih (k+1) oM
     rw [d64 oM oM]
     have e:M8 w b (o+4 * k) (4 * (m+1))=[c0,c1,c2,c3] ++ M8 w b (o+4 * (k+1)) (4 * m):=by
      rw [show 4 * (m+1)=4 * m+1+1+1+1 by omega]
      simp only [M8]
      rw [k0,k1,show o+4 * k+1+1=o+4 * k+2 by omega,k2,show o+4 * k+2+1=o+4 * k+3 by omega,k3,show o+4 * k+3+1=o+4 * (k+1) by omega]
      rfl
     rw [e]
     exact (kr oM).append h2
   refine ⟨_,l,rfl,oM,hwl,?_⟩
   have h3:=hrds len 0 oM
   rw [hl]
   refine .slice (some ⟨b,o,none⟩) len cap _ _ .no (.inr ⟨b,o,rfl,fun i v hi=>?_⟩) h3 trivial hlc (fun h=>by cases h)
   obtain ⟨hi4,hv⟩:=b8b hi
   rw [Nat.mul_zero,Nat.add_zero] at hv
   obtain ⟨c0,c1,c2,c3,k0,k1,k2,k3,_⟩:=hblk (i / 4) oM
   have hc:w.cell? ⟨b,o+i,none⟩=some v:=by
    have:i % 4=0∨i % 4=1∨i % 4=2∨i % 4=3:=oM
    rcases this with e | e | e | e
    ·rw [show o+i=o+4 * (i / 4) by omega] at hv ⊢;rw [k0] at hv ⊢;rw [hv];rfl
    ·rw [show o+i=o+4 * (i / 4)+1 by omega] at hv ⊢;rw [k1] at hv ⊢;rw [hv];rfl
    ·rw [show o+i=o+4 * (i / 4)+2 by omega] at hv ⊢;rw [k2] at hv ⊢;rw [hv];rfl
    ·rw [show o+i=o+4 * (i / 4)+3 by omega] at hv ⊢;rw [k3] at hv ⊢;rw [hv];rfl
   exact ⟨e6q hc,hc⟩
theorem f4m:∀ (n:Nat) (cs:List Value) (x:DataW H × List MemPlace),DataW.trod enc Tryz.prog w 0 sp held n 62 cs=some x→okW 62 x.1→∃ r,b2t r∧v8 (b0d w) u6 w cs (dc r):=by
 intro n
 induction n using Nat.strongRecOn with
 | _ n ih =>
 intro cs x h hw
 obtain ⟨xs,m,rfl,hx,hlen,hxl,hf⟩:=DataW.trod_struct Tryz.underlying62 h
 rw [c45] at hlen
 obtain ⟨c0,c1,c2,c3,rfl⟩:∃ c0 c1 c2 c3,cs=[c0,c1,c2,c3]:=by
  match cs,hlen with
  | [c0,c1,c2,c3],_=>exact ⟨c0,c1,c2,c3,rfl⟩
 obtain ⟨x0,x1,x2,x3,rfl⟩:∃ x0 x1 x2 x3,xs=[x0,x1,x2,x3]:=by
  match xs,hxl with
  | [x0,x1,x2,x3],_=>exact ⟨x0,x1,x2,x3,rfl⟩
 have f0:DataW.trod enc Tryz.prog w 0 sp held m 3 (([c0,c1,c2,c3].drop 0).take (Tryz.prog.cellsOf 3))=some x0:=hf 0 _ rfl
 rw [c5j] at f0
 change DataW.trod enc Tryz.prog w 0 sp held m 3 [c0]=some x0 at f0
 have f1:DataW.trod enc Tryz.prog w 0 sp held m 3 (([c0,c1,c2,c3].drop 1).take (Tryz.prog.cellsOf 3))=some x1:=hf 1 _ rfl
 rw [c5j] at f1
 change DataW.trod enc Tryz.prog w 0 sp held m 3 [c1]=some x1 at f1
 have f2:DataW.trod enc Tryz.prog w 0 sp held m 9 (([c0,c1,c2,c3].drop 2).take (Tryz.prog.cellsOf 9))=some x2:=hf 2 _ rfl
 rw [e08] at f2
 change DataW.trod enc Tryz.prog w 0 sp held m 9 [c2]=some x2 at f2
 have f3:DataW.trod enc Tryz.prog w 0 sp held m 60 (([c0,c1,c2,c3].drop 3).take (Tryz.prog.cellsOf 60))=some x3:=hf 3 _ rfl
 rw [e97] at f3
 change DataW.trod enc Tryz.prog w 0 sp held m 60 [c3]=some x3 at f3
 obtain ⟨k,e0,_,_⟩:=DataW.trod_int Tryz.underlying3 f0
 obtain ⟨nn,e1,_,_⟩:=DataW.trod_int Tryz.underlying3 f1
 obtain ⟨s,e2,_,_⟩:=DataW.trod_string Tryz.underlying9 f2
 injection e0 with e0
 injection e1 with e1
 injection e2 with e2
 subst e0 e1 e2
 rw [hx] at hw
 unfold okW at hw
 simp only [DataW.weights,Tryz.underlying62,List.map_cons,List.map_nil,DataW.weightsEach,List.all_append,Bool.and_eq_true] at hw
 obtain ⟨_,_,_,hw3,_⟩:=hw
 cases m with
 | zero=>simp [DataW.trod] at f3
 | succ m =>
  obtain ⟨v,l,e3,hl,hwl,hr⟩:=f96 (n:=m) (fun cs x h1 h2=>ih m oM cs x h1 h2) f3 hw3
  injection e3 with e3
  subst e3
  refine ⟨.mk k nn s.data.toList l,⟨hl,hwl⟩,?_⟩
  refine .k (.int _ _) (.k (.int _ _) (.k (.str _ _ ?_) (.k ?_ .nil)))
  ·exact (C0 _).symm
  ·exact hr
end
end Go.Proofs.YtffaodopiifbkaaGreatDoor
namespace Go.Proofs.YtffaodopiifbkaaGreatDoor
open Go.Abs Go.ChangeShapes Go.WideShapes Go.ChangeAt Go.WideMaps Go.WideElems Go.RowKit
set_option maxRecDepth 100000

section
variable {H:Type} {enc:TypeId × Value→H} {W:World} {base:Nat} {v:Value} {d:DataW H} {p:List MemPlace}
theorem e9a (hv:Value.okWide Tryz.prog W .any base 62 v) (h:DataW.Trod enc Tryz.prog W 0 (fun _=>true) true 62 v d p) (hw:okW 62 d) :
  ∃ r,b2t r∧RV (.a r.g) (.a (.agg (qc r) 0) 4)∧Rd (b0d W) u6 W v (toD (.a (.agg (qc r) 0) 4)):=by
 unfold Value.okWide at hv
 rw [Tryz.underlying62] at hv
 obtain ⟨cs,rfl,_⟩:=hv
 obtain ⟨fuel,h⟩:=h
 obtain ⟨r,hr,hd⟩:=f4m fuel _ _ h hw
 refine ⟨r,hr,.a _ _ _ r.g_len.symm (e5i hr).cel,?_⟩
 simp only [toD]
 rw [e5v]
 exact .agg _ _ hd
end
theorem d9q {H:Type} {enc:TypeId × Value→H} {t:TypeId} (hr:Tryz.prog.readableRec t=true) (ht:t < Tryz.prog.types.size) (hl:laidOutB Tryz.prog=true) {W W':World} {v:Value} {d:DataW H} {ps:List MemPlace}
  (h:DataW.Trod enc Tryz.prog W 0 (fun _=>true) true t v d ps) (hb:Below W.heap.size W W') (hlt:∀ x ∈ ps,x.block < W.heap.size):DataW.Trod enc Tryz.prog W' 0 (fun b=>decide (b < W.heap.size)) true t v d ps :=
 Below.trod hl hr ht h hb hlt
theorem e03:Tryz.prog.readableRec 62=true:=kR
theorem e0y:62 < Tryz.prog.types.size:=of_decide_eq_true kR
end Go.Proofs.YtffaodopiifbkaaGreatDoor
