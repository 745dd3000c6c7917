/- Trees of numbers and strings; how many nodes; parts. -/
import Derived.Test.YtffaodopiifbkaaGreatDoorCR5e
set_option linter.all false
namespace Go.Proofs.YtffaodopiifbkaaGreatDoor
open Go.Abs LQ
set_option maxRecDepth 100000
set_option maxHeartbeats 4000000
noncomputable section
inductive Raw where
 | mk (k n:Int) (s:i6) (l:List Raw)
namespace Raw
def k:Raw→Int
 | mk k _ _ _=>k
def n:Raw→Int
 | mk _ n _ _=>n
def s:Raw→i6
 | mk _ _ s _=>s
def l:Raw→List Raw
 | mk _ _ _ l=>l
mutual
def g:Raw→List G
 | mk k n s l=>[.i .i64 k,.i .i64 n,.s s,.l (gs l)]
def gs:List Raw→List (List G)
 | []=>[]
 | x :: xs=>x.g :: gs xs
end
theorem g_len (r:Raw):r.g.length=4:=by cases r;rfl
mutual
theorem g_inj:∀ {a b:Raw},a.g=b.g→a=b
 | mk k n s l,mk k' n' s' l',h=>by
  simp only [g,List.cons.injEq,G.i.injEq,G.s.injEq,G.l.injEq] at h
  obtain ⟨⟨_,h1⟩,⟨_,h2⟩,h3,h4,_⟩:=h
  rw [h1,h2,h3,d9l h4]
theorem d9l:∀ {a b:List Raw},gs a=gs b→a=b
 | [],[],_=>rfl
 | [],_ :: _,h=>by simp [gs] at h
 | _ :: _,[],h=>by simp [gs] at h
 | x :: xs,y :: ys,h=>by
  simp only [gs,List.cons.injEq] at h
  rw [g_inj h.1,d9l h.2]
end
mutual
def nodes:Raw→Nat
 | mk _ _ _ l=>1+nodesL l
def nodesL:List Raw→Nat
 | []=>0
 | x :: xs=>x.nodes+nodesL xs
end
mutual
def left:Raw→Int→Int
 | mk _ _ s l,m=>if 12 < s.length∨6 < l.length then -1 else leftL l (m - 1)
def leftL:List Raw→Int→Int
 | [],m=>m
 | x :: xs,m=>if 0≤m then leftL xs (x.left m) else m
end
mutual
theorem left_le:∀ (r:Raw) {m:Int},0≤m→-1≤r.left m∧r.left m≤m
 | mk _ _ s l,m,h=>by
  rw [left]
  split
  ·omega
  ·have:=b0m l (m:=m - 1) oM
   omega
theorem b0m:∀ (l:List Raw) {m:Int},-1≤m→-1≤leftL l m∧leftL l m≤m
 | [],m,h=>by rw [leftL];omega
 | x :: xs,m,h=>by
  rw [leftL]
  split
  ·rename_i h0
   have h1:=left_le x h0
   have h2:=b0m xs (m:=x.left m) h1.1
   omega
  ·omega
end
mutual
def okR:Raw→Prop
 | mk _ _ s l=>s.length≤12∧l.length≤6∧okRL l
def okRL:List Raw→Prop
 | []=>True
 | x :: xs=>x.okR∧okRL xs
end
mutual
theorem d2g:∀ (r:Raw) {m:Int},0≤m→0≤r.left m→r.okR∧r.left m+r.nodes=m
 | mk _ _ s l,m,h,k=>by
  rw [left] at k ⊢
  split at k
  ·omega
  ·rename_i hc
   rw [if_neg hc]
   have hm:0≤m - 1:=by have:=b0m l (m:=m - 1) oM;omega
   have:=c8s l hm k
   refine ⟨⟨oM,oM,this.1⟩,?_⟩
   show _+((1+nodesL l:Nat):Int)=m
   omega
theorem c8s:∀ (l:List Raw) {m:Int},0≤m→0≤leftL l m→okRL l∧leftL l m+nodesL l=m
 | [],m,h,k=>by rw [leftL];exact ⟨trivial,by show m+((0:Nat):Int)=m;omega⟩
 | x :: xs,m,h,k=>by
  rw [leftL,if_pos h] at k ⊢
  have h1:0≤x.left m:=by
   have:=b0m xs (m:=x.left m) (left_le x h).1
   omega
  have h2:=d2g x h h1
  have h3:=c8s xs h1 k
  refine ⟨⟨h2.1,h3.1⟩,?_⟩
  show _+((x.nodes+nodesL xs:Nat):Int)=m
  omega
end
def few (r:Raw) (m:Nat):Bool:=decide (0≤r.left m)
def zero:Raw:=mk 0 0 [] []
end Raw
def g0g:Sp where
 ι:={ p:Int × Nat // 0 < p.2∧p.2 < 1000000 }
 A p:=[.c (.i .i64 p.1.1),.c (.i .i64 p.1.2)]
 B _:=[]
 R p:=.ret (.c (.i .i64 (p.1.1 % p.1.2)))
 B' _:=[]
 inj i j vs bs h k _ _:=by
  obtain ⟨_,_,h1,k1,h,k⟩:=h.two k
  obtain ⟨_,_,h2,k2,h,k⟩:=h.two k
  have e1:=(G.i.inj (h1.c_inj k1)).2
  have e2:=(G.i.inj (h2.c_inj k2)).2
  rw [e1,e2];exact ⟨rfl,rfl⟩
theorem e3w:l5 29 g0g:=n6 (fun fn h=>f6h h) [] .nil fun U fn hfn ⟨(n,m),h0,h1⟩ vs bs hv hb=>by
 change l8 [.c (.i .i64 n),.c (.i .i64 m)] vs at hv
 change j5 [] bs at hb
 have h0:0 < m:=h0
 have h1:m < 1000000:=h1
 show j6 U _ fun v bs'=>l9 (.ret (.c (.i .i64 (n % m)))) v∧j5 [] bs'
 have hlt:=Int.tmod_lt_of_pos n (b:=(m:Int)) oM
 have hgt:=Int.lt_tmod_of_pos n (b:=(m:Int)) oM
 have he:n % (m:Int)=if n.tmod m < 0 then n.tmod m+m else n.tmod m:=by
  have k1:=Int.emod_emod_of_dvd n (Int.dvd_refl (m:Int))
  have k2:n.tmod m % m=n % m:=by
   rw [Int.tmod_def,Int.sub_mul_emod_self_left]
  split
  ·rw [← k2,← Int.add_emod_right,Int.emod_eq_of_lt oM oM]
  ·rw [← k2,Int.emod_eq_of_lt oM oM]
 unfold r29
 (refine Zz ?_;intros)
 refine e6b ?_
 (refine Zz ?_;with_reducible repeat' first|intro _|apply aI)
 ·rw [he,if_pos aS]
  exact k9 ⟨.ret _ _ (.i _ _),.nil⟩
 ·rw [he,if_neg aS]
  exact k9 ⟨.ret _ _ (.i _ _),.nil⟩
def D1:i6:=n5 4 1919251317
end
end Go.Proofs.YtffaodopiifbkaaGreatDoor
