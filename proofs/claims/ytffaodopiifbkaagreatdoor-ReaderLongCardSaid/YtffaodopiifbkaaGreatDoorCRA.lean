/- Trees of numbers and strings; how many nodes; parts. -/
import Derived.Test.YtffaodopiifbkaaGreatDoorCR5e
set_option linter.all false
namespace Go.Proofs.YtffaodopiifbkaaGreatDoor
open Go.Abs LQ
set_option maxRecDepth 100000
set_option maxHeartbeats 4000000
noncomputable section
inductive Raw where
 | mk (k n:Int) (s:j0) (l:List Raw)
namespace Raw
def k:Raw→Int
 | mk k _ _ _=>k
def n:Raw→Int
 | mk _ n _ _=>n
def s:Raw→j0
 | mk _ _ s _=>s
def l:Raw→List Raw
 | mk _ _ _ l=>l
mutual
def g:Raw→List G
 | mk k n s l=>[.i .i64 k,.i .i64 n,.s s,.l (gs l)]
def gs:List Raw→List (List G)
 | []=>[]
 | x :: xs=>x.g :: gs xs
end
theorem d9d:∀ l:List Raw,gs l=l.map g
 | []=>rfl
 | x :: xs=>by rw [gs,d9d xs];rfl
theorem g_eq (r:Raw):r.g=[.i .i64 r.k,.i .i64 r.n,.s r.s,.l (r.l.map g)]:=by
 cases r with | mk k n s l=>rw [g,d9d];rfl
theorem g_len (r:Raw):r.g.length=4:=by cases r;rfl
mutual
theorem g_inj:∀ {a b:Raw},a.g=b.g→a=b
 | mk k n s l,mk k' n' s' l',h=>by
  simp only [g,List.cons.injEq,G.i.injEq,G.s.injEq,G.l.injEq] at h
  obtain ⟨⟨_,h1⟩,⟨_,h2⟩,h3,h4,_⟩:=h
  rw [h1,h2,h3,d29 h4]
theorem d29:∀ {a b:List Raw},gs a=gs b→a=b
 | [],[],_=>rfl
 | [],_ :: _,h=>by simp [gs] at h
 | _ :: _,[],h=>by simp [gs] at h
 | x :: xs,y :: ys,h=>by
  simp only [gs,List.cons.injEq] at h
  rw [g_inj h.1,d29 h.2]
end
end Raw
def f0g:Sp where
 ι:={ p:Int × Nat // 0 < p.2∧p.2 < 1000000 }
 A p:=[.c (.i .i64 p.1.1),.c (.i .i64 p.1.2)]
 B _:=[]
 R p:=.ret (.c (.i .i64 (p.1.1 % p.1.2)))
 B' _:=[]
 inj i j vs bs h k _ _:=by
  obtain ⟨_,_,h1,k1,h,k⟩:=h.two k
  obtain ⟨_,_,h2,k2,h,k⟩:=h.two k
  have e1:=(G.i.inj (h1.c_inj k1)).2
  have e2:=(G.i.inj (h2.c_inj k2)).2
  rw [e1,e2];exact ⟨rfl,rfl⟩
theorem d6g:l6 29 f0g:=o7 (fun fn h=>e9s h) [] .nil fun U fn hfn ⟨(n,m),h0,h1⟩ vs bs hv hb=>by
 change l8 [.c (.i .i64 n),.c (.i .i64 m)] vs at hv
 change RBs [] bs at hb
 have h0:0 < m:=h0
 have h1:m < 1000000:=h1
 show j3 U _ fun v bs'=>l7 (.ret (.c (.i .i64 (n % m)))) v∧RBs [] bs'
 have hlt:=Int.tmod_lt_of_pos n (b:=(m:Int)) oM
 have hgt:=Int.lt_tmod_of_pos n (b:=(m:Int)) oM
 have he:n % (m:Int)=if n.tmod m < 0 then n.tmod m+m else n.tmod m:=by
  have k1:=Int.emod_emod_of_dvd n (Int.dvd_refl (m:Int))
  have k2:n.tmod m % m=n % m:=by
   rw [Int.tmod_def,Int.sub_mul_emod_self_left]
  split
  ·rw [← k2,← Int.add_emod_right,Int.emod_eq_of_lt oM oM]
  ·rw [← k2,Int.emod_eq_of_lt oM oM]
 unfold r29
 (refine Zz ?_;intros)
 refine d89 ?_
 (refine Zz ?_;with_reducible repeat' first|intro _|apply aI)
 ·rw [he,if_pos aS]
  exact k9 ⟨.ret _ _ (.i _ _),.nil⟩
 ·rw [he,if_neg aS]
  exact k9 ⟨.ret _ _ (.i _ _),.nil⟩
def G4:j0:=q8 4 1919251317
end
end Go.Proofs.YtffaodopiifbkaaGreatDoor
