/- Texts made of pieces. -/
import Derived.Test.YtffaodopiifbkaaGreatDoorCRA
import Derived.Test.YtffaodopiifbkaaGreatDoorCTC
set_option linter.all false
namespace Go.Proofs.YtffaodopiifbkaaGreatDoor
open Go.Abs LQ
set_option maxRecDepth 100000
set_option maxHeartbeats 4000000
noncomputable section
theorem c71 {U:x5} {P:L3→List Bx→Prop} {x y:List UInt8} {l c1 c2:Nat} {K:Nat→Om} (h1:l=x.length) (e1:c1=p9 x) (e2:c2=p9 y) (k:j6 U (K (p9 (x ++ y))) P):j6 U (U.fN (U.sCat l c1 c2) K) P:=fun e=>by
 subst h1 e1 e2
 have:=k e
 subst e
 rw [b1g]
 show ∃ v bs,K (sCat x.length (p9 x) (p9 y))=some (v,bs)∧P v bs
 rw [c2t];exact this
theorem f58 {U:x5} {P:L3→List Bx→Prop} {z c:Nat} {xs:List (List G)} {v:V} {K:j9 Q→Nat→Nat→Om} (hv:RV (.fr (z+1) xs) v) (hc:a0i (.fr (z+1))=c) (h:∀ t off,r7 (z+1) xs t off→j6 U (K t off xs.length) P):j6 U (U.uSl (z+1) c v K) P:=by
 cases hv with
 | fr _ _ t off len h1 h2=>subst h1;exact b97 hc (h t off h2)
theorem c6e:l5 45 (sp0 (.fr 2 [pg (u1,[])])):=n6 (fun fn h=>f1o h) [] .nil fun U fn hfn _ vs bs hv hb=>by
 have hv:l8 [] vs:=hv
 have hb:j5 [] bs:=hb
 show j6 U _ fun v bs'=>l9 (.ret (.fr 2 [pg (u1,[])])) v∧j5 [] bs'
 unfold r45
 (refine Zq ?_;intros)
 refine k9 ⟨.ret _ _ (.fr _ _ _ _ _ rfl (.of fun j r h=>?_)),.nil⟩
 match j,h with
 | 0,h =>
  simp at h
  subst h
  refine ⟨rfl,?_,fun g h=>by simp [pg] at h⟩
  exact .k (.s _ _ _ rfl dE) (.k (.l _ _ _ _ _ rfl (.nil _ _ _)) (.nil _ _))
 | j+1,h=>simp at h
theorem b28:K0 [(u1,[])]:=⟨dE,fun p hp=>by cases List.mem_singleton.1 hp;decide⟩
theorem f6u {o:O} {q:Q} (h:A8 o.g q 0):o.g.length=7∧Row o.g q:=⟨O.g_len o,h,fun g e=>by have:=O.g_len o;rw [e] at this;simp at this⟩
end
end Go.Proofs.YtffaodopiifbkaaGreatDoor
