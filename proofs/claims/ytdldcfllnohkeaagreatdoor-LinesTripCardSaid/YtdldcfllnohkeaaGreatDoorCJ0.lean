/- Texts made of pieces. -/
import Derived.Test.YtdldcfllnohkeaaGreatDoorCRA
import Derived.Test.YtdldcfllnohkeaaGreatDoorCTC
set_option linter.all false
namespace Go.Proofs.YtdldcfllnohkeaaGreatDoor
open Go.Abs LQ
set_option maxRecDepth 100000
set_option maxHeartbeats 4000000
noncomputable section
theorem b3e {U:v8} {P:L6→List Bx→Prop} {x y:List UInt8} {l c1 c2:Nat} {K:Nat→Om} (h1:l=x.length) (e1:c1=n7 x) (e2:c2=n7 y) (k:j5 U (K (n7 (x ++ y))) P):j5 U (U.fN (U.sCat l c1 c2) K) P:=fun e=>by
 subst h1 e1 e2
 have:=k e
 subst e
 rw [b0d]
 show ∃ v bs,K (sCat x.length (n7 x) (n7 y))=some (v,bs)∧P v bs
 rw [c29];exact this
def b37 (n:Int):List G:=[.i .i64 n]
theorem f6h {U:v8} {P:L6→List Bx→Prop} {z c:Nat} {xs:List (List G)} {v:V} {K:j8 Q→Nat→Nat→Om} (hv:RV (.fr (z+1) xs) v) (hc:a0o (.fr (z+1))=c) (h:∀ t off,p9 (z+1) xs t off→j5 U (K t off xs.length) P):j5 U (U.uSl (z+1) c v K) P:=by
 cases hv with
 | fr _ _ t off len h1 h2=>subst h1;exact c1b hc (h t off h2)
theorem c6a:k9 23 (sp0 (.fr 2 [pg (x7,[])])):=n9 (fun fn h=>f2u h) [] .nil fun U fn hfn _ vs bs hv hb=>by
 have hv:l7 [] vs:=hv
 have hb:RBs [] bs:=hb
 show j5 U _ fun v bs'=>l8 (.ret (.fr 2 [pg (x7,[])])) v∧RBs [] bs'
 unfold r23
 (refine Zq ?_;intros)
 refine j9 ⟨.ret _ _ (.fr _ _ _ _ _ rfl (.of fun j r h=>?_)),.nil⟩
 match j,h with
 | 0,h =>
  simp at h
  subst h
  refine ⟨rfl,?_,fun g h=>by simp [pg] at h⟩
  exact .k (.s _ _ _ rfl dE) (.k (.l _ _ _ _ _ rfl (.nil _ _ _)) (.nil _ _))
 | j+1,h=>simp at h
theorem b20:H7 [(x7,[])]:=⟨dE,fun p hp=>by cases List.mem_singleton.1 hp;decide⟩
theorem f57 {o:O} {q:Q} (h:A6 o.g q 0):o.g.length=7∧Row o.g q:=⟨O.g_len o,h,fun g e=>by have:=O.g_len o;rw [e] at this;simp at this⟩
end
end Go.Proofs.YtdldcfllnohkeaaGreatDoor
