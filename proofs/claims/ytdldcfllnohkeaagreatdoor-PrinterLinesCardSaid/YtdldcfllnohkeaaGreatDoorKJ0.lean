/- Texts made of pieces. -/
import Derived.Test.YtdldcfllnohkeaaGreatDoorKRA
import Derived.Test.YtdldcfllnohkeaaGreatDoorKTC
set_option linter.all false
namespace Go.Proofs.YtdldcfllnohkeaaGreatDoor
open Go.Abs LQ
set_option maxRecDepth 100000
set_option maxHeartbeats 4000000
noncomputable section
theorem T7 {U:s7} {P:J7→List Bx→Prop} {x y:List UInt8} {l c1 c2:Nat} {K:Nat→Om} (h1:l=x.length) (e1:c1=j9 x) (e2:c2=j9 y) (k:g7 U (K (j9 (x ++ y))) P):g7 U (U.fN (U.sCat l c1 c2) K) P:=fun e=>by
 subst h1 e1 e2
 have:=k e
 subst e
 rw [a6u]
 show ∃ v bs,K (sCat x.length (j9 x) (j9 y))=some (v,bs)∧P v bs
 rw [c0h];exact this
def b2k (n:Int):List G:=[.i .i64 n]
theorem f2s {U:s7} {P:J7→List Bx→Prop} {z c:Nat} {xs:List (List G)} {v:V} {K:i7 Q→Nat→Nat→Om} (hv:RV (.fr (z+1) xs) v) (hc:X2 (.fr (z+1))=c) (h:∀ t off,m7 (z+1) xs t off→g7 U (K t off xs.length) P):g7 U (U.uSl (z+1) c v K) P:=by
 cases hv with
 | fr _ _ t off len h1 h2=>subst h1;exact b8o hc (h t off h2)
theorem c3h:j3 23 (sp0 (.fr 2 [pg (u0,[])])):=k7 (fun fn h=>e84 h) [] .nil fun U fn hfn _ vs bs hv hb=>by
 have hv:j5 [] vs:=hv
 have hb:RBs [] bs:=hb
 show g7 U _ fun v bs'=>j6 (.ret (.fr 2 [pg (u0,[])])) v∧RBs [] bs'
 unfold r23
 (refine Zq ?_;intros)
 refine g9 ⟨.ret _ _ (.fr _ _ _ _ _ rfl (.of fun j r h=>?_)),.nil⟩
 match j,h with
 | 0,h =>
  simp at h
  subst h
  refine ⟨rfl,?_,fun g h=>by simp [pg] at h⟩
  exact .k (.s _ _ _ rfl dE) (.k (.l _ _ _ _ _ rfl (.nil _ _ _)) (.nil _ _))
 | j+1,h=>simp at h
theorem b1h:F1 [(u0,[])]:=⟨dE,fun p hp=>by cases List.mem_singleton.1 hp;decide⟩
theorem f2i {o:O} {q:Q} (h:u6 o.g q 0):o.g.length=7∧Row o.g q:=⟨O.g_len o,h,fun g e=>by have:=O.g_len o;rw [e] at this;simp at this⟩
end
end Go.Proofs.YtdldcfllnohkeaaGreatDoor
