/- Texts made of pieces. -/
import Derived.Test.YtffaodopiifbkaaGreatDoorKRA
import Derived.Test.YtffaodopiifbkaaGreatDoorKTC
set_option linter.all false
namespace Go.Proofs.YtffaodopiifbkaaGreatDoor
open Go.Abs LQ
set_option maxRecDepth 100000
set_option maxHeartbeats 4000000
noncomputable section
theorem R9 {U:q8} {P:H6→List Bx→Prop} {x y:List UInt8} {l c1 c2:Nat} {K:Nat→Om} (h1:l=x.length) (e1:c1=j9 x) (e2:c2=j9 y) (k:g8 U (K (j9 (x ++ y))) P):g8 U (U.fN (U.sCat l c1 c2) K) P:=fun e=>by
 subst h1 e1 e2
 have:=k e
 subst e
 rw [a3b]
 show ∃ v bs,K (sCat x.length (j9 x) (j9 y))=some (v,bs)∧P v bs
 rw [b0q];exact this
def b1t (n:Int):List G:=[.i .i64 n]
theorem f0o {U:q8} {P:H6→List Bx→Prop} {z c:Nat} {xs:List (List G)} {v:V} {K:j0 Q→Nat→Nat→Om} (hv:RV (.fr (z+1) xs) v) (hc:W3 (.fr (z+1))=c) (h:∀ t off,m8 (z+1) xs t off→g8 U (K t off xs.length) P):g8 U (U.uSl (z+1) c v K) P:=by
 cases hv with
 | fr _ _ t off len h1 h2=>subst h1;exact b71 hc (h t off h2)
theorem c3c:j5 45 (sp0 (.fr 2 [pg (s7,[])])):=k8 (fun fn h=>e75 h) [] .nil fun U fn hfn _ vs bs hv hb=>by
 have hv:j6 [] vs:=hv
 have hb:g9 [] bs:=hb
 show g8 U _ fun v bs'=>j7 (.ret (.fr 2 [pg (s7,[])])) v∧g9 [] bs'
 unfold r45
 (refine Zq ?_;intros)
 refine i6 ⟨.ret _ _ (.fr _ _ _ _ _ rfl (.of fun j r h=>?_)),.nil⟩
 match j,h with
 | 0,h =>
  simp at h
  subst h
  refine ⟨rfl,?_,fun g h=>by simp [pg] at h⟩
  exact .k (.s _ _ _ rfl dE) (.k (.l _ _ _ _ _ rfl (.nil _ _ _)) (.nil _ _))
 | j+1,h=>simp at h
theorem b0f:H7 [(s7,[])]:=⟨dE,fun p hp=>by cases List.mem_singleton.1 hp;decide⟩
theorem e9x {o:O} {q:Q} (h:u1 o.g q 0):o.g.length=7∧Row o.g q:=⟨O.g_len o,h,fun g e=>by have:=O.g_len o;rw [e] at this;simp at this⟩
end
end Go.Proofs.YtffaodopiifbkaaGreatDoor
