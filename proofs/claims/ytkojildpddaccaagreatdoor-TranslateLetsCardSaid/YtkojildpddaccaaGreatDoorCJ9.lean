/- The program's reader: bytes, words, blanks, comments. -/
import Derived.Test.YtkojildpddaccaaGreatDoorCJ8
set_option linter.all false
namespace Go.Proofs.YtkojildpddaccaaGreatDoor
open Go.Abs LQ
set_option maxRecDepth 100000
set_option maxHeartbeats 4000000
noncomputable section
theorem RB.bx {gs:List G} {q:Q} {m:Nat} (h:u3 gs q 0) (hm:m=gs.length):s5 [gs] [.opa q m]:=.k (.opa _ _ _ hm h) .nil
def lg (d:Nat):List G:=[.i .u32 (d:Int)]
theorem f6r {a b:Nat} (h:lg a=lg b):a=b:=by simp only [lg,List.cons.injEq,G.i.injEq,and_true,true_and] at h;omega
theorem b94:∀ {l m:List Nat},l.map lg=m.map lg→l=m
 | [],[],_=>rfl
 | [],_ :: _,h=>by simp at h
 | _ :: _,[],h=>by simp at h
 | a :: l,b :: m,h=>by simp only [List.map_cons,List.cons.injEq] at h;exact congr (congrArg List.cons (f6r h.1)) (b94 h.2)
section
variable {U:B0} {P:H4→List Bx→Prop}
end
section
variable {U:B0} {P:H4→List Bx→Prop}
end
def lgs (n:Nat):List (List G):=(T3 n).map lg
theorem e9r {a b:Nat} (h:lgs a=lgs b):a=b:=e9t (b94 h)
section
variable {U:B0} {P:H4→List Bx→Prop}
theorem sQV {x:Q} {K:Q→Om} (h:s4 U (K x) P):s4 U (U.uQ (.q x) K) P:=fun e=>by have:=h e;subst e;exact this
end
section
end
section
variable {U:B0} {P:H4→List Bx→Prop}
theorem a33 {g:Nat} {l cs:List V} {v:V} {K:List V→List V→Om} (hv:RV (.raw (.func (.func g) l cs)) v) (h:s4 U (K l cs) P):s4 U (U.uFn g v K) P:=fun e=>by
 cases hv
 have:=h e;subst e
 show ∃ v bs,cond (Nat.beq g g) (K l cs) none=some (v,bs)∧P v bs
 rw [Nat.beq_refl];exact this
theorem b8w {g:Nat} {l cs:List V} {K:List V→List V→Om} (h:s4 U (K l cs) P):s4 U (U.uFn g (.func (.func g) l cs) K) P:=a33 (.raw _) h
end
section
end
section
end
end
end Go.Proofs.YtkojildpddaccaaGreatDoor
