/- What typed data are in memory. No program in sight. -/
import Derived.Test.YtgipbdffgfbedaaGreatDoorCR1
set_option linter.all false
namespace Go.Abs
noncomputable section
mutual
def dG:G→D
 | .b x=>.bool x
 | .i k n=>.int k n
 | .s x=>.str x
 | .l xs=>.slice xs.length (dRs xs) .no
def dRs:List (List G)→List D
 | []=>[]
 | r :: rs=>dGs r ++ dRs rs
def dGs:List G→List D
 | []=>[]
 | g :: gs=>dG g :: dGs gs
end
theorem c00:∀ gs:List G,dGs gs=gs.map dG
 | []=>by simp [dGs]
 | g :: gs=>by rw [dGs,c00 gs];rfl
theorem c01 (r:List G) (rs:List (List G)):dRs (r :: rs)=r.map dG ++ dRs rs:=by rw [dRs,c00]
theorem e1z (t:j0 Q) (i:Nat):G9 (t7 t) i=den (tQ t i):=by
 rw [U0];unfold tQ;cases t.get i <;> rfl
mutual
theorem RG.den:∀ {g:G} {x:Q},RG g x→Abs.den x 0=dG g
 | _,_,.b x=>by simp only [Abs.den,dG];rfl
 | _,_,.i k n=>by simp only [Abs.den,dG];rfl
 | _,_,.s x l c h1 h2=>by subst h1 h2;simp only [Abs.den,dG,z7];rfl
 | _,_,.l xs t n off len h1 h2=>by subst h1;simp only [Abs.den,dG];rw [← n7.den h2];rfl
theorem n7.den:∀ {n:Nat} {xs:List (List G)} {t:j0 Q} {off:Nat},n7 n xs t off→rows (t7 t) n off xs.length=dRs xs
 | _,_,_,_,.nil n t off=>by simp only [List.length_nil,rows,dRs]
 | _,_,_,_,.cons n r rs t off h1 h2 _ h3=>by
  rw [List.length_cons,rows,dRs,n7.den h3,e1z,← h1,u3.den h2,c00]
theorem u3.den:∀ {gs:List G} {q:Q} {i:Nat},u3 gs q i→n8 (Abs.den q) i gs.length=gs.map dG
 | _,_,_,.nil q i=>by simp only [List.length_nil,n8,List.map_nil]
 | _,_,_,.cons g gs q i h1 h2=>by
  rw [List.length_cons,n8,u3.den h2,List.map_cons,← a1w,RG.den h1]
end
mutual
def dV:GV→D
 | .c g=>dG g
 | .a gs=>.agg (gs.map dG)
 | .t vs=>.tuple (dVs vs)
 | .p id off=>.ptr id off
 | .sl _ xs=>.slice xs.length (dRs xs) .no
 | .fr z xs=>.slice xs.length (dRs xs) (.fr z)
 | .f0 z xs=>.slice xs.length (dRs xs) (.fr z)
 | .nilI=>.nilIface
 | .fl t e p=>.iface t (.agg [.int .i64 e,.int .i64 p])
 | .raw v=>toD v
def dVs:List GV→List D
 | []=>[]
 | v :: vs=>dV v :: dVs vs
end
theorem c02:∀ vs:List GV,dVs vs=vs.map dV
 | []=>by simp [dVs]
 | g :: gs=>by rw [dVs,c02 gs];rfl
mutual
theorem RV.toD:∀ {g:GV} {v:V},RV g v→Abs.toD v=dV g
 | _,_,.b x=>by simp only [Abs.toD,dV,dG]
 | _,_,.kn x=>by simp only [Abs.toD,dV,dG]
 | _,_,.i k n=>by simp only [Abs.toD,dV,dG]
 | _,_,.s x l c h1 h2=>by subst h1 h2;simp only [Abs.toD,dV,dG,z7]
 | _,_,.cl xs t n off len h1 h2=>by subst h1;simp only [Abs.toD,dV,dG];rw [n7.den h2]
 | _,_,.q g x h=>by simp only [Abs.toD,dV];exact h.den
 | _,_,.a gs q m h1 h2=>by subst h1;simp only [Abs.toD,dV];rw [h2.den]
 | _,_,.ag gs cs h=>by
  simp only [Abs.toD,dV]
  rw [j6.toD h,c02,List.map_map]
  exact congrArg D.agg (List.map_congr_left fun g _=>by simp only [Function.comp,dV])
 | _,_,.t gs vs h=>by simp only [Abs.toD,dV];rw [j6.toD h]
 | _,_,.p id off=>by simp only [Abs.toD,dV]
 | _,_,.sl n xs t off len h1 h2=>by subst h1;simp only [Abs.toD,dV];rw [n7.den h2]
 | _,_,.sl0 n t off=>by simp only [Abs.toD,dV,rows,List.length_nil,dRs]
 | _,_,.slq n xs x h1 _=>by simp only [Abs.toD,dV];rw [h1.den];simp only [dG]
 | _,_,.fr z xs t off len h1 h2=>by subst h1;simp only [Abs.toD,dV];rw [n7.den h2]
 | _,_,.f0 z xs t len h1 h2=>by subst h1;simp only [Abs.toD,dV];rw [n7.den h2]
 | _,_,.nilI=>by simp only [Abs.toD,dV]
 | _,_,.fl t e p vs h=>by
  simp only [Abs.toD,dV]
  rw [j6.toD h];simp only [dVs,dV,dG]
 | _,_,.flq t e p q h=>by
  simp only [Abs.toD,dV]
  have:=h.den
  simp only [List.length_cons,List.length_nil,List.map_cons,List.map_nil,dG] at this
  rw [← this]
 | _,_,.raw v=>by simp only [dV]
theorem j6.toD:∀ {gs:List GV} {vs:List V},j6 gs vs→R9 vs=dVs gs
 | _,_,.nil=>by simp only [R9,dVs]
 | _,_,.cons g gs v vs h k=>by simp only [R9,dVs];rw [RV.toD h,j6.toD k]
end
theorem j6.map_toD {gs:List GV} {vs:List V} (h:j6 gs vs):vs.map Abs.toD=gs.map dV:=by rw [← B0,h.toD,c02]
end
end Go.Abs
