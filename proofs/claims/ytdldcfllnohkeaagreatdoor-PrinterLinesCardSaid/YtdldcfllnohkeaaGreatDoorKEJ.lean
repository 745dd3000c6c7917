/- The program's parser: lists. -/
import Derived.Test.YtdldcfllnohkeaaGreatDoorKEI
set_option linter.all false
namespace Go.Proofs.YtdldcfllnohkeaaGreatDoor
open Go.Abs LQ
set_option maxRecDepth 100000
set_option maxHeartbeats 16000000
noncomputable section
theorem j3.via {g:FuncId} {sp sp':Sp} (h:j3 g sp) (f:sp'.ι→sp.ι) (e:∀ i,sp'.A i=sp.A (f i)∧sp'.B i=sp.B (f i)∧sp'.R i=sp.R (f i)∧sp'.B' i=sp.B' (f i)):j3 g sp':=fun i vs bs hv hb=>by
 obtain ⟨e1,e2,e3,e4⟩:=e i
 rw [e1] at hv
 rw [e2] at hb
 rw [e3,e4]
 exact h (f i) vs bs hv hb
def P8:O→Ob
 | .num n d=>⟨1,f9 n,f8 d,([],[]),[],.nil⟩
 | .sy s=>⟨2,[],[],s,[],.nil⟩
 | .tx t=>⟨3,[],[],([],[]),t,.nil⟩
 | .co a d=>⟨4,[],[],([],[]),[],.node (P8 a).k (P8 a).nu (P8 a).de (P8 a).s (P8 a).t (P8 a).ps (.node (P8 d).k (P8 d).nu (P8 d).de (P8 d).s (P8 d).t (P8 d).ps .nil)⟩
 | .no=>⟨0,[],[],([],[]),[],.nil⟩
theorem b8c (a d:O):(P8 (.co a d)).ps.obs=[P8 a,P8 d]:=rfl
theorem d03:∀ o:O,(P8 o).g=o.g
 | .num _ _=>rfl
 | .sy _=>rfl
 | .tx _=>rfl
 | .no=>rfl
 | .co a d=>by
  rw [Ob.g_eq,b8c,List.map_cons,List.map_cons,d03 a,d03 d];rfl
theorem c39:∀ o:O,(P8 o).nd=o.size
 | .num _ _=>rfl
 | .sy _=>rfl
 | .tx _=>rfl
 | .no=>rfl
 | .co a d=>by rw [Ob.nd_eq,b8c];simp only [];rw [c39 a,c39 d];rfl
end
end Go.Proofs.YtdldcfllnohkeaaGreatDoor
