/- The program's parser: lists. -/
import Derived.Test.YtffaodopiifbkaaGreatDoorKEI
set_option linter.all false
namespace Go.Proofs.YtffaodopiifbkaaGreatDoor
open Go.Abs LQ
set_option maxRecDepth 100000
set_option maxHeartbeats 16000000
noncomputable section
theorem j5.via {g:FuncId} {sp sp':Sp} (h:j5 g sp) (f:sp'.ι→sp.ι) (e:∀ i,sp'.A i=sp.A (f i)∧sp'.B i=sp.B (f i)∧sp'.R i=sp.R (f i)∧sp'.B' i=sp.B' (f i)):j5 g sp':=fun i vs bs hv hb=>by
 obtain ⟨e1,e2,e3,e4⟩:=e i
 rw [e1] at hv
 rw [e2] at hb
 rw [e3,e4]
 exact h (f i) vs bs hv hb
def O5:O→Ob
 | .num n d=>⟨1,f8 n,f7 d,([],[]),[],.nil⟩
 | .sy s=>⟨2,[],[],s,[],.nil⟩
 | .tx t=>⟨3,[],[],([],[]),t,.nil⟩
 | .co a d=>⟨4,[],[],([],[]),[],.node (O5 a).k (O5 a).nu (O5 a).de (O5 a).s (O5 a).t (O5 a).ps (.node (O5 d).k (O5 d).nu (O5 d).de (O5 d).s (O5 d).t (O5 d).ps .nil)⟩
 | .no=>⟨0,[],[],([],[]),[],.nil⟩
theorem b76 (a d:O):(O5 (.co a d)).ps.obs=[O5 a,O5 d]:=rfl
theorem c80:∀ o:O,(O5 o).g=o.g
 | .num _ _=>rfl
 | .sy _=>rfl
 | .tx _=>rfl
 | .no=>rfl
 | .co a d=>by
  rw [Ob.g_eq,b76,List.map_cons,List.map_cons,c80 a,c80 d];rfl
theorem c4i:∀ o:O,(O5 o).nd=o.size
 | .num _ _=>rfl
 | .sy _=>rfl
 | .tx _=>rfl
 | .no=>rfl
 | .co a d=>by rw [Ob.nd_eq,b76];simp only [];rw [c4i a,c4i d];rfl
end
end Go.Proofs.YtffaodopiifbkaaGreatDoor
