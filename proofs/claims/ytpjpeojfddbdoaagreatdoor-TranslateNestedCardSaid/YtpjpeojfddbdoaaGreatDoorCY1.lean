/- The functions of this seat, run. -/
import Derived.Test.YtpjpeojfddbdoaaGreatDoorCLT
namespace Go.Proofs.YtpjpeojfddbdoaaGreatDoor
open Go.Abs
/-- What a function gives, run. -/
noncomputable def RL (g : FuncId) : FunT := appW (runW ftL 300 g)
theorem RL_ok (g : FuncId) : FnOk X0 g (RL g) := runW_ok ftL_ok 300 g
/-- One result, known. -/
def litF (r : R) : FunT := fun vs bs => match vs with
  | [] => match bs with
    | [] => some r
    | _ => none
  | _ => none
theorem litF_ok {g : FuncId} {F : FunT} (hF : FnOk X0 g F) {r : R} (h : F [] [] = some r) : FnOk X0 g (litF r) := fun vs bs x bs' e hok => by
  unfold litF at e
  split at e
  · split at e
    · injection e with e
      exact hF [] [] x bs' (h.trans (congrArg some e)) hok
    · cases e
  · cases e
/-- A table with a result that is known. -/
theorem litF_tab {T : FTab} (hT : ∀ g F, (g, F) ∈ T → ∀ fn, (∀ g, FnOk X0 g (fn g)) → FnOk X0 g (F fn)) {g0 : FuncId} {F0 : FunT} (hF : FnOk X0 g0 F0) {r : R} (h : F0 [] [] = some r) :
    ∀ g F, (g, F) ∈ ((g0, fun _ => litF r) :: T : FTab) → ∀ fn, (∀ g, FnOk X0 g (fn g)) → FnOk X0 g (F fn) := fun g F hm => by
  rcases List.mem_cons.1 hm with e | hm
  · injection e with e1 e2; subst e1 e2; exact fun _ _ => litF_ok hF h
  · exact hT g F hm
end Go.Proofs.YtpjpeojfddbdoaaGreatDoor
