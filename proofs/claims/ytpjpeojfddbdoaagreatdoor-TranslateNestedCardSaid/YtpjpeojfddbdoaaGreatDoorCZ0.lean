/- A law of an integer and a bool: from its contract to its row's statement. -/
import Derived.Test.YtpjpeojfddbdoaaGreatDoorRows
import Derived.Test.YtpjpeojfddbdoaaGreatDoorTie
import Derived.Test.YtpjpeojfddbdoaaGreatDoorCards
import Derived.Test.YtpjpeojfddbdoaaGreatDoorCG
import Derived.ProofKit
import Derived.LaidMore
import Derived.OpenShut
import Derived.Stop.Joined
import Derived.SevenTiedAt
namespace Go.Proofs.YtpjpeojfddbdoaaGreatDoor
open Go.Abs Go.ChangeShapes Go.WideShapes Go.ChangeAt Go.WideMaps Go.WideElems Go.RowKit

theorem own : ownKnob Tryz.prog.godebug = none := by kernel_rfl
/-- What is kept: all that stood there. -/
structure Stays (W W' : World) : Prop where
  os : W'.os = W.os
  output : W'.output = W.output
  block : ∀ k, k < W.heap.size → W'.heap[k]? = W.heap[k]?
theorem Stays.keptBut {W W' : World} (h : Stays W W') (may : MemPlace → Prop) : W.keptBut W' may := World.keptBut_mono (fun _ h => h.elim) (World.keptBut_none_iff.2 ⟨h.os, h.output, h.block⟩)
/-- Of a contract for an integer and a bool: what the call does. -/
theorem calls_of {f : FuncId} {n : Int} {b : Bool} (h : CM Tryz.prog GG f [.int .i64 n, .bool b] [] (.ret (.bool true)) []) (W : World) :
    Calls Tryz.prog f #[.int .i64 n, .bool b] W fun e W' => e = .returned (.bool true) ∧ Stays W W' := by
  have hc := h.2 W (fun _ _ => False) noMap [.int .i64 n, .bool b] trivial (fun i b c h => by cases h) (fun b o h => h.elim) ⟨fun id b h => by simp at h, fun id _ => rfl, fun i j x y b k l h => by simp at h⟩
    (.cons _ _ _ _ (.int _ _) (.cons _ _ _ _ (.bool _) .nil))
  refine hc.mono fun e W' ⟨hk, S', _, _, he⟩ => ?_
  obtain ⟨_, v, rfl, hv, _⟩ := he
  cases hv
  exact ⟨rfl, hk.os, hk.output, fun k hlt => hk.block k hlt (fun i c h => by cases h)⟩
/-- What is said behind a call that has made new things alone. -/
theorem post_grown {H : Type} {enc : TypeId × Value → H} {P : Program} {f : Func} {s : ChangeSpec} {apart fresh handsOn again : Bool} {W W' : World} {args : Array Value} {v : Value} {ds gs : List (DataW H)}
    (hW : DataW.Whole enc P f.params.toList s.vars apart W args.toList ds gs [])
    (hres : ∀ (b : Nat) (sp : Nat → Bool) (hd : Bool), DataW.TrodAll enc P W' b sp hd f.resultTypes.toList (v.resultList f.resultTypes.size) (s.fn H (ds ++ gs)).results [])
    (hargs : ∀ sp : Nat → Bool, DataW.TrodAll enc P W' 0 sp true f.params.toList args.toList (s.fn H (ds ++ gs)).args [])
    (hvars : ∀ sp : Nat → Bool, DataW.TrodVars enc P W' sp s.vars (s.fn H (ds ++ gs)).vars [])
    (hk : ∀ may, W.keptBut W' may)
    (hok : ∀ (j : Nat) (t : TypeId) (r : Value), f.resultTypes[j]? = some t → (v.resultList f.resultTypes.size)[j]? = some r → Value.okWide P W' .any 0 t r) :
    s.post enc P f apart fresh handsOn again W args v W' := by
  refine ⟨ds, gs, [], [], [], [], hW, hres _ _ _, hargs _, hvars _, hk _, fun _ => ?_⟩
  refine ⟨hok, _, _, ([] ++ []) ++ [], ⟨[] ++ [], [], trodAll_append (hargs _) (hres _ _ _), hvars _, rfl, ?_, ?_⟩, ?_⟩
  · intro b off hp; simp at hp
  · intro _; simp
  · intro p hp _; simp at hp
abbrev laidS : List (String × DataW Unit) := Rows.translateLimitRow.laid
/-- The door's own heap meets the condition. -/
theorem door_met (os : Os) (args : Array Value) : laidMetH Tryz.prog laidS ((World.doorLaid Tryz.prog 400 os).forCall (fun _ _ => 0) ⟨#[], args, []⟩).memory :=
  laidMetH_of_parts3 (fuel := 8) (laidMet_of_run' 8 (by kernel_rfl) (by kernel_rfl)) (by kernel_rfl) (by kernel_rfl)
end Go.Proofs.YtpjpeojfddbdoaaGreatDoor
