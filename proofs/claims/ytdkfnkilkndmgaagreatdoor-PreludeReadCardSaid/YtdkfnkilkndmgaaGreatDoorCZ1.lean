/- A law of an integer: from its contract to its row's statement. -/
import Derived.Test.YtdkfnkilkndmgaaGreatDoorRows
import Derived.Test.YtdkfnkilkndmgaaGreatDoorTie
import Derived.Test.YtdkfnkilkndmgaaGreatDoorCards
import Derived.Test.YtdkfnkilkndmgaaGreatDoorCG
import Derived.ProofKit
import Derived.Lay
import Derived.LaidSub
import Derived.MakeChecks
import Derived.OpenShut
import Derived.Stop.Joined
import Derived.SevenTiedAt
namespace Go.Proofs.YtdkfnkilkndmgaaGreatDoor
open Go.Abs Go.ChangeShapes Go.WideShapes Go.ChangeAt Go.WideMaps Go.WideElems Go.RowKit

theorem own : ownKnob Tryz.prog.godebug = none := by kernel_rfl
/-- What is kept: all that stood there. -/
structure Stays (W W' : World) : Prop where
  os : W'.os = W.os
  output : W'.output = W.output
  block : ∀ k, k < W.heap.size → W'.heap[k]? = W.heap[k]?
theorem Stays.keptBut {W W' : World} (h : Stays W W') (may : MemPlace → Prop) : W.keptBut W' may := World.keptBut_mono (fun _ h => h.elim) (World.keptBut_none_iff.2 ⟨h.os, h.output, h.block⟩)
/-- Of a contract for an integer: what the call does. -/
theorem calls_of {f : FuncId} {n : Int} (h : CM Tryz.prog GG f [.int .i64 n] [] (.ret (.bool true)) []) (W : World) (hg : GG.pred W) :
    Calls Tryz.prog f #[.int .i64 n] W fun e W' => e = .returned (.bool true) ∧ Stays W W' := by
  have hc := h.2 W (fun _ _ => False) noMap [.int .i64 n] hg (fun i b c h => by cases h) (fun b o h => h.elim) ⟨fun id b h => by simp at h, fun id _ => rfl, fun i j x y b k l h => by simp at h⟩
    (.cons _ _ _ _ (.int _ _) .nil)
  refine hc.mono fun e W' ⟨hk, S', _, _, he⟩ => ?_
  obtain ⟨_, v, rfl, hv, _⟩ := he
  cases hv
  exact ⟨rfl, hk.os, hk.output, fun k hlt => hk.block k hlt (fun i c h => by cases h)⟩
/-- What is said behind a call that has made new things alone. -/
theorem post_grown {H : Type} {enc : TypeId × Value → H} {P : Program} {f : Func} {s : ChangeSpec} {apart fresh handsOn again : Bool} {W W' : World} {args : Array Value} {v : Value} {ds gs : List (DataW H)}
    (hW : DataW.Whole enc P f.params.toList s.vars apart W args.toList ds gs [])
    (hres : ∀ (b : Nat) (sp : Nat → Bool) (hd : Bool), DataW.TrodAll enc P W' b sp hd f.resultTypes.toList (v.resultList f.resultTypes.size) (s.fn H (ds ++ gs)).results [])
    (hargs : ∀ sp : Nat → Bool, DataW.TrodAll enc P W' 0 sp true f.params.toList args.toList (s.fn H (ds ++ gs)).args [])
    (hvars : ∀ sp : Nat → Bool, DataW.TrodVars enc P W' sp s.vars (s.fn H (ds ++ gs)).vars [])
    (hk : ∀ may, W.keptBut W' may)
    (hok : ∀ (j : Nat) (t : TypeId) (r : Value), f.resultTypes[j]? = some t → (v.resultList f.resultTypes.size)[j]? = some r → Value.okWide P W' .any 0 t r) :
    s.post enc P f apart fresh handsOn again W args v W' := by
  refine ⟨ds, gs, [], [], [], [], hW, hres _ _ _, hargs _, hvars _, hk _, fun _ => ?_⟩
  refine ⟨hok, _, _, ([] ++ []) ++ [], ⟨[] ++ [], [], trodAll_append (hargs _) (hres _ _ _), hvars _, rfl, ?_, ?_⟩, ?_⟩
  · intro b off hp; simp at hp
  · intro _; simp
  · intro p hp _; simp at hp
abbrev laidS : List (String × DataW Unit) := Rows.preludeTextRow.laid
/-- The table of blanks lies as its text lays it. -/
theorem pred_of {W : World} (h : laidMetH Tryz.prog laidS W) : GG.pred W := by
  have h1 := h.filter (fun x => x.1 == "strings.asciiSpace")
  have e : (laidS.filter fun x => x.1 == "strings.asciiSpace") = [("strings.asciiSpace", Lib.tabData .u8 Lib.asciiSpaceTab)] := by kernel_rfl
  rw [e, Go.MakeChecks.laidMetH_plain _ _ _ (by kernel_rfl)] at h1
  exact Lib.tabIs_of_head (g := 0) (t := 103) (e := 5) (n := 256) asciiG (by kernel_rfl) (by kernel_rfl) (by kernel_rfl) (by kernel_rfl) (by kernel_rfl) h1
end Go.Proofs.YtdkfnkilkndmgaaGreatDoor
