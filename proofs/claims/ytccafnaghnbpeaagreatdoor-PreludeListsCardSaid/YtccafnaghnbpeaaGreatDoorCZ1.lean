/- A law of trees: from what is known of its function to its row's statement. -/
import Derived.Test.YtccafnaghnbpeaaGreatDoorRows
import Derived.Test.YtccafnaghnbpeaaGreatDoorTie
import Derived.Test.YtccafnaghnbpeaaGreatDoorCards
import Derived.Test.YtccafnaghnbpeaaGreatDoorCC
import Derived.Test.YtccafnaghnbpeaaGreatDoorCG
import Derived.ProofKit
import Derived.Lay
import Derived.LaidSub
import Derived.MakeChecks
import Derived.OpenShut
import Derived.Stop.Joined
import Derived.SevenTiedAt
import Derived.Carry
set_option linter.all false
namespace Go.Proofs.YtccafnaghnbpeaaGreatDoor
open Go.Abs Go.ChangeShapes Go.WideShapes Go.ChangeAt Go.WideMaps Go.WideElems Go.RowKit
set_option maxRecDepth 100000

theorem own : ownKnob Tryz.prog.godebug = none := by kernel_rfl
/-- Of what is known of a function: what the call does. -/
theorem calls_know {f : FuncId} {sp : Sp} (hk : Know f sp) (i : sp.ι) (hR : sp.R i = .ret (.c (.b true))) (hB : sp.B i = []) (hB' : sp.B' i = []) {vs : List V} (hv : RVs (sp.A i) vs) {W : World} (hg : GG.pred W) {us : List Value} (hr : Rds (allS W) noMap W us (vs.map toD)) :
  Calls Tryz.prog f us.toArray W fun e W' => e = .returned (.bool true) ∧ Below W.heap.size W W' := by
 obtain ⟨v, bs', h1, h2, h3⟩ := hk i vs [] hv (by rw [hB]; exact .nil)
 rw [hB'] at h3
 cases h3
 have h1 := h1 rfl
 rw [hR] at h2
 have e : resD v = .ret (.bool true) := by
  cases h2 with
  | ret _ v h2 =>
   cases h2 with
   | b => rfl
   | kn => rfl
   | q _ x h => cases h; rfl
 rw [e] at h1
 have hc := h1.2 W (allS W) noMap us hg (fun i b c h => by cases h) (fun b o h => h) ⟨fun id b h => by simp at h, fun id _ => rfl, fun i j x y b k l h => by simp at h⟩ hr
 refine hc.mono fun e W' ⟨hk, S', _, _, he⟩ => ?_
 obtain ⟨_, v, rfl, hv, _⟩ := he
 cases hv
 exact ⟨rfl, hk.os, hk.tape, hk.output, hk.size, fun k hlt => hk.block k hlt (fun i c h => by cases h)⟩
theorem stays_keptBut {W W' : World} (h : Below W.heap.size W W') (may : MemPlace → Prop) : W.keptBut W' may := World.keptBut_mono (fun _ h => h.elim) (World.keptBut_none_iff.2 ⟨h.os, h.output, h.block⟩)
abbrev laidS : List (String × DataW Unit) := Rows.preludeListsRow.laid
/-- The tables lie as their texts lay them. -/
theorem pred_of {W : World} (h : laidMetH Tryz.prog laidS W) : GG.pred W := by
 constructor
 ·have h1 := h.filter (fun x => x.1 == "strings.asciiSpace")
  have e : (laidS.filter fun x => x.1 == "strings.asciiSpace") = [("strings.asciiSpace", Lib.tabData .u8 Lib.asciiSpaceTab)] := by kernel_rfl
  rw [e, Go.MakeChecks.laidMetH_plain _ _ _ (by kernel_rfl)] at h1
  exact Lib.tabIs_of_head (g := 0) (t := 105) (e := 5) (n := 256) asciiG (by kernel_rfl) (by kernel_rfl) (by kernel_rfl) (by kernel_rfl) (by kernel_rfl) h1
 ·have h1 := h.filter (fun x => x.1 == "internal/strconv.uint64pow10")
  have e : (laidS.filter fun x => x.1 == "internal/strconv.uint64pow10") = [("internal/strconv.uint64pow10", Lib.tabData .u64 Lib.pow10Tab)] := by kernel_rfl
  rw [e, Go.MakeChecks.laidMetH_plain _ _ _ (by kernel_rfl)] at h1
  exact Lib.tabIs_of_head (g := 2) (t := 221) (e := 81) (n := 20) powG (by kernel_rfl) (by kernel_rfl) (by kernel_rfl) (by kernel_rfl) (by kernel_rfl) h1
section
variable {H : Type} {enc : TypeId × Value → H} {W : World} {base : Nat} {v : Value} {d : DataW H} {p : List MemPlace}
/-- A tree that is handed over. -/
theorem arg_raw (hv : Value.okWide Tryz.prog W .any base 24 v) (h : DataW.Trod enc Tryz.prog W 0 (fun _ => true) true 24 v d p) (hw : okW 24 d) :
  ∃ r, wide r ∧ RV (.a r.g) (.a (.agg (qc r) 0) 4) ∧ Rd (allS W) noMap W v (toD (.a (.agg (qc r) 0) 4)) := by
 unfold Value.okWide at hv
 rw [Tryz.underlying24] at hv
 obtain ⟨cs, rfl, _⟩ := hv
 obtain ⟨fuel, h⟩ := h
 obtain ⟨r, hr, hd⟩ := raw_of fuel _ _ h hw
 refine ⟨r, hr, .a _ _ _ r.g_len.symm (qc_rg hr).cel, ?_⟩
 simp only [toD]
 rw [dc_eq]
 exact .agg _ _ hd
/-- A list of trees that is handed over. -/
theorem arg_sl (hv : Value.okWide Tryz.prog W .any base 22 v) (h : DataW.Trod enc Tryz.prog W 0 (fun _ => true) true 22 v d p) (hw : okW 22 d) :
  ∃ l : List Raw, RV (.sl 4 (l.map Raw.g)) (.slice (treL (qs l)) 4 0 l.length .no) ∧ Rd (allS W) noMap W v (toD (.slice (treL (qs l)) 4 0 l.length .no)) := by
 unfold Value.okWide Cell.okWide Cell.ok at hv
 rw [Tryz.underlying22] at hv
 have hc : v.cells.toList = [v] := by cases v <;> first | rfl | exact hv.elim
 obtain ⟨fuel, h⟩ := h
 rw [hc] at h
 cases fuel with
 | zero => simp [DataW.trod] at h
 | succ n =>
  obtain ⟨v', l, e, hl, hwl, hr⟩ := sl_of (n := n) (fun cs x h1 h2 => raw_of n cs x h1 h2) h hw
  injection e with e
  subst e
  exact ⟨l, .sl _ _ _ _ _ (by simp) (rws_of hl (qs_rg hwl)), hr⟩
end
theorem below_arg {H : Type} {enc : TypeId × Value → H} {t : TypeId} (hr : Tryz.prog.readableRec t = true) (ht : t < Tryz.prog.types.size) (hl : laidOutB Tryz.prog = true) {W W' : World} {v : Value} {d : DataW H} {ps : List MemPlace}
  (h : DataW.Trod enc Tryz.prog W 0 (fun _ => true) true t v d ps) (hb : Below W.heap.size W W') (hlt : ∀ x ∈ ps, x.block < W.heap.size) : DataW.Trod enc Tryz.prog W' 0 (fun b => decide (b < W.heap.size)) true t v d ps :=
 Below.trod hl hr ht h hb hlt
theorem read_raw : Tryz.prog.readableRec 24 = true := by kernel_rfl
theorem read_sl : Tryz.prog.readableRec 22 = true := by kernel_rfl
theorem size_raw : 24 < Tryz.prog.types.size := of_decide_eq_true (by kernel_rfl)
theorem size_sl : 22 < Tryz.prog.types.size := of_decide_eq_true (by kernel_rfl)
theorem laidOutP : laidOutB Tryz.prog = true := by kernel_rfl
end Go.Proofs.YtccafnaghnbpeaaGreatDoor
