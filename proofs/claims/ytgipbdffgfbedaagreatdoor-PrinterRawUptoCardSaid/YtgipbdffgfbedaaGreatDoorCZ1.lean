/- A law of trees: from what is known of its function to its row's statement. -/
import Derived.Test.YtgipbdffgfbedaaGreatDoorTie
import Derived.Test.YtgipbdffgfbedaaGreatDoorCards
import Derived.Test.YtgipbdffgfbedaaGreatDoorCJ5
import Derived.ProofKit
import Derived.Lay
import Derived.LaidSub
import Derived.MakeChecks
import Derived.OpenShut
import Derived.Stop.Joined
import Derived.SevenTiedAt
import Derived.Handed
import Derived.JoinedCond
import Derived.Deep.DeepHandedRow
import Derived.Shelf.Vars
set_option linter.all false
namespace Go.Proofs.YtgipbdffgfbedaaGreatDoor
open Go.Abs Go.ChangeShapes Go.WideShapes Go.ChangeAt Go.WideMaps Go.WideElems Go.RowKit
set_option maxRecDepth 100000

theorem own:ownKnob Tryz.prog.godebug=none:=kR
theorem c7r {f:FuncId} {sp:Sp} (hk:j4 f sp) (i:sp.ι) (hR:sp.R i=.ret (.c (.b true))) (hB:sp.B i=[]) (hB':sp.B' i=[]) {vs:List V} (hv:j6 (sp.A i) vs) {W:World} (hg:GG.pred W) {us:List Value} (hr:p9 (a7t W) s9 W us (vs.map toD)) :
  Calls Tryz.prog f us.toArray W fun e W'=>e=.returned (.bool true)∧Below W.heap.size W W':=by
 obtain ⟨v,bs',h1,h2,h3⟩:=hk i vs [] hv (by rw [hB];exact .nil)
 rw [hB'] at h3
 cases h3
 have h1:=h1 rfl
 rw [hR] at h2
 have e:b0h v=.ret (.bool true):=by
  cases h2 with
  | ret _ v h2 =>
   cases h2 with
   | b=>rfl
   | kn=>rfl
   | q _ x h=>cases h;rfl
 rw [e] at h1
 have hc:=h1.2 W (a7t W) s9 us hg (fun i b c h=>by cases h) (fun b o h=>h) ⟨fun id b h=>by simp at h,fun id _=>rfl,fun i j x y b k l h=>by simp at h⟩ hr
 refine hc.mono fun e W' ⟨hk,S',_,_,he⟩=>?_
 obtain ⟨_,v,rfl,hv,_⟩:=he
 cases hv
 exact ⟨rfl,hk.os,hk.tape,hk.output,hk.size,fun k hlt=>hk.block k hlt (fun i c h=>by cases h)⟩
theorem f42 {S:k8} {M:Mp} {w:World} (s:ByteArray):Rd S M w (.string s) (toD (.str s.data.toList.length (j9 s.data.toList))):=by
 simp only [toD,z7]
 exact .str _ _ rfl
theorem b9q {W W':World} (h:Below W.heap.size W W') (may:MemPlace→Prop):W.keptBut W' may:=World.keptBut_mono (fun _ h=>h.elim) (World.keptBut_none_iff.2 ⟨h.os,h.output,h.block⟩)
theorem d9z {L : List (String × DataW Unit)} {W : World} (hsh : W.ShapedOpen Tryz.prog) (h : laidMetH Tryz.prog L W) (e : (L.filter fun x => x.1 == "internal/strconv.uint64pow10") = [("internal/strconv.uint64pow10", Lib.tabData .u64 Lib.pow10Tab)]) : GG.pred W := by
 have h1 := h.filter (fun x => x.1 == "internal/strconv.uint64pow10")
 rw [e,Go.MakeChecks.laidMetH_plain _ _ _ kR] at h1
 refine ⟨?_,cell_of_shapedOpen_int (t:=3) (zero:=#[.int .i64 0]) hsh (of_decide_eq_true kR) kR rfl kR kR Tryz.underlying3⟩
 exact Lib.tabIs_of_head (g:=5) (t:=183) (e:=143) (n:=20) d5i kR kR kR kR kR h1
section
variable {H:Type} {enc:TypeId × Value→H} {W:World} {base:Nat} {v:Value} {d:DataW H} {p:List MemPlace}
theorem e1w (hv:Value.okWide Tryz.prog W .any base 26 v) (h:DataW.Trod enc Tryz.prog W 0 (fun _=>true) true 26 v d p) (hw:okW 26 d) (hu:Rows.uptoBulk d≤1048576) :
  ∃ o:Ob,o.sm∧RV (.a o.g) (.a (.agg o.qc 0) 7)∧Rd (a7t W) s9 W v (toD (.a (.agg o.qc 0) 7)):=by
 unfold Value.okWide at hv
 rw [Tryz.underlying26] at hv
 obtain ⟨cs,rfl,_⟩:=hv
 obtain ⟨fuel,h⟩:=h
 obtain ⟨o,ho,hd⟩:=e8y fuel _ _ h hw hu
 refine ⟨o,ho.2,.a _ _ _ o.g_len.symm (Ob.rg ho.1).cel,?_⟩
 simp only [toD]
 rw [Ob.dc_eq]
 exact .agg _ _ hd
end
theorem c93 {H:Type} {enc:TypeId × Value→H} {t:TypeId} (hr:Tryz.prog.readableRec t=true) (ht:t < Tryz.prog.types.size) (hl:laidOutB Tryz.prog=true) {W W':World} {v:Value} {d:DataW H} {ps:List MemPlace}
  (h:DataW.Trod enc Tryz.prog W 0 (fun _=>true) true t v d ps) (hb:Below W.heap.size W W') (hlt:∀ x ∈ ps,x.block < W.heap.size):DataW.Trod enc Tryz.prog W' 0 (fun b=>decide (b < W.heap.size)) true t v d ps :=
 Below.trod hl hr ht h hb hlt
theorem e0s:Tryz.prog.readableRec 26=true:=kR
theorem e06:26 < Tryz.prog.types.size:=of_decide_eq_true kR
theorem c14:laidOutB Tryz.prog=true:=kR
end Go.Proofs.YtgipbdffgfbedaaGreatDoor
