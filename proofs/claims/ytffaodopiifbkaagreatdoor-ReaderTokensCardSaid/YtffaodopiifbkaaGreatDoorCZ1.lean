/- A law of trees: from what is known of its function to its row's statement. -/
import Derived.Test.YtffaodopiifbkaaGreatDoorRows
import Derived.Test.YtffaodopiifbkaaGreatDoorTie
import Derived.Test.YtffaodopiifbkaaGreatDoorCards
import Derived.Test.YtffaodopiifbkaaGreatDoorCC
import Derived.Test.YtffaodopiifbkaaGreatDoorCG
import Derived.ProofKit
import Derived.Lay
import Derived.LaidSub
import Derived.MakeChecks
import Derived.OpenShut
import Derived.Stop.Joined
import Derived.SevenTiedAt
import Derived.Carry
set_option linter.all false
namespace Go.Proofs.YtffaodopiifbkaaGreatDoor
open Go.Abs Go.ChangeShapes Go.WideShapes Go.ChangeAt Go.WideMaps Go.WideElems Go.RowKit
set_option maxRecDepth 100000

theorem own:ownKnob Tryz.prog.godebug=none:=by kernel_rfl
theorem c70 {f:FuncId} {sp:Sp} (hk:l5 f sp) (i:sp.ι) (hR:sp.R i=.ret (.c (.b true))) (hB:sp.B i=[]) (hB':sp.B' i=[]) {vs:List V} (hv:l9 (sp.A i) vs) {W:World} (hg:GG.pred W) {us:List Value} (hr:y7 (b7t W) D4 W us (vs.map toD)) :
  Calls Tryz.prog f us.toArray W fun e W'=>e=.returned (.bool true)∧Below W.heap.size W W':=by
 obtain ⟨v,bs',h1,h2,h3⟩:=hk i vs [] hv (by rw [hB];exact .nil)
 rw [hB'] at h3
 cases h3
 have h1:=h1 rfl
 rw [hR] at h2
 have e:a7k v=.ret (.bool true):=by
  cases h2 with
  | ret _ v h2 =>
   cases h2 with
   | b=>rfl
   | kn=>rfl
   | q _ x h=>cases h;rfl
 rw [e] at h1
 have hc:=h1.2 W (b7t W) D4 us hg (fun i b c h=>by cases h) (fun b o h=>h) ⟨fun id b h=>by simp at h,fun id _=>rfl,fun i j x y b k l h=>by simp at h⟩ hr
 refine hc.mono fun e W' ⟨hk,S',_,_,he⟩=>?_
 obtain ⟨_,v,rfl,hv,_⟩:=he
 cases hv
 exact ⟨rfl,hk.os,hk.tape,hk.output,hk.size,fun k hlt=>hk.block k hlt (fun i c h=>by cases h)⟩
theorem d85 {S:n9} {M:Mp} {w:World} (s:ByteArray):Rd S M w (.string s) (toD (.str s.data.toList.length (n6 s.data.toList))):=by
 simp only [toD,C6]
 exact .str _ _ rfl
theorem b9t {W W':World} (h:Below W.heap.size W W') (may:MemPlace→Prop):W.keptBut W' may:=World.keptBut_mono (fun _ h=>h.elim) (World.keptBut_none_iff.2 ⟨h.os,h.output,h.block⟩)
theorem e0j {L : List (String × DataW Unit)} {W : World} (h : laidMetH Tryz.prog L W) (e : (L.filter fun x => x.1 == "internal/strconv.uint64pow10") = [("internal/strconv.uint64pow10", Lib.tabData .u64 Lib.pow10Tab)]) : GG.pred W := by
 have h1 := h.filter (fun x => x.1 == "internal/strconv.uint64pow10")
 rw [e,Go.MakeChecks.laidMetH_plain _ _ _ (by kernel_rfl)] at h1
 exact Lib.tabIs_of_head (g:=1) (t:=214) (e:=200) (n:=20) d2e (by kernel_rfl) (by kernel_rfl) (by kernel_rfl) (by kernel_rfl) (by kernel_rfl) h1
section
variable {H:Type} {enc:TypeId × Value→H} {W:World} {base:Nat} {v:Value} {d:DataW H} {p:List MemPlace}
theorem f3x (hv:Value.okWide Tryz.prog W .any base 22 v) (h:DataW.Trod enc Tryz.prog W 0 (fun _=>true) true 22 v d p) (hw:okW 22 d) :
  ∃ l:List Int,RV (.sl 1 (l.map a08)) (.slice (b0g l) 1 0 l.length .no)∧Rd (b7t W) D4 W v (toD (.slice (b0g l) 1 0 l.length .no)):=by
 unfold Value.okWide Cell.okWide Cell.ok at hv
 rw [Tryz.underlying22] at hv
 have hc:v.cells.toList=[v]:=by cases v <;> first | rfl | exact hv.elim
 exact d4l (.inr trivial) hc h hw
end
theorem f0g {H:Type} {enc:TypeId × Value→H} {t:TypeId} (hr:Tryz.prog.readableRec t=true) (ht:t < Tryz.prog.types.size) (hl:laidOutB Tryz.prog=true) {W W':World} {v:Value} {d:DataW H} {ps:List MemPlace}
  (h:DataW.Trod enc Tryz.prog W 0 (fun _=>true) true t v d ps) (hb:Below W.heap.size W W') (hlt:∀ x ∈ ps,x.block < W.heap.size):DataW.Trod enc Tryz.prog W' 0 (fun b=>decide (b < W.heap.size)) true t v d ps :=
 Below.trod hl hr ht h hb hlt
theorem f3m:Tryz.prog.readableRec 22=true:=by kernel_rfl
theorem f3u:22 < Tryz.prog.types.size:=of_decide_eq_true (by kernel_rfl)
theorem d24:laidOutB Tryz.prog=true:=by kernel_rfl
end Go.Proofs.YtffaodopiifbkaaGreatDoor
