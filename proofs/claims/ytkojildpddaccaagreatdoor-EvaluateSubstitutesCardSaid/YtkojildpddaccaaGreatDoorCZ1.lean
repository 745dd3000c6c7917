/- A law of trees: from what is known of its function to its row's statement. -/
import Derived.Test.YtkojildpddaccaaGreatDoorRows
import Derived.Test.YtkojildpddaccaaGreatDoorTie
import Derived.Test.YtkojildpddaccaaGreatDoorCards
import Derived.Test.YtkojildpddaccaaGreatDoorCJ2
import Derived.ProofKit
import Derived.Lay
import Derived.LaidSub
import Derived.MakeChecks
import Derived.OpenShut
import Derived.Stop.Joined
import Derived.SevenTiedAt
import Derived.Handed
import Derived.Shelf.Vars
set_option linter.all false
namespace Go.Proofs.YtkojildpddaccaaGreatDoor
open Go.Abs Go.ChangeShapes Go.WideShapes Go.ChangeAt Go.WideMaps Go.WideElems Go.RowKit
set_option maxRecDepth 100000

theorem own:ownKnob Tryz.prog.godebug=none:=kR
theorem d20 {f:FuncId} {sp:Sp} (hk:v8 f sp) (i:sp.ι) (hR:sp.R i=.ret (.c (.b true))) (hB:sp.B i=[]) (hB':sp.B' i=[]) {vs:List V} (hv:z7 (sp.A i) vs) {W:World} (hg:GG.pred W) {us:List Value} (hr:C4 (a8g W) H4 W us (vs.map toD)) :
  Calls Tryz.prog f us.toArray W fun e W'=>e=.returned (.bool true)∧Below W.heap.size W W':=by
 obtain ⟨v,bs',h1,h2,h3⟩:=hk i vs [] hv (by rw [hB];exact .nil);rw [hB'] at h3;cases h3;have h1:=h1 rfl;rw [hR] at h2;have e:b3h v=.ret (.bool true):=by
  cases h2 with
  | ret _ v h2 =>
   cases h2 with
   | b=>rfl
   | kn=>rfl
   | q _ x h=>cases h;rfl
 rw [e] at h1;have hc:=h1.2 W (a8g W) H4 us hg (fun i b c h=>by cases h) (fun b o h=>h) ⟨fun id b h=>by simp at h,fun id _=>rfl,fun i j x y b k l h=>by simp at h⟩ hr;refine hc.mono fun e W' ⟨hk,S',_,_,he⟩=>?_;obtain ⟨_,v,rfl,hv,_⟩:=he;cases hv;exact ⟨rfl,hk.os,hk.tape,hk.output,hk.size,fun k hlt=>hk.block k hlt (fun i c h=>by cases h)⟩
theorem h1m {S:B6} {M:Mp} {w:World} (s:ByteArray):Rd S M w (.string s) (toD (.str s.data.toList.length (D0 s.data.toList))):=by
 simp only [toD,E6];exact .str _ _ rfl
theorem c35 {W W':World} (h:Below W.heap.size W W') (may:MemPlace→Prop):W.keptBut W' may:=World.keptBut_mono (fun _ h=>h.elim) (World.keptBut_none_iff.2 ⟨h.os,h.output,h.block⟩)
theorem e8n {L : List (String × DataW Unit)} {W : World} (hsh : W.ShapedOpen Tryz.prog) (h : laidMetH Tryz.prog L W) (e : (L.filter fun x => x.1 == "internal/strconv.uint64pow10") = [("internal/strconv.uint64pow10", Lib.tabData .u64 Lib.pow10Tab)]) : GG.pred W := by
 have h1 := h.filter (fun x => x.1 == "internal/strconv.uint64pow10");rw [e,Go.MakeChecks.laidMetH_plain _ _ _ kR] at h1;refine ⟨?_,trivial⟩;exact Lib.tabIs_of_head (g:=0) (t:=271) (e:=79) (n:=20) e26 kR kR kR kR kR h1
theorem c3y {H:Type} {enc:TypeId × Value→H} {a:Assume} {C:Checked} {os:Os} {f:FuncId} {fn:Func} {s:ChangeSpec} {conds:List PathCond} {apart Y1 handsOn again:Bool} {X:World→Array Value→Prop}
  (hX:∀ (w w':World) (args:Array Value),w.heap=w'.heap→X w args→X w' args)
  (own:ownKnob C.prog.godebug=none) (started:os.Started) (noInit:C.prog.inits.idxOf? f=none) (hfn:C.prog.funcs[f]?=some fn)
  (witness:∃ (w:World) (tape:Tape) (i:Input),w.os=os∧(w.forCall tape i).Shaped C.prog∧i.vars=[]∧Input.okWide C.prog (w.forCall tape i) .any w.heap.size f i ∧
   ((s.pre enc C.prog fn conds apart (w.forCall tape i).memory i.args∧X (w.forCall tape i).memory i.args)∧sizedMet enc C.prog fn (OpenSpec.ofChange s) apart (w.forCall tape i).memory i.args)∧a.holds C.prog (lone (Frame.enter C.prog f i.args .normal) [] (w.forCall tape i)))
  (a3c:∀ (W:World) (base:Nat) (args:Array Value) (ds gs:List (DataW H)) (before:List MemPlace),
   (∀ (j:Nat) t v,fn.params[j]?=some t→args[j]?=some v→Value.okWide C.prog W .any base t v) →
   DataW.Whole enc C.prog fn.params.toList s.vars apart W args.toList ds gs before →
   (DataW.weightsEach C.prog (fn.params.toList ++ s.plain.varTypes C.prog) (ds ++ gs)).all (·≤reachBytes)=true→X W args→W.ShapedOpen C.prog →
   Calls C.prog f args W fun e W'=>∃ v,e=.returned v∧s.post enc C.prog fn apart Y1 handsOn again W args v W') :
  ReturnsInHanded a C os f .any (fun w args=>(s.pre enc C.prog fn conds apart w args∧X w args)∧sizedMet enc C.prog fn (OpenSpec.ofChange s) apart w args) (s.post enc C.prog fn apart Y1 handsOn again):=by
 refine returnsInHanded_of_calls own started noInit witness ?_;intro w tape i _ hsh _ hok hpre _;obtain ⟨_,_,_,fn',hfn',_,_,_,_,hval⟩:=hok;have e:fn'=fn:=Option.some.inj (hfn'.symm.trans hfn);subst e;obtain ⟨⟨⟨ds,gs,before,hw,_⟩,hx⟩,hz⟩:=hpre;have hw':=DataW.Whole.of_heap (w':=w.forCall tape i) (by rfl) hw;refine (a3c (w.forCall tape i) w.heap.size i.args ds gs before hval hw' (hz.weights hw) (hX _ _ _ (by rfl) hx) hsh).mono fun e W' ⟨v,he,hp⟩=>?_;subst he;exact ChangeSpec.post_blind hp
section
variable {H:Type} {enc:TypeId × Value→H} {W:World} {base:Nat} {v:Value} {d:DataW H} {p:List MemPlace}
theorem e6v (hv:Value.okWide Tryz.prog W .any base 24 v) (h:DataW.Trod enc Tryz.prog W 0 (fun _=>true) true 24 v d p) (hw:okW 24 d) :
  ∃ r,b34 r∧RV (.a r.g) (.a (.agg (qc r) 0) 4)∧Rd (a8g W) H4 W v (toD (.a (.agg (qc r) 0) 4)):=by
 unfold Value.okWide at hv;rw [Tryz.underlying24] at hv;obtain ⟨cs,rfl,_⟩:=hv;obtain ⟨fuel,h⟩:=h;obtain ⟨r,hr,hd⟩:=d8q fuel _ _ h hw;refine ⟨r,hr,.a _ _ _ r.g_len.symm (e5y hr).cel,?_⟩;simp only [toD];rw [e45];exact .agg _ _ hd
theorem d5f (hv:Value.okWide Tryz.prog W .any base 22 v) (h:DataW.Trod enc Tryz.prog W 0 (fun _=>true) true 22 v d p) (hw:okW 22 d) :
  ∃ l:List Raw,RV (.sl 4 (l.map Raw.g)) (.slice (a69 (qs l)) 4 0 l.length .no)∧Rd (a8g W) H4 W v (toD (.slice (a69 (qs l)) 4 0 l.length .no)):=by
 unfold Value.okWide Cell.okWide Cell.ok at hv;rw [Tryz.underlying22] at hv;have hc:v.cells.toList=[v]:=by cases v <;> first | rfl | exact hv.elim
 obtain ⟨fuel,h⟩:=h;rw [hc] at h;cases fuel with
 | zero=>simp [DataW.trod] at h
 | succ n =>
  obtain ⟨v',l,e,hl,hwl,hr⟩:=e57 (n:=n) (fun cs x h1 h2=>d8q n cs x h1 h2) h hw;injection e with e;subst e;exact ⟨l,.sl _ _ _ _ _ (by simp) (d8x hl (d4r hwl)),hr⟩
end
theorem b2i {H:Type} {enc:TypeId × Value→H} {t:TypeId} (hr:Tryz.prog.readableRec t=true) (ht:t < Tryz.prog.types.size) (hl:laidOutB Tryz.prog=true) {W W':World} {v:Value} {d:DataW H} {ps:List MemPlace}
  (h:DataW.Trod enc Tryz.prog W 0 (fun _=>true) true t v d ps) (hb:Below W.heap.size W W') (hlt:∀ x ∈ ps,x.block < W.heap.size):DataW.Trod enc Tryz.prog W' 0 (fun b=>decide (b < W.heap.size)) true t v d ps :=
 Below.trod hl hr ht h hb hlt
theorem e3s:Tryz.prog.readableRec 24=true:=kR
theorem d16:Tryz.prog.readableRec 22=true:=kR
theorem e34:24 < Tryz.prog.types.size:=of_decide_eq_true kR
theorem d2h:22 < Tryz.prog.types.size:=of_decide_eq_true kR
theorem b0y:laidOutB Tryz.prog=true:=kR
end Go.Proofs.YtkojildpddaccaaGreatDoor
