/- A law of trees: from what is known of its function to its row's statement. -/
import Derived.Test.YtdldcfllnohkeaaGreatDoorRows
import Derived.Test.YtdldcfllnohkeaaGreatDoorTie
import Derived.Test.YtdldcfllnohkeaaGreatDoorCards
import Derived.Test.YtdldcfllnohkeaaGreatDoorCC
import Derived.ProofKit
import Derived.Lay
import Derived.LaidSub
import Derived.MakeChecks
import Derived.OpenShut
import Derived.Stop.Joined
import Derived.SevenTiedAt
import Derived.Handed
import Derived.Shelf.Vars
set_option linter.all false
namespace Go.Proofs.YtdldcfllnohkeaaGreatDoor
open Go.Abs Go.ChangeShapes Go.WideShapes Go.ChangeAt Go.WideMaps Go.WideElems Go.RowKit
set_option maxRecDepth 100000

theorem own:ownKnob Tryz.prog.godebug=none:=kR
theorem d27 {f:FuncId} {sp:Sp} (hk:k9 f sp) (i:sp.ι) (hR:sp.R i=.ret (.c (.b true))) (hB:sp.B i=[]) (hB':sp.B' i=[]) {vs:List V} (hv:l7 (sp.A i) vs) {W:World} (hg:GG.pred W) {us:List Value} (hr:u3 (a1w W) o8 W us (vs.map toD)) :
  Calls Tryz.prog f us.toArray W fun e W'=>e=.returned (.bool true)∧Below W.heap.size W W':=by
 obtain ⟨v,bs',h1,h2,h3⟩:=hk i vs [] hv (by rw [hB];exact .nil)
 rw [hB'] at h3
 cases h3
 have h1:=h1 rfl
 rw [hR] at h2
 have e:a9d v=.ret (.bool true):=by
  cases h2 with
  | ret _ v h2 =>
   cases h2 with
   | b=>rfl
   | kn=>rfl
   | q _ x h=>cases h;rfl
 rw [e] at h1
 have hc:=h1.2 W (a1w W) o8 us hg (fun i b c h=>by cases h) (fun b o h=>h) ⟨fun id b h=>by simp at h,fun id _=>rfl,fun i j x y b k l h=>by simp at h⟩ hr
 refine hc.mono fun e W' ⟨hk,S',_,_,he⟩=>?_
 obtain ⟨_,v,rfl,hv,_⟩:=he
 cases hv
 exact ⟨rfl,hk.os,hk.tape,hk.output,hk.size,fun k hlt=>hk.block k hlt (fun i c h=>by cases h)⟩
theorem d2e {S:l9} {M:Mp} {w:World} (s:ByteArray):Rd S M w (.string s) (toD (.str s.data.toList.length (n7 s.data.toList))):=by
 simp only [toD,C2]
 exact .str _ _ rfl
theorem c35 {W W':World} (h:Below W.heap.size W W') (may:MemPlace→Prop):W.keptBut W' may:=World.keptBut_mono (fun _ h=>h.elim) (World.keptBut_none_iff.2 ⟨h.os,h.output,h.block⟩)
theorem e7m {L : List (String × DataW Unit)} {W : World} (hsh : W.ShapedOpen Tryz.prog) (h : laidMetH Tryz.prog L W) (e : (L.filter fun x => x.1 == "internal/strconv.uint64pow10") = [("internal/strconv.uint64pow10", Lib.tabData .u64 Lib.pow10Tab)]) : GG.pred W := by
 have h1 := h.filter (fun x => x.1 == "internal/strconv.uint64pow10")
 rw [e,Go.MakeChecks.laidMetH_plain _ _ _ kR] at h1
 refine ⟨?_,cell_of_shapedOpen_int (t:=3) (zero:=#[.int .i64 0]) hsh (of_decide_eq_true kR) kR rfl kR kR Tryz.underlying3⟩
 exact Lib.tabIs_of_head (g:=1) (t:=175) (e:=161) (n:=20) e1d kR kR kR kR kR h1
theorem c3u {H:Type} {enc:TypeId × Value→H} {a:Assume} {C:Checked} {os:Os} {f:FuncId} {fn:Func} {s:ChangeSpec} {conds:List PathCond} {apart a0h handsOn again:Bool} {X:World→Array Value→Prop}
  (hX:∀ (w w':World) (args:Array Value),w.heap=w'.heap→X w args→X w' args)
  (own:ownKnob C.prog.godebug=none) (started:os.Started) (noInit:C.prog.inits.idxOf? f=none) (hfn:C.prog.funcs[f]?=some fn)
  (witness:∃ (w:World) (tape:Tape) (i:Input),w.os=os∧(w.forCall tape i).Shaped C.prog∧i.vars=[]∧Input.okWide C.prog (w.forCall tape i) .any w.heap.size f i ∧
   ((s.pre enc C.prog fn conds apart (w.forCall tape i).memory i.args∧X (w.forCall tape i).memory i.args)∧sizedMet enc C.prog fn (OpenSpec.ofChange s) apart (w.forCall tape i).memory i.args)∧a.holds C.prog (lone (Frame.enter C.prog f i.args .normal) [] (w.forCall tape i)))
  (a1x:∀ (W:World) (base:Nat) (args:Array Value) (ds gs:List (DataW H)) (before:List MemPlace),
   (∀ (j:Nat) t v,fn.params[j]?=some t→args[j]?=some v→Value.okWide C.prog W .any base t v) →
   DataW.Whole enc C.prog fn.params.toList s.vars apart W args.toList ds gs before →
   (DataW.weightsEach C.prog (fn.params.toList ++ s.plain.varTypes C.prog) (ds ++ gs)).all (·≤reachBytes)=true→X W args→W.ShapedOpen C.prog →
   Calls C.prog f args W fun e W'=>∃ v,e=.returned v∧s.post enc C.prog fn apart a0h handsOn again W args v W') :
  ReturnsInHanded a C os f .any (fun w args=>(s.pre enc C.prog fn conds apart w args∧X w args)∧sizedMet enc C.prog fn (OpenSpec.ofChange s) apart w args) (s.post enc C.prog fn apart a0h handsOn again):=by
 refine returnsInHanded_of_calls own started noInit witness ?_
 intro w tape i _ hsh _ hok hpre _
 obtain ⟨_,_,_,fn',hfn',_,_,_,_,hval⟩:=hok
 have e:fn'=fn:=Option.some.inj (hfn'.symm.trans hfn)
 subst e
 obtain ⟨⟨⟨ds,gs,before,hw,_⟩,hx⟩,hz⟩:=hpre
 have hw':=DataW.Whole.of_heap (w':=w.forCall tape i) (by rfl) hw
 refine (a1x (w.forCall tape i) w.heap.size i.args ds gs before hval hw' (hz.weights hw) (hX _ _ _ (by rfl) hx) hsh).mono fun e W' ⟨v,he,hp⟩=>?_
 subst he
 exact ChangeSpec.post_blind hp
section
variable {H:Type} {enc:TypeId × Value→H} {W:World} {base:Nat} {v:Value} {d:DataW H} {p:List MemPlace}
theorem e5x (hv:Value.okWide Tryz.prog W .any base 37 v) (h:DataW.Trod enc Tryz.prog W 0 (fun _=>true) true 37 v d p) (hw:okW 37 d) :
  ∃ r,b3t r∧RV (.a r.g) (.a (.agg (qc r) 0) 4)∧Rd (a1w W) o8 W v (toD (.a (.agg (qc r) 0) 4)):=by
 unfold Value.okWide at hv
 rw [Tryz.underlying37] at hv
 obtain ⟨cs,rfl,_⟩:=hv
 obtain ⟨fuel,h⟩:=h
 obtain ⟨r,hr,hd⟩:=d72 fuel _ _ h hw
 refine ⟨r,hr,.a _ _ _ r.g_len.symm (e4u hr).cel,?_⟩
 simp only [toD]
 rw [e4f]
 exact .agg _ _ hd
theorem g3b (hv:Value.okWide Tryz.prog W .any base 35 v) (h:DataW.Trod enc Tryz.prog W 0 (fun _=>true) true 35 v d p) (hw:okW 35 d) :
  ∃ l:List Raw,RV (.sl 4 (l.map Raw.g)) (.slice (a7x (qs l)) 4 0 l.length .no)∧Rd (a1w W) o8 W v (toD (.slice (a7x (qs l)) 4 0 l.length .no)):=by
 unfold Value.okWide Cell.okWide Cell.ok at hv
 rw [Tryz.underlying35] at hv
 have hc:v.cells.toList=[v]:=by cases v <;> first | rfl | exact hv.elim
 obtain ⟨fuel,h⟩:=h
 rw [hc] at h
 cases fuel with
 | zero=>simp [DataW.trod] at h
 | succ n =>
  obtain ⟨v',l,e,hl,hwl,hr⟩:=e5h (n:=n) (fun cs x h1 h2=>d72 n cs x h1 h2) h hw
  injection e with e
  subst e
  exact ⟨l,.sl _ _ _ _ _ (by simp) (d78 hl (d4t hwl)),hr⟩
theorem g3a (hv:Value.okWide Tryz.prog W .any base 79 v) (h:DataW.Trod enc Tryz.prog W 0 (fun _=>true) true 79 v d p) (hw:okW 79 d) :
  ∃ l:List Int,RV (.sl 1 (l.map b37)) (.slice (b3q l) 1 0 l.length .no)∧Rd (a1w W) o8 W v (toD (.slice (b3q l) 1 0 l.length .no)):=by
 unfold Value.okWide Cell.okWide Cell.ok at hv
 rw [Tryz.underlying79] at hv
 have hc:v.cells.toList=[v]:=by cases v <;> first | rfl | exact hv.elim
 exact d9m (.inr trivial) hc h hw
end
theorem d5r {H:Type} {enc:TypeId × Value→H} {t:TypeId} (hr:Tryz.prog.readableRec t=true) (ht:t < Tryz.prog.types.size) (hl:laidOutB Tryz.prog=true) {W W':World} {v:Value} {d:DataW H} {ps:List MemPlace}
  (h:DataW.Trod enc Tryz.prog W 0 (fun _=>true) true t v d ps) (hb:Below W.heap.size W W') (hlt:∀ x ∈ ps,x.block < W.heap.size):DataW.Trod enc Tryz.prog W' 0 (fun b=>decide (b < W.heap.size)) true t v d ps :=
 Below.trod hl hr ht h hb hlt
theorem d9s:Tryz.prog.cellsOf 23=2:=kR
theorem g2i {H:Type} {enc:TypeId × Value→H} {W:World} {base:Nat} {v:Value} {d:DataW H} {p:List MemPlace} (hv:Value.okWide Tryz.prog W .any base 23 v) (h:DataW.Trod enc Tryz.prog W 0 (fun _=>true) true 23 v d p) :
  ∃ s:Sy,RV (.a (sg s)) (.agg [.str s.1.length (n7 s.1),.str s.2.length (n7 s.2)])∧Rd (a1w W) o8 W v (toD (.agg [.str s.1.length (n7 s.1),.str s.2.length (n7 s.2)])):=by
 unfold Value.okWide at hv
 rw [Tryz.underlying23] at hv
 obtain ⟨cs,rfl,_⟩:=hv
 obtain ⟨fuel,h⟩:=h
 obtain ⟨cs⟩:=cs
 obtain ⟨xs,m,rfl,hx,hlen,hxl,hf⟩:=DataW.trod_struct Tryz.underlying23 h
 rw [d9s] at hlen
 change cs.length=2 at hlen
 obtain ⟨c0,c1,rfl⟩:∃ c0 c1,cs=[c0,c1]:=by
  match cs,hlen with
  | [c0,c1],_=>exact ⟨c0,c1,rfl⟩
 obtain ⟨x0,x1,rfl⟩:∃ x0 x1,xs=[x0,x1]:=by
  match xs,hxl with
  | [x0,x1],_=>exact ⟨x0,x1,rfl⟩
 have f0:DataW.trod enc Tryz.prog W 0 (fun _=>true) true m 9 (([c0,c1].drop 0).take (Tryz.prog.cellsOf 9))=some x0:=hf 0 _ rfl
 rw [b5x] at f0
 change DataW.trod enc Tryz.prog W 0 (fun _=>true) true m 9 [c0]=some x0 at f0
 have f1:DataW.trod enc Tryz.prog W 0 (fun _=>true) true m 9 (([c0,c1].drop 1).take (Tryz.prog.cellsOf 9))=some x1:=hf 1 _ rfl
 rw [b5x] at f1
 change DataW.trod enc Tryz.prog W 0 (fun _=>true) true m 9 [c1]=some x1 at f1
 obtain ⟨s0,e0,_,_⟩:=DataW.trod_string Tryz.underlying9 f0
 obtain ⟨s1,e1,_,_⟩:=DataW.trod_string Tryz.underlying9 f1
 injection e0 with e0
 injection e1 with e1
 subst e0 e1
 refine ⟨(s0.data.toList,s1.data.toList),.ag _ _ (.k (.s _ _ _ rfl rfl) (.k (.s _ _ _ rfl rfl) .nil)),?_⟩
 simp only [toD,V2]
 exact .agg _ _ (.k (d2e s0) (.k (d2e s1) .nil))
theorem g1w:Tryz.prog.readableRec 23=true:=kR
theorem g14:23 < Tryz.prog.types.size:=of_decide_eq_true kR
theorem e2z:Tryz.prog.readableRec 37=true:=kR
theorem g2m:Tryz.prog.readableRec 35=true:=kR
theorem e3b:37 < Tryz.prog.types.size:=of_decide_eq_true kR
theorem g2o:35 < Tryz.prog.types.size:=of_decide_eq_true kR
theorem g2l:Tryz.prog.readableRec 79=true:=kR
theorem g2n:79 < Tryz.prog.types.size:=of_decide_eq_true kR
theorem c6i:laidOutB Tryz.prog=true:=kR
end Go.Proofs.YtdldcfllnohkeaaGreatDoor
