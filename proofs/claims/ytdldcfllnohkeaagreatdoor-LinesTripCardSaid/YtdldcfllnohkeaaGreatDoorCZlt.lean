/- For every argument, 'lispproverlaw6.LinesTrip' returns true and its arguments read as they did. No conditions but the row's own (the listed package-level variables lie as the program's text lays them; the card ties them). -/
import Derived.Test.YtdldcfllnohkeaaGreatDoorCZFlt
import Derived.Test.YtdldcfllnohkeaaGreatDoorCZGlt
import Derived.Test.YtdldcfllnohkeaaGreatDoorCJ8
set_option linter.all false
namespace Go.Proofs.YtdldcfllnohkeaaGreatDoor
open Go.Abs Go.ChangeShapes Go.WideShapes Go.ChangeAt Go.WideMaps Go.WideElems Go.RowKit
set_option maxRecDepth 100000 in
theorem b6b (os:Os) (started:os.Started) (H:Type) (enc:TypeId × Value→H) :
  ReturnsInHanded {} Tryz.checked os 5 .any (fun w args=>(Rows.linesTripSpec.pre enc Tryz.prog Tryz.f5 [] false w args∧laidMetH Tryz.prog Rows.linesTripRow.laid w)∧sizedMet enc Tryz.prog Tryz.f5 (OpenSpec.ofChange Rows.linesTripSpec) false w args)
   (Rows.linesTripSpec.post enc Tryz.prog Tryz.f5 false true false false):=by
 refine c3u (C:=Tryz.checked) (X:=fun w _=>laidMetH Tryz.prog Rows.linesTripRow.laid w) (fun _ _ _ hh h=>h.of_heap hh) own started kR Tryz.func5
  (ChangeSpec.witness_shaped (enc:=enc) (C:=Tryz.checked) (os:=os) (X:=fun w _=>laidMetH Tryz.prog Rows.linesTripRow.laid w) false (World.laidAll Tryz.prog os Rows.linesTripRow.laid) #[.agg #[.int .i64 0,.int .i64 0,.string ⟨#[]⟩,.slice none 0 0],.int .i64 0] 8 (World.laidAll_os _ _ _) (World.shaped_of_ZipB kR kR) kR kR kR
   (by rw [Go.MakeChecks.laidMetH_plain _ _ _ kR];exact laidMet_laidAll _ kR kR)) ?_
 intro W base args ds gs before hval0 hW hw hL hsh
 have hval:∀ (j:Nat) t v,Tryz.f5.params[j]?=some t→args[j]?=some v→Value.okWide Tryz.prog W .any base t v:=hval0
 have hW':=hW
 obtain ⟨p,q,hA0,hV,rfl,hfz,hnd⟩:=hW
 have hA:DataW.TrodAll enc Tryz.prog W 0 (fun _=>true) true Tryz.f5.params.toList args.toList ds p:=hA0
 have hlt:=hA.lt
 rw [show Tryz.f5.params.toList=[37,3] by rw [Tryz.params5]] at hw
 rw [Tryz.params5] at hA hval
 obtain ⟨v0,v1,d0,d1,p0,p1,rfl,rfl,rfl,h0,h1⟩:=trodAll_two hA
 simp only [List.cons_append,List.nil_append,DataW.weightsEach,List.all_append,Bool.and_eq_true] at hw
 obtain ⟨hw0,hw1,_⟩:=hw
 obtain ⟨rfl,rfl⟩:=trodVars_none hV
 clear hA0 hval0
 obtain ⟨r0,_,a0,b0⟩:=e5x (hval 0 _ v0 rfl rfl) h0 hw0
 obtain ⟨r1,rfl,rfl,rfl,hn1⟩:=open_int Tryz.underlying3 (hval 1 3 v1 rfl rfl) h1
 refine (d27 d3v ⟨(r0,r1),hn1⟩ rfl rfl rfl (.k a0 (.k (.i _ _) .nil)) (e7m hsh hL kR) (.k b0 (.k (.int _ _) .nil))).mono fun e W' ⟨he,hs⟩=>?_
 subst he
 exact ⟨_,rfl,_,_,_,[],_,[],hW',trodAll_mk1 (shut_bool Tryz.underlying4 _),trodAll_mk2 (d5r e2z e3b c6i h0 hs (fun x hx=>hlt x (by simp [hx]))) (shut_int Tryz.underlying3 hn1),rfl,c35 hs _,fun h=>by cases h⟩

theorem c0p:Rows.LinesTripSaid :=
 OpenClaim.holds_of_wide 5 Tryz.f5 rfl rfl rfl rfl rfl rfl rfl ⟨rfl,rfl,rfl,rfl,rfl⟩ rfl rfl rfl rfl rfl kR Tryz.func5 d69
  (of_decide_eq_true kR) (by unfold Func.isWrapper;first | (rw [if_pos (by decide +kernel)];kernel_rfl) | (rw [if_neg (by decide +kernel)];exact ⟨rfl,rfl⟩))
  (fun os started H enc _=>b6b os started H enc)

theorem linesTrip_card:Rows.LinesTripCardSaid :=
 Claim7.holds_tied_plain_at .later [] [.data, .data, .data, .data, .sentinel, .sentinel, .pinned] true (true, "9b39ba6a87ff8504a688baf467470cde8614b9e2f682b0d2bbb3ce7848ca3a6d") true
  c0p (fun _ h=>by cases h) kR (fun _ h=>by cases h) linesTrip_row_tie rfl ⟨rfl,rfl⟩ kR rfl
  (fun f fn hf hfn=>by
   obtain rfl:f=5:=Option.some.inj ((show Tryz.prog.funcNamed Rows.linesTripRow.func=some 5 by kernel_rfl).symm.trans hf) |>.symm
   obtain rfl:fn=Tryz.f5:=(Option.some.inj (Tryz.func5.symm.trans hfn)).symm
   exact ⟨kR,fun j t ht=>by
    rw [Tryz.params5] at ht
    have hm:t ∈ [37,3]:=by simpa using Array.mem_of_getElem? ht
    have hall:([37,3].all fun u=>!Tryz.prog.wantsStandIn u)=true:=kR
    exact (show Tryz.prog.wantsStandIn t=false by simpa using List.all_eq_true.1 hall t hm)⟩)
  e67
#print axioms linesTrip_card
end Go.Proofs.YtdldcfllnohkeaaGreatDoor
