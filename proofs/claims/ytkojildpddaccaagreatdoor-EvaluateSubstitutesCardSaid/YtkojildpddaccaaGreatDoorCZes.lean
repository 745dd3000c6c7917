/- For every argument, 'lispproverlaw11.EvaluateSubstitutes' returns true and its arguments read as they did. No conditions but the row's own (the listed package-level variables lie as the program's text lays them; the card ties them). -/
import Derived.Test.YtkojildpddaccaaGreatDoorCZFes
import Derived.Test.YtkojildpddaccaaGreatDoorCZGes
import Derived.Test.YtkojildpddaccaaGreatDoorCJ19
set_option linter.all false
namespace Go.Proofs.YtkojildpddaccaaGreatDoor
open Go.Abs Go.ChangeShapes Go.WideShapes Go.ChangeAt Go.WideMaps Go.WideElems Go.RowKit
set_option maxRecDepth 100000 in
theorem a4w (os:Os) (started:os.Started) (H:Type) (enc:TypeId × Value→H) :
  ReturnsInHanded {} Tryz.checked os 3 .any (fun w args=>(Rows.evaluateSubstitutesSpec.pre enc Tryz.prog Tryz.f3 [] false w args∧laidMetH Tryz.prog Rows.evaluateSubstitutesRow.laid w)∧sizedMet enc Tryz.prog Tryz.f3 (OpenSpec.ofChange Rows.evaluateSubstitutesSpec) false w args)
   (Rows.evaluateSubstitutesSpec.post enc Tryz.prog Tryz.f3 false true false false):=by
 refine c3y (C:=Tryz.checked) (X:=fun w _=>laidMetH Tryz.prog Rows.evaluateSubstitutesRow.laid w) (fun _ _ _ hh h=>h.of_heap hh) own started kR Tryz.func3
  (ChangeSpec.witness_shaped (enc:=enc) (C:=Tryz.checked) (os:=os) (X:=fun w _=>laidMetH Tryz.prog Rows.evaluateSubstitutesRow.laid w) false (World.laidAll Tryz.prog os Rows.evaluateSubstitutesRow.laid) #[.agg #[.int .i64 0,.int .i64 0,.string ⟨#[]⟩,.slice none 0 0],.slice none 0 0,.slice none 0 0] 8 (World.laidAll_os _ _ _) (World.shaped_of_ZipB kR kR) kR kR kR
   (by rw [Go.MakeChecks.laidMetH_plain _ _ _ kR];exact laidMet_laidAll _ kR kR)) ?_
 intro W base args ds gs before hval0 hW hw hL hsh;have hval:∀ (j:Nat) t v,Tryz.f3.params[j]?=some t→args[j]?=some v→Value.okWide Tryz.prog W .any base t v:=hval0;have hW':=hW;obtain ⟨p,q,hA0,hV,rfl,hfz,hnd⟩:=hW;have hA:DataW.TrodAll enc Tryz.prog W 0 (fun _=>true) true Tryz.f3.params.toList args.toList ds p:=hA0;have hlt:=hA.lt;rw [show Tryz.f3.params.toList=[24,22,22] by rw [Tryz.params3]] at hw;rw [Tryz.params3] at hA hval;obtain ⟨v0,v1,v2,d0,d1,d2,p0,p1,p2,rfl,rfl,rfl,h0,h1,h2⟩:=trodAll_three hA;simp only [List.cons_append,List.nil_append,DataW.weightsEach,List.all_append,Bool.and_eq_true] at hw;obtain ⟨hw0,hw1,hw2,_⟩:=hw;obtain ⟨rfl,rfl⟩:=trodVars_none hV;clear hA0 hval0;obtain ⟨r0,_,a0,b0⟩:=e6v (hval 0 _ v0 rfl rfl) h0 hw0;obtain ⟨r1,a1,b1⟩:=d5f (hval 1 _ v1 rfl rfl) h1 hw1;obtain ⟨r2,a2,b2⟩:=d5f (hval 2 _ v2 rfl rfl) h2 hw2;refine (d20 g4t (r0,r1,r2) rfl rfl rfl (.k a0 (.k a1 (.k a2 .nil))) (e8n hsh hL kR) (.k b0 (.k b1 (.k b2 .nil)))).mono fun e W' ⟨he,hs⟩=>?_;subst he;exact ⟨_,rfl,_,_,_,[],_,[],hW',trodAll_mk1 (shut_bool Tryz.underlying4 _),trodAll_mk3 (b2i e3s e34 b0y h0 hs (fun x hx=>hlt x (by simp [hx]))) (b2i d16 d2h b0y h1 hs (fun x hx=>hlt x (by simp [hx]))) (b2i d16 d2h b0y h2 hs (fun x hx=>hlt x (by simp [hx]))),rfl,c35 hs _,fun h=>by cases h⟩

theorem a6p:Rows.EvaluateSubstitutesSaid :=
 OpenClaim.holds_of_wide 3 Tryz.f3 rfl rfl rfl rfl rfl rfl rfl ⟨rfl,rfl,rfl,rfl,rfl⟩ rfl rfl rfl rfl rfl kR Tryz.func3 d6q
  (of_decide_eq_true kR) (by unfold Func.isWrapper;first | (rw [if_pos (by decide +kernel)];kernel_rfl) | (rw [if_neg (by decide +kernel)];exact ⟨rfl,rfl⟩))
  (fun os started H enc _=>a4w os started H enc)

theorem evaluateSubstitutes_card:Rows.EvaluateSubstitutesCardSaid :=
 Claim7.holds_tied_plain_at .later [] [.data, .data, .data, .sentinel, .sentinel] true (true, "ea8ab358e801f3dc3ad01d7a05a435c513e62a207b18b8202ab4f85e1ba88e31") true
  a6p (fun _ h=>by cases h) kR (fun _ h=>by cases h) evaluateSubstitutes_row_tie rfl ⟨rfl,rfl⟩ kR rfl
  (fun f fn hf hfn=>by
   obtain rfl:f=3:=Option.some.inj ((show Tryz.prog.funcNamed Rows.evaluateSubstitutesRow.func=some 3 by kernel_rfl).symm.trans hf) |>.symm;obtain rfl:fn=Tryz.f3:=(Option.some.inj (Tryz.func3.symm.trans hfn)).symm;exact ⟨kR,fun j t ht=>by
    rw [Tryz.params3] at ht;have hm:t ∈ [24,22,22]:=by simpa using Array.mem_of_getElem? ht
    have hall:([24,22,22].all fun u=>!Tryz.prog.wantsStandIn u)=true:=kR;exact (show Tryz.prog.wantsStandIn t=false by simpa using List.all_eq_true.1 hall t hm)⟩)
  e7c
#print axioms evaluateSubstitutes_card
end Go.Proofs.YtkojildpddaccaaGreatDoor
