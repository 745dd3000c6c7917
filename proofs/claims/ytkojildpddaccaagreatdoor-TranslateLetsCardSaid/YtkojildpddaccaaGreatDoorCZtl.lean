/- For every argument, 'lispproverlaw12.TranslateLets' returns true and its arguments read as they did. No conditions but the row's own (the listed package-level variables lie as the program's text lays them; the card ties them). -/
import Derived.Test.YtkojildpddaccaaGreatDoorCZFtl
import Derived.Test.YtkojildpddaccaaGreatDoorCZGtl
import Derived.Test.YtkojildpddaccaaGreatDoorCJ18
set_option linter.all false
namespace Go.Proofs.YtkojildpddaccaaGreatDoor
open Go.Abs Go.ChangeShapes Go.WideShapes Go.ChangeAt Go.WideMaps Go.WideElems Go.RowKit
set_option maxRecDepth 100000 in
theorem b0b (os:Os) (started:os.Started) (H:Type) (enc:TypeId × Value→H) :
  ReturnsInHanded {} Tryz.checked os 4 .any (fun w args=>(Rows.translateLetsSpec.pre enc Tryz.prog Tryz.f4 [] false w args∧laidMetH Tryz.prog Rows.translateLetsRow.laid w)∧sizedMet enc Tryz.prog Tryz.f4 (OpenSpec.ofChange Rows.translateLetsSpec) false w args)
   (Rows.translateLetsSpec.post enc Tryz.prog Tryz.f4 false true false false):=by
 refine c06 (C:=Tryz.checked) (X:=fun w _=>laidMetH Tryz.prog Rows.translateLetsRow.laid w) (fun _ _ _ hh h=>h.of_heap hh) own started kR Tryz.func4
  (ChangeSpec.witness_shaped (enc:=enc) (C:=Tryz.checked) (os:=os) (X:=fun w _=>laidMetH Tryz.prog Rows.translateLetsRow.laid w) false (World.laidAll Tryz.prog os Rows.translateLetsRow.laid) #[.agg #[.int .i64 0,.int .i64 0,.string ⟨#[]⟩,.slice none 0 0],.agg #[.int .i64 0,.int .i64 0,.string ⟨#[]⟩,.slice none 0 0],.agg #[.int .i64 0,.int .i64 0,.string ⟨#[]⟩,.slice none 0 0],.slice none 0 0] 8 (World.laidAll_os _ _ _) (World.shaped_of_ZipB kR kR) kR kR kR
   (by rw [Go.MakeChecks.laidMetH_plain _ _ _ kR];exact laidMet_laidAll _ kR kR)) ?_
 intro W base args ds gs before hval0 hW hw hL hsh
 have hval:∀ (j:Nat) t v,Tryz.f4.params[j]?=some t→args[j]?=some v→Value.okWide Tryz.prog W .any base t v:=hval0
 have hW':=hW
 obtain ⟨p,q,hA0,hV,rfl,hfz,hnd⟩:=hW
 have hA:DataW.TrodAll enc Tryz.prog W 0 (fun _=>true) true Tryz.f4.params.toList args.toList ds p:=hA0
 have hlt:=hA.lt
 rw [show Tryz.f4.params.toList=[24,24,24,22] by rw [Tryz.params4]] at hw
 rw [Tryz.params4] at hA hval
 obtain ⟨v0,v1,v2,v3,d0,d1,d2,d3,p0,p1,p2,p3,rfl,rfl,rfl,h0,h1,h2,h3⟩:=trodAll_four hA
 simp only [List.cons_append,List.nil_append,DataW.weightsEach,List.all_append,Bool.and_eq_true] at hw
 obtain ⟨hw0,hw1,hw2,hw3,_⟩:=hw
 obtain ⟨rfl,rfl⟩:=trodVars_none hV
 clear hA0 hval0
 obtain ⟨r0,_,a0,b0⟩:=b7w (hval 0 _ v0 rfl rfl) h0 hw0
 obtain ⟨r1,_,a1,b1⟩:=b7w (hval 1 _ v1 rfl rfl) h1 hw1
 obtain ⟨r2,_,a2,b2⟩:=b7w (hval 2 _ v2 rfl rfl) h2 hw2
 obtain ⟨r3,a3,b3⟩:=f4u (hval 3 _ v3 rfl rfl) h3 hw3
 refine (d0l g39 (r0,r1,r2,r3) rfl rfl rfl (.k a0 (.k a1 (.k a2 (.k a3 .nil)))) (f0a hsh hL kR) (.k b0 (.k b1 (.k b2 (.k b3 .nil))))).mono fun e W' ⟨he,hs⟩=>?_
 subst he
 exact ⟨_,rfl,_,_,_,[],_,[],hW',trodAll_mk1 (shut_bool Tryz.underlying4 _),trodAll_mk4 (a57 b4w b45 a5j h0 hs (fun x hx=>hlt x (by simp [hx]))) (a57 b4w b45 a5j h1 hs (fun x hx=>hlt x (by simp [hx]))) (a57 b4w b45 a5j h2 hs (fun x hx=>hlt x (by simp [hx]))) (a57 f2s f2y a5j h3 hs (fun x hx=>hlt x (by simp [hx]))),rfl,c09 hs _,fun h=>by cases h⟩

theorem b17:Rows.TranslateLetsSaid :=
 OpenClaim.holds_of_wide 4 Tryz.f4 rfl rfl rfl rfl rfl rfl rfl ⟨rfl,rfl,rfl,rfl,rfl⟩ rfl rfl rfl rfl rfl kR Tryz.func4 d8d
  (of_decide_eq_true kR) (by unfold Func.isWrapper;first | (rw [if_pos (by decide +kernel)];kernel_rfl) | (rw [if_neg (by decide +kernel)];exact ⟨rfl,rfl⟩))
  (fun os started H enc _=>b0b os started H enc)

theorem translateLets_card:Rows.TranslateLetsCardSaid :=
 Claim7.holds_tied_plain_at .later [] [.data, .data, .data, .sentinel, .sentinel] true (true, "ea8ab358e801f3dc3ad01d7a05a435c513e62a207b18b8202ab4f85e1ba88e31") true
  b17 (fun _ h=>by cases h) kR (fun _ h=>by cases h) translateLets_row_tie rfl ⟨rfl,rfl⟩ kR rfl
  (fun f fn hf hfn=>by
   obtain rfl:f=4:=Option.some.inj ((show Tryz.prog.funcNamed Rows.translateLetsRow.func=some 4 by kernel_rfl).symm.trans hf) |>.symm
   obtain rfl:fn=Tryz.f4:=(Option.some.inj (Tryz.func4.symm.trans hfn)).symm
   exact ⟨kR,fun j t ht=>by
    rw [Tryz.params4] at ht
    have hm:t ∈ [24,24,24,22]:=by simpa using Array.mem_of_getElem? ht
    have hall:([24,24,24,22].all fun u=>!Tryz.prog.wantsStandIn u)=true:=kR
    exact (show Tryz.prog.wantsStandIn t=false by simpa using List.all_eq_true.1 hall t hm)⟩)
  f3k
#print axioms translateLets_card
end Go.Proofs.YtkojildpddaccaaGreatDoor
