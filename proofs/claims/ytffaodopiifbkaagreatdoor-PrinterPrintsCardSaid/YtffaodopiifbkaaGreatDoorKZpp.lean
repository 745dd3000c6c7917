/- For every argument, 'lispproverlaw6.PrinterPrints' returns true and its arguments read as they did. No conditions but the row's own (the listed package-level variables lie as the program's text lays them; the card ties them). -/
import Derived.Test.YtffaodopiifbkaaGreatDoorKZFpp
import Derived.Test.YtffaodopiifbkaaGreatDoorKZGpp
import Derived.Test.YtffaodopiifbkaaGreatDoorKJ9
set_option linter.all false
namespace Go.Proofs.YtffaodopiifbkaaGreatDoor
open Go.Abs Go.ChangeShapes Go.WideShapes Go.ChangeAt Go.WideMaps Go.WideElems Go.RowKit
set_option maxRecDepth 100000 in
theorem a9e (os:Os) (started:os.Started) (H:Type) (enc:TypeId × Value→H) :
  ReturnsInHanded {} Tryz.checked os 10 .any (fun w args=>(Rows.printerPrintsSpec.pre enc Tryz.prog Tryz.f10 [] false w args∧laidMetH Tryz.prog Rows.printerPrintsRow.laid w)∧sizedMet enc Tryz.prog Tryz.f10 (OpenSpec.ofChange Rows.printerPrintsSpec) false w args)
   (Rows.printerPrintsSpec.post enc Tryz.prog Tryz.f10 false true false false):=by
 refine a9u (C:=Tryz.checked) (X:=fun w _=>laidMetH Tryz.prog Rows.printerPrintsRow.laid w) (fun _ _ _ hh h=>h.of_heap hh) own started kR Tryz.func10
  (ChangeSpec.witness_shaped (enc:=enc) (C:=Tryz.checked) (os:=os) (X:=fun w _=>laidMetH Tryz.prog Rows.printerPrintsRow.laid w) false (World.laidAll Tryz.prog os Rows.printerPrintsRow.laid) #[.agg #[.int .i64 0,.int .i64 0,.string ⟨#[]⟩,.slice none 0 0],.int .i64 0] 8 (World.laidAll_os _ _ _) (World.shaped_of_ZipB kR kR) kR kR kR
   (by rw [Go.MakeChecks.laidMetH_plain _ _ _ kR];exact laidMet_laidAll _ kR kR)) ?_
 intro W base args ds gs before hval0 hW hw hL hsh
 have hval:∀ (j:Nat) t v,Tryz.f10.params[j]?=some t→args[j]?=some v→Value.okWide Tryz.prog W .any base t v:=hval0
 have hW':=hW
 obtain ⟨p,q,hA0,hV,rfl,hfz,hnd⟩:=hW
 have hA:DataW.TrodAll enc Tryz.prog W 0 (fun _=>true) true Tryz.f10.params.toList args.toList ds p:=hA0
 have hlt:=hA.lt
 rw [show Tryz.f10.params.toList=[62,3] by rw [Tryz.params10]] at hw
 rw [Tryz.params10] at hA hval
 obtain ⟨v0,v1,d0,d1,p0,p1,rfl,rfl,rfl,h0,h1⟩:=trodAll_two hA
 simp only [List.cons_append,List.nil_append,DataW.weightsEach,List.all_append,Bool.and_eq_true] at hw
 obtain ⟨hw0,hw1,_⟩:=hw
 obtain ⟨rfl,rfl⟩:=trodVars_none hV
 clear hA0 hval0
 obtain ⟨r0,_,a0,b0⟩:=e4o (hval 0 _ v0 rfl rfl) h0 hw0
 obtain ⟨r1,rfl,rfl,rfl,hn1⟩:=open_int Tryz.underlying3 (hval 1 3 v1 rfl rfl) h1
 refine (b6e b75 (r0,r1) rfl rfl rfl (.k a0 (.k (.i _ _) .nil)) (c6c hsh hL kR) (.k b0 (.k (.int _ _) .nil))).mono fun e W' ⟨he,hs⟩=>?_
 subst he
 exact ⟨_,rfl,_,_,_,[],_,[],hW',trodAll_mk1 (shut_bool Tryz.underlying4 _),trodAll_mk2 (b9r d7p d54 a81 h0 hs (fun x hx=>hlt x (by simp [hx]))) (shut_int Tryz.underlying3 hn1),rfl,a9r hs _,fun h=>by cases h⟩

theorem b1a:Rows.PrinterPrintsSaid :=
 OpenClaim.holds_of_wide 10 Tryz.f10 rfl rfl rfl rfl rfl rfl rfl ⟨rfl,rfl,rfl,rfl,rfl⟩ rfl rfl rfl rfl rfl kR Tryz.func10 d3w
  (of_decide_eq_true kR) (by unfold Func.isWrapper;first | (rw [if_pos (by decide +kernel)];kernel_rfl) | (rw [if_neg (by decide +kernel)];exact ⟨rfl,rfl⟩))
  (fun os started H enc _=>a9e os started H enc)

theorem printerPrints_card:Rows.PrinterPrintsCardSaid :=
 Claim7.holds_tied_plain_at .later [] [.data, .data, .data, .data, .sentinel, .sentinel, .pinned] true (true, "e4d6be23df470f3136165a029df302f723ced8eef17464b25267ff55f95d981b") true
  b1a (fun _ h=>by cases h) kR (fun _ h=>by cases h) printerPrints_row_tie rfl ⟨rfl,rfl⟩ kR rfl
  (fun f fn hf hfn=>by
   obtain rfl:f=10:=Option.some.inj ((show Tryz.prog.funcNamed Rows.printerPrintsRow.func=some 10 by kernel_rfl).symm.trans hf) |>.symm
   obtain rfl:fn=Tryz.f10:=(Option.some.inj (Tryz.func10.symm.trans hfn)).symm
   exact ⟨kR,fun j t ht=>by
    rw [Tryz.params10] at ht
    have hm:t ∈ [62,3]:=by simpa using Array.mem_of_getElem? ht
    have hall:([62,3].all fun u=>!Tryz.prog.wantsStandIn u)=true:=kR
    exact (show Tryz.prog.wantsStandIn t=false by simpa using List.all_eq_true.1 hall t hm)⟩)
  e2e
#print axioms printerPrints_card
end Go.Proofs.YtffaodopiifbkaaGreatDoor
