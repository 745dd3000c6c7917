/- For every argument, 'lispproverlaw6.PrinterNames' returns true and its arguments read as they did. No conditions but the row's own (the listed package-level variables lie as the program's text lays them; the card ties them). -/
import Derived.Test.YtffaodopiifbkaaGreatDoorKZFpn
import Derived.Test.YtffaodopiifbkaaGreatDoorKZGpn
import Derived.Test.YtffaodopiifbkaaGreatDoorKJ9
set_option linter.all false
namespace Go.Proofs.YtffaodopiifbkaaGreatDoor
open Go.Abs Go.ChangeShapes Go.WideShapes Go.ChangeAt Go.WideMaps Go.WideElems Go.RowKit
set_option maxRecDepth 100000 in
theorem a9v (os:Os) (started:os.Started) (H:Type) (enc:TypeId × Value→H) :
  ReturnsInHanded {} Tryz.checked os 9 .any (fun w args=>(Rows.printerNamesSpec.pre enc Tryz.prog Tryz.f9 [] false w args∧laidMetH Tryz.prog Rows.printerNamesRow.laid w)∧sizedMet enc Tryz.prog Tryz.f9 (OpenSpec.ofChange Rows.printerNamesSpec) false w args)
   (Rows.printerNamesSpec.post enc Tryz.prog Tryz.f9 false true false false):=by
 refine a9u (C:=Tryz.checked) (X:=fun w _=>laidMetH Tryz.prog Rows.printerNamesRow.laid w) (fun _ _ _ hh h=>h.of_heap hh) own started kR Tryz.func9
  (ChangeSpec.witness_shaped (enc:=enc) (C:=Tryz.checked) (os:=os) (X:=fun w _=>laidMetH Tryz.prog Rows.printerNamesRow.laid w) false (World.laidAll Tryz.prog os Rows.printerNamesRow.laid) #[.agg #[.string ⟨#[]⟩,.string ⟨#[]⟩],.int .i64 0,.int .i64 0] 8 (World.laidAll_os _ _ _) (World.shaped_of_ZipB kR kR) kR kR kR
   (by rw [Go.MakeChecks.laidMetH_plain _ _ _ kR];exact laidMet_laidAll _ kR kR)) ?_
 intro W base args ds gs before hval0 hW hw hL hsh
 have hval:∀ (j:Nat) t v,Tryz.f9.params[j]?=some t→args[j]?=some v→Value.okWide Tryz.prog W .any base t v:=hval0
 have hW':=hW
 obtain ⟨p,q,hA0,hV,rfl,hfz,hnd⟩:=hW
 have hA:DataW.TrodAll enc Tryz.prog W 0 (fun _=>true) true Tryz.f9.params.toList args.toList ds p:=hA0
 have hlt:=hA.lt
 rw [show Tryz.f9.params.toList=[26,3,3] by rw [Tryz.params9]] at hw
 rw [Tryz.params9] at hA hval
 obtain ⟨v0,v1,v2,d0,d1,d2,p0,p1,p2,rfl,rfl,rfl,h0,h1,h2⟩:=trodAll_three hA
 simp only [List.cons_append,List.nil_append,DataW.weightsEach,List.all_append,Bool.and_eq_true] at hw
 obtain ⟨hw0,hw1,hw2,_⟩:=hw
 obtain ⟨rfl,rfl⟩:=trodVars_none hV
 clear hA0 hval0
 obtain ⟨r0,a0,b0⟩:=e3j (hval 0 _ v0 rfl rfl) h0
 obtain ⟨r1,rfl,rfl,rfl,hn1⟩:=open_int Tryz.underlying3 (hval 1 3 v1 rfl rfl) h1
 obtain ⟨r2,rfl,rfl,rfl,hn2⟩:=open_int Tryz.underlying3 (hval 2 3 v2 rfl rfl) h2
 refine (b6e c0f (r0,r1,r2) rfl rfl rfl (.k a0 (.k (.i _ _) (.k (.i _ _) .nil))) (c6c hsh hL kR) (.k b0 (.k (.int _ _) (.k (.int _ _) .nil)))).mono fun e W' ⟨he,hs⟩=>?_
 subst he
 exact ⟨_,rfl,_,_,_,[],_,[],hW',trodAll_mk1 (shut_bool Tryz.underlying4 _),trodAll_mk3 (b9r d5d d5q a81 h0 hs (fun x hx=>hlt x (by simp [hx]))) (shut_int Tryz.underlying3 hn1) (shut_int Tryz.underlying3 hn2),rfl,a9r hs _,fun h=>by cases h⟩

theorem b2h:Rows.PrinterNamesSaid :=
 OpenClaim.holds_of_wide 9 Tryz.f9 rfl rfl rfl rfl rfl rfl rfl ⟨rfl,rfl,rfl,rfl,rfl⟩ rfl rfl rfl rfl rfl kR Tryz.func9 d4h
  (of_decide_eq_true kR) (by unfold Func.isWrapper;first | (rw [if_pos (by decide +kernel)];kernel_rfl) | (rw [if_neg (by decide +kernel)];exact ⟨rfl,rfl⟩))
  (fun os started H enc _=>a9v os started H enc)

theorem printerNames_card:Rows.PrinterNamesCardSaid :=
 Claim7.holds_tied_plain_at .later [] [.data, .data, .data, .data, .sentinel, .sentinel, .pinned] true (true, "e4d6be23df470f3136165a029df302f723ced8eef17464b25267ff55f95d981b") true
  b2h (fun _ h=>by cases h) kR (fun _ h=>by cases h) printerNames_row_tie rfl ⟨rfl,rfl⟩ kR rfl
  (fun f fn hf hfn=>by
   obtain rfl:f=9:=Option.some.inj ((show Tryz.prog.funcNamed Rows.printerNamesRow.func=some 9 by kernel_rfl).symm.trans hf) |>.symm
   obtain rfl:fn=Tryz.f9:=(Option.some.inj (Tryz.func9.symm.trans hfn)).symm
   exact ⟨kR,fun j t ht=>by
    rw [Tryz.params9] at ht
    have hm:t ∈ [26,3,3]:=by simpa using Array.mem_of_getElem? ht
    have hall:([26,3,3].all fun u=>!Tryz.prog.wantsStandIn u)=true:=kR
    exact (show Tryz.prog.wantsStandIn t=false by simpa using List.all_eq_true.1 hall t hm)⟩)
  e3t
#print axioms printerNames_card
end Go.Proofs.YtffaodopiifbkaaGreatDoor
