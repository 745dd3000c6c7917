/- For every argument, 'lispproverlaw6.PrintAgain' returns true and its arguments read as they did. No conditions but the row's own (the listed package-level variables lie as the program's text lays them; the card ties them). -/
import Derived.Test.YtffaodopiifbkaaGreatDoorCZFxa
import Derived.Test.YtffaodopiifbkaaGreatDoorCZGxa
set_option linter.all false
namespace Go.Proofs.YtffaodopiifbkaaGreatDoor
open Go.Abs Go.ChangeShapes Go.WideShapes Go.ChangeAt Go.WideMaps Go.WideElems Go.RowKit
set_option maxRecDepth 100000 in
theorem b4u (os:Os) (started:os.Started) (H:Type) (enc:TypeId × Value→H) :
  ReturnsInHanded {} Tryz.checked os 15 .any (fun w args=>(Rows.printAgainSpec.pre enc Tryz.prog Tryz.f15 [] false w args∧laidMetH Tryz.prog Rows.printAgainRow.laid w)∧sizedMet enc Tryz.prog Tryz.f15 (OpenSpec.ofChange Rows.printAgainSpec) false w args)
   (Rows.printAgainSpec.post enc Tryz.prog Tryz.f15 false true false false):=by
 refine a5f (C:=Tryz.checked) (X:=fun w _=>laidMetH Tryz.prog Rows.printAgainRow.laid w) (fun _ _ _ hh h=>h.of_heap hh) own started kR Tryz.func15
  (ChangeSpec.witness_shaped (enc:=enc) (C:=Tryz.checked) (os:=os) (X:=fun w _=>laidMetH Tryz.prog Rows.printAgainRow.laid w) false (World.laidAll Tryz.prog os Rows.printAgainRow.laid) #[.string ⟨#[]⟩] 8 (World.laidAll_os _ _ _) (World.shaped_of_ZipB kR kR) kR kR kR
   (by rw [Go.MakeChecks.laidMetH_plain _ _ _ kR];exact laidMet_laidAll _ kR kR)) ?_
 intro W base args ds gs before hval0 hW hw hL hsh
 have hval:∀ (j:Nat) t v,Tryz.f15.params[j]?=some t→args[j]?=some v→Value.okWide Tryz.prog W .any base t v:=hval0
 have hW':=hW
 obtain ⟨p,q,hA0,hV,rfl,hfz,hnd⟩:=hW
 have hA:DataW.TrodAll enc Tryz.prog W 0 (fun _=>true) true Tryz.f15.params.toList args.toList ds p:=hA0
 have hlt:=hA.lt
 rw [show Tryz.f15.params.toList=[9] by rw [Tryz.params15]] at hw
 rw [Tryz.params15] at hA hval
 obtain ⟨v0,d0,rfl,rfl,h0⟩:=trodAll_one hA
 simp only [List.cons_append,List.nil_append,DataW.weightsEach,List.all_append,Bool.and_eq_true] at hw
 obtain ⟨hw0,_⟩:=hw
 obtain ⟨rfl,rfl⟩:=trodVars_none hV
 clear hA0 hval0
 obtain ⟨r0,rfl,rfl,rfl,hs0⟩:=Go.ChangeMaps.open_string Tryz.underlying9 (hval 0 9 v0 rfl rfl) h0
 refine (b0z c98 r0.data.toList rfl rfl rfl (.k (.s _ _ _ rfl rfl) .nil) (c0n hsh hL kR) (.k (d2a _) .nil)).mono fun e W' ⟨he,hs⟩=>?_
 subst he
 exact ⟨_,rfl,_,_,_,[],_,[],hW',trodAll_mk1 (shut_bool Tryz.underlying4 _),trodAll_mk1 (Go.ChangeMaps.shut_string Tryz.underlying9 hs0),rfl,a42 hs _,fun h=>by cases h⟩

theorem b87:Rows.PrintAgainSaid :=
 OpenClaim.holds_of_wide 15 Tryz.f15 rfl rfl rfl rfl rfl rfl rfl ⟨rfl,rfl,rfl,rfl,rfl⟩ rfl rfl rfl rfl rfl kR Tryz.func15 d6q
  (of_decide_eq_true kR) (by unfold Func.isWrapper;first | (rw [if_pos (by decide +kernel)];kernel_rfl) | (rw [if_neg (by decide +kernel)];exact ⟨rfl,rfl⟩))
  (fun os started H enc _=>b4u os started H enc)

theorem printAgain_card:Rows.PrintAgainCardSaid :=
 Claim7.holds_tied_plain_at .later [] [.data, .data, .data, .data, .sentinel, .sentinel, .pinned] true (true, "e4d6be23df470f3136165a029df302f723ced8eef17464b25267ff55f95d981b") true
  b87 (fun _ h=>by cases h) kR (fun _ h=>by cases h) printAgain_row_tie rfl ⟨rfl,rfl⟩ kR rfl
  (fun f fn hf hfn=>by
   obtain rfl:f=15:=Option.some.inj ((show Tryz.prog.funcNamed Rows.printAgainRow.func=some 15 by kernel_rfl).symm.trans hf) |>.symm
   obtain rfl:fn=Tryz.f15:=(Option.some.inj (Tryz.func15.symm.trans hfn)).symm
   exact ⟨kR,fun j t ht=>by
    rw [Tryz.params15] at ht
    have hm:t ∈ [9]:=by simpa using Array.mem_of_getElem? ht
    have hall:([9].all fun u=>!Tryz.prog.wantsStandIn u)=true:=kR
    exact (show Tryz.prog.wantsStandIn t=false by simpa using List.all_eq_true.1 hall t hm)⟩)
  e8v
#print axioms printAgain_card
end Go.Proofs.YtffaodopiifbkaaGreatDoor
