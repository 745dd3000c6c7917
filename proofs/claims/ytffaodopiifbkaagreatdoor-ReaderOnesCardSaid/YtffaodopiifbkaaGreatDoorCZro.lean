/- For every argument, 'lispproverlaw5.ReaderOnes' returns true and its arguments read as they did. No conditions but the row's own (the listed package-level variables lie as the program's text lays them; the card ties them). -/
import Derived.Test.YtffaodopiifbkaaGreatDoorCZFro
import Derived.Test.YtffaodopiifbkaaGreatDoorCZGro
import Derived.Test.YtffaodopiifbkaaGreatDoorCJ4
set_option linter.all false
namespace Go.Proofs.YtffaodopiifbkaaGreatDoor
open Go.Abs Go.ChangeShapes Go.WideShapes Go.ChangeAt Go.WideMaps Go.WideElems Go.RowKit
set_option maxRecDepth 100000 in
theorem b2s (os:Os) (started:os.Started) (H:Type) (enc:TypeId × Value→H) :
  ReturnsInHanded {} Tryz.checked os 3 .any (fun w args=>(Rows.readerOnesSpec.pre enc Tryz.prog Tryz.f3 [] false w args∧laidMetH Tryz.prog Rows.readerOnesRow.laid w)∧sizedMet enc Tryz.prog Tryz.f3 (OpenSpec.ofChange Rows.readerOnesSpec) false w args)
   (Rows.readerOnesSpec.post enc Tryz.prog Tryz.f3 false true false false):=by
 refine a0l (C:=Tryz.checked) (X:=fun w _=>laidMetH Tryz.prog Rows.readerOnesRow.laid w) (fun _ _ _ hh h=>h.of_heap hh) own started kR Tryz.func3
  (ChangeSpec.witness_shaped (enc:=enc) (C:=Tryz.checked) (os:=os) (X:=fun w _=>laidMetH Tryz.prog Rows.readerOnesRow.laid w) false (World.laidAll Tryz.prog os Rows.readerOnesRow.laid) #[.slice none 0 0] 8 (World.laidAll_os _ _ _) (World.shaped_of_ZipB kR kR) kR kR kR
   (by rw [Go.MakeChecks.laidMetH_plain _ _ _ kR];exact laidMet_laidAll _ kR kR)) ?_
 intro W base args ds gs before hval0 hW hw hL hsh
 have hval:∀ (j:Nat) t v,Tryz.f3.params[j]?=some t→args[j]?=some v→Value.okWide Tryz.prog W .any base t v:=hval0
 have hW':=hW
 obtain ⟨p,q,hA0,hV,rfl,hfz,hnd⟩:=hW
 have hA:DataW.TrodAll enc Tryz.prog W 0 (fun _=>true) true Tryz.f3.params.toList args.toList ds p:=hA0
 have hlt:=hA.lt
 rw [show Tryz.f3.params.toList=[22] by rw [Tryz.params3]] at hw
 rw [Tryz.params3] at hA hval
 obtain ⟨v0,d0,rfl,rfl,h0⟩:=trodAll_one hA
 simp only [List.cons_append,List.nil_append,DataW.weightsEach,List.all_append,Bool.and_eq_true] at hw
 obtain ⟨hw0,_⟩:=hw
 obtain ⟨rfl,rfl⟩:=trodVars_none hV
 clear hA0 hval0
 obtain ⟨r0,a0,b0⟩:=d19 (hval 0 _ v0 rfl rfl) h0 hw0
 refine (a4b c5j ⟨r0,trivial⟩ rfl rfl rfl (.k a0 .nil) (b17 hsh hL kR) (.k b0 .nil)).mono fun e W' ⟨he,hs⟩=>?_
 subst he
 exact ⟨_,rfl,_,_,_,[],_,[],hW',trodAll_mk1 (shut_bool Tryz.underlying4 _),trodAll_mk1 (b9i c6s c7q a2e h0 hs (fun x hx=>hlt x (by simp [hx]))),rfl,a0m hs _,fun h=>by cases h⟩

theorem b64:Rows.ReaderOnesSaid :=
 OpenClaim.holds_of_wide 3 Tryz.f3 rfl rfl rfl rfl rfl rfl rfl ⟨rfl,rfl,rfl,rfl,rfl⟩ rfl rfl rfl rfl rfl kR Tryz.func3 d18
  (of_decide_eq_true kR) (by unfold Func.isWrapper;first | (rw [if_pos (by decide +kernel)];kernel_rfl) | (rw [if_neg (by decide +kernel)];exact ⟨rfl,rfl⟩))
  (fun os started H enc _=>b2s os started H enc)

theorem readerOnes_card:Rows.ReaderOnesCardSaid :=
 Claim7.holds_tied_plain_at .later [] [.data, .data, .data, .data, .sentinel, .sentinel, .pinned] true (true, "e4d6be23df470f3136165a029df302f723ced8eef17464b25267ff55f95d981b") true
  b64 (fun _ h=>by cases h) kR (fun _ h=>by cases h) readerOnes_row_tie rfl ⟨rfl,rfl⟩ kR rfl
  (fun f fn hf hfn=>by
   obtain rfl:f=3:=Option.some.inj ((show Tryz.prog.funcNamed Rows.readerOnesRow.func=some 3 by kernel_rfl).symm.trans hf) |>.symm
   obtain rfl:fn=Tryz.f3:=(Option.some.inj (Tryz.func3.symm.trans hfn)).symm
   exact ⟨kR,fun j t ht=>by
    rw [Tryz.params3] at ht
    have hm:t ∈ [22]:=by simpa using Array.mem_of_getElem? ht
    have hall:([22].all fun u=>!Tryz.prog.wantsStandIn u)=true:=kR
    exact (show Tryz.prog.wantsStandIn t=false by simpa using List.all_eq_true.1 hall t hm)⟩)
  e3e
#print axioms readerOnes_card
end Go.Proofs.YtffaodopiifbkaaGreatDoor
