/- For every argument, 'lispproverlaw5.ReaderDeep' returns true and its arguments read as they did. No conditions but the row's own (the listed package-level variables lie as the program's text lays them; the card ties them). -/
import Derived.Test.YtffaodopiifbkaaGreatDoorCZFrd
import Derived.Test.YtffaodopiifbkaaGreatDoorCZGrd
import Derived.Test.YtffaodopiifbkaaGreatDoorCJ4
set_option linter.all false
namespace Go.Proofs.YtffaodopiifbkaaGreatDoor
open Go.Abs Go.ChangeShapes Go.WideShapes Go.ChangeAt Go.WideMaps Go.WideElems Go.RowKit
set_option maxRecDepth 100000 in
theorem b2q (os:Os) (started:os.Started) (H:Type) (enc:TypeId × Value→H) :
  ReturnsInHanded {} Tryz.checked os 7 .any (fun w args=>(Rows.readerDeepSpec.pre enc Tryz.prog Tryz.f7 [] false w args∧laidMetH Tryz.prog Rows.readerDeepRow.laid w)∧sizedMet enc Tryz.prog Tryz.f7 (OpenSpec.ofChange Rows.readerDeepSpec) false w args)
   (Rows.readerDeepSpec.post enc Tryz.prog Tryz.f7 false true false false):=by
 refine a0l (C:=Tryz.checked) (X:=fun w _=>laidMetH Tryz.prog Rows.readerDeepRow.laid w) (fun _ _ _ hh h=>h.of_heap hh) own started kR Tryz.func7
  (ChangeSpec.witness_shaped (enc:=enc) (C:=Tryz.checked) (os:=os) (X:=fun w _=>laidMetH Tryz.prog Rows.readerDeepRow.laid w) false (World.laidAll Tryz.prog os Rows.readerDeepRow.laid) #[.int .i64 0,.bool false] 8 (World.laidAll_os _ _ _) (World.shaped_of_ZipB kR kR) kR kR kR
   (by rw [Go.MakeChecks.laidMetH_plain _ _ _ kR];exact laidMet_laidAll _ kR kR)) ?_
 intro W base args ds gs before hval0 hW hw hL hsh
 have hval:∀ (j:Nat) t v,Tryz.f7.params[j]?=some t→args[j]?=some v→Value.okWide Tryz.prog W .any base t v:=hval0
 have hW':=hW
 obtain ⟨p,q,hA0,hV,rfl,hfz,hnd⟩:=hW
 have hA:DataW.TrodAll enc Tryz.prog W 0 (fun _=>true) true Tryz.f7.params.toList args.toList ds p:=hA0
 have hlt:=hA.lt
 rw [show Tryz.f7.params.toList=[3,4] by rw [Tryz.params7]] at hw
 rw [Tryz.params7] at hA hval
 obtain ⟨v0,v1,d0,d1,p0,p1,rfl,rfl,rfl,h0,h1⟩:=trodAll_two hA
 simp only [List.cons_append,List.nil_append,DataW.weightsEach,List.all_append,Bool.and_eq_true] at hw
 obtain ⟨hw0,hw1,_⟩:=hw
 obtain ⟨rfl,rfl⟩:=trodVars_none hV
 clear hA0 hval0
 obtain ⟨r0,rfl,rfl,rfl,hn0⟩:=open_int Tryz.underlying3 (hval 0 3 v0 rfl rfl) h0
 obtain ⟨r1,rfl,rfl,rfl⟩:=Go.RowKit.open_bool Tryz.underlying4 (hval 1 4 v1 rfl rfl) h1
 refine (a4b c6g ⟨(r0,r1),trivial⟩ rfl rfl rfl (.k (.i _ _) (.k (.b _) .nil)) (b17 hsh hL kR) (.k (.int _ _) (.k (.bool _) .nil))).mono fun e W' ⟨he,hs⟩=>?_
 subst he
 exact ⟨_,rfl,_,_,_,[],_,[],hW',trodAll_mk1 (shut_bool Tryz.underlying4 _),trodAll_mk2 (shut_int Tryz.underlying3 hn0) (shut_bool Tryz.underlying4 _),rfl,a0m hs _,fun h=>by cases h⟩

theorem b5g:Rows.ReaderDeepSaid :=
 OpenClaim.holds_of_wide 7 Tryz.f7 rfl rfl rfl rfl rfl rfl rfl ⟨rfl,rfl,rfl,rfl,rfl⟩ rfl rfl rfl rfl rfl kR Tryz.func7 d3v
  (of_decide_eq_true kR) (by unfold Func.isWrapper;first | (rw [if_pos (by decide +kernel)];kernel_rfl) | (rw [if_neg (by decide +kernel)];exact ⟨rfl,rfl⟩))
  (fun os started H enc _=>b2q os started H enc)

theorem readerDeep_card:Rows.ReaderDeepCardSaid :=
 Claim7.holds_tied_plain_at .later [] [.data, .data, .data, .data, .sentinel, .sentinel, .pinned] true (true, "e4d6be23df470f3136165a029df302f723ced8eef17464b25267ff55f95d981b") true
  b5g (fun _ h=>by cases h) kR (fun _ h=>by cases h) readerDeep_row_tie rfl ⟨rfl,rfl⟩ kR rfl
  (fun f fn hf hfn=>by
   obtain rfl:f=7:=Option.some.inj ((show Tryz.prog.funcNamed Rows.readerDeepRow.func=some 7 by kernel_rfl).symm.trans hf) |>.symm
   obtain rfl:fn=Tryz.f7:=(Option.some.inj (Tryz.func7.symm.trans hfn)).symm
   exact ⟨kR,fun j t ht=>by
    rw [Tryz.params7] at ht
    have hm:t ∈ [3,4]:=by simpa using Array.mem_of_getElem? ht
    have hall:([3,4].all fun u=>!Tryz.prog.wantsStandIn u)=true:=kR
    exact (show Tryz.prog.wantsStandIn t=false by simpa using List.all_eq_true.1 hall t hm)⟩)
  e2k
#print axioms readerDeep_card
end Go.Proofs.YtffaodopiifbkaaGreatDoor
