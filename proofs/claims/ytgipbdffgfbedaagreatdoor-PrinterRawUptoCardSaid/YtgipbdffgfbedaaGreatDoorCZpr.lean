/- For every object of bulk at most 1048576, 'lispproverlaw6.PrinterRaw' returns true and its argument reads as it did. No conditions but the row's own (the listed package-level variables lie as the program's text lays them; the card ties them). -/
import Derived.Test.YtgipbdffgfbedaaGreatDoorCZFpr
import Derived.Test.YtgipbdffgfbedaaGreatDoorCZGpr
import Derived.Test.YtgipbdffgfbedaaGreatDoorCJ25
set_option linter.all false
namespace Go.Proofs.YtgipbdffgfbedaaGreatDoor
open Go.Abs Go.ChangeShapes Go.WideShapes Go.ChangeAt Go.WideMaps Go.WideElems Go.RowKit
abbrev b0f:OpenSpec:=Rows.OpenSpec.upto Rows.printerRawSpec
set_option maxRecDepth 100000 in
theorem c81 (os:Os) {H:Type} (enc:TypeId × Value→H):∃ (w:World) (tape:Tape) (i:Input),w.os=os∧(w.forCall tape i).Shaped Tryz.prog∧i.vars=[]∧Input.okWide Tryz.prog (w.forCall tape i) .any w.heap.size 3 i ∧
   b0f.preRow enc Tryz.prog Tryz.f3 [] false Rows.printerRawUptoRow.laid (w.forCall tape i).memory i.args∧({}:Assume).holds Tryz.prog (lone (Frame.enter Tryz.prog 3 i.args .normal) [] (w.forCall tape i)):=by
 obtain ⟨w,tape,i,h1,h2,h3,h4,⟨⟨h5,h6,hu⟩,h7⟩,h8⟩:=ChangeSpec.witness_shaped (enc:=enc) (C:=Tryz.checked) (os:=os) (f:=3) (fn:=Tryz.f3) (s:=Rows.printerRawSpec) (conds:=[]) (apart:=false)
  (X:=fun w args=>laidMetH Tryz.prog Rows.printerRawUptoRow.laid w∧∃ ds before,DataW.Whole enc Tryz.prog Tryz.f3.params.toList [] false w args.toList ds [] before∧Rows.uptoSmall H (ds ++ [])=true) false (World.laidAll Tryz.prog os Rows.printerRawUptoRow.laid) #[.agg #[.int .i64 0,.string ⟨#[]⟩,.string ⟨#[]⟩,.string ⟨#[]⟩,.string ⟨#[]⟩,.string ⟨#[]⟩,.slice none 0 0]] 8 (World.laidAll_os _ _ _) (World.shaped_of_ZipB kR kR) kR kR kR
   ⟨by rw [Go.MakeChecks.laidMetH_plain _ _ _ kR];exact laidMet_laidAll _ kR kR,
    [.agg [.lit (.int .i64 0),.lit (.string []),.lit (.string []),.agg [.lit (.string []),.lit (.string [])],.lit (.string []),.nil]],[],DataW.Whole_of_whole (x:=([.agg [.lit (.int .i64 0),.lit (.string []),.lit (.string []),.agg [.lit (.string []),.lit (.string [])],.lit (.string []),.nil]],[],[])) (fuel:=8) kR,kR⟩
 obtain ⟨ds,before,hw,hk⟩:=hu
 exact ⟨w,tape,i,h1,h2,h3,h4,⟨⟨(OpenSpec.pre_some (s:=b0f) rfl [] false _ _).2 ⟨ds,[],before,hw,rfl,hk⟩,h6⟩,h7⟩,h8⟩
set_option maxRecDepth 100000 in
theorem d12 (os:Os) (started:os.Started) (H:Type) (enc:TypeId × Value→H) (F:Stop.Interp) :
  ReturnsInHanded {} Tryz.checked os 3 .any (b0f.preRow enc Tryz.prog Tryz.f3 [] false Rows.printerRawUptoRow.laid) ((b0f.at F).post enc Tryz.prog Tryz.f3 false true false false):=by
 refine returnsInHanded_of_row (C:=Tryz.checked) (s:=b0f) own started kR Tryz.func3 (c81 os enc) ?_
 intro W base args ds gs before hval0 hW _ hk hw hL hsh _
 have hval:∀ (j:Nat) t v,Tryz.f3.params[j]?=some t→args[j]?=some v→Value.okWide Tryz.prog W .any base t v:=hval0
 have hk:=hk _ rfl
 have hW':=hW
 obtain ⟨p,q,hA0,hV,rfl,hfz,hnd⟩:=hW
 have hA:DataW.TrodAll enc Tryz.prog W 0 (fun _=>true) true Tryz.f3.params.toList args.toList ds p:=hA0
 have hlt:=hA.lt
 rw [show Tryz.f3.params.toList=[26] by rw [Tryz.params3]] at hw
 rw [Tryz.params3] at hA hval
 obtain ⟨v0,d0,rfl,rfl,h0⟩:=trodAll_one hA
 simp only [List.cons_append,List.nil_append,DataW.weightsEach,List.all_append,Bool.and_eq_true] at hw
 obtain ⟨hw0,_⟩:=hw
 obtain ⟨rfl,rfl⟩:=trodVars_none hV
 clear hA0 hval0
 have hu:Rows.uptoBulk d0≤1048576:=by
  have h1:Rows.uptoBulkAll ([d0] ++ [])≤1048576:=of_decide_eq_true hk
  have h2:Rows.uptoBulkAll ([d0] ++ [])=Rows.uptoBulk d0+0:=rfl
  omega
 obtain ⟨o,ho,a0,b0⟩:=e1w (hval 0 _ v0 rfl rfl) h0 hw0 hu
 refine (c7r c4j ⟨o,ho⟩ rfl rfl rfl (.k a0 .nil) (d9z hsh hL kR) (.k b0 .nil)).mono fun e W' ⟨he,hs⟩=>?_
 subst he
 exact ⟨_,rfl,_,_,_,[],_,[],hW',trodAll_mk1 (shut_bool Tryz.underlying4 _),trodAll_mk1 (c93 e0s e06 c14 h0 hs (fun x hx=>hlt x (by simp [hx]))),rfl,b9q hs _,fun h=>by cases h⟩

theorem a9i:Rows.PrinterRawUptoSaid :=
 OpenClaim.holds_of_cond 3 Tryz.f3 rfl rfl rfl rfl rfl rfl rfl ⟨rfl,rfl,rfl,rfl,rfl⟩ rfl rfl rfl rfl rfl kR Tryz.func3 d11
  (of_decide_eq_true kR) (by unfold Func.isWrapper;first | (rw [if_pos (by decide +kernel)];kernel_rfl) | (rw [if_neg (by decide +kernel)];exact ⟨rfl,rfl⟩))
  (fun os started H enc _ F0=>by rw [OpenClaim.pre_eq_preRow];exact d12 os started H enc F0)

theorem printerRawUpto_card:Rows.PrinterRawUptoCardSaid :=
 Claim7.holds_tied_plain_at .later [] [.data, .data, .data, .data, .sentinel, .sentinel, .pinned] true (true, "79fe8721e7c31b239c93d0165d37668f6abe71e24d70356f26f8196dd044077d") true
  a9i (fun _ h=>by cases h) kR (fun _ h=>by cases h) printerRawUpto_row_tie rfl ⟨rfl,rfl⟩ kR rfl
  (fun f fn hf hfn=>by
   obtain rfl:f=3:=Option.some.inj ((show Tryz.prog.funcNamed Rows.printerRawUptoRow.func=some 3 by kernel_rfl).symm.trans hf) |>.symm
   obtain rfl:fn=Tryz.f3:=(Option.some.inj (Tryz.func3.symm.trans hfn)).symm
   exact ⟨kR,fun j t ht=>by
    rw [Tryz.params3] at ht
    have hm:t ∈ [26]:=by simpa using Array.mem_of_getElem? ht
    have hall:([26].all fun u=>!Tryz.prog.wantsStandIn u)=true:=kR
    exact (show Tryz.prog.wantsStandIn t=false by simpa using List.all_eq_true.1 hall t hm)⟩)
  d9y
#print axioms printerRawUpto_card
end Go.Proofs.YtgipbdffgfbedaaGreatDoor
