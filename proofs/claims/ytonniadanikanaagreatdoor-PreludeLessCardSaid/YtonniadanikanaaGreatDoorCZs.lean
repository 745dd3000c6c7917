/- For every argument, 'lispproverlaw13.PreludeLess' returns true and its arguments read as they did. No conditions but the row's own (the listed package-level variables lie as the program's text lays them; the card ties them). -/
import Derived.Test.YtonniadanikanaaGreatDoorCZFs
import Derived.Test.YtonniadanikanaaGreatDoorCZGs
import Derived.Test.YtonniadanikanaaGreatDoorCYC
set_option linter.all false
namespace Go.Proofs.YtonniadanikanaaGreatDoor
open Go.Abs Go.ChangeShapes Go.WideShapes Go.ChangeAt Go.WideMaps Go.WideElems Go.RowKit
set_option maxRecDepth 100000 in
theorem preludeLess_lifted (os : Os) (started : os.Started) (H : Type) (enc : TypeId × Value → H) :
  ReturnsInHanded {} Tryz.checked os 4 .any (fun w args => (Rows.preludeLessSpec.pre enc Tryz.prog Tryz.f4 [] false w args ∧ laidMetH Tryz.prog laidS w) ∧ sizedMet enc Tryz.prog Tryz.f4 (OpenSpec.ofChange Rows.preludeLessSpec) false w args)
   (Rows.preludeLessSpec.post enc Tryz.prog Tryz.f4 false true false false) := by
 refine returnsInHanded_of_change_and (C := Tryz.checked) (X := fun w _ => laidMetH Tryz.prog laidS w) (fun _ _ _ hh h => h.of_heap hh) own started (by kernel_rfl) Tryz.func4
  (ChangeSpec.witness_shaped (enc := enc) (C := Tryz.checked) (os := os) (X := fun w _ => laidMetH Tryz.prog laidS w) false (World.laidAll Tryz.prog os laidS) #[.agg #[.int .i64 0, .int .i64 0, .string ⟨#[]⟩, .slice none 0 0], .agg #[.int .i64 0, .int .i64 0, .string ⟨#[]⟩, .slice none 0 0]] 8 (World.laidAll_os _ _ _) (World.shaped_of_ZipB (by kernel_rfl) (by kernel_rfl)) (by kernel_rfl) (by kernel_rfl) (by kernel_rfl)
   (by rw [Go.MakeChecks.laidMetH_plain _ _ _ (by kernel_rfl)]; exact laidMet_laidAll _ (by kernel_rfl) (by kernel_rfl))) ?_
 intro W base args ds gs before hval0 hW _ hw hL _
 have hval : ∀ (j : Nat) t v, Tryz.f4.params[j]? = some t → args[j]? = some v → Value.okWide Tryz.prog W .any base t v := hval0
 have hW' := hW
 obtain ⟨p, q, hA0, hV, rfl, hfz, hnd⟩ := hW
 have hA : DataW.TrodAll enc Tryz.prog W 0 (fun _ => true) true Tryz.f4.params.toList args.toList ds p := hA0
 have hlt := hA.lt
 rw [show Tryz.f4.params.toList = [24, 24] by rw [Tryz.params4]] at hw
 rw [Tryz.params4] at hA hval
 obtain ⟨v0, v1, d0, d1, p0, p1, rfl, rfl, rfl, h0, h1⟩ := trodAll_two hA
 simp only [List.cons_append, List.nil_append, DataW.weightsEach, List.all_append, Bool.and_eq_true] at hw
 obtain ⟨hw0, hw1, _⟩ := hw
 obtain ⟨rfl, rfl⟩ := trodVars_none hV
 clear hA0 hval0
 obtain ⟨r0, _, a0, b0⟩ := arg_raw (hval 0 _ v0 rfl rfl) h0 hw0
 obtain ⟨r1, _, a1, b1⟩ := arg_raw (hval 1 _ v1 rfl rfl) h1 hw1
 refine (calls_know less_known (r0, r1) rfl rfl rfl (.cons _ _ _ _ a0 (.cons _ _ _ _ a1 .nil)) (pred_of hL) (.cons _ _ _ _ b0 (.cons _ _ _ _ b1 .nil))).mono fun e W' ⟨he, hs⟩ => ?_
 subst he
 exact ⟨_, rfl, _, _, _, [], _, [], hW', trodAll_mk1 (shut_bool Tryz.underlying4 _), trodAll_mk2 (below_arg read_raw size_raw laidOutP h0 hs (fun x hx => hlt x (by simp [hx]))) (below_arg read_raw size_raw laidOutP h1 hs (fun x hx => hlt x (by simp [hx]))), rfl, stays_keptBut hs _, fun h => by cases h⟩

theorem preludeLess_said : Rows.PreludeLessSaid :=
 OpenClaim.holds_of_wide 4 Tryz.f4 rfl rfl rfl rfl rfl rfl rfl ⟨rfl, rfl, rfl, rfl, rfl⟩ rfl rfl rfl rfl rfl (by kernel_rfl) Tryz.func4 s_joined
  (of_decide_eq_true (by kernel_rfl)) (by unfold Func.isWrapper; first | (rw [if_pos (by decide +kernel)]; kernel_rfl) | (rw [if_neg (by decide +kernel)]; exact ⟨rfl, rfl⟩))
  (fun os started H enc _ => preludeLess_lifted os started H enc)

theorem preludeLess_card : Rows.PreludeLessCardSaid :=
 Claim7.holds_tied_plain_at .later [] [.data, .data, .data, .data, .sentinel, .sentinel, .listed, .data, .pinned] true (true, "62d4fb6bffd92a77fa54d003c13113c90ae548076a0f57559f6b598155dc8668") true
  preludeLess_said (fun _ h => by cases h) (by kernel_rfl) (fun _ h => by cases h) preludeLess_row_tie rfl ⟨rfl, rfl⟩ (by kernel_rfl) rfl
  (fun f fn hf hfn => by
   obtain rfl : f = 4 := Option.some.inj ((show Tryz.prog.funcNamed Rows.preludeLessRow.func = some 4 by kernel_rfl).symm.trans hf) |>.symm
   obtain rfl : fn = Tryz.f4 := (Option.some.inj (Tryz.func4.symm.trans hfn)).symm
   exact ⟨by kernel_rfl, fun j t ht => by
    rw [Tryz.params4] at ht
    have hm : t ∈ [24, 24] := by simpa using Array.mem_of_getElem? ht
    have hall : ([24, 24].all fun u => !Tryz.prog.wantsStandIn u) = true := by kernel_rfl
    exact (show Tryz.prog.wantsStandIn t = false by simpa using List.all_eq_true.1 hall t hm)⟩)
  s_goes
#print axioms preludeLess_card
end Go.Proofs.YtonniadanikanaaGreatDoor
