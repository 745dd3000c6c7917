/- For every argument, 'lispproverlaw13.PreludeLists' returns true and its arguments read as they did. No conditions but the row's own (the listed package-level variables lie as the program's text lays them; the card ties them). -/
import Derived.Test.YtccafnaghnbpeaaGreatDoorCZFl
import Derived.Test.YtccafnaghnbpeaaGreatDoorCZGl
import Derived.Test.YtccafnaghnbpeaaGreatDoorCYC
set_option linter.all false
namespace Go.Proofs.YtccafnaghnbpeaaGreatDoor
open Go.Abs Go.ChangeShapes Go.WideShapes Go.ChangeAt Go.WideMaps Go.WideElems Go.RowKit
set_option maxRecDepth 100000 in
theorem preludeLists_lifted (os : Os) (started : os.Started) (H : Type) (enc : TypeId × Value → H) :
  ReturnsInHanded {} Tryz.checked os 3 .any (fun w args => (Rows.preludeListsSpec.pre enc Tryz.prog Tryz.f3 [] false w args ∧ laidMetH Tryz.prog laidS w) ∧ sizedMet enc Tryz.prog Tryz.f3 (OpenSpec.ofChange Rows.preludeListsSpec) false w args)
   (Rows.preludeListsSpec.post enc Tryz.prog Tryz.f3 false true false false) := by
 refine returnsInHanded_of_change_and (C := Tryz.checked) (X := fun w _ => laidMetH Tryz.prog laidS w) (fun _ _ _ hh h => h.of_heap hh) own started (by kernel_rfl) Tryz.func3
  (ChangeSpec.witness_shaped (enc := enc) (C := Tryz.checked) (os := os) (X := fun w _ => laidMetH Tryz.prog laidS w) false (World.laidAll Tryz.prog os laidS) #[.slice none 0 0, .slice none 0 0, .int .i64 0, .agg #[.int .i64 0, .int .i64 0, .string ⟨#[]⟩, .slice none 0 0]] 8 (World.laidAll_os _ _ _) (World.shaped_of_ZipB (by kernel_rfl) (by kernel_rfl)) (by kernel_rfl) (by kernel_rfl) (by kernel_rfl)
   (by rw [Go.MakeChecks.laidMetH_plain _ _ _ (by kernel_rfl)]; exact laidMet_laidAll _ (by kernel_rfl) (by kernel_rfl))) ?_
 intro W base args ds gs before hval0 hW _ hw hL _
 have hval : ∀ (j : Nat) t v, Tryz.f3.params[j]? = some t → args[j]? = some v → Value.okWide Tryz.prog W .any base t v := hval0
 have hW' := hW
 obtain ⟨p, q, hA0, hV, rfl, hfz, hnd⟩ := hW
 have hA : DataW.TrodAll enc Tryz.prog W 0 (fun _ => true) true Tryz.f3.params.toList args.toList ds p := hA0
 have hlt := hA.lt
 rw [show Tryz.f3.params.toList = [22, 22, 3, 24] by rw [Tryz.params3]] at hw
 rw [Tryz.params3] at hA hval
 obtain ⟨v0, v1, v2, v3, d0, d1, d2, d3, p0, p1, p2, p3, rfl, rfl, rfl, h0, h1, h2, h3⟩ := trodAll_four hA
 simp only [List.cons_append, List.nil_append, DataW.weightsEach, List.all_append, Bool.and_eq_true] at hw
 obtain ⟨hw0, hw1, hw2, hw3, _⟩ := hw
 obtain ⟨rfl, rfl⟩ := trodVars_none hV
 clear hA0 hval0
 obtain ⟨r0, a0, b0⟩ := arg_sl (hval 0 _ v0 rfl rfl) h0 hw0
 obtain ⟨r1, a1, b1⟩ := arg_sl (hval 1 _ v1 rfl rfl) h1 hw1
 obtain ⟨r2, rfl, rfl, rfl, hn2⟩ := open_int Tryz.underlying3 (hval 2 3 v2 rfl rfl) h2
 obtain ⟨r3, _, a3, b3⟩ := arg_raw (hval 3 _ v3 rfl rfl) h3 hw3
 refine (calls_know lists_known (r0, r1, r2, r3) rfl rfl rfl (.cons _ _ _ _ a0 (.cons _ _ _ _ a1 (.cons _ _ _ _ (.i _ _) (.cons _ _ _ _ a3 .nil)))) (pred_of hL) (.cons _ _ _ _ b0 (.cons _ _ _ _ b1 (.cons _ _ _ _ (.int _ _) (.cons _ _ _ _ b3 .nil))))).mono fun e W' ⟨he, hs⟩ => ?_
 subst he
 exact ⟨_, rfl, _, _, _, [], _, [], hW', trodAll_mk1 (shut_bool Tryz.underlying4 _), trodAll_mk4 (below_arg read_sl size_sl laidOutP h0 hs (fun x hx => hlt x (by simp [hx]))) (below_arg read_sl size_sl laidOutP h1 hs (fun x hx => hlt x (by simp [hx]))) (shut_int Tryz.underlying3 hn2) (below_arg read_raw size_raw laidOutP h3 hs (fun x hx => hlt x (by simp [hx]))), rfl, stays_keptBut hs _, fun h => by cases h⟩

theorem preludeLists_said : Rows.PreludeListsSaid :=
 OpenClaim.holds_of_wide 3 Tryz.f3 rfl rfl rfl rfl rfl rfl rfl ⟨rfl, rfl, rfl, rfl, rfl⟩ rfl rfl rfl rfl rfl (by kernel_rfl) Tryz.func3 l_joined
  (of_decide_eq_true (by kernel_rfl)) (by unfold Func.isWrapper; first | (rw [if_pos (by decide +kernel)]; kernel_rfl) | (rw [if_neg (by decide +kernel)]; exact ⟨rfl, rfl⟩))
  (fun os started H enc _ => preludeLists_lifted os started H enc)

theorem preludeLists_card : Rows.PreludeListsCardSaid :=
 Claim7.holds_tied_plain_at .later [] [.data, .data, .data, .data, .sentinel, .sentinel, .listed, .data, .pinned] true (true, "6451def97e8871a116070e9c811117882ccb20586dcfe7ac2697eff05e3b51e0") true
  preludeLists_said (fun _ h => by cases h) (by kernel_rfl) (fun _ h => by cases h) preludeLists_row_tie rfl ⟨rfl, rfl⟩ (by kernel_rfl) rfl
  (fun f fn hf hfn => by
   obtain rfl : f = 3 := Option.some.inj ((show Tryz.prog.funcNamed Rows.preludeListsRow.func = some 3 by kernel_rfl).symm.trans hf) |>.symm
   obtain rfl : fn = Tryz.f3 := (Option.some.inj (Tryz.func3.symm.trans hfn)).symm
   exact ⟨by kernel_rfl, fun j t ht => by
    rw [Tryz.params3] at ht
    have hm : t ∈ [22, 22, 3, 24] := by simpa using Array.mem_of_getElem? ht
    have hall : ([22, 22, 3, 24].all fun u => !Tryz.prog.wantsStandIn u) = true := by kernel_rfl
    exact (show Tryz.prog.wantsStandIn t = false by simpa using List.all_eq_true.1 hall t hm)⟩)
  l_goes
#print axioms preludeLists_card
end Go.Proofs.YtccafnaghnbpeaaGreatDoor
