/- The table of the functions, run. -/
import Derived.Test.YtonniadanikanaaGreatDoorCL0
import Derived.Test.YtonniadanikanaaGreatDoorCL1
import Derived.Test.YtonniadanikanaaGreatDoorCB
set_option linter.all false
namespace Go.Proofs.YtonniadanikanaaGreatDoor
open Go.Abs
def TOK (T : FTab) : Prop := ∀ g F, (g, F) ∈ T → ∀ fn, (∀ g, FnOk X0 g (fn g)) → FnOk X0 g (F fn)
theorem tN : TOK [] := fun _ _ h => absurd h (by simp)
theorem tC {g : FuncId} {F : FF → FunT} {T : FTab} (h : ∀ {fn : FF}, HH fn → FnOk X0 g (F fn)) (k : TOK T) : TOK ((g, F) :: T) := fun g' F' m => by
  rcases List.mem_cons.1 m with e | m
  · injection e with e1 e2
    subst e1 e2
    exact fun _ => h
  · exact k g' F' m
noncomputable def ftL : FTab := [(7, r7 CU), (23, r23 CU), (24, r24 CU), (25, r25 CU), (26, r26 CU), (27, r27 CU), (28, r28 CU), (43, r43 CU), (44, r44 CU), (45, r45 CU), (46, r46 CU), (47, r47 CU), (48, r48 CU), (51, r51 CU), (64, r64 CU), (65, r65 CU), (66, r66 CU), (67, r67 CU), (68, r68 CU), (69, fun fn => altF (r69 CU fn) (altF (r69_1 CU fn) (altF (r69_2 CU fn) (altF (r69_3 CU fn) (r69_4 CU fn))))), (70, r70 CU), (71, r71 CU), (78, r78 CU), (86, r86 CU), (87, r87 CU), (88, r88 CU), (89, r89 CU), (90, r90 CU), (91, r91 CU), (92, r92 CU), (93, r93 CU), (99, r99 CU), (112, r112 CU), (113, r113 CU), (115, r115 CU), (116, r116 CU), (117, r117 CU), (118, r118 CU), (119, r119 CU), (122, r122 CU), (123, r123 CU), (124, r124 CU), (125, r125 CU), (126, r126 CU), (127, r127 CU), (128, r128 CU), (129, r129 CU), (132, r132 CU), (142, r142 CU), (143, r143 CU), (145, r145 CU), (146, r146 CU), (147, r147 CU), (148, r148 CU), (149, r149 CU), (156, r156 CU), (157, r157 CU), (158, r158 CU), (160, r160 CU), (161, r161 CU), (162, r162 CU), (163, r163 CU), (164, r164 CU), (165, r165 CU), (166, r166 CU), (167, r167 CU), (182, r182 CU), (183, r183 CU), (185, r185 CU), (186, r186 CU), (187, r187 CU), (188, r188 CU), (189, r189 CU), (190, r190 CU), (191, r191 CU), (192, r192 CU), (194, r194 CU), (195, r195 CU), (196, r196 CU), (197, r197 CU), (198, r198 CU), (199, r199 CU), (200, r200 CU), (201, r201 CU), (204, r204 CU), (205, r205 CU), (206, r206 CU), (207, r207 CU), (216, r216 CU), (221, r221 CU), (223, r223 CU), (224, r224 CU), (225, r225 CU), (229, r229 CU), (230, r230 CU), (231, r231 CU), (233, r233 CU), (234, r234 CU), (235, r235 CU), (236, r236 CU), (237, r237 CU), (240, r240 CU), (242, r242 CU), (243, r243 CU), (244, r244 CU), (253, r253 CU), (259, r259 CU), (260, r260 CU), (263, r263 CU), (264, r264 CU), (269, r269 CU), (271, r271 CU), (272, r272 CU)]
theorem ftL_ok : TOK ftL := tC (@r7_ok) <| tC (@r23_ok) <| tC (@r24_ok) <| tC (@r25_ok) <| tC (@r26_ok) <| tC (@r27_ok) <| tC (@r28_ok) <| tC (@r43_ok) <| tC (@r44_ok) <| tC (@r45_ok) <| tC (@r46_ok) <| tC (@r47_ok) <| tC (@r48_ok) <| tC (@r51_ok) <| tC (@r64_ok) <| tC (@r65_ok) <| tC (@r66_ok) <| tC (@r67_ok) <| tC (@r68_ok) <| tC (fun h => altF_ok (r69_ok h) (altF_ok (r69_1_ok h) (altF_ok (r69_2_ok h) (altF_ok (r69_3_ok h) (r69_4_ok h))))) <| tC (@r70_ok) <| tC (@r71_ok) <| tC (@r78_ok) <| tC (@r86_ok) <| tC (@r87_ok) <| tC (@r88_ok) <| tC (@r89_ok) <| tC (@r90_ok) <| tC (@r91_ok) <| tC (@r92_ok) <| tC (@r93_ok) <| tC (@r99_ok) <| tC (@r112_ok) <| tC (@r113_ok) <| tC (@r115_ok) <| tC (@r116_ok) <| tC (@r117_ok) <| tC (@r118_ok) <| tC (@r119_ok) <| tC (@r122_ok) <| tC (@r123_ok) <| tC (@r124_ok) <| tC (@r125_ok) <| tC (@r126_ok) <| tC (@r127_ok) <| tC (@r128_ok) <| tC (@r129_ok) <| tC (@r132_ok) <| tC (@r142_ok) <| tC (@r143_ok) <| tC (@r145_ok) <| tC (@r146_ok) <| tC (@r147_ok) <| tC (@r148_ok) <| tC (@r149_ok) <| tC (@r156_ok) <| tC (@r157_ok) <| tC (@r158_ok) <| tC (@r160_ok) <| tC (@r161_ok) <| tC (@r162_ok) <| tC (@r163_ok) <| tC (@r164_ok) <| tC (@r165_ok) <| tC (@r166_ok) <| tC (@r167_ok) <| tC (@r182_ok) <| tC (@r183_ok) <| tC (@r185_ok) <| tC (@r186_ok) <| tC (@r187_ok) <| tC (@r188_ok) <| tC (@r189_ok) <| tC (@r190_ok) <| tC (@r191_ok) <| tC (@r192_ok) <| tC (@r194_ok) <| tC (@r195_ok) <| tC (@r196_ok) <| tC (@r197_ok) <| tC (@r198_ok) <| tC (@r199_ok) <| tC (@r200_ok) <| tC (@r201_ok) <| tC (@r204_ok) <| tC (@r205_ok) <| tC (@r206_ok) <| tC (@r207_ok) <| tC (@r216_ok) <| tC (@r221_ok) <| tC (@r223_ok) <| tC (@r224_ok) <| tC (@r225_ok) <| tC (@r229_ok) <| tC (@r230_ok) <| tC (@r231_ok) <| tC (@r233_ok) <| tC (@r234_ok) <| tC (@r235_ok) <| tC (@r236_ok) <| tC (@r237_ok) <| tC (@r240_ok) <| tC (@r242_ok) <| tC (@r243_ok) <| tC (@r244_ok) <| tC (@r253_ok) <| tC (@r259_ok) <| tC (@r260_ok) <| tC (@r263_ok) <| tC (@r264_ok) <| tC (@r269_ok) <| tC (@r271_ok) <| tC (@r272_ok) <| tN
end Go.Proofs.YtonniadanikanaaGreatDoor
namespace Go.Proofs.YtonniadanikanaaGreatDoor
open Go.Abs
noncomputable def ftB : FTab := [(214, fun _ => libContains), (290, fun _ => libIndex), (222, fun _ => libTrim), (252, fun _ => libTrimLeft), (49, fun _ => altF libFields libFields2)]
theorem ftB_ok : ∀ g F, (g, F) ∈ ftB → ∀ fn, (∀ g, FnOk X0 g (fn g)) → FnOk X0 g (F fn) := by
 intro g F hm fn h
 simp only [ftB, List.mem_cons, List.mem_nil_iff, or_false, Prod.mk.injEq] at hm
 rcases hm with ⟨rfl, rfl⟩ | ⟨rfl, rfl⟩ | ⟨rfl, rfl⟩ | ⟨rfl, rfl⟩ | ⟨rfl, rfl⟩
 ·exact libContains_ok
 ·exact libIndex_ok
 ·exact libTrim_ok
 ·exact libTrimLeft_ok
 ·exact altF_ok libFields_ok libFields2_ok
noncomputable def ftU : FTab := ftB ++ ftL
theorem ftU_ok : ∀ g F, (g, F) ∈ ftU → ∀ fn, (∀ g, FnOk X0 g (fn g)) → FnOk X0 g (F fn) := by
 intro g F hm
 rcases List.mem_append.1 hm with hm | hm
 ·exact ftB_ok g F hm
 ·exact ftL_ok g F hm
end Go.Proofs.YtonniadanikanaaGreatDoor
namespace Go.Proofs.YtonniadanikanaaGreatDoor
open Go.Abs
/-- What a function gives, run. -/
noncomputable def RL (g : FuncId) : FunT := appW (runW ftU 300 g)
theorem RL_ok (g : FuncId) : FnOk X0 g (RL g) := runW_ok ftU_ok 300 g
/-- One result, known. -/
def litF (r : R) : FunT := fun vs bs => match vs with
 | [] => match bs with
  | [] => some r
  | _ => none
 | _ => none
theorem litF_ok {g : FuncId} {F : FunT} (hF : FnOk X0 g F) {r : R} (h : F [] [] = some r) : FnOk X0 g (litF r) := fun vs bs x bs' e hok => by
 unfold litF at e
 split at e
 ·split at e
  ·injection e with e
   exact hF [] [] x bs' (h.trans (congrArg some e)) hok
  ·cases e
 ·cases e
/-- A table with a result that is known. -/
theorem litF_tab {T : FTab} (hT : ∀ g F, (g, F) ∈ T → ∀ fn, (∀ g, FnOk X0 g (fn g)) → FnOk X0 g (F fn)) {g0 : FuncId} {F0 : FunT} (hF : FnOk X0 g0 F0) {r : R} (h : F0 [] [] = some r) :
  ∀ g F, (g, F) ∈ ((g0, fun _ => litF r) :: T : FTab) → ∀ fn, (∀ g, FnOk X0 g (fn g)) → FnOk X0 g (F fn) := fun g F hm => by
 rcases List.mem_cons.1 hm with e | hm
 ·injection e with e1 e2; subst e1 e2; exact fun _ _ => litF_ok hF h
 ·exact hT g F hm
end Go.Proofs.YtonniadanikanaaGreatDoor
