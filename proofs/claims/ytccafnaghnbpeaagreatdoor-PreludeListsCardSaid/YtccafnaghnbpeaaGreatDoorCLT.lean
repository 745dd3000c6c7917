/- The table of the functions, run. -/
import Derived.Test.YtccafnaghnbpeaaGreatDoorCL0
import Derived.Test.YtccafnaghnbpeaaGreatDoorCL1
import Derived.Test.YtccafnaghnbpeaaGreatDoorCB
set_option linter.all false
namespace Go.Proofs.YtccafnaghnbpeaaGreatDoor
open Go.Abs
def TOK (T : FTab) : Prop := ∀ g F, (g, F) ∈ T → ∀ fn, (∀ g, FnOk X0 g (fn g)) → FnOk X0 g (F fn)
theorem tN : TOK [] := fun _ _ h => absurd h (by simp)
theorem tC {g : FuncId} {F : FF → FunT} {T : FTab} (h : ∀ {fn : FF}, HH fn → FnOk X0 g (F fn)) (k : TOK T) : TOK ((g, F) :: T) := fun g' F' m => by
  rcases List.mem_cons.1 m with e | m
  · injection e with e1 e2
    subst e1 e2
    exact fun _ => h
  · exact k g' F' m
noncomputable def ftL : FTab := [(4, r4 CU), (15, r15 CU), (16, r16 CU), (17, r17 CU), (18, r18 CU), (19, r19 CU), (20, r20 CU), (30, r30 CU), (31, r31 CU), (32, r32 CU), (33, r33 CU), (34, r34 CU), (35, r35 CU), (38, r38 CU), (43, r43 CU), (44, r44 CU), (45, r45 CU), (46, r46 CU), (47, r47 CU), (48, fun fn => altF (r48 CU fn) (altF (r48_1 CU fn) (altF (r48_2 CU fn) (altF (r48_3 CU fn) (r48_4 CU fn))))), (49, r49 CU), (50, r50 CU), (57, r57 CU), (59, r59 CU), (60, r60 CU), (61, r61 CU), (62, r62 CU), (63, r63 CU), (64, r64 CU), (65, r65 CU), (66, r66 CU), (72, r72 CU), (79, r79 CU), (80, r80 CU), (82, r82 CU), (83, r83 CU), (84, r84 CU), (85, r85 CU), (86, r86 CU), (89, r89 CU), (90, r90 CU), (91, r91 CU), (92, r92 CU), (93, r93 CU), (94, r94 CU), (95, r95 CU), (96, r96 CU), (99, r99 CU), (109, r109 CU), (110, r110 CU), (112, r112 CU), (113, r113 CU), (114, r114 CU), (115, r115 CU), (116, r116 CU), (123, r123 CU), (124, r124 CU), (125, r125 CU), (127, r127 CU), (128, r128 CU), (129, r129 CU), (130, r130 CU), (131, r131 CU), (132, r132 CU), (133, r133 CU), (134, r134 CU), (156, r156 CU), (157, r157 CU), (159, r159 CU), (160, r160 CU), (161, r161 CU), (162, r162 CU), (163, r163 CU), (164, r164 CU), (165, r165 CU), (166, r166 CU), (168, r168 CU), (169, r169 CU), (170, r170 CU), (171, r171 CU), (172, r172 CU), (173, r173 CU), (174, r174 CU), (175, r175 CU), (178, r178 CU), (179, r179 CU), (180, r180 CU), (181, r181 CU), (196, r196 CU), (201, r201 CU), (203, r203 CU), (204, r204 CU), (205, r205 CU), (209, r209 CU), (210, r210 CU), (211, r211 CU), (213, r213 CU), (214, r214 CU), (215, r215 CU), (216, r216 CU), (217, r217 CU), (226, r226 CU), (228, r228 CU), (229, r229 CU), (230, r230 CU), (239, r239 CU), (245, r245 CU), (246, r246 CU), (249, r249 CU), (250, r250 CU), (255, r255 CU), (257, r257 CU), (258, r258 CU)]
theorem ftL_ok : TOK ftL := tC (@r4_ok) <| tC (@r15_ok) <| tC (@r16_ok) <| tC (@r17_ok) <| tC (@r18_ok) <| tC (@r19_ok) <| tC (@r20_ok) <| tC (@r30_ok) <| tC (@r31_ok) <| tC (@r32_ok) <| tC (@r33_ok) <| tC (@r34_ok) <| tC (@r35_ok) <| tC (@r38_ok) <| tC (@r43_ok) <| tC (@r44_ok) <| tC (@r45_ok) <| tC (@r46_ok) <| tC (@r47_ok) <| tC (fun h => altF_ok (r48_ok h) (altF_ok (r48_1_ok h) (altF_ok (r48_2_ok h) (altF_ok (r48_3_ok h) (r48_4_ok h))))) <| tC (@r49_ok) <| tC (@r50_ok) <| tC (@r57_ok) <| tC (@r59_ok) <| tC (@r60_ok) <| tC (@r61_ok) <| tC (@r62_ok) <| tC (@r63_ok) <| tC (@r64_ok) <| tC (@r65_ok) <| tC (@r66_ok) <| tC (@r72_ok) <| tC (@r79_ok) <| tC (@r80_ok) <| tC (@r82_ok) <| tC (@r83_ok) <| tC (@r84_ok) <| tC (@r85_ok) <| tC (@r86_ok) <| tC (@r89_ok) <| tC (@r90_ok) <| tC (@r91_ok) <| tC (@r92_ok) <| tC (@r93_ok) <| tC (@r94_ok) <| tC (@r95_ok) <| tC (@r96_ok) <| tC (@r99_ok) <| tC (@r109_ok) <| tC (@r110_ok) <| tC (@r112_ok) <| tC (@r113_ok) <| tC (@r114_ok) <| tC (@r115_ok) <| tC (@r116_ok) <| tC (@r123_ok) <| tC (@r124_ok) <| tC (@r125_ok) <| tC (@r127_ok) <| tC (@r128_ok) <| tC (@r129_ok) <| tC (@r130_ok) <| tC (@r131_ok) <| tC (@r132_ok) <| tC (@r133_ok) <| tC (@r134_ok) <| tC (@r156_ok) <| tC (@r157_ok) <| tC (@r159_ok) <| tC (@r160_ok) <| tC (@r161_ok) <| tC (@r162_ok) <| tC (@r163_ok) <| tC (@r164_ok) <| tC (@r165_ok) <| tC (@r166_ok) <| tC (@r168_ok) <| tC (@r169_ok) <| tC (@r170_ok) <| tC (@r171_ok) <| tC (@r172_ok) <| tC (@r173_ok) <| tC (@r174_ok) <| tC (@r175_ok) <| tC (@r178_ok) <| tC (@r179_ok) <| tC (@r180_ok) <| tC (@r181_ok) <| tC (@r196_ok) <| tC (@r201_ok) <| tC (@r203_ok) <| tC (@r204_ok) <| tC (@r205_ok) <| tC (@r209_ok) <| tC (@r210_ok) <| tC (@r211_ok) <| tC (@r213_ok) <| tC (@r214_ok) <| tC (@r215_ok) <| tC (@r216_ok) <| tC (@r217_ok) <| tC (@r226_ok) <| tC (@r228_ok) <| tC (@r229_ok) <| tC (@r230_ok) <| tC (@r239_ok) <| tC (@r245_ok) <| tC (@r246_ok) <| tC (@r249_ok) <| tC (@r250_ok) <| tC (@r255_ok) <| tC (@r257_ok) <| tC (@r258_ok) <| tN
end Go.Proofs.YtccafnaghnbpeaaGreatDoor
namespace Go.Proofs.YtccafnaghnbpeaaGreatDoor
open Go.Abs
noncomputable def ftB : FTab := [(194, fun _ => libContains), (276, fun _ => libIndex), (202, fun _ => libTrim), (238, fun _ => libTrimLeft), (36, fun _ => altF libFields libFields2)]
theorem ftB_ok : ∀ g F, (g, F) ∈ ftB → ∀ fn, (∀ g, FnOk X0 g (fn g)) → FnOk X0 g (F fn) := by
 intro g F hm fn h
 simp only [ftB, List.mem_cons, List.mem_nil_iff, or_false, Prod.mk.injEq] at hm
 rcases hm with ⟨rfl, rfl⟩ | ⟨rfl, rfl⟩ | ⟨rfl, rfl⟩ | ⟨rfl, rfl⟩ | ⟨rfl, rfl⟩
 ·exact libContains_ok
 ·exact libIndex_ok
 ·exact libTrim_ok
 ·exact libTrimLeft_ok
 ·exact altF_ok libFields_ok libFields2_ok
noncomputable def ftU : FTab := ftB ++ ftL
theorem ftU_ok : ∀ g F, (g, F) ∈ ftU → ∀ fn, (∀ g, FnOk X0 g (fn g)) → FnOk X0 g (F fn) := by
 intro g F hm
 rcases List.mem_append.1 hm with hm | hm
 ·exact ftB_ok g F hm
 ·exact ftL_ok g F hm
end Go.Proofs.YtccafnaghnbpeaaGreatDoor
namespace Go.Proofs.YtccafnaghnbpeaaGreatDoor
open Go.Abs
/-- What a function gives, run. -/
noncomputable def RL (g : FuncId) : FunT := appW (runW ftU 300 g)
theorem RL_ok (g : FuncId) : FnOk X0 g (RL g) := runW_ok ftU_ok 300 g
/-- One result, known. -/
def litF (r : R) : FunT := fun vs bs => match vs with
 | [] => match bs with
  | [] => some r
  | _ => none
 | _ => none
theorem litF_ok {g : FuncId} {F : FunT} (hF : FnOk X0 g F) {r : R} (h : F [] [] = some r) : FnOk X0 g (litF r) := fun vs bs x bs' e hok => by
 unfold litF at e
 split at e
 ·split at e
  ·injection e with e
   exact hF [] [] x bs' (h.trans (congrArg some e)) hok
  ·cases e
 ·cases e
/-- A table with a result that is known. -/
theorem litF_tab {T : FTab} (hT : ∀ g F, (g, F) ∈ T → ∀ fn, (∀ g, FnOk X0 g (fn g)) → FnOk X0 g (F fn)) {g0 : FuncId} {F0 : FunT} (hF : FnOk X0 g0 F0) {r : R} (h : F0 [] [] = some r) :
  ∀ g F, (g, F) ∈ ((g0, fun _ => litF r) :: T : FTab) → ∀ fn, (∀ g, FnOk X0 g (fn g)) → FnOk X0 g (F fn) := fun g F hm => by
 rcases List.mem_cons.1 hm with e | hm
 ·injection e with e1 e2; subst e1 e2; exact fun _ _ => litF_ok hF h
 ·exact hT g F hm
end Go.Proofs.YtccafnaghnbpeaaGreatDoor
