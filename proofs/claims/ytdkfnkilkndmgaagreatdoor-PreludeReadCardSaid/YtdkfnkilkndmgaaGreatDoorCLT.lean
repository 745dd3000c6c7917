/- The table of the functions, run. -/
import Derived.Test.YtdkfnkilkndmgaaGreatDoorCL0
import Derived.Test.YtdkfnkilkndmgaaGreatDoorCL1
import Derived.Test.YtdkfnkilkndmgaaGreatDoorCL2
import Derived.Test.YtdkfnkilkndmgaaGreatDoorCL3
import Derived.Test.YtdkfnkilkndmgaaGreatDoorCL4
import Derived.Test.YtdkfnkilkndmgaaGreatDoorCB
namespace Go.Proofs.YtdkfnkilkndmgaaGreatDoor
open Go.Abs
noncomputable def ftL0 : FTab := [(4, fun fn => r4 CU fn), (5, fun fn => r5 CU fn), (6, fun fn => r6 CU fn), (7, fun fn => r7 CU fn), (8, fun fn => r8 CU fn), (9, fun fn => r9 CU fn), (10, fun fn => r10 CU fn), (11, fun fn => r11 CU fn), (12, fun fn => r12 CU fn), (13, fun fn => r13 CU fn), (14, fun fn => r14 CU fn), (15, fun fn => r15 CU fn), (16, fun fn => r16 CU fn), (17, fun fn => r17 CU fn), (18, fun fn => r18 CU fn), (19, fun fn => r19 CU fn), (20, fun fn => r20 CU fn), (21, fun fn => r21 CU fn), (22, fun fn => r22 CU fn), (23, fun fn => r23 CU fn), (24, fun fn => r24 CU fn), (25, fun fn => r25 CU fn), (26, fun fn => r26 CU fn), (27, fun fn => r27 CU fn), (29, fun fn => r29 CU fn), (30, fun fn => r30 CU fn), (31, fun fn => r31 CU fn), (32, fun fn => r32 CU fn), (33, fun fn => r33 CU fn), (34, fun fn => r34 CU fn), (35, fun fn => r35 CU fn), (36, fun fn => r36 CU fn), (38, fun fn => r38 CU fn), (39, fun fn => r39 CU fn), (40, fun fn => r40 CU fn), (41, fun fn => r41 CU fn), (42, fun fn => r42 CU fn), (43, fun fn => r43 CU fn), (44, fun fn => r44 CU fn), (45, fun fn => r45 CU fn)]
theorem ftL0_ok : ∀ g F, (g, F) ∈ ftL0 → ∀ fn, (∀ g, FnOk X0 g (fn g)) → FnOk X0 g (F fn) := by
  intro g F hm fn h
  simp only [ftL0, List.mem_cons, List.mem_nil_iff, or_false, Prod.mk.injEq] at hm
  rcases hm with ⟨rfl, rfl⟩ | ⟨rfl, rfl⟩ | ⟨rfl, rfl⟩ | ⟨rfl, rfl⟩ | ⟨rfl, rfl⟩ | ⟨rfl, rfl⟩ | ⟨rfl, rfl⟩ | ⟨rfl, rfl⟩ | ⟨rfl, rfl⟩ | ⟨rfl, rfl⟩ | ⟨rfl, rfl⟩ | ⟨rfl, rfl⟩ | ⟨rfl, rfl⟩ | ⟨rfl, rfl⟩ | ⟨rfl, rfl⟩ | ⟨rfl, rfl⟩ | ⟨rfl, rfl⟩ | ⟨rfl, rfl⟩ | ⟨rfl, rfl⟩ | ⟨rfl, rfl⟩ | ⟨rfl, rfl⟩ | ⟨rfl, rfl⟩ | ⟨rfl, rfl⟩ | ⟨rfl, rfl⟩ | ⟨rfl, rfl⟩ | ⟨rfl, rfl⟩ | ⟨rfl, rfl⟩ | ⟨rfl, rfl⟩ | ⟨rfl, rfl⟩ | ⟨rfl, rfl⟩ | ⟨rfl, rfl⟩ | ⟨rfl, rfl⟩ | ⟨rfl, rfl⟩ | ⟨rfl, rfl⟩ | ⟨rfl, rfl⟩ | ⟨rfl, rfl⟩ | ⟨rfl, rfl⟩ | ⟨rfl, rfl⟩ | ⟨rfl, rfl⟩ | ⟨rfl, rfl⟩
  · exact r4_ok h
  · exact r5_ok h
  · exact r6_ok h
  · exact r7_ok h
  · exact r8_ok h
  · exact r9_ok h
  · exact r10_ok h
  · exact r11_ok h
  · exact r12_ok h
  · exact r13_ok h
  · exact r14_ok h
  · exact r15_ok h
  · exact r16_ok h
  · exact r17_ok h
  · exact r18_ok h
  · exact r19_ok h
  · exact r20_ok h
  · exact r21_ok h
  · exact r22_ok h
  · exact r23_ok h
  · exact r24_ok h
  · exact r25_ok h
  · exact r26_ok h
  · exact r27_ok h
  · exact r29_ok h
  · exact r30_ok h
  · exact r31_ok h
  · exact r32_ok h
  · exact r33_ok h
  · exact r34_ok h
  · exact r35_ok h
  · exact r36_ok h
  · exact r38_ok h
  · exact r39_ok h
  · exact r40_ok h
  · exact r41_ok h
  · exact r42_ok h
  · exact r43_ok h
  · exact r44_ok h
  · exact r45_ok h
noncomputable def ftL1 : FTab := [(46, fun fn => r46 CU fn), (47, fun fn => r47 CU fn), (48, fun fn => r48 CU fn), (49, fun fn => r49 CU fn), (50, fun fn => r50 CU fn), (53, fun fn => r53 CU fn), (54, fun fn => r54 CU fn), (55, fun fn => r55 CU fn), (56, fun fn => altF (r56 CU fn) (altF (r56_1 CU fn) (altF (r56_2 CU fn) (altF (r56_3 CU fn) (r56_4 CU fn))))), (57, fun fn => r57 CU fn), (58, fun fn => r58 CU fn), (59, fun fn => r59 CU fn), (60, fun fn => r60 CU fn), (61, fun fn => r61 CU fn), (62, fun fn => r62 CU fn), (63, fun fn => r63 CU fn), (64, fun fn => r64 CU fn), (65, fun fn => r65 CU fn), (66, fun fn => r66 CU fn), (68, fun fn => r68 CU fn), (70, fun fn => r70 CU fn), (71, fun fn => r71 CU fn), (72, fun fn => r72 CU fn), (74, fun fn => r74 CU fn), (75, fun fn => r75 CU fn), (76, fun fn => r76 CU fn), (77, fun fn => r77 CU fn), (78, fun fn => r78 CU fn), (79, fun fn => r79 CU fn), (80, fun fn => r80 CU fn), (81, fun fn => r81 CU fn), (82, fun fn => r82 CU fn), (85, fun fn => r85 CU fn), (86, fun fn => r86 CU fn), (87, fun fn => r87 CU fn), (88, fun fn => r88 CU fn), (89, fun fn => r89 CU fn), (90, fun fn => r90 CU fn), (91, fun fn => r91 CU fn), (92, fun fn => r92 CU fn)]
theorem ftL1_ok : ∀ g F, (g, F) ∈ ftL1 → ∀ fn, (∀ g, FnOk X0 g (fn g)) → FnOk X0 g (F fn) := by
  intro g F hm fn h
  simp only [ftL1, List.mem_cons, List.mem_nil_iff, or_false, Prod.mk.injEq] at hm
  rcases hm with ⟨rfl, rfl⟩ | ⟨rfl, rfl⟩ | ⟨rfl, rfl⟩ | ⟨rfl, rfl⟩ | ⟨rfl, rfl⟩ | ⟨rfl, rfl⟩ | ⟨rfl, rfl⟩ | ⟨rfl, rfl⟩ | ⟨rfl, rfl⟩ | ⟨rfl, rfl⟩ | ⟨rfl, rfl⟩ | ⟨rfl, rfl⟩ | ⟨rfl, rfl⟩ | ⟨rfl, rfl⟩ | ⟨rfl, rfl⟩ | ⟨rfl, rfl⟩ | ⟨rfl, rfl⟩ | ⟨rfl, rfl⟩ | ⟨rfl, rfl⟩ | ⟨rfl, rfl⟩ | ⟨rfl, rfl⟩ | ⟨rfl, rfl⟩ | ⟨rfl, rfl⟩ | ⟨rfl, rfl⟩ | ⟨rfl, rfl⟩ | ⟨rfl, rfl⟩ | ⟨rfl, rfl⟩ | ⟨rfl, rfl⟩ | ⟨rfl, rfl⟩ | ⟨rfl, rfl⟩ | ⟨rfl, rfl⟩ | ⟨rfl, rfl⟩ | ⟨rfl, rfl⟩ | ⟨rfl, rfl⟩ | ⟨rfl, rfl⟩ | ⟨rfl, rfl⟩ | ⟨rfl, rfl⟩ | ⟨rfl, rfl⟩ | ⟨rfl, rfl⟩ | ⟨rfl, rfl⟩
  · exact r46_ok h
  · exact r47_ok h
  · exact r48_ok h
  · exact r49_ok h
  · exact r50_ok h
  · exact r53_ok h
  · exact r54_ok h
  · exact r55_ok h
  · exact altF_ok (r56_ok h) (altF_ok (r56_1_ok h) (altF_ok (r56_2_ok h) (altF_ok (r56_3_ok h) (r56_4_ok h))))
  · exact r57_ok h
  · exact r58_ok h
  · exact r59_ok h
  · exact r60_ok h
  · exact r61_ok h
  · exact r62_ok h
  · exact r63_ok h
  · exact r64_ok h
  · exact r65_ok h
  · exact r66_ok h
  · exact r68_ok h
  · exact r70_ok h
  · exact r71_ok h
  · exact r72_ok h
  · exact r74_ok h
  · exact r75_ok h
  · exact r76_ok h
  · exact r77_ok h
  · exact r78_ok h
  · exact r79_ok h
  · exact r80_ok h
  · exact r81_ok h
  · exact r82_ok h
  · exact r85_ok h
  · exact r86_ok h
  · exact r87_ok h
  · exact r88_ok h
  · exact r89_ok h
  · exact r90_ok h
  · exact r91_ok h
  · exact r92_ok h
noncomputable def ftL2 : FTab := [(93, fun fn => r93 CU fn), (94, fun fn => r94 CU fn), (95, fun fn => r95 CU fn), (96, fun fn => r96 CU fn), (97, fun fn => r97 CU fn), (99, fun fn => r99 CU fn), (100, fun fn => r100 CU fn), (101, fun fn => r101 CU fn), (102, fun fn => r102 CU fn), (103, fun fn => r103 CU fn), (104, fun fn => r104 CU fn), (105, fun fn => r105 CU fn), (106, fun fn => r106 CU fn), (107, fun fn => r107 CU fn), (108, fun fn => r108 CU fn), (109, fun fn => r109 CU fn), (110, fun fn => r110 CU fn), (111, fun fn => r111 CU fn), (112, fun fn => r112 CU fn), (113, fun fn => r113 CU fn), (114, fun fn => r114 CU fn), (115, fun fn => r115 CU fn), (116, fun fn => r116 CU fn), (118, fun fn => r118 CU fn), (119, fun fn => r119 CU fn), (120, fun fn => r120 CU fn), (122, fun fn => r122 CU fn), (123, fun fn => r123 CU fn), (124, fun fn => r124 CU fn), (125, fun fn => r125 CU fn), (126, fun fn => r126 CU fn), (128, fun fn => r128 CU fn), (129, fun fn => r129 CU fn), (132, fun fn => r132 CU fn), (133, fun fn => r133 CU fn), (134, fun fn => r134 CU fn), (135, fun fn => r135 CU fn), (136, fun fn => r136 CU fn), (137, fun fn => r137 CU fn), (139, fun fn => r139 CU fn)]
theorem ftL2_ok : ∀ g F, (g, F) ∈ ftL2 → ∀ fn, (∀ g, FnOk X0 g (fn g)) → FnOk X0 g (F fn) := by
  intro g F hm fn h
  simp only [ftL2, List.mem_cons, List.mem_nil_iff, or_false, Prod.mk.injEq] at hm
  rcases hm with ⟨rfl, rfl⟩ | ⟨rfl, rfl⟩ | ⟨rfl, rfl⟩ | ⟨rfl, rfl⟩ | ⟨rfl, rfl⟩ | ⟨rfl, rfl⟩ | ⟨rfl, rfl⟩ | ⟨rfl, rfl⟩ | ⟨rfl, rfl⟩ | ⟨rfl, rfl⟩ | ⟨rfl, rfl⟩ | ⟨rfl, rfl⟩ | ⟨rfl, rfl⟩ | ⟨rfl, rfl⟩ | ⟨rfl, rfl⟩ | ⟨rfl, rfl⟩ | ⟨rfl, rfl⟩ | ⟨rfl, rfl⟩ | ⟨rfl, rfl⟩ | ⟨rfl, rfl⟩ | ⟨rfl, rfl⟩ | ⟨rfl, rfl⟩ | ⟨rfl, rfl⟩ | ⟨rfl, rfl⟩ | ⟨rfl, rfl⟩ | ⟨rfl, rfl⟩ | ⟨rfl, rfl⟩ | ⟨rfl, rfl⟩ | ⟨rfl, rfl⟩ | ⟨rfl, rfl⟩ | ⟨rfl, rfl⟩ | ⟨rfl, rfl⟩ | ⟨rfl, rfl⟩ | ⟨rfl, rfl⟩ | ⟨rfl, rfl⟩ | ⟨rfl, rfl⟩ | ⟨rfl, rfl⟩ | ⟨rfl, rfl⟩ | ⟨rfl, rfl⟩ | ⟨rfl, rfl⟩
  · exact r93_ok h
  · exact r94_ok h
  · exact r95_ok h
  · exact r96_ok h
  · exact r97_ok h
  · exact r99_ok h
  · exact r100_ok h
  · exact r101_ok h
  · exact r102_ok h
  · exact r103_ok h
  · exact r104_ok h
  · exact r105_ok h
  · exact r106_ok h
  · exact r107_ok h
  · exact r108_ok h
  · exact r109_ok h
  · exact r110_ok h
  · exact r111_ok h
  · exact r112_ok h
  · exact r113_ok h
  · exact r114_ok h
  · exact r115_ok h
  · exact r116_ok h
  · exact r118_ok h
  · exact r119_ok h
  · exact r120_ok h
  · exact r122_ok h
  · exact r123_ok h
  · exact r124_ok h
  · exact r125_ok h
  · exact r126_ok h
  · exact r128_ok h
  · exact r129_ok h
  · exact r132_ok h
  · exact r133_ok h
  · exact r134_ok h
  · exact r135_ok h
  · exact r136_ok h
  · exact r137_ok h
  · exact r139_ok h
noncomputable def ftL3 : FTab := [(140, fun fn => r140 CU fn), (143, fun fn => r143 CU fn), (144, fun fn => r144 CU fn), (145, fun fn => r145 CU fn), (148, fun fn => r148 CU fn), (149, fun fn => r149 CU fn), (150, fun fn => r150 CU fn), (151, fun fn => r151 CU fn), (152, fun fn => r152 CU fn), (153, fun fn => r153 CU fn), (154, fun fn => r154 CU fn), (155, fun fn => r155 CU fn), (156, fun fn => r156 CU fn), (157, fun fn => r157 CU fn), (158, fun fn => r158 CU fn), (159, fun fn => r159 CU fn), (160, fun fn => r160 CU fn), (161, fun fn => r161 CU fn), (162, fun fn => r162 CU fn), (163, fun fn => r163 CU fn), (164, fun fn => r164 CU fn), (165, fun fn => r165 CU fn), (167, fun fn => r167 CU fn), (169, fun fn => r169 CU fn), (170, fun fn => r170 CU fn), (172, fun fn => r172 CU fn), (173, fun fn => r173 CU fn), (175, fun fn => r175 CU fn), (176, fun fn => r176 CU fn), (177, fun fn => r177 CU fn), (178, fun fn => r178 CU fn), (179, fun fn => r179 CU fn), (186, fun fn => r186 CU fn), (187, fun fn => r187 CU fn), (188, fun fn => r188 CU fn), (190, fun fn => r190 CU fn), (191, fun fn => r191 CU fn), (192, fun fn => r192 CU fn), (193, fun fn => r193 CU fn), (194, fun fn => r194 CU fn)]
theorem ftL3_ok : ∀ g F, (g, F) ∈ ftL3 → ∀ fn, (∀ g, FnOk X0 g (fn g)) → FnOk X0 g (F fn) := by
  intro g F hm fn h
  simp only [ftL3, List.mem_cons, List.mem_nil_iff, or_false, Prod.mk.injEq] at hm
  rcases hm with ⟨rfl, rfl⟩ | ⟨rfl, rfl⟩ | ⟨rfl, rfl⟩ | ⟨rfl, rfl⟩ | ⟨rfl, rfl⟩ | ⟨rfl, rfl⟩ | ⟨rfl, rfl⟩ | ⟨rfl, rfl⟩ | ⟨rfl, rfl⟩ | ⟨rfl, rfl⟩ | ⟨rfl, rfl⟩ | ⟨rfl, rfl⟩ | ⟨rfl, rfl⟩ | ⟨rfl, rfl⟩ | ⟨rfl, rfl⟩ | ⟨rfl, rfl⟩ | ⟨rfl, rfl⟩ | ⟨rfl, rfl⟩ | ⟨rfl, rfl⟩ | ⟨rfl, rfl⟩ | ⟨rfl, rfl⟩ | ⟨rfl, rfl⟩ | ⟨rfl, rfl⟩ | ⟨rfl, rfl⟩ | ⟨rfl, rfl⟩ | ⟨rfl, rfl⟩ | ⟨rfl, rfl⟩ | ⟨rfl, rfl⟩ | ⟨rfl, rfl⟩ | ⟨rfl, rfl⟩ | ⟨rfl, rfl⟩ | ⟨rfl, rfl⟩ | ⟨rfl, rfl⟩ | ⟨rfl, rfl⟩ | ⟨rfl, rfl⟩ | ⟨rfl, rfl⟩ | ⟨rfl, rfl⟩ | ⟨rfl, rfl⟩ | ⟨rfl, rfl⟩ | ⟨rfl, rfl⟩
  · exact r140_ok h
  · exact r143_ok h
  · exact r144_ok h
  · exact r145_ok h
  · exact r148_ok h
  · exact r149_ok h
  · exact r150_ok h
  · exact r151_ok h
  · exact r152_ok h
  · exact r153_ok h
  · exact r154_ok h
  · exact r155_ok h
  · exact r156_ok h
  · exact r157_ok h
  · exact r158_ok h
  · exact r159_ok h
  · exact r160_ok h
  · exact r161_ok h
  · exact r162_ok h
  · exact r163_ok h
  · exact r164_ok h
  · exact r165_ok h
  · exact r167_ok h
  · exact r169_ok h
  · exact r170_ok h
  · exact r172_ok h
  · exact r173_ok h
  · exact r175_ok h
  · exact r176_ok h
  · exact r177_ok h
  · exact r178_ok h
  · exact r179_ok h
  · exact r186_ok h
  · exact r187_ok h
  · exact r188_ok h
  · exact r190_ok h
  · exact r191_ok h
  · exact r192_ok h
  · exact r193_ok h
  · exact r194_ok h
noncomputable def ftL4 : FTab := [(195, fun fn => r195 CU fn), (196, fun fn => r196 CU fn), (197, fun fn => r197 CU fn), (198, fun fn => r198 CU fn), (199, fun fn => r199 CU fn), (200, fun fn => r200 CU fn), (201, fun fn => r201 CU fn), (206, fun fn => r206 CU fn), (207, fun fn => r207 CU fn), (209, fun fn => r209 CU fn), (210, fun fn => r210 CU fn), (211, fun fn => r211 CU fn), (212, fun fn => r212 CU fn), (213, fun fn => r213 CU fn), (214, fun fn => r214 CU fn), (215, fun fn => r215 CU fn), (216, fun fn => r216 CU fn), (218, fun fn => r218 CU fn), (219, fun fn => r219 CU fn), (220, fun fn => r220 CU fn), (221, fun fn => r221 CU fn), (222, fun fn => r222 CU fn), (223, fun fn => r223 CU fn), (224, fun fn => r224 CU fn), (225, fun fn => r225 CU fn), (228, fun fn => r228 CU fn), (229, fun fn => r229 CU fn), (230, fun fn => r230 CU fn), (231, fun fn => r231 CU fn), (238, fun fn => r238 CU fn), (243, fun fn => r243 CU fn), (245, fun fn => r245 CU fn), (246, fun fn => r246 CU fn), (247, fun fn => r247 CU fn), (251, fun fn => r251 CU fn), (252, fun fn => r252 CU fn), (253, fun fn => r253 CU fn), (255, fun fn => r255 CU fn), (256, fun fn => r256 CU fn), (257, fun fn => r257 CU fn)]
theorem ftL4_ok : ∀ g F, (g, F) ∈ ftL4 → ∀ fn, (∀ g, FnOk X0 g (fn g)) → FnOk X0 g (F fn) := by
  intro g F hm fn h
  simp only [ftL4, List.mem_cons, List.mem_nil_iff, or_false, Prod.mk.injEq] at hm
  rcases hm with ⟨rfl, rfl⟩ | ⟨rfl, rfl⟩ | ⟨rfl, rfl⟩ | ⟨rfl, rfl⟩ | ⟨rfl, rfl⟩ | ⟨rfl, rfl⟩ | ⟨rfl, rfl⟩ | ⟨rfl, rfl⟩ | ⟨rfl, rfl⟩ | ⟨rfl, rfl⟩ | ⟨rfl, rfl⟩ | ⟨rfl, rfl⟩ | ⟨rfl, rfl⟩ | ⟨rfl, rfl⟩ | ⟨rfl, rfl⟩ | ⟨rfl, rfl⟩ | ⟨rfl, rfl⟩ | ⟨rfl, rfl⟩ | ⟨rfl, rfl⟩ | ⟨rfl, rfl⟩ | ⟨rfl, rfl⟩ | ⟨rfl, rfl⟩ | ⟨rfl, rfl⟩ | ⟨rfl, rfl⟩ | ⟨rfl, rfl⟩ | ⟨rfl, rfl⟩ | ⟨rfl, rfl⟩ | ⟨rfl, rfl⟩ | ⟨rfl, rfl⟩ | ⟨rfl, rfl⟩ | ⟨rfl, rfl⟩ | ⟨rfl, rfl⟩ | ⟨rfl, rfl⟩ | ⟨rfl, rfl⟩ | ⟨rfl, rfl⟩ | ⟨rfl, rfl⟩ | ⟨rfl, rfl⟩ | ⟨rfl, rfl⟩ | ⟨rfl, rfl⟩ | ⟨rfl, rfl⟩
  · exact r195_ok h
  · exact r196_ok h
  · exact r197_ok h
  · exact r198_ok h
  · exact r199_ok h
  · exact r200_ok h
  · exact r201_ok h
  · exact r206_ok h
  · exact r207_ok h
  · exact r209_ok h
  · exact r210_ok h
  · exact r211_ok h
  · exact r212_ok h
  · exact r213_ok h
  · exact r214_ok h
  · exact r215_ok h
  · exact r216_ok h
  · exact r218_ok h
  · exact r219_ok h
  · exact r220_ok h
  · exact r221_ok h
  · exact r222_ok h
  · exact r223_ok h
  · exact r224_ok h
  · exact r225_ok h
  · exact r228_ok h
  · exact r229_ok h
  · exact r230_ok h
  · exact r231_ok h
  · exact r238_ok h
  · exact r243_ok h
  · exact r245_ok h
  · exact r246_ok h
  · exact r247_ok h
  · exact r251_ok h
  · exact r252_ok h
  · exact r253_ok h
  · exact r255_ok h
  · exact r256_ok h
  · exact r257_ok h
noncomputable def ftL5 : FTab := [(258, fun fn => r258 CU fn), (259, fun fn => r259 CU fn), (260, fun fn => r260 CU fn), (274, fun fn => r274 CU fn), (276, fun fn => r276 CU fn), (277, fun fn => r277 CU fn), (278, fun fn => r278 CU fn), (287, fun fn => r287 CU fn), (293, fun fn => r293 CU fn), (294, fun fn => r294 CU fn), (297, fun fn => r297 CU fn), (298, fun fn => r298 CU fn), (299, fun fn => r299 CU fn), (310, fun fn => r310 CU fn), (312, fun fn => r312 CU fn), (313, fun fn => r313 CU fn), (331, fun fn => r331 CU fn), (353, fun fn => r353 CU fn)]
theorem ftL5_ok : ∀ g F, (g, F) ∈ ftL5 → ∀ fn, (∀ g, FnOk X0 g (fn g)) → FnOk X0 g (F fn) := by
  intro g F hm fn h
  simp only [ftL5, List.mem_cons, List.mem_nil_iff, or_false, Prod.mk.injEq] at hm
  rcases hm with ⟨rfl, rfl⟩ | ⟨rfl, rfl⟩ | ⟨rfl, rfl⟩ | ⟨rfl, rfl⟩ | ⟨rfl, rfl⟩ | ⟨rfl, rfl⟩ | ⟨rfl, rfl⟩ | ⟨rfl, rfl⟩ | ⟨rfl, rfl⟩ | ⟨rfl, rfl⟩ | ⟨rfl, rfl⟩ | ⟨rfl, rfl⟩ | ⟨rfl, rfl⟩ | ⟨rfl, rfl⟩ | ⟨rfl, rfl⟩ | ⟨rfl, rfl⟩ | ⟨rfl, rfl⟩ | ⟨rfl, rfl⟩
  · exact r258_ok h
  · exact r259_ok h
  · exact r260_ok h
  · exact r274_ok h
  · exact r276_ok h
  · exact r277_ok h
  · exact r278_ok h
  · exact r287_ok h
  · exact r293_ok h
  · exact r294_ok h
  · exact r297_ok h
  · exact r298_ok h
  · exact r299_ok h
  · exact r310_ok h
  · exact r312_ok h
  · exact r313_ok h
  · exact r331_ok h
  · exact r353_ok h
noncomputable def ftL : FTab := ftL0 ++ ftL1 ++ ftL2 ++ ftL3 ++ ftL4 ++ ftL5
theorem ftL_ok : ∀ g F, (g, F) ∈ ftL → ∀ fn, (∀ g, FnOk X0 g (fn g)) → FnOk X0 g (F fn) := by
  intro g F hm
  simp only [ftL, List.mem_append] at hm
  rcases hm with (((((hm | hm) | hm) | hm) | hm) | hm)
  · exact ftL0_ok g F hm
  · exact ftL1_ok g F hm
  · exact ftL2_ok g F hm
  · exact ftL3_ok g F hm
  · exact ftL4_ok g F hm
  · exact ftL5_ok g F hm
end Go.Proofs.YtdkfnkilkndmgaaGreatDoor
namespace Go.Proofs.YtdkfnkilkndmgaaGreatDoor
open Go.Abs
noncomputable def ftB : FTab := [(236, fun _ => libContains), (337, fun _ => libIndex), (244, fun _ => libTrim), (286, fun _ => libTrimLeft), (28, fun _ => altF libFields libFields2)]
theorem ftB_ok : ∀ g F, (g, F) ∈ ftB → ∀ fn, (∀ g, FnOk X0 g (fn g)) → FnOk X0 g (F fn) := by
  intro g F hm fn h
  simp only [ftB, List.mem_cons, List.mem_nil_iff, or_false, Prod.mk.injEq] at hm
  rcases hm with ⟨rfl, rfl⟩ | ⟨rfl, rfl⟩ | ⟨rfl, rfl⟩ | ⟨rfl, rfl⟩ | ⟨rfl, rfl⟩
  · exact libContains_ok
  · exact libIndex_ok
  · exact libTrim_ok
  · exact libTrimLeft_ok
  · exact altF_ok libFields_ok libFields2_ok
noncomputable def ftU : FTab := ftB ++ ftL
theorem ftU_ok : ∀ g F, (g, F) ∈ ftU → ∀ fn, (∀ g, FnOk X0 g (fn g)) → FnOk X0 g (F fn) := by
  intro g F hm
  rcases List.mem_append.1 hm with hm | hm
  · exact ftB_ok g F hm
  · exact ftL_ok g F hm
end Go.Proofs.YtdkfnkilkndmgaaGreatDoor
namespace Go.Proofs.YtdkfnkilkndmgaaGreatDoor
open Go.Abs
/-- What a function gives, run. -/
noncomputable def RL (g : FuncId) : FunT := appW (runW ftU 300 g)
theorem RL_ok (g : FuncId) : FnOk X0 g (RL g) := runW_ok ftU_ok 300 g
/-- One result, known. -/
def litF (r : R) : FunT := fun vs bs => match vs with
  | [] => match bs with
    | [] => some r
    | _ => none
  | _ => none
theorem litF_ok {g : FuncId} {F : FunT} (hF : FnOk X0 g F) {r : R} (h : F [] [] = some r) : FnOk X0 g (litF r) := fun vs bs x bs' e hok => by
  unfold litF at e
  split at e
  · split at e
    · injection e with e
      exact hF [] [] x bs' (h.trans (congrArg some e)) hok
    · cases e
  · cases e
/-- A table with a result that is known. -/
theorem litF_tab {T : FTab} (hT : ∀ g F, (g, F) ∈ T → ∀ fn, (∀ g, FnOk X0 g (fn g)) → FnOk X0 g (F fn)) {g0 : FuncId} {F0 : FunT} (hF : FnOk X0 g0 F0) {r : R} (h : F0 [] [] = some r) :
    ∀ g F, (g, F) ∈ ((g0, fun _ => litF r) :: T : FTab) → ∀ fn, (∀ g, FnOk X0 g (fn g)) → FnOk X0 g (F fn) := fun g F hm => by
  rcases List.mem_cons.1 hm with e | hm
  · injection e with e1 e2; subst e1 e2; exact fun _ _ => litF_ok hF h
  · exact hT g F hm
end Go.Proofs.YtdkfnkilkndmgaaGreatDoor
