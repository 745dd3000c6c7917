/- The table of the functions, run. -/
import Derived.Test.YtpjpeojfddbdoaaGreatDoorCL0
import Derived.Test.YtpjpeojfddbdoaaGreatDoorCL1
import Derived.Test.YtpjpeojfddbdoaaGreatDoorCL2
import Derived.Test.YtpjpeojfddbdoaaGreatDoorCL3
import Derived.Test.YtpjpeojfddbdoaaGreatDoorCL4
import Derived.Test.YtpjpeojfddbdoaaGreatDoorCL5
import Derived.Test.YtpjpeojfddbdoaaGreatDoorCL6
import Derived.Test.YtpjpeojfddbdoaaGreatDoorCL7
namespace Go.Proofs.YtpjpeojfddbdoaaGreatDoor
open Go.Abs
noncomputable def ftL0 : FTab := [(3, fun fn => r3 CU fn), (4, fun fn => r4 CU fn), (5, fun fn => r5 CU fn), (6, fun fn => r6 CU fn), (7, fun fn => r7 CU fn), (8, fun fn => r8 CU fn), (9, fun fn => r9 CU fn), (10, fun fn => r10 CU fn), (11, fun fn => r11 CU fn), (12, fun fn => r12 CU fn), (13, fun fn => r13 CU fn), (14, fun fn => r14 CU fn), (15, fun fn => r15 CU fn), (16, fun fn => r16 CU fn), (17, fun fn => r17 CU fn), (18, fun fn => r18 CU fn), (19, fun fn => r19 CU fn), (20, fun fn => r20 CU fn), (21, fun fn => r21 CU fn), (22, fun fn => r22 CU fn), (23, fun fn => r23 CU fn), (24, fun fn => r24 CU fn), (25, fun fn => r25 CU fn), (26, fun fn => r26 CU fn), (27, fun fn => r27 CU fn), (28, fun fn => r28 CU fn), (29, fun fn => r29 CU fn), (30, fun fn => r30 CU fn), (31, fun fn => r31 CU fn), (32, fun fn => r32 CU fn), (33, fun fn => r33 CU fn), (34, fun fn => r34 CU fn), (35, fun fn => r35 CU fn), (37, fun fn => r37 CU fn), (38, fun fn => r38 CU fn), (39, fun fn => r39 CU fn), (40, fun fn => r40 CU fn), (41, fun fn => r41 CU fn), (42, fun fn => r42 CU fn), (43, fun fn => r43 CU fn)]
theorem ftL0_ok : ∀ g F, (g, F) ∈ ftL0 → ∀ fn, (∀ g, FnOk X0 g (fn g)) → FnOk X0 g (F fn) := by
  intro g F hm fn h
  simp only [ftL0, List.mem_cons, List.mem_nil_iff, or_false, Prod.mk.injEq] at hm
  rcases hm with ⟨rfl, rfl⟩ | ⟨rfl, rfl⟩ | ⟨rfl, rfl⟩ | ⟨rfl, rfl⟩ | ⟨rfl, rfl⟩ | ⟨rfl, rfl⟩ | ⟨rfl, rfl⟩ | ⟨rfl, rfl⟩ | ⟨rfl, rfl⟩ | ⟨rfl, rfl⟩ | ⟨rfl, rfl⟩ | ⟨rfl, rfl⟩ | ⟨rfl, rfl⟩ | ⟨rfl, rfl⟩ | ⟨rfl, rfl⟩ | ⟨rfl, rfl⟩ | ⟨rfl, rfl⟩ | ⟨rfl, rfl⟩ | ⟨rfl, rfl⟩ | ⟨rfl, rfl⟩ | ⟨rfl, rfl⟩ | ⟨rfl, rfl⟩ | ⟨rfl, rfl⟩ | ⟨rfl, rfl⟩ | ⟨rfl, rfl⟩ | ⟨rfl, rfl⟩ | ⟨rfl, rfl⟩ | ⟨rfl, rfl⟩ | ⟨rfl, rfl⟩ | ⟨rfl, rfl⟩ | ⟨rfl, rfl⟩ | ⟨rfl, rfl⟩ | ⟨rfl, rfl⟩ | ⟨rfl, rfl⟩ | ⟨rfl, rfl⟩ | ⟨rfl, rfl⟩ | ⟨rfl, rfl⟩ | ⟨rfl, rfl⟩ | ⟨rfl, rfl⟩ | ⟨rfl, rfl⟩
  · exact r3_ok h
  · exact r4_ok h
  · exact r5_ok h
  · exact r6_ok h
  · exact r7_ok h
  · exact r8_ok h
  · exact r9_ok h
  · exact r10_ok h
  · exact r11_ok h
  · exact r12_ok h
  · exact r13_ok h
  · exact r14_ok h
  · exact r15_ok h
  · exact r16_ok h
  · exact r17_ok h
  · exact r18_ok h
  · exact r19_ok h
  · exact r20_ok h
  · exact r21_ok h
  · exact r22_ok h
  · exact r23_ok h
  · exact r24_ok h
  · exact r25_ok h
  · exact r26_ok h
  · exact r27_ok h
  · exact r28_ok h
  · exact r29_ok h
  · exact r30_ok h
  · exact r31_ok h
  · exact r32_ok h
  · exact r33_ok h
  · exact r34_ok h
  · exact r35_ok h
  · exact r37_ok h
  · exact r38_ok h
  · exact r39_ok h
  · exact r40_ok h
  · exact r41_ok h
  · exact r42_ok h
  · exact r43_ok h
noncomputable def ftL1 : FTab := [(44, fun fn => r44 CU fn), (45, fun fn => r45 CU fn), (46, fun fn => r46 CU fn), (47, fun fn => r47 CU fn), (48, fun fn => r48 CU fn), (49, fun fn => r49 CU fn), (50, fun fn => r50 CU fn), (51, fun fn => r51 CU fn), (52, fun fn => r52 CU fn), (53, fun fn => r53 CU fn), (54, fun fn => r54 CU fn), (55, fun fn => r55 CU fn), (56, fun fn => r56 CU fn), (57, fun fn => r57 CU fn), (58, fun fn => r58 CU fn), (59, fun fn => r59 CU fn), (60, fun fn => r60 CU fn), (61, fun fn => r61 CU fn), (62, fun fn => r62 CU fn), (63, fun fn => r63 CU fn), (64, fun fn => r64 CU fn), (65, fun fn => r65 CU fn), (66, fun fn => r66 CU fn), (67, fun fn => r67 CU fn), (68, fun fn => r68 CU fn), (69, fun fn => r69 CU fn), (70, fun fn => r70 CU fn), (71, fun fn => r71 CU fn), (72, fun fn => r72 CU fn), (73, fun fn => r73 CU fn), (74, fun fn => r74 CU fn), (75, fun fn => r75 CU fn), (76, fun fn => r76 CU fn), (77, fun fn => r77 CU fn), (79, fun fn => r79 CU fn), (80, fun fn => r80 CU fn), (81, fun fn => r81 CU fn), (82, fun fn => r82 CU fn), (83, fun fn => r83 CU fn), (84, fun fn => r84 CU fn)]
theorem ftL1_ok : ∀ g F, (g, F) ∈ ftL1 → ∀ fn, (∀ g, FnOk X0 g (fn g)) → FnOk X0 g (F fn) := by
  intro g F hm fn h
  simp only [ftL1, List.mem_cons, List.mem_nil_iff, or_false, Prod.mk.injEq] at hm
  rcases hm with ⟨rfl, rfl⟩ | ⟨rfl, rfl⟩ | ⟨rfl, rfl⟩ | ⟨rfl, rfl⟩ | ⟨rfl, rfl⟩ | ⟨rfl, rfl⟩ | ⟨rfl, rfl⟩ | ⟨rfl, rfl⟩ | ⟨rfl, rfl⟩ | ⟨rfl, rfl⟩ | ⟨rfl, rfl⟩ | ⟨rfl, rfl⟩ | ⟨rfl, rfl⟩ | ⟨rfl, rfl⟩ | ⟨rfl, rfl⟩ | ⟨rfl, rfl⟩ | ⟨rfl, rfl⟩ | ⟨rfl, rfl⟩ | ⟨rfl, rfl⟩ | ⟨rfl, rfl⟩ | ⟨rfl, rfl⟩ | ⟨rfl, rfl⟩ | ⟨rfl, rfl⟩ | ⟨rfl, rfl⟩ | ⟨rfl, rfl⟩ | ⟨rfl, rfl⟩ | ⟨rfl, rfl⟩ | ⟨rfl, rfl⟩ | ⟨rfl, rfl⟩ | ⟨rfl, rfl⟩ | ⟨rfl, rfl⟩ | ⟨rfl, rfl⟩ | ⟨rfl, rfl⟩ | ⟨rfl, rfl⟩ | ⟨rfl, rfl⟩ | ⟨rfl, rfl⟩ | ⟨rfl, rfl⟩ | ⟨rfl, rfl⟩ | ⟨rfl, rfl⟩ | ⟨rfl, rfl⟩
  · exact r44_ok h
  · exact r45_ok h
  · exact r46_ok h
  · exact r47_ok h
  · exact r48_ok h
  · exact r49_ok h
  · exact r50_ok h
  · exact r51_ok h
  · exact r52_ok h
  · exact r53_ok h
  · exact r54_ok h
  · exact r55_ok h
  · exact r56_ok h
  · exact r57_ok h
  · exact r58_ok h
  · exact r59_ok h
  · exact r60_ok h
  · exact r61_ok h
  · exact r62_ok h
  · exact r63_ok h
  · exact r64_ok h
  · exact r65_ok h
  · exact r66_ok h
  · exact r67_ok h
  · exact r68_ok h
  · exact r69_ok h
  · exact r70_ok h
  · exact r71_ok h
  · exact r72_ok h
  · exact r73_ok h
  · exact r74_ok h
  · exact r75_ok h
  · exact r76_ok h
  · exact r77_ok h
  · exact r79_ok h
  · exact r80_ok h
  · exact r81_ok h
  · exact r82_ok h
  · exact r83_ok h
  · exact r84_ok h
noncomputable def ftL2 : FTab := [(85, fun fn => r85 CU fn), (86, fun fn => r86 CU fn), (87, fun fn => r87 CU fn), (89, fun fn => r89 CU fn), (90, fun fn => r90 CU fn), (91, fun fn => altF (r91 CU fn) (altF (r91_1 CU fn) (r91_2 CU fn))), (92, fun fn => r92 CU fn), (93, fun fn => r93 CU fn), (94, fun fn => r94 CU fn), (95, fun fn => r95 CU fn), (96, fun fn => r96 CU fn), (97, fun fn => r97 CU fn), (98, fun fn => r98 CU fn), (100, fun fn => r100 CU fn), (101, fun fn => r101 CU fn), (102, fun fn => r102 CU fn), (103, fun fn => r103 CU fn), (104, fun fn => r104 CU fn), (105, fun fn => r105 CU fn), (106, fun fn => r106 CU fn), (107, fun fn => r107 CU fn), (108, fun fn => r108 CU fn), (109, fun fn => r109 CU fn), (110, fun fn => r110 CU fn), (111, fun fn => r111 CU fn), (114, fun fn => r114 CU fn), (115, fun fn => r115 CU fn), (116, fun fn => r116 CU fn), (117, fun fn => r117 CU fn), (118, fun fn => r118 CU fn), (119, fun fn => r119 CU fn), (120, fun fn => r120 CU fn), (121, fun fn => r121 CU fn), (122, fun fn => r122 CU fn), (123, fun fn => r123 CU fn), (124, fun fn => r124 CU fn), (125, fun fn => r125 CU fn), (127, fun fn => r127 CU fn), (128, fun fn => r128 CU fn), (129, fun fn => r129 CU fn)]
theorem ftL2_ok : ∀ g F, (g, F) ∈ ftL2 → ∀ fn, (∀ g, FnOk X0 g (fn g)) → FnOk X0 g (F fn) := by
  intro g F hm fn h
  simp only [ftL2, List.mem_cons, List.mem_nil_iff, or_false, Prod.mk.injEq] at hm
  rcases hm with ⟨rfl, rfl⟩ | ⟨rfl, rfl⟩ | ⟨rfl, rfl⟩ | ⟨rfl, rfl⟩ | ⟨rfl, rfl⟩ | ⟨rfl, rfl⟩ | ⟨rfl, rfl⟩ | ⟨rfl, rfl⟩ | ⟨rfl, rfl⟩ | ⟨rfl, rfl⟩ | ⟨rfl, rfl⟩ | ⟨rfl, rfl⟩ | ⟨rfl, rfl⟩ | ⟨rfl, rfl⟩ | ⟨rfl, rfl⟩ | ⟨rfl, rfl⟩ | ⟨rfl, rfl⟩ | ⟨rfl, rfl⟩ | ⟨rfl, rfl⟩ | ⟨rfl, rfl⟩ | ⟨rfl, rfl⟩ | ⟨rfl, rfl⟩ | ⟨rfl, rfl⟩ | ⟨rfl, rfl⟩ | ⟨rfl, rfl⟩ | ⟨rfl, rfl⟩ | ⟨rfl, rfl⟩ | ⟨rfl, rfl⟩ | ⟨rfl, rfl⟩ | ⟨rfl, rfl⟩ | ⟨rfl, rfl⟩ | ⟨rfl, rfl⟩ | ⟨rfl, rfl⟩ | ⟨rfl, rfl⟩ | ⟨rfl, rfl⟩ | ⟨rfl, rfl⟩ | ⟨rfl, rfl⟩ | ⟨rfl, rfl⟩ | ⟨rfl, rfl⟩ | ⟨rfl, rfl⟩
  · exact r85_ok h
  · exact r86_ok h
  · exact r87_ok h
  · exact r89_ok h
  · exact r90_ok h
  · exact altF_ok (r91_ok h) (altF_ok (r91_1_ok h) (r91_2_ok h))
  · exact r92_ok h
  · exact r93_ok h
  · exact r94_ok h
  · exact r95_ok h
  · exact r96_ok h
  · exact r97_ok h
  · exact r98_ok h
  · exact r100_ok h
  · exact r101_ok h
  · exact r102_ok h
  · exact r103_ok h
  · exact r104_ok h
  · exact r105_ok h
  · exact r106_ok h
  · exact r107_ok h
  · exact r108_ok h
  · exact r109_ok h
  · exact r110_ok h
  · exact r111_ok h
  · exact r114_ok h
  · exact r115_ok h
  · exact r116_ok h
  · exact r117_ok h
  · exact r118_ok h
  · exact r119_ok h
  · exact r120_ok h
  · exact r121_ok h
  · exact r122_ok h
  · exact r123_ok h
  · exact r124_ok h
  · exact r125_ok h
  · exact r127_ok h
  · exact r128_ok h
  · exact r129_ok h
noncomputable def ftL3 : FTab := [(131, fun fn => r131 CU fn), (132, fun fn => r132 CU fn), (133, fun fn => r133 CU fn), (134, fun fn => r134 CU fn), (135, fun fn => r135 CU fn), (136, fun fn => altF (r136 CU fn) (altF (r136_1 CU fn) (r136_2 CU fn))), (137, fun fn => r137 CU fn), (138, fun fn => r138 CU fn), (139, fun fn => r139 CU fn), (140, fun fn => r140 CU fn), (141, fun fn => r141 CU fn), (142, fun fn => r142 CU fn), (143, fun fn => r143 CU fn), (145, fun fn => r145 CU fn), (147, fun fn => r147 CU fn), (149, fun fn => r149 CU fn), (151, fun fn => r151 CU fn), (152, fun fn => r152 CU fn), (153, fun fn => r153 CU fn), (154, fun fn => r154 CU fn), (155, fun fn => r155 CU fn), (156, fun fn => r156 CU fn), (157, fun fn => r157 CU fn), (159, fun fn => r159 CU fn), (161, fun fn => r161 CU fn), (162, fun fn => r162 CU fn), (163, fun fn => r163 CU fn), (164, fun fn => r164 CU fn), (165, fun fn => r165 CU fn), (166, fun fn => r166 CU fn), (167, fun fn => r167 CU fn), (168, fun fn => r168 CU fn), (169, fun fn => r169 CU fn), (171, fun fn => r171 CU fn), (172, fun fn => r172 CU fn), (173, fun fn => r173 CU fn), (177, fun fn => r177 CU fn), (178, fun fn => r178 CU fn), (179, fun fn => r179 CU fn), (180, fun fn => r180 CU fn)]
theorem ftL3_ok : ∀ g F, (g, F) ∈ ftL3 → ∀ fn, (∀ g, FnOk X0 g (fn g)) → FnOk X0 g (F fn) := by
  intro g F hm fn h
  simp only [ftL3, List.mem_cons, List.mem_nil_iff, or_false, Prod.mk.injEq] at hm
  rcases hm with ⟨rfl, rfl⟩ | ⟨rfl, rfl⟩ | ⟨rfl, rfl⟩ | ⟨rfl, rfl⟩ | ⟨rfl, rfl⟩ | ⟨rfl, rfl⟩ | ⟨rfl, rfl⟩ | ⟨rfl, rfl⟩ | ⟨rfl, rfl⟩ | ⟨rfl, rfl⟩ | ⟨rfl, rfl⟩ | ⟨rfl, rfl⟩ | ⟨rfl, rfl⟩ | ⟨rfl, rfl⟩ | ⟨rfl, rfl⟩ | ⟨rfl, rfl⟩ | ⟨rfl, rfl⟩ | ⟨rfl, rfl⟩ | ⟨rfl, rfl⟩ | ⟨rfl, rfl⟩ | ⟨rfl, rfl⟩ | ⟨rfl, rfl⟩ | ⟨rfl, rfl⟩ | ⟨rfl, rfl⟩ | ⟨rfl, rfl⟩ | ⟨rfl, rfl⟩ | ⟨rfl, rfl⟩ | ⟨rfl, rfl⟩ | ⟨rfl, rfl⟩ | ⟨rfl, rfl⟩ | ⟨rfl, rfl⟩ | ⟨rfl, rfl⟩ | ⟨rfl, rfl⟩ | ⟨rfl, rfl⟩ | ⟨rfl, rfl⟩ | ⟨rfl, rfl⟩ | ⟨rfl, rfl⟩ | ⟨rfl, rfl⟩ | ⟨rfl, rfl⟩ | ⟨rfl, rfl⟩
  · exact r131_ok h
  · exact r132_ok h
  · exact r133_ok h
  · exact r134_ok h
  · exact r135_ok h
  · exact altF_ok (r136_ok h) (altF_ok (r136_1_ok h) (r136_2_ok h))
  · exact r137_ok h
  · exact r138_ok h
  · exact r139_ok h
  · exact r140_ok h
  · exact r141_ok h
  · exact r142_ok h
  · exact r143_ok h
  · exact r145_ok h
  · exact r147_ok h
  · exact r149_ok h
  · exact r151_ok h
  · exact r152_ok h
  · exact r153_ok h
  · exact r154_ok h
  · exact r155_ok h
  · exact r156_ok h
  · exact r157_ok h
  · exact r159_ok h
  · exact r161_ok h
  · exact r162_ok h
  · exact r163_ok h
  · exact r164_ok h
  · exact r165_ok h
  · exact r166_ok h
  · exact r167_ok h
  · exact r168_ok h
  · exact r169_ok h
  · exact r171_ok h
  · exact r172_ok h
  · exact r173_ok h
  · exact r177_ok h
  · exact r178_ok h
  · exact r179_ok h
  · exact r180_ok h
noncomputable def ftL4 : FTab := [(181, fun fn => r181 CU fn), (186, fun fn => r186 CU fn), (187, fun fn => r187 CU fn), (188, fun fn => r188 CU fn), (192, fun fn => r192 CU fn), (193, fun fn => r193 CU fn), (198, fun fn => r198 CU fn), (199, fun fn => r199 CU fn), (200, fun fn => r200 CU fn), (216, fun fn => r216 CU fn), (217, fun fn => r217 CU fn), (246, fun fn => r246 CU fn), (264, fun fn => r264 CU fn)]
theorem ftL4_ok : ∀ g F, (g, F) ∈ ftL4 → ∀ fn, (∀ g, FnOk X0 g (fn g)) → FnOk X0 g (F fn) := by
  intro g F hm fn h
  simp only [ftL4, List.mem_cons, List.mem_nil_iff, or_false, Prod.mk.injEq] at hm
  rcases hm with ⟨rfl, rfl⟩ | ⟨rfl, rfl⟩ | ⟨rfl, rfl⟩ | ⟨rfl, rfl⟩ | ⟨rfl, rfl⟩ | ⟨rfl, rfl⟩ | ⟨rfl, rfl⟩ | ⟨rfl, rfl⟩ | ⟨rfl, rfl⟩ | ⟨rfl, rfl⟩ | ⟨rfl, rfl⟩ | ⟨rfl, rfl⟩ | ⟨rfl, rfl⟩
  · exact r181_ok h
  · exact r186_ok h
  · exact r187_ok h
  · exact r188_ok h
  · exact r192_ok h
  · exact r193_ok h
  · exact r198_ok h
  · exact r199_ok h
  · exact r200_ok h
  · exact r216_ok h
  · exact r217_ok h
  · exact r246_ok h
  · exact r264_ok h
noncomputable def ftL : FTab := ftL0 ++ ftL1 ++ ftL2 ++ ftL3 ++ ftL4
theorem ftL_ok : ∀ g F, (g, F) ∈ ftL → ∀ fn, (∀ g, FnOk X0 g (fn g)) → FnOk X0 g (F fn) := by
  intro g F hm
  simp only [ftL, List.mem_append] at hm
  rcases hm with ((((hm | hm) | hm) | hm) | hm)
  · exact ftL0_ok g F hm
  · exact ftL1_ok g F hm
  · exact ftL2_ok g F hm
  · exact ftL3_ok g F hm
  · exact ftL4_ok g F hm
end Go.Proofs.YtpjpeojfddbdoaaGreatDoor
