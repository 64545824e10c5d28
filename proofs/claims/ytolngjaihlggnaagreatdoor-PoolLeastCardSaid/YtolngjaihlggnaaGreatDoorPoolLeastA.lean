import Derived.Test.YtolngjaihlggnaaGreatDoorPoolLeastBase
/-! PoolLeast: the short pieces. -/
namespace Go.Proofs.YtolngjaihlggnaaGreatDoor.PL
open Go.Ev Go.Ev.Pg Go.Ev.PL
set_option linter.unusedVariables false
set_option linter.unusedSimpArgs false
noncomputable def ins (i : Nat) : Bool := r0 (i + 1) && r1 (i + 1) && rE (i + 1)
theorem cutA : lpA = .seq cdA (.seq (.block 3 blkA) incA) := by kernel_rfl
theorem cut1 : FCode.suf 8 body = .seq (.seq (body.suf 8).fst.fst (.block 2 (.loop lpA))) (body.suf 9) := by kernel_rfl
theorem cut2 : FCode.suf 9 body = .seq (.seq (body.suf 9).fst.fst (.block 4 (.loop lpB))) (body.suf 10) := by kernel_rfl
theorem ia_0 : ((List.range 2).all fun d => ins (0 + d)) = true := by kernel_rfl
theorem ia_1 : ((List.range 2).all fun d => ins (2 + d)) = true := by kernel_rfl
theorem ia_2 : ((List.range 2).all fun d => ins (4 + d)) = true := by kernel_rfl
theorem ia_3 : ((List.range 2).all fun d => ins (6 + d)) = true := by kernel_rfl
theorem ia_4 : ((List.range 2).all fun d => ins (8 + d)) = true := by kernel_rfl
theorem ia_5 : ((List.range 2).all fun d => ins (10 + d)) = true := by kernel_rfl
theorem ia_6 : ((List.range 2).all fun d => ins (12 + d)) = true := by kernel_rfl
theorem ia_7 : ((List.range 2).all fun d => ins (14 + d)) = true := by kernel_rfl
theorem ia_all : ∀ i, i < 16 → ins i = true := by
  intro i hi
  have hq : i = 2 * (i / 2) + i % 2 := (Nat.div_add_mod i 2).symm
  have hr : i % 2 < 2 := Nat.mod_lt _ (by decide)
  have hd : i / 2 < 8 := by omega
  generalize i / 2 = q at hq hd
  generalize i % 2 = r at hq hr
  subst hq
  match q, hd with
  | 0, _ => exact List.all_eq_true.1 ia_0 r (List.mem_range.2 (by omega))
  | 1, _ => exact List.all_eq_true.1 ia_1 r (List.mem_range.2 (by omega))
  | 2, _ => exact List.all_eq_true.1 ia_2 r (List.mem_range.2 (by omega))
  | 3, _ => exact List.all_eq_true.1 ia_3 r (List.mem_range.2 (by omega))
  | 4, _ => exact List.all_eq_true.1 ia_4 r (List.mem_range.2 (by omega))
  | 5, _ => exact List.all_eq_true.1 ia_5 r (List.mem_range.2 (by omega))
  | 6, _ => exact List.all_eq_true.1 ia_6 r (List.mem_range.2 (by omega))
  | 7, _ => exact List.all_eq_true.1 ia_7 r (List.mem_range.2 (by omega))
  | q + 8, h => exact absurd h (by omega)
theorem aa_0 : ((List.range 1).all fun d => aas (0 + d)) = true := by kernel_rfl
theorem aa_1 : ((List.range 1).all fun d => aas (1 + d)) = true := by kernel_rfl
theorem aa_2 : ((List.range 1).all fun d => aas (2 + d)) = true := by kernel_rfl
theorem aa_3 : ((List.range 1).all fun d => aas (3 + d)) = true := by kernel_rfl
theorem aa_4 : ((List.range 1).all fun d => aas (4 + d)) = true := by kernel_rfl
theorem aa_5 : ((List.range 1).all fun d => aas (5 + d)) = true := by kernel_rfl
theorem aa_6 : ((List.range 1).all fun d => aas (6 + d)) = true := by kernel_rfl
theorem aa_7 : ((List.range 1).all fun d => aas (7 + d)) = true := by kernel_rfl
theorem aa_8 : ((List.range 1).all fun d => aas (8 + d)) = true := by kernel_rfl
theorem aa_9 : ((List.range 1).all fun d => aas (9 + d)) = true := by kernel_rfl
theorem aa_10 : ((List.range 1).all fun d => aas (10 + d)) = true := by kernel_rfl
theorem aa_11 : ((List.range 1).all fun d => aas (11 + d)) = true := by kernel_rfl
theorem aa_12 : ((List.range 1).all fun d => aas (12 + d)) = true := by kernel_rfl
theorem aa_13 : ((List.range 1).all fun d => aas (13 + d)) = true := by kernel_rfl
theorem aa_14 : ((List.range 1).all fun d => aas (14 + d)) = true := by kernel_rfl
theorem aa_15 : ((List.range 1).all fun d => aas (15 + d)) = true := by kernel_rfl
theorem aa_16 : ((List.range 1).all fun d => aas (16 + d)) = true := by kernel_rfl
theorem aa_17 : ((List.range 1).all fun d => aas (17 + d)) = true := by kernel_rfl
theorem aa_18 : ((List.range 1).all fun d => aas (18 + d)) = true := by kernel_rfl
theorem aa_19 : ((List.range 1).all fun d => aas (19 + d)) = true := by kernel_rfl
theorem aa_20 : ((List.range 1).all fun d => aas (20 + d)) = true := by kernel_rfl
theorem aa_21 : ((List.range 1).all fun d => aas (21 + d)) = true := by kernel_rfl
theorem aa_22 : ((List.range 1).all fun d => aas (22 + d)) = true := by kernel_rfl
theorem aa_23 : ((List.range 1).all fun d => aas (23 + d)) = true := by kernel_rfl
theorem aa_24 : ((List.range 1).all fun d => aas (24 + d)) = true := by kernel_rfl
theorem aa_25 : ((List.range 1).all fun d => aas (25 + d)) = true := by kernel_rfl
theorem aa_26 : ((List.range 1).all fun d => aas (26 + d)) = true := by kernel_rfl
theorem aa_27 : ((List.range 1).all fun d => aas (27 + d)) = true := by kernel_rfl
theorem aa_28 : ((List.range 1).all fun d => aas (28 + d)) = true := by kernel_rfl
theorem aa_29 : ((List.range 1).all fun d => aas (29 + d)) = true := by kernel_rfl
theorem aa_30 : ((List.range 1).all fun d => aas (30 + d)) = true := by kernel_rfl
theorem aa_31 : ((List.range 1).all fun d => aas (31 + d)) = true := by kernel_rfl
theorem aa_32 : ((List.range 1).all fun d => aas (32 + d)) = true := by kernel_rfl
theorem aa_33 : ((List.range 1).all fun d => aas (33 + d)) = true := by kernel_rfl
theorem aa_34 : ((List.range 1).all fun d => aas (34 + d)) = true := by kernel_rfl
theorem aa_35 : ((List.range 1).all fun d => aas (35 + d)) = true := by kernel_rfl
theorem aa_36 : ((List.range 1).all fun d => aas (36 + d)) = true := by kernel_rfl
theorem aa_37 : ((List.range 1).all fun d => aas (37 + d)) = true := by kernel_rfl
theorem aa_38 : ((List.range 1).all fun d => aas (38 + d)) = true := by kernel_rfl
theorem aa_39 : ((List.range 1).all fun d => aas (39 + d)) = true := by kernel_rfl
theorem aa_40 : ((List.range 1).all fun d => aas (40 + d)) = true := by kernel_rfl
theorem aa_41 : ((List.range 1).all fun d => aas (41 + d)) = true := by kernel_rfl
theorem aa_42 : ((List.range 1).all fun d => aas (42 + d)) = true := by kernel_rfl
theorem aa_43 : ((List.range 1).all fun d => aas (43 + d)) = true := by kernel_rfl
theorem aa_44 : ((List.range 1).all fun d => aas (44 + d)) = true := by kernel_rfl
theorem aa_45 : ((List.range 1).all fun d => aas (45 + d)) = true := by kernel_rfl
theorem aa_46 : ((List.range 1).all fun d => aas (46 + d)) = true := by kernel_rfl
theorem aa_47 : ((List.range 1).all fun d => aas (47 + d)) = true := by kernel_rfl
theorem aa_48 : ((List.range 1).all fun d => aas (48 + d)) = true := by kernel_rfl
theorem aa_49 : ((List.range 1).all fun d => aas (49 + d)) = true := by kernel_rfl
theorem aa_50 : ((List.range 1).all fun d => aas (50 + d)) = true := by kernel_rfl
theorem aa_51 : ((List.range 1).all fun d => aas (51 + d)) = true := by kernel_rfl
theorem aa_52 : ((List.range 1).all fun d => aas (52 + d)) = true := by kernel_rfl
theorem aa_53 : ((List.range 1).all fun d => aas (53 + d)) = true := by kernel_rfl
theorem aa_54 : ((List.range 1).all fun d => aas (54 + d)) = true := by kernel_rfl
theorem aa_55 : ((List.range 1).all fun d => aas (55 + d)) = true := by kernel_rfl
theorem aa_56 : ((List.range 1).all fun d => aas (56 + d)) = true := by kernel_rfl
theorem aa_57 : ((List.range 1).all fun d => aas (57 + d)) = true := by kernel_rfl
theorem aa_58 : ((List.range 1).all fun d => aas (58 + d)) = true := by kernel_rfl
theorem aa_59 : ((List.range 1).all fun d => aas (59 + d)) = true := by kernel_rfl
theorem aa_60 : ((List.range 1).all fun d => aas (60 + d)) = true := by kernel_rfl
theorem aa_61 : ((List.range 1).all fun d => aas (61 + d)) = true := by kernel_rfl
theorem aa_62 : ((List.range 1).all fun d => aas (62 + d)) = true := by kernel_rfl
theorem aa_63 : ((List.range 1).all fun d => aas (63 + d)) = true := by kernel_rfl
theorem aa_64 : ((List.range 1).all fun d => aas (64 + d)) = true := by kernel_rfl
theorem aa_65 : ((List.range 1).all fun d => aas (65 + d)) = true := by kernel_rfl
theorem aa_66 : ((List.range 1).all fun d => aas (66 + d)) = true := by kernel_rfl
theorem aa_67 : ((List.range 1).all fun d => aas (67 + d)) = true := by kernel_rfl
theorem aa_68 : ((List.range 1).all fun d => aas (68 + d)) = true := by kernel_rfl
theorem aa_69 : ((List.range 1).all fun d => aas (69 + d)) = true := by kernel_rfl
theorem aa_70 : ((List.range 1).all fun d => aas (70 + d)) = true := by kernel_rfl
theorem aa_71 : ((List.range 1).all fun d => aas (71 + d)) = true := by kernel_rfl
theorem aa_72 : ((List.range 1).all fun d => aas (72 + d)) = true := by kernel_rfl
theorem aa_73 : ((List.range 1).all fun d => aas (73 + d)) = true := by kernel_rfl
theorem aa_74 : ((List.range 1).all fun d => aas (74 + d)) = true := by kernel_rfl
theorem aa_75 : ((List.range 1).all fun d => aas (75 + d)) = true := by kernel_rfl
theorem aa_76 : ((List.range 1).all fun d => aas (76 + d)) = true := by kernel_rfl
theorem aa_77 : ((List.range 1).all fun d => aas (77 + d)) = true := by kernel_rfl
theorem aa_78 : ((List.range 1).all fun d => aas (78 + d)) = true := by kernel_rfl
theorem aa_79 : ((List.range 1).all fun d => aas (79 + d)) = true := by kernel_rfl
theorem aa_80 : ((List.range 1).all fun d => aas (80 + d)) = true := by kernel_rfl
theorem aa_81 : ((List.range 1).all fun d => aas (81 + d)) = true := by kernel_rfl
theorem aa_82 : ((List.range 1).all fun d => aas (82 + d)) = true := by kernel_rfl
theorem aa_83 : ((List.range 1).all fun d => aas (83 + d)) = true := by kernel_rfl
theorem aa_84 : ((List.range 1).all fun d => aas (84 + d)) = true := by kernel_rfl
theorem aa_85 : ((List.range 1).all fun d => aas (85 + d)) = true := by kernel_rfl
theorem aa_86 : ((List.range 1).all fun d => aas (86 + d)) = true := by kernel_rfl
theorem aa_87 : ((List.range 1).all fun d => aas (87 + d)) = true := by kernel_rfl
theorem aa_88 : ((List.range 1).all fun d => aas (88 + d)) = true := by kernel_rfl
theorem aa_89 : ((List.range 1).all fun d => aas (89 + d)) = true := by kernel_rfl
theorem aa_90 : ((List.range 1).all fun d => aas (90 + d)) = true := by kernel_rfl
theorem aa_91 : ((List.range 1).all fun d => aas (91 + d)) = true := by kernel_rfl
theorem aa_92 : ((List.range 1).all fun d => aas (92 + d)) = true := by kernel_rfl
theorem aa_93 : ((List.range 1).all fun d => aas (93 + d)) = true := by kernel_rfl
theorem aa_94 : ((List.range 1).all fun d => aas (94 + d)) = true := by kernel_rfl
theorem aa_95 : ((List.range 1).all fun d => aas (95 + d)) = true := by kernel_rfl
theorem aa_96 : ((List.range 1).all fun d => aas (96 + d)) = true := by kernel_rfl
theorem aa_97 : ((List.range 1).all fun d => aas (97 + d)) = true := by kernel_rfl
theorem aa_98 : ((List.range 1).all fun d => aas (98 + d)) = true := by kernel_rfl
theorem aa_99 : ((List.range 1).all fun d => aas (99 + d)) = true := by kernel_rfl
theorem aa_100 : ((List.range 1).all fun d => aas (100 + d)) = true := by kernel_rfl
theorem aa_101 : ((List.range 1).all fun d => aas (101 + d)) = true := by kernel_rfl
theorem aa_102 : ((List.range 1).all fun d => aas (102 + d)) = true := by kernel_rfl
theorem aa_103 : ((List.range 1).all fun d => aas (103 + d)) = true := by kernel_rfl
theorem aa_104 : ((List.range 1).all fun d => aas (104 + d)) = true := by kernel_rfl
theorem aa_105 : ((List.range 1).all fun d => aas (105 + d)) = true := by kernel_rfl
theorem aa_106 : ((List.range 1).all fun d => aas (106 + d)) = true := by kernel_rfl
theorem aa_107 : ((List.range 1).all fun d => aas (107 + d)) = true := by kernel_rfl
theorem aa_108 : ((List.range 1).all fun d => aas (108 + d)) = true := by kernel_rfl
theorem aa_109 : ((List.range 1).all fun d => aas (109 + d)) = true := by kernel_rfl
theorem aa_110 : ((List.range 1).all fun d => aas (110 + d)) = true := by kernel_rfl
theorem aa_111 : ((List.range 1).all fun d => aas (111 + d)) = true := by kernel_rfl
theorem aa_112 : ((List.range 1).all fun d => aas (112 + d)) = true := by kernel_rfl
theorem aa_113 : ((List.range 1).all fun d => aas (113 + d)) = true := by kernel_rfl
theorem aa_114 : ((List.range 1).all fun d => aas (114 + d)) = true := by kernel_rfl
theorem aa_115 : ((List.range 1).all fun d => aas (115 + d)) = true := by kernel_rfl
theorem aa_116 : ((List.range 1).all fun d => aas (116 + d)) = true := by kernel_rfl
theorem aa_117 : ((List.range 1).all fun d => aas (117 + d)) = true := by kernel_rfl
theorem aa_118 : ((List.range 1).all fun d => aas (118 + d)) = true := by kernel_rfl
theorem aa_119 : ((List.range 1).all fun d => aas (119 + d)) = true := by kernel_rfl
theorem aa_120 : ((List.range 1).all fun d => aas (120 + d)) = true := by kernel_rfl
theorem aa_121 : ((List.range 1).all fun d => aas (121 + d)) = true := by kernel_rfl
theorem aa_122 : ((List.range 1).all fun d => aas (122 + d)) = true := by kernel_rfl
theorem aa_123 : ((List.range 1).all fun d => aas (123 + d)) = true := by kernel_rfl
theorem aa_124 : ((List.range 1).all fun d => aas (124 + d)) = true := by kernel_rfl
theorem aa_125 : ((List.range 1).all fun d => aas (125 + d)) = true := by kernel_rfl
theorem aa_126 : ((List.range 1).all fun d => aas (126 + d)) = true := by kernel_rfl
theorem aa_127 : ((List.range 1).all fun d => aas (127 + d)) = true := by kernel_rfl
theorem aa_128 : ((List.range 1).all fun d => aas (128 + d)) = true := by kernel_rfl
theorem aa_129 : ((List.range 1).all fun d => aas (129 + d)) = true := by kernel_rfl
theorem aa_130 : ((List.range 1).all fun d => aas (130 + d)) = true := by kernel_rfl
theorem aa_131 : ((List.range 1).all fun d => aas (131 + d)) = true := by kernel_rfl
theorem aa_132 : ((List.range 1).all fun d => aas (132 + d)) = true := by kernel_rfl
theorem aa_133 : ((List.range 1).all fun d => aas (133 + d)) = true := by kernel_rfl
theorem aa_134 : ((List.range 1).all fun d => aas (134 + d)) = true := by kernel_rfl
theorem aa_135 : ((List.range 1).all fun d => aas (135 + d)) = true := by kernel_rfl
theorem aa_136 : ((List.range 1).all fun d => aas (136 + d)) = true := by kernel_rfl
theorem aa_137 : ((List.range 1).all fun d => aas (137 + d)) = true := by kernel_rfl
theorem aa_138 : ((List.range 1).all fun d => aas (138 + d)) = true := by kernel_rfl
theorem aa_139 : ((List.range 1).all fun d => aas (139 + d)) = true := by kernel_rfl
theorem aa_140 : ((List.range 1).all fun d => aas (140 + d)) = true := by kernel_rfl
theorem aa_141 : ((List.range 1).all fun d => aas (141 + d)) = true := by kernel_rfl
theorem aa_142 : ((List.range 1).all fun d => aas (142 + d)) = true := by kernel_rfl
theorem aa_143 : ((List.range 1).all fun d => aas (143 + d)) = true := by kernel_rfl
theorem aa_144 : ((List.range 1).all fun d => aas (144 + d)) = true := by kernel_rfl
theorem aa_145 : ((List.range 1).all fun d => aas (145 + d)) = true := by kernel_rfl
theorem aa_146 : ((List.range 1).all fun d => aas (146 + d)) = true := by kernel_rfl
theorem aa_147 : ((List.range 1).all fun d => aas (147 + d)) = true := by kernel_rfl
theorem aa_148 : ((List.range 1).all fun d => aas (148 + d)) = true := by kernel_rfl
theorem aa_149 : ((List.range 1).all fun d => aas (149 + d)) = true := by kernel_rfl
theorem aa_150 : ((List.range 1).all fun d => aas (150 + d)) = true := by kernel_rfl
theorem aa_151 : ((List.range 1).all fun d => aas (151 + d)) = true := by kernel_rfl
theorem aa_152 : ((List.range 1).all fun d => aas (152 + d)) = true := by kernel_rfl
theorem aa_153 : ((List.range 1).all fun d => aas (153 + d)) = true := by kernel_rfl
theorem aa_154 : ((List.range 1).all fun d => aas (154 + d)) = true := by kernel_rfl
theorem aa_155 : ((List.range 1).all fun d => aas (155 + d)) = true := by kernel_rfl
theorem aa_156 : ((List.range 1).all fun d => aas (156 + d)) = true := by kernel_rfl
theorem aa_157 : ((List.range 1).all fun d => aas (157 + d)) = true := by kernel_rfl
theorem aa_158 : ((List.range 1).all fun d => aas (158 + d)) = true := by kernel_rfl
theorem aa_159 : ((List.range 1).all fun d => aas (159 + d)) = true := by kernel_rfl
theorem aa_160 : ((List.range 1).all fun d => aas (160 + d)) = true := by kernel_rfl
theorem aa_161 : ((List.range 1).all fun d => aas (161 + d)) = true := by kernel_rfl
theorem aa_162 : ((List.range 1).all fun d => aas (162 + d)) = true := by kernel_rfl
theorem aa_163 : ((List.range 1).all fun d => aas (163 + d)) = true := by kernel_rfl
theorem aa_164 : ((List.range 1).all fun d => aas (164 + d)) = true := by kernel_rfl
theorem aa_165 : ((List.range 1).all fun d => aas (165 + d)) = true := by kernel_rfl
theorem aa_166 : ((List.range 1).all fun d => aas (166 + d)) = true := by kernel_rfl
theorem aa_167 : ((List.range 1).all fun d => aas (167 + d)) = true := by kernel_rfl
theorem aa_168 : ((List.range 1).all fun d => aas (168 + d)) = true := by kernel_rfl
theorem aa_169 : ((List.range 1).all fun d => aas (169 + d)) = true := by kernel_rfl
theorem aa_170 : ((List.range 1).all fun d => aas (170 + d)) = true := by kernel_rfl
theorem aa_171 : ((List.range 1).all fun d => aas (171 + d)) = true := by kernel_rfl
theorem aa_172 : ((List.range 1).all fun d => aas (172 + d)) = true := by kernel_rfl
theorem aa_173 : ((List.range 1).all fun d => aas (173 + d)) = true := by kernel_rfl
theorem aa_174 : ((List.range 1).all fun d => aas (174 + d)) = true := by kernel_rfl
theorem aa_175 : ((List.range 1).all fun d => aas (175 + d)) = true := by kernel_rfl
theorem aa_176 : ((List.range 1).all fun d => aas (176 + d)) = true := by kernel_rfl
theorem aa_177 : ((List.range 1).all fun d => aas (177 + d)) = true := by kernel_rfl
theorem aa_178 : ((List.range 1).all fun d => aas (178 + d)) = true := by kernel_rfl
theorem aa_179 : ((List.range 1).all fun d => aas (179 + d)) = true := by kernel_rfl
theorem aa_180 : ((List.range 1).all fun d => aas (180 + d)) = true := by kernel_rfl
theorem aa_181 : ((List.range 1).all fun d => aas (181 + d)) = true := by kernel_rfl
theorem aa_182 : ((List.range 1).all fun d => aas (182 + d)) = true := by kernel_rfl
theorem aa_183 : ((List.range 1).all fun d => aas (183 + d)) = true := by kernel_rfl
theorem aa_184 : ((List.range 1).all fun d => aas (184 + d)) = true := by kernel_rfl
theorem aa_185 : ((List.range 1).all fun d => aas (185 + d)) = true := by kernel_rfl
theorem aa_186 : ((List.range 1).all fun d => aas (186 + d)) = true := by kernel_rfl
theorem aa_187 : ((List.range 1).all fun d => aas (187 + d)) = true := by kernel_rfl
theorem aa_188 : ((List.range 1).all fun d => aas (188 + d)) = true := by kernel_rfl
theorem aa_189 : ((List.range 1).all fun d => aas (189 + d)) = true := by kernel_rfl
theorem aa_190 : ((List.range 1).all fun d => aas (190 + d)) = true := by kernel_rfl
theorem aa_191 : ((List.range 1).all fun d => aas (191 + d)) = true := by kernel_rfl
theorem aa_192 : ((List.range 1).all fun d => aas (192 + d)) = true := by kernel_rfl
theorem aa_193 : ((List.range 1).all fun d => aas (193 + d)) = true := by kernel_rfl
theorem aa_194 : ((List.range 1).all fun d => aas (194 + d)) = true := by kernel_rfl
theorem aa_195 : ((List.range 1).all fun d => aas (195 + d)) = true := by kernel_rfl
theorem aa_196 : ((List.range 1).all fun d => aas (196 + d)) = true := by kernel_rfl
theorem aa_197 : ((List.range 1).all fun d => aas (197 + d)) = true := by kernel_rfl
theorem aa_198 : ((List.range 1).all fun d => aas (198 + d)) = true := by kernel_rfl
theorem aa_199 : ((List.range 1).all fun d => aas (199 + d)) = true := by kernel_rfl
theorem aa_200 : ((List.range 1).all fun d => aas (200 + d)) = true := by kernel_rfl
theorem aa_201 : ((List.range 1).all fun d => aas (201 + d)) = true := by kernel_rfl
theorem aa_202 : ((List.range 1).all fun d => aas (202 + d)) = true := by kernel_rfl
theorem aa_203 : ((List.range 1).all fun d => aas (203 + d)) = true := by kernel_rfl
theorem aa_204 : ((List.range 1).all fun d => aas (204 + d)) = true := by kernel_rfl
theorem aa_205 : ((List.range 1).all fun d => aas (205 + d)) = true := by kernel_rfl
theorem aa_206 : ((List.range 1).all fun d => aas (206 + d)) = true := by kernel_rfl
theorem aa_207 : ((List.range 1).all fun d => aas (207 + d)) = true := by kernel_rfl
theorem aa_208 : ((List.range 1).all fun d => aas (208 + d)) = true := by kernel_rfl
theorem aa_209 : ((List.range 1).all fun d => aas (209 + d)) = true := by kernel_rfl
theorem aa_210 : ((List.range 1).all fun d => aas (210 + d)) = true := by kernel_rfl
theorem aa_211 : ((List.range 1).all fun d => aas (211 + d)) = true := by kernel_rfl
theorem aa_212 : ((List.range 1).all fun d => aas (212 + d)) = true := by kernel_rfl
theorem aa_213 : ((List.range 1).all fun d => aas (213 + d)) = true := by kernel_rfl
theorem aa_214 : ((List.range 1).all fun d => aas (214 + d)) = true := by kernel_rfl
theorem aa_215 : ((List.range 1).all fun d => aas (215 + d)) = true := by kernel_rfl
theorem aa_216 : ((List.range 1).all fun d => aas (216 + d)) = true := by kernel_rfl
theorem aa_217 : ((List.range 1).all fun d => aas (217 + d)) = true := by kernel_rfl
theorem aa_218 : ((List.range 1).all fun d => aas (218 + d)) = true := by kernel_rfl
theorem aa_219 : ((List.range 1).all fun d => aas (219 + d)) = true := by kernel_rfl
theorem aa_220 : ((List.range 1).all fun d => aas (220 + d)) = true := by kernel_rfl
theorem aa_221 : ((List.range 1).all fun d => aas (221 + d)) = true := by kernel_rfl
theorem aa_222 : ((List.range 1).all fun d => aas (222 + d)) = true := by kernel_rfl
theorem aa_223 : ((List.range 1).all fun d => aas (223 + d)) = true := by kernel_rfl
theorem aa_224 : ((List.range 1).all fun d => aas (224 + d)) = true := by kernel_rfl
theorem aa_225 : ((List.range 1).all fun d => aas (225 + d)) = true := by kernel_rfl
theorem aa_226 : ((List.range 1).all fun d => aas (226 + d)) = true := by kernel_rfl
theorem aa_227 : ((List.range 1).all fun d => aas (227 + d)) = true := by kernel_rfl
theorem aa_228 : ((List.range 1).all fun d => aas (228 + d)) = true := by kernel_rfl
theorem aa_229 : ((List.range 1).all fun d => aas (229 + d)) = true := by kernel_rfl
theorem aa_230 : ((List.range 1).all fun d => aas (230 + d)) = true := by kernel_rfl
theorem aa_231 : ((List.range 1).all fun d => aas (231 + d)) = true := by kernel_rfl
theorem aa_232 : ((List.range 1).all fun d => aas (232 + d)) = true := by kernel_rfl
theorem aa_233 : ((List.range 1).all fun d => aas (233 + d)) = true := by kernel_rfl
theorem aa_234 : ((List.range 1).all fun d => aas (234 + d)) = true := by kernel_rfl
theorem aa_235 : ((List.range 1).all fun d => aas (235 + d)) = true := by kernel_rfl
theorem aa_236 : ((List.range 1).all fun d => aas (236 + d)) = true := by kernel_rfl
theorem aa_237 : ((List.range 1).all fun d => aas (237 + d)) = true := by kernel_rfl
theorem aa_238 : ((List.range 1).all fun d => aas (238 + d)) = true := by kernel_rfl
theorem aa_239 : ((List.range 1).all fun d => aas (239 + d)) = true := by kernel_rfl
theorem aa_240 : ((List.range 1).all fun d => aas (240 + d)) = true := by kernel_rfl
theorem aa_241 : ((List.range 1).all fun d => aas (241 + d)) = true := by kernel_rfl
theorem aa_242 : ((List.range 1).all fun d => aas (242 + d)) = true := by kernel_rfl
theorem aa_243 : ((List.range 1).all fun d => aas (243 + d)) = true := by kernel_rfl
theorem aa_244 : ((List.range 1).all fun d => aas (244 + d)) = true := by kernel_rfl
theorem aa_245 : ((List.range 1).all fun d => aas (245 + d)) = true := by kernel_rfl
theorem aa_246 : ((List.range 1).all fun d => aas (246 + d)) = true := by kernel_rfl
theorem aa_247 : ((List.range 1).all fun d => aas (247 + d)) = true := by kernel_rfl
theorem aa_248 : ((List.range 1).all fun d => aas (248 + d)) = true := by kernel_rfl
theorem aa_249 : ((List.range 1).all fun d => aas (249 + d)) = true := by kernel_rfl
theorem aa_250 : ((List.range 1).all fun d => aas (250 + d)) = true := by kernel_rfl
theorem aa_251 : ((List.range 1).all fun d => aas (251 + d)) = true := by kernel_rfl
theorem aa_252 : ((List.range 1).all fun d => aas (252 + d)) = true := by kernel_rfl
theorem aa_253 : ((List.range 1).all fun d => aas (253 + d)) = true := by kernel_rfl
theorem aa_254 : ((List.range 1).all fun d => aas (254 + d)) = true := by kernel_rfl
theorem aa_255 : ((List.range 1).all fun d => aas (255 + d)) = true := by kernel_rfl
theorem aa_256 : ((List.range 1).all fun d => aas (256 + d)) = true := by kernel_rfl
theorem aa_257 : ((List.range 1).all fun d => aas (257 + d)) = true := by kernel_rfl
theorem aa_258 : ((List.range 1).all fun d => aas (258 + d)) = true := by kernel_rfl
theorem aa_259 : ((List.range 1).all fun d => aas (259 + d)) = true := by kernel_rfl
theorem aa_260 : ((List.range 1).all fun d => aas (260 + d)) = true := by kernel_rfl
theorem aa_261 : ((List.range 1).all fun d => aas (261 + d)) = true := by kernel_rfl
theorem aa_262 : ((List.range 1).all fun d => aas (262 + d)) = true := by kernel_rfl
theorem aa_263 : ((List.range 1).all fun d => aas (263 + d)) = true := by kernel_rfl
theorem aa_264 : ((List.range 1).all fun d => aas (264 + d)) = true := by kernel_rfl
theorem aa_265 : ((List.range 1).all fun d => aas (265 + d)) = true := by kernel_rfl
theorem aa_266 : ((List.range 1).all fun d => aas (266 + d)) = true := by kernel_rfl
theorem aa_267 : ((List.range 1).all fun d => aas (267 + d)) = true := by kernel_rfl
theorem aa_268 : ((List.range 1).all fun d => aas (268 + d)) = true := by kernel_rfl
theorem aa_269 : ((List.range 1).all fun d => aas (269 + d)) = true := by kernel_rfl
theorem aa_270 : ((List.range 1).all fun d => aas (270 + d)) = true := by kernel_rfl
theorem aa_271 : ((List.range 1).all fun d => aas (271 + d)) = true := by kernel_rfl
theorem aa_all : ∀ i, i < 272 → aas i = true := by
  intro i hi
  have hq : i = 1 * (i / 1) + i % 1 := (Nat.div_add_mod i 1).symm
  have hr : i % 1 < 1 := Nat.mod_lt _ (by decide)
  have hd : i / 1 < 272 := by omega
  generalize i / 1 = q at hq hd
  generalize i % 1 = r at hq hr
  subst hq
  match q, hd with
  | 0, _ => exact List.all_eq_true.1 aa_0 r (List.mem_range.2 (by omega))
  | 1, _ => exact List.all_eq_true.1 aa_1 r (List.mem_range.2 (by omega))
  | 2, _ => exact List.all_eq_true.1 aa_2 r (List.mem_range.2 (by omega))
  | 3, _ => exact List.all_eq_true.1 aa_3 r (List.mem_range.2 (by omega))
  | 4, _ => exact List.all_eq_true.1 aa_4 r (List.mem_range.2 (by omega))
  | 5, _ => exact List.all_eq_true.1 aa_5 r (List.mem_range.2 (by omega))
  | 6, _ => exact List.all_eq_true.1 aa_6 r (List.mem_range.2 (by omega))
  | 7, _ => exact List.all_eq_true.1 aa_7 r (List.mem_range.2 (by omega))
  | 8, _ => exact List.all_eq_true.1 aa_8 r (List.mem_range.2 (by omega))
  | 9, _ => exact List.all_eq_true.1 aa_9 r (List.mem_range.2 (by omega))
  | 10, _ => exact List.all_eq_true.1 aa_10 r (List.mem_range.2 (by omega))
  | 11, _ => exact List.all_eq_true.1 aa_11 r (List.mem_range.2 (by omega))
  | 12, _ => exact List.all_eq_true.1 aa_12 r (List.mem_range.2 (by omega))
  | 13, _ => exact List.all_eq_true.1 aa_13 r (List.mem_range.2 (by omega))
  | 14, _ => exact List.all_eq_true.1 aa_14 r (List.mem_range.2 (by omega))
  | 15, _ => exact List.all_eq_true.1 aa_15 r (List.mem_range.2 (by omega))
  | 16, _ => exact List.all_eq_true.1 aa_16 r (List.mem_range.2 (by omega))
  | 17, _ => exact List.all_eq_true.1 aa_17 r (List.mem_range.2 (by omega))
  | 18, _ => exact List.all_eq_true.1 aa_18 r (List.mem_range.2 (by omega))
  | 19, _ => exact List.all_eq_true.1 aa_19 r (List.mem_range.2 (by omega))
  | 20, _ => exact List.all_eq_true.1 aa_20 r (List.mem_range.2 (by omega))
  | 21, _ => exact List.all_eq_true.1 aa_21 r (List.mem_range.2 (by omega))
  | 22, _ => exact List.all_eq_true.1 aa_22 r (List.mem_range.2 (by omega))
  | 23, _ => exact List.all_eq_true.1 aa_23 r (List.mem_range.2 (by omega))
  | 24, _ => exact List.all_eq_true.1 aa_24 r (List.mem_range.2 (by omega))
  | 25, _ => exact List.all_eq_true.1 aa_25 r (List.mem_range.2 (by omega))
  | 26, _ => exact List.all_eq_true.1 aa_26 r (List.mem_range.2 (by omega))
  | 27, _ => exact List.all_eq_true.1 aa_27 r (List.mem_range.2 (by omega))
  | 28, _ => exact List.all_eq_true.1 aa_28 r (List.mem_range.2 (by omega))
  | 29, _ => exact List.all_eq_true.1 aa_29 r (List.mem_range.2 (by omega))
  | 30, _ => exact List.all_eq_true.1 aa_30 r (List.mem_range.2 (by omega))
  | 31, _ => exact List.all_eq_true.1 aa_31 r (List.mem_range.2 (by omega))
  | 32, _ => exact List.all_eq_true.1 aa_32 r (List.mem_range.2 (by omega))
  | 33, _ => exact List.all_eq_true.1 aa_33 r (List.mem_range.2 (by omega))
  | 34, _ => exact List.all_eq_true.1 aa_34 r (List.mem_range.2 (by omega))
  | 35, _ => exact List.all_eq_true.1 aa_35 r (List.mem_range.2 (by omega))
  | 36, _ => exact List.all_eq_true.1 aa_36 r (List.mem_range.2 (by omega))
  | 37, _ => exact List.all_eq_true.1 aa_37 r (List.mem_range.2 (by omega))
  | 38, _ => exact List.all_eq_true.1 aa_38 r (List.mem_range.2 (by omega))
  | 39, _ => exact List.all_eq_true.1 aa_39 r (List.mem_range.2 (by omega))
  | 40, _ => exact List.all_eq_true.1 aa_40 r (List.mem_range.2 (by omega))
  | 41, _ => exact List.all_eq_true.1 aa_41 r (List.mem_range.2 (by omega))
  | 42, _ => exact List.all_eq_true.1 aa_42 r (List.mem_range.2 (by omega))
  | 43, _ => exact List.all_eq_true.1 aa_43 r (List.mem_range.2 (by omega))
  | 44, _ => exact List.all_eq_true.1 aa_44 r (List.mem_range.2 (by omega))
  | 45, _ => exact List.all_eq_true.1 aa_45 r (List.mem_range.2 (by omega))
  | 46, _ => exact List.all_eq_true.1 aa_46 r (List.mem_range.2 (by omega))
  | 47, _ => exact List.all_eq_true.1 aa_47 r (List.mem_range.2 (by omega))
  | 48, _ => exact List.all_eq_true.1 aa_48 r (List.mem_range.2 (by omega))
  | 49, _ => exact List.all_eq_true.1 aa_49 r (List.mem_range.2 (by omega))
  | 50, _ => exact List.all_eq_true.1 aa_50 r (List.mem_range.2 (by omega))
  | 51, _ => exact List.all_eq_true.1 aa_51 r (List.mem_range.2 (by omega))
  | 52, _ => exact List.all_eq_true.1 aa_52 r (List.mem_range.2 (by omega))
  | 53, _ => exact List.all_eq_true.1 aa_53 r (List.mem_range.2 (by omega))
  | 54, _ => exact List.all_eq_true.1 aa_54 r (List.mem_range.2 (by omega))
  | 55, _ => exact List.all_eq_true.1 aa_55 r (List.mem_range.2 (by omega))
  | 56, _ => exact List.all_eq_true.1 aa_56 r (List.mem_range.2 (by omega))
  | 57, _ => exact List.all_eq_true.1 aa_57 r (List.mem_range.2 (by omega))
  | 58, _ => exact List.all_eq_true.1 aa_58 r (List.mem_range.2 (by omega))
  | 59, _ => exact List.all_eq_true.1 aa_59 r (List.mem_range.2 (by omega))
  | 60, _ => exact List.all_eq_true.1 aa_60 r (List.mem_range.2 (by omega))
  | 61, _ => exact List.all_eq_true.1 aa_61 r (List.mem_range.2 (by omega))
  | 62, _ => exact List.all_eq_true.1 aa_62 r (List.mem_range.2 (by omega))
  | 63, _ => exact List.all_eq_true.1 aa_63 r (List.mem_range.2 (by omega))
  | 64, _ => exact List.all_eq_true.1 aa_64 r (List.mem_range.2 (by omega))
  | 65, _ => exact List.all_eq_true.1 aa_65 r (List.mem_range.2 (by omega))
  | 66, _ => exact List.all_eq_true.1 aa_66 r (List.mem_range.2 (by omega))
  | 67, _ => exact List.all_eq_true.1 aa_67 r (List.mem_range.2 (by omega))
  | 68, _ => exact List.all_eq_true.1 aa_68 r (List.mem_range.2 (by omega))
  | 69, _ => exact List.all_eq_true.1 aa_69 r (List.mem_range.2 (by omega))
  | 70, _ => exact List.all_eq_true.1 aa_70 r (List.mem_range.2 (by omega))
  | 71, _ => exact List.all_eq_true.1 aa_71 r (List.mem_range.2 (by omega))
  | 72, _ => exact List.all_eq_true.1 aa_72 r (List.mem_range.2 (by omega))
  | 73, _ => exact List.all_eq_true.1 aa_73 r (List.mem_range.2 (by omega))
  | 74, _ => exact List.all_eq_true.1 aa_74 r (List.mem_range.2 (by omega))
  | 75, _ => exact List.all_eq_true.1 aa_75 r (List.mem_range.2 (by omega))
  | 76, _ => exact List.all_eq_true.1 aa_76 r (List.mem_range.2 (by omega))
  | 77, _ => exact List.all_eq_true.1 aa_77 r (List.mem_range.2 (by omega))
  | 78, _ => exact List.all_eq_true.1 aa_78 r (List.mem_range.2 (by omega))
  | 79, _ => exact List.all_eq_true.1 aa_79 r (List.mem_range.2 (by omega))
  | 80, _ => exact List.all_eq_true.1 aa_80 r (List.mem_range.2 (by omega))
  | 81, _ => exact List.all_eq_true.1 aa_81 r (List.mem_range.2 (by omega))
  | 82, _ => exact List.all_eq_true.1 aa_82 r (List.mem_range.2 (by omega))
  | 83, _ => exact List.all_eq_true.1 aa_83 r (List.mem_range.2 (by omega))
  | 84, _ => exact List.all_eq_true.1 aa_84 r (List.mem_range.2 (by omega))
  | 85, _ => exact List.all_eq_true.1 aa_85 r (List.mem_range.2 (by omega))
  | 86, _ => exact List.all_eq_true.1 aa_86 r (List.mem_range.2 (by omega))
  | 87, _ => exact List.all_eq_true.1 aa_87 r (List.mem_range.2 (by omega))
  | 88, _ => exact List.all_eq_true.1 aa_88 r (List.mem_range.2 (by omega))
  | 89, _ => exact List.all_eq_true.1 aa_89 r (List.mem_range.2 (by omega))
  | 90, _ => exact List.all_eq_true.1 aa_90 r (List.mem_range.2 (by omega))
  | 91, _ => exact List.all_eq_true.1 aa_91 r (List.mem_range.2 (by omega))
  | 92, _ => exact List.all_eq_true.1 aa_92 r (List.mem_range.2 (by omega))
  | 93, _ => exact List.all_eq_true.1 aa_93 r (List.mem_range.2 (by omega))
  | 94, _ => exact List.all_eq_true.1 aa_94 r (List.mem_range.2 (by omega))
  | 95, _ => exact List.all_eq_true.1 aa_95 r (List.mem_range.2 (by omega))
  | 96, _ => exact List.all_eq_true.1 aa_96 r (List.mem_range.2 (by omega))
  | 97, _ => exact List.all_eq_true.1 aa_97 r (List.mem_range.2 (by omega))
  | 98, _ => exact List.all_eq_true.1 aa_98 r (List.mem_range.2 (by omega))
  | 99, _ => exact List.all_eq_true.1 aa_99 r (List.mem_range.2 (by omega))
  | 100, _ => exact List.all_eq_true.1 aa_100 r (List.mem_range.2 (by omega))
  | 101, _ => exact List.all_eq_true.1 aa_101 r (List.mem_range.2 (by omega))
  | 102, _ => exact List.all_eq_true.1 aa_102 r (List.mem_range.2 (by omega))
  | 103, _ => exact List.all_eq_true.1 aa_103 r (List.mem_range.2 (by omega))
  | 104, _ => exact List.all_eq_true.1 aa_104 r (List.mem_range.2 (by omega))
  | 105, _ => exact List.all_eq_true.1 aa_105 r (List.mem_range.2 (by omega))
  | 106, _ => exact List.all_eq_true.1 aa_106 r (List.mem_range.2 (by omega))
  | 107, _ => exact List.all_eq_true.1 aa_107 r (List.mem_range.2 (by omega))
  | 108, _ => exact List.all_eq_true.1 aa_108 r (List.mem_range.2 (by omega))
  | 109, _ => exact List.all_eq_true.1 aa_109 r (List.mem_range.2 (by omega))
  | 110, _ => exact List.all_eq_true.1 aa_110 r (List.mem_range.2 (by omega))
  | 111, _ => exact List.all_eq_true.1 aa_111 r (List.mem_range.2 (by omega))
  | 112, _ => exact List.all_eq_true.1 aa_112 r (List.mem_range.2 (by omega))
  | 113, _ => exact List.all_eq_true.1 aa_113 r (List.mem_range.2 (by omega))
  | 114, _ => exact List.all_eq_true.1 aa_114 r (List.mem_range.2 (by omega))
  | 115, _ => exact List.all_eq_true.1 aa_115 r (List.mem_range.2 (by omega))
  | 116, _ => exact List.all_eq_true.1 aa_116 r (List.mem_range.2 (by omega))
  | 117, _ => exact List.all_eq_true.1 aa_117 r (List.mem_range.2 (by omega))
  | 118, _ => exact List.all_eq_true.1 aa_118 r (List.mem_range.2 (by omega))
  | 119, _ => exact List.all_eq_true.1 aa_119 r (List.mem_range.2 (by omega))
  | 120, _ => exact List.all_eq_true.1 aa_120 r (List.mem_range.2 (by omega))
  | 121, _ => exact List.all_eq_true.1 aa_121 r (List.mem_range.2 (by omega))
  | 122, _ => exact List.all_eq_true.1 aa_122 r (List.mem_range.2 (by omega))
  | 123, _ => exact List.all_eq_true.1 aa_123 r (List.mem_range.2 (by omega))
  | 124, _ => exact List.all_eq_true.1 aa_124 r (List.mem_range.2 (by omega))
  | 125, _ => exact List.all_eq_true.1 aa_125 r (List.mem_range.2 (by omega))
  | 126, _ => exact List.all_eq_true.1 aa_126 r (List.mem_range.2 (by omega))
  | 127, _ => exact List.all_eq_true.1 aa_127 r (List.mem_range.2 (by omega))
  | 128, _ => exact List.all_eq_true.1 aa_128 r (List.mem_range.2 (by omega))
  | 129, _ => exact List.all_eq_true.1 aa_129 r (List.mem_range.2 (by omega))
  | 130, _ => exact List.all_eq_true.1 aa_130 r (List.mem_range.2 (by omega))
  | 131, _ => exact List.all_eq_true.1 aa_131 r (List.mem_range.2 (by omega))
  | 132, _ => exact List.all_eq_true.1 aa_132 r (List.mem_range.2 (by omega))
  | 133, _ => exact List.all_eq_true.1 aa_133 r (List.mem_range.2 (by omega))
  | 134, _ => exact List.all_eq_true.1 aa_134 r (List.mem_range.2 (by omega))
  | 135, _ => exact List.all_eq_true.1 aa_135 r (List.mem_range.2 (by omega))
  | 136, _ => exact List.all_eq_true.1 aa_136 r (List.mem_range.2 (by omega))
  | 137, _ => exact List.all_eq_true.1 aa_137 r (List.mem_range.2 (by omega))
  | 138, _ => exact List.all_eq_true.1 aa_138 r (List.mem_range.2 (by omega))
  | 139, _ => exact List.all_eq_true.1 aa_139 r (List.mem_range.2 (by omega))
  | 140, _ => exact List.all_eq_true.1 aa_140 r (List.mem_range.2 (by omega))
  | 141, _ => exact List.all_eq_true.1 aa_141 r (List.mem_range.2 (by omega))
  | 142, _ => exact List.all_eq_true.1 aa_142 r (List.mem_range.2 (by omega))
  | 143, _ => exact List.all_eq_true.1 aa_143 r (List.mem_range.2 (by omega))
  | 144, _ => exact List.all_eq_true.1 aa_144 r (List.mem_range.2 (by omega))
  | 145, _ => exact List.all_eq_true.1 aa_145 r (List.mem_range.2 (by omega))
  | 146, _ => exact List.all_eq_true.1 aa_146 r (List.mem_range.2 (by omega))
  | 147, _ => exact List.all_eq_true.1 aa_147 r (List.mem_range.2 (by omega))
  | 148, _ => exact List.all_eq_true.1 aa_148 r (List.mem_range.2 (by omega))
  | 149, _ => exact List.all_eq_true.1 aa_149 r (List.mem_range.2 (by omega))
  | 150, _ => exact List.all_eq_true.1 aa_150 r (List.mem_range.2 (by omega))
  | 151, _ => exact List.all_eq_true.1 aa_151 r (List.mem_range.2 (by omega))
  | 152, _ => exact List.all_eq_true.1 aa_152 r (List.mem_range.2 (by omega))
  | 153, _ => exact List.all_eq_true.1 aa_153 r (List.mem_range.2 (by omega))
  | 154, _ => exact List.all_eq_true.1 aa_154 r (List.mem_range.2 (by omega))
  | 155, _ => exact List.all_eq_true.1 aa_155 r (List.mem_range.2 (by omega))
  | 156, _ => exact List.all_eq_true.1 aa_156 r (List.mem_range.2 (by omega))
  | 157, _ => exact List.all_eq_true.1 aa_157 r (List.mem_range.2 (by omega))
  | 158, _ => exact List.all_eq_true.1 aa_158 r (List.mem_range.2 (by omega))
  | 159, _ => exact List.all_eq_true.1 aa_159 r (List.mem_range.2 (by omega))
  | 160, _ => exact List.all_eq_true.1 aa_160 r (List.mem_range.2 (by omega))
  | 161, _ => exact List.all_eq_true.1 aa_161 r (List.mem_range.2 (by omega))
  | 162, _ => exact List.all_eq_true.1 aa_162 r (List.mem_range.2 (by omega))
  | 163, _ => exact List.all_eq_true.1 aa_163 r (List.mem_range.2 (by omega))
  | 164, _ => exact List.all_eq_true.1 aa_164 r (List.mem_range.2 (by omega))
  | 165, _ => exact List.all_eq_true.1 aa_165 r (List.mem_range.2 (by omega))
  | 166, _ => exact List.all_eq_true.1 aa_166 r (List.mem_range.2 (by omega))
  | 167, _ => exact List.all_eq_true.1 aa_167 r (List.mem_range.2 (by omega))
  | 168, _ => exact List.all_eq_true.1 aa_168 r (List.mem_range.2 (by omega))
  | 169, _ => exact List.all_eq_true.1 aa_169 r (List.mem_range.2 (by omega))
  | 170, _ => exact List.all_eq_true.1 aa_170 r (List.mem_range.2 (by omega))
  | 171, _ => exact List.all_eq_true.1 aa_171 r (List.mem_range.2 (by omega))
  | 172, _ => exact List.all_eq_true.1 aa_172 r (List.mem_range.2 (by omega))
  | 173, _ => exact List.all_eq_true.1 aa_173 r (List.mem_range.2 (by omega))
  | 174, _ => exact List.all_eq_true.1 aa_174 r (List.mem_range.2 (by omega))
  | 175, _ => exact List.all_eq_true.1 aa_175 r (List.mem_range.2 (by omega))
  | 176, _ => exact List.all_eq_true.1 aa_176 r (List.mem_range.2 (by omega))
  | 177, _ => exact List.all_eq_true.1 aa_177 r (List.mem_range.2 (by omega))
  | 178, _ => exact List.all_eq_true.1 aa_178 r (List.mem_range.2 (by omega))
  | 179, _ => exact List.all_eq_true.1 aa_179 r (List.mem_range.2 (by omega))
  | 180, _ => exact List.all_eq_true.1 aa_180 r (List.mem_range.2 (by omega))
  | 181, _ => exact List.all_eq_true.1 aa_181 r (List.mem_range.2 (by omega))
  | 182, _ => exact List.all_eq_true.1 aa_182 r (List.mem_range.2 (by omega))
  | 183, _ => exact List.all_eq_true.1 aa_183 r (List.mem_range.2 (by omega))
  | 184, _ => exact List.all_eq_true.1 aa_184 r (List.mem_range.2 (by omega))
  | 185, _ => exact List.all_eq_true.1 aa_185 r (List.mem_range.2 (by omega))
  | 186, _ => exact List.all_eq_true.1 aa_186 r (List.mem_range.2 (by omega))
  | 187, _ => exact List.all_eq_true.1 aa_187 r (List.mem_range.2 (by omega))
  | 188, _ => exact List.all_eq_true.1 aa_188 r (List.mem_range.2 (by omega))
  | 189, _ => exact List.all_eq_true.1 aa_189 r (List.mem_range.2 (by omega))
  | 190, _ => exact List.all_eq_true.1 aa_190 r (List.mem_range.2 (by omega))
  | 191, _ => exact List.all_eq_true.1 aa_191 r (List.mem_range.2 (by omega))
  | 192, _ => exact List.all_eq_true.1 aa_192 r (List.mem_range.2 (by omega))
  | 193, _ => exact List.all_eq_true.1 aa_193 r (List.mem_range.2 (by omega))
  | 194, _ => exact List.all_eq_true.1 aa_194 r (List.mem_range.2 (by omega))
  | 195, _ => exact List.all_eq_true.1 aa_195 r (List.mem_range.2 (by omega))
  | 196, _ => exact List.all_eq_true.1 aa_196 r (List.mem_range.2 (by omega))
  | 197, _ => exact List.all_eq_true.1 aa_197 r (List.mem_range.2 (by omega))
  | 198, _ => exact List.all_eq_true.1 aa_198 r (List.mem_range.2 (by omega))
  | 199, _ => exact List.all_eq_true.1 aa_199 r (List.mem_range.2 (by omega))
  | 200, _ => exact List.all_eq_true.1 aa_200 r (List.mem_range.2 (by omega))
  | 201, _ => exact List.all_eq_true.1 aa_201 r (List.mem_range.2 (by omega))
  | 202, _ => exact List.all_eq_true.1 aa_202 r (List.mem_range.2 (by omega))
  | 203, _ => exact List.all_eq_true.1 aa_203 r (List.mem_range.2 (by omega))
  | 204, _ => exact List.all_eq_true.1 aa_204 r (List.mem_range.2 (by omega))
  | 205, _ => exact List.all_eq_true.1 aa_205 r (List.mem_range.2 (by omega))
  | 206, _ => exact List.all_eq_true.1 aa_206 r (List.mem_range.2 (by omega))
  | 207, _ => exact List.all_eq_true.1 aa_207 r (List.mem_range.2 (by omega))
  | 208, _ => exact List.all_eq_true.1 aa_208 r (List.mem_range.2 (by omega))
  | 209, _ => exact List.all_eq_true.1 aa_209 r (List.mem_range.2 (by omega))
  | 210, _ => exact List.all_eq_true.1 aa_210 r (List.mem_range.2 (by omega))
  | 211, _ => exact List.all_eq_true.1 aa_211 r (List.mem_range.2 (by omega))
  | 212, _ => exact List.all_eq_true.1 aa_212 r (List.mem_range.2 (by omega))
  | 213, _ => exact List.all_eq_true.1 aa_213 r (List.mem_range.2 (by omega))
  | 214, _ => exact List.all_eq_true.1 aa_214 r (List.mem_range.2 (by omega))
  | 215, _ => exact List.all_eq_true.1 aa_215 r (List.mem_range.2 (by omega))
  | 216, _ => exact List.all_eq_true.1 aa_216 r (List.mem_range.2 (by omega))
  | 217, _ => exact List.all_eq_true.1 aa_217 r (List.mem_range.2 (by omega))
  | 218, _ => exact List.all_eq_true.1 aa_218 r (List.mem_range.2 (by omega))
  | 219, _ => exact List.all_eq_true.1 aa_219 r (List.mem_range.2 (by omega))
  | 220, _ => exact List.all_eq_true.1 aa_220 r (List.mem_range.2 (by omega))
  | 221, _ => exact List.all_eq_true.1 aa_221 r (List.mem_range.2 (by omega))
  | 222, _ => exact List.all_eq_true.1 aa_222 r (List.mem_range.2 (by omega))
  | 223, _ => exact List.all_eq_true.1 aa_223 r (List.mem_range.2 (by omega))
  | 224, _ => exact List.all_eq_true.1 aa_224 r (List.mem_range.2 (by omega))
  | 225, _ => exact List.all_eq_true.1 aa_225 r (List.mem_range.2 (by omega))
  | 226, _ => exact List.all_eq_true.1 aa_226 r (List.mem_range.2 (by omega))
  | 227, _ => exact List.all_eq_true.1 aa_227 r (List.mem_range.2 (by omega))
  | 228, _ => exact List.all_eq_true.1 aa_228 r (List.mem_range.2 (by omega))
  | 229, _ => exact List.all_eq_true.1 aa_229 r (List.mem_range.2 (by omega))
  | 230, _ => exact List.all_eq_true.1 aa_230 r (List.mem_range.2 (by omega))
  | 231, _ => exact List.all_eq_true.1 aa_231 r (List.mem_range.2 (by omega))
  | 232, _ => exact List.all_eq_true.1 aa_232 r (List.mem_range.2 (by omega))
  | 233, _ => exact List.all_eq_true.1 aa_233 r (List.mem_range.2 (by omega))
  | 234, _ => exact List.all_eq_true.1 aa_234 r (List.mem_range.2 (by omega))
  | 235, _ => exact List.all_eq_true.1 aa_235 r (List.mem_range.2 (by omega))
  | 236, _ => exact List.all_eq_true.1 aa_236 r (List.mem_range.2 (by omega))
  | 237, _ => exact List.all_eq_true.1 aa_237 r (List.mem_range.2 (by omega))
  | 238, _ => exact List.all_eq_true.1 aa_238 r (List.mem_range.2 (by omega))
  | 239, _ => exact List.all_eq_true.1 aa_239 r (List.mem_range.2 (by omega))
  | 240, _ => exact List.all_eq_true.1 aa_240 r (List.mem_range.2 (by omega))
  | 241, _ => exact List.all_eq_true.1 aa_241 r (List.mem_range.2 (by omega))
  | 242, _ => exact List.all_eq_true.1 aa_242 r (List.mem_range.2 (by omega))
  | 243, _ => exact List.all_eq_true.1 aa_243 r (List.mem_range.2 (by omega))
  | 244, _ => exact List.all_eq_true.1 aa_244 r (List.mem_range.2 (by omega))
  | 245, _ => exact List.all_eq_true.1 aa_245 r (List.mem_range.2 (by omega))
  | 246, _ => exact List.all_eq_true.1 aa_246 r (List.mem_range.2 (by omega))
  | 247, _ => exact List.all_eq_true.1 aa_247 r (List.mem_range.2 (by omega))
  | 248, _ => exact List.all_eq_true.1 aa_248 r (List.mem_range.2 (by omega))
  | 249, _ => exact List.all_eq_true.1 aa_249 r (List.mem_range.2 (by omega))
  | 250, _ => exact List.all_eq_true.1 aa_250 r (List.mem_range.2 (by omega))
  | 251, _ => exact List.all_eq_true.1 aa_251 r (List.mem_range.2 (by omega))
  | 252, _ => exact List.all_eq_true.1 aa_252 r (List.mem_range.2 (by omega))
  | 253, _ => exact List.all_eq_true.1 aa_253 r (List.mem_range.2 (by omega))
  | 254, _ => exact List.all_eq_true.1 aa_254 r (List.mem_range.2 (by omega))
  | 255, _ => exact List.all_eq_true.1 aa_255 r (List.mem_range.2 (by omega))
  | 256, _ => exact List.all_eq_true.1 aa_256 r (List.mem_range.2 (by omega))
  | 257, _ => exact List.all_eq_true.1 aa_257 r (List.mem_range.2 (by omega))
  | 258, _ => exact List.all_eq_true.1 aa_258 r (List.mem_range.2 (by omega))
  | 259, _ => exact List.all_eq_true.1 aa_259 r (List.mem_range.2 (by omega))
  | 260, _ => exact List.all_eq_true.1 aa_260 r (List.mem_range.2 (by omega))
  | 261, _ => exact List.all_eq_true.1 aa_261 r (List.mem_range.2 (by omega))
  | 262, _ => exact List.all_eq_true.1 aa_262 r (List.mem_range.2 (by omega))
  | 263, _ => exact List.all_eq_true.1 aa_263 r (List.mem_range.2 (by omega))
  | 264, _ => exact List.all_eq_true.1 aa_264 r (List.mem_range.2 (by omega))
  | 265, _ => exact List.all_eq_true.1 aa_265 r (List.mem_range.2 (by omega))
  | 266, _ => exact List.all_eq_true.1 aa_266 r (List.mem_range.2 (by omega))
  | 267, _ => exact List.all_eq_true.1 aa_267 r (List.mem_range.2 (by omega))
  | 268, _ => exact List.all_eq_true.1 aa_268 r (List.mem_range.2 (by omega))
  | 269, _ => exact List.all_eq_true.1 aa_269 r (List.mem_range.2 (by omega))
  | 270, _ => exact List.all_eq_true.1 aa_270 r (List.mem_range.2 (by omega))
  | 271, _ => exact List.all_eq_true.1 aa_271 r (List.mem_range.2 (by omega))
  | q + 272, h => exact absurd h (by omega)
end Go.Proofs.YtolngjaihlggnaaGreatDoor.PL
