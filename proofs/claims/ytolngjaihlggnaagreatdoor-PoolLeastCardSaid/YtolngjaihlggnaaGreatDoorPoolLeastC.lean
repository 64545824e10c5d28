import Derived.Test.YtolngjaihlggnaaGreatDoorPoolLeastBase
/-! PoolLeast: frames taken. -/
namespace Go.Proofs.YtolngjaihlggnaaGreatDoor.PL
open Go.Ev Go.Ev.Pg Go.Ev.PL
set_option linter.unusedVariables false
set_option linter.unusedSimpArgs false
theorem ca_0 : ((List.range 1).all fun d => ccs (0 + d)) = true := by kernel_rfl
theorem ca_1 : ((List.range 1).all fun d => ccs (1 + d)) = true := by kernel_rfl
theorem ca_2 : ((List.range 1).all fun d => ccs (2 + d)) = true := by kernel_rfl
theorem ca_3 : ((List.range 1).all fun d => ccs (3 + d)) = true := by kernel_rfl
theorem ca_4 : ((List.range 1).all fun d => ccs (4 + d)) = true := by kernel_rfl
theorem ca_5 : ((List.range 1).all fun d => ccs (5 + d)) = true := by kernel_rfl
theorem ca_6 : ((List.range 1).all fun d => ccs (6 + d)) = true := by kernel_rfl
theorem ca_7 : ((List.range 1).all fun d => ccs (7 + d)) = true := by kernel_rfl
theorem ca_8 : ((List.range 1).all fun d => ccs (8 + d)) = true := by kernel_rfl
theorem ca_9 : ((List.range 1).all fun d => ccs (9 + d)) = true := by kernel_rfl
theorem ca_10 : ((List.range 1).all fun d => ccs (10 + d)) = true := by kernel_rfl
theorem ca_11 : ((List.range 1).all fun d => ccs (11 + d)) = true := by kernel_rfl
theorem ca_12 : ((List.range 1).all fun d => ccs (12 + d)) = true := by kernel_rfl
theorem ca_13 : ((List.range 1).all fun d => ccs (13 + d)) = true := by kernel_rfl
theorem ca_14 : ((List.range 1).all fun d => ccs (14 + d)) = true := by kernel_rfl
theorem ca_15 : ((List.range 1).all fun d => ccs (15 + d)) = true := by kernel_rfl
theorem ca_16 : ((List.range 1).all fun d => ccs (16 + d)) = true := by kernel_rfl
theorem ca_17 : ((List.range 1).all fun d => ccs (17 + d)) = true := by kernel_rfl
theorem ca_18 : ((List.range 1).all fun d => ccs (18 + d)) = true := by kernel_rfl
theorem ca_19 : ((List.range 1).all fun d => ccs (19 + d)) = true := by kernel_rfl
theorem ca_20 : ((List.range 1).all fun d => ccs (20 + d)) = true := by kernel_rfl
theorem ca_21 : ((List.range 1).all fun d => ccs (21 + d)) = true := by kernel_rfl
theorem ca_22 : ((List.range 1).all fun d => ccs (22 + d)) = true := by kernel_rfl
theorem ca_23 : ((List.range 1).all fun d => ccs (23 + d)) = true := by kernel_rfl
theorem ca_24 : ((List.range 1).all fun d => ccs (24 + d)) = true := by kernel_rfl
theorem ca_25 : ((List.range 1).all fun d => ccs (25 + d)) = true := by kernel_rfl
theorem ca_26 : ((List.range 1).all fun d => ccs (26 + d)) = true := by kernel_rfl
theorem ca_27 : ((List.range 1).all fun d => ccs (27 + d)) = true := by kernel_rfl
theorem ca_28 : ((List.range 1).all fun d => ccs (28 + d)) = true := by kernel_rfl
theorem ca_29 : ((List.range 1).all fun d => ccs (29 + d)) = true := by kernel_rfl
theorem ca_30 : ((List.range 1).all fun d => ccs (30 + d)) = true := by kernel_rfl
theorem ca_31 : ((List.range 1).all fun d => ccs (31 + d)) = true := by kernel_rfl
theorem ca_32 : ((List.range 1).all fun d => ccs (32 + d)) = true := by kernel_rfl
theorem ca_33 : ((List.range 1).all fun d => ccs (33 + d)) = true := by kernel_rfl
theorem ca_34 : ((List.range 1).all fun d => ccs (34 + d)) = true := by kernel_rfl
theorem ca_35 : ((List.range 1).all fun d => ccs (35 + d)) = true := by kernel_rfl
theorem ca_36 : ((List.range 1).all fun d => ccs (36 + d)) = true := by kernel_rfl
theorem ca_37 : ((List.range 1).all fun d => ccs (37 + d)) = true := by kernel_rfl
theorem ca_38 : ((List.range 1).all fun d => ccs (38 + d)) = true := by kernel_rfl
theorem ca_39 : ((List.range 1).all fun d => ccs (39 + d)) = true := by kernel_rfl
theorem ca_40 : ((List.range 1).all fun d => ccs (40 + d)) = true := by kernel_rfl
theorem ca_41 : ((List.range 1).all fun d => ccs (41 + d)) = true := by kernel_rfl
theorem ca_42 : ((List.range 1).all fun d => ccs (42 + d)) = true := by kernel_rfl
theorem ca_43 : ((List.range 1).all fun d => ccs (43 + d)) = true := by kernel_rfl
theorem ca_44 : ((List.range 1).all fun d => ccs (44 + d)) = true := by kernel_rfl
theorem ca_45 : ((List.range 1).all fun d => ccs (45 + d)) = true := by kernel_rfl
theorem ca_46 : ((List.range 1).all fun d => ccs (46 + d)) = true := by kernel_rfl
theorem ca_47 : ((List.range 1).all fun d => ccs (47 + d)) = true := by kernel_rfl
theorem ca_48 : ((List.range 1).all fun d => ccs (48 + d)) = true := by kernel_rfl
theorem ca_49 : ((List.range 1).all fun d => ccs (49 + d)) = true := by kernel_rfl
theorem ca_50 : ((List.range 1).all fun d => ccs (50 + d)) = true := by kernel_rfl
theorem ca_51 : ((List.range 1).all fun d => ccs (51 + d)) = true := by kernel_rfl
theorem ca_52 : ((List.range 1).all fun d => ccs (52 + d)) = true := by kernel_rfl
theorem ca_53 : ((List.range 1).all fun d => ccs (53 + d)) = true := by kernel_rfl
theorem ca_54 : ((List.range 1).all fun d => ccs (54 + d)) = true := by kernel_rfl
theorem ca_55 : ((List.range 1).all fun d => ccs (55 + d)) = true := by kernel_rfl
theorem ca_56 : ((List.range 1).all fun d => ccs (56 + d)) = true := by kernel_rfl
theorem ca_57 : ((List.range 1).all fun d => ccs (57 + d)) = true := by kernel_rfl
theorem ca_58 : ((List.range 1).all fun d => ccs (58 + d)) = true := by kernel_rfl
theorem ca_59 : ((List.range 1).all fun d => ccs (59 + d)) = true := by kernel_rfl
theorem ca_60 : ((List.range 1).all fun d => ccs (60 + d)) = true := by kernel_rfl
theorem ca_61 : ((List.range 1).all fun d => ccs (61 + d)) = true := by kernel_rfl
theorem ca_62 : ((List.range 1).all fun d => ccs (62 + d)) = true := by kernel_rfl
theorem ca_63 : ((List.range 1).all fun d => ccs (63 + d)) = true := by kernel_rfl
theorem ca_64 : ((List.range 1).all fun d => ccs (64 + d)) = true := by kernel_rfl
theorem ca_65 : ((List.range 1).all fun d => ccs (65 + d)) = true := by kernel_rfl
theorem ca_66 : ((List.range 1).all fun d => ccs (66 + d)) = true := by kernel_rfl
theorem ca_67 : ((List.range 1).all fun d => ccs (67 + d)) = true := by kernel_rfl
theorem ca_68 : ((List.range 1).all fun d => ccs (68 + d)) = true := by kernel_rfl
theorem ca_69 : ((List.range 1).all fun d => ccs (69 + d)) = true := by kernel_rfl
theorem ca_70 : ((List.range 1).all fun d => ccs (70 + d)) = true := by kernel_rfl
theorem ca_71 : ((List.range 1).all fun d => ccs (71 + d)) = true := by kernel_rfl
theorem ca_72 : ((List.range 1).all fun d => ccs (72 + d)) = true := by kernel_rfl
theorem ca_73 : ((List.range 1).all fun d => ccs (73 + d)) = true := by kernel_rfl
theorem ca_74 : ((List.range 1).all fun d => ccs (74 + d)) = true := by kernel_rfl
theorem ca_75 : ((List.range 1).all fun d => ccs (75 + d)) = true := by kernel_rfl
theorem ca_76 : ((List.range 1).all fun d => ccs (76 + d)) = true := by kernel_rfl
theorem ca_77 : ((List.range 1).all fun d => ccs (77 + d)) = true := by kernel_rfl
theorem ca_78 : ((List.range 1).all fun d => ccs (78 + d)) = true := by kernel_rfl
theorem ca_79 : ((List.range 1).all fun d => ccs (79 + d)) = true := by kernel_rfl
theorem ca_80 : ((List.range 1).all fun d => ccs (80 + d)) = true := by kernel_rfl
theorem ca_81 : ((List.range 1).all fun d => ccs (81 + d)) = true := by kernel_rfl
theorem ca_82 : ((List.range 1).all fun d => ccs (82 + d)) = true := by kernel_rfl
theorem ca_83 : ((List.range 1).all fun d => ccs (83 + d)) = true := by kernel_rfl
theorem ca_84 : ((List.range 1).all fun d => ccs (84 + d)) = true := by kernel_rfl
theorem ca_85 : ((List.range 1).all fun d => ccs (85 + d)) = true := by kernel_rfl
theorem ca_86 : ((List.range 1).all fun d => ccs (86 + d)) = true := by kernel_rfl
theorem ca_87 : ((List.range 1).all fun d => ccs (87 + d)) = true := by kernel_rfl
theorem ca_88 : ((List.range 1).all fun d => ccs (88 + d)) = true := by kernel_rfl
theorem ca_89 : ((List.range 1).all fun d => ccs (89 + d)) = true := by kernel_rfl
theorem ca_90 : ((List.range 1).all fun d => ccs (90 + d)) = true := by kernel_rfl
theorem ca_91 : ((List.range 1).all fun d => ccs (91 + d)) = true := by kernel_rfl
theorem ca_92 : ((List.range 1).all fun d => ccs (92 + d)) = true := by kernel_rfl
theorem ca_93 : ((List.range 1).all fun d => ccs (93 + d)) = true := by kernel_rfl
theorem ca_94 : ((List.range 1).all fun d => ccs (94 + d)) = true := by kernel_rfl
theorem ca_95 : ((List.range 1).all fun d => ccs (95 + d)) = true := by kernel_rfl
theorem ca_96 : ((List.range 1).all fun d => ccs (96 + d)) = true := by kernel_rfl
theorem ca_97 : ((List.range 1).all fun d => ccs (97 + d)) = true := by kernel_rfl
theorem ca_98 : ((List.range 1).all fun d => ccs (98 + d)) = true := by kernel_rfl
theorem ca_99 : ((List.range 1).all fun d => ccs (99 + d)) = true := by kernel_rfl
theorem ca_100 : ((List.range 1).all fun d => ccs (100 + d)) = true := by kernel_rfl
theorem ca_101 : ((List.range 1).all fun d => ccs (101 + d)) = true := by kernel_rfl
theorem ca_102 : ((List.range 1).all fun d => ccs (102 + d)) = true := by kernel_rfl
theorem ca_103 : ((List.range 1).all fun d => ccs (103 + d)) = true := by kernel_rfl
theorem ca_104 : ((List.range 1).all fun d => ccs (104 + d)) = true := by kernel_rfl
theorem ca_105 : ((List.range 1).all fun d => ccs (105 + d)) = true := by kernel_rfl
theorem ca_106 : ((List.range 1).all fun d => ccs (106 + d)) = true := by kernel_rfl
theorem ca_107 : ((List.range 1).all fun d => ccs (107 + d)) = true := by kernel_rfl
theorem ca_108 : ((List.range 1).all fun d => ccs (108 + d)) = true := by kernel_rfl
theorem ca_109 : ((List.range 1).all fun d => ccs (109 + d)) = true := by kernel_rfl
theorem ca_110 : ((List.range 1).all fun d => ccs (110 + d)) = true := by kernel_rfl
theorem ca_111 : ((List.range 1).all fun d => ccs (111 + d)) = true := by kernel_rfl
theorem ca_112 : ((List.range 1).all fun d => ccs (112 + d)) = true := by kernel_rfl
theorem ca_113 : ((List.range 1).all fun d => ccs (113 + d)) = true := by kernel_rfl
theorem ca_114 : ((List.range 1).all fun d => ccs (114 + d)) = true := by kernel_rfl
theorem ca_115 : ((List.range 1).all fun d => ccs (115 + d)) = true := by kernel_rfl
theorem ca_116 : ((List.range 1).all fun d => ccs (116 + d)) = true := by kernel_rfl
theorem ca_117 : ((List.range 1).all fun d => ccs (117 + d)) = true := by kernel_rfl
theorem ca_118 : ((List.range 1).all fun d => ccs (118 + d)) = true := by kernel_rfl
theorem ca_119 : ((List.range 1).all fun d => ccs (119 + d)) = true := by kernel_rfl
theorem ca_120 : ((List.range 1).all fun d => ccs (120 + d)) = true := by kernel_rfl
theorem ca_121 : ((List.range 1).all fun d => ccs (121 + d)) = true := by kernel_rfl
theorem ca_122 : ((List.range 1).all fun d => ccs (122 + d)) = true := by kernel_rfl
theorem ca_123 : ((List.range 1).all fun d => ccs (123 + d)) = true := by kernel_rfl
theorem ca_124 : ((List.range 1).all fun d => ccs (124 + d)) = true := by kernel_rfl
theorem ca_125 : ((List.range 1).all fun d => ccs (125 + d)) = true := by kernel_rfl
theorem ca_126 : ((List.range 1).all fun d => ccs (126 + d)) = true := by kernel_rfl
theorem ca_127 : ((List.range 1).all fun d => ccs (127 + d)) = true := by kernel_rfl
theorem ca_128 : ((List.range 1).all fun d => ccs (128 + d)) = true := by kernel_rfl
theorem ca_129 : ((List.range 1).all fun d => ccs (129 + d)) = true := by kernel_rfl
theorem ca_130 : ((List.range 1).all fun d => ccs (130 + d)) = true := by kernel_rfl
theorem ca_131 : ((List.range 1).all fun d => ccs (131 + d)) = true := by kernel_rfl
theorem ca_132 : ((List.range 1).all fun d => ccs (132 + d)) = true := by kernel_rfl
theorem ca_133 : ((List.range 1).all fun d => ccs (133 + d)) = true := by kernel_rfl
theorem ca_134 : ((List.range 1).all fun d => ccs (134 + d)) = true := by kernel_rfl
theorem ca_135 : ((List.range 1).all fun d => ccs (135 + d)) = true := by kernel_rfl
theorem ca_136 : ((List.range 1).all fun d => ccs (136 + d)) = true := by kernel_rfl
theorem ca_137 : ((List.range 1).all fun d => ccs (137 + d)) = true := by kernel_rfl
theorem ca_138 : ((List.range 1).all fun d => ccs (138 + d)) = true := by kernel_rfl
theorem ca_139 : ((List.range 1).all fun d => ccs (139 + d)) = true := by kernel_rfl
theorem ca_140 : ((List.range 1).all fun d => ccs (140 + d)) = true := by kernel_rfl
theorem ca_141 : ((List.range 1).all fun d => ccs (141 + d)) = true := by kernel_rfl
theorem ca_142 : ((List.range 1).all fun d => ccs (142 + d)) = true := by kernel_rfl
theorem ca_143 : ((List.range 1).all fun d => ccs (143 + d)) = true := by kernel_rfl
theorem ca_144 : ((List.range 1).all fun d => ccs (144 + d)) = true := by kernel_rfl
theorem ca_145 : ((List.range 1).all fun d => ccs (145 + d)) = true := by kernel_rfl
theorem ca_146 : ((List.range 1).all fun d => ccs (146 + d)) = true := by kernel_rfl
theorem ca_147 : ((List.range 1).all fun d => ccs (147 + d)) = true := by kernel_rfl
theorem ca_148 : ((List.range 1).all fun d => ccs (148 + d)) = true := by kernel_rfl
theorem ca_149 : ((List.range 1).all fun d => ccs (149 + d)) = true := by kernel_rfl
theorem ca_150 : ((List.range 1).all fun d => ccs (150 + d)) = true := by kernel_rfl
theorem ca_151 : ((List.range 1).all fun d => ccs (151 + d)) = true := by kernel_rfl
theorem ca_152 : ((List.range 1).all fun d => ccs (152 + d)) = true := by kernel_rfl
theorem ca_153 : ((List.range 1).all fun d => ccs (153 + d)) = true := by kernel_rfl
theorem ca_154 : ((List.range 1).all fun d => ccs (154 + d)) = true := by kernel_rfl
theorem ca_155 : ((List.range 1).all fun d => ccs (155 + d)) = true := by kernel_rfl
theorem ca_156 : ((List.range 1).all fun d => ccs (156 + d)) = true := by kernel_rfl
theorem ca_157 : ((List.range 1).all fun d => ccs (157 + d)) = true := by kernel_rfl
theorem ca_158 : ((List.range 1).all fun d => ccs (158 + d)) = true := by kernel_rfl
theorem ca_159 : ((List.range 1).all fun d => ccs (159 + d)) = true := by kernel_rfl
theorem ca_160 : ((List.range 1).all fun d => ccs (160 + d)) = true := by kernel_rfl
theorem ca_161 : ((List.range 1).all fun d => ccs (161 + d)) = true := by kernel_rfl
theorem ca_162 : ((List.range 1).all fun d => ccs (162 + d)) = true := by kernel_rfl
theorem ca_163 : ((List.range 1).all fun d => ccs (163 + d)) = true := by kernel_rfl
theorem ca_164 : ((List.range 1).all fun d => ccs (164 + d)) = true := by kernel_rfl
theorem ca_165 : ((List.range 1).all fun d => ccs (165 + d)) = true := by kernel_rfl
theorem ca_166 : ((List.range 1).all fun d => ccs (166 + d)) = true := by kernel_rfl
theorem ca_167 : ((List.range 1).all fun d => ccs (167 + d)) = true := by kernel_rfl
theorem ca_168 : ((List.range 1).all fun d => ccs (168 + d)) = true := by kernel_rfl
theorem ca_169 : ((List.range 1).all fun d => ccs (169 + d)) = true := by kernel_rfl
theorem ca_170 : ((List.range 1).all fun d => ccs (170 + d)) = true := by kernel_rfl
theorem ca_171 : ((List.range 1).all fun d => ccs (171 + d)) = true := by kernel_rfl
theorem ca_172 : ((List.range 1).all fun d => ccs (172 + d)) = true := by kernel_rfl
theorem ca_173 : ((List.range 1).all fun d => ccs (173 + d)) = true := by kernel_rfl
theorem ca_174 : ((List.range 1).all fun d => ccs (174 + d)) = true := by kernel_rfl
theorem ca_175 : ((List.range 1).all fun d => ccs (175 + d)) = true := by kernel_rfl
theorem ca_176 : ((List.range 1).all fun d => ccs (176 + d)) = true := by kernel_rfl
theorem ca_177 : ((List.range 1).all fun d => ccs (177 + d)) = true := by kernel_rfl
theorem ca_178 : ((List.range 1).all fun d => ccs (178 + d)) = true := by kernel_rfl
theorem ca_179 : ((List.range 1).all fun d => ccs (179 + d)) = true := by kernel_rfl
theorem ca_180 : ((List.range 1).all fun d => ccs (180 + d)) = true := by kernel_rfl
theorem ca_181 : ((List.range 1).all fun d => ccs (181 + d)) = true := by kernel_rfl
theorem ca_182 : ((List.range 1).all fun d => ccs (182 + d)) = true := by kernel_rfl
theorem ca_183 : ((List.range 1).all fun d => ccs (183 + d)) = true := by kernel_rfl
theorem ca_184 : ((List.range 1).all fun d => ccs (184 + d)) = true := by kernel_rfl
theorem ca_185 : ((List.range 1).all fun d => ccs (185 + d)) = true := by kernel_rfl
theorem ca_186 : ((List.range 1).all fun d => ccs (186 + d)) = true := by kernel_rfl
theorem ca_187 : ((List.range 1).all fun d => ccs (187 + d)) = true := by kernel_rfl
theorem ca_188 : ((List.range 1).all fun d => ccs (188 + d)) = true := by kernel_rfl
theorem ca_189 : ((List.range 1).all fun d => ccs (189 + d)) = true := by kernel_rfl
theorem ca_190 : ((List.range 1).all fun d => ccs (190 + d)) = true := by kernel_rfl
theorem ca_191 : ((List.range 1).all fun d => ccs (191 + d)) = true := by kernel_rfl
theorem ca_192 : ((List.range 1).all fun d => ccs (192 + d)) = true := by kernel_rfl
theorem ca_193 : ((List.range 1).all fun d => ccs (193 + d)) = true := by kernel_rfl
theorem ca_194 : ((List.range 1).all fun d => ccs (194 + d)) = true := by kernel_rfl
theorem ca_195 : ((List.range 1).all fun d => ccs (195 + d)) = true := by kernel_rfl
theorem ca_196 : ((List.range 1).all fun d => ccs (196 + d)) = true := by kernel_rfl
theorem ca_197 : ((List.range 1).all fun d => ccs (197 + d)) = true := by kernel_rfl
theorem ca_198 : ((List.range 1).all fun d => ccs (198 + d)) = true := by kernel_rfl
theorem ca_199 : ((List.range 1).all fun d => ccs (199 + d)) = true := by kernel_rfl
theorem ca_200 : ((List.range 1).all fun d => ccs (200 + d)) = true := by kernel_rfl
theorem ca_201 : ((List.range 1).all fun d => ccs (201 + d)) = true := by kernel_rfl
theorem ca_202 : ((List.range 1).all fun d => ccs (202 + d)) = true := by kernel_rfl
theorem ca_203 : ((List.range 1).all fun d => ccs (203 + d)) = true := by kernel_rfl
theorem ca_204 : ((List.range 1).all fun d => ccs (204 + d)) = true := by kernel_rfl
theorem ca_205 : ((List.range 1).all fun d => ccs (205 + d)) = true := by kernel_rfl
theorem ca_206 : ((List.range 1).all fun d => ccs (206 + d)) = true := by kernel_rfl
theorem ca_207 : ((List.range 1).all fun d => ccs (207 + d)) = true := by kernel_rfl
theorem ca_208 : ((List.range 1).all fun d => ccs (208 + d)) = true := by kernel_rfl
theorem ca_209 : ((List.range 1).all fun d => ccs (209 + d)) = true := by kernel_rfl
theorem ca_210 : ((List.range 1).all fun d => ccs (210 + d)) = true := by kernel_rfl
theorem ca_211 : ((List.range 1).all fun d => ccs (211 + d)) = true := by kernel_rfl
theorem ca_212 : ((List.range 1).all fun d => ccs (212 + d)) = true := by kernel_rfl
theorem ca_213 : ((List.range 1).all fun d => ccs (213 + d)) = true := by kernel_rfl
theorem ca_214 : ((List.range 1).all fun d => ccs (214 + d)) = true := by kernel_rfl
theorem ca_215 : ((List.range 1).all fun d => ccs (215 + d)) = true := by kernel_rfl
theorem ca_216 : ((List.range 1).all fun d => ccs (216 + d)) = true := by kernel_rfl
theorem ca_217 : ((List.range 1).all fun d => ccs (217 + d)) = true := by kernel_rfl
theorem ca_218 : ((List.range 1).all fun d => ccs (218 + d)) = true := by kernel_rfl
theorem ca_219 : ((List.range 1).all fun d => ccs (219 + d)) = true := by kernel_rfl
theorem ca_220 : ((List.range 1).all fun d => ccs (220 + d)) = true := by kernel_rfl
theorem ca_221 : ((List.range 1).all fun d => ccs (221 + d)) = true := by kernel_rfl
theorem ca_222 : ((List.range 1).all fun d => ccs (222 + d)) = true := by kernel_rfl
theorem ca_223 : ((List.range 1).all fun d => ccs (223 + d)) = true := by kernel_rfl
theorem ca_224 : ((List.range 1).all fun d => ccs (224 + d)) = true := by kernel_rfl
theorem ca_225 : ((List.range 1).all fun d => ccs (225 + d)) = true := by kernel_rfl
theorem ca_226 : ((List.range 1).all fun d => ccs (226 + d)) = true := by kernel_rfl
theorem ca_227 : ((List.range 1).all fun d => ccs (227 + d)) = true := by kernel_rfl
theorem ca_228 : ((List.range 1).all fun d => ccs (228 + d)) = true := by kernel_rfl
theorem ca_229 : ((List.range 1).all fun d => ccs (229 + d)) = true := by kernel_rfl
theorem ca_230 : ((List.range 1).all fun d => ccs (230 + d)) = true := by kernel_rfl
theorem ca_231 : ((List.range 1).all fun d => ccs (231 + d)) = true := by kernel_rfl
theorem ca_232 : ((List.range 1).all fun d => ccs (232 + d)) = true := by kernel_rfl
theorem ca_233 : ((List.range 1).all fun d => ccs (233 + d)) = true := by kernel_rfl
theorem ca_234 : ((List.range 1).all fun d => ccs (234 + d)) = true := by kernel_rfl
theorem ca_235 : ((List.range 1).all fun d => ccs (235 + d)) = true := by kernel_rfl
theorem ca_236 : ((List.range 1).all fun d => ccs (236 + d)) = true := by kernel_rfl
theorem ca_237 : ((List.range 1).all fun d => ccs (237 + d)) = true := by kernel_rfl
theorem ca_238 : ((List.range 1).all fun d => ccs (238 + d)) = true := by kernel_rfl
theorem ca_239 : ((List.range 1).all fun d => ccs (239 + d)) = true := by kernel_rfl
theorem ca_240 : ((List.range 1).all fun d => ccs (240 + d)) = true := by kernel_rfl
theorem ca_241 : ((List.range 1).all fun d => ccs (241 + d)) = true := by kernel_rfl
theorem ca_242 : ((List.range 1).all fun d => ccs (242 + d)) = true := by kernel_rfl
theorem ca_243 : ((List.range 1).all fun d => ccs (243 + d)) = true := by kernel_rfl
theorem ca_244 : ((List.range 1).all fun d => ccs (244 + d)) = true := by kernel_rfl
theorem ca_245 : ((List.range 1).all fun d => ccs (245 + d)) = true := by kernel_rfl
theorem ca_246 : ((List.range 1).all fun d => ccs (246 + d)) = true := by kernel_rfl
theorem ca_247 : ((List.range 1).all fun d => ccs (247 + d)) = true := by kernel_rfl
theorem ca_248 : ((List.range 1).all fun d => ccs (248 + d)) = true := by kernel_rfl
theorem ca_249 : ((List.range 1).all fun d => ccs (249 + d)) = true := by kernel_rfl
theorem ca_250 : ((List.range 1).all fun d => ccs (250 + d)) = true := by kernel_rfl
theorem ca_251 : ((List.range 1).all fun d => ccs (251 + d)) = true := by kernel_rfl
theorem ca_252 : ((List.range 1).all fun d => ccs (252 + d)) = true := by kernel_rfl
theorem ca_253 : ((List.range 1).all fun d => ccs (253 + d)) = true := by kernel_rfl
theorem ca_254 : ((List.range 1).all fun d => ccs (254 + d)) = true := by kernel_rfl
theorem ca_255 : ((List.range 1).all fun d => ccs (255 + d)) = true := by kernel_rfl
theorem ca_256 : ((List.range 1).all fun d => ccs (256 + d)) = true := by kernel_rfl
theorem ca_257 : ((List.range 1).all fun d => ccs (257 + d)) = true := by kernel_rfl
theorem ca_258 : ((List.range 1).all fun d => ccs (258 + d)) = true := by kernel_rfl
theorem ca_259 : ((List.range 1).all fun d => ccs (259 + d)) = true := by kernel_rfl
theorem ca_260 : ((List.range 1).all fun d => ccs (260 + d)) = true := by kernel_rfl
theorem ca_261 : ((List.range 1).all fun d => ccs (261 + d)) = true := by kernel_rfl
theorem ca_262 : ((List.range 1).all fun d => ccs (262 + d)) = true := by kernel_rfl
theorem ca_263 : ((List.range 1).all fun d => ccs (263 + d)) = true := by kernel_rfl
theorem ca_264 : ((List.range 1).all fun d => ccs (264 + d)) = true := by kernel_rfl
theorem ca_265 : ((List.range 1).all fun d => ccs (265 + d)) = true := by kernel_rfl
theorem ca_266 : ((List.range 1).all fun d => ccs (266 + d)) = true := by kernel_rfl
theorem ca_267 : ((List.range 1).all fun d => ccs (267 + d)) = true := by kernel_rfl
theorem ca_268 : ((List.range 1).all fun d => ccs (268 + d)) = true := by kernel_rfl
theorem ca_269 : ((List.range 1).all fun d => ccs (269 + d)) = true := by kernel_rfl
theorem ca_270 : ((List.range 1).all fun d => ccs (270 + d)) = true := by kernel_rfl
theorem ca_271 : ((List.range 1).all fun d => ccs (271 + d)) = true := by kernel_rfl
theorem ca_all : ∀ i, i < 272 → ccs i = true := by
  intro i hi
  have hq : i = 1 * (i / 1) + i % 1 := (Nat.div_add_mod i 1).symm
  have hr : i % 1 < 1 := Nat.mod_lt _ (by decide)
  have hd : i / 1 < 272 := by omega
  generalize i / 1 = q at hq hd
  generalize i % 1 = r at hq hr
  subst hq
  match q, hd with
  | 0, _ => exact List.all_eq_true.1 ca_0 r (List.mem_range.2 (by omega))
  | 1, _ => exact List.all_eq_true.1 ca_1 r (List.mem_range.2 (by omega))
  | 2, _ => exact List.all_eq_true.1 ca_2 r (List.mem_range.2 (by omega))
  | 3, _ => exact List.all_eq_true.1 ca_3 r (List.mem_range.2 (by omega))
  | 4, _ => exact List.all_eq_true.1 ca_4 r (List.mem_range.2 (by omega))
  | 5, _ => exact List.all_eq_true.1 ca_5 r (List.mem_range.2 (by omega))
  | 6, _ => exact List.all_eq_true.1 ca_6 r (List.mem_range.2 (by omega))
  | 7, _ => exact List.all_eq_true.1 ca_7 r (List.mem_range.2 (by omega))
  | 8, _ => exact List.all_eq_true.1 ca_8 r (List.mem_range.2 (by omega))
  | 9, _ => exact List.all_eq_true.1 ca_9 r (List.mem_range.2 (by omega))
  | 10, _ => exact List.all_eq_true.1 ca_10 r (List.mem_range.2 (by omega))
  | 11, _ => exact List.all_eq_true.1 ca_11 r (List.mem_range.2 (by omega))
  | 12, _ => exact List.all_eq_true.1 ca_12 r (List.mem_range.2 (by omega))
  | 13, _ => exact List.all_eq_true.1 ca_13 r (List.mem_range.2 (by omega))
  | 14, _ => exact List.all_eq_true.1 ca_14 r (List.mem_range.2 (by omega))
  | 15, _ => exact List.all_eq_true.1 ca_15 r (List.mem_range.2 (by omega))
  | 16, _ => exact List.all_eq_true.1 ca_16 r (List.mem_range.2 (by omega))
  | 17, _ => exact List.all_eq_true.1 ca_17 r (List.mem_range.2 (by omega))
  | 18, _ => exact List.all_eq_true.1 ca_18 r (List.mem_range.2 (by omega))
  | 19, _ => exact List.all_eq_true.1 ca_19 r (List.mem_range.2 (by omega))
  | 20, _ => exact List.all_eq_true.1 ca_20 r (List.mem_range.2 (by omega))
  | 21, _ => exact List.all_eq_true.1 ca_21 r (List.mem_range.2 (by omega))
  | 22, _ => exact List.all_eq_true.1 ca_22 r (List.mem_range.2 (by omega))
  | 23, _ => exact List.all_eq_true.1 ca_23 r (List.mem_range.2 (by omega))
  | 24, _ => exact List.all_eq_true.1 ca_24 r (List.mem_range.2 (by omega))
  | 25, _ => exact List.all_eq_true.1 ca_25 r (List.mem_range.2 (by omega))
  | 26, _ => exact List.all_eq_true.1 ca_26 r (List.mem_range.2 (by omega))
  | 27, _ => exact List.all_eq_true.1 ca_27 r (List.mem_range.2 (by omega))
  | 28, _ => exact List.all_eq_true.1 ca_28 r (List.mem_range.2 (by omega))
  | 29, _ => exact List.all_eq_true.1 ca_29 r (List.mem_range.2 (by omega))
  | 30, _ => exact List.all_eq_true.1 ca_30 r (List.mem_range.2 (by omega))
  | 31, _ => exact List.all_eq_true.1 ca_31 r (List.mem_range.2 (by omega))
  | 32, _ => exact List.all_eq_true.1 ca_32 r (List.mem_range.2 (by omega))
  | 33, _ => exact List.all_eq_true.1 ca_33 r (List.mem_range.2 (by omega))
  | 34, _ => exact List.all_eq_true.1 ca_34 r (List.mem_range.2 (by omega))
  | 35, _ => exact List.all_eq_true.1 ca_35 r (List.mem_range.2 (by omega))
  | 36, _ => exact List.all_eq_true.1 ca_36 r (List.mem_range.2 (by omega))
  | 37, _ => exact List.all_eq_true.1 ca_37 r (List.mem_range.2 (by omega))
  | 38, _ => exact List.all_eq_true.1 ca_38 r (List.mem_range.2 (by omega))
  | 39, _ => exact List.all_eq_true.1 ca_39 r (List.mem_range.2 (by omega))
  | 40, _ => exact List.all_eq_true.1 ca_40 r (List.mem_range.2 (by omega))
  | 41, _ => exact List.all_eq_true.1 ca_41 r (List.mem_range.2 (by omega))
  | 42, _ => exact List.all_eq_true.1 ca_42 r (List.mem_range.2 (by omega))
  | 43, _ => exact List.all_eq_true.1 ca_43 r (List.mem_range.2 (by omega))
  | 44, _ => exact List.all_eq_true.1 ca_44 r (List.mem_range.2 (by omega))
  | 45, _ => exact List.all_eq_true.1 ca_45 r (List.mem_range.2 (by omega))
  | 46, _ => exact List.all_eq_true.1 ca_46 r (List.mem_range.2 (by omega))
  | 47, _ => exact List.all_eq_true.1 ca_47 r (List.mem_range.2 (by omega))
  | 48, _ => exact List.all_eq_true.1 ca_48 r (List.mem_range.2 (by omega))
  | 49, _ => exact List.all_eq_true.1 ca_49 r (List.mem_range.2 (by omega))
  | 50, _ => exact List.all_eq_true.1 ca_50 r (List.mem_range.2 (by omega))
  | 51, _ => exact List.all_eq_true.1 ca_51 r (List.mem_range.2 (by omega))
  | 52, _ => exact List.all_eq_true.1 ca_52 r (List.mem_range.2 (by omega))
  | 53, _ => exact List.all_eq_true.1 ca_53 r (List.mem_range.2 (by omega))
  | 54, _ => exact List.all_eq_true.1 ca_54 r (List.mem_range.2 (by omega))
  | 55, _ => exact List.all_eq_true.1 ca_55 r (List.mem_range.2 (by omega))
  | 56, _ => exact List.all_eq_true.1 ca_56 r (List.mem_range.2 (by omega))
  | 57, _ => exact List.all_eq_true.1 ca_57 r (List.mem_range.2 (by omega))
  | 58, _ => exact List.all_eq_true.1 ca_58 r (List.mem_range.2 (by omega))
  | 59, _ => exact List.all_eq_true.1 ca_59 r (List.mem_range.2 (by omega))
  | 60, _ => exact List.all_eq_true.1 ca_60 r (List.mem_range.2 (by omega))
  | 61, _ => exact List.all_eq_true.1 ca_61 r (List.mem_range.2 (by omega))
  | 62, _ => exact List.all_eq_true.1 ca_62 r (List.mem_range.2 (by omega))
  | 63, _ => exact List.all_eq_true.1 ca_63 r (List.mem_range.2 (by omega))
  | 64, _ => exact List.all_eq_true.1 ca_64 r (List.mem_range.2 (by omega))
  | 65, _ => exact List.all_eq_true.1 ca_65 r (List.mem_range.2 (by omega))
  | 66, _ => exact List.all_eq_true.1 ca_66 r (List.mem_range.2 (by omega))
  | 67, _ => exact List.all_eq_true.1 ca_67 r (List.mem_range.2 (by omega))
  | 68, _ => exact List.all_eq_true.1 ca_68 r (List.mem_range.2 (by omega))
  | 69, _ => exact List.all_eq_true.1 ca_69 r (List.mem_range.2 (by omega))
  | 70, _ => exact List.all_eq_true.1 ca_70 r (List.mem_range.2 (by omega))
  | 71, _ => exact List.all_eq_true.1 ca_71 r (List.mem_range.2 (by omega))
  | 72, _ => exact List.all_eq_true.1 ca_72 r (List.mem_range.2 (by omega))
  | 73, _ => exact List.all_eq_true.1 ca_73 r (List.mem_range.2 (by omega))
  | 74, _ => exact List.all_eq_true.1 ca_74 r (List.mem_range.2 (by omega))
  | 75, _ => exact List.all_eq_true.1 ca_75 r (List.mem_range.2 (by omega))
  | 76, _ => exact List.all_eq_true.1 ca_76 r (List.mem_range.2 (by omega))
  | 77, _ => exact List.all_eq_true.1 ca_77 r (List.mem_range.2 (by omega))
  | 78, _ => exact List.all_eq_true.1 ca_78 r (List.mem_range.2 (by omega))
  | 79, _ => exact List.all_eq_true.1 ca_79 r (List.mem_range.2 (by omega))
  | 80, _ => exact List.all_eq_true.1 ca_80 r (List.mem_range.2 (by omega))
  | 81, _ => exact List.all_eq_true.1 ca_81 r (List.mem_range.2 (by omega))
  | 82, _ => exact List.all_eq_true.1 ca_82 r (List.mem_range.2 (by omega))
  | 83, _ => exact List.all_eq_true.1 ca_83 r (List.mem_range.2 (by omega))
  | 84, _ => exact List.all_eq_true.1 ca_84 r (List.mem_range.2 (by omega))
  | 85, _ => exact List.all_eq_true.1 ca_85 r (List.mem_range.2 (by omega))
  | 86, _ => exact List.all_eq_true.1 ca_86 r (List.mem_range.2 (by omega))
  | 87, _ => exact List.all_eq_true.1 ca_87 r (List.mem_range.2 (by omega))
  | 88, _ => exact List.all_eq_true.1 ca_88 r (List.mem_range.2 (by omega))
  | 89, _ => exact List.all_eq_true.1 ca_89 r (List.mem_range.2 (by omega))
  | 90, _ => exact List.all_eq_true.1 ca_90 r (List.mem_range.2 (by omega))
  | 91, _ => exact List.all_eq_true.1 ca_91 r (List.mem_range.2 (by omega))
  | 92, _ => exact List.all_eq_true.1 ca_92 r (List.mem_range.2 (by omega))
  | 93, _ => exact List.all_eq_true.1 ca_93 r (List.mem_range.2 (by omega))
  | 94, _ => exact List.all_eq_true.1 ca_94 r (List.mem_range.2 (by omega))
  | 95, _ => exact List.all_eq_true.1 ca_95 r (List.mem_range.2 (by omega))
  | 96, _ => exact List.all_eq_true.1 ca_96 r (List.mem_range.2 (by omega))
  | 97, _ => exact List.all_eq_true.1 ca_97 r (List.mem_range.2 (by omega))
  | 98, _ => exact List.all_eq_true.1 ca_98 r (List.mem_range.2 (by omega))
  | 99, _ => exact List.all_eq_true.1 ca_99 r (List.mem_range.2 (by omega))
  | 100, _ => exact List.all_eq_true.1 ca_100 r (List.mem_range.2 (by omega))
  | 101, _ => exact List.all_eq_true.1 ca_101 r (List.mem_range.2 (by omega))
  | 102, _ => exact List.all_eq_true.1 ca_102 r (List.mem_range.2 (by omega))
  | 103, _ => exact List.all_eq_true.1 ca_103 r (List.mem_range.2 (by omega))
  | 104, _ => exact List.all_eq_true.1 ca_104 r (List.mem_range.2 (by omega))
  | 105, _ => exact List.all_eq_true.1 ca_105 r (List.mem_range.2 (by omega))
  | 106, _ => exact List.all_eq_true.1 ca_106 r (List.mem_range.2 (by omega))
  | 107, _ => exact List.all_eq_true.1 ca_107 r (List.mem_range.2 (by omega))
  | 108, _ => exact List.all_eq_true.1 ca_108 r (List.mem_range.2 (by omega))
  | 109, _ => exact List.all_eq_true.1 ca_109 r (List.mem_range.2 (by omega))
  | 110, _ => exact List.all_eq_true.1 ca_110 r (List.mem_range.2 (by omega))
  | 111, _ => exact List.all_eq_true.1 ca_111 r (List.mem_range.2 (by omega))
  | 112, _ => exact List.all_eq_true.1 ca_112 r (List.mem_range.2 (by omega))
  | 113, _ => exact List.all_eq_true.1 ca_113 r (List.mem_range.2 (by omega))
  | 114, _ => exact List.all_eq_true.1 ca_114 r (List.mem_range.2 (by omega))
  | 115, _ => exact List.all_eq_true.1 ca_115 r (List.mem_range.2 (by omega))
  | 116, _ => exact List.all_eq_true.1 ca_116 r (List.mem_range.2 (by omega))
  | 117, _ => exact List.all_eq_true.1 ca_117 r (List.mem_range.2 (by omega))
  | 118, _ => exact List.all_eq_true.1 ca_118 r (List.mem_range.2 (by omega))
  | 119, _ => exact List.all_eq_true.1 ca_119 r (List.mem_range.2 (by omega))
  | 120, _ => exact List.all_eq_true.1 ca_120 r (List.mem_range.2 (by omega))
  | 121, _ => exact List.all_eq_true.1 ca_121 r (List.mem_range.2 (by omega))
  | 122, _ => exact List.all_eq_true.1 ca_122 r (List.mem_range.2 (by omega))
  | 123, _ => exact List.all_eq_true.1 ca_123 r (List.mem_range.2 (by omega))
  | 124, _ => exact List.all_eq_true.1 ca_124 r (List.mem_range.2 (by omega))
  | 125, _ => exact List.all_eq_true.1 ca_125 r (List.mem_range.2 (by omega))
  | 126, _ => exact List.all_eq_true.1 ca_126 r (List.mem_range.2 (by omega))
  | 127, _ => exact List.all_eq_true.1 ca_127 r (List.mem_range.2 (by omega))
  | 128, _ => exact List.all_eq_true.1 ca_128 r (List.mem_range.2 (by omega))
  | 129, _ => exact List.all_eq_true.1 ca_129 r (List.mem_range.2 (by omega))
  | 130, _ => exact List.all_eq_true.1 ca_130 r (List.mem_range.2 (by omega))
  | 131, _ => exact List.all_eq_true.1 ca_131 r (List.mem_range.2 (by omega))
  | 132, _ => exact List.all_eq_true.1 ca_132 r (List.mem_range.2 (by omega))
  | 133, _ => exact List.all_eq_true.1 ca_133 r (List.mem_range.2 (by omega))
  | 134, _ => exact List.all_eq_true.1 ca_134 r (List.mem_range.2 (by omega))
  | 135, _ => exact List.all_eq_true.1 ca_135 r (List.mem_range.2 (by omega))
  | 136, _ => exact List.all_eq_true.1 ca_136 r (List.mem_range.2 (by omega))
  | 137, _ => exact List.all_eq_true.1 ca_137 r (List.mem_range.2 (by omega))
  | 138, _ => exact List.all_eq_true.1 ca_138 r (List.mem_range.2 (by omega))
  | 139, _ => exact List.all_eq_true.1 ca_139 r (List.mem_range.2 (by omega))
  | 140, _ => exact List.all_eq_true.1 ca_140 r (List.mem_range.2 (by omega))
  | 141, _ => exact List.all_eq_true.1 ca_141 r (List.mem_range.2 (by omega))
  | 142, _ => exact List.all_eq_true.1 ca_142 r (List.mem_range.2 (by omega))
  | 143, _ => exact List.all_eq_true.1 ca_143 r (List.mem_range.2 (by omega))
  | 144, _ => exact List.all_eq_true.1 ca_144 r (List.mem_range.2 (by omega))
  | 145, _ => exact List.all_eq_true.1 ca_145 r (List.mem_range.2 (by omega))
  | 146, _ => exact List.all_eq_true.1 ca_146 r (List.mem_range.2 (by omega))
  | 147, _ => exact List.all_eq_true.1 ca_147 r (List.mem_range.2 (by omega))
  | 148, _ => exact List.all_eq_true.1 ca_148 r (List.mem_range.2 (by omega))
  | 149, _ => exact List.all_eq_true.1 ca_149 r (List.mem_range.2 (by omega))
  | 150, _ => exact List.all_eq_true.1 ca_150 r (List.mem_range.2 (by omega))
  | 151, _ => exact List.all_eq_true.1 ca_151 r (List.mem_range.2 (by omega))
  | 152, _ => exact List.all_eq_true.1 ca_152 r (List.mem_range.2 (by omega))
  | 153, _ => exact List.all_eq_true.1 ca_153 r (List.mem_range.2 (by omega))
  | 154, _ => exact List.all_eq_true.1 ca_154 r (List.mem_range.2 (by omega))
  | 155, _ => exact List.all_eq_true.1 ca_155 r (List.mem_range.2 (by omega))
  | 156, _ => exact List.all_eq_true.1 ca_156 r (List.mem_range.2 (by omega))
  | 157, _ => exact List.all_eq_true.1 ca_157 r (List.mem_range.2 (by omega))
  | 158, _ => exact List.all_eq_true.1 ca_158 r (List.mem_range.2 (by omega))
  | 159, _ => exact List.all_eq_true.1 ca_159 r (List.mem_range.2 (by omega))
  | 160, _ => exact List.all_eq_true.1 ca_160 r (List.mem_range.2 (by omega))
  | 161, _ => exact List.all_eq_true.1 ca_161 r (List.mem_range.2 (by omega))
  | 162, _ => exact List.all_eq_true.1 ca_162 r (List.mem_range.2 (by omega))
  | 163, _ => exact List.all_eq_true.1 ca_163 r (List.mem_range.2 (by omega))
  | 164, _ => exact List.all_eq_true.1 ca_164 r (List.mem_range.2 (by omega))
  | 165, _ => exact List.all_eq_true.1 ca_165 r (List.mem_range.2 (by omega))
  | 166, _ => exact List.all_eq_true.1 ca_166 r (List.mem_range.2 (by omega))
  | 167, _ => exact List.all_eq_true.1 ca_167 r (List.mem_range.2 (by omega))
  | 168, _ => exact List.all_eq_true.1 ca_168 r (List.mem_range.2 (by omega))
  | 169, _ => exact List.all_eq_true.1 ca_169 r (List.mem_range.2 (by omega))
  | 170, _ => exact List.all_eq_true.1 ca_170 r (List.mem_range.2 (by omega))
  | 171, _ => exact List.all_eq_true.1 ca_171 r (List.mem_range.2 (by omega))
  | 172, _ => exact List.all_eq_true.1 ca_172 r (List.mem_range.2 (by omega))
  | 173, _ => exact List.all_eq_true.1 ca_173 r (List.mem_range.2 (by omega))
  | 174, _ => exact List.all_eq_true.1 ca_174 r (List.mem_range.2 (by omega))
  | 175, _ => exact List.all_eq_true.1 ca_175 r (List.mem_range.2 (by omega))
  | 176, _ => exact List.all_eq_true.1 ca_176 r (List.mem_range.2 (by omega))
  | 177, _ => exact List.all_eq_true.1 ca_177 r (List.mem_range.2 (by omega))
  | 178, _ => exact List.all_eq_true.1 ca_178 r (List.mem_range.2 (by omega))
  | 179, _ => exact List.all_eq_true.1 ca_179 r (List.mem_range.2 (by omega))
  | 180, _ => exact List.all_eq_true.1 ca_180 r (List.mem_range.2 (by omega))
  | 181, _ => exact List.all_eq_true.1 ca_181 r (List.mem_range.2 (by omega))
  | 182, _ => exact List.all_eq_true.1 ca_182 r (List.mem_range.2 (by omega))
  | 183, _ => exact List.all_eq_true.1 ca_183 r (List.mem_range.2 (by omega))
  | 184, _ => exact List.all_eq_true.1 ca_184 r (List.mem_range.2 (by omega))
  | 185, _ => exact List.all_eq_true.1 ca_185 r (List.mem_range.2 (by omega))
  | 186, _ => exact List.all_eq_true.1 ca_186 r (List.mem_range.2 (by omega))
  | 187, _ => exact List.all_eq_true.1 ca_187 r (List.mem_range.2 (by omega))
  | 188, _ => exact List.all_eq_true.1 ca_188 r (List.mem_range.2 (by omega))
  | 189, _ => exact List.all_eq_true.1 ca_189 r (List.mem_range.2 (by omega))
  | 190, _ => exact List.all_eq_true.1 ca_190 r (List.mem_range.2 (by omega))
  | 191, _ => exact List.all_eq_true.1 ca_191 r (List.mem_range.2 (by omega))
  | 192, _ => exact List.all_eq_true.1 ca_192 r (List.mem_range.2 (by omega))
  | 193, _ => exact List.all_eq_true.1 ca_193 r (List.mem_range.2 (by omega))
  | 194, _ => exact List.all_eq_true.1 ca_194 r (List.mem_range.2 (by omega))
  | 195, _ => exact List.all_eq_true.1 ca_195 r (List.mem_range.2 (by omega))
  | 196, _ => exact List.all_eq_true.1 ca_196 r (List.mem_range.2 (by omega))
  | 197, _ => exact List.all_eq_true.1 ca_197 r (List.mem_range.2 (by omega))
  | 198, _ => exact List.all_eq_true.1 ca_198 r (List.mem_range.2 (by omega))
  | 199, _ => exact List.all_eq_true.1 ca_199 r (List.mem_range.2 (by omega))
  | 200, _ => exact List.all_eq_true.1 ca_200 r (List.mem_range.2 (by omega))
  | 201, _ => exact List.all_eq_true.1 ca_201 r (List.mem_range.2 (by omega))
  | 202, _ => exact List.all_eq_true.1 ca_202 r (List.mem_range.2 (by omega))
  | 203, _ => exact List.all_eq_true.1 ca_203 r (List.mem_range.2 (by omega))
  | 204, _ => exact List.all_eq_true.1 ca_204 r (List.mem_range.2 (by omega))
  | 205, _ => exact List.all_eq_true.1 ca_205 r (List.mem_range.2 (by omega))
  | 206, _ => exact List.all_eq_true.1 ca_206 r (List.mem_range.2 (by omega))
  | 207, _ => exact List.all_eq_true.1 ca_207 r (List.mem_range.2 (by omega))
  | 208, _ => exact List.all_eq_true.1 ca_208 r (List.mem_range.2 (by omega))
  | 209, _ => exact List.all_eq_true.1 ca_209 r (List.mem_range.2 (by omega))
  | 210, _ => exact List.all_eq_true.1 ca_210 r (List.mem_range.2 (by omega))
  | 211, _ => exact List.all_eq_true.1 ca_211 r (List.mem_range.2 (by omega))
  | 212, _ => exact List.all_eq_true.1 ca_212 r (List.mem_range.2 (by omega))
  | 213, _ => exact List.all_eq_true.1 ca_213 r (List.mem_range.2 (by omega))
  | 214, _ => exact List.all_eq_true.1 ca_214 r (List.mem_range.2 (by omega))
  | 215, _ => exact List.all_eq_true.1 ca_215 r (List.mem_range.2 (by omega))
  | 216, _ => exact List.all_eq_true.1 ca_216 r (List.mem_range.2 (by omega))
  | 217, _ => exact List.all_eq_true.1 ca_217 r (List.mem_range.2 (by omega))
  | 218, _ => exact List.all_eq_true.1 ca_218 r (List.mem_range.2 (by omega))
  | 219, _ => exact List.all_eq_true.1 ca_219 r (List.mem_range.2 (by omega))
  | 220, _ => exact List.all_eq_true.1 ca_220 r (List.mem_range.2 (by omega))
  | 221, _ => exact List.all_eq_true.1 ca_221 r (List.mem_range.2 (by omega))
  | 222, _ => exact List.all_eq_true.1 ca_222 r (List.mem_range.2 (by omega))
  | 223, _ => exact List.all_eq_true.1 ca_223 r (List.mem_range.2 (by omega))
  | 224, _ => exact List.all_eq_true.1 ca_224 r (List.mem_range.2 (by omega))
  | 225, _ => exact List.all_eq_true.1 ca_225 r (List.mem_range.2 (by omega))
  | 226, _ => exact List.all_eq_true.1 ca_226 r (List.mem_range.2 (by omega))
  | 227, _ => exact List.all_eq_true.1 ca_227 r (List.mem_range.2 (by omega))
  | 228, _ => exact List.all_eq_true.1 ca_228 r (List.mem_range.2 (by omega))
  | 229, _ => exact List.all_eq_true.1 ca_229 r (List.mem_range.2 (by omega))
  | 230, _ => exact List.all_eq_true.1 ca_230 r (List.mem_range.2 (by omega))
  | 231, _ => exact List.all_eq_true.1 ca_231 r (List.mem_range.2 (by omega))
  | 232, _ => exact List.all_eq_true.1 ca_232 r (List.mem_range.2 (by omega))
  | 233, _ => exact List.all_eq_true.1 ca_233 r (List.mem_range.2 (by omega))
  | 234, _ => exact List.all_eq_true.1 ca_234 r (List.mem_range.2 (by omega))
  | 235, _ => exact List.all_eq_true.1 ca_235 r (List.mem_range.2 (by omega))
  | 236, _ => exact List.all_eq_true.1 ca_236 r (List.mem_range.2 (by omega))
  | 237, _ => exact List.all_eq_true.1 ca_237 r (List.mem_range.2 (by omega))
  | 238, _ => exact List.all_eq_true.1 ca_238 r (List.mem_range.2 (by omega))
  | 239, _ => exact List.all_eq_true.1 ca_239 r (List.mem_range.2 (by omega))
  | 240, _ => exact List.all_eq_true.1 ca_240 r (List.mem_range.2 (by omega))
  | 241, _ => exact List.all_eq_true.1 ca_241 r (List.mem_range.2 (by omega))
  | 242, _ => exact List.all_eq_true.1 ca_242 r (List.mem_range.2 (by omega))
  | 243, _ => exact List.all_eq_true.1 ca_243 r (List.mem_range.2 (by omega))
  | 244, _ => exact List.all_eq_true.1 ca_244 r (List.mem_range.2 (by omega))
  | 245, _ => exact List.all_eq_true.1 ca_245 r (List.mem_range.2 (by omega))
  | 246, _ => exact List.all_eq_true.1 ca_246 r (List.mem_range.2 (by omega))
  | 247, _ => exact List.all_eq_true.1 ca_247 r (List.mem_range.2 (by omega))
  | 248, _ => exact List.all_eq_true.1 ca_248 r (List.mem_range.2 (by omega))
  | 249, _ => exact List.all_eq_true.1 ca_249 r (List.mem_range.2 (by omega))
  | 250, _ => exact List.all_eq_true.1 ca_250 r (List.mem_range.2 (by omega))
  | 251, _ => exact List.all_eq_true.1 ca_251 r (List.mem_range.2 (by omega))
  | 252, _ => exact List.all_eq_true.1 ca_252 r (List.mem_range.2 (by omega))
  | 253, _ => exact List.all_eq_true.1 ca_253 r (List.mem_range.2 (by omega))
  | 254, _ => exact List.all_eq_true.1 ca_254 r (List.mem_range.2 (by omega))
  | 255, _ => exact List.all_eq_true.1 ca_255 r (List.mem_range.2 (by omega))
  | 256, _ => exact List.all_eq_true.1 ca_256 r (List.mem_range.2 (by omega))
  | 257, _ => exact List.all_eq_true.1 ca_257 r (List.mem_range.2 (by omega))
  | 258, _ => exact List.all_eq_true.1 ca_258 r (List.mem_range.2 (by omega))
  | 259, _ => exact List.all_eq_true.1 ca_259 r (List.mem_range.2 (by omega))
  | 260, _ => exact List.all_eq_true.1 ca_260 r (List.mem_range.2 (by omega))
  | 261, _ => exact List.all_eq_true.1 ca_261 r (List.mem_range.2 (by omega))
  | 262, _ => exact List.all_eq_true.1 ca_262 r (List.mem_range.2 (by omega))
  | 263, _ => exact List.all_eq_true.1 ca_263 r (List.mem_range.2 (by omega))
  | 264, _ => exact List.all_eq_true.1 ca_264 r (List.mem_range.2 (by omega))
  | 265, _ => exact List.all_eq_true.1 ca_265 r (List.mem_range.2 (by omega))
  | 266, _ => exact List.all_eq_true.1 ca_266 r (List.mem_range.2 (by omega))
  | 267, _ => exact List.all_eq_true.1 ca_267 r (List.mem_range.2 (by omega))
  | 268, _ => exact List.all_eq_true.1 ca_268 r (List.mem_range.2 (by omega))
  | 269, _ => exact List.all_eq_true.1 ca_269 r (List.mem_range.2 (by omega))
  | 270, _ => exact List.all_eq_true.1 ca_270 r (List.mem_range.2 (by omega))
  | 271, _ => exact List.all_eq_true.1 ca_271 r (List.mem_range.2 (by omega))
  | q + 272, h => exact absurd h (by omega)
end Go.Proofs.YtolngjaihlggnaaGreatDoor.PL
