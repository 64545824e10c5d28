import Derived.Test.YtolngjaihlggnaaGreatDoorPoolLeastBase
/-! PoolLeast: frames let go. -/
namespace Go.Proofs.YtolngjaihlggnaaGreatDoor.PL
open Go.Ev Go.Ev.Pg Go.Ev.PL
set_option linter.unusedVariables false
set_option linter.unusedSimpArgs false
theorem ba_0 : ((List.range 1).all fun d => bbs (0 + d)) = true := by kernel_rfl
theorem ba_1 : ((List.range 1).all fun d => bbs (1 + d)) = true := by kernel_rfl
theorem ba_2 : ((List.range 1).all fun d => bbs (2 + d)) = true := by kernel_rfl
theorem ba_3 : ((List.range 1).all fun d => bbs (3 + d)) = true := by kernel_rfl
theorem ba_4 : ((List.range 1).all fun d => bbs (4 + d)) = true := by kernel_rfl
theorem ba_5 : ((List.range 1).all fun d => bbs (5 + d)) = true := by kernel_rfl
theorem ba_6 : ((List.range 1).all fun d => bbs (6 + d)) = true := by kernel_rfl
theorem ba_7 : ((List.range 1).all fun d => bbs (7 + d)) = true := by kernel_rfl
theorem ba_8 : ((List.range 1).all fun d => bbs (8 + d)) = true := by kernel_rfl
theorem ba_9 : ((List.range 1).all fun d => bbs (9 + d)) = true := by kernel_rfl
theorem ba_10 : ((List.range 1).all fun d => bbs (10 + d)) = true := by kernel_rfl
theorem ba_11 : ((List.range 1).all fun d => bbs (11 + d)) = true := by kernel_rfl
theorem ba_12 : ((List.range 1).all fun d => bbs (12 + d)) = true := by kernel_rfl
theorem ba_13 : ((List.range 1).all fun d => bbs (13 + d)) = true := by kernel_rfl
theorem ba_14 : ((List.range 1).all fun d => bbs (14 + d)) = true := by kernel_rfl
theorem ba_15 : ((List.range 1).all fun d => bbs (15 + d)) = true := by kernel_rfl
theorem ba_16 : ((List.range 1).all fun d => bbs (16 + d)) = true := by kernel_rfl
theorem ba_17 : ((List.range 1).all fun d => bbs (17 + d)) = true := by kernel_rfl
theorem ba_18 : ((List.range 1).all fun d => bbs (18 + d)) = true := by kernel_rfl
theorem ba_19 : ((List.range 1).all fun d => bbs (19 + d)) = true := by kernel_rfl
theorem ba_20 : ((List.range 1).all fun d => bbs (20 + d)) = true := by kernel_rfl
theorem ba_21 : ((List.range 1).all fun d => bbs (21 + d)) = true := by kernel_rfl
theorem ba_22 : ((List.range 1).all fun d => bbs (22 + d)) = true := by kernel_rfl
theorem ba_23 : ((List.range 1).all fun d => bbs (23 + d)) = true := by kernel_rfl
theorem ba_24 : ((List.range 1).all fun d => bbs (24 + d)) = true := by kernel_rfl
theorem ba_25 : ((List.range 1).all fun d => bbs (25 + d)) = true := by kernel_rfl
theorem ba_26 : ((List.range 1).all fun d => bbs (26 + d)) = true := by kernel_rfl
theorem ba_27 : ((List.range 1).all fun d => bbs (27 + d)) = true := by kernel_rfl
theorem ba_28 : ((List.range 1).all fun d => bbs (28 + d)) = true := by kernel_rfl
theorem ba_29 : ((List.range 1).all fun d => bbs (29 + d)) = true := by kernel_rfl
theorem ba_30 : ((List.range 1).all fun d => bbs (30 + d)) = true := by kernel_rfl
theorem ba_31 : ((List.range 1).all fun d => bbs (31 + d)) = true := by kernel_rfl
theorem ba_32 : ((List.range 1).all fun d => bbs (32 + d)) = true := by kernel_rfl
theorem ba_33 : ((List.range 1).all fun d => bbs (33 + d)) = true := by kernel_rfl
theorem ba_34 : ((List.range 1).all fun d => bbs (34 + d)) = true := by kernel_rfl
theorem ba_35 : ((List.range 1).all fun d => bbs (35 + d)) = true := by kernel_rfl
theorem ba_36 : ((List.range 1).all fun d => bbs (36 + d)) = true := by kernel_rfl
theorem ba_37 : ((List.range 1).all fun d => bbs (37 + d)) = true := by kernel_rfl
theorem ba_38 : ((List.range 1).all fun d => bbs (38 + d)) = true := by kernel_rfl
theorem ba_39 : ((List.range 1).all fun d => bbs (39 + d)) = true := by kernel_rfl
theorem ba_40 : ((List.range 1).all fun d => bbs (40 + d)) = true := by kernel_rfl
theorem ba_41 : ((List.range 1).all fun d => bbs (41 + d)) = true := by kernel_rfl
theorem ba_42 : ((List.range 1).all fun d => bbs (42 + d)) = true := by kernel_rfl
theorem ba_43 : ((List.range 1).all fun d => bbs (43 + d)) = true := by kernel_rfl
theorem ba_44 : ((List.range 1).all fun d => bbs (44 + d)) = true := by kernel_rfl
theorem ba_45 : ((List.range 1).all fun d => bbs (45 + d)) = true := by kernel_rfl
theorem ba_46 : ((List.range 1).all fun d => bbs (46 + d)) = true := by kernel_rfl
theorem ba_47 : ((List.range 1).all fun d => bbs (47 + d)) = true := by kernel_rfl
theorem ba_48 : ((List.range 1).all fun d => bbs (48 + d)) = true := by kernel_rfl
theorem ba_49 : ((List.range 1).all fun d => bbs (49 + d)) = true := by kernel_rfl
theorem ba_50 : ((List.range 1).all fun d => bbs (50 + d)) = true := by kernel_rfl
theorem ba_51 : ((List.range 1).all fun d => bbs (51 + d)) = true := by kernel_rfl
theorem ba_52 : ((List.range 1).all fun d => bbs (52 + d)) = true := by kernel_rfl
theorem ba_53 : ((List.range 1).all fun d => bbs (53 + d)) = true := by kernel_rfl
theorem ba_54 : ((List.range 1).all fun d => bbs (54 + d)) = true := by kernel_rfl
theorem ba_55 : ((List.range 1).all fun d => bbs (55 + d)) = true := by kernel_rfl
theorem ba_56 : ((List.range 1).all fun d => bbs (56 + d)) = true := by kernel_rfl
theorem ba_57 : ((List.range 1).all fun d => bbs (57 + d)) = true := by kernel_rfl
theorem ba_58 : ((List.range 1).all fun d => bbs (58 + d)) = true := by kernel_rfl
theorem ba_59 : ((List.range 1).all fun d => bbs (59 + d)) = true := by kernel_rfl
theorem ba_60 : ((List.range 1).all fun d => bbs (60 + d)) = true := by kernel_rfl
theorem ba_61 : ((List.range 1).all fun d => bbs (61 + d)) = true := by kernel_rfl
theorem ba_62 : ((List.range 1).all fun d => bbs (62 + d)) = true := by kernel_rfl
theorem ba_63 : ((List.range 1).all fun d => bbs (63 + d)) = true := by kernel_rfl
theorem ba_64 : ((List.range 1).all fun d => bbs (64 + d)) = true := by kernel_rfl
theorem ba_65 : ((List.range 1).all fun d => bbs (65 + d)) = true := by kernel_rfl
theorem ba_66 : ((List.range 1).all fun d => bbs (66 + d)) = true := by kernel_rfl
theorem ba_67 : ((List.range 1).all fun d => bbs (67 + d)) = true := by kernel_rfl
theorem ba_68 : ((List.range 1).all fun d => bbs (68 + d)) = true := by kernel_rfl
theorem ba_69 : ((List.range 1).all fun d => bbs (69 + d)) = true := by kernel_rfl
theorem ba_70 : ((List.range 1).all fun d => bbs (70 + d)) = true := by kernel_rfl
theorem ba_71 : ((List.range 1).all fun d => bbs (71 + d)) = true := by kernel_rfl
theorem ba_72 : ((List.range 1).all fun d => bbs (72 + d)) = true := by kernel_rfl
theorem ba_73 : ((List.range 1).all fun d => bbs (73 + d)) = true := by kernel_rfl
theorem ba_74 : ((List.range 1).all fun d => bbs (74 + d)) = true := by kernel_rfl
theorem ba_75 : ((List.range 1).all fun d => bbs (75 + d)) = true := by kernel_rfl
theorem ba_76 : ((List.range 1).all fun d => bbs (76 + d)) = true := by kernel_rfl
theorem ba_77 : ((List.range 1).all fun d => bbs (77 + d)) = true := by kernel_rfl
theorem ba_78 : ((List.range 1).all fun d => bbs (78 + d)) = true := by kernel_rfl
theorem ba_79 : ((List.range 1).all fun d => bbs (79 + d)) = true := by kernel_rfl
theorem ba_80 : ((List.range 1).all fun d => bbs (80 + d)) = true := by kernel_rfl
theorem ba_81 : ((List.range 1).all fun d => bbs (81 + d)) = true := by kernel_rfl
theorem ba_82 : ((List.range 1).all fun d => bbs (82 + d)) = true := by kernel_rfl
theorem ba_83 : ((List.range 1).all fun d => bbs (83 + d)) = true := by kernel_rfl
theorem ba_84 : ((List.range 1).all fun d => bbs (84 + d)) = true := by kernel_rfl
theorem ba_85 : ((List.range 1).all fun d => bbs (85 + d)) = true := by kernel_rfl
theorem ba_86 : ((List.range 1).all fun d => bbs (86 + d)) = true := by kernel_rfl
theorem ba_87 : ((List.range 1).all fun d => bbs (87 + d)) = true := by kernel_rfl
theorem ba_88 : ((List.range 1).all fun d => bbs (88 + d)) = true := by kernel_rfl
theorem ba_89 : ((List.range 1).all fun d => bbs (89 + d)) = true := by kernel_rfl
theorem ba_90 : ((List.range 1).all fun d => bbs (90 + d)) = true := by kernel_rfl
theorem ba_91 : ((List.range 1).all fun d => bbs (91 + d)) = true := by kernel_rfl
theorem ba_92 : ((List.range 1).all fun d => bbs (92 + d)) = true := by kernel_rfl
theorem ba_93 : ((List.range 1).all fun d => bbs (93 + d)) = true := by kernel_rfl
theorem ba_94 : ((List.range 1).all fun d => bbs (94 + d)) = true := by kernel_rfl
theorem ba_95 : ((List.range 1).all fun d => bbs (95 + d)) = true := by kernel_rfl
theorem ba_96 : ((List.range 1).all fun d => bbs (96 + d)) = true := by kernel_rfl
theorem ba_97 : ((List.range 1).all fun d => bbs (97 + d)) = true := by kernel_rfl
theorem ba_98 : ((List.range 1).all fun d => bbs (98 + d)) = true := by kernel_rfl
theorem ba_99 : ((List.range 1).all fun d => bbs (99 + d)) = true := by kernel_rfl
theorem ba_100 : ((List.range 1).all fun d => bbs (100 + d)) = true := by kernel_rfl
theorem ba_101 : ((List.range 1).all fun d => bbs (101 + d)) = true := by kernel_rfl
theorem ba_102 : ((List.range 1).all fun d => bbs (102 + d)) = true := by kernel_rfl
theorem ba_103 : ((List.range 1).all fun d => bbs (103 + d)) = true := by kernel_rfl
theorem ba_104 : ((List.range 1).all fun d => bbs (104 + d)) = true := by kernel_rfl
theorem ba_105 : ((List.range 1).all fun d => bbs (105 + d)) = true := by kernel_rfl
theorem ba_106 : ((List.range 1).all fun d => bbs (106 + d)) = true := by kernel_rfl
theorem ba_107 : ((List.range 1).all fun d => bbs (107 + d)) = true := by kernel_rfl
theorem ba_108 : ((List.range 1).all fun d => bbs (108 + d)) = true := by kernel_rfl
theorem ba_109 : ((List.range 1).all fun d => bbs (109 + d)) = true := by kernel_rfl
theorem ba_110 : ((List.range 1).all fun d => bbs (110 + d)) = true := by kernel_rfl
theorem ba_111 : ((List.range 1).all fun d => bbs (111 + d)) = true := by kernel_rfl
theorem ba_112 : ((List.range 1).all fun d => bbs (112 + d)) = true := by kernel_rfl
theorem ba_113 : ((List.range 1).all fun d => bbs (113 + d)) = true := by kernel_rfl
theorem ba_114 : ((List.range 1).all fun d => bbs (114 + d)) = true := by kernel_rfl
theorem ba_115 : ((List.range 1).all fun d => bbs (115 + d)) = true := by kernel_rfl
theorem ba_116 : ((List.range 1).all fun d => bbs (116 + d)) = true := by kernel_rfl
theorem ba_117 : ((List.range 1).all fun d => bbs (117 + d)) = true := by kernel_rfl
theorem ba_118 : ((List.range 1).all fun d => bbs (118 + d)) = true := by kernel_rfl
theorem ba_119 : ((List.range 1).all fun d => bbs (119 + d)) = true := by kernel_rfl
theorem ba_120 : ((List.range 1).all fun d => bbs (120 + d)) = true := by kernel_rfl
theorem ba_121 : ((List.range 1).all fun d => bbs (121 + d)) = true := by kernel_rfl
theorem ba_122 : ((List.range 1).all fun d => bbs (122 + d)) = true := by kernel_rfl
theorem ba_123 : ((List.range 1).all fun d => bbs (123 + d)) = true := by kernel_rfl
theorem ba_124 : ((List.range 1).all fun d => bbs (124 + d)) = true := by kernel_rfl
theorem ba_125 : ((List.range 1).all fun d => bbs (125 + d)) = true := by kernel_rfl
theorem ba_126 : ((List.range 1).all fun d => bbs (126 + d)) = true := by kernel_rfl
theorem ba_127 : ((List.range 1).all fun d => bbs (127 + d)) = true := by kernel_rfl
theorem ba_128 : ((List.range 1).all fun d => bbs (128 + d)) = true := by kernel_rfl
theorem ba_129 : ((List.range 1).all fun d => bbs (129 + d)) = true := by kernel_rfl
theorem ba_130 : ((List.range 1).all fun d => bbs (130 + d)) = true := by kernel_rfl
theorem ba_131 : ((List.range 1).all fun d => bbs (131 + d)) = true := by kernel_rfl
theorem ba_132 : ((List.range 1).all fun d => bbs (132 + d)) = true := by kernel_rfl
theorem ba_133 : ((List.range 1).all fun d => bbs (133 + d)) = true := by kernel_rfl
theorem ba_134 : ((List.range 1).all fun d => bbs (134 + d)) = true := by kernel_rfl
theorem ba_135 : ((List.range 1).all fun d => bbs (135 + d)) = true := by kernel_rfl
theorem ba_136 : ((List.range 1).all fun d => bbs (136 + d)) = true := by kernel_rfl
theorem ba_137 : ((List.range 1).all fun d => bbs (137 + d)) = true := by kernel_rfl
theorem ba_138 : ((List.range 1).all fun d => bbs (138 + d)) = true := by kernel_rfl
theorem ba_139 : ((List.range 1).all fun d => bbs (139 + d)) = true := by kernel_rfl
theorem ba_140 : ((List.range 1).all fun d => bbs (140 + d)) = true := by kernel_rfl
theorem ba_141 : ((List.range 1).all fun d => bbs (141 + d)) = true := by kernel_rfl
theorem ba_142 : ((List.range 1).all fun d => bbs (142 + d)) = true := by kernel_rfl
theorem ba_143 : ((List.range 1).all fun d => bbs (143 + d)) = true := by kernel_rfl
theorem ba_144 : ((List.range 1).all fun d => bbs (144 + d)) = true := by kernel_rfl
theorem ba_145 : ((List.range 1).all fun d => bbs (145 + d)) = true := by kernel_rfl
theorem ba_146 : ((List.range 1).all fun d => bbs (146 + d)) = true := by kernel_rfl
theorem ba_147 : ((List.range 1).all fun d => bbs (147 + d)) = true := by kernel_rfl
theorem ba_148 : ((List.range 1).all fun d => bbs (148 + d)) = true := by kernel_rfl
theorem ba_149 : ((List.range 1).all fun d => bbs (149 + d)) = true := by kernel_rfl
theorem ba_150 : ((List.range 1).all fun d => bbs (150 + d)) = true := by kernel_rfl
theorem ba_151 : ((List.range 1).all fun d => bbs (151 + d)) = true := by kernel_rfl
theorem ba_152 : ((List.range 1).all fun d => bbs (152 + d)) = true := by kernel_rfl
theorem ba_153 : ((List.range 1).all fun d => bbs (153 + d)) = true := by kernel_rfl
theorem ba_154 : ((List.range 1).all fun d => bbs (154 + d)) = true := by kernel_rfl
theorem ba_155 : ((List.range 1).all fun d => bbs (155 + d)) = true := by kernel_rfl
theorem ba_156 : ((List.range 1).all fun d => bbs (156 + d)) = true := by kernel_rfl
theorem ba_157 : ((List.range 1).all fun d => bbs (157 + d)) = true := by kernel_rfl
theorem ba_158 : ((List.range 1).all fun d => bbs (158 + d)) = true := by kernel_rfl
theorem ba_159 : ((List.range 1).all fun d => bbs (159 + d)) = true := by kernel_rfl
theorem ba_160 : ((List.range 1).all fun d => bbs (160 + d)) = true := by kernel_rfl
theorem ba_161 : ((List.range 1).all fun d => bbs (161 + d)) = true := by kernel_rfl
theorem ba_162 : ((List.range 1).all fun d => bbs (162 + d)) = true := by kernel_rfl
theorem ba_163 : ((List.range 1).all fun d => bbs (163 + d)) = true := by kernel_rfl
theorem ba_164 : ((List.range 1).all fun d => bbs (164 + d)) = true := by kernel_rfl
theorem ba_165 : ((List.range 1).all fun d => bbs (165 + d)) = true := by kernel_rfl
theorem ba_166 : ((List.range 1).all fun d => bbs (166 + d)) = true := by kernel_rfl
theorem ba_167 : ((List.range 1).all fun d => bbs (167 + d)) = true := by kernel_rfl
theorem ba_168 : ((List.range 1).all fun d => bbs (168 + d)) = true := by kernel_rfl
theorem ba_169 : ((List.range 1).all fun d => bbs (169 + d)) = true := by kernel_rfl
theorem ba_170 : ((List.range 1).all fun d => bbs (170 + d)) = true := by kernel_rfl
theorem ba_171 : ((List.range 1).all fun d => bbs (171 + d)) = true := by kernel_rfl
theorem ba_172 : ((List.range 1).all fun d => bbs (172 + d)) = true := by kernel_rfl
theorem ba_173 : ((List.range 1).all fun d => bbs (173 + d)) = true := by kernel_rfl
theorem ba_174 : ((List.range 1).all fun d => bbs (174 + d)) = true := by kernel_rfl
theorem ba_175 : ((List.range 1).all fun d => bbs (175 + d)) = true := by kernel_rfl
theorem ba_176 : ((List.range 1).all fun d => bbs (176 + d)) = true := by kernel_rfl
theorem ba_177 : ((List.range 1).all fun d => bbs (177 + d)) = true := by kernel_rfl
theorem ba_178 : ((List.range 1).all fun d => bbs (178 + d)) = true := by kernel_rfl
theorem ba_179 : ((List.range 1).all fun d => bbs (179 + d)) = true := by kernel_rfl
theorem ba_180 : ((List.range 1).all fun d => bbs (180 + d)) = true := by kernel_rfl
theorem ba_181 : ((List.range 1).all fun d => bbs (181 + d)) = true := by kernel_rfl
theorem ba_182 : ((List.range 1).all fun d => bbs (182 + d)) = true := by kernel_rfl
theorem ba_183 : ((List.range 1).all fun d => bbs (183 + d)) = true := by kernel_rfl
theorem ba_184 : ((List.range 1).all fun d => bbs (184 + d)) = true := by kernel_rfl
theorem ba_185 : ((List.range 1).all fun d => bbs (185 + d)) = true := by kernel_rfl
theorem ba_186 : ((List.range 1).all fun d => bbs (186 + d)) = true := by kernel_rfl
theorem ba_187 : ((List.range 1).all fun d => bbs (187 + d)) = true := by kernel_rfl
theorem ba_188 : ((List.range 1).all fun d => bbs (188 + d)) = true := by kernel_rfl
theorem ba_189 : ((List.range 1).all fun d => bbs (189 + d)) = true := by kernel_rfl
theorem ba_190 : ((List.range 1).all fun d => bbs (190 + d)) = true := by kernel_rfl
theorem ba_191 : ((List.range 1).all fun d => bbs (191 + d)) = true := by kernel_rfl
theorem ba_192 : ((List.range 1).all fun d => bbs (192 + d)) = true := by kernel_rfl
theorem ba_193 : ((List.range 1).all fun d => bbs (193 + d)) = true := by kernel_rfl
theorem ba_194 : ((List.range 1).all fun d => bbs (194 + d)) = true := by kernel_rfl
theorem ba_195 : ((List.range 1).all fun d => bbs (195 + d)) = true := by kernel_rfl
theorem ba_196 : ((List.range 1).all fun d => bbs (196 + d)) = true := by kernel_rfl
theorem ba_197 : ((List.range 1).all fun d => bbs (197 + d)) = true := by kernel_rfl
theorem ba_198 : ((List.range 1).all fun d => bbs (198 + d)) = true := by kernel_rfl
theorem ba_199 : ((List.range 1).all fun d => bbs (199 + d)) = true := by kernel_rfl
theorem ba_200 : ((List.range 1).all fun d => bbs (200 + d)) = true := by kernel_rfl
theorem ba_201 : ((List.range 1).all fun d => bbs (201 + d)) = true := by kernel_rfl
theorem ba_202 : ((List.range 1).all fun d => bbs (202 + d)) = true := by kernel_rfl
theorem ba_203 : ((List.range 1).all fun d => bbs (203 + d)) = true := by kernel_rfl
theorem ba_204 : ((List.range 1).all fun d => bbs (204 + d)) = true := by kernel_rfl
theorem ba_205 : ((List.range 1).all fun d => bbs (205 + d)) = true := by kernel_rfl
theorem ba_206 : ((List.range 1).all fun d => bbs (206 + d)) = true := by kernel_rfl
theorem ba_207 : ((List.range 1).all fun d => bbs (207 + d)) = true := by kernel_rfl
theorem ba_208 : ((List.range 1).all fun d => bbs (208 + d)) = true := by kernel_rfl
theorem ba_209 : ((List.range 1).all fun d => bbs (209 + d)) = true := by kernel_rfl
theorem ba_210 : ((List.range 1).all fun d => bbs (210 + d)) = true := by kernel_rfl
theorem ba_211 : ((List.range 1).all fun d => bbs (211 + d)) = true := by kernel_rfl
theorem ba_212 : ((List.range 1).all fun d => bbs (212 + d)) = true := by kernel_rfl
theorem ba_213 : ((List.range 1).all fun d => bbs (213 + d)) = true := by kernel_rfl
theorem ba_214 : ((List.range 1).all fun d => bbs (214 + d)) = true := by kernel_rfl
theorem ba_215 : ((List.range 1).all fun d => bbs (215 + d)) = true := by kernel_rfl
theorem ba_216 : ((List.range 1).all fun d => bbs (216 + d)) = true := by kernel_rfl
theorem ba_217 : ((List.range 1).all fun d => bbs (217 + d)) = true := by kernel_rfl
theorem ba_218 : ((List.range 1).all fun d => bbs (218 + d)) = true := by kernel_rfl
theorem ba_219 : ((List.range 1).all fun d => bbs (219 + d)) = true := by kernel_rfl
theorem ba_220 : ((List.range 1).all fun d => bbs (220 + d)) = true := by kernel_rfl
theorem ba_221 : ((List.range 1).all fun d => bbs (221 + d)) = true := by kernel_rfl
theorem ba_222 : ((List.range 1).all fun d => bbs (222 + d)) = true := by kernel_rfl
theorem ba_223 : ((List.range 1).all fun d => bbs (223 + d)) = true := by kernel_rfl
theorem ba_224 : ((List.range 1).all fun d => bbs (224 + d)) = true := by kernel_rfl
theorem ba_225 : ((List.range 1).all fun d => bbs (225 + d)) = true := by kernel_rfl
theorem ba_226 : ((List.range 1).all fun d => bbs (226 + d)) = true := by kernel_rfl
theorem ba_227 : ((List.range 1).all fun d => bbs (227 + d)) = true := by kernel_rfl
theorem ba_228 : ((List.range 1).all fun d => bbs (228 + d)) = true := by kernel_rfl
theorem ba_229 : ((List.range 1).all fun d => bbs (229 + d)) = true := by kernel_rfl
theorem ba_230 : ((List.range 1).all fun d => bbs (230 + d)) = true := by kernel_rfl
theorem ba_231 : ((List.range 1).all fun d => bbs (231 + d)) = true := by kernel_rfl
theorem ba_232 : ((List.range 1).all fun d => bbs (232 + d)) = true := by kernel_rfl
theorem ba_233 : ((List.range 1).all fun d => bbs (233 + d)) = true := by kernel_rfl
theorem ba_234 : ((List.range 1).all fun d => bbs (234 + d)) = true := by kernel_rfl
theorem ba_235 : ((List.range 1).all fun d => bbs (235 + d)) = true := by kernel_rfl
theorem ba_236 : ((List.range 1).all fun d => bbs (236 + d)) = true := by kernel_rfl
theorem ba_237 : ((List.range 1).all fun d => bbs (237 + d)) = true := by kernel_rfl
theorem ba_238 : ((List.range 1).all fun d => bbs (238 + d)) = true := by kernel_rfl
theorem ba_239 : ((List.range 1).all fun d => bbs (239 + d)) = true := by kernel_rfl
theorem ba_240 : ((List.range 1).all fun d => bbs (240 + d)) = true := by kernel_rfl
theorem ba_241 : ((List.range 1).all fun d => bbs (241 + d)) = true := by kernel_rfl
theorem ba_242 : ((List.range 1).all fun d => bbs (242 + d)) = true := by kernel_rfl
theorem ba_243 : ((List.range 1).all fun d => bbs (243 + d)) = true := by kernel_rfl
theorem ba_244 : ((List.range 1).all fun d => bbs (244 + d)) = true := by kernel_rfl
theorem ba_245 : ((List.range 1).all fun d => bbs (245 + d)) = true := by kernel_rfl
theorem ba_246 : ((List.range 1).all fun d => bbs (246 + d)) = true := by kernel_rfl
theorem ba_247 : ((List.range 1).all fun d => bbs (247 + d)) = true := by kernel_rfl
theorem ba_248 : ((List.range 1).all fun d => bbs (248 + d)) = true := by kernel_rfl
theorem ba_249 : ((List.range 1).all fun d => bbs (249 + d)) = true := by kernel_rfl
theorem ba_250 : ((List.range 1).all fun d => bbs (250 + d)) = true := by kernel_rfl
theorem ba_251 : ((List.range 1).all fun d => bbs (251 + d)) = true := by kernel_rfl
theorem ba_252 : ((List.range 1).all fun d => bbs (252 + d)) = true := by kernel_rfl
theorem ba_253 : ((List.range 1).all fun d => bbs (253 + d)) = true := by kernel_rfl
theorem ba_254 : ((List.range 1).all fun d => bbs (254 + d)) = true := by kernel_rfl
theorem ba_255 : ((List.range 1).all fun d => bbs (255 + d)) = true := by kernel_rfl
theorem ba_256 : ((List.range 1).all fun d => bbs (256 + d)) = true := by kernel_rfl
theorem ba_257 : ((List.range 1).all fun d => bbs (257 + d)) = true := by kernel_rfl
theorem ba_258 : ((List.range 1).all fun d => bbs (258 + d)) = true := by kernel_rfl
theorem ba_259 : ((List.range 1).all fun d => bbs (259 + d)) = true := by kernel_rfl
theorem ba_260 : ((List.range 1).all fun d => bbs (260 + d)) = true := by kernel_rfl
theorem ba_261 : ((List.range 1).all fun d => bbs (261 + d)) = true := by kernel_rfl
theorem ba_262 : ((List.range 1).all fun d => bbs (262 + d)) = true := by kernel_rfl
theorem ba_263 : ((List.range 1).all fun d => bbs (263 + d)) = true := by kernel_rfl
theorem ba_264 : ((List.range 1).all fun d => bbs (264 + d)) = true := by kernel_rfl
theorem ba_265 : ((List.range 1).all fun d => bbs (265 + d)) = true := by kernel_rfl
theorem ba_266 : ((List.range 1).all fun d => bbs (266 + d)) = true := by kernel_rfl
theorem ba_267 : ((List.range 1).all fun d => bbs (267 + d)) = true := by kernel_rfl
theorem ba_268 : ((List.range 1).all fun d => bbs (268 + d)) = true := by kernel_rfl
theorem ba_269 : ((List.range 1).all fun d => bbs (269 + d)) = true := by kernel_rfl
theorem ba_270 : ((List.range 1).all fun d => bbs (270 + d)) = true := by kernel_rfl
theorem ba_271 : ((List.range 1).all fun d => bbs (271 + d)) = true := by kernel_rfl
theorem ba_all : ∀ i, i < 272 → bbs i = true := by
  intro i hi
  have hq : i = 1 * (i / 1) + i % 1 := (Nat.div_add_mod i 1).symm
  have hr : i % 1 < 1 := Nat.mod_lt _ (by decide)
  have hd : i / 1 < 272 := by omega
  generalize i / 1 = q at hq hd
  generalize i % 1 = r at hq hr
  subst hq
  match q, hd with
  | 0, _ => exact List.all_eq_true.1 ba_0 r (List.mem_range.2 (by omega))
  | 1, _ => exact List.all_eq_true.1 ba_1 r (List.mem_range.2 (by omega))
  | 2, _ => exact List.all_eq_true.1 ba_2 r (List.mem_range.2 (by omega))
  | 3, _ => exact List.all_eq_true.1 ba_3 r (List.mem_range.2 (by omega))
  | 4, _ => exact List.all_eq_true.1 ba_4 r (List.mem_range.2 (by omega))
  | 5, _ => exact List.all_eq_true.1 ba_5 r (List.mem_range.2 (by omega))
  | 6, _ => exact List.all_eq_true.1 ba_6 r (List.mem_range.2 (by omega))
  | 7, _ => exact List.all_eq_true.1 ba_7 r (List.mem_range.2 (by omega))
  | 8, _ => exact List.all_eq_true.1 ba_8 r (List.mem_range.2 (by omega))
  | 9, _ => exact List.all_eq_true.1 ba_9 r (List.mem_range.2 (by omega))
  | 10, _ => exact List.all_eq_true.1 ba_10 r (List.mem_range.2 (by omega))
  | 11, _ => exact List.all_eq_true.1 ba_11 r (List.mem_range.2 (by omega))
  | 12, _ => exact List.all_eq_true.1 ba_12 r (List.mem_range.2 (by omega))
  | 13, _ => exact List.all_eq_true.1 ba_13 r (List.mem_range.2 (by omega))
  | 14, _ => exact List.all_eq_true.1 ba_14 r (List.mem_range.2 (by omega))
  | 15, _ => exact List.all_eq_true.1 ba_15 r (List.mem_range.2 (by omega))
  | 16, _ => exact List.all_eq_true.1 ba_16 r (List.mem_range.2 (by omega))
  | 17, _ => exact List.all_eq_true.1 ba_17 r (List.mem_range.2 (by omega))
  | 18, _ => exact List.all_eq_true.1 ba_18 r (List.mem_range.2 (by omega))
  | 19, _ => exact List.all_eq_true.1 ba_19 r (List.mem_range.2 (by omega))
  | 20, _ => exact List.all_eq_true.1 ba_20 r (List.mem_range.2 (by omega))
  | 21, _ => exact List.all_eq_true.1 ba_21 r (List.mem_range.2 (by omega))
  | 22, _ => exact List.all_eq_true.1 ba_22 r (List.mem_range.2 (by omega))
  | 23, _ => exact List.all_eq_true.1 ba_23 r (List.mem_range.2 (by omega))
  | 24, _ => exact List.all_eq_true.1 ba_24 r (List.mem_range.2 (by omega))
  | 25, _ => exact List.all_eq_true.1 ba_25 r (List.mem_range.2 (by omega))
  | 26, _ => exact List.all_eq_true.1 ba_26 r (List.mem_range.2 (by omega))
  | 27, _ => exact List.all_eq_true.1 ba_27 r (List.mem_range.2 (by omega))
  | 28, _ => exact List.all_eq_true.1 ba_28 r (List.mem_range.2 (by omega))
  | 29, _ => exact List.all_eq_true.1 ba_29 r (List.mem_range.2 (by omega))
  | 30, _ => exact List.all_eq_true.1 ba_30 r (List.mem_range.2 (by omega))
  | 31, _ => exact List.all_eq_true.1 ba_31 r (List.mem_range.2 (by omega))
  | 32, _ => exact List.all_eq_true.1 ba_32 r (List.mem_range.2 (by omega))
  | 33, _ => exact List.all_eq_true.1 ba_33 r (List.mem_range.2 (by omega))
  | 34, _ => exact List.all_eq_true.1 ba_34 r (List.mem_range.2 (by omega))
  | 35, _ => exact List.all_eq_true.1 ba_35 r (List.mem_range.2 (by omega))
  | 36, _ => exact List.all_eq_true.1 ba_36 r (List.mem_range.2 (by omega))
  | 37, _ => exact List.all_eq_true.1 ba_37 r (List.mem_range.2 (by omega))
  | 38, _ => exact List.all_eq_true.1 ba_38 r (List.mem_range.2 (by omega))
  | 39, _ => exact List.all_eq_true.1 ba_39 r (List.mem_range.2 (by omega))
  | 40, _ => exact List.all_eq_true.1 ba_40 r (List.mem_range.2 (by omega))
  | 41, _ => exact List.all_eq_true.1 ba_41 r (List.mem_range.2 (by omega))
  | 42, _ => exact List.all_eq_true.1 ba_42 r (List.mem_range.2 (by omega))
  | 43, _ => exact List.all_eq_true.1 ba_43 r (List.mem_range.2 (by omega))
  | 44, _ => exact List.all_eq_true.1 ba_44 r (List.mem_range.2 (by omega))
  | 45, _ => exact List.all_eq_true.1 ba_45 r (List.mem_range.2 (by omega))
  | 46, _ => exact List.all_eq_true.1 ba_46 r (List.mem_range.2 (by omega))
  | 47, _ => exact List.all_eq_true.1 ba_47 r (List.mem_range.2 (by omega))
  | 48, _ => exact List.all_eq_true.1 ba_48 r (List.mem_range.2 (by omega))
  | 49, _ => exact List.all_eq_true.1 ba_49 r (List.mem_range.2 (by omega))
  | 50, _ => exact List.all_eq_true.1 ba_50 r (List.mem_range.2 (by omega))
  | 51, _ => exact List.all_eq_true.1 ba_51 r (List.mem_range.2 (by omega))
  | 52, _ => exact List.all_eq_true.1 ba_52 r (List.mem_range.2 (by omega))
  | 53, _ => exact List.all_eq_true.1 ba_53 r (List.mem_range.2 (by omega))
  | 54, _ => exact List.all_eq_true.1 ba_54 r (List.mem_range.2 (by omega))
  | 55, _ => exact List.all_eq_true.1 ba_55 r (List.mem_range.2 (by omega))
  | 56, _ => exact List.all_eq_true.1 ba_56 r (List.mem_range.2 (by omega))
  | 57, _ => exact List.all_eq_true.1 ba_57 r (List.mem_range.2 (by omega))
  | 58, _ => exact List.all_eq_true.1 ba_58 r (List.mem_range.2 (by omega))
  | 59, _ => exact List.all_eq_true.1 ba_59 r (List.mem_range.2 (by omega))
  | 60, _ => exact List.all_eq_true.1 ba_60 r (List.mem_range.2 (by omega))
  | 61, _ => exact List.all_eq_true.1 ba_61 r (List.mem_range.2 (by omega))
  | 62, _ => exact List.all_eq_true.1 ba_62 r (List.mem_range.2 (by omega))
  | 63, _ => exact List.all_eq_true.1 ba_63 r (List.mem_range.2 (by omega))
  | 64, _ => exact List.all_eq_true.1 ba_64 r (List.mem_range.2 (by omega))
  | 65, _ => exact List.all_eq_true.1 ba_65 r (List.mem_range.2 (by omega))
  | 66, _ => exact List.all_eq_true.1 ba_66 r (List.mem_range.2 (by omega))
  | 67, _ => exact List.all_eq_true.1 ba_67 r (List.mem_range.2 (by omega))
  | 68, _ => exact List.all_eq_true.1 ba_68 r (List.mem_range.2 (by omega))
  | 69, _ => exact List.all_eq_true.1 ba_69 r (List.mem_range.2 (by omega))
  | 70, _ => exact List.all_eq_true.1 ba_70 r (List.mem_range.2 (by omega))
  | 71, _ => exact List.all_eq_true.1 ba_71 r (List.mem_range.2 (by omega))
  | 72, _ => exact List.all_eq_true.1 ba_72 r (List.mem_range.2 (by omega))
  | 73, _ => exact List.all_eq_true.1 ba_73 r (List.mem_range.2 (by omega))
  | 74, _ => exact List.all_eq_true.1 ba_74 r (List.mem_range.2 (by omega))
  | 75, _ => exact List.all_eq_true.1 ba_75 r (List.mem_range.2 (by omega))
  | 76, _ => exact List.all_eq_true.1 ba_76 r (List.mem_range.2 (by omega))
  | 77, _ => exact List.all_eq_true.1 ba_77 r (List.mem_range.2 (by omega))
  | 78, _ => exact List.all_eq_true.1 ba_78 r (List.mem_range.2 (by omega))
  | 79, _ => exact List.all_eq_true.1 ba_79 r (List.mem_range.2 (by omega))
  | 80, _ => exact List.all_eq_true.1 ba_80 r (List.mem_range.2 (by omega))
  | 81, _ => exact List.all_eq_true.1 ba_81 r (List.mem_range.2 (by omega))
  | 82, _ => exact List.all_eq_true.1 ba_82 r (List.mem_range.2 (by omega))
  | 83, _ => exact List.all_eq_true.1 ba_83 r (List.mem_range.2 (by omega))
  | 84, _ => exact List.all_eq_true.1 ba_84 r (List.mem_range.2 (by omega))
  | 85, _ => exact List.all_eq_true.1 ba_85 r (List.mem_range.2 (by omega))
  | 86, _ => exact List.all_eq_true.1 ba_86 r (List.mem_range.2 (by omega))
  | 87, _ => exact List.all_eq_true.1 ba_87 r (List.mem_range.2 (by omega))
  | 88, _ => exact List.all_eq_true.1 ba_88 r (List.mem_range.2 (by omega))
  | 89, _ => exact List.all_eq_true.1 ba_89 r (List.mem_range.2 (by omega))
  | 90, _ => exact List.all_eq_true.1 ba_90 r (List.mem_range.2 (by omega))
  | 91, _ => exact List.all_eq_true.1 ba_91 r (List.mem_range.2 (by omega))
  | 92, _ => exact List.all_eq_true.1 ba_92 r (List.mem_range.2 (by omega))
  | 93, _ => exact List.all_eq_true.1 ba_93 r (List.mem_range.2 (by omega))
  | 94, _ => exact List.all_eq_true.1 ba_94 r (List.mem_range.2 (by omega))
  | 95, _ => exact List.all_eq_true.1 ba_95 r (List.mem_range.2 (by omega))
  | 96, _ => exact List.all_eq_true.1 ba_96 r (List.mem_range.2 (by omega))
  | 97, _ => exact List.all_eq_true.1 ba_97 r (List.mem_range.2 (by omega))
  | 98, _ => exact List.all_eq_true.1 ba_98 r (List.mem_range.2 (by omega))
  | 99, _ => exact List.all_eq_true.1 ba_99 r (List.mem_range.2 (by omega))
  | 100, _ => exact List.all_eq_true.1 ba_100 r (List.mem_range.2 (by omega))
  | 101, _ => exact List.all_eq_true.1 ba_101 r (List.mem_range.2 (by omega))
  | 102, _ => exact List.all_eq_true.1 ba_102 r (List.mem_range.2 (by omega))
  | 103, _ => exact List.all_eq_true.1 ba_103 r (List.mem_range.2 (by omega))
  | 104, _ => exact List.all_eq_true.1 ba_104 r (List.mem_range.2 (by omega))
  | 105, _ => exact List.all_eq_true.1 ba_105 r (List.mem_range.2 (by omega))
  | 106, _ => exact List.all_eq_true.1 ba_106 r (List.mem_range.2 (by omega))
  | 107, _ => exact List.all_eq_true.1 ba_107 r (List.mem_range.2 (by omega))
  | 108, _ => exact List.all_eq_true.1 ba_108 r (List.mem_range.2 (by omega))
  | 109, _ => exact List.all_eq_true.1 ba_109 r (List.mem_range.2 (by omega))
  | 110, _ => exact List.all_eq_true.1 ba_110 r (List.mem_range.2 (by omega))
  | 111, _ => exact List.all_eq_true.1 ba_111 r (List.mem_range.2 (by omega))
  | 112, _ => exact List.all_eq_true.1 ba_112 r (List.mem_range.2 (by omega))
  | 113, _ => exact List.all_eq_true.1 ba_113 r (List.mem_range.2 (by omega))
  | 114, _ => exact List.all_eq_true.1 ba_114 r (List.mem_range.2 (by omega))
  | 115, _ => exact List.all_eq_true.1 ba_115 r (List.mem_range.2 (by omega))
  | 116, _ => exact List.all_eq_true.1 ba_116 r (List.mem_range.2 (by omega))
  | 117, _ => exact List.all_eq_true.1 ba_117 r (List.mem_range.2 (by omega))
  | 118, _ => exact List.all_eq_true.1 ba_118 r (List.mem_range.2 (by omega))
  | 119, _ => exact List.all_eq_true.1 ba_119 r (List.mem_range.2 (by omega))
  | 120, _ => exact List.all_eq_true.1 ba_120 r (List.mem_range.2 (by omega))
  | 121, _ => exact List.all_eq_true.1 ba_121 r (List.mem_range.2 (by omega))
  | 122, _ => exact List.all_eq_true.1 ba_122 r (List.mem_range.2 (by omega))
  | 123, _ => exact List.all_eq_true.1 ba_123 r (List.mem_range.2 (by omega))
  | 124, _ => exact List.all_eq_true.1 ba_124 r (List.mem_range.2 (by omega))
  | 125, _ => exact List.all_eq_true.1 ba_125 r (List.mem_range.2 (by omega))
  | 126, _ => exact List.all_eq_true.1 ba_126 r (List.mem_range.2 (by omega))
  | 127, _ => exact List.all_eq_true.1 ba_127 r (List.mem_range.2 (by omega))
  | 128, _ => exact List.all_eq_true.1 ba_128 r (List.mem_range.2 (by omega))
  | 129, _ => exact List.all_eq_true.1 ba_129 r (List.mem_range.2 (by omega))
  | 130, _ => exact List.all_eq_true.1 ba_130 r (List.mem_range.2 (by omega))
  | 131, _ => exact List.all_eq_true.1 ba_131 r (List.mem_range.2 (by omega))
  | 132, _ => exact List.all_eq_true.1 ba_132 r (List.mem_range.2 (by omega))
  | 133, _ => exact List.all_eq_true.1 ba_133 r (List.mem_range.2 (by omega))
  | 134, _ => exact List.all_eq_true.1 ba_134 r (List.mem_range.2 (by omega))
  | 135, _ => exact List.all_eq_true.1 ba_135 r (List.mem_range.2 (by omega))
  | 136, _ => exact List.all_eq_true.1 ba_136 r (List.mem_range.2 (by omega))
  | 137, _ => exact List.all_eq_true.1 ba_137 r (List.mem_range.2 (by omega))
  | 138, _ => exact List.all_eq_true.1 ba_138 r (List.mem_range.2 (by omega))
  | 139, _ => exact List.all_eq_true.1 ba_139 r (List.mem_range.2 (by omega))
  | 140, _ => exact List.all_eq_true.1 ba_140 r (List.mem_range.2 (by omega))
  | 141, _ => exact List.all_eq_true.1 ba_141 r (List.mem_range.2 (by omega))
  | 142, _ => exact List.all_eq_true.1 ba_142 r (List.mem_range.2 (by omega))
  | 143, _ => exact List.all_eq_true.1 ba_143 r (List.mem_range.2 (by omega))
  | 144, _ => exact List.all_eq_true.1 ba_144 r (List.mem_range.2 (by omega))
  | 145, _ => exact List.all_eq_true.1 ba_145 r (List.mem_range.2 (by omega))
  | 146, _ => exact List.all_eq_true.1 ba_146 r (List.mem_range.2 (by omega))
  | 147, _ => exact List.all_eq_true.1 ba_147 r (List.mem_range.2 (by omega))
  | 148, _ => exact List.all_eq_true.1 ba_148 r (List.mem_range.2 (by omega))
  | 149, _ => exact List.all_eq_true.1 ba_149 r (List.mem_range.2 (by omega))
  | 150, _ => exact List.all_eq_true.1 ba_150 r (List.mem_range.2 (by omega))
  | 151, _ => exact List.all_eq_true.1 ba_151 r (List.mem_range.2 (by omega))
  | 152, _ => exact List.all_eq_true.1 ba_152 r (List.mem_range.2 (by omega))
  | 153, _ => exact List.all_eq_true.1 ba_153 r (List.mem_range.2 (by omega))
  | 154, _ => exact List.all_eq_true.1 ba_154 r (List.mem_range.2 (by omega))
  | 155, _ => exact List.all_eq_true.1 ba_155 r (List.mem_range.2 (by omega))
  | 156, _ => exact List.all_eq_true.1 ba_156 r (List.mem_range.2 (by omega))
  | 157, _ => exact List.all_eq_true.1 ba_157 r (List.mem_range.2 (by omega))
  | 158, _ => exact List.all_eq_true.1 ba_158 r (List.mem_range.2 (by omega))
  | 159, _ => exact List.all_eq_true.1 ba_159 r (List.mem_range.2 (by omega))
  | 160, _ => exact List.all_eq_true.1 ba_160 r (List.mem_range.2 (by omega))
  | 161, _ => exact List.all_eq_true.1 ba_161 r (List.mem_range.2 (by omega))
  | 162, _ => exact List.all_eq_true.1 ba_162 r (List.mem_range.2 (by omega))
  | 163, _ => exact List.all_eq_true.1 ba_163 r (List.mem_range.2 (by omega))
  | 164, _ => exact List.all_eq_true.1 ba_164 r (List.mem_range.2 (by omega))
  | 165, _ => exact List.all_eq_true.1 ba_165 r (List.mem_range.2 (by omega))
  | 166, _ => exact List.all_eq_true.1 ba_166 r (List.mem_range.2 (by omega))
  | 167, _ => exact List.all_eq_true.1 ba_167 r (List.mem_range.2 (by omega))
  | 168, _ => exact List.all_eq_true.1 ba_168 r (List.mem_range.2 (by omega))
  | 169, _ => exact List.all_eq_true.1 ba_169 r (List.mem_range.2 (by omega))
  | 170, _ => exact List.all_eq_true.1 ba_170 r (List.mem_range.2 (by omega))
  | 171, _ => exact List.all_eq_true.1 ba_171 r (List.mem_range.2 (by omega))
  | 172, _ => exact List.all_eq_true.1 ba_172 r (List.mem_range.2 (by omega))
  | 173, _ => exact List.all_eq_true.1 ba_173 r (List.mem_range.2 (by omega))
  | 174, _ => exact List.all_eq_true.1 ba_174 r (List.mem_range.2 (by omega))
  | 175, _ => exact List.all_eq_true.1 ba_175 r (List.mem_range.2 (by omega))
  | 176, _ => exact List.all_eq_true.1 ba_176 r (List.mem_range.2 (by omega))
  | 177, _ => exact List.all_eq_true.1 ba_177 r (List.mem_range.2 (by omega))
  | 178, _ => exact List.all_eq_true.1 ba_178 r (List.mem_range.2 (by omega))
  | 179, _ => exact List.all_eq_true.1 ba_179 r (List.mem_range.2 (by omega))
  | 180, _ => exact List.all_eq_true.1 ba_180 r (List.mem_range.2 (by omega))
  | 181, _ => exact List.all_eq_true.1 ba_181 r (List.mem_range.2 (by omega))
  | 182, _ => exact List.all_eq_true.1 ba_182 r (List.mem_range.2 (by omega))
  | 183, _ => exact List.all_eq_true.1 ba_183 r (List.mem_range.2 (by omega))
  | 184, _ => exact List.all_eq_true.1 ba_184 r (List.mem_range.2 (by omega))
  | 185, _ => exact List.all_eq_true.1 ba_185 r (List.mem_range.2 (by omega))
  | 186, _ => exact List.all_eq_true.1 ba_186 r (List.mem_range.2 (by omega))
  | 187, _ => exact List.all_eq_true.1 ba_187 r (List.mem_range.2 (by omega))
  | 188, _ => exact List.all_eq_true.1 ba_188 r (List.mem_range.2 (by omega))
  | 189, _ => exact List.all_eq_true.1 ba_189 r (List.mem_range.2 (by omega))
  | 190, _ => exact List.all_eq_true.1 ba_190 r (List.mem_range.2 (by omega))
  | 191, _ => exact List.all_eq_true.1 ba_191 r (List.mem_range.2 (by omega))
  | 192, _ => exact List.all_eq_true.1 ba_192 r (List.mem_range.2 (by omega))
  | 193, _ => exact List.all_eq_true.1 ba_193 r (List.mem_range.2 (by omega))
  | 194, _ => exact List.all_eq_true.1 ba_194 r (List.mem_range.2 (by omega))
  | 195, _ => exact List.all_eq_true.1 ba_195 r (List.mem_range.2 (by omega))
  | 196, _ => exact List.all_eq_true.1 ba_196 r (List.mem_range.2 (by omega))
  | 197, _ => exact List.all_eq_true.1 ba_197 r (List.mem_range.2 (by omega))
  | 198, _ => exact List.all_eq_true.1 ba_198 r (List.mem_range.2 (by omega))
  | 199, _ => exact List.all_eq_true.1 ba_199 r (List.mem_range.2 (by omega))
  | 200, _ => exact List.all_eq_true.1 ba_200 r (List.mem_range.2 (by omega))
  | 201, _ => exact List.all_eq_true.1 ba_201 r (List.mem_range.2 (by omega))
  | 202, _ => exact List.all_eq_true.1 ba_202 r (List.mem_range.2 (by omega))
  | 203, _ => exact List.all_eq_true.1 ba_203 r (List.mem_range.2 (by omega))
  | 204, _ => exact List.all_eq_true.1 ba_204 r (List.mem_range.2 (by omega))
  | 205, _ => exact List.all_eq_true.1 ba_205 r (List.mem_range.2 (by omega))
  | 206, _ => exact List.all_eq_true.1 ba_206 r (List.mem_range.2 (by omega))
  | 207, _ => exact List.all_eq_true.1 ba_207 r (List.mem_range.2 (by omega))
  | 208, _ => exact List.all_eq_true.1 ba_208 r (List.mem_range.2 (by omega))
  | 209, _ => exact List.all_eq_true.1 ba_209 r (List.mem_range.2 (by omega))
  | 210, _ => exact List.all_eq_true.1 ba_210 r (List.mem_range.2 (by omega))
  | 211, _ => exact List.all_eq_true.1 ba_211 r (List.mem_range.2 (by omega))
  | 212, _ => exact List.all_eq_true.1 ba_212 r (List.mem_range.2 (by omega))
  | 213, _ => exact List.all_eq_true.1 ba_213 r (List.mem_range.2 (by omega))
  | 214, _ => exact List.all_eq_true.1 ba_214 r (List.mem_range.2 (by omega))
  | 215, _ => exact List.all_eq_true.1 ba_215 r (List.mem_range.2 (by omega))
  | 216, _ => exact List.all_eq_true.1 ba_216 r (List.mem_range.2 (by omega))
  | 217, _ => exact List.all_eq_true.1 ba_217 r (List.mem_range.2 (by omega))
  | 218, _ => exact List.all_eq_true.1 ba_218 r (List.mem_range.2 (by omega))
  | 219, _ => exact List.all_eq_true.1 ba_219 r (List.mem_range.2 (by omega))
  | 220, _ => exact List.all_eq_true.1 ba_220 r (List.mem_range.2 (by omega))
  | 221, _ => exact List.all_eq_true.1 ba_221 r (List.mem_range.2 (by omega))
  | 222, _ => exact List.all_eq_true.1 ba_222 r (List.mem_range.2 (by omega))
  | 223, _ => exact List.all_eq_true.1 ba_223 r (List.mem_range.2 (by omega))
  | 224, _ => exact List.all_eq_true.1 ba_224 r (List.mem_range.2 (by omega))
  | 225, _ => exact List.all_eq_true.1 ba_225 r (List.mem_range.2 (by omega))
  | 226, _ => exact List.all_eq_true.1 ba_226 r (List.mem_range.2 (by omega))
  | 227, _ => exact List.all_eq_true.1 ba_227 r (List.mem_range.2 (by omega))
  | 228, _ => exact List.all_eq_true.1 ba_228 r (List.mem_range.2 (by omega))
  | 229, _ => exact List.all_eq_true.1 ba_229 r (List.mem_range.2 (by omega))
  | 230, _ => exact List.all_eq_true.1 ba_230 r (List.mem_range.2 (by omega))
  | 231, _ => exact List.all_eq_true.1 ba_231 r (List.mem_range.2 (by omega))
  | 232, _ => exact List.all_eq_true.1 ba_232 r (List.mem_range.2 (by omega))
  | 233, _ => exact List.all_eq_true.1 ba_233 r (List.mem_range.2 (by omega))
  | 234, _ => exact List.all_eq_true.1 ba_234 r (List.mem_range.2 (by omega))
  | 235, _ => exact List.all_eq_true.1 ba_235 r (List.mem_range.2 (by omega))
  | 236, _ => exact List.all_eq_true.1 ba_236 r (List.mem_range.2 (by omega))
  | 237, _ => exact List.all_eq_true.1 ba_237 r (List.mem_range.2 (by omega))
  | 238, _ => exact List.all_eq_true.1 ba_238 r (List.mem_range.2 (by omega))
  | 239, _ => exact List.all_eq_true.1 ba_239 r (List.mem_range.2 (by omega))
  | 240, _ => exact List.all_eq_true.1 ba_240 r (List.mem_range.2 (by omega))
  | 241, _ => exact List.all_eq_true.1 ba_241 r (List.mem_range.2 (by omega))
  | 242, _ => exact List.all_eq_true.1 ba_242 r (List.mem_range.2 (by omega))
  | 243, _ => exact List.all_eq_true.1 ba_243 r (List.mem_range.2 (by omega))
  | 244, _ => exact List.all_eq_true.1 ba_244 r (List.mem_range.2 (by omega))
  | 245, _ => exact List.all_eq_true.1 ba_245 r (List.mem_range.2 (by omega))
  | 246, _ => exact List.all_eq_true.1 ba_246 r (List.mem_range.2 (by omega))
  | 247, _ => exact List.all_eq_true.1 ba_247 r (List.mem_range.2 (by omega))
  | 248, _ => exact List.all_eq_true.1 ba_248 r (List.mem_range.2 (by omega))
  | 249, _ => exact List.all_eq_true.1 ba_249 r (List.mem_range.2 (by omega))
  | 250, _ => exact List.all_eq_true.1 ba_250 r (List.mem_range.2 (by omega))
  | 251, _ => exact List.all_eq_true.1 ba_251 r (List.mem_range.2 (by omega))
  | 252, _ => exact List.all_eq_true.1 ba_252 r (List.mem_range.2 (by omega))
  | 253, _ => exact List.all_eq_true.1 ba_253 r (List.mem_range.2 (by omega))
  | 254, _ => exact List.all_eq_true.1 ba_254 r (List.mem_range.2 (by omega))
  | 255, _ => exact List.all_eq_true.1 ba_255 r (List.mem_range.2 (by omega))
  | 256, _ => exact List.all_eq_true.1 ba_256 r (List.mem_range.2 (by omega))
  | 257, _ => exact List.all_eq_true.1 ba_257 r (List.mem_range.2 (by omega))
  | 258, _ => exact List.all_eq_true.1 ba_258 r (List.mem_range.2 (by omega))
  | 259, _ => exact List.all_eq_true.1 ba_259 r (List.mem_range.2 (by omega))
  | 260, _ => exact List.all_eq_true.1 ba_260 r (List.mem_range.2 (by omega))
  | 261, _ => exact List.all_eq_true.1 ba_261 r (List.mem_range.2 (by omega))
  | 262, _ => exact List.all_eq_true.1 ba_262 r (List.mem_range.2 (by omega))
  | 263, _ => exact List.all_eq_true.1 ba_263 r (List.mem_range.2 (by omega))
  | 264, _ => exact List.all_eq_true.1 ba_264 r (List.mem_range.2 (by omega))
  | 265, _ => exact List.all_eq_true.1 ba_265 r (List.mem_range.2 (by omega))
  | 266, _ => exact List.all_eq_true.1 ba_266 r (List.mem_range.2 (by omega))
  | 267, _ => exact List.all_eq_true.1 ba_267 r (List.mem_range.2 (by omega))
  | 268, _ => exact List.all_eq_true.1 ba_268 r (List.mem_range.2 (by omega))
  | 269, _ => exact List.all_eq_true.1 ba_269 r (List.mem_range.2 (by omega))
  | 270, _ => exact List.all_eq_true.1 ba_270 r (List.mem_range.2 (by omega))
  | 271, _ => exact List.all_eq_true.1 ba_271 r (List.mem_range.2 (by omega))
  | q + 272, h => exact absurd h (by omega)
end Go.Proofs.YtolngjaihlggnaaGreatDoor.PL
