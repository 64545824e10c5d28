import Derived.Test.YtinopjbpjopdcaaGreatDoorPlainFullBase
/-! PlainFull: the trees 360 to 539. -/
namespace Go.Proofs.YtinopjbpjopdcaaGreatDoor.PF
open Go.Ev
noncomputable def full2 (i : Nat) : Bool := full (360 + i)
theorem fu2_0 : ((List.range 1).all fun d => full2 (0 + d)) = true := by kernel_rfl
theorem fu2_1 : ((List.range 1).all fun d => full2 (1 + d)) = true := by kernel_rfl
theorem fu2_2 : ((List.range 1).all fun d => full2 (2 + d)) = true := by kernel_rfl
theorem fu2_3 : ((List.range 1).all fun d => full2 (3 + d)) = true := by kernel_rfl
theorem fu2_4 : ((List.range 1).all fun d => full2 (4 + d)) = true := by kernel_rfl
theorem fu2_5 : ((List.range 1).all fun d => full2 (5 + d)) = true := by kernel_rfl
theorem fu2_6 : ((List.range 1).all fun d => full2 (6 + d)) = true := by kernel_rfl
theorem fu2_7 : ((List.range 1).all fun d => full2 (7 + d)) = true := by kernel_rfl
theorem fu2_8 : ((List.range 1).all fun d => full2 (8 + d)) = true := by kernel_rfl
theorem fu2_9 : ((List.range 1).all fun d => full2 (9 + d)) = true := by kernel_rfl
theorem fu2_10 : ((List.range 1).all fun d => full2 (10 + d)) = true := by kernel_rfl
theorem fu2_11 : ((List.range 1).all fun d => full2 (11 + d)) = true := by kernel_rfl
theorem fu2_12 : ((List.range 1).all fun d => full2 (12 + d)) = true := by kernel_rfl
theorem fu2_13 : ((List.range 1).all fun d => full2 (13 + d)) = true := by kernel_rfl
theorem fu2_14 : ((List.range 1).all fun d => full2 (14 + d)) = true := by kernel_rfl
theorem fu2_15 : ((List.range 1).all fun d => full2 (15 + d)) = true := by kernel_rfl
theorem fu2_16 : ((List.range 1).all fun d => full2 (16 + d)) = true := by kernel_rfl
theorem fu2_17 : ((List.range 1).all fun d => full2 (17 + d)) = true := by kernel_rfl
theorem fu2_18 : ((List.range 1).all fun d => full2 (18 + d)) = true := by kernel_rfl
theorem fu2_19 : ((List.range 1).all fun d => full2 (19 + d)) = true := by kernel_rfl
theorem fu2_20 : ((List.range 1).all fun d => full2 (20 + d)) = true := by kernel_rfl
theorem fu2_21 : ((List.range 1).all fun d => full2 (21 + d)) = true := by kernel_rfl
theorem fu2_22 : ((List.range 1).all fun d => full2 (22 + d)) = true := by kernel_rfl
theorem fu2_23 : ((List.range 1).all fun d => full2 (23 + d)) = true := by kernel_rfl
theorem fu2_24 : ((List.range 1).all fun d => full2 (24 + d)) = true := by kernel_rfl
theorem fu2_25 : ((List.range 1).all fun d => full2 (25 + d)) = true := by kernel_rfl
theorem fu2_26 : ((List.range 1).all fun d => full2 (26 + d)) = true := by kernel_rfl
theorem fu2_27 : ((List.range 1).all fun d => full2 (27 + d)) = true := by kernel_rfl
theorem fu2_28 : ((List.range 1).all fun d => full2 (28 + d)) = true := by kernel_rfl
theorem fu2_29 : ((List.range 1).all fun d => full2 (29 + d)) = true := by kernel_rfl
theorem fu2_30 : ((List.range 1).all fun d => full2 (30 + d)) = true := by kernel_rfl
theorem fu2_31 : ((List.range 1).all fun d => full2 (31 + d)) = true := by kernel_rfl
theorem fu2_32 : ((List.range 1).all fun d => full2 (32 + d)) = true := by kernel_rfl
theorem fu2_33 : ((List.range 1).all fun d => full2 (33 + d)) = true := by kernel_rfl
theorem fu2_34 : ((List.range 1).all fun d => full2 (34 + d)) = true := by kernel_rfl
theorem fu2_35 : ((List.range 1).all fun d => full2 (35 + d)) = true := by kernel_rfl
theorem fu2_36 : ((List.range 1).all fun d => full2 (36 + d)) = true := by kernel_rfl
theorem fu2_37 : ((List.range 1).all fun d => full2 (37 + d)) = true := by kernel_rfl
theorem fu2_38 : ((List.range 1).all fun d => full2 (38 + d)) = true := by kernel_rfl
theorem fu2_39 : ((List.range 1).all fun d => full2 (39 + d)) = true := by kernel_rfl
theorem fu2_40 : ((List.range 1).all fun d => full2 (40 + d)) = true := by kernel_rfl
theorem fu2_41 : ((List.range 1).all fun d => full2 (41 + d)) = true := by kernel_rfl
theorem fu2_42 : ((List.range 1).all fun d => full2 (42 + d)) = true := by kernel_rfl
theorem fu2_43 : ((List.range 1).all fun d => full2 (43 + d)) = true := by kernel_rfl
theorem fu2_44 : ((List.range 1).all fun d => full2 (44 + d)) = true := by kernel_rfl
theorem fu2_45 : ((List.range 1).all fun d => full2 (45 + d)) = true := by kernel_rfl
theorem fu2_46 : ((List.range 1).all fun d => full2 (46 + d)) = true := by kernel_rfl
theorem fu2_47 : ((List.range 1).all fun d => full2 (47 + d)) = true := by kernel_rfl
theorem fu2_48 : ((List.range 1).all fun d => full2 (48 + d)) = true := by kernel_rfl
theorem fu2_49 : ((List.range 1).all fun d => full2 (49 + d)) = true := by kernel_rfl
theorem fu2_50 : ((List.range 1).all fun d => full2 (50 + d)) = true := by kernel_rfl
theorem fu2_51 : ((List.range 1).all fun d => full2 (51 + d)) = true := by kernel_rfl
theorem fu2_52 : ((List.range 1).all fun d => full2 (52 + d)) = true := by kernel_rfl
theorem fu2_53 : ((List.range 1).all fun d => full2 (53 + d)) = true := by kernel_rfl
theorem fu2_54 : ((List.range 1).all fun d => full2 (54 + d)) = true := by kernel_rfl
theorem fu2_55 : ((List.range 1).all fun d => full2 (55 + d)) = true := by kernel_rfl
theorem fu2_56 : ((List.range 1).all fun d => full2 (56 + d)) = true := by kernel_rfl
theorem fu2_57 : ((List.range 1).all fun d => full2 (57 + d)) = true := by kernel_rfl
theorem fu2_58 : ((List.range 1).all fun d => full2 (58 + d)) = true := by kernel_rfl
theorem fu2_59 : ((List.range 1).all fun d => full2 (59 + d)) = true := by kernel_rfl
theorem fu2_60 : ((List.range 1).all fun d => full2 (60 + d)) = true := by kernel_rfl
theorem fu2_61 : ((List.range 1).all fun d => full2 (61 + d)) = true := by kernel_rfl
theorem fu2_62 : ((List.range 1).all fun d => full2 (62 + d)) = true := by kernel_rfl
theorem fu2_63 : ((List.range 1).all fun d => full2 (63 + d)) = true := by kernel_rfl
theorem fu2_64 : ((List.range 1).all fun d => full2 (64 + d)) = true := by kernel_rfl
theorem fu2_65 : ((List.range 1).all fun d => full2 (65 + d)) = true := by kernel_rfl
theorem fu2_66 : ((List.range 1).all fun d => full2 (66 + d)) = true := by kernel_rfl
theorem fu2_67 : ((List.range 1).all fun d => full2 (67 + d)) = true := by kernel_rfl
theorem fu2_68 : ((List.range 1).all fun d => full2 (68 + d)) = true := by kernel_rfl
theorem fu2_69 : ((List.range 1).all fun d => full2 (69 + d)) = true := by kernel_rfl
theorem fu2_70 : ((List.range 1).all fun d => full2 (70 + d)) = true := by kernel_rfl
theorem fu2_71 : ((List.range 1).all fun d => full2 (71 + d)) = true := by kernel_rfl
theorem fu2_72 : ((List.range 1).all fun d => full2 (72 + d)) = true := by kernel_rfl
theorem fu2_73 : ((List.range 1).all fun d => full2 (73 + d)) = true := by kernel_rfl
theorem fu2_74 : ((List.range 1).all fun d => full2 (74 + d)) = true := by kernel_rfl
theorem fu2_75 : ((List.range 1).all fun d => full2 (75 + d)) = true := by kernel_rfl
theorem fu2_76 : ((List.range 1).all fun d => full2 (76 + d)) = true := by kernel_rfl
theorem fu2_77 : ((List.range 1).all fun d => full2 (77 + d)) = true := by kernel_rfl
theorem fu2_78 : ((List.range 1).all fun d => full2 (78 + d)) = true := by kernel_rfl
theorem fu2_79 : ((List.range 1).all fun d => full2 (79 + d)) = true := by kernel_rfl
theorem fu2_80 : ((List.range 1).all fun d => full2 (80 + d)) = true := by kernel_rfl
theorem fu2_81 : ((List.range 1).all fun d => full2 (81 + d)) = true := by kernel_rfl
theorem fu2_82 : ((List.range 1).all fun d => full2 (82 + d)) = true := by kernel_rfl
theorem fu2_83 : ((List.range 1).all fun d => full2 (83 + d)) = true := by kernel_rfl
theorem fu2_84 : ((List.range 1).all fun d => full2 (84 + d)) = true := by kernel_rfl
theorem fu2_85 : ((List.range 1).all fun d => full2 (85 + d)) = true := by kernel_rfl
theorem fu2_86 : ((List.range 1).all fun d => full2 (86 + d)) = true := by kernel_rfl
theorem fu2_87 : ((List.range 1).all fun d => full2 (87 + d)) = true := by kernel_rfl
theorem fu2_88 : ((List.range 1).all fun d => full2 (88 + d)) = true := by kernel_rfl
theorem fu2_89 : ((List.range 1).all fun d => full2 (89 + d)) = true := by kernel_rfl
theorem fu2_90 : ((List.range 1).all fun d => full2 (90 + d)) = true := by kernel_rfl
theorem fu2_91 : ((List.range 1).all fun d => full2 (91 + d)) = true := by kernel_rfl
theorem fu2_92 : ((List.range 1).all fun d => full2 (92 + d)) = true := by kernel_rfl
theorem fu2_93 : ((List.range 1).all fun d => full2 (93 + d)) = true := by kernel_rfl
theorem fu2_94 : ((List.range 1).all fun d => full2 (94 + d)) = true := by kernel_rfl
theorem fu2_95 : ((List.range 1).all fun d => full2 (95 + d)) = true := by kernel_rfl
theorem fu2_96 : ((List.range 1).all fun d => full2 (96 + d)) = true := by kernel_rfl
theorem fu2_97 : ((List.range 1).all fun d => full2 (97 + d)) = true := by kernel_rfl
theorem fu2_98 : ((List.range 1).all fun d => full2 (98 + d)) = true := by kernel_rfl
theorem fu2_99 : ((List.range 1).all fun d => full2 (99 + d)) = true := by kernel_rfl
theorem fu2_100 : ((List.range 1).all fun d => full2 (100 + d)) = true := by kernel_rfl
theorem fu2_101 : ((List.range 1).all fun d => full2 (101 + d)) = true := by kernel_rfl
theorem fu2_102 : ((List.range 1).all fun d => full2 (102 + d)) = true := by kernel_rfl
theorem fu2_103 : ((List.range 1).all fun d => full2 (103 + d)) = true := by kernel_rfl
theorem fu2_104 : ((List.range 1).all fun d => full2 (104 + d)) = true := by kernel_rfl
theorem fu2_105 : ((List.range 1).all fun d => full2 (105 + d)) = true := by kernel_rfl
theorem fu2_106 : ((List.range 1).all fun d => full2 (106 + d)) = true := by kernel_rfl
theorem fu2_107 : ((List.range 1).all fun d => full2 (107 + d)) = true := by kernel_rfl
theorem fu2_108 : ((List.range 1).all fun d => full2 (108 + d)) = true := by kernel_rfl
theorem fu2_109 : ((List.range 1).all fun d => full2 (109 + d)) = true := by kernel_rfl
theorem fu2_110 : ((List.range 1).all fun d => full2 (110 + d)) = true := by kernel_rfl
theorem fu2_111 : ((List.range 1).all fun d => full2 (111 + d)) = true := by kernel_rfl
theorem fu2_112 : ((List.range 1).all fun d => full2 (112 + d)) = true := by kernel_rfl
theorem fu2_113 : ((List.range 1).all fun d => full2 (113 + d)) = true := by kernel_rfl
theorem fu2_114 : ((List.range 1).all fun d => full2 (114 + d)) = true := by kernel_rfl
theorem fu2_115 : ((List.range 1).all fun d => full2 (115 + d)) = true := by kernel_rfl
theorem fu2_116 : ((List.range 1).all fun d => full2 (116 + d)) = true := by kernel_rfl
theorem fu2_117 : ((List.range 1).all fun d => full2 (117 + d)) = true := by kernel_rfl
theorem fu2_118 : ((List.range 1).all fun d => full2 (118 + d)) = true := by kernel_rfl
theorem fu2_119 : ((List.range 1).all fun d => full2 (119 + d)) = true := by kernel_rfl
theorem fu2_120 : ((List.range 1).all fun d => full2 (120 + d)) = true := by kernel_rfl
theorem fu2_121 : ((List.range 1).all fun d => full2 (121 + d)) = true := by kernel_rfl
theorem fu2_122 : ((List.range 1).all fun d => full2 (122 + d)) = true := by kernel_rfl
theorem fu2_123 : ((List.range 1).all fun d => full2 (123 + d)) = true := by kernel_rfl
theorem fu2_124 : ((List.range 1).all fun d => full2 (124 + d)) = true := by kernel_rfl
theorem fu2_125 : ((List.range 1).all fun d => full2 (125 + d)) = true := by kernel_rfl
theorem fu2_126 : ((List.range 1).all fun d => full2 (126 + d)) = true := by kernel_rfl
theorem fu2_127 : ((List.range 1).all fun d => full2 (127 + d)) = true := by kernel_rfl
theorem fu2_128 : ((List.range 1).all fun d => full2 (128 + d)) = true := by kernel_rfl
theorem fu2_129 : ((List.range 1).all fun d => full2 (129 + d)) = true := by kernel_rfl
theorem fu2_130 : ((List.range 1).all fun d => full2 (130 + d)) = true := by kernel_rfl
theorem fu2_131 : ((List.range 1).all fun d => full2 (131 + d)) = true := by kernel_rfl
theorem fu2_132 : ((List.range 1).all fun d => full2 (132 + d)) = true := by kernel_rfl
theorem fu2_133 : ((List.range 1).all fun d => full2 (133 + d)) = true := by kernel_rfl
theorem fu2_134 : ((List.range 1).all fun d => full2 (134 + d)) = true := by kernel_rfl
theorem fu2_135 : ((List.range 1).all fun d => full2 (135 + d)) = true := by kernel_rfl
theorem fu2_136 : ((List.range 1).all fun d => full2 (136 + d)) = true := by kernel_rfl
theorem fu2_137 : ((List.range 1).all fun d => full2 (137 + d)) = true := by kernel_rfl
theorem fu2_138 : ((List.range 1).all fun d => full2 (138 + d)) = true := by kernel_rfl
theorem fu2_139 : ((List.range 1).all fun d => full2 (139 + d)) = true := by kernel_rfl
theorem fu2_140 : ((List.range 1).all fun d => full2 (140 + d)) = true := by kernel_rfl
theorem fu2_141 : ((List.range 1).all fun d => full2 (141 + d)) = true := by kernel_rfl
theorem fu2_142 : ((List.range 1).all fun d => full2 (142 + d)) = true := by kernel_rfl
theorem fu2_143 : ((List.range 1).all fun d => full2 (143 + d)) = true := by kernel_rfl
theorem fu2_144 : ((List.range 1).all fun d => full2 (144 + d)) = true := by kernel_rfl
theorem fu2_145 : ((List.range 1).all fun d => full2 (145 + d)) = true := by kernel_rfl
theorem fu2_146 : ((List.range 1).all fun d => full2 (146 + d)) = true := by kernel_rfl
theorem fu2_147 : ((List.range 1).all fun d => full2 (147 + d)) = true := by kernel_rfl
theorem fu2_148 : ((List.range 1).all fun d => full2 (148 + d)) = true := by kernel_rfl
theorem fu2_149 : ((List.range 1).all fun d => full2 (149 + d)) = true := by kernel_rfl
theorem fu2_150 : ((List.range 1).all fun d => full2 (150 + d)) = true := by kernel_rfl
theorem fu2_151 : ((List.range 1).all fun d => full2 (151 + d)) = true := by kernel_rfl
theorem fu2_152 : ((List.range 1).all fun d => full2 (152 + d)) = true := by kernel_rfl
theorem fu2_153 : ((List.range 1).all fun d => full2 (153 + d)) = true := by kernel_rfl
theorem fu2_154 : ((List.range 1).all fun d => full2 (154 + d)) = true := by kernel_rfl
theorem fu2_155 : ((List.range 1).all fun d => full2 (155 + d)) = true := by kernel_rfl
theorem fu2_156 : ((List.range 1).all fun d => full2 (156 + d)) = true := by kernel_rfl
theorem fu2_157 : ((List.range 1).all fun d => full2 (157 + d)) = true := by kernel_rfl
theorem fu2_158 : ((List.range 1).all fun d => full2 (158 + d)) = true := by kernel_rfl
theorem fu2_159 : ((List.range 1).all fun d => full2 (159 + d)) = true := by kernel_rfl
theorem fu2_160 : ((List.range 1).all fun d => full2 (160 + d)) = true := by kernel_rfl
theorem fu2_161 : ((List.range 1).all fun d => full2 (161 + d)) = true := by kernel_rfl
theorem fu2_162 : ((List.range 1).all fun d => full2 (162 + d)) = true := by kernel_rfl
theorem fu2_163 : ((List.range 1).all fun d => full2 (163 + d)) = true := by kernel_rfl
theorem fu2_164 : ((List.range 1).all fun d => full2 (164 + d)) = true := by kernel_rfl
theorem fu2_165 : ((List.range 1).all fun d => full2 (165 + d)) = true := by kernel_rfl
theorem fu2_166 : ((List.range 1).all fun d => full2 (166 + d)) = true := by kernel_rfl
theorem fu2_167 : ((List.range 1).all fun d => full2 (167 + d)) = true := by kernel_rfl
theorem fu2_168 : ((List.range 1).all fun d => full2 (168 + d)) = true := by kernel_rfl
theorem fu2_169 : ((List.range 1).all fun d => full2 (169 + d)) = true := by kernel_rfl
theorem fu2_170 : ((List.range 1).all fun d => full2 (170 + d)) = true := by kernel_rfl
theorem fu2_171 : ((List.range 1).all fun d => full2 (171 + d)) = true := by kernel_rfl
theorem fu2_172 : ((List.range 1).all fun d => full2 (172 + d)) = true := by kernel_rfl
theorem fu2_173 : ((List.range 1).all fun d => full2 (173 + d)) = true := by kernel_rfl
theorem fu2_174 : ((List.range 1).all fun d => full2 (174 + d)) = true := by kernel_rfl
theorem fu2_175 : ((List.range 1).all fun d => full2 (175 + d)) = true := by kernel_rfl
theorem fu2_176 : ((List.range 1).all fun d => full2 (176 + d)) = true := by kernel_rfl
theorem fu2_177 : ((List.range 1).all fun d => full2 (177 + d)) = true := by kernel_rfl
theorem fu2_178 : ((List.range 1).all fun d => full2 (178 + d)) = true := by kernel_rfl
theorem fu2_179 : ((List.range 1).all fun d => full2 (179 + d)) = true := by kernel_rfl
theorem fu2_all : ∀ i, i < 180 → full2 i = true := by
  intro i hi
  have hq : i = 1 * (i / 1) + i % 1 := (Nat.div_add_mod i 1).symm
  have hr : i % 1 < 1 := Nat.mod_lt _ (by decide)
  have hd : i / 1 < 180 := by omega
  generalize i / 1 = q at hq hd
  generalize i % 1 = r at hq hr
  subst hq
  match q, hd with
  | 0, _ => exact List.all_eq_true.1 fu2_0 r (List.mem_range.2 (by omega))
  | 1, _ => exact List.all_eq_true.1 fu2_1 r (List.mem_range.2 (by omega))
  | 2, _ => exact List.all_eq_true.1 fu2_2 r (List.mem_range.2 (by omega))
  | 3, _ => exact List.all_eq_true.1 fu2_3 r (List.mem_range.2 (by omega))
  | 4, _ => exact List.all_eq_true.1 fu2_4 r (List.mem_range.2 (by omega))
  | 5, _ => exact List.all_eq_true.1 fu2_5 r (List.mem_range.2 (by omega))
  | 6, _ => exact List.all_eq_true.1 fu2_6 r (List.mem_range.2 (by omega))
  | 7, _ => exact List.all_eq_true.1 fu2_7 r (List.mem_range.2 (by omega))
  | 8, _ => exact List.all_eq_true.1 fu2_8 r (List.mem_range.2 (by omega))
  | 9, _ => exact List.all_eq_true.1 fu2_9 r (List.mem_range.2 (by omega))
  | 10, _ => exact List.all_eq_true.1 fu2_10 r (List.mem_range.2 (by omega))
  | 11, _ => exact List.all_eq_true.1 fu2_11 r (List.mem_range.2 (by omega))
  | 12, _ => exact List.all_eq_true.1 fu2_12 r (List.mem_range.2 (by omega))
  | 13, _ => exact List.all_eq_true.1 fu2_13 r (List.mem_range.2 (by omega))
  | 14, _ => exact List.all_eq_true.1 fu2_14 r (List.mem_range.2 (by omega))
  | 15, _ => exact List.all_eq_true.1 fu2_15 r (List.mem_range.2 (by omega))
  | 16, _ => exact List.all_eq_true.1 fu2_16 r (List.mem_range.2 (by omega))
  | 17, _ => exact List.all_eq_true.1 fu2_17 r (List.mem_range.2 (by omega))
  | 18, _ => exact List.all_eq_true.1 fu2_18 r (List.mem_range.2 (by omega))
  | 19, _ => exact List.all_eq_true.1 fu2_19 r (List.mem_range.2 (by omega))
  | 20, _ => exact List.all_eq_true.1 fu2_20 r (List.mem_range.2 (by omega))
  | 21, _ => exact List.all_eq_true.1 fu2_21 r (List.mem_range.2 (by omega))
  | 22, _ => exact List.all_eq_true.1 fu2_22 r (List.mem_range.2 (by omega))
  | 23, _ => exact List.all_eq_true.1 fu2_23 r (List.mem_range.2 (by omega))
  | 24, _ => exact List.all_eq_true.1 fu2_24 r (List.mem_range.2 (by omega))
  | 25, _ => exact List.all_eq_true.1 fu2_25 r (List.mem_range.2 (by omega))
  | 26, _ => exact List.all_eq_true.1 fu2_26 r (List.mem_range.2 (by omega))
  | 27, _ => exact List.all_eq_true.1 fu2_27 r (List.mem_range.2 (by omega))
  | 28, _ => exact List.all_eq_true.1 fu2_28 r (List.mem_range.2 (by omega))
  | 29, _ => exact List.all_eq_true.1 fu2_29 r (List.mem_range.2 (by omega))
  | 30, _ => exact List.all_eq_true.1 fu2_30 r (List.mem_range.2 (by omega))
  | 31, _ => exact List.all_eq_true.1 fu2_31 r (List.mem_range.2 (by omega))
  | 32, _ => exact List.all_eq_true.1 fu2_32 r (List.mem_range.2 (by omega))
  | 33, _ => exact List.all_eq_true.1 fu2_33 r (List.mem_range.2 (by omega))
  | 34, _ => exact List.all_eq_true.1 fu2_34 r (List.mem_range.2 (by omega))
  | 35, _ => exact List.all_eq_true.1 fu2_35 r (List.mem_range.2 (by omega))
  | 36, _ => exact List.all_eq_true.1 fu2_36 r (List.mem_range.2 (by omega))
  | 37, _ => exact List.all_eq_true.1 fu2_37 r (List.mem_range.2 (by omega))
  | 38, _ => exact List.all_eq_true.1 fu2_38 r (List.mem_range.2 (by omega))
  | 39, _ => exact List.all_eq_true.1 fu2_39 r (List.mem_range.2 (by omega))
  | 40, _ => exact List.all_eq_true.1 fu2_40 r (List.mem_range.2 (by omega))
  | 41, _ => exact List.all_eq_true.1 fu2_41 r (List.mem_range.2 (by omega))
  | 42, _ => exact List.all_eq_true.1 fu2_42 r (List.mem_range.2 (by omega))
  | 43, _ => exact List.all_eq_true.1 fu2_43 r (List.mem_range.2 (by omega))
  | 44, _ => exact List.all_eq_true.1 fu2_44 r (List.mem_range.2 (by omega))
  | 45, _ => exact List.all_eq_true.1 fu2_45 r (List.mem_range.2 (by omega))
  | 46, _ => exact List.all_eq_true.1 fu2_46 r (List.mem_range.2 (by omega))
  | 47, _ => exact List.all_eq_true.1 fu2_47 r (List.mem_range.2 (by omega))
  | 48, _ => exact List.all_eq_true.1 fu2_48 r (List.mem_range.2 (by omega))
  | 49, _ => exact List.all_eq_true.1 fu2_49 r (List.mem_range.2 (by omega))
  | 50, _ => exact List.all_eq_true.1 fu2_50 r (List.mem_range.2 (by omega))
  | 51, _ => exact List.all_eq_true.1 fu2_51 r (List.mem_range.2 (by omega))
  | 52, _ => exact List.all_eq_true.1 fu2_52 r (List.mem_range.2 (by omega))
  | 53, _ => exact List.all_eq_true.1 fu2_53 r (List.mem_range.2 (by omega))
  | 54, _ => exact List.all_eq_true.1 fu2_54 r (List.mem_range.2 (by omega))
  | 55, _ => exact List.all_eq_true.1 fu2_55 r (List.mem_range.2 (by omega))
  | 56, _ => exact List.all_eq_true.1 fu2_56 r (List.mem_range.2 (by omega))
  | 57, _ => exact List.all_eq_true.1 fu2_57 r (List.mem_range.2 (by omega))
  | 58, _ => exact List.all_eq_true.1 fu2_58 r (List.mem_range.2 (by omega))
  | 59, _ => exact List.all_eq_true.1 fu2_59 r (List.mem_range.2 (by omega))
  | 60, _ => exact List.all_eq_true.1 fu2_60 r (List.mem_range.2 (by omega))
  | 61, _ => exact List.all_eq_true.1 fu2_61 r (List.mem_range.2 (by omega))
  | 62, _ => exact List.all_eq_true.1 fu2_62 r (List.mem_range.2 (by omega))
  | 63, _ => exact List.all_eq_true.1 fu2_63 r (List.mem_range.2 (by omega))
  | 64, _ => exact List.all_eq_true.1 fu2_64 r (List.mem_range.2 (by omega))
  | 65, _ => exact List.all_eq_true.1 fu2_65 r (List.mem_range.2 (by omega))
  | 66, _ => exact List.all_eq_true.1 fu2_66 r (List.mem_range.2 (by omega))
  | 67, _ => exact List.all_eq_true.1 fu2_67 r (List.mem_range.2 (by omega))
  | 68, _ => exact List.all_eq_true.1 fu2_68 r (List.mem_range.2 (by omega))
  | 69, _ => exact List.all_eq_true.1 fu2_69 r (List.mem_range.2 (by omega))
  | 70, _ => exact List.all_eq_true.1 fu2_70 r (List.mem_range.2 (by omega))
  | 71, _ => exact List.all_eq_true.1 fu2_71 r (List.mem_range.2 (by omega))
  | 72, _ => exact List.all_eq_true.1 fu2_72 r (List.mem_range.2 (by omega))
  | 73, _ => exact List.all_eq_true.1 fu2_73 r (List.mem_range.2 (by omega))
  | 74, _ => exact List.all_eq_true.1 fu2_74 r (List.mem_range.2 (by omega))
  | 75, _ => exact List.all_eq_true.1 fu2_75 r (List.mem_range.2 (by omega))
  | 76, _ => exact List.all_eq_true.1 fu2_76 r (List.mem_range.2 (by omega))
  | 77, _ => exact List.all_eq_true.1 fu2_77 r (List.mem_range.2 (by omega))
  | 78, _ => exact List.all_eq_true.1 fu2_78 r (List.mem_range.2 (by omega))
  | 79, _ => exact List.all_eq_true.1 fu2_79 r (List.mem_range.2 (by omega))
  | 80, _ => exact List.all_eq_true.1 fu2_80 r (List.mem_range.2 (by omega))
  | 81, _ => exact List.all_eq_true.1 fu2_81 r (List.mem_range.2 (by omega))
  | 82, _ => exact List.all_eq_true.1 fu2_82 r (List.mem_range.2 (by omega))
  | 83, _ => exact List.all_eq_true.1 fu2_83 r (List.mem_range.2 (by omega))
  | 84, _ => exact List.all_eq_true.1 fu2_84 r (List.mem_range.2 (by omega))
  | 85, _ => exact List.all_eq_true.1 fu2_85 r (List.mem_range.2 (by omega))
  | 86, _ => exact List.all_eq_true.1 fu2_86 r (List.mem_range.2 (by omega))
  | 87, _ => exact List.all_eq_true.1 fu2_87 r (List.mem_range.2 (by omega))
  | 88, _ => exact List.all_eq_true.1 fu2_88 r (List.mem_range.2 (by omega))
  | 89, _ => exact List.all_eq_true.1 fu2_89 r (List.mem_range.2 (by omega))
  | 90, _ => exact List.all_eq_true.1 fu2_90 r (List.mem_range.2 (by omega))
  | 91, _ => exact List.all_eq_true.1 fu2_91 r (List.mem_range.2 (by omega))
  | 92, _ => exact List.all_eq_true.1 fu2_92 r (List.mem_range.2 (by omega))
  | 93, _ => exact List.all_eq_true.1 fu2_93 r (List.mem_range.2 (by omega))
  | 94, _ => exact List.all_eq_true.1 fu2_94 r (List.mem_range.2 (by omega))
  | 95, _ => exact List.all_eq_true.1 fu2_95 r (List.mem_range.2 (by omega))
  | 96, _ => exact List.all_eq_true.1 fu2_96 r (List.mem_range.2 (by omega))
  | 97, _ => exact List.all_eq_true.1 fu2_97 r (List.mem_range.2 (by omega))
  | 98, _ => exact List.all_eq_true.1 fu2_98 r (List.mem_range.2 (by omega))
  | 99, _ => exact List.all_eq_true.1 fu2_99 r (List.mem_range.2 (by omega))
  | 100, _ => exact List.all_eq_true.1 fu2_100 r (List.mem_range.2 (by omega))
  | 101, _ => exact List.all_eq_true.1 fu2_101 r (List.mem_range.2 (by omega))
  | 102, _ => exact List.all_eq_true.1 fu2_102 r (List.mem_range.2 (by omega))
  | 103, _ => exact List.all_eq_true.1 fu2_103 r (List.mem_range.2 (by omega))
  | 104, _ => exact List.all_eq_true.1 fu2_104 r (List.mem_range.2 (by omega))
  | 105, _ => exact List.all_eq_true.1 fu2_105 r (List.mem_range.2 (by omega))
  | 106, _ => exact List.all_eq_true.1 fu2_106 r (List.mem_range.2 (by omega))
  | 107, _ => exact List.all_eq_true.1 fu2_107 r (List.mem_range.2 (by omega))
  | 108, _ => exact List.all_eq_true.1 fu2_108 r (List.mem_range.2 (by omega))
  | 109, _ => exact List.all_eq_true.1 fu2_109 r (List.mem_range.2 (by omega))
  | 110, _ => exact List.all_eq_true.1 fu2_110 r (List.mem_range.2 (by omega))
  | 111, _ => exact List.all_eq_true.1 fu2_111 r (List.mem_range.2 (by omega))
  | 112, _ => exact List.all_eq_true.1 fu2_112 r (List.mem_range.2 (by omega))
  | 113, _ => exact List.all_eq_true.1 fu2_113 r (List.mem_range.2 (by omega))
  | 114, _ => exact List.all_eq_true.1 fu2_114 r (List.mem_range.2 (by omega))
  | 115, _ => exact List.all_eq_true.1 fu2_115 r (List.mem_range.2 (by omega))
  | 116, _ => exact List.all_eq_true.1 fu2_116 r (List.mem_range.2 (by omega))
  | 117, _ => exact List.all_eq_true.1 fu2_117 r (List.mem_range.2 (by omega))
  | 118, _ => exact List.all_eq_true.1 fu2_118 r (List.mem_range.2 (by omega))
  | 119, _ => exact List.all_eq_true.1 fu2_119 r (List.mem_range.2 (by omega))
  | 120, _ => exact List.all_eq_true.1 fu2_120 r (List.mem_range.2 (by omega))
  | 121, _ => exact List.all_eq_true.1 fu2_121 r (List.mem_range.2 (by omega))
  | 122, _ => exact List.all_eq_true.1 fu2_122 r (List.mem_range.2 (by omega))
  | 123, _ => exact List.all_eq_true.1 fu2_123 r (List.mem_range.2 (by omega))
  | 124, _ => exact List.all_eq_true.1 fu2_124 r (List.mem_range.2 (by omega))
  | 125, _ => exact List.all_eq_true.1 fu2_125 r (List.mem_range.2 (by omega))
  | 126, _ => exact List.all_eq_true.1 fu2_126 r (List.mem_range.2 (by omega))
  | 127, _ => exact List.all_eq_true.1 fu2_127 r (List.mem_range.2 (by omega))
  | 128, _ => exact List.all_eq_true.1 fu2_128 r (List.mem_range.2 (by omega))
  | 129, _ => exact List.all_eq_true.1 fu2_129 r (List.mem_range.2 (by omega))
  | 130, _ => exact List.all_eq_true.1 fu2_130 r (List.mem_range.2 (by omega))
  | 131, _ => exact List.all_eq_true.1 fu2_131 r (List.mem_range.2 (by omega))
  | 132, _ => exact List.all_eq_true.1 fu2_132 r (List.mem_range.2 (by omega))
  | 133, _ => exact List.all_eq_true.1 fu2_133 r (List.mem_range.2 (by omega))
  | 134, _ => exact List.all_eq_true.1 fu2_134 r (List.mem_range.2 (by omega))
  | 135, _ => exact List.all_eq_true.1 fu2_135 r (List.mem_range.2 (by omega))
  | 136, _ => exact List.all_eq_true.1 fu2_136 r (List.mem_range.2 (by omega))
  | 137, _ => exact List.all_eq_true.1 fu2_137 r (List.mem_range.2 (by omega))
  | 138, _ => exact List.all_eq_true.1 fu2_138 r (List.mem_range.2 (by omega))
  | 139, _ => exact List.all_eq_true.1 fu2_139 r (List.mem_range.2 (by omega))
  | 140, _ => exact List.all_eq_true.1 fu2_140 r (List.mem_range.2 (by omega))
  | 141, _ => exact List.all_eq_true.1 fu2_141 r (List.mem_range.2 (by omega))
  | 142, _ => exact List.all_eq_true.1 fu2_142 r (List.mem_range.2 (by omega))
  | 143, _ => exact List.all_eq_true.1 fu2_143 r (List.mem_range.2 (by omega))
  | 144, _ => exact List.all_eq_true.1 fu2_144 r (List.mem_range.2 (by omega))
  | 145, _ => exact List.all_eq_true.1 fu2_145 r (List.mem_range.2 (by omega))
  | 146, _ => exact List.all_eq_true.1 fu2_146 r (List.mem_range.2 (by omega))
  | 147, _ => exact List.all_eq_true.1 fu2_147 r (List.mem_range.2 (by omega))
  | 148, _ => exact List.all_eq_true.1 fu2_148 r (List.mem_range.2 (by omega))
  | 149, _ => exact List.all_eq_true.1 fu2_149 r (List.mem_range.2 (by omega))
  | 150, _ => exact List.all_eq_true.1 fu2_150 r (List.mem_range.2 (by omega))
  | 151, _ => exact List.all_eq_true.1 fu2_151 r (List.mem_range.2 (by omega))
  | 152, _ => exact List.all_eq_true.1 fu2_152 r (List.mem_range.2 (by omega))
  | 153, _ => exact List.all_eq_true.1 fu2_153 r (List.mem_range.2 (by omega))
  | 154, _ => exact List.all_eq_true.1 fu2_154 r (List.mem_range.2 (by omega))
  | 155, _ => exact List.all_eq_true.1 fu2_155 r (List.mem_range.2 (by omega))
  | 156, _ => exact List.all_eq_true.1 fu2_156 r (List.mem_range.2 (by omega))
  | 157, _ => exact List.all_eq_true.1 fu2_157 r (List.mem_range.2 (by omega))
  | 158, _ => exact List.all_eq_true.1 fu2_158 r (List.mem_range.2 (by omega))
  | 159, _ => exact List.all_eq_true.1 fu2_159 r (List.mem_range.2 (by omega))
  | 160, _ => exact List.all_eq_true.1 fu2_160 r (List.mem_range.2 (by omega))
  | 161, _ => exact List.all_eq_true.1 fu2_161 r (List.mem_range.2 (by omega))
  | 162, _ => exact List.all_eq_true.1 fu2_162 r (List.mem_range.2 (by omega))
  | 163, _ => exact List.all_eq_true.1 fu2_163 r (List.mem_range.2 (by omega))
  | 164, _ => exact List.all_eq_true.1 fu2_164 r (List.mem_range.2 (by omega))
  | 165, _ => exact List.all_eq_true.1 fu2_165 r (List.mem_range.2 (by omega))
  | 166, _ => exact List.all_eq_true.1 fu2_166 r (List.mem_range.2 (by omega))
  | 167, _ => exact List.all_eq_true.1 fu2_167 r (List.mem_range.2 (by omega))
  | 168, _ => exact List.all_eq_true.1 fu2_168 r (List.mem_range.2 (by omega))
  | 169, _ => exact List.all_eq_true.1 fu2_169 r (List.mem_range.2 (by omega))
  | 170, _ => exact List.all_eq_true.1 fu2_170 r (List.mem_range.2 (by omega))
  | 171, _ => exact List.all_eq_true.1 fu2_171 r (List.mem_range.2 (by omega))
  | 172, _ => exact List.all_eq_true.1 fu2_172 r (List.mem_range.2 (by omega))
  | 173, _ => exact List.all_eq_true.1 fu2_173 r (List.mem_range.2 (by omega))
  | 174, _ => exact List.all_eq_true.1 fu2_174 r (List.mem_range.2 (by omega))
  | 175, _ => exact List.all_eq_true.1 fu2_175 r (List.mem_range.2 (by omega))
  | 176, _ => exact List.all_eq_true.1 fu2_176 r (List.mem_range.2 (by omega))
  | 177, _ => exact List.all_eq_true.1 fu2_177 r (List.mem_range.2 (by omega))
  | 178, _ => exact List.all_eq_true.1 fu2_178 r (List.mem_range.2 (by omega))
  | 179, _ => exact List.all_eq_true.1 fu2_179 r (List.mem_range.2 (by omega))
  | q + 180, h => exact absurd h (by omega)
end Go.Proofs.YtinopjbpjopdcaaGreatDoor.PF
