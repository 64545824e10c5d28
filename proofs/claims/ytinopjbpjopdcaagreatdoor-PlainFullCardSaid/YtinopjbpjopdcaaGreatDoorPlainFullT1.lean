import Derived.Test.YtinopjbpjopdcaaGreatDoorPlainFullBase
/-! PlainFull: the trees 180 to 359. -/
namespace Go.Proofs.YtinopjbpjopdcaaGreatDoor.PF
open Go.Ev
noncomputable def full1 (i : Nat) : Bool := full (180 + i)
theorem fu1_0 : ((List.range 1).all fun d => full1 (0 + d)) = true := by kernel_rfl
theorem fu1_1 : ((List.range 1).all fun d => full1 (1 + d)) = true := by kernel_rfl
theorem fu1_2 : ((List.range 1).all fun d => full1 (2 + d)) = true := by kernel_rfl
theorem fu1_3 : ((List.range 1).all fun d => full1 (3 + d)) = true := by kernel_rfl
theorem fu1_4 : ((List.range 1).all fun d => full1 (4 + d)) = true := by kernel_rfl
theorem fu1_5 : ((List.range 1).all fun d => full1 (5 + d)) = true := by kernel_rfl
theorem fu1_6 : ((List.range 1).all fun d => full1 (6 + d)) = true := by kernel_rfl
theorem fu1_7 : ((List.range 1).all fun d => full1 (7 + d)) = true := by kernel_rfl
theorem fu1_8 : ((List.range 1).all fun d => full1 (8 + d)) = true := by kernel_rfl
theorem fu1_9 : ((List.range 1).all fun d => full1 (9 + d)) = true := by kernel_rfl
theorem fu1_10 : ((List.range 1).all fun d => full1 (10 + d)) = true := by kernel_rfl
theorem fu1_11 : ((List.range 1).all fun d => full1 (11 + d)) = true := by kernel_rfl
theorem fu1_12 : ((List.range 1).all fun d => full1 (12 + d)) = true := by kernel_rfl
theorem fu1_13 : ((List.range 1).all fun d => full1 (13 + d)) = true := by kernel_rfl
theorem fu1_14 : ((List.range 1).all fun d => full1 (14 + d)) = true := by kernel_rfl
theorem fu1_15 : ((List.range 1).all fun d => full1 (15 + d)) = true := by kernel_rfl
theorem fu1_16 : ((List.range 1).all fun d => full1 (16 + d)) = true := by kernel_rfl
theorem fu1_17 : ((List.range 1).all fun d => full1 (17 + d)) = true := by kernel_rfl
theorem fu1_18 : ((List.range 1).all fun d => full1 (18 + d)) = true := by kernel_rfl
theorem fu1_19 : ((List.range 1).all fun d => full1 (19 + d)) = true := by kernel_rfl
theorem fu1_20 : ((List.range 1).all fun d => full1 (20 + d)) = true := by kernel_rfl
theorem fu1_21 : ((List.range 1).all fun d => full1 (21 + d)) = true := by kernel_rfl
theorem fu1_22 : ((List.range 1).all fun d => full1 (22 + d)) = true := by kernel_rfl
theorem fu1_23 : ((List.range 1).all fun d => full1 (23 + d)) = true := by kernel_rfl
theorem fu1_24 : ((List.range 1).all fun d => full1 (24 + d)) = true := by kernel_rfl
theorem fu1_25 : ((List.range 1).all fun d => full1 (25 + d)) = true := by kernel_rfl
theorem fu1_26 : ((List.range 1).all fun d => full1 (26 + d)) = true := by kernel_rfl
theorem fu1_27 : ((List.range 1).all fun d => full1 (27 + d)) = true := by kernel_rfl
theorem fu1_28 : ((List.range 1).all fun d => full1 (28 + d)) = true := by kernel_rfl
theorem fu1_29 : ((List.range 1).all fun d => full1 (29 + d)) = true := by kernel_rfl
theorem fu1_30 : ((List.range 1).all fun d => full1 (30 + d)) = true := by kernel_rfl
theorem fu1_31 : ((List.range 1).all fun d => full1 (31 + d)) = true := by kernel_rfl
theorem fu1_32 : ((List.range 1).all fun d => full1 (32 + d)) = true := by kernel_rfl
theorem fu1_33 : ((List.range 1).all fun d => full1 (33 + d)) = true := by kernel_rfl
theorem fu1_34 : ((List.range 1).all fun d => full1 (34 + d)) = true := by kernel_rfl
theorem fu1_35 : ((List.range 1).all fun d => full1 (35 + d)) = true := by kernel_rfl
theorem fu1_36 : ((List.range 1).all fun d => full1 (36 + d)) = true := by kernel_rfl
theorem fu1_37 : ((List.range 1).all fun d => full1 (37 + d)) = true := by kernel_rfl
theorem fu1_38 : ((List.range 1).all fun d => full1 (38 + d)) = true := by kernel_rfl
theorem fu1_39 : ((List.range 1).all fun d => full1 (39 + d)) = true := by kernel_rfl
theorem fu1_40 : ((List.range 1).all fun d => full1 (40 + d)) = true := by kernel_rfl
theorem fu1_41 : ((List.range 1).all fun d => full1 (41 + d)) = true := by kernel_rfl
theorem fu1_42 : ((List.range 1).all fun d => full1 (42 + d)) = true := by kernel_rfl
theorem fu1_43 : ((List.range 1).all fun d => full1 (43 + d)) = true := by kernel_rfl
theorem fu1_44 : ((List.range 1).all fun d => full1 (44 + d)) = true := by kernel_rfl
theorem fu1_45 : ((List.range 1).all fun d => full1 (45 + d)) = true := by kernel_rfl
theorem fu1_46 : ((List.range 1).all fun d => full1 (46 + d)) = true := by kernel_rfl
theorem fu1_47 : ((List.range 1).all fun d => full1 (47 + d)) = true := by kernel_rfl
theorem fu1_48 : ((List.range 1).all fun d => full1 (48 + d)) = true := by kernel_rfl
theorem fu1_49 : ((List.range 1).all fun d => full1 (49 + d)) = true := by kernel_rfl
theorem fu1_50 : ((List.range 1).all fun d => full1 (50 + d)) = true := by kernel_rfl
theorem fu1_51 : ((List.range 1).all fun d => full1 (51 + d)) = true := by kernel_rfl
theorem fu1_52 : ((List.range 1).all fun d => full1 (52 + d)) = true := by kernel_rfl
theorem fu1_53 : ((List.range 1).all fun d => full1 (53 + d)) = true := by kernel_rfl
theorem fu1_54 : ((List.range 1).all fun d => full1 (54 + d)) = true := by kernel_rfl
theorem fu1_55 : ((List.range 1).all fun d => full1 (55 + d)) = true := by kernel_rfl
theorem fu1_56 : ((List.range 1).all fun d => full1 (56 + d)) = true := by kernel_rfl
theorem fu1_57 : ((List.range 1).all fun d => full1 (57 + d)) = true := by kernel_rfl
theorem fu1_58 : ((List.range 1).all fun d => full1 (58 + d)) = true := by kernel_rfl
theorem fu1_59 : ((List.range 1).all fun d => full1 (59 + d)) = true := by kernel_rfl
theorem fu1_60 : ((List.range 1).all fun d => full1 (60 + d)) = true := by kernel_rfl
theorem fu1_61 : ((List.range 1).all fun d => full1 (61 + d)) = true := by kernel_rfl
theorem fu1_62 : ((List.range 1).all fun d => full1 (62 + d)) = true := by kernel_rfl
theorem fu1_63 : ((List.range 1).all fun d => full1 (63 + d)) = true := by kernel_rfl
theorem fu1_64 : ((List.range 1).all fun d => full1 (64 + d)) = true := by kernel_rfl
theorem fu1_65 : ((List.range 1).all fun d => full1 (65 + d)) = true := by kernel_rfl
theorem fu1_66 : ((List.range 1).all fun d => full1 (66 + d)) = true := by kernel_rfl
theorem fu1_67 : ((List.range 1).all fun d => full1 (67 + d)) = true := by kernel_rfl
theorem fu1_68 : ((List.range 1).all fun d => full1 (68 + d)) = true := by kernel_rfl
theorem fu1_69 : ((List.range 1).all fun d => full1 (69 + d)) = true := by kernel_rfl
theorem fu1_70 : ((List.range 1).all fun d => full1 (70 + d)) = true := by kernel_rfl
theorem fu1_71 : ((List.range 1).all fun d => full1 (71 + d)) = true := by kernel_rfl
theorem fu1_72 : ((List.range 1).all fun d => full1 (72 + d)) = true := by kernel_rfl
theorem fu1_73 : ((List.range 1).all fun d => full1 (73 + d)) = true := by kernel_rfl
theorem fu1_74 : ((List.range 1).all fun d => full1 (74 + d)) = true := by kernel_rfl
theorem fu1_75 : ((List.range 1).all fun d => full1 (75 + d)) = true := by kernel_rfl
theorem fu1_76 : ((List.range 1).all fun d => full1 (76 + d)) = true := by kernel_rfl
theorem fu1_77 : ((List.range 1).all fun d => full1 (77 + d)) = true := by kernel_rfl
theorem fu1_78 : ((List.range 1).all fun d => full1 (78 + d)) = true := by kernel_rfl
theorem fu1_79 : ((List.range 1).all fun d => full1 (79 + d)) = true := by kernel_rfl
theorem fu1_80 : ((List.range 1).all fun d => full1 (80 + d)) = true := by kernel_rfl
theorem fu1_81 : ((List.range 1).all fun d => full1 (81 + d)) = true := by kernel_rfl
theorem fu1_82 : ((List.range 1).all fun d => full1 (82 + d)) = true := by kernel_rfl
theorem fu1_83 : ((List.range 1).all fun d => full1 (83 + d)) = true := by kernel_rfl
theorem fu1_84 : ((List.range 1).all fun d => full1 (84 + d)) = true := by kernel_rfl
theorem fu1_85 : ((List.range 1).all fun d => full1 (85 + d)) = true := by kernel_rfl
theorem fu1_86 : ((List.range 1).all fun d => full1 (86 + d)) = true := by kernel_rfl
theorem fu1_87 : ((List.range 1).all fun d => full1 (87 + d)) = true := by kernel_rfl
theorem fu1_88 : ((List.range 1).all fun d => full1 (88 + d)) = true := by kernel_rfl
theorem fu1_89 : ((List.range 1).all fun d => full1 (89 + d)) = true := by kernel_rfl
theorem fu1_90 : ((List.range 1).all fun d => full1 (90 + d)) = true := by kernel_rfl
theorem fu1_91 : ((List.range 1).all fun d => full1 (91 + d)) = true := by kernel_rfl
theorem fu1_92 : ((List.range 1).all fun d => full1 (92 + d)) = true := by kernel_rfl
theorem fu1_93 : ((List.range 1).all fun d => full1 (93 + d)) = true := by kernel_rfl
theorem fu1_94 : ((List.range 1).all fun d => full1 (94 + d)) = true := by kernel_rfl
theorem fu1_95 : ((List.range 1).all fun d => full1 (95 + d)) = true := by kernel_rfl
theorem fu1_96 : ((List.range 1).all fun d => full1 (96 + d)) = true := by kernel_rfl
theorem fu1_97 : ((List.range 1).all fun d => full1 (97 + d)) = true := by kernel_rfl
theorem fu1_98 : ((List.range 1).all fun d => full1 (98 + d)) = true := by kernel_rfl
theorem fu1_99 : ((List.range 1).all fun d => full1 (99 + d)) = true := by kernel_rfl
theorem fu1_100 : ((List.range 1).all fun d => full1 (100 + d)) = true := by kernel_rfl
theorem fu1_101 : ((List.range 1).all fun d => full1 (101 + d)) = true := by kernel_rfl
theorem fu1_102 : ((List.range 1).all fun d => full1 (102 + d)) = true := by kernel_rfl
theorem fu1_103 : ((List.range 1).all fun d => full1 (103 + d)) = true := by kernel_rfl
theorem fu1_104 : ((List.range 1).all fun d => full1 (104 + d)) = true := by kernel_rfl
theorem fu1_105 : ((List.range 1).all fun d => full1 (105 + d)) = true := by kernel_rfl
theorem fu1_106 : ((List.range 1).all fun d => full1 (106 + d)) = true := by kernel_rfl
theorem fu1_107 : ((List.range 1).all fun d => full1 (107 + d)) = true := by kernel_rfl
theorem fu1_108 : ((List.range 1).all fun d => full1 (108 + d)) = true := by kernel_rfl
theorem fu1_109 : ((List.range 1).all fun d => full1 (109 + d)) = true := by kernel_rfl
theorem fu1_110 : ((List.range 1).all fun d => full1 (110 + d)) = true := by kernel_rfl
theorem fu1_111 : ((List.range 1).all fun d => full1 (111 + d)) = true := by kernel_rfl
theorem fu1_112 : ((List.range 1).all fun d => full1 (112 + d)) = true := by kernel_rfl
theorem fu1_113 : ((List.range 1).all fun d => full1 (113 + d)) = true := by kernel_rfl
theorem fu1_114 : ((List.range 1).all fun d => full1 (114 + d)) = true := by kernel_rfl
theorem fu1_115 : ((List.range 1).all fun d => full1 (115 + d)) = true := by kernel_rfl
theorem fu1_116 : ((List.range 1).all fun d => full1 (116 + d)) = true := by kernel_rfl
theorem fu1_117 : ((List.range 1).all fun d => full1 (117 + d)) = true := by kernel_rfl
theorem fu1_118 : ((List.range 1).all fun d => full1 (118 + d)) = true := by kernel_rfl
theorem fu1_119 : ((List.range 1).all fun d => full1 (119 + d)) = true := by kernel_rfl
theorem fu1_120 : ((List.range 1).all fun d => full1 (120 + d)) = true := by kernel_rfl
theorem fu1_121 : ((List.range 1).all fun d => full1 (121 + d)) = true := by kernel_rfl
theorem fu1_122 : ((List.range 1).all fun d => full1 (122 + d)) = true := by kernel_rfl
theorem fu1_123 : ((List.range 1).all fun d => full1 (123 + d)) = true := by kernel_rfl
theorem fu1_124 : ((List.range 1).all fun d => full1 (124 + d)) = true := by kernel_rfl
theorem fu1_125 : ((List.range 1).all fun d => full1 (125 + d)) = true := by kernel_rfl
theorem fu1_126 : ((List.range 1).all fun d => full1 (126 + d)) = true := by kernel_rfl
theorem fu1_127 : ((List.range 1).all fun d => full1 (127 + d)) = true := by kernel_rfl
theorem fu1_128 : ((List.range 1).all fun d => full1 (128 + d)) = true := by kernel_rfl
theorem fu1_129 : ((List.range 1).all fun d => full1 (129 + d)) = true := by kernel_rfl
theorem fu1_130 : ((List.range 1).all fun d => full1 (130 + d)) = true := by kernel_rfl
theorem fu1_131 : ((List.range 1).all fun d => full1 (131 + d)) = true := by kernel_rfl
theorem fu1_132 : ((List.range 1).all fun d => full1 (132 + d)) = true := by kernel_rfl
theorem fu1_133 : ((List.range 1).all fun d => full1 (133 + d)) = true := by kernel_rfl
theorem fu1_134 : ((List.range 1).all fun d => full1 (134 + d)) = true := by kernel_rfl
theorem fu1_135 : ((List.range 1).all fun d => full1 (135 + d)) = true := by kernel_rfl
theorem fu1_136 : ((List.range 1).all fun d => full1 (136 + d)) = true := by kernel_rfl
theorem fu1_137 : ((List.range 1).all fun d => full1 (137 + d)) = true := by kernel_rfl
theorem fu1_138 : ((List.range 1).all fun d => full1 (138 + d)) = true := by kernel_rfl
theorem fu1_139 : ((List.range 1).all fun d => full1 (139 + d)) = true := by kernel_rfl
theorem fu1_140 : ((List.range 1).all fun d => full1 (140 + d)) = true := by kernel_rfl
theorem fu1_141 : ((List.range 1).all fun d => full1 (141 + d)) = true := by kernel_rfl
theorem fu1_142 : ((List.range 1).all fun d => full1 (142 + d)) = true := by kernel_rfl
theorem fu1_143 : ((List.range 1).all fun d => full1 (143 + d)) = true := by kernel_rfl
theorem fu1_144 : ((List.range 1).all fun d => full1 (144 + d)) = true := by kernel_rfl
theorem fu1_145 : ((List.range 1).all fun d => full1 (145 + d)) = true := by kernel_rfl
theorem fu1_146 : ((List.range 1).all fun d => full1 (146 + d)) = true := by kernel_rfl
theorem fu1_147 : ((List.range 1).all fun d => full1 (147 + d)) = true := by kernel_rfl
theorem fu1_148 : ((List.range 1).all fun d => full1 (148 + d)) = true := by kernel_rfl
theorem fu1_149 : ((List.range 1).all fun d => full1 (149 + d)) = true := by kernel_rfl
theorem fu1_150 : ((List.range 1).all fun d => full1 (150 + d)) = true := by kernel_rfl
theorem fu1_151 : ((List.range 1).all fun d => full1 (151 + d)) = true := by kernel_rfl
theorem fu1_152 : ((List.range 1).all fun d => full1 (152 + d)) = true := by kernel_rfl
theorem fu1_153 : ((List.range 1).all fun d => full1 (153 + d)) = true := by kernel_rfl
theorem fu1_154 : ((List.range 1).all fun d => full1 (154 + d)) = true := by kernel_rfl
theorem fu1_155 : ((List.range 1).all fun d => full1 (155 + d)) = true := by kernel_rfl
theorem fu1_156 : ((List.range 1).all fun d => full1 (156 + d)) = true := by kernel_rfl
theorem fu1_157 : ((List.range 1).all fun d => full1 (157 + d)) = true := by kernel_rfl
theorem fu1_158 : ((List.range 1).all fun d => full1 (158 + d)) = true := by kernel_rfl
theorem fu1_159 : ((List.range 1).all fun d => full1 (159 + d)) = true := by kernel_rfl
theorem fu1_160 : ((List.range 1).all fun d => full1 (160 + d)) = true := by kernel_rfl
theorem fu1_161 : ((List.range 1).all fun d => full1 (161 + d)) = true := by kernel_rfl
theorem fu1_162 : ((List.range 1).all fun d => full1 (162 + d)) = true := by kernel_rfl
theorem fu1_163 : ((List.range 1).all fun d => full1 (163 + d)) = true := by kernel_rfl
theorem fu1_164 : ((List.range 1).all fun d => full1 (164 + d)) = true := by kernel_rfl
theorem fu1_165 : ((List.range 1).all fun d => full1 (165 + d)) = true := by kernel_rfl
theorem fu1_166 : ((List.range 1).all fun d => full1 (166 + d)) = true := by kernel_rfl
theorem fu1_167 : ((List.range 1).all fun d => full1 (167 + d)) = true := by kernel_rfl
theorem fu1_168 : ((List.range 1).all fun d => full1 (168 + d)) = true := by kernel_rfl
theorem fu1_169 : ((List.range 1).all fun d => full1 (169 + d)) = true := by kernel_rfl
theorem fu1_170 : ((List.range 1).all fun d => full1 (170 + d)) = true := by kernel_rfl
theorem fu1_171 : ((List.range 1).all fun d => full1 (171 + d)) = true := by kernel_rfl
theorem fu1_172 : ((List.range 1).all fun d => full1 (172 + d)) = true := by kernel_rfl
theorem fu1_173 : ((List.range 1).all fun d => full1 (173 + d)) = true := by kernel_rfl
theorem fu1_174 : ((List.range 1).all fun d => full1 (174 + d)) = true := by kernel_rfl
theorem fu1_175 : ((List.range 1).all fun d => full1 (175 + d)) = true := by kernel_rfl
theorem fu1_176 : ((List.range 1).all fun d => full1 (176 + d)) = true := by kernel_rfl
theorem fu1_177 : ((List.range 1).all fun d => full1 (177 + d)) = true := by kernel_rfl
theorem fu1_178 : ((List.range 1).all fun d => full1 (178 + d)) = true := by kernel_rfl
theorem fu1_179 : ((List.range 1).all fun d => full1 (179 + d)) = true := by kernel_rfl
theorem fu1_all : ∀ i, i < 180 → full1 i = true := by
  intro i hi
  have hq : i = 1 * (i / 1) + i % 1 := (Nat.div_add_mod i 1).symm
  have hr : i % 1 < 1 := Nat.mod_lt _ (by decide)
  have hd : i / 1 < 180 := by omega
  generalize i / 1 = q at hq hd
  generalize i % 1 = r at hq hr
  subst hq
  match q, hd with
  | 0, _ => exact List.all_eq_true.1 fu1_0 r (List.mem_range.2 (by omega))
  | 1, _ => exact List.all_eq_true.1 fu1_1 r (List.mem_range.2 (by omega))
  | 2, _ => exact List.all_eq_true.1 fu1_2 r (List.mem_range.2 (by omega))
  | 3, _ => exact List.all_eq_true.1 fu1_3 r (List.mem_range.2 (by omega))
  | 4, _ => exact List.all_eq_true.1 fu1_4 r (List.mem_range.2 (by omega))
  | 5, _ => exact List.all_eq_true.1 fu1_5 r (List.mem_range.2 (by omega))
  | 6, _ => exact List.all_eq_true.1 fu1_6 r (List.mem_range.2 (by omega))
  | 7, _ => exact List.all_eq_true.1 fu1_7 r (List.mem_range.2 (by omega))
  | 8, _ => exact List.all_eq_true.1 fu1_8 r (List.mem_range.2 (by omega))
  | 9, _ => exact List.all_eq_true.1 fu1_9 r (List.mem_range.2 (by omega))
  | 10, _ => exact List.all_eq_true.1 fu1_10 r (List.mem_range.2 (by omega))
  | 11, _ => exact List.all_eq_true.1 fu1_11 r (List.mem_range.2 (by omega))
  | 12, _ => exact List.all_eq_true.1 fu1_12 r (List.mem_range.2 (by omega))
  | 13, _ => exact List.all_eq_true.1 fu1_13 r (List.mem_range.2 (by omega))
  | 14, _ => exact List.all_eq_true.1 fu1_14 r (List.mem_range.2 (by omega))
  | 15, _ => exact List.all_eq_true.1 fu1_15 r (List.mem_range.2 (by omega))
  | 16, _ => exact List.all_eq_true.1 fu1_16 r (List.mem_range.2 (by omega))
  | 17, _ => exact List.all_eq_true.1 fu1_17 r (List.mem_range.2 (by omega))
  | 18, _ => exact List.all_eq_true.1 fu1_18 r (List.mem_range.2 (by omega))
  | 19, _ => exact List.all_eq_true.1 fu1_19 r (List.mem_range.2 (by omega))
  | 20, _ => exact List.all_eq_true.1 fu1_20 r (List.mem_range.2 (by omega))
  | 21, _ => exact List.all_eq_true.1 fu1_21 r (List.mem_range.2 (by omega))
  | 22, _ => exact List.all_eq_true.1 fu1_22 r (List.mem_range.2 (by omega))
  | 23, _ => exact List.all_eq_true.1 fu1_23 r (List.mem_range.2 (by omega))
  | 24, _ => exact List.all_eq_true.1 fu1_24 r (List.mem_range.2 (by omega))
  | 25, _ => exact List.all_eq_true.1 fu1_25 r (List.mem_range.2 (by omega))
  | 26, _ => exact List.all_eq_true.1 fu1_26 r (List.mem_range.2 (by omega))
  | 27, _ => exact List.all_eq_true.1 fu1_27 r (List.mem_range.2 (by omega))
  | 28, _ => exact List.all_eq_true.1 fu1_28 r (List.mem_range.2 (by omega))
  | 29, _ => exact List.all_eq_true.1 fu1_29 r (List.mem_range.2 (by omega))
  | 30, _ => exact List.all_eq_true.1 fu1_30 r (List.mem_range.2 (by omega))
  | 31, _ => exact List.all_eq_true.1 fu1_31 r (List.mem_range.2 (by omega))
  | 32, _ => exact List.all_eq_true.1 fu1_32 r (List.mem_range.2 (by omega))
  | 33, _ => exact List.all_eq_true.1 fu1_33 r (List.mem_range.2 (by omega))
  | 34, _ => exact List.all_eq_true.1 fu1_34 r (List.mem_range.2 (by omega))
  | 35, _ => exact List.all_eq_true.1 fu1_35 r (List.mem_range.2 (by omega))
  | 36, _ => exact List.all_eq_true.1 fu1_36 r (List.mem_range.2 (by omega))
  | 37, _ => exact List.all_eq_true.1 fu1_37 r (List.mem_range.2 (by omega))
  | 38, _ => exact List.all_eq_true.1 fu1_38 r (List.mem_range.2 (by omega))
  | 39, _ => exact List.all_eq_true.1 fu1_39 r (List.mem_range.2 (by omega))
  | 40, _ => exact List.all_eq_true.1 fu1_40 r (List.mem_range.2 (by omega))
  | 41, _ => exact List.all_eq_true.1 fu1_41 r (List.mem_range.2 (by omega))
  | 42, _ => exact List.all_eq_true.1 fu1_42 r (List.mem_range.2 (by omega))
  | 43, _ => exact List.all_eq_true.1 fu1_43 r (List.mem_range.2 (by omega))
  | 44, _ => exact List.all_eq_true.1 fu1_44 r (List.mem_range.2 (by omega))
  | 45, _ => exact List.all_eq_true.1 fu1_45 r (List.mem_range.2 (by omega))
  | 46, _ => exact List.all_eq_true.1 fu1_46 r (List.mem_range.2 (by omega))
  | 47, _ => exact List.all_eq_true.1 fu1_47 r (List.mem_range.2 (by omega))
  | 48, _ => exact List.all_eq_true.1 fu1_48 r (List.mem_range.2 (by omega))
  | 49, _ => exact List.all_eq_true.1 fu1_49 r (List.mem_range.2 (by omega))
  | 50, _ => exact List.all_eq_true.1 fu1_50 r (List.mem_range.2 (by omega))
  | 51, _ => exact List.all_eq_true.1 fu1_51 r (List.mem_range.2 (by omega))
  | 52, _ => exact List.all_eq_true.1 fu1_52 r (List.mem_range.2 (by omega))
  | 53, _ => exact List.all_eq_true.1 fu1_53 r (List.mem_range.2 (by omega))
  | 54, _ => exact List.all_eq_true.1 fu1_54 r (List.mem_range.2 (by omega))
  | 55, _ => exact List.all_eq_true.1 fu1_55 r (List.mem_range.2 (by omega))
  | 56, _ => exact List.all_eq_true.1 fu1_56 r (List.mem_range.2 (by omega))
  | 57, _ => exact List.all_eq_true.1 fu1_57 r (List.mem_range.2 (by omega))
  | 58, _ => exact List.all_eq_true.1 fu1_58 r (List.mem_range.2 (by omega))
  | 59, _ => exact List.all_eq_true.1 fu1_59 r (List.mem_range.2 (by omega))
  | 60, _ => exact List.all_eq_true.1 fu1_60 r (List.mem_range.2 (by omega))
  | 61, _ => exact List.all_eq_true.1 fu1_61 r (List.mem_range.2 (by omega))
  | 62, _ => exact List.all_eq_true.1 fu1_62 r (List.mem_range.2 (by omega))
  | 63, _ => exact List.all_eq_true.1 fu1_63 r (List.mem_range.2 (by omega))
  | 64, _ => exact List.all_eq_true.1 fu1_64 r (List.mem_range.2 (by omega))
  | 65, _ => exact List.all_eq_true.1 fu1_65 r (List.mem_range.2 (by omega))
  | 66, _ => exact List.all_eq_true.1 fu1_66 r (List.mem_range.2 (by omega))
  | 67, _ => exact List.all_eq_true.1 fu1_67 r (List.mem_range.2 (by omega))
  | 68, _ => exact List.all_eq_true.1 fu1_68 r (List.mem_range.2 (by omega))
  | 69, _ => exact List.all_eq_true.1 fu1_69 r (List.mem_range.2 (by omega))
  | 70, _ => exact List.all_eq_true.1 fu1_70 r (List.mem_range.2 (by omega))
  | 71, _ => exact List.all_eq_true.1 fu1_71 r (List.mem_range.2 (by omega))
  | 72, _ => exact List.all_eq_true.1 fu1_72 r (List.mem_range.2 (by omega))
  | 73, _ => exact List.all_eq_true.1 fu1_73 r (List.mem_range.2 (by omega))
  | 74, _ => exact List.all_eq_true.1 fu1_74 r (List.mem_range.2 (by omega))
  | 75, _ => exact List.all_eq_true.1 fu1_75 r (List.mem_range.2 (by omega))
  | 76, _ => exact List.all_eq_true.1 fu1_76 r (List.mem_range.2 (by omega))
  | 77, _ => exact List.all_eq_true.1 fu1_77 r (List.mem_range.2 (by omega))
  | 78, _ => exact List.all_eq_true.1 fu1_78 r (List.mem_range.2 (by omega))
  | 79, _ => exact List.all_eq_true.1 fu1_79 r (List.mem_range.2 (by omega))
  | 80, _ => exact List.all_eq_true.1 fu1_80 r (List.mem_range.2 (by omega))
  | 81, _ => exact List.all_eq_true.1 fu1_81 r (List.mem_range.2 (by omega))
  | 82, _ => exact List.all_eq_true.1 fu1_82 r (List.mem_range.2 (by omega))
  | 83, _ => exact List.all_eq_true.1 fu1_83 r (List.mem_range.2 (by omega))
  | 84, _ => exact List.all_eq_true.1 fu1_84 r (List.mem_range.2 (by omega))
  | 85, _ => exact List.all_eq_true.1 fu1_85 r (List.mem_range.2 (by omega))
  | 86, _ => exact List.all_eq_true.1 fu1_86 r (List.mem_range.2 (by omega))
  | 87, _ => exact List.all_eq_true.1 fu1_87 r (List.mem_range.2 (by omega))
  | 88, _ => exact List.all_eq_true.1 fu1_88 r (List.mem_range.2 (by omega))
  | 89, _ => exact List.all_eq_true.1 fu1_89 r (List.mem_range.2 (by omega))
  | 90, _ => exact List.all_eq_true.1 fu1_90 r (List.mem_range.2 (by omega))
  | 91, _ => exact List.all_eq_true.1 fu1_91 r (List.mem_range.2 (by omega))
  | 92, _ => exact List.all_eq_true.1 fu1_92 r (List.mem_range.2 (by omega))
  | 93, _ => exact List.all_eq_true.1 fu1_93 r (List.mem_range.2 (by omega))
  | 94, _ => exact List.all_eq_true.1 fu1_94 r (List.mem_range.2 (by omega))
  | 95, _ => exact List.all_eq_true.1 fu1_95 r (List.mem_range.2 (by omega))
  | 96, _ => exact List.all_eq_true.1 fu1_96 r (List.mem_range.2 (by omega))
  | 97, _ => exact List.all_eq_true.1 fu1_97 r (List.mem_range.2 (by omega))
  | 98, _ => exact List.all_eq_true.1 fu1_98 r (List.mem_range.2 (by omega))
  | 99, _ => exact List.all_eq_true.1 fu1_99 r (List.mem_range.2 (by omega))
  | 100, _ => exact List.all_eq_true.1 fu1_100 r (List.mem_range.2 (by omega))
  | 101, _ => exact List.all_eq_true.1 fu1_101 r (List.mem_range.2 (by omega))
  | 102, _ => exact List.all_eq_true.1 fu1_102 r (List.mem_range.2 (by omega))
  | 103, _ => exact List.all_eq_true.1 fu1_103 r (List.mem_range.2 (by omega))
  | 104, _ => exact List.all_eq_true.1 fu1_104 r (List.mem_range.2 (by omega))
  | 105, _ => exact List.all_eq_true.1 fu1_105 r (List.mem_range.2 (by omega))
  | 106, _ => exact List.all_eq_true.1 fu1_106 r (List.mem_range.2 (by omega))
  | 107, _ => exact List.all_eq_true.1 fu1_107 r (List.mem_range.2 (by omega))
  | 108, _ => exact List.all_eq_true.1 fu1_108 r (List.mem_range.2 (by omega))
  | 109, _ => exact List.all_eq_true.1 fu1_109 r (List.mem_range.2 (by omega))
  | 110, _ => exact List.all_eq_true.1 fu1_110 r (List.mem_range.2 (by omega))
  | 111, _ => exact List.all_eq_true.1 fu1_111 r (List.mem_range.2 (by omega))
  | 112, _ => exact List.all_eq_true.1 fu1_112 r (List.mem_range.2 (by omega))
  | 113, _ => exact List.all_eq_true.1 fu1_113 r (List.mem_range.2 (by omega))
  | 114, _ => exact List.all_eq_true.1 fu1_114 r (List.mem_range.2 (by omega))
  | 115, _ => exact List.all_eq_true.1 fu1_115 r (List.mem_range.2 (by omega))
  | 116, _ => exact List.all_eq_true.1 fu1_116 r (List.mem_range.2 (by omega))
  | 117, _ => exact List.all_eq_true.1 fu1_117 r (List.mem_range.2 (by omega))
  | 118, _ => exact List.all_eq_true.1 fu1_118 r (List.mem_range.2 (by omega))
  | 119, _ => exact List.all_eq_true.1 fu1_119 r (List.mem_range.2 (by omega))
  | 120, _ => exact List.all_eq_true.1 fu1_120 r (List.mem_range.2 (by omega))
  | 121, _ => exact List.all_eq_true.1 fu1_121 r (List.mem_range.2 (by omega))
  | 122, _ => exact List.all_eq_true.1 fu1_122 r (List.mem_range.2 (by omega))
  | 123, _ => exact List.all_eq_true.1 fu1_123 r (List.mem_range.2 (by omega))
  | 124, _ => exact List.all_eq_true.1 fu1_124 r (List.mem_range.2 (by omega))
  | 125, _ => exact List.all_eq_true.1 fu1_125 r (List.mem_range.2 (by omega))
  | 126, _ => exact List.all_eq_true.1 fu1_126 r (List.mem_range.2 (by omega))
  | 127, _ => exact List.all_eq_true.1 fu1_127 r (List.mem_range.2 (by omega))
  | 128, _ => exact List.all_eq_true.1 fu1_128 r (List.mem_range.2 (by omega))
  | 129, _ => exact List.all_eq_true.1 fu1_129 r (List.mem_range.2 (by omega))
  | 130, _ => exact List.all_eq_true.1 fu1_130 r (List.mem_range.2 (by omega))
  | 131, _ => exact List.all_eq_true.1 fu1_131 r (List.mem_range.2 (by omega))
  | 132, _ => exact List.all_eq_true.1 fu1_132 r (List.mem_range.2 (by omega))
  | 133, _ => exact List.all_eq_true.1 fu1_133 r (List.mem_range.2 (by omega))
  | 134, _ => exact List.all_eq_true.1 fu1_134 r (List.mem_range.2 (by omega))
  | 135, _ => exact List.all_eq_true.1 fu1_135 r (List.mem_range.2 (by omega))
  | 136, _ => exact List.all_eq_true.1 fu1_136 r (List.mem_range.2 (by omega))
  | 137, _ => exact List.all_eq_true.1 fu1_137 r (List.mem_range.2 (by omega))
  | 138, _ => exact List.all_eq_true.1 fu1_138 r (List.mem_range.2 (by omega))
  | 139, _ => exact List.all_eq_true.1 fu1_139 r (List.mem_range.2 (by omega))
  | 140, _ => exact List.all_eq_true.1 fu1_140 r (List.mem_range.2 (by omega))
  | 141, _ => exact List.all_eq_true.1 fu1_141 r (List.mem_range.2 (by omega))
  | 142, _ => exact List.all_eq_true.1 fu1_142 r (List.mem_range.2 (by omega))
  | 143, _ => exact List.all_eq_true.1 fu1_143 r (List.mem_range.2 (by omega))
  | 144, _ => exact List.all_eq_true.1 fu1_144 r (List.mem_range.2 (by omega))
  | 145, _ => exact List.all_eq_true.1 fu1_145 r (List.mem_range.2 (by omega))
  | 146, _ => exact List.all_eq_true.1 fu1_146 r (List.mem_range.2 (by omega))
  | 147, _ => exact List.all_eq_true.1 fu1_147 r (List.mem_range.2 (by omega))
  | 148, _ => exact List.all_eq_true.1 fu1_148 r (List.mem_range.2 (by omega))
  | 149, _ => exact List.all_eq_true.1 fu1_149 r (List.mem_range.2 (by omega))
  | 150, _ => exact List.all_eq_true.1 fu1_150 r (List.mem_range.2 (by omega))
  | 151, _ => exact List.all_eq_true.1 fu1_151 r (List.mem_range.2 (by omega))
  | 152, _ => exact List.all_eq_true.1 fu1_152 r (List.mem_range.2 (by omega))
  | 153, _ => exact List.all_eq_true.1 fu1_153 r (List.mem_range.2 (by omega))
  | 154, _ => exact List.all_eq_true.1 fu1_154 r (List.mem_range.2 (by omega))
  | 155, _ => exact List.all_eq_true.1 fu1_155 r (List.mem_range.2 (by omega))
  | 156, _ => exact List.all_eq_true.1 fu1_156 r (List.mem_range.2 (by omega))
  | 157, _ => exact List.all_eq_true.1 fu1_157 r (List.mem_range.2 (by omega))
  | 158, _ => exact List.all_eq_true.1 fu1_158 r (List.mem_range.2 (by omega))
  | 159, _ => exact List.all_eq_true.1 fu1_159 r (List.mem_range.2 (by omega))
  | 160, _ => exact List.all_eq_true.1 fu1_160 r (List.mem_range.2 (by omega))
  | 161, _ => exact List.all_eq_true.1 fu1_161 r (List.mem_range.2 (by omega))
  | 162, _ => exact List.all_eq_true.1 fu1_162 r (List.mem_range.2 (by omega))
  | 163, _ => exact List.all_eq_true.1 fu1_163 r (List.mem_range.2 (by omega))
  | 164, _ => exact List.all_eq_true.1 fu1_164 r (List.mem_range.2 (by omega))
  | 165, _ => exact List.all_eq_true.1 fu1_165 r (List.mem_range.2 (by omega))
  | 166, _ => exact List.all_eq_true.1 fu1_166 r (List.mem_range.2 (by omega))
  | 167, _ => exact List.all_eq_true.1 fu1_167 r (List.mem_range.2 (by omega))
  | 168, _ => exact List.all_eq_true.1 fu1_168 r (List.mem_range.2 (by omega))
  | 169, _ => exact List.all_eq_true.1 fu1_169 r (List.mem_range.2 (by omega))
  | 170, _ => exact List.all_eq_true.1 fu1_170 r (List.mem_range.2 (by omega))
  | 171, _ => exact List.all_eq_true.1 fu1_171 r (List.mem_range.2 (by omega))
  | 172, _ => exact List.all_eq_true.1 fu1_172 r (List.mem_range.2 (by omega))
  | 173, _ => exact List.all_eq_true.1 fu1_173 r (List.mem_range.2 (by omega))
  | 174, _ => exact List.all_eq_true.1 fu1_174 r (List.mem_range.2 (by omega))
  | 175, _ => exact List.all_eq_true.1 fu1_175 r (List.mem_range.2 (by omega))
  | 176, _ => exact List.all_eq_true.1 fu1_176 r (List.mem_range.2 (by omega))
  | 177, _ => exact List.all_eq_true.1 fu1_177 r (List.mem_range.2 (by omega))
  | 178, _ => exact List.all_eq_true.1 fu1_178 r (List.mem_range.2 (by omega))
  | 179, _ => exact List.all_eq_true.1 fu1_179 r (List.mem_range.2 (by omega))
  | q + 180, h => exact absurd h (by omega)
end Go.Proofs.YtinopjbpjopdcaaGreatDoor.PF
