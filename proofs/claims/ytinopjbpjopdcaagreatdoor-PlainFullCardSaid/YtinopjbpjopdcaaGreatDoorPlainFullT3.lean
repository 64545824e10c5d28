import Derived.Test.YtinopjbpjopdcaaGreatDoorPlainFullBase
/-! PlainFull: the trees 540 to 719. -/
namespace Go.Proofs.YtinopjbpjopdcaaGreatDoor.PF
open Go.Ev
noncomputable def full3 (i : Nat) : Bool := full (540 + i)
theorem fu3_0 : ((List.range 1).all fun d => full3 (0 + d)) = true := by kernel_rfl
theorem fu3_1 : ((List.range 1).all fun d => full3 (1 + d)) = true := by kernel_rfl
theorem fu3_2 : ((List.range 1).all fun d => full3 (2 + d)) = true := by kernel_rfl
theorem fu3_3 : ((List.range 1).all fun d => full3 (3 + d)) = true := by kernel_rfl
theorem fu3_4 : ((List.range 1).all fun d => full3 (4 + d)) = true := by kernel_rfl
theorem fu3_5 : ((List.range 1).all fun d => full3 (5 + d)) = true := by kernel_rfl
theorem fu3_6 : ((List.range 1).all fun d => full3 (6 + d)) = true := by kernel_rfl
theorem fu3_7 : ((List.range 1).all fun d => full3 (7 + d)) = true := by kernel_rfl
theorem fu3_8 : ((List.range 1).all fun d => full3 (8 + d)) = true := by kernel_rfl
theorem fu3_9 : ((List.range 1).all fun d => full3 (9 + d)) = true := by kernel_rfl
theorem fu3_10 : ((List.range 1).all fun d => full3 (10 + d)) = true := by kernel_rfl
theorem fu3_11 : ((List.range 1).all fun d => full3 (11 + d)) = true := by kernel_rfl
theorem fu3_12 : ((List.range 1).all fun d => full3 (12 + d)) = true := by kernel_rfl
theorem fu3_13 : ((List.range 1).all fun d => full3 (13 + d)) = true := by kernel_rfl
theorem fu3_14 : ((List.range 1).all fun d => full3 (14 + d)) = true := by kernel_rfl
theorem fu3_15 : ((List.range 1).all fun d => full3 (15 + d)) = true := by kernel_rfl
theorem fu3_16 : ((List.range 1).all fun d => full3 (16 + d)) = true := by kernel_rfl
theorem fu3_17 : ((List.range 1).all fun d => full3 (17 + d)) = true := by kernel_rfl
theorem fu3_18 : ((List.range 1).all fun d => full3 (18 + d)) = true := by kernel_rfl
theorem fu3_19 : ((List.range 1).all fun d => full3 (19 + d)) = true := by kernel_rfl
theorem fu3_20 : ((List.range 1).all fun d => full3 (20 + d)) = true := by kernel_rfl
theorem fu3_21 : ((List.range 1).all fun d => full3 (21 + d)) = true := by kernel_rfl
theorem fu3_22 : ((List.range 1).all fun d => full3 (22 + d)) = true := by kernel_rfl
theorem fu3_23 : ((List.range 1).all fun d => full3 (23 + d)) = true := by kernel_rfl
theorem fu3_24 : ((List.range 1).all fun d => full3 (24 + d)) = true := by kernel_rfl
theorem fu3_25 : ((List.range 1).all fun d => full3 (25 + d)) = true := by kernel_rfl
theorem fu3_26 : ((List.range 1).all fun d => full3 (26 + d)) = true := by kernel_rfl
theorem fu3_27 : ((List.range 1).all fun d => full3 (27 + d)) = true := by kernel_rfl
theorem fu3_28 : ((List.range 1).all fun d => full3 (28 + d)) = true := by kernel_rfl
theorem fu3_29 : ((List.range 1).all fun d => full3 (29 + d)) = true := by kernel_rfl
theorem fu3_30 : ((List.range 1).all fun d => full3 (30 + d)) = true := by kernel_rfl
theorem fu3_31 : ((List.range 1).all fun d => full3 (31 + d)) = true := by kernel_rfl
theorem fu3_32 : ((List.range 1).all fun d => full3 (32 + d)) = true := by kernel_rfl
theorem fu3_33 : ((List.range 1).all fun d => full3 (33 + d)) = true := by kernel_rfl
theorem fu3_34 : ((List.range 1).all fun d => full3 (34 + d)) = true := by kernel_rfl
theorem fu3_35 : ((List.range 1).all fun d => full3 (35 + d)) = true := by kernel_rfl
theorem fu3_36 : ((List.range 1).all fun d => full3 (36 + d)) = true := by kernel_rfl
theorem fu3_37 : ((List.range 1).all fun d => full3 (37 + d)) = true := by kernel_rfl
theorem fu3_38 : ((List.range 1).all fun d => full3 (38 + d)) = true := by kernel_rfl
theorem fu3_39 : ((List.range 1).all fun d => full3 (39 + d)) = true := by kernel_rfl
theorem fu3_40 : ((List.range 1).all fun d => full3 (40 + d)) = true := by kernel_rfl
theorem fu3_41 : ((List.range 1).all fun d => full3 (41 + d)) = true := by kernel_rfl
theorem fu3_42 : ((List.range 1).all fun d => full3 (42 + d)) = true := by kernel_rfl
theorem fu3_43 : ((List.range 1).all fun d => full3 (43 + d)) = true := by kernel_rfl
theorem fu3_44 : ((List.range 1).all fun d => full3 (44 + d)) = true := by kernel_rfl
theorem fu3_45 : ((List.range 1).all fun d => full3 (45 + d)) = true := by kernel_rfl
theorem fu3_46 : ((List.range 1).all fun d => full3 (46 + d)) = true := by kernel_rfl
theorem fu3_47 : ((List.range 1).all fun d => full3 (47 + d)) = true := by kernel_rfl
theorem fu3_48 : ((List.range 1).all fun d => full3 (48 + d)) = true := by kernel_rfl
theorem fu3_49 : ((List.range 1).all fun d => full3 (49 + d)) = true := by kernel_rfl
theorem fu3_50 : ((List.range 1).all fun d => full3 (50 + d)) = true := by kernel_rfl
theorem fu3_51 : ((List.range 1).all fun d => full3 (51 + d)) = true := by kernel_rfl
theorem fu3_52 : ((List.range 1).all fun d => full3 (52 + d)) = true := by kernel_rfl
theorem fu3_53 : ((List.range 1).all fun d => full3 (53 + d)) = true := by kernel_rfl
theorem fu3_54 : ((List.range 1).all fun d => full3 (54 + d)) = true := by kernel_rfl
theorem fu3_55 : ((List.range 1).all fun d => full3 (55 + d)) = true := by kernel_rfl
theorem fu3_56 : ((List.range 1).all fun d => full3 (56 + d)) = true := by kernel_rfl
theorem fu3_57 : ((List.range 1).all fun d => full3 (57 + d)) = true := by kernel_rfl
theorem fu3_58 : ((List.range 1).all fun d => full3 (58 + d)) = true := by kernel_rfl
theorem fu3_59 : ((List.range 1).all fun d => full3 (59 + d)) = true := by kernel_rfl
theorem fu3_60 : ((List.range 1).all fun d => full3 (60 + d)) = true := by kernel_rfl
theorem fu3_61 : ((List.range 1).all fun d => full3 (61 + d)) = true := by kernel_rfl
theorem fu3_62 : ((List.range 1).all fun d => full3 (62 + d)) = true := by kernel_rfl
theorem fu3_63 : ((List.range 1).all fun d => full3 (63 + d)) = true := by kernel_rfl
theorem fu3_64 : ((List.range 1).all fun d => full3 (64 + d)) = true := by kernel_rfl
theorem fu3_65 : ((List.range 1).all fun d => full3 (65 + d)) = true := by kernel_rfl
theorem fu3_66 : ((List.range 1).all fun d => full3 (66 + d)) = true := by kernel_rfl
theorem fu3_67 : ((List.range 1).all fun d => full3 (67 + d)) = true := by kernel_rfl
theorem fu3_68 : ((List.range 1).all fun d => full3 (68 + d)) = true := by kernel_rfl
theorem fu3_69 : ((List.range 1).all fun d => full3 (69 + d)) = true := by kernel_rfl
theorem fu3_70 : ((List.range 1).all fun d => full3 (70 + d)) = true := by kernel_rfl
theorem fu3_71 : ((List.range 1).all fun d => full3 (71 + d)) = true := by kernel_rfl
theorem fu3_72 : ((List.range 1).all fun d => full3 (72 + d)) = true := by kernel_rfl
theorem fu3_73 : ((List.range 1).all fun d => full3 (73 + d)) = true := by kernel_rfl
theorem fu3_74 : ((List.range 1).all fun d => full3 (74 + d)) = true := by kernel_rfl
theorem fu3_75 : ((List.range 1).all fun d => full3 (75 + d)) = true := by kernel_rfl
theorem fu3_76 : ((List.range 1).all fun d => full3 (76 + d)) = true := by kernel_rfl
theorem fu3_77 : ((List.range 1).all fun d => full3 (77 + d)) = true := by kernel_rfl
theorem fu3_78 : ((List.range 1).all fun d => full3 (78 + d)) = true := by kernel_rfl
theorem fu3_79 : ((List.range 1).all fun d => full3 (79 + d)) = true := by kernel_rfl
theorem fu3_80 : ((List.range 1).all fun d => full3 (80 + d)) = true := by kernel_rfl
theorem fu3_81 : ((List.range 1).all fun d => full3 (81 + d)) = true := by kernel_rfl
theorem fu3_82 : ((List.range 1).all fun d => full3 (82 + d)) = true := by kernel_rfl
theorem fu3_83 : ((List.range 1).all fun d => full3 (83 + d)) = true := by kernel_rfl
theorem fu3_84 : ((List.range 1).all fun d => full3 (84 + d)) = true := by kernel_rfl
theorem fu3_85 : ((List.range 1).all fun d => full3 (85 + d)) = true := by kernel_rfl
theorem fu3_86 : ((List.range 1).all fun d => full3 (86 + d)) = true := by kernel_rfl
theorem fu3_87 : ((List.range 1).all fun d => full3 (87 + d)) = true := by kernel_rfl
theorem fu3_88 : ((List.range 1).all fun d => full3 (88 + d)) = true := by kernel_rfl
theorem fu3_89 : ((List.range 1).all fun d => full3 (89 + d)) = true := by kernel_rfl
theorem fu3_90 : ((List.range 1).all fun d => full3 (90 + d)) = true := by kernel_rfl
theorem fu3_91 : ((List.range 1).all fun d => full3 (91 + d)) = true := by kernel_rfl
theorem fu3_92 : ((List.range 1).all fun d => full3 (92 + d)) = true := by kernel_rfl
theorem fu3_93 : ((List.range 1).all fun d => full3 (93 + d)) = true := by kernel_rfl
theorem fu3_94 : ((List.range 1).all fun d => full3 (94 + d)) = true := by kernel_rfl
theorem fu3_95 : ((List.range 1).all fun d => full3 (95 + d)) = true := by kernel_rfl
theorem fu3_96 : ((List.range 1).all fun d => full3 (96 + d)) = true := by kernel_rfl
theorem fu3_97 : ((List.range 1).all fun d => full3 (97 + d)) = true := by kernel_rfl
theorem fu3_98 : ((List.range 1).all fun d => full3 (98 + d)) = true := by kernel_rfl
theorem fu3_99 : ((List.range 1).all fun d => full3 (99 + d)) = true := by kernel_rfl
theorem fu3_100 : ((List.range 1).all fun d => full3 (100 + d)) = true := by kernel_rfl
theorem fu3_101 : ((List.range 1).all fun d => full3 (101 + d)) = true := by kernel_rfl
theorem fu3_102 : ((List.range 1).all fun d => full3 (102 + d)) = true := by kernel_rfl
theorem fu3_103 : ((List.range 1).all fun d => full3 (103 + d)) = true := by kernel_rfl
theorem fu3_104 : ((List.range 1).all fun d => full3 (104 + d)) = true := by kernel_rfl
theorem fu3_105 : ((List.range 1).all fun d => full3 (105 + d)) = true := by kernel_rfl
theorem fu3_106 : ((List.range 1).all fun d => full3 (106 + d)) = true := by kernel_rfl
theorem fu3_107 : ((List.range 1).all fun d => full3 (107 + d)) = true := by kernel_rfl
theorem fu3_108 : ((List.range 1).all fun d => full3 (108 + d)) = true := by kernel_rfl
theorem fu3_109 : ((List.range 1).all fun d => full3 (109 + d)) = true := by kernel_rfl
theorem fu3_110 : ((List.range 1).all fun d => full3 (110 + d)) = true := by kernel_rfl
theorem fu3_111 : ((List.range 1).all fun d => full3 (111 + d)) = true := by kernel_rfl
theorem fu3_112 : ((List.range 1).all fun d => full3 (112 + d)) = true := by kernel_rfl
theorem fu3_113 : ((List.range 1).all fun d => full3 (113 + d)) = true := by kernel_rfl
theorem fu3_114 : ((List.range 1).all fun d => full3 (114 + d)) = true := by kernel_rfl
theorem fu3_115 : ((List.range 1).all fun d => full3 (115 + d)) = true := by kernel_rfl
theorem fu3_116 : ((List.range 1).all fun d => full3 (116 + d)) = true := by kernel_rfl
theorem fu3_117 : ((List.range 1).all fun d => full3 (117 + d)) = true := by kernel_rfl
theorem fu3_118 : ((List.range 1).all fun d => full3 (118 + d)) = true := by kernel_rfl
theorem fu3_119 : ((List.range 1).all fun d => full3 (119 + d)) = true := by kernel_rfl
theorem fu3_120 : ((List.range 1).all fun d => full3 (120 + d)) = true := by kernel_rfl
theorem fu3_121 : ((List.range 1).all fun d => full3 (121 + d)) = true := by kernel_rfl
theorem fu3_122 : ((List.range 1).all fun d => full3 (122 + d)) = true := by kernel_rfl
theorem fu3_123 : ((List.range 1).all fun d => full3 (123 + d)) = true := by kernel_rfl
theorem fu3_124 : ((List.range 1).all fun d => full3 (124 + d)) = true := by kernel_rfl
theorem fu3_125 : ((List.range 1).all fun d => full3 (125 + d)) = true := by kernel_rfl
theorem fu3_126 : ((List.range 1).all fun d => full3 (126 + d)) = true := by kernel_rfl
theorem fu3_127 : ((List.range 1).all fun d => full3 (127 + d)) = true := by kernel_rfl
theorem fu3_128 : ((List.range 1).all fun d => full3 (128 + d)) = true := by kernel_rfl
theorem fu3_129 : ((List.range 1).all fun d => full3 (129 + d)) = true := by kernel_rfl
theorem fu3_130 : ((List.range 1).all fun d => full3 (130 + d)) = true := by kernel_rfl
theorem fu3_131 : ((List.range 1).all fun d => full3 (131 + d)) = true := by kernel_rfl
theorem fu3_132 : ((List.range 1).all fun d => full3 (132 + d)) = true := by kernel_rfl
theorem fu3_133 : ((List.range 1).all fun d => full3 (133 + d)) = true := by kernel_rfl
theorem fu3_134 : ((List.range 1).all fun d => full3 (134 + d)) = true := by kernel_rfl
theorem fu3_135 : ((List.range 1).all fun d => full3 (135 + d)) = true := by kernel_rfl
theorem fu3_136 : ((List.range 1).all fun d => full3 (136 + d)) = true := by kernel_rfl
theorem fu3_137 : ((List.range 1).all fun d => full3 (137 + d)) = true := by kernel_rfl
theorem fu3_138 : ((List.range 1).all fun d => full3 (138 + d)) = true := by kernel_rfl
theorem fu3_139 : ((List.range 1).all fun d => full3 (139 + d)) = true := by kernel_rfl
theorem fu3_140 : ((List.range 1).all fun d => full3 (140 + d)) = true := by kernel_rfl
theorem fu3_141 : ((List.range 1).all fun d => full3 (141 + d)) = true := by kernel_rfl
theorem fu3_142 : ((List.range 1).all fun d => full3 (142 + d)) = true := by kernel_rfl
theorem fu3_143 : ((List.range 1).all fun d => full3 (143 + d)) = true := by kernel_rfl
theorem fu3_144 : ((List.range 1).all fun d => full3 (144 + d)) = true := by kernel_rfl
theorem fu3_145 : ((List.range 1).all fun d => full3 (145 + d)) = true := by kernel_rfl
theorem fu3_146 : ((List.range 1).all fun d => full3 (146 + d)) = true := by kernel_rfl
theorem fu3_147 : ((List.range 1).all fun d => full3 (147 + d)) = true := by kernel_rfl
theorem fu3_148 : ((List.range 1).all fun d => full3 (148 + d)) = true := by kernel_rfl
theorem fu3_149 : ((List.range 1).all fun d => full3 (149 + d)) = true := by kernel_rfl
theorem fu3_150 : ((List.range 1).all fun d => full3 (150 + d)) = true := by kernel_rfl
theorem fu3_151 : ((List.range 1).all fun d => full3 (151 + d)) = true := by kernel_rfl
theorem fu3_152 : ((List.range 1).all fun d => full3 (152 + d)) = true := by kernel_rfl
theorem fu3_153 : ((List.range 1).all fun d => full3 (153 + d)) = true := by kernel_rfl
theorem fu3_154 : ((List.range 1).all fun d => full3 (154 + d)) = true := by kernel_rfl
theorem fu3_155 : ((List.range 1).all fun d => full3 (155 + d)) = true := by kernel_rfl
theorem fu3_156 : ((List.range 1).all fun d => full3 (156 + d)) = true := by kernel_rfl
theorem fu3_157 : ((List.range 1).all fun d => full3 (157 + d)) = true := by kernel_rfl
theorem fu3_158 : ((List.range 1).all fun d => full3 (158 + d)) = true := by kernel_rfl
theorem fu3_159 : ((List.range 1).all fun d => full3 (159 + d)) = true := by kernel_rfl
theorem fu3_160 : ((List.range 1).all fun d => full3 (160 + d)) = true := by kernel_rfl
theorem fu3_161 : ((List.range 1).all fun d => full3 (161 + d)) = true := by kernel_rfl
theorem fu3_162 : ((List.range 1).all fun d => full3 (162 + d)) = true := by kernel_rfl
theorem fu3_163 : ((List.range 1).all fun d => full3 (163 + d)) = true := by kernel_rfl
theorem fu3_164 : ((List.range 1).all fun d => full3 (164 + d)) = true := by kernel_rfl
theorem fu3_165 : ((List.range 1).all fun d => full3 (165 + d)) = true := by kernel_rfl
theorem fu3_166 : ((List.range 1).all fun d => full3 (166 + d)) = true := by kernel_rfl
theorem fu3_167 : ((List.range 1).all fun d => full3 (167 + d)) = true := by kernel_rfl
theorem fu3_168 : ((List.range 1).all fun d => full3 (168 + d)) = true := by kernel_rfl
theorem fu3_169 : ((List.range 1).all fun d => full3 (169 + d)) = true := by kernel_rfl
theorem fu3_170 : ((List.range 1).all fun d => full3 (170 + d)) = true := by kernel_rfl
theorem fu3_171 : ((List.range 1).all fun d => full3 (171 + d)) = true := by kernel_rfl
theorem fu3_172 : ((List.range 1).all fun d => full3 (172 + d)) = true := by kernel_rfl
theorem fu3_173 : ((List.range 1).all fun d => full3 (173 + d)) = true := by kernel_rfl
theorem fu3_174 : ((List.range 1).all fun d => full3 (174 + d)) = true := by kernel_rfl
theorem fu3_175 : ((List.range 1).all fun d => full3 (175 + d)) = true := by kernel_rfl
theorem fu3_176 : ((List.range 1).all fun d => full3 (176 + d)) = true := by kernel_rfl
theorem fu3_177 : ((List.range 1).all fun d => full3 (177 + d)) = true := by kernel_rfl
theorem fu3_178 : ((List.range 1).all fun d => full3 (178 + d)) = true := by kernel_rfl
theorem fu3_179 : ((List.range 1).all fun d => full3 (179 + d)) = true := by kernel_rfl
theorem fu3_all : ∀ i, i < 180 → full3 i = true := by
  intro i hi
  have hq : i = 1 * (i / 1) + i % 1 := (Nat.div_add_mod i 1).symm
  have hr : i % 1 < 1 := Nat.mod_lt _ (by decide)
  have hd : i / 1 < 180 := by omega
  generalize i / 1 = q at hq hd
  generalize i % 1 = r at hq hr
  subst hq
  match q, hd with
  | 0, _ => exact List.all_eq_true.1 fu3_0 r (List.mem_range.2 (by omega))
  | 1, _ => exact List.all_eq_true.1 fu3_1 r (List.mem_range.2 (by omega))
  | 2, _ => exact List.all_eq_true.1 fu3_2 r (List.mem_range.2 (by omega))
  | 3, _ => exact List.all_eq_true.1 fu3_3 r (List.mem_range.2 (by omega))
  | 4, _ => exact List.all_eq_true.1 fu3_4 r (List.mem_range.2 (by omega))
  | 5, _ => exact List.all_eq_true.1 fu3_5 r (List.mem_range.2 (by omega))
  | 6, _ => exact List.all_eq_true.1 fu3_6 r (List.mem_range.2 (by omega))
  | 7, _ => exact List.all_eq_true.1 fu3_7 r (List.mem_range.2 (by omega))
  | 8, _ => exact List.all_eq_true.1 fu3_8 r (List.mem_range.2 (by omega))
  | 9, _ => exact List.all_eq_true.1 fu3_9 r (List.mem_range.2 (by omega))
  | 10, _ => exact List.all_eq_true.1 fu3_10 r (List.mem_range.2 (by omega))
  | 11, _ => exact List.all_eq_true.1 fu3_11 r (List.mem_range.2 (by omega))
  | 12, _ => exact List.all_eq_true.1 fu3_12 r (List.mem_range.2 (by omega))
  | 13, _ => exact List.all_eq_true.1 fu3_13 r (List.mem_range.2 (by omega))
  | 14, _ => exact List.all_eq_true.1 fu3_14 r (List.mem_range.2 (by omega))
  | 15, _ => exact List.all_eq_true.1 fu3_15 r (List.mem_range.2 (by omega))
  | 16, _ => exact List.all_eq_true.1 fu3_16 r (List.mem_range.2 (by omega))
  | 17, _ => exact List.all_eq_true.1 fu3_17 r (List.mem_range.2 (by omega))
  | 18, _ => exact List.all_eq_true.1 fu3_18 r (List.mem_range.2 (by omega))
  | 19, _ => exact List.all_eq_true.1 fu3_19 r (List.mem_range.2 (by omega))
  | 20, _ => exact List.all_eq_true.1 fu3_20 r (List.mem_range.2 (by omega))
  | 21, _ => exact List.all_eq_true.1 fu3_21 r (List.mem_range.2 (by omega))
  | 22, _ => exact List.all_eq_true.1 fu3_22 r (List.mem_range.2 (by omega))
  | 23, _ => exact List.all_eq_true.1 fu3_23 r (List.mem_range.2 (by omega))
  | 24, _ => exact List.all_eq_true.1 fu3_24 r (List.mem_range.2 (by omega))
  | 25, _ => exact List.all_eq_true.1 fu3_25 r (List.mem_range.2 (by omega))
  | 26, _ => exact List.all_eq_true.1 fu3_26 r (List.mem_range.2 (by omega))
  | 27, _ => exact List.all_eq_true.1 fu3_27 r (List.mem_range.2 (by omega))
  | 28, _ => exact List.all_eq_true.1 fu3_28 r (List.mem_range.2 (by omega))
  | 29, _ => exact List.all_eq_true.1 fu3_29 r (List.mem_range.2 (by omega))
  | 30, _ => exact List.all_eq_true.1 fu3_30 r (List.mem_range.2 (by omega))
  | 31, _ => exact List.all_eq_true.1 fu3_31 r (List.mem_range.2 (by omega))
  | 32, _ => exact List.all_eq_true.1 fu3_32 r (List.mem_range.2 (by omega))
  | 33, _ => exact List.all_eq_true.1 fu3_33 r (List.mem_range.2 (by omega))
  | 34, _ => exact List.all_eq_true.1 fu3_34 r (List.mem_range.2 (by omega))
  | 35, _ => exact List.all_eq_true.1 fu3_35 r (List.mem_range.2 (by omega))
  | 36, _ => exact List.all_eq_true.1 fu3_36 r (List.mem_range.2 (by omega))
  | 37, _ => exact List.all_eq_true.1 fu3_37 r (List.mem_range.2 (by omega))
  | 38, _ => exact List.all_eq_true.1 fu3_38 r (List.mem_range.2 (by omega))
  | 39, _ => exact List.all_eq_true.1 fu3_39 r (List.mem_range.2 (by omega))
  | 40, _ => exact List.all_eq_true.1 fu3_40 r (List.mem_range.2 (by omega))
  | 41, _ => exact List.all_eq_true.1 fu3_41 r (List.mem_range.2 (by omega))
  | 42, _ => exact List.all_eq_true.1 fu3_42 r (List.mem_range.2 (by omega))
  | 43, _ => exact List.all_eq_true.1 fu3_43 r (List.mem_range.2 (by omega))
  | 44, _ => exact List.all_eq_true.1 fu3_44 r (List.mem_range.2 (by omega))
  | 45, _ => exact List.all_eq_true.1 fu3_45 r (List.mem_range.2 (by omega))
  | 46, _ => exact List.all_eq_true.1 fu3_46 r (List.mem_range.2 (by omega))
  | 47, _ => exact List.all_eq_true.1 fu3_47 r (List.mem_range.2 (by omega))
  | 48, _ => exact List.all_eq_true.1 fu3_48 r (List.mem_range.2 (by omega))
  | 49, _ => exact List.all_eq_true.1 fu3_49 r (List.mem_range.2 (by omega))
  | 50, _ => exact List.all_eq_true.1 fu3_50 r (List.mem_range.2 (by omega))
  | 51, _ => exact List.all_eq_true.1 fu3_51 r (List.mem_range.2 (by omega))
  | 52, _ => exact List.all_eq_true.1 fu3_52 r (List.mem_range.2 (by omega))
  | 53, _ => exact List.all_eq_true.1 fu3_53 r (List.mem_range.2 (by omega))
  | 54, _ => exact List.all_eq_true.1 fu3_54 r (List.mem_range.2 (by omega))
  | 55, _ => exact List.all_eq_true.1 fu3_55 r (List.mem_range.2 (by omega))
  | 56, _ => exact List.all_eq_true.1 fu3_56 r (List.mem_range.2 (by omega))
  | 57, _ => exact List.all_eq_true.1 fu3_57 r (List.mem_range.2 (by omega))
  | 58, _ => exact List.all_eq_true.1 fu3_58 r (List.mem_range.2 (by omega))
  | 59, _ => exact List.all_eq_true.1 fu3_59 r (List.mem_range.2 (by omega))
  | 60, _ => exact List.all_eq_true.1 fu3_60 r (List.mem_range.2 (by omega))
  | 61, _ => exact List.all_eq_true.1 fu3_61 r (List.mem_range.2 (by omega))
  | 62, _ => exact List.all_eq_true.1 fu3_62 r (List.mem_range.2 (by omega))
  | 63, _ => exact List.all_eq_true.1 fu3_63 r (List.mem_range.2 (by omega))
  | 64, _ => exact List.all_eq_true.1 fu3_64 r (List.mem_range.2 (by omega))
  | 65, _ => exact List.all_eq_true.1 fu3_65 r (List.mem_range.2 (by omega))
  | 66, _ => exact List.all_eq_true.1 fu3_66 r (List.mem_range.2 (by omega))
  | 67, _ => exact List.all_eq_true.1 fu3_67 r (List.mem_range.2 (by omega))
  | 68, _ => exact List.all_eq_true.1 fu3_68 r (List.mem_range.2 (by omega))
  | 69, _ => exact List.all_eq_true.1 fu3_69 r (List.mem_range.2 (by omega))
  | 70, _ => exact List.all_eq_true.1 fu3_70 r (List.mem_range.2 (by omega))
  | 71, _ => exact List.all_eq_true.1 fu3_71 r (List.mem_range.2 (by omega))
  | 72, _ => exact List.all_eq_true.1 fu3_72 r (List.mem_range.2 (by omega))
  | 73, _ => exact List.all_eq_true.1 fu3_73 r (List.mem_range.2 (by omega))
  | 74, _ => exact List.all_eq_true.1 fu3_74 r (List.mem_range.2 (by omega))
  | 75, _ => exact List.all_eq_true.1 fu3_75 r (List.mem_range.2 (by omega))
  | 76, _ => exact List.all_eq_true.1 fu3_76 r (List.mem_range.2 (by omega))
  | 77, _ => exact List.all_eq_true.1 fu3_77 r (List.mem_range.2 (by omega))
  | 78, _ => exact List.all_eq_true.1 fu3_78 r (List.mem_range.2 (by omega))
  | 79, _ => exact List.all_eq_true.1 fu3_79 r (List.mem_range.2 (by omega))
  | 80, _ => exact List.all_eq_true.1 fu3_80 r (List.mem_range.2 (by omega))
  | 81, _ => exact List.all_eq_true.1 fu3_81 r (List.mem_range.2 (by omega))
  | 82, _ => exact List.all_eq_true.1 fu3_82 r (List.mem_range.2 (by omega))
  | 83, _ => exact List.all_eq_true.1 fu3_83 r (List.mem_range.2 (by omega))
  | 84, _ => exact List.all_eq_true.1 fu3_84 r (List.mem_range.2 (by omega))
  | 85, _ => exact List.all_eq_true.1 fu3_85 r (List.mem_range.2 (by omega))
  | 86, _ => exact List.all_eq_true.1 fu3_86 r (List.mem_range.2 (by omega))
  | 87, _ => exact List.all_eq_true.1 fu3_87 r (List.mem_range.2 (by omega))
  | 88, _ => exact List.all_eq_true.1 fu3_88 r (List.mem_range.2 (by omega))
  | 89, _ => exact List.all_eq_true.1 fu3_89 r (List.mem_range.2 (by omega))
  | 90, _ => exact List.all_eq_true.1 fu3_90 r (List.mem_range.2 (by omega))
  | 91, _ => exact List.all_eq_true.1 fu3_91 r (List.mem_range.2 (by omega))
  | 92, _ => exact List.all_eq_true.1 fu3_92 r (List.mem_range.2 (by omega))
  | 93, _ => exact List.all_eq_true.1 fu3_93 r (List.mem_range.2 (by omega))
  | 94, _ => exact List.all_eq_true.1 fu3_94 r (List.mem_range.2 (by omega))
  | 95, _ => exact List.all_eq_true.1 fu3_95 r (List.mem_range.2 (by omega))
  | 96, _ => exact List.all_eq_true.1 fu3_96 r (List.mem_range.2 (by omega))
  | 97, _ => exact List.all_eq_true.1 fu3_97 r (List.mem_range.2 (by omega))
  | 98, _ => exact List.all_eq_true.1 fu3_98 r (List.mem_range.2 (by omega))
  | 99, _ => exact List.all_eq_true.1 fu3_99 r (List.mem_range.2 (by omega))
  | 100, _ => exact List.all_eq_true.1 fu3_100 r (List.mem_range.2 (by omega))
  | 101, _ => exact List.all_eq_true.1 fu3_101 r (List.mem_range.2 (by omega))
  | 102, _ => exact List.all_eq_true.1 fu3_102 r (List.mem_range.2 (by omega))
  | 103, _ => exact List.all_eq_true.1 fu3_103 r (List.mem_range.2 (by omega))
  | 104, _ => exact List.all_eq_true.1 fu3_104 r (List.mem_range.2 (by omega))
  | 105, _ => exact List.all_eq_true.1 fu3_105 r (List.mem_range.2 (by omega))
  | 106, _ => exact List.all_eq_true.1 fu3_106 r (List.mem_range.2 (by omega))
  | 107, _ => exact List.all_eq_true.1 fu3_107 r (List.mem_range.2 (by omega))
  | 108, _ => exact List.all_eq_true.1 fu3_108 r (List.mem_range.2 (by omega))
  | 109, _ => exact List.all_eq_true.1 fu3_109 r (List.mem_range.2 (by omega))
  | 110, _ => exact List.all_eq_true.1 fu3_110 r (List.mem_range.2 (by omega))
  | 111, _ => exact List.all_eq_true.1 fu3_111 r (List.mem_range.2 (by omega))
  | 112, _ => exact List.all_eq_true.1 fu3_112 r (List.mem_range.2 (by omega))
  | 113, _ => exact List.all_eq_true.1 fu3_113 r (List.mem_range.2 (by omega))
  | 114, _ => exact List.all_eq_true.1 fu3_114 r (List.mem_range.2 (by omega))
  | 115, _ => exact List.all_eq_true.1 fu3_115 r (List.mem_range.2 (by omega))
  | 116, _ => exact List.all_eq_true.1 fu3_116 r (List.mem_range.2 (by omega))
  | 117, _ => exact List.all_eq_true.1 fu3_117 r (List.mem_range.2 (by omega))
  | 118, _ => exact List.all_eq_true.1 fu3_118 r (List.mem_range.2 (by omega))
  | 119, _ => exact List.all_eq_true.1 fu3_119 r (List.mem_range.2 (by omega))
  | 120, _ => exact List.all_eq_true.1 fu3_120 r (List.mem_range.2 (by omega))
  | 121, _ => exact List.all_eq_true.1 fu3_121 r (List.mem_range.2 (by omega))
  | 122, _ => exact List.all_eq_true.1 fu3_122 r (List.mem_range.2 (by omega))
  | 123, _ => exact List.all_eq_true.1 fu3_123 r (List.mem_range.2 (by omega))
  | 124, _ => exact List.all_eq_true.1 fu3_124 r (List.mem_range.2 (by omega))
  | 125, _ => exact List.all_eq_true.1 fu3_125 r (List.mem_range.2 (by omega))
  | 126, _ => exact List.all_eq_true.1 fu3_126 r (List.mem_range.2 (by omega))
  | 127, _ => exact List.all_eq_true.1 fu3_127 r (List.mem_range.2 (by omega))
  | 128, _ => exact List.all_eq_true.1 fu3_128 r (List.mem_range.2 (by omega))
  | 129, _ => exact List.all_eq_true.1 fu3_129 r (List.mem_range.2 (by omega))
  | 130, _ => exact List.all_eq_true.1 fu3_130 r (List.mem_range.2 (by omega))
  | 131, _ => exact List.all_eq_true.1 fu3_131 r (List.mem_range.2 (by omega))
  | 132, _ => exact List.all_eq_true.1 fu3_132 r (List.mem_range.2 (by omega))
  | 133, _ => exact List.all_eq_true.1 fu3_133 r (List.mem_range.2 (by omega))
  | 134, _ => exact List.all_eq_true.1 fu3_134 r (List.mem_range.2 (by omega))
  | 135, _ => exact List.all_eq_true.1 fu3_135 r (List.mem_range.2 (by omega))
  | 136, _ => exact List.all_eq_true.1 fu3_136 r (List.mem_range.2 (by omega))
  | 137, _ => exact List.all_eq_true.1 fu3_137 r (List.mem_range.2 (by omega))
  | 138, _ => exact List.all_eq_true.1 fu3_138 r (List.mem_range.2 (by omega))
  | 139, _ => exact List.all_eq_true.1 fu3_139 r (List.mem_range.2 (by omega))
  | 140, _ => exact List.all_eq_true.1 fu3_140 r (List.mem_range.2 (by omega))
  | 141, _ => exact List.all_eq_true.1 fu3_141 r (List.mem_range.2 (by omega))
  | 142, _ => exact List.all_eq_true.1 fu3_142 r (List.mem_range.2 (by omega))
  | 143, _ => exact List.all_eq_true.1 fu3_143 r (List.mem_range.2 (by omega))
  | 144, _ => exact List.all_eq_true.1 fu3_144 r (List.mem_range.2 (by omega))
  | 145, _ => exact List.all_eq_true.1 fu3_145 r (List.mem_range.2 (by omega))
  | 146, _ => exact List.all_eq_true.1 fu3_146 r (List.mem_range.2 (by omega))
  | 147, _ => exact List.all_eq_true.1 fu3_147 r (List.mem_range.2 (by omega))
  | 148, _ => exact List.all_eq_true.1 fu3_148 r (List.mem_range.2 (by omega))
  | 149, _ => exact List.all_eq_true.1 fu3_149 r (List.mem_range.2 (by omega))
  | 150, _ => exact List.all_eq_true.1 fu3_150 r (List.mem_range.2 (by omega))
  | 151, _ => exact List.all_eq_true.1 fu3_151 r (List.mem_range.2 (by omega))
  | 152, _ => exact List.all_eq_true.1 fu3_152 r (List.mem_range.2 (by omega))
  | 153, _ => exact List.all_eq_true.1 fu3_153 r (List.mem_range.2 (by omega))
  | 154, _ => exact List.all_eq_true.1 fu3_154 r (List.mem_range.2 (by omega))
  | 155, _ => exact List.all_eq_true.1 fu3_155 r (List.mem_range.2 (by omega))
  | 156, _ => exact List.all_eq_true.1 fu3_156 r (List.mem_range.2 (by omega))
  | 157, _ => exact List.all_eq_true.1 fu3_157 r (List.mem_range.2 (by omega))
  | 158, _ => exact List.all_eq_true.1 fu3_158 r (List.mem_range.2 (by omega))
  | 159, _ => exact List.all_eq_true.1 fu3_159 r (List.mem_range.2 (by omega))
  | 160, _ => exact List.all_eq_true.1 fu3_160 r (List.mem_range.2 (by omega))
  | 161, _ => exact List.all_eq_true.1 fu3_161 r (List.mem_range.2 (by omega))
  | 162, _ => exact List.all_eq_true.1 fu3_162 r (List.mem_range.2 (by omega))
  | 163, _ => exact List.all_eq_true.1 fu3_163 r (List.mem_range.2 (by omega))
  | 164, _ => exact List.all_eq_true.1 fu3_164 r (List.mem_range.2 (by omega))
  | 165, _ => exact List.all_eq_true.1 fu3_165 r (List.mem_range.2 (by omega))
  | 166, _ => exact List.all_eq_true.1 fu3_166 r (List.mem_range.2 (by omega))
  | 167, _ => exact List.all_eq_true.1 fu3_167 r (List.mem_range.2 (by omega))
  | 168, _ => exact List.all_eq_true.1 fu3_168 r (List.mem_range.2 (by omega))
  | 169, _ => exact List.all_eq_true.1 fu3_169 r (List.mem_range.2 (by omega))
  | 170, _ => exact List.all_eq_true.1 fu3_170 r (List.mem_range.2 (by omega))
  | 171, _ => exact List.all_eq_true.1 fu3_171 r (List.mem_range.2 (by omega))
  | 172, _ => exact List.all_eq_true.1 fu3_172 r (List.mem_range.2 (by omega))
  | 173, _ => exact List.all_eq_true.1 fu3_173 r (List.mem_range.2 (by omega))
  | 174, _ => exact List.all_eq_true.1 fu3_174 r (List.mem_range.2 (by omega))
  | 175, _ => exact List.all_eq_true.1 fu3_175 r (List.mem_range.2 (by omega))
  | 176, _ => exact List.all_eq_true.1 fu3_176 r (List.mem_range.2 (by omega))
  | 177, _ => exact List.all_eq_true.1 fu3_177 r (List.mem_range.2 (by omega))
  | 178, _ => exact List.all_eq_true.1 fu3_178 r (List.mem_range.2 (by omega))
  | 179, _ => exact List.all_eq_true.1 fu3_179 r (List.mem_range.2 (by omega))
  | q + 180, h => exact absurd h (by omega)
end Go.Proofs.YtinopjbpjopdcaaGreatDoor.PF
