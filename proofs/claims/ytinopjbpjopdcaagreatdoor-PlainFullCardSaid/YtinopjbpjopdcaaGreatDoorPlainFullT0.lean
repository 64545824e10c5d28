import Derived.Test.YtinopjbpjopdcaaGreatDoorPlainFullBase
/-! PlainFull: the trees 0 to 179. -/
namespace Go.Proofs.YtinopjbpjopdcaaGreatDoor.PF
open Go.Ev
noncomputable def full0 (i : Nat) : Bool := full (0 + i)
theorem fu0_0 : ((List.range 1).all fun d => full0 (0 + d)) = true := by kernel_rfl
theorem fu0_1 : ((List.range 1).all fun d => full0 (1 + d)) = true := by kernel_rfl
theorem fu0_2 : ((List.range 1).all fun d => full0 (2 + d)) = true := by kernel_rfl
theorem fu0_3 : ((List.range 1).all fun d => full0 (3 + d)) = true := by kernel_rfl
theorem fu0_4 : ((List.range 1).all fun d => full0 (4 + d)) = true := by kernel_rfl
theorem fu0_5 : ((List.range 1).all fun d => full0 (5 + d)) = true := by kernel_rfl
theorem fu0_6 : ((List.range 1).all fun d => full0 (6 + d)) = true := by kernel_rfl
theorem fu0_7 : ((List.range 1).all fun d => full0 (7 + d)) = true := by kernel_rfl
theorem fu0_8 : ((List.range 1).all fun d => full0 (8 + d)) = true := by kernel_rfl
theorem fu0_9 : ((List.range 1).all fun d => full0 (9 + d)) = true := by kernel_rfl
theorem fu0_10 : ((List.range 1).all fun d => full0 (10 + d)) = true := by kernel_rfl
theorem fu0_11 : ((List.range 1).all fun d => full0 (11 + d)) = true := by kernel_rfl
theorem fu0_12 : ((List.range 1).all fun d => full0 (12 + d)) = true := by kernel_rfl
theorem fu0_13 : ((List.range 1).all fun d => full0 (13 + d)) = true := by kernel_rfl
theorem fu0_14 : ((List.range 1).all fun d => full0 (14 + d)) = true := by kernel_rfl
theorem fu0_15 : ((List.range 1).all fun d => full0 (15 + d)) = true := by kernel_rfl
theorem fu0_16 : ((List.range 1).all fun d => full0 (16 + d)) = true := by kernel_rfl
theorem fu0_17 : ((List.range 1).all fun d => full0 (17 + d)) = true := by kernel_rfl
theorem fu0_18 : ((List.range 1).all fun d => full0 (18 + d)) = true := by kernel_rfl
theorem fu0_19 : ((List.range 1).all fun d => full0 (19 + d)) = true := by kernel_rfl
theorem fu0_20 : ((List.range 1).all fun d => full0 (20 + d)) = true := by kernel_rfl
theorem fu0_21 : ((List.range 1).all fun d => full0 (21 + d)) = true := by kernel_rfl
theorem fu0_22 : ((List.range 1).all fun d => full0 (22 + d)) = true := by kernel_rfl
theorem fu0_23 : ((List.range 1).all fun d => full0 (23 + d)) = true := by kernel_rfl
theorem fu0_24 : ((List.range 1).all fun d => full0 (24 + d)) = true := by kernel_rfl
theorem fu0_25 : ((List.range 1).all fun d => full0 (25 + d)) = true := by kernel_rfl
theorem fu0_26 : ((List.range 1).all fun d => full0 (26 + d)) = true := by kernel_rfl
theorem fu0_27 : ((List.range 1).all fun d => full0 (27 + d)) = true := by kernel_rfl
theorem fu0_28 : ((List.range 1).all fun d => full0 (28 + d)) = true := by kernel_rfl
theorem fu0_29 : ((List.range 1).all fun d => full0 (29 + d)) = true := by kernel_rfl
theorem fu0_30 : ((List.range 1).all fun d => full0 (30 + d)) = true := by kernel_rfl
theorem fu0_31 : ((List.range 1).all fun d => full0 (31 + d)) = true := by kernel_rfl
theorem fu0_32 : ((List.range 1).all fun d => full0 (32 + d)) = true := by kernel_rfl
theorem fu0_33 : ((List.range 1).all fun d => full0 (33 + d)) = true := by kernel_rfl
theorem fu0_34 : ((List.range 1).all fun d => full0 (34 + d)) = true := by kernel_rfl
theorem fu0_35 : ((List.range 1).all fun d => full0 (35 + d)) = true := by kernel_rfl
theorem fu0_36 : ((List.range 1).all fun d => full0 (36 + d)) = true := by kernel_rfl
theorem fu0_37 : ((List.range 1).all fun d => full0 (37 + d)) = true := by kernel_rfl
theorem fu0_38 : ((List.range 1).all fun d => full0 (38 + d)) = true := by kernel_rfl
theorem fu0_39 : ((List.range 1).all fun d => full0 (39 + d)) = true := by kernel_rfl
theorem fu0_40 : ((List.range 1).all fun d => full0 (40 + d)) = true := by kernel_rfl
theorem fu0_41 : ((List.range 1).all fun d => full0 (41 + d)) = true := by kernel_rfl
theorem fu0_42 : ((List.range 1).all fun d => full0 (42 + d)) = true := by kernel_rfl
theorem fu0_43 : ((List.range 1).all fun d => full0 (43 + d)) = true := by kernel_rfl
theorem fu0_44 : ((List.range 1).all fun d => full0 (44 + d)) = true := by kernel_rfl
theorem fu0_45 : ((List.range 1).all fun d => full0 (45 + d)) = true := by kernel_rfl
theorem fu0_46 : ((List.range 1).all fun d => full0 (46 + d)) = true := by kernel_rfl
theorem fu0_47 : ((List.range 1).all fun d => full0 (47 + d)) = true := by kernel_rfl
theorem fu0_48 : ((List.range 1).all fun d => full0 (48 + d)) = true := by kernel_rfl
theorem fu0_49 : ((List.range 1).all fun d => full0 (49 + d)) = true := by kernel_rfl
theorem fu0_50 : ((List.range 1).all fun d => full0 (50 + d)) = true := by kernel_rfl
theorem fu0_51 : ((List.range 1).all fun d => full0 (51 + d)) = true := by kernel_rfl
theorem fu0_52 : ((List.range 1).all fun d => full0 (52 + d)) = true := by kernel_rfl
theorem fu0_53 : ((List.range 1).all fun d => full0 (53 + d)) = true := by kernel_rfl
theorem fu0_54 : ((List.range 1).all fun d => full0 (54 + d)) = true := by kernel_rfl
theorem fu0_55 : ((List.range 1).all fun d => full0 (55 + d)) = true := by kernel_rfl
theorem fu0_56 : ((List.range 1).all fun d => full0 (56 + d)) = true := by kernel_rfl
theorem fu0_57 : ((List.range 1).all fun d => full0 (57 + d)) = true := by kernel_rfl
theorem fu0_58 : ((List.range 1).all fun d => full0 (58 + d)) = true := by kernel_rfl
theorem fu0_59 : ((List.range 1).all fun d => full0 (59 + d)) = true := by kernel_rfl
theorem fu0_60 : ((List.range 1).all fun d => full0 (60 + d)) = true := by kernel_rfl
theorem fu0_61 : ((List.range 1).all fun d => full0 (61 + d)) = true := by kernel_rfl
theorem fu0_62 : ((List.range 1).all fun d => full0 (62 + d)) = true := by kernel_rfl
theorem fu0_63 : ((List.range 1).all fun d => full0 (63 + d)) = true := by kernel_rfl
theorem fu0_64 : ((List.range 1).all fun d => full0 (64 + d)) = true := by kernel_rfl
theorem fu0_65 : ((List.range 1).all fun d => full0 (65 + d)) = true := by kernel_rfl
theorem fu0_66 : ((List.range 1).all fun d => full0 (66 + d)) = true := by kernel_rfl
theorem fu0_67 : ((List.range 1).all fun d => full0 (67 + d)) = true := by kernel_rfl
theorem fu0_68 : ((List.range 1).all fun d => full0 (68 + d)) = true := by kernel_rfl
theorem fu0_69 : ((List.range 1).all fun d => full0 (69 + d)) = true := by kernel_rfl
theorem fu0_70 : ((List.range 1).all fun d => full0 (70 + d)) = true := by kernel_rfl
theorem fu0_71 : ((List.range 1).all fun d => full0 (71 + d)) = true := by kernel_rfl
theorem fu0_72 : ((List.range 1).all fun d => full0 (72 + d)) = true := by kernel_rfl
theorem fu0_73 : ((List.range 1).all fun d => full0 (73 + d)) = true := by kernel_rfl
theorem fu0_74 : ((List.range 1).all fun d => full0 (74 + d)) = true := by kernel_rfl
theorem fu0_75 : ((List.range 1).all fun d => full0 (75 + d)) = true := by kernel_rfl
theorem fu0_76 : ((List.range 1).all fun d => full0 (76 + d)) = true := by kernel_rfl
theorem fu0_77 : ((List.range 1).all fun d => full0 (77 + d)) = true := by kernel_rfl
theorem fu0_78 : ((List.range 1).all fun d => full0 (78 + d)) = true := by kernel_rfl
theorem fu0_79 : ((List.range 1).all fun d => full0 (79 + d)) = true := by kernel_rfl
theorem fu0_80 : ((List.range 1).all fun d => full0 (80 + d)) = true := by kernel_rfl
theorem fu0_81 : ((List.range 1).all fun d => full0 (81 + d)) = true := by kernel_rfl
theorem fu0_82 : ((List.range 1).all fun d => full0 (82 + d)) = true := by kernel_rfl
theorem fu0_83 : ((List.range 1).all fun d => full0 (83 + d)) = true := by kernel_rfl
theorem fu0_84 : ((List.range 1).all fun d => full0 (84 + d)) = true := by kernel_rfl
theorem fu0_85 : ((List.range 1).all fun d => full0 (85 + d)) = true := by kernel_rfl
theorem fu0_86 : ((List.range 1).all fun d => full0 (86 + d)) = true := by kernel_rfl
theorem fu0_87 : ((List.range 1).all fun d => full0 (87 + d)) = true := by kernel_rfl
theorem fu0_88 : ((List.range 1).all fun d => full0 (88 + d)) = true := by kernel_rfl
theorem fu0_89 : ((List.range 1).all fun d => full0 (89 + d)) = true := by kernel_rfl
theorem fu0_90 : ((List.range 1).all fun d => full0 (90 + d)) = true := by kernel_rfl
theorem fu0_91 : ((List.range 1).all fun d => full0 (91 + d)) = true := by kernel_rfl
theorem fu0_92 : ((List.range 1).all fun d => full0 (92 + d)) = true := by kernel_rfl
theorem fu0_93 : ((List.range 1).all fun d => full0 (93 + d)) = true := by kernel_rfl
theorem fu0_94 : ((List.range 1).all fun d => full0 (94 + d)) = true := by kernel_rfl
theorem fu0_95 : ((List.range 1).all fun d => full0 (95 + d)) = true := by kernel_rfl
theorem fu0_96 : ((List.range 1).all fun d => full0 (96 + d)) = true := by kernel_rfl
theorem fu0_97 : ((List.range 1).all fun d => full0 (97 + d)) = true := by kernel_rfl
theorem fu0_98 : ((List.range 1).all fun d => full0 (98 + d)) = true := by kernel_rfl
theorem fu0_99 : ((List.range 1).all fun d => full0 (99 + d)) = true := by kernel_rfl
theorem fu0_100 : ((List.range 1).all fun d => full0 (100 + d)) = true := by kernel_rfl
theorem fu0_101 : ((List.range 1).all fun d => full0 (101 + d)) = true := by kernel_rfl
theorem fu0_102 : ((List.range 1).all fun d => full0 (102 + d)) = true := by kernel_rfl
theorem fu0_103 : ((List.range 1).all fun d => full0 (103 + d)) = true := by kernel_rfl
theorem fu0_104 : ((List.range 1).all fun d => full0 (104 + d)) = true := by kernel_rfl
theorem fu0_105 : ((List.range 1).all fun d => full0 (105 + d)) = true := by kernel_rfl
theorem fu0_106 : ((List.range 1).all fun d => full0 (106 + d)) = true := by kernel_rfl
theorem fu0_107 : ((List.range 1).all fun d => full0 (107 + d)) = true := by kernel_rfl
theorem fu0_108 : ((List.range 1).all fun d => full0 (108 + d)) = true := by kernel_rfl
theorem fu0_109 : ((List.range 1).all fun d => full0 (109 + d)) = true := by kernel_rfl
theorem fu0_110 : ((List.range 1).all fun d => full0 (110 + d)) = true := by kernel_rfl
theorem fu0_111 : ((List.range 1).all fun d => full0 (111 + d)) = true := by kernel_rfl
theorem fu0_112 : ((List.range 1).all fun d => full0 (112 + d)) = true := by kernel_rfl
theorem fu0_113 : ((List.range 1).all fun d => full0 (113 + d)) = true := by kernel_rfl
theorem fu0_114 : ((List.range 1).all fun d => full0 (114 + d)) = true := by kernel_rfl
theorem fu0_115 : ((List.range 1).all fun d => full0 (115 + d)) = true := by kernel_rfl
theorem fu0_116 : ((List.range 1).all fun d => full0 (116 + d)) = true := by kernel_rfl
theorem fu0_117 : ((List.range 1).all fun d => full0 (117 + d)) = true := by kernel_rfl
theorem fu0_118 : ((List.range 1).all fun d => full0 (118 + d)) = true := by kernel_rfl
theorem fu0_119 : ((List.range 1).all fun d => full0 (119 + d)) = true := by kernel_rfl
theorem fu0_120 : ((List.range 1).all fun d => full0 (120 + d)) = true := by kernel_rfl
theorem fu0_121 : ((List.range 1).all fun d => full0 (121 + d)) = true := by kernel_rfl
theorem fu0_122 : ((List.range 1).all fun d => full0 (122 + d)) = true := by kernel_rfl
theorem fu0_123 : ((List.range 1).all fun d => full0 (123 + d)) = true := by kernel_rfl
theorem fu0_124 : ((List.range 1).all fun d => full0 (124 + d)) = true := by kernel_rfl
theorem fu0_125 : ((List.range 1).all fun d => full0 (125 + d)) = true := by kernel_rfl
theorem fu0_126 : ((List.range 1).all fun d => full0 (126 + d)) = true := by kernel_rfl
theorem fu0_127 : ((List.range 1).all fun d => full0 (127 + d)) = true := by kernel_rfl
theorem fu0_128 : ((List.range 1).all fun d => full0 (128 + d)) = true := by kernel_rfl
theorem fu0_129 : ((List.range 1).all fun d => full0 (129 + d)) = true := by kernel_rfl
theorem fu0_130 : ((List.range 1).all fun d => full0 (130 + d)) = true := by kernel_rfl
theorem fu0_131 : ((List.range 1).all fun d => full0 (131 + d)) = true := by kernel_rfl
theorem fu0_132 : ((List.range 1).all fun d => full0 (132 + d)) = true := by kernel_rfl
theorem fu0_133 : ((List.range 1).all fun d => full0 (133 + d)) = true := by kernel_rfl
theorem fu0_134 : ((List.range 1).all fun d => full0 (134 + d)) = true := by kernel_rfl
theorem fu0_135 : ((List.range 1).all fun d => full0 (135 + d)) = true := by kernel_rfl
theorem fu0_136 : ((List.range 1).all fun d => full0 (136 + d)) = true := by kernel_rfl
theorem fu0_137 : ((List.range 1).all fun d => full0 (137 + d)) = true := by kernel_rfl
theorem fu0_138 : ((List.range 1).all fun d => full0 (138 + d)) = true := by kernel_rfl
theorem fu0_139 : ((List.range 1).all fun d => full0 (139 + d)) = true := by kernel_rfl
theorem fu0_140 : ((List.range 1).all fun d => full0 (140 + d)) = true := by kernel_rfl
theorem fu0_141 : ((List.range 1).all fun d => full0 (141 + d)) = true := by kernel_rfl
theorem fu0_142 : ((List.range 1).all fun d => full0 (142 + d)) = true := by kernel_rfl
theorem fu0_143 : ((List.range 1).all fun d => full0 (143 + d)) = true := by kernel_rfl
theorem fu0_144 : ((List.range 1).all fun d => full0 (144 + d)) = true := by kernel_rfl
theorem fu0_145 : ((List.range 1).all fun d => full0 (145 + d)) = true := by kernel_rfl
theorem fu0_146 : ((List.range 1).all fun d => full0 (146 + d)) = true := by kernel_rfl
theorem fu0_147 : ((List.range 1).all fun d => full0 (147 + d)) = true := by kernel_rfl
theorem fu0_148 : ((List.range 1).all fun d => full0 (148 + d)) = true := by kernel_rfl
theorem fu0_149 : ((List.range 1).all fun d => full0 (149 + d)) = true := by kernel_rfl
theorem fu0_150 : ((List.range 1).all fun d => full0 (150 + d)) = true := by kernel_rfl
theorem fu0_151 : ((List.range 1).all fun d => full0 (151 + d)) = true := by kernel_rfl
theorem fu0_152 : ((List.range 1).all fun d => full0 (152 + d)) = true := by kernel_rfl
theorem fu0_153 : ((List.range 1).all fun d => full0 (153 + d)) = true := by kernel_rfl
theorem fu0_154 : ((List.range 1).all fun d => full0 (154 + d)) = true := by kernel_rfl
theorem fu0_155 : ((List.range 1).all fun d => full0 (155 + d)) = true := by kernel_rfl
theorem fu0_156 : ((List.range 1).all fun d => full0 (156 + d)) = true := by kernel_rfl
theorem fu0_157 : ((List.range 1).all fun d => full0 (157 + d)) = true := by kernel_rfl
theorem fu0_158 : ((List.range 1).all fun d => full0 (158 + d)) = true := by kernel_rfl
theorem fu0_159 : ((List.range 1).all fun d => full0 (159 + d)) = true := by kernel_rfl
theorem fu0_160 : ((List.range 1).all fun d => full0 (160 + d)) = true := by kernel_rfl
theorem fu0_161 : ((List.range 1).all fun d => full0 (161 + d)) = true := by kernel_rfl
theorem fu0_162 : ((List.range 1).all fun d => full0 (162 + d)) = true := by kernel_rfl
theorem fu0_163 : ((List.range 1).all fun d => full0 (163 + d)) = true := by kernel_rfl
theorem fu0_164 : ((List.range 1).all fun d => full0 (164 + d)) = true := by kernel_rfl
theorem fu0_165 : ((List.range 1).all fun d => full0 (165 + d)) = true := by kernel_rfl
theorem fu0_166 : ((List.range 1).all fun d => full0 (166 + d)) = true := by kernel_rfl
theorem fu0_167 : ((List.range 1).all fun d => full0 (167 + d)) = true := by kernel_rfl
theorem fu0_168 : ((List.range 1).all fun d => full0 (168 + d)) = true := by kernel_rfl
theorem fu0_169 : ((List.range 1).all fun d => full0 (169 + d)) = true := by kernel_rfl
theorem fu0_170 : ((List.range 1).all fun d => full0 (170 + d)) = true := by kernel_rfl
theorem fu0_171 : ((List.range 1).all fun d => full0 (171 + d)) = true := by kernel_rfl
theorem fu0_172 : ((List.range 1).all fun d => full0 (172 + d)) = true := by kernel_rfl
theorem fu0_173 : ((List.range 1).all fun d => full0 (173 + d)) = true := by kernel_rfl
theorem fu0_174 : ((List.range 1).all fun d => full0 (174 + d)) = true := by kernel_rfl
theorem fu0_175 : ((List.range 1).all fun d => full0 (175 + d)) = true := by kernel_rfl
theorem fu0_176 : ((List.range 1).all fun d => full0 (176 + d)) = true := by kernel_rfl
theorem fu0_177 : ((List.range 1).all fun d => full0 (177 + d)) = true := by kernel_rfl
theorem fu0_178 : ((List.range 1).all fun d => full0 (178 + d)) = true := by kernel_rfl
theorem fu0_179 : ((List.range 1).all fun d => full0 (179 + d)) = true := by kernel_rfl
theorem fu0_all : ∀ i, i < 180 → full0 i = true := by
  intro i hi
  have hq : i = 1 * (i / 1) + i % 1 := (Nat.div_add_mod i 1).symm
  have hr : i % 1 < 1 := Nat.mod_lt _ (by decide)
  have hd : i / 1 < 180 := by omega
  generalize i / 1 = q at hq hd
  generalize i % 1 = r at hq hr
  subst hq
  match q, hd with
  | 0, _ => exact List.all_eq_true.1 fu0_0 r (List.mem_range.2 (by omega))
  | 1, _ => exact List.all_eq_true.1 fu0_1 r (List.mem_range.2 (by omega))
  | 2, _ => exact List.all_eq_true.1 fu0_2 r (List.mem_range.2 (by omega))
  | 3, _ => exact List.all_eq_true.1 fu0_3 r (List.mem_range.2 (by omega))
  | 4, _ => exact List.all_eq_true.1 fu0_4 r (List.mem_range.2 (by omega))
  | 5, _ => exact List.all_eq_true.1 fu0_5 r (List.mem_range.2 (by omega))
  | 6, _ => exact List.all_eq_true.1 fu0_6 r (List.mem_range.2 (by omega))
  | 7, _ => exact List.all_eq_true.1 fu0_7 r (List.mem_range.2 (by omega))
  | 8, _ => exact List.all_eq_true.1 fu0_8 r (List.mem_range.2 (by omega))
  | 9, _ => exact List.all_eq_true.1 fu0_9 r (List.mem_range.2 (by omega))
  | 10, _ => exact List.all_eq_true.1 fu0_10 r (List.mem_range.2 (by omega))
  | 11, _ => exact List.all_eq_true.1 fu0_11 r (List.mem_range.2 (by omega))
  | 12, _ => exact List.all_eq_true.1 fu0_12 r (List.mem_range.2 (by omega))
  | 13, _ => exact List.all_eq_true.1 fu0_13 r (List.mem_range.2 (by omega))
  | 14, _ => exact List.all_eq_true.1 fu0_14 r (List.mem_range.2 (by omega))
  | 15, _ => exact List.all_eq_true.1 fu0_15 r (List.mem_range.2 (by omega))
  | 16, _ => exact List.all_eq_true.1 fu0_16 r (List.mem_range.2 (by omega))
  | 17, _ => exact List.all_eq_true.1 fu0_17 r (List.mem_range.2 (by omega))
  | 18, _ => exact List.all_eq_true.1 fu0_18 r (List.mem_range.2 (by omega))
  | 19, _ => exact List.all_eq_true.1 fu0_19 r (List.mem_range.2 (by omega))
  | 20, _ => exact List.all_eq_true.1 fu0_20 r (List.mem_range.2 (by omega))
  | 21, _ => exact List.all_eq_true.1 fu0_21 r (List.mem_range.2 (by omega))
  | 22, _ => exact List.all_eq_true.1 fu0_22 r (List.mem_range.2 (by omega))
  | 23, _ => exact List.all_eq_true.1 fu0_23 r (List.mem_range.2 (by omega))
  | 24, _ => exact List.all_eq_true.1 fu0_24 r (List.mem_range.2 (by omega))
  | 25, _ => exact List.all_eq_true.1 fu0_25 r (List.mem_range.2 (by omega))
  | 26, _ => exact List.all_eq_true.1 fu0_26 r (List.mem_range.2 (by omega))
  | 27, _ => exact List.all_eq_true.1 fu0_27 r (List.mem_range.2 (by omega))
  | 28, _ => exact List.all_eq_true.1 fu0_28 r (List.mem_range.2 (by omega))
  | 29, _ => exact List.all_eq_true.1 fu0_29 r (List.mem_range.2 (by omega))
  | 30, _ => exact List.all_eq_true.1 fu0_30 r (List.mem_range.2 (by omega))
  | 31, _ => exact List.all_eq_true.1 fu0_31 r (List.mem_range.2 (by omega))
  | 32, _ => exact List.all_eq_true.1 fu0_32 r (List.mem_range.2 (by omega))
  | 33, _ => exact List.all_eq_true.1 fu0_33 r (List.mem_range.2 (by omega))
  | 34, _ => exact List.all_eq_true.1 fu0_34 r (List.mem_range.2 (by omega))
  | 35, _ => exact List.all_eq_true.1 fu0_35 r (List.mem_range.2 (by omega))
  | 36, _ => exact List.all_eq_true.1 fu0_36 r (List.mem_range.2 (by omega))
  | 37, _ => exact List.all_eq_true.1 fu0_37 r (List.mem_range.2 (by omega))
  | 38, _ => exact List.all_eq_true.1 fu0_38 r (List.mem_range.2 (by omega))
  | 39, _ => exact List.all_eq_true.1 fu0_39 r (List.mem_range.2 (by omega))
  | 40, _ => exact List.all_eq_true.1 fu0_40 r (List.mem_range.2 (by omega))
  | 41, _ => exact List.all_eq_true.1 fu0_41 r (List.mem_range.2 (by omega))
  | 42, _ => exact List.all_eq_true.1 fu0_42 r (List.mem_range.2 (by omega))
  | 43, _ => exact List.all_eq_true.1 fu0_43 r (List.mem_range.2 (by omega))
  | 44, _ => exact List.all_eq_true.1 fu0_44 r (List.mem_range.2 (by omega))
  | 45, _ => exact List.all_eq_true.1 fu0_45 r (List.mem_range.2 (by omega))
  | 46, _ => exact List.all_eq_true.1 fu0_46 r (List.mem_range.2 (by omega))
  | 47, _ => exact List.all_eq_true.1 fu0_47 r (List.mem_range.2 (by omega))
  | 48, _ => exact List.all_eq_true.1 fu0_48 r (List.mem_range.2 (by omega))
  | 49, _ => exact List.all_eq_true.1 fu0_49 r (List.mem_range.2 (by omega))
  | 50, _ => exact List.all_eq_true.1 fu0_50 r (List.mem_range.2 (by omega))
  | 51, _ => exact List.all_eq_true.1 fu0_51 r (List.mem_range.2 (by omega))
  | 52, _ => exact List.all_eq_true.1 fu0_52 r (List.mem_range.2 (by omega))
  | 53, _ => exact List.all_eq_true.1 fu0_53 r (List.mem_range.2 (by omega))
  | 54, _ => exact List.all_eq_true.1 fu0_54 r (List.mem_range.2 (by omega))
  | 55, _ => exact List.all_eq_true.1 fu0_55 r (List.mem_range.2 (by omega))
  | 56, _ => exact List.all_eq_true.1 fu0_56 r (List.mem_range.2 (by omega))
  | 57, _ => exact List.all_eq_true.1 fu0_57 r (List.mem_range.2 (by omega))
  | 58, _ => exact List.all_eq_true.1 fu0_58 r (List.mem_range.2 (by omega))
  | 59, _ => exact List.all_eq_true.1 fu0_59 r (List.mem_range.2 (by omega))
  | 60, _ => exact List.all_eq_true.1 fu0_60 r (List.mem_range.2 (by omega))
  | 61, _ => exact List.all_eq_true.1 fu0_61 r (List.mem_range.2 (by omega))
  | 62, _ => exact List.all_eq_true.1 fu0_62 r (List.mem_range.2 (by omega))
  | 63, _ => exact List.all_eq_true.1 fu0_63 r (List.mem_range.2 (by omega))
  | 64, _ => exact List.all_eq_true.1 fu0_64 r (List.mem_range.2 (by omega))
  | 65, _ => exact List.all_eq_true.1 fu0_65 r (List.mem_range.2 (by omega))
  | 66, _ => exact List.all_eq_true.1 fu0_66 r (List.mem_range.2 (by omega))
  | 67, _ => exact List.all_eq_true.1 fu0_67 r (List.mem_range.2 (by omega))
  | 68, _ => exact List.all_eq_true.1 fu0_68 r (List.mem_range.2 (by omega))
  | 69, _ => exact List.all_eq_true.1 fu0_69 r (List.mem_range.2 (by omega))
  | 70, _ => exact List.all_eq_true.1 fu0_70 r (List.mem_range.2 (by omega))
  | 71, _ => exact List.all_eq_true.1 fu0_71 r (List.mem_range.2 (by omega))
  | 72, _ => exact List.all_eq_true.1 fu0_72 r (List.mem_range.2 (by omega))
  | 73, _ => exact List.all_eq_true.1 fu0_73 r (List.mem_range.2 (by omega))
  | 74, _ => exact List.all_eq_true.1 fu0_74 r (List.mem_range.2 (by omega))
  | 75, _ => exact List.all_eq_true.1 fu0_75 r (List.mem_range.2 (by omega))
  | 76, _ => exact List.all_eq_true.1 fu0_76 r (List.mem_range.2 (by omega))
  | 77, _ => exact List.all_eq_true.1 fu0_77 r (List.mem_range.2 (by omega))
  | 78, _ => exact List.all_eq_true.1 fu0_78 r (List.mem_range.2 (by omega))
  | 79, _ => exact List.all_eq_true.1 fu0_79 r (List.mem_range.2 (by omega))
  | 80, _ => exact List.all_eq_true.1 fu0_80 r (List.mem_range.2 (by omega))
  | 81, _ => exact List.all_eq_true.1 fu0_81 r (List.mem_range.2 (by omega))
  | 82, _ => exact List.all_eq_true.1 fu0_82 r (List.mem_range.2 (by omega))
  | 83, _ => exact List.all_eq_true.1 fu0_83 r (List.mem_range.2 (by omega))
  | 84, _ => exact List.all_eq_true.1 fu0_84 r (List.mem_range.2 (by omega))
  | 85, _ => exact List.all_eq_true.1 fu0_85 r (List.mem_range.2 (by omega))
  | 86, _ => exact List.all_eq_true.1 fu0_86 r (List.mem_range.2 (by omega))
  | 87, _ => exact List.all_eq_true.1 fu0_87 r (List.mem_range.2 (by omega))
  | 88, _ => exact List.all_eq_true.1 fu0_88 r (List.mem_range.2 (by omega))
  | 89, _ => exact List.all_eq_true.1 fu0_89 r (List.mem_range.2 (by omega))
  | 90, _ => exact List.all_eq_true.1 fu0_90 r (List.mem_range.2 (by omega))
  | 91, _ => exact List.all_eq_true.1 fu0_91 r (List.mem_range.2 (by omega))
  | 92, _ => exact List.all_eq_true.1 fu0_92 r (List.mem_range.2 (by omega))
  | 93, _ => exact List.all_eq_true.1 fu0_93 r (List.mem_range.2 (by omega))
  | 94, _ => exact List.all_eq_true.1 fu0_94 r (List.mem_range.2 (by omega))
  | 95, _ => exact List.all_eq_true.1 fu0_95 r (List.mem_range.2 (by omega))
  | 96, _ => exact List.all_eq_true.1 fu0_96 r (List.mem_range.2 (by omega))
  | 97, _ => exact List.all_eq_true.1 fu0_97 r (List.mem_range.2 (by omega))
  | 98, _ => exact List.all_eq_true.1 fu0_98 r (List.mem_range.2 (by omega))
  | 99, _ => exact List.all_eq_true.1 fu0_99 r (List.mem_range.2 (by omega))
  | 100, _ => exact List.all_eq_true.1 fu0_100 r (List.mem_range.2 (by omega))
  | 101, _ => exact List.all_eq_true.1 fu0_101 r (List.mem_range.2 (by omega))
  | 102, _ => exact List.all_eq_true.1 fu0_102 r (List.mem_range.2 (by omega))
  | 103, _ => exact List.all_eq_true.1 fu0_103 r (List.mem_range.2 (by omega))
  | 104, _ => exact List.all_eq_true.1 fu0_104 r (List.mem_range.2 (by omega))
  | 105, _ => exact List.all_eq_true.1 fu0_105 r (List.mem_range.2 (by omega))
  | 106, _ => exact List.all_eq_true.1 fu0_106 r (List.mem_range.2 (by omega))
  | 107, _ => exact List.all_eq_true.1 fu0_107 r (List.mem_range.2 (by omega))
  | 108, _ => exact List.all_eq_true.1 fu0_108 r (List.mem_range.2 (by omega))
  | 109, _ => exact List.all_eq_true.1 fu0_109 r (List.mem_range.2 (by omega))
  | 110, _ => exact List.all_eq_true.1 fu0_110 r (List.mem_range.2 (by omega))
  | 111, _ => exact List.all_eq_true.1 fu0_111 r (List.mem_range.2 (by omega))
  | 112, _ => exact List.all_eq_true.1 fu0_112 r (List.mem_range.2 (by omega))
  | 113, _ => exact List.all_eq_true.1 fu0_113 r (List.mem_range.2 (by omega))
  | 114, _ => exact List.all_eq_true.1 fu0_114 r (List.mem_range.2 (by omega))
  | 115, _ => exact List.all_eq_true.1 fu0_115 r (List.mem_range.2 (by omega))
  | 116, _ => exact List.all_eq_true.1 fu0_116 r (List.mem_range.2 (by omega))
  | 117, _ => exact List.all_eq_true.1 fu0_117 r (List.mem_range.2 (by omega))
  | 118, _ => exact List.all_eq_true.1 fu0_118 r (List.mem_range.2 (by omega))
  | 119, _ => exact List.all_eq_true.1 fu0_119 r (List.mem_range.2 (by omega))
  | 120, _ => exact List.all_eq_true.1 fu0_120 r (List.mem_range.2 (by omega))
  | 121, _ => exact List.all_eq_true.1 fu0_121 r (List.mem_range.2 (by omega))
  | 122, _ => exact List.all_eq_true.1 fu0_122 r (List.mem_range.2 (by omega))
  | 123, _ => exact List.all_eq_true.1 fu0_123 r (List.mem_range.2 (by omega))
  | 124, _ => exact List.all_eq_true.1 fu0_124 r (List.mem_range.2 (by omega))
  | 125, _ => exact List.all_eq_true.1 fu0_125 r (List.mem_range.2 (by omega))
  | 126, _ => exact List.all_eq_true.1 fu0_126 r (List.mem_range.2 (by omega))
  | 127, _ => exact List.all_eq_true.1 fu0_127 r (List.mem_range.2 (by omega))
  | 128, _ => exact List.all_eq_true.1 fu0_128 r (List.mem_range.2 (by omega))
  | 129, _ => exact List.all_eq_true.1 fu0_129 r (List.mem_range.2 (by omega))
  | 130, _ => exact List.all_eq_true.1 fu0_130 r (List.mem_range.2 (by omega))
  | 131, _ => exact List.all_eq_true.1 fu0_131 r (List.mem_range.2 (by omega))
  | 132, _ => exact List.all_eq_true.1 fu0_132 r (List.mem_range.2 (by omega))
  | 133, _ => exact List.all_eq_true.1 fu0_133 r (List.mem_range.2 (by omega))
  | 134, _ => exact List.all_eq_true.1 fu0_134 r (List.mem_range.2 (by omega))
  | 135, _ => exact List.all_eq_true.1 fu0_135 r (List.mem_range.2 (by omega))
  | 136, _ => exact List.all_eq_true.1 fu0_136 r (List.mem_range.2 (by omega))
  | 137, _ => exact List.all_eq_true.1 fu0_137 r (List.mem_range.2 (by omega))
  | 138, _ => exact List.all_eq_true.1 fu0_138 r (List.mem_range.2 (by omega))
  | 139, _ => exact List.all_eq_true.1 fu0_139 r (List.mem_range.2 (by omega))
  | 140, _ => exact List.all_eq_true.1 fu0_140 r (List.mem_range.2 (by omega))
  | 141, _ => exact List.all_eq_true.1 fu0_141 r (List.mem_range.2 (by omega))
  | 142, _ => exact List.all_eq_true.1 fu0_142 r (List.mem_range.2 (by omega))
  | 143, _ => exact List.all_eq_true.1 fu0_143 r (List.mem_range.2 (by omega))
  | 144, _ => exact List.all_eq_true.1 fu0_144 r (List.mem_range.2 (by omega))
  | 145, _ => exact List.all_eq_true.1 fu0_145 r (List.mem_range.2 (by omega))
  | 146, _ => exact List.all_eq_true.1 fu0_146 r (List.mem_range.2 (by omega))
  | 147, _ => exact List.all_eq_true.1 fu0_147 r (List.mem_range.2 (by omega))
  | 148, _ => exact List.all_eq_true.1 fu0_148 r (List.mem_range.2 (by omega))
  | 149, _ => exact List.all_eq_true.1 fu0_149 r (List.mem_range.2 (by omega))
  | 150, _ => exact List.all_eq_true.1 fu0_150 r (List.mem_range.2 (by omega))
  | 151, _ => exact List.all_eq_true.1 fu0_151 r (List.mem_range.2 (by omega))
  | 152, _ => exact List.all_eq_true.1 fu0_152 r (List.mem_range.2 (by omega))
  | 153, _ => exact List.all_eq_true.1 fu0_153 r (List.mem_range.2 (by omega))
  | 154, _ => exact List.all_eq_true.1 fu0_154 r (List.mem_range.2 (by omega))
  | 155, _ => exact List.all_eq_true.1 fu0_155 r (List.mem_range.2 (by omega))
  | 156, _ => exact List.all_eq_true.1 fu0_156 r (List.mem_range.2 (by omega))
  | 157, _ => exact List.all_eq_true.1 fu0_157 r (List.mem_range.2 (by omega))
  | 158, _ => exact List.all_eq_true.1 fu0_158 r (List.mem_range.2 (by omega))
  | 159, _ => exact List.all_eq_true.1 fu0_159 r (List.mem_range.2 (by omega))
  | 160, _ => exact List.all_eq_true.1 fu0_160 r (List.mem_range.2 (by omega))
  | 161, _ => exact List.all_eq_true.1 fu0_161 r (List.mem_range.2 (by omega))
  | 162, _ => exact List.all_eq_true.1 fu0_162 r (List.mem_range.2 (by omega))
  | 163, _ => exact List.all_eq_true.1 fu0_163 r (List.mem_range.2 (by omega))
  | 164, _ => exact List.all_eq_true.1 fu0_164 r (List.mem_range.2 (by omega))
  | 165, _ => exact List.all_eq_true.1 fu0_165 r (List.mem_range.2 (by omega))
  | 166, _ => exact List.all_eq_true.1 fu0_166 r (List.mem_range.2 (by omega))
  | 167, _ => exact List.all_eq_true.1 fu0_167 r (List.mem_range.2 (by omega))
  | 168, _ => exact List.all_eq_true.1 fu0_168 r (List.mem_range.2 (by omega))
  | 169, _ => exact List.all_eq_true.1 fu0_169 r (List.mem_range.2 (by omega))
  | 170, _ => exact List.all_eq_true.1 fu0_170 r (List.mem_range.2 (by omega))
  | 171, _ => exact List.all_eq_true.1 fu0_171 r (List.mem_range.2 (by omega))
  | 172, _ => exact List.all_eq_true.1 fu0_172 r (List.mem_range.2 (by omega))
  | 173, _ => exact List.all_eq_true.1 fu0_173 r (List.mem_range.2 (by omega))
  | 174, _ => exact List.all_eq_true.1 fu0_174 r (List.mem_range.2 (by omega))
  | 175, _ => exact List.all_eq_true.1 fu0_175 r (List.mem_range.2 (by omega))
  | 176, _ => exact List.all_eq_true.1 fu0_176 r (List.mem_range.2 (by omega))
  | 177, _ => exact List.all_eq_true.1 fu0_177 r (List.mem_range.2 (by omega))
  | 178, _ => exact List.all_eq_true.1 fu0_178 r (List.mem_range.2 (by omega))
  | 179, _ => exact List.all_eq_true.1 fu0_179 r (List.mem_range.2 (by omega))
  | q + 180, h => exact absurd h (by omega)
end Go.Proofs.YtinopjbpjopdcaaGreatDoor.PF
