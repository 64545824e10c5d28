import Derived.Test.YtinopjbpjopdcaaGreatDoorUserWalkBase
/-! UserWalk: rounds of the first loop. -/
namespace Go.Proofs.YtinopjbpjopdcaaGreatDoor.UW
open Go.Ev Go.Ev.Pg Go.Ev.UW
set_option linter.unusedVariables false
set_option linter.unusedSimpArgs false
theorem ra_0 : ((List.range 1).all fun d => rnds1 (0 + d)) = true := by kernel_rfl
theorem ra_1 : ((List.range 1).all fun d => rnds1 (1 + d)) = true := by kernel_rfl
theorem ra_2 : ((List.range 1).all fun d => rnds1 (2 + d)) = true := by kernel_rfl
theorem ra_3 : ((List.range 1).all fun d => rnds1 (3 + d)) = true := by kernel_rfl
theorem ra_4 : ((List.range 1).all fun d => rnds1 (4 + d)) = true := by kernel_rfl
theorem ra_5 : ((List.range 1).all fun d => rnds1 (5 + d)) = true := by kernel_rfl
theorem ra_6 : ((List.range 1).all fun d => rnds1 (6 + d)) = true := by kernel_rfl
theorem ra_7 : ((List.range 1).all fun d => rnds1 (7 + d)) = true := by kernel_rfl
theorem ra_8 : ((List.range 1).all fun d => rnds1 (8 + d)) = true := by kernel_rfl
theorem ra_9 : ((List.range 1).all fun d => rnds1 (9 + d)) = true := by kernel_rfl
theorem ra_10 : ((List.range 1).all fun d => rnds1 (10 + d)) = true := by kernel_rfl
theorem ra_11 : ((List.range 1).all fun d => rnds1 (11 + d)) = true := by kernel_rfl
theorem ra_12 : ((List.range 1).all fun d => rnds1 (12 + d)) = true := by kernel_rfl
theorem ra_13 : ((List.range 1).all fun d => rnds1 (13 + d)) = true := by kernel_rfl
theorem ra_14 : ((List.range 1).all fun d => rnds1 (14 + d)) = true := by kernel_rfl
theorem ra_15 : ((List.range 1).all fun d => rnds1 (15 + d)) = true := by kernel_rfl
theorem ra_16 : ((List.range 1).all fun d => rnds1 (16 + d)) = true := by kernel_rfl
theorem ra_17 : ((List.range 1).all fun d => rnds1 (17 + d)) = true := by kernel_rfl
theorem ra_18 : ((List.range 1).all fun d => rnds1 (18 + d)) = true := by kernel_rfl
theorem ra_19 : ((List.range 1).all fun d => rnds1 (19 + d)) = true := by kernel_rfl
theorem ra_20 : ((List.range 1).all fun d => rnds1 (20 + d)) = true := by kernel_rfl
theorem ra_21 : ((List.range 1).all fun d => rnds1 (21 + d)) = true := by kernel_rfl
theorem ra_22 : ((List.range 1).all fun d => rnds1 (22 + d)) = true := by kernel_rfl
theorem ra_23 : ((List.range 1).all fun d => rnds1 (23 + d)) = true := by kernel_rfl
theorem ra_24 : ((List.range 1).all fun d => rnds1 (24 + d)) = true := by kernel_rfl
theorem ra_25 : ((List.range 1).all fun d => rnds1 (25 + d)) = true := by kernel_rfl
theorem ra_26 : ((List.range 1).all fun d => rnds1 (26 + d)) = true := by kernel_rfl
theorem ra_27 : ((List.range 1).all fun d => rnds1 (27 + d)) = true := by kernel_rfl
theorem ra_28 : ((List.range 1).all fun d => rnds1 (28 + d)) = true := by kernel_rfl
theorem ra_29 : ((List.range 1).all fun d => rnds1 (29 + d)) = true := by kernel_rfl
theorem ra_30 : ((List.range 1).all fun d => rnds1 (30 + d)) = true := by kernel_rfl
theorem ra_31 : ((List.range 1).all fun d => rnds1 (31 + d)) = true := by kernel_rfl
theorem ra_32 : ((List.range 1).all fun d => rnds1 (32 + d)) = true := by kernel_rfl
theorem ra_33 : ((List.range 1).all fun d => rnds1 (33 + d)) = true := by kernel_rfl
theorem ra_34 : ((List.range 1).all fun d => rnds1 (34 + d)) = true := by kernel_rfl
theorem ra_35 : ((List.range 1).all fun d => rnds1 (35 + d)) = true := by kernel_rfl
theorem ra_36 : ((List.range 1).all fun d => rnds1 (36 + d)) = true := by kernel_rfl
theorem ra_37 : ((List.range 1).all fun d => rnds1 (37 + d)) = true := by kernel_rfl
theorem ra_38 : ((List.range 1).all fun d => rnds1 (38 + d)) = true := by kernel_rfl
theorem ra_39 : ((List.range 1).all fun d => rnds1 (39 + d)) = true := by kernel_rfl
theorem ra_40 : ((List.range 1).all fun d => rnds1 (40 + d)) = true := by kernel_rfl
theorem ra_41 : ((List.range 1).all fun d => rnds1 (41 + d)) = true := by kernel_rfl
theorem ra_42 : ((List.range 1).all fun d => rnds1 (42 + d)) = true := by kernel_rfl
theorem ra_43 : ((List.range 1).all fun d => rnds1 (43 + d)) = true := by kernel_rfl
theorem ra_44 : ((List.range 1).all fun d => rnds1 (44 + d)) = true := by kernel_rfl
theorem ra_45 : ((List.range 1).all fun d => rnds1 (45 + d)) = true := by kernel_rfl
theorem ra_46 : ((List.range 1).all fun d => rnds1 (46 + d)) = true := by kernel_rfl
theorem ra_47 : ((List.range 1).all fun d => rnds1 (47 + d)) = true := by kernel_rfl
theorem ra_48 : ((List.range 1).all fun d => rnds1 (48 + d)) = true := by kernel_rfl
theorem ra_49 : ((List.range 1).all fun d => rnds1 (49 + d)) = true := by kernel_rfl
theorem ra_50 : ((List.range 1).all fun d => rnds1 (50 + d)) = true := by kernel_rfl
theorem ra_51 : ((List.range 1).all fun d => rnds1 (51 + d)) = true := by kernel_rfl
theorem ra_52 : ((List.range 1).all fun d => rnds1 (52 + d)) = true := by kernel_rfl
theorem ra_53 : ((List.range 1).all fun d => rnds1 (53 + d)) = true := by kernel_rfl
theorem ra_54 : ((List.range 1).all fun d => rnds1 (54 + d)) = true := by kernel_rfl
theorem ra_55 : ((List.range 1).all fun d => rnds1 (55 + d)) = true := by kernel_rfl
theorem ra_56 : ((List.range 1).all fun d => rnds1 (56 + d)) = true := by kernel_rfl
theorem ra_57 : ((List.range 1).all fun d => rnds1 (57 + d)) = true := by kernel_rfl
theorem ra_58 : ((List.range 1).all fun d => rnds1 (58 + d)) = true := by kernel_rfl
theorem ra_59 : ((List.range 1).all fun d => rnds1 (59 + d)) = true := by kernel_rfl
theorem ra_60 : ((List.range 1).all fun d => rnds1 (60 + d)) = true := by kernel_rfl
theorem ra_61 : ((List.range 1).all fun d => rnds1 (61 + d)) = true := by kernel_rfl
theorem ra_62 : ((List.range 1).all fun d => rnds1 (62 + d)) = true := by kernel_rfl
theorem ra_63 : ((List.range 1).all fun d => rnds1 (63 + d)) = true := by kernel_rfl
theorem ra_64 : ((List.range 1).all fun d => rnds1 (64 + d)) = true := by kernel_rfl
theorem ra_65 : ((List.range 1).all fun d => rnds1 (65 + d)) = true := by kernel_rfl
theorem ra_66 : ((List.range 1).all fun d => rnds1 (66 + d)) = true := by kernel_rfl
theorem ra_67 : ((List.range 1).all fun d => rnds1 (67 + d)) = true := by kernel_rfl
theorem ra_68 : ((List.range 1).all fun d => rnds1 (68 + d)) = true := by kernel_rfl
theorem ra_69 : ((List.range 1).all fun d => rnds1 (69 + d)) = true := by kernel_rfl
theorem ra_70 : ((List.range 1).all fun d => rnds1 (70 + d)) = true := by kernel_rfl
theorem ra_71 : ((List.range 1).all fun d => rnds1 (71 + d)) = true := by kernel_rfl
theorem ra_72 : ((List.range 1).all fun d => rnds1 (72 + d)) = true := by kernel_rfl
theorem ra_73 : ((List.range 1).all fun d => rnds1 (73 + d)) = true := by kernel_rfl
theorem ra_74 : ((List.range 1).all fun d => rnds1 (74 + d)) = true := by kernel_rfl
theorem ra_75 : ((List.range 1).all fun d => rnds1 (75 + d)) = true := by kernel_rfl
theorem ra_76 : ((List.range 1).all fun d => rnds1 (76 + d)) = true := by kernel_rfl
theorem ra_77 : ((List.range 1).all fun d => rnds1 (77 + d)) = true := by kernel_rfl
theorem ra_78 : ((List.range 1).all fun d => rnds1 (78 + d)) = true := by kernel_rfl
theorem ra_79 : ((List.range 1).all fun d => rnds1 (79 + d)) = true := by kernel_rfl
theorem ra_80 : ((List.range 1).all fun d => rnds1 (80 + d)) = true := by kernel_rfl
theorem ra_81 : ((List.range 1).all fun d => rnds1 (81 + d)) = true := by kernel_rfl
theorem ra_82 : ((List.range 1).all fun d => rnds1 (82 + d)) = true := by kernel_rfl
theorem ra_83 : ((List.range 1).all fun d => rnds1 (83 + d)) = true := by kernel_rfl
theorem ra_84 : ((List.range 1).all fun d => rnds1 (84 + d)) = true := by kernel_rfl
theorem ra_85 : ((List.range 1).all fun d => rnds1 (85 + d)) = true := by kernel_rfl
theorem ra_86 : ((List.range 1).all fun d => rnds1 (86 + d)) = true := by kernel_rfl
theorem ra_87 : ((List.range 1).all fun d => rnds1 (87 + d)) = true := by kernel_rfl
theorem ra_88 : ((List.range 1).all fun d => rnds1 (88 + d)) = true := by kernel_rfl
theorem ra_89 : ((List.range 1).all fun d => rnds1 (89 + d)) = true := by kernel_rfl
theorem ra_90 : ((List.range 1).all fun d => rnds1 (90 + d)) = true := by kernel_rfl
theorem ra_91 : ((List.range 1).all fun d => rnds1 (91 + d)) = true := by kernel_rfl
theorem ra_92 : ((List.range 1).all fun d => rnds1 (92 + d)) = true := by kernel_rfl
theorem ra_93 : ((List.range 1).all fun d => rnds1 (93 + d)) = true := by kernel_rfl
theorem ra_94 : ((List.range 1).all fun d => rnds1 (94 + d)) = true := by kernel_rfl
theorem ra_95 : ((List.range 1).all fun d => rnds1 (95 + d)) = true := by kernel_rfl
theorem ra_all : ∀ i, i < 96 → rnds1 i = true := by
  intro i hi
  have hq : i = 1 * (i / 1) + i % 1 := (Nat.div_add_mod i 1).symm
  have hr : i % 1 < 1 := Nat.mod_lt _ (by decide)
  have hd : i / 1 < 96 := by omega
  generalize i / 1 = q at hq hd
  generalize i % 1 = r at hq hr
  subst hq
  match q, hd with
  | 0, _ => exact List.all_eq_true.1 ra_0 r (List.mem_range.2 (by omega))
  | 1, _ => exact List.all_eq_true.1 ra_1 r (List.mem_range.2 (by omega))
  | 2, _ => exact List.all_eq_true.1 ra_2 r (List.mem_range.2 (by omega))
  | 3, _ => exact List.all_eq_true.1 ra_3 r (List.mem_range.2 (by omega))
  | 4, _ => exact List.all_eq_true.1 ra_4 r (List.mem_range.2 (by omega))
  | 5, _ => exact List.all_eq_true.1 ra_5 r (List.mem_range.2 (by omega))
  | 6, _ => exact List.all_eq_true.1 ra_6 r (List.mem_range.2 (by omega))
  | 7, _ => exact List.all_eq_true.1 ra_7 r (List.mem_range.2 (by omega))
  | 8, _ => exact List.all_eq_true.1 ra_8 r (List.mem_range.2 (by omega))
  | 9, _ => exact List.all_eq_true.1 ra_9 r (List.mem_range.2 (by omega))
  | 10, _ => exact List.all_eq_true.1 ra_10 r (List.mem_range.2 (by omega))
  | 11, _ => exact List.all_eq_true.1 ra_11 r (List.mem_range.2 (by omega))
  | 12, _ => exact List.all_eq_true.1 ra_12 r (List.mem_range.2 (by omega))
  | 13, _ => exact List.all_eq_true.1 ra_13 r (List.mem_range.2 (by omega))
  | 14, _ => exact List.all_eq_true.1 ra_14 r (List.mem_range.2 (by omega))
  | 15, _ => exact List.all_eq_true.1 ra_15 r (List.mem_range.2 (by omega))
  | 16, _ => exact List.all_eq_true.1 ra_16 r (List.mem_range.2 (by omega))
  | 17, _ => exact List.all_eq_true.1 ra_17 r (List.mem_range.2 (by omega))
  | 18, _ => exact List.all_eq_true.1 ra_18 r (List.mem_range.2 (by omega))
  | 19, _ => exact List.all_eq_true.1 ra_19 r (List.mem_range.2 (by omega))
  | 20, _ => exact List.all_eq_true.1 ra_20 r (List.mem_range.2 (by omega))
  | 21, _ => exact List.all_eq_true.1 ra_21 r (List.mem_range.2 (by omega))
  | 22, _ => exact List.all_eq_true.1 ra_22 r (List.mem_range.2 (by omega))
  | 23, _ => exact List.all_eq_true.1 ra_23 r (List.mem_range.2 (by omega))
  | 24, _ => exact List.all_eq_true.1 ra_24 r (List.mem_range.2 (by omega))
  | 25, _ => exact List.all_eq_true.1 ra_25 r (List.mem_range.2 (by omega))
  | 26, _ => exact List.all_eq_true.1 ra_26 r (List.mem_range.2 (by omega))
  | 27, _ => exact List.all_eq_true.1 ra_27 r (List.mem_range.2 (by omega))
  | 28, _ => exact List.all_eq_true.1 ra_28 r (List.mem_range.2 (by omega))
  | 29, _ => exact List.all_eq_true.1 ra_29 r (List.mem_range.2 (by omega))
  | 30, _ => exact List.all_eq_true.1 ra_30 r (List.mem_range.2 (by omega))
  | 31, _ => exact List.all_eq_true.1 ra_31 r (List.mem_range.2 (by omega))
  | 32, _ => exact List.all_eq_true.1 ra_32 r (List.mem_range.2 (by omega))
  | 33, _ => exact List.all_eq_true.1 ra_33 r (List.mem_range.2 (by omega))
  | 34, _ => exact List.all_eq_true.1 ra_34 r (List.mem_range.2 (by omega))
  | 35, _ => exact List.all_eq_true.1 ra_35 r (List.mem_range.2 (by omega))
  | 36, _ => exact List.all_eq_true.1 ra_36 r (List.mem_range.2 (by omega))
  | 37, _ => exact List.all_eq_true.1 ra_37 r (List.mem_range.2 (by omega))
  | 38, _ => exact List.all_eq_true.1 ra_38 r (List.mem_range.2 (by omega))
  | 39, _ => exact List.all_eq_true.1 ra_39 r (List.mem_range.2 (by omega))
  | 40, _ => exact List.all_eq_true.1 ra_40 r (List.mem_range.2 (by omega))
  | 41, _ => exact List.all_eq_true.1 ra_41 r (List.mem_range.2 (by omega))
  | 42, _ => exact List.all_eq_true.1 ra_42 r (List.mem_range.2 (by omega))
  | 43, _ => exact List.all_eq_true.1 ra_43 r (List.mem_range.2 (by omega))
  | 44, _ => exact List.all_eq_true.1 ra_44 r (List.mem_range.2 (by omega))
  | 45, _ => exact List.all_eq_true.1 ra_45 r (List.mem_range.2 (by omega))
  | 46, _ => exact List.all_eq_true.1 ra_46 r (List.mem_range.2 (by omega))
  | 47, _ => exact List.all_eq_true.1 ra_47 r (List.mem_range.2 (by omega))
  | 48, _ => exact List.all_eq_true.1 ra_48 r (List.mem_range.2 (by omega))
  | 49, _ => exact List.all_eq_true.1 ra_49 r (List.mem_range.2 (by omega))
  | 50, _ => exact List.all_eq_true.1 ra_50 r (List.mem_range.2 (by omega))
  | 51, _ => exact List.all_eq_true.1 ra_51 r (List.mem_range.2 (by omega))
  | 52, _ => exact List.all_eq_true.1 ra_52 r (List.mem_range.2 (by omega))
  | 53, _ => exact List.all_eq_true.1 ra_53 r (List.mem_range.2 (by omega))
  | 54, _ => exact List.all_eq_true.1 ra_54 r (List.mem_range.2 (by omega))
  | 55, _ => exact List.all_eq_true.1 ra_55 r (List.mem_range.2 (by omega))
  | 56, _ => exact List.all_eq_true.1 ra_56 r (List.mem_range.2 (by omega))
  | 57, _ => exact List.all_eq_true.1 ra_57 r (List.mem_range.2 (by omega))
  | 58, _ => exact List.all_eq_true.1 ra_58 r (List.mem_range.2 (by omega))
  | 59, _ => exact List.all_eq_true.1 ra_59 r (List.mem_range.2 (by omega))
  | 60, _ => exact List.all_eq_true.1 ra_60 r (List.mem_range.2 (by omega))
  | 61, _ => exact List.all_eq_true.1 ra_61 r (List.mem_range.2 (by omega))
  | 62, _ => exact List.all_eq_true.1 ra_62 r (List.mem_range.2 (by omega))
  | 63, _ => exact List.all_eq_true.1 ra_63 r (List.mem_range.2 (by omega))
  | 64, _ => exact List.all_eq_true.1 ra_64 r (List.mem_range.2 (by omega))
  | 65, _ => exact List.all_eq_true.1 ra_65 r (List.mem_range.2 (by omega))
  | 66, _ => exact List.all_eq_true.1 ra_66 r (List.mem_range.2 (by omega))
  | 67, _ => exact List.all_eq_true.1 ra_67 r (List.mem_range.2 (by omega))
  | 68, _ => exact List.all_eq_true.1 ra_68 r (List.mem_range.2 (by omega))
  | 69, _ => exact List.all_eq_true.1 ra_69 r (List.mem_range.2 (by omega))
  | 70, _ => exact List.all_eq_true.1 ra_70 r (List.mem_range.2 (by omega))
  | 71, _ => exact List.all_eq_true.1 ra_71 r (List.mem_range.2 (by omega))
  | 72, _ => exact List.all_eq_true.1 ra_72 r (List.mem_range.2 (by omega))
  | 73, _ => exact List.all_eq_true.1 ra_73 r (List.mem_range.2 (by omega))
  | 74, _ => exact List.all_eq_true.1 ra_74 r (List.mem_range.2 (by omega))
  | 75, _ => exact List.all_eq_true.1 ra_75 r (List.mem_range.2 (by omega))
  | 76, _ => exact List.all_eq_true.1 ra_76 r (List.mem_range.2 (by omega))
  | 77, _ => exact List.all_eq_true.1 ra_77 r (List.mem_range.2 (by omega))
  | 78, _ => exact List.all_eq_true.1 ra_78 r (List.mem_range.2 (by omega))
  | 79, _ => exact List.all_eq_true.1 ra_79 r (List.mem_range.2 (by omega))
  | 80, _ => exact List.all_eq_true.1 ra_80 r (List.mem_range.2 (by omega))
  | 81, _ => exact List.all_eq_true.1 ra_81 r (List.mem_range.2 (by omega))
  | 82, _ => exact List.all_eq_true.1 ra_82 r (List.mem_range.2 (by omega))
  | 83, _ => exact List.all_eq_true.1 ra_83 r (List.mem_range.2 (by omega))
  | 84, _ => exact List.all_eq_true.1 ra_84 r (List.mem_range.2 (by omega))
  | 85, _ => exact List.all_eq_true.1 ra_85 r (List.mem_range.2 (by omega))
  | 86, _ => exact List.all_eq_true.1 ra_86 r (List.mem_range.2 (by omega))
  | 87, _ => exact List.all_eq_true.1 ra_87 r (List.mem_range.2 (by omega))
  | 88, _ => exact List.all_eq_true.1 ra_88 r (List.mem_range.2 (by omega))
  | 89, _ => exact List.all_eq_true.1 ra_89 r (List.mem_range.2 (by omega))
  | 90, _ => exact List.all_eq_true.1 ra_90 r (List.mem_range.2 (by omega))
  | 91, _ => exact List.all_eq_true.1 ra_91 r (List.mem_range.2 (by omega))
  | 92, _ => exact List.all_eq_true.1 ra_92 r (List.mem_range.2 (by omega))
  | 93, _ => exact List.all_eq_true.1 ra_93 r (List.mem_range.2 (by omega))
  | 94, _ => exact List.all_eq_true.1 ra_94 r (List.mem_range.2 (by omega))
  | 95, _ => exact List.all_eq_true.1 ra_95 r (List.mem_range.2 (by omega))
  | q + 96, h => exact absurd h (by omega)
end Go.Proofs.YtinopjbpjopdcaaGreatDoor.UW
