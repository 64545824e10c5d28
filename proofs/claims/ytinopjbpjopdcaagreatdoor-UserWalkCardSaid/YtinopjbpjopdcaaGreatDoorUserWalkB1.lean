import Derived.Test.YtinopjbpjopdcaaGreatDoorUserWalkBase
/-! UserWalk: behind the loops. -/
namespace Go.Proofs.YtinopjbpjopdcaaGreatDoor.UW
open Go.Ev Go.Ev.Pg Go.Ev.UW
set_option linter.unusedVariables false
set_option linter.unusedSimpArgs false
noncomputable def fs1 (i : Nat) : Bool := fins (54 + i)
theorem fa1_0 : ((List.range 1).all fun d => fs1 (0 + d)) = true := by kernel_rfl
theorem fa1_1 : ((List.range 1).all fun d => fs1 (1 + d)) = true := by kernel_rfl
theorem fa1_2 : ((List.range 1).all fun d => fs1 (2 + d)) = true := by kernel_rfl
theorem fa1_3 : ((List.range 1).all fun d => fs1 (3 + d)) = true := by kernel_rfl
theorem fa1_4 : ((List.range 1).all fun d => fs1 (4 + d)) = true := by kernel_rfl
theorem fa1_5 : ((List.range 1).all fun d => fs1 (5 + d)) = true := by kernel_rfl
theorem fa1_6 : ((List.range 1).all fun d => fs1 (6 + d)) = true := by kernel_rfl
theorem fa1_7 : ((List.range 1).all fun d => fs1 (7 + d)) = true := by kernel_rfl
theorem fa1_8 : ((List.range 1).all fun d => fs1 (8 + d)) = true := by kernel_rfl
theorem fa1_9 : ((List.range 1).all fun d => fs1 (9 + d)) = true := by kernel_rfl
theorem fa1_10 : ((List.range 1).all fun d => fs1 (10 + d)) = true := by kernel_rfl
theorem fa1_11 : ((List.range 1).all fun d => fs1 (11 + d)) = true := by kernel_rfl
theorem fa1_12 : ((List.range 1).all fun d => fs1 (12 + d)) = true := by kernel_rfl
theorem fa1_13 : ((List.range 1).all fun d => fs1 (13 + d)) = true := by kernel_rfl
theorem fa1_14 : ((List.range 1).all fun d => fs1 (14 + d)) = true := by kernel_rfl
theorem fa1_15 : ((List.range 1).all fun d => fs1 (15 + d)) = true := by kernel_rfl
theorem fa1_16 : ((List.range 1).all fun d => fs1 (16 + d)) = true := by kernel_rfl
theorem fa1_17 : ((List.range 1).all fun d => fs1 (17 + d)) = true := by kernel_rfl
theorem fa1_18 : ((List.range 1).all fun d => fs1 (18 + d)) = true := by kernel_rfl
theorem fa1_19 : ((List.range 1).all fun d => fs1 (19 + d)) = true := by kernel_rfl
theorem fa1_20 : ((List.range 1).all fun d => fs1 (20 + d)) = true := by kernel_rfl
theorem fa1_21 : ((List.range 1).all fun d => fs1 (21 + d)) = true := by kernel_rfl
theorem fa1_22 : ((List.range 1).all fun d => fs1 (22 + d)) = true := by kernel_rfl
theorem fa1_23 : ((List.range 1).all fun d => fs1 (23 + d)) = true := by kernel_rfl
theorem fa1_24 : ((List.range 1).all fun d => fs1 (24 + d)) = true := by kernel_rfl
theorem fa1_25 : ((List.range 1).all fun d => fs1 (25 + d)) = true := by kernel_rfl
theorem fa1_26 : ((List.range 1).all fun d => fs1 (26 + d)) = true := by kernel_rfl
theorem fa1_27 : ((List.range 1).all fun d => fs1 (27 + d)) = true := by kernel_rfl
theorem fa1_28 : ((List.range 1).all fun d => fs1 (28 + d)) = true := by kernel_rfl
theorem fa1_29 : ((List.range 1).all fun d => fs1 (29 + d)) = true := by kernel_rfl
theorem fa1_30 : ((List.range 1).all fun d => fs1 (30 + d)) = true := by kernel_rfl
theorem fa1_31 : ((List.range 1).all fun d => fs1 (31 + d)) = true := by kernel_rfl
theorem fa1_32 : ((List.range 1).all fun d => fs1 (32 + d)) = true := by kernel_rfl
theorem fa1_33 : ((List.range 1).all fun d => fs1 (33 + d)) = true := by kernel_rfl
theorem fa1_34 : ((List.range 1).all fun d => fs1 (34 + d)) = true := by kernel_rfl
theorem fa1_35 : ((List.range 1).all fun d => fs1 (35 + d)) = true := by kernel_rfl
theorem fa1_36 : ((List.range 1).all fun d => fs1 (36 + d)) = true := by kernel_rfl
theorem fa1_37 : ((List.range 1).all fun d => fs1 (37 + d)) = true := by kernel_rfl
theorem fa1_38 : ((List.range 1).all fun d => fs1 (38 + d)) = true := by kernel_rfl
theorem fa1_39 : ((List.range 1).all fun d => fs1 (39 + d)) = true := by kernel_rfl
theorem fa1_40 : ((List.range 1).all fun d => fs1 (40 + d)) = true := by kernel_rfl
theorem fa1_41 : ((List.range 1).all fun d => fs1 (41 + d)) = true := by kernel_rfl
theorem fa1_42 : ((List.range 1).all fun d => fs1 (42 + d)) = true := by kernel_rfl
theorem fa1_43 : ((List.range 1).all fun d => fs1 (43 + d)) = true := by kernel_rfl
theorem fa1_44 : ((List.range 1).all fun d => fs1 (44 + d)) = true := by kernel_rfl
theorem fa1_45 : ((List.range 1).all fun d => fs1 (45 + d)) = true := by kernel_rfl
theorem fa1_46 : ((List.range 1).all fun d => fs1 (46 + d)) = true := by kernel_rfl
theorem fa1_47 : ((List.range 1).all fun d => fs1 (47 + d)) = true := by kernel_rfl
theorem fa1_48 : ((List.range 1).all fun d => fs1 (48 + d)) = true := by kernel_rfl
theorem fa1_49 : ((List.range 1).all fun d => fs1 (49 + d)) = true := by kernel_rfl
theorem fa1_50 : ((List.range 1).all fun d => fs1 (50 + d)) = true := by kernel_rfl
theorem fa1_51 : ((List.range 1).all fun d => fs1 (51 + d)) = true := by kernel_rfl
theorem fa1_52 : ((List.range 1).all fun d => fs1 (52 + d)) = true := by kernel_rfl
theorem fa1_53 : ((List.range 1).all fun d => fs1 (53 + d)) = true := by kernel_rfl
theorem fa1_all : ∀ i, i < 54 → fs1 i = true := by
  intro i hi
  have hq : i = 1 * (i / 1) + i % 1 := (Nat.div_add_mod i 1).symm
  have hr : i % 1 < 1 := Nat.mod_lt _ (by decide)
  have hd : i / 1 < 54 := by omega
  generalize i / 1 = q at hq hd
  generalize i % 1 = r at hq hr
  subst hq
  match q, hd with
  | 0, _ => exact List.all_eq_true.1 fa1_0 r (List.mem_range.2 (by omega))
  | 1, _ => exact List.all_eq_true.1 fa1_1 r (List.mem_range.2 (by omega))
  | 2, _ => exact List.all_eq_true.1 fa1_2 r (List.mem_range.2 (by omega))
  | 3, _ => exact List.all_eq_true.1 fa1_3 r (List.mem_range.2 (by omega))
  | 4, _ => exact List.all_eq_true.1 fa1_4 r (List.mem_range.2 (by omega))
  | 5, _ => exact List.all_eq_true.1 fa1_5 r (List.mem_range.2 (by omega))
  | 6, _ => exact List.all_eq_true.1 fa1_6 r (List.mem_range.2 (by omega))
  | 7, _ => exact List.all_eq_true.1 fa1_7 r (List.mem_range.2 (by omega))
  | 8, _ => exact List.all_eq_true.1 fa1_8 r (List.mem_range.2 (by omega))
  | 9, _ => exact List.all_eq_true.1 fa1_9 r (List.mem_range.2 (by omega))
  | 10, _ => exact List.all_eq_true.1 fa1_10 r (List.mem_range.2 (by omega))
  | 11, _ => exact List.all_eq_true.1 fa1_11 r (List.mem_range.2 (by omega))
  | 12, _ => exact List.all_eq_true.1 fa1_12 r (List.mem_range.2 (by omega))
  | 13, _ => exact List.all_eq_true.1 fa1_13 r (List.mem_range.2 (by omega))
  | 14, _ => exact List.all_eq_true.1 fa1_14 r (List.mem_range.2 (by omega))
  | 15, _ => exact List.all_eq_true.1 fa1_15 r (List.mem_range.2 (by omega))
  | 16, _ => exact List.all_eq_true.1 fa1_16 r (List.mem_range.2 (by omega))
  | 17, _ => exact List.all_eq_true.1 fa1_17 r (List.mem_range.2 (by omega))
  | 18, _ => exact List.all_eq_true.1 fa1_18 r (List.mem_range.2 (by omega))
  | 19, _ => exact List.all_eq_true.1 fa1_19 r (List.mem_range.2 (by omega))
  | 20, _ => exact List.all_eq_true.1 fa1_20 r (List.mem_range.2 (by omega))
  | 21, _ => exact List.all_eq_true.1 fa1_21 r (List.mem_range.2 (by omega))
  | 22, _ => exact List.all_eq_true.1 fa1_22 r (List.mem_range.2 (by omega))
  | 23, _ => exact List.all_eq_true.1 fa1_23 r (List.mem_range.2 (by omega))
  | 24, _ => exact List.all_eq_true.1 fa1_24 r (List.mem_range.2 (by omega))
  | 25, _ => exact List.all_eq_true.1 fa1_25 r (List.mem_range.2 (by omega))
  | 26, _ => exact List.all_eq_true.1 fa1_26 r (List.mem_range.2 (by omega))
  | 27, _ => exact List.all_eq_true.1 fa1_27 r (List.mem_range.2 (by omega))
  | 28, _ => exact List.all_eq_true.1 fa1_28 r (List.mem_range.2 (by omega))
  | 29, _ => exact List.all_eq_true.1 fa1_29 r (List.mem_range.2 (by omega))
  | 30, _ => exact List.all_eq_true.1 fa1_30 r (List.mem_range.2 (by omega))
  | 31, _ => exact List.all_eq_true.1 fa1_31 r (List.mem_range.2 (by omega))
  | 32, _ => exact List.all_eq_true.1 fa1_32 r (List.mem_range.2 (by omega))
  | 33, _ => exact List.all_eq_true.1 fa1_33 r (List.mem_range.2 (by omega))
  | 34, _ => exact List.all_eq_true.1 fa1_34 r (List.mem_range.2 (by omega))
  | 35, _ => exact List.all_eq_true.1 fa1_35 r (List.mem_range.2 (by omega))
  | 36, _ => exact List.all_eq_true.1 fa1_36 r (List.mem_range.2 (by omega))
  | 37, _ => exact List.all_eq_true.1 fa1_37 r (List.mem_range.2 (by omega))
  | 38, _ => exact List.all_eq_true.1 fa1_38 r (List.mem_range.2 (by omega))
  | 39, _ => exact List.all_eq_true.1 fa1_39 r (List.mem_range.2 (by omega))
  | 40, _ => exact List.all_eq_true.1 fa1_40 r (List.mem_range.2 (by omega))
  | 41, _ => exact List.all_eq_true.1 fa1_41 r (List.mem_range.2 (by omega))
  | 42, _ => exact List.all_eq_true.1 fa1_42 r (List.mem_range.2 (by omega))
  | 43, _ => exact List.all_eq_true.1 fa1_43 r (List.mem_range.2 (by omega))
  | 44, _ => exact List.all_eq_true.1 fa1_44 r (List.mem_range.2 (by omega))
  | 45, _ => exact List.all_eq_true.1 fa1_45 r (List.mem_range.2 (by omega))
  | 46, _ => exact List.all_eq_true.1 fa1_46 r (List.mem_range.2 (by omega))
  | 47, _ => exact List.all_eq_true.1 fa1_47 r (List.mem_range.2 (by omega))
  | 48, _ => exact List.all_eq_true.1 fa1_48 r (List.mem_range.2 (by omega))
  | 49, _ => exact List.all_eq_true.1 fa1_49 r (List.mem_range.2 (by omega))
  | 50, _ => exact List.all_eq_true.1 fa1_50 r (List.mem_range.2 (by omega))
  | 51, _ => exact List.all_eq_true.1 fa1_51 r (List.mem_range.2 (by omega))
  | 52, _ => exact List.all_eq_true.1 fa1_52 r (List.mem_range.2 (by omega))
  | 53, _ => exact List.all_eq_true.1 fa1_53 r (List.mem_range.2 (by omega))
  | q + 54, h => exact absurd h (by omega)
end Go.Proofs.YtinopjbpjopdcaaGreatDoor.UW
