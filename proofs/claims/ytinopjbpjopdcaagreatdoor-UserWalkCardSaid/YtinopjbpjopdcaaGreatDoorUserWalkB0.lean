import Derived.Test.YtinopjbpjopdcaaGreatDoorUserWalkBase
/-! UserWalk: behind the loops. -/
namespace Go.Proofs.YtinopjbpjopdcaaGreatDoor.UW
open Go.Ev Go.Ev.Pg Go.Ev.UW
set_option linter.unusedVariables false
set_option linter.unusedSimpArgs false
noncomputable def fs0 (i : Nat) : Bool := fins (0 + i)
theorem fa0_0 : ((List.range 1).all fun d => fs0 (0 + d)) = true := by kernel_rfl
theorem fa0_1 : ((List.range 1).all fun d => fs0 (1 + d)) = true := by kernel_rfl
theorem fa0_2 : ((List.range 1).all fun d => fs0 (2 + d)) = true := by kernel_rfl
theorem fa0_3 : ((List.range 1).all fun d => fs0 (3 + d)) = true := by kernel_rfl
theorem fa0_4 : ((List.range 1).all fun d => fs0 (4 + d)) = true := by kernel_rfl
theorem fa0_5 : ((List.range 1).all fun d => fs0 (5 + d)) = true := by kernel_rfl
theorem fa0_6 : ((List.range 1).all fun d => fs0 (6 + d)) = true := by kernel_rfl
theorem fa0_7 : ((List.range 1).all fun d => fs0 (7 + d)) = true := by kernel_rfl
theorem fa0_8 : ((List.range 1).all fun d => fs0 (8 + d)) = true := by kernel_rfl
theorem fa0_9 : ((List.range 1).all fun d => fs0 (9 + d)) = true := by kernel_rfl
theorem fa0_10 : ((List.range 1).all fun d => fs0 (10 + d)) = true := by kernel_rfl
theorem fa0_11 : ((List.range 1).all fun d => fs0 (11 + d)) = true := by kernel_rfl
theorem fa0_12 : ((List.range 1).all fun d => fs0 (12 + d)) = true := by kernel_rfl
theorem fa0_13 : ((List.range 1).all fun d => fs0 (13 + d)) = true := by kernel_rfl
theorem fa0_14 : ((List.range 1).all fun d => fs0 (14 + d)) = true := by kernel_rfl
theorem fa0_15 : ((List.range 1).all fun d => fs0 (15 + d)) = true := by kernel_rfl
theorem fa0_16 : ((List.range 1).all fun d => fs0 (16 + d)) = true := by kernel_rfl
theorem fa0_17 : ((List.range 1).all fun d => fs0 (17 + d)) = true := by kernel_rfl
theorem fa0_18 : ((List.range 1).all fun d => fs0 (18 + d)) = true := by kernel_rfl
theorem fa0_19 : ((List.range 1).all fun d => fs0 (19 + d)) = true := by kernel_rfl
theorem fa0_20 : ((List.range 1).all fun d => fs0 (20 + d)) = true := by kernel_rfl
theorem fa0_21 : ((List.range 1).all fun d => fs0 (21 + d)) = true := by kernel_rfl
theorem fa0_22 : ((List.range 1).all fun d => fs0 (22 + d)) = true := by kernel_rfl
theorem fa0_23 : ((List.range 1).all fun d => fs0 (23 + d)) = true := by kernel_rfl
theorem fa0_24 : ((List.range 1).all fun d => fs0 (24 + d)) = true := by kernel_rfl
theorem fa0_25 : ((List.range 1).all fun d => fs0 (25 + d)) = true := by kernel_rfl
theorem fa0_26 : ((List.range 1).all fun d => fs0 (26 + d)) = true := by kernel_rfl
theorem fa0_27 : ((List.range 1).all fun d => fs0 (27 + d)) = true := by kernel_rfl
theorem fa0_28 : ((List.range 1).all fun d => fs0 (28 + d)) = true := by kernel_rfl
theorem fa0_29 : ((List.range 1).all fun d => fs0 (29 + d)) = true := by kernel_rfl
theorem fa0_30 : ((List.range 1).all fun d => fs0 (30 + d)) = true := by kernel_rfl
theorem fa0_31 : ((List.range 1).all fun d => fs0 (31 + d)) = true := by kernel_rfl
theorem fa0_32 : ((List.range 1).all fun d => fs0 (32 + d)) = true := by kernel_rfl
theorem fa0_33 : ((List.range 1).all fun d => fs0 (33 + d)) = true := by kernel_rfl
theorem fa0_34 : ((List.range 1).all fun d => fs0 (34 + d)) = true := by kernel_rfl
theorem fa0_35 : ((List.range 1).all fun d => fs0 (35 + d)) = true := by kernel_rfl
theorem fa0_36 : ((List.range 1).all fun d => fs0 (36 + d)) = true := by kernel_rfl
theorem fa0_37 : ((List.range 1).all fun d => fs0 (37 + d)) = true := by kernel_rfl
theorem fa0_38 : ((List.range 1).all fun d => fs0 (38 + d)) = true := by kernel_rfl
theorem fa0_39 : ((List.range 1).all fun d => fs0 (39 + d)) = true := by kernel_rfl
theorem fa0_40 : ((List.range 1).all fun d => fs0 (40 + d)) = true := by kernel_rfl
theorem fa0_41 : ((List.range 1).all fun d => fs0 (41 + d)) = true := by kernel_rfl
theorem fa0_42 : ((List.range 1).all fun d => fs0 (42 + d)) = true := by kernel_rfl
theorem fa0_43 : ((List.range 1).all fun d => fs0 (43 + d)) = true := by kernel_rfl
theorem fa0_44 : ((List.range 1).all fun d => fs0 (44 + d)) = true := by kernel_rfl
theorem fa0_45 : ((List.range 1).all fun d => fs0 (45 + d)) = true := by kernel_rfl
theorem fa0_46 : ((List.range 1).all fun d => fs0 (46 + d)) = true := by kernel_rfl
theorem fa0_47 : ((List.range 1).all fun d => fs0 (47 + d)) = true := by kernel_rfl
theorem fa0_48 : ((List.range 1).all fun d => fs0 (48 + d)) = true := by kernel_rfl
theorem fa0_49 : ((List.range 1).all fun d => fs0 (49 + d)) = true := by kernel_rfl
theorem fa0_50 : ((List.range 1).all fun d => fs0 (50 + d)) = true := by kernel_rfl
theorem fa0_51 : ((List.range 1).all fun d => fs0 (51 + d)) = true := by kernel_rfl
theorem fa0_52 : ((List.range 1).all fun d => fs0 (52 + d)) = true := by kernel_rfl
theorem fa0_53 : ((List.range 1).all fun d => fs0 (53 + d)) = true := by kernel_rfl
theorem fa0_all : ∀ i, i < 54 → fs0 i = true := by
  intro i hi
  have hq : i = 1 * (i / 1) + i % 1 := (Nat.div_add_mod i 1).symm
  have hr : i % 1 < 1 := Nat.mod_lt _ (by decide)
  have hd : i / 1 < 54 := by omega
  generalize i / 1 = q at hq hd
  generalize i % 1 = r at hq hr
  subst hq
  match q, hd with
  | 0, _ => exact List.all_eq_true.1 fa0_0 r (List.mem_range.2 (by omega))
  | 1, _ => exact List.all_eq_true.1 fa0_1 r (List.mem_range.2 (by omega))
  | 2, _ => exact List.all_eq_true.1 fa0_2 r (List.mem_range.2 (by omega))
  | 3, _ => exact List.all_eq_true.1 fa0_3 r (List.mem_range.2 (by omega))
  | 4, _ => exact List.all_eq_true.1 fa0_4 r (List.mem_range.2 (by omega))
  | 5, _ => exact List.all_eq_true.1 fa0_5 r (List.mem_range.2 (by omega))
  | 6, _ => exact List.all_eq_true.1 fa0_6 r (List.mem_range.2 (by omega))
  | 7, _ => exact List.all_eq_true.1 fa0_7 r (List.mem_range.2 (by omega))
  | 8, _ => exact List.all_eq_true.1 fa0_8 r (List.mem_range.2 (by omega))
  | 9, _ => exact List.all_eq_true.1 fa0_9 r (List.mem_range.2 (by omega))
  | 10, _ => exact List.all_eq_true.1 fa0_10 r (List.mem_range.2 (by omega))
  | 11, _ => exact List.all_eq_true.1 fa0_11 r (List.mem_range.2 (by omega))
  | 12, _ => exact List.all_eq_true.1 fa0_12 r (List.mem_range.2 (by omega))
  | 13, _ => exact List.all_eq_true.1 fa0_13 r (List.mem_range.2 (by omega))
  | 14, _ => exact List.all_eq_true.1 fa0_14 r (List.mem_range.2 (by omega))
  | 15, _ => exact List.all_eq_true.1 fa0_15 r (List.mem_range.2 (by omega))
  | 16, _ => exact List.all_eq_true.1 fa0_16 r (List.mem_range.2 (by omega))
  | 17, _ => exact List.all_eq_true.1 fa0_17 r (List.mem_range.2 (by omega))
  | 18, _ => exact List.all_eq_true.1 fa0_18 r (List.mem_range.2 (by omega))
  | 19, _ => exact List.all_eq_true.1 fa0_19 r (List.mem_range.2 (by omega))
  | 20, _ => exact List.all_eq_true.1 fa0_20 r (List.mem_range.2 (by omega))
  | 21, _ => exact List.all_eq_true.1 fa0_21 r (List.mem_range.2 (by omega))
  | 22, _ => exact List.all_eq_true.1 fa0_22 r (List.mem_range.2 (by omega))
  | 23, _ => exact List.all_eq_true.1 fa0_23 r (List.mem_range.2 (by omega))
  | 24, _ => exact List.all_eq_true.1 fa0_24 r (List.mem_range.2 (by omega))
  | 25, _ => exact List.all_eq_true.1 fa0_25 r (List.mem_range.2 (by omega))
  | 26, _ => exact List.all_eq_true.1 fa0_26 r (List.mem_range.2 (by omega))
  | 27, _ => exact List.all_eq_true.1 fa0_27 r (List.mem_range.2 (by omega))
  | 28, _ => exact List.all_eq_true.1 fa0_28 r (List.mem_range.2 (by omega))
  | 29, _ => exact List.all_eq_true.1 fa0_29 r (List.mem_range.2 (by omega))
  | 30, _ => exact List.all_eq_true.1 fa0_30 r (List.mem_range.2 (by omega))
  | 31, _ => exact List.all_eq_true.1 fa0_31 r (List.mem_range.2 (by omega))
  | 32, _ => exact List.all_eq_true.1 fa0_32 r (List.mem_range.2 (by omega))
  | 33, _ => exact List.all_eq_true.1 fa0_33 r (List.mem_range.2 (by omega))
  | 34, _ => exact List.all_eq_true.1 fa0_34 r (List.mem_range.2 (by omega))
  | 35, _ => exact List.all_eq_true.1 fa0_35 r (List.mem_range.2 (by omega))
  | 36, _ => exact List.all_eq_true.1 fa0_36 r (List.mem_range.2 (by omega))
  | 37, _ => exact List.all_eq_true.1 fa0_37 r (List.mem_range.2 (by omega))
  | 38, _ => exact List.all_eq_true.1 fa0_38 r (List.mem_range.2 (by omega))
  | 39, _ => exact List.all_eq_true.1 fa0_39 r (List.mem_range.2 (by omega))
  | 40, _ => exact List.all_eq_true.1 fa0_40 r (List.mem_range.2 (by omega))
  | 41, _ => exact List.all_eq_true.1 fa0_41 r (List.mem_range.2 (by omega))
  | 42, _ => exact List.all_eq_true.1 fa0_42 r (List.mem_range.2 (by omega))
  | 43, _ => exact List.all_eq_true.1 fa0_43 r (List.mem_range.2 (by omega))
  | 44, _ => exact List.all_eq_true.1 fa0_44 r (List.mem_range.2 (by omega))
  | 45, _ => exact List.all_eq_true.1 fa0_45 r (List.mem_range.2 (by omega))
  | 46, _ => exact List.all_eq_true.1 fa0_46 r (List.mem_range.2 (by omega))
  | 47, _ => exact List.all_eq_true.1 fa0_47 r (List.mem_range.2 (by omega))
  | 48, _ => exact List.all_eq_true.1 fa0_48 r (List.mem_range.2 (by omega))
  | 49, _ => exact List.all_eq_true.1 fa0_49 r (List.mem_range.2 (by omega))
  | 50, _ => exact List.all_eq_true.1 fa0_50 r (List.mem_range.2 (by omega))
  | 51, _ => exact List.all_eq_true.1 fa0_51 r (List.mem_range.2 (by omega))
  | 52, _ => exact List.all_eq_true.1 fa0_52 r (List.mem_range.2 (by omega))
  | 53, _ => exact List.all_eq_true.1 fa0_53 r (List.mem_range.2 (by omega))
  | q + 54, h => exact absurd h (by omega)
end Go.Proofs.YtinopjbpjopdcaaGreatDoor.UW
