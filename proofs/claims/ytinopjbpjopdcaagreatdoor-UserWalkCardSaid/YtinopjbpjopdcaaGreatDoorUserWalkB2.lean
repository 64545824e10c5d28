import Derived.Test.YtinopjbpjopdcaaGreatDoorUserWalkBase
/-! UserWalk: behind the loops. -/
namespace Go.Proofs.YtinopjbpjopdcaaGreatDoor.UW
open Go.Ev Go.Ev.Pg Go.Ev.UW
set_option linter.unusedVariables false
set_option linter.unusedSimpArgs false
noncomputable def fs2 (i : Nat) : Bool := fins (108 + i)
theorem fa2_0 : ((List.range 1).all fun d => fs2 (0 + d)) = true := by kernel_rfl
theorem fa2_1 : ((List.range 1).all fun d => fs2 (1 + d)) = true := by kernel_rfl
theorem fa2_2 : ((List.range 1).all fun d => fs2 (2 + d)) = true := by kernel_rfl
theorem fa2_3 : ((List.range 1).all fun d => fs2 (3 + d)) = true := by kernel_rfl
theorem fa2_4 : ((List.range 1).all fun d => fs2 (4 + d)) = true := by kernel_rfl
theorem fa2_5 : ((List.range 1).all fun d => fs2 (5 + d)) = true := by kernel_rfl
theorem fa2_6 : ((List.range 1).all fun d => fs2 (6 + d)) = true := by kernel_rfl
theorem fa2_7 : ((List.range 1).all fun d => fs2 (7 + d)) = true := by kernel_rfl
theorem fa2_8 : ((List.range 1).all fun d => fs2 (8 + d)) = true := by kernel_rfl
theorem fa2_9 : ((List.range 1).all fun d => fs2 (9 + d)) = true := by kernel_rfl
theorem fa2_10 : ((List.range 1).all fun d => fs2 (10 + d)) = true := by kernel_rfl
theorem fa2_11 : ((List.range 1).all fun d => fs2 (11 + d)) = true := by kernel_rfl
theorem fa2_12 : ((List.range 1).all fun d => fs2 (12 + d)) = true := by kernel_rfl
theorem fa2_13 : ((List.range 1).all fun d => fs2 (13 + d)) = true := by kernel_rfl
theorem fa2_14 : ((List.range 1).all fun d => fs2 (14 + d)) = true := by kernel_rfl
theorem fa2_15 : ((List.range 1).all fun d => fs2 (15 + d)) = true := by kernel_rfl
theorem fa2_16 : ((List.range 1).all fun d => fs2 (16 + d)) = true := by kernel_rfl
theorem fa2_17 : ((List.range 1).all fun d => fs2 (17 + d)) = true := by kernel_rfl
theorem fa2_18 : ((List.range 1).all fun d => fs2 (18 + d)) = true := by kernel_rfl
theorem fa2_19 : ((List.range 1).all fun d => fs2 (19 + d)) = true := by kernel_rfl
theorem fa2_20 : ((List.range 1).all fun d => fs2 (20 + d)) = true := by kernel_rfl
theorem fa2_21 : ((List.range 1).all fun d => fs2 (21 + d)) = true := by kernel_rfl
theorem fa2_22 : ((List.range 1).all fun d => fs2 (22 + d)) = true := by kernel_rfl
theorem fa2_23 : ((List.range 1).all fun d => fs2 (23 + d)) = true := by kernel_rfl
theorem fa2_24 : ((List.range 1).all fun d => fs2 (24 + d)) = true := by kernel_rfl
theorem fa2_25 : ((List.range 1).all fun d => fs2 (25 + d)) = true := by kernel_rfl
theorem fa2_26 : ((List.range 1).all fun d => fs2 (26 + d)) = true := by kernel_rfl
theorem fa2_27 : ((List.range 1).all fun d => fs2 (27 + d)) = true := by kernel_rfl
theorem fa2_28 : ((List.range 1).all fun d => fs2 (28 + d)) = true := by kernel_rfl
theorem fa2_29 : ((List.range 1).all fun d => fs2 (29 + d)) = true := by kernel_rfl
theorem fa2_30 : ((List.range 1).all fun d => fs2 (30 + d)) = true := by kernel_rfl
theorem fa2_31 : ((List.range 1).all fun d => fs2 (31 + d)) = true := by kernel_rfl
theorem fa2_32 : ((List.range 1).all fun d => fs2 (32 + d)) = true := by kernel_rfl
theorem fa2_33 : ((List.range 1).all fun d => fs2 (33 + d)) = true := by kernel_rfl
theorem fa2_34 : ((List.range 1).all fun d => fs2 (34 + d)) = true := by kernel_rfl
theorem fa2_35 : ((List.range 1).all fun d => fs2 (35 + d)) = true := by kernel_rfl
theorem fa2_36 : ((List.range 1).all fun d => fs2 (36 + d)) = true := by kernel_rfl
theorem fa2_37 : ((List.range 1).all fun d => fs2 (37 + d)) = true := by kernel_rfl
theorem fa2_38 : ((List.range 1).all fun d => fs2 (38 + d)) = true := by kernel_rfl
theorem fa2_39 : ((List.range 1).all fun d => fs2 (39 + d)) = true := by kernel_rfl
theorem fa2_40 : ((List.range 1).all fun d => fs2 (40 + d)) = true := by kernel_rfl
theorem fa2_41 : ((List.range 1).all fun d => fs2 (41 + d)) = true := by kernel_rfl
theorem fa2_42 : ((List.range 1).all fun d => fs2 (42 + d)) = true := by kernel_rfl
theorem fa2_43 : ((List.range 1).all fun d => fs2 (43 + d)) = true := by kernel_rfl
theorem fa2_44 : ((List.range 1).all fun d => fs2 (44 + d)) = true := by kernel_rfl
theorem fa2_45 : ((List.range 1).all fun d => fs2 (45 + d)) = true := by kernel_rfl
theorem fa2_46 : ((List.range 1).all fun d => fs2 (46 + d)) = true := by kernel_rfl
theorem fa2_47 : ((List.range 1).all fun d => fs2 (47 + d)) = true := by kernel_rfl
theorem fa2_48 : ((List.range 1).all fun d => fs2 (48 + d)) = true := by kernel_rfl
theorem fa2_49 : ((List.range 1).all fun d => fs2 (49 + d)) = true := by kernel_rfl
theorem fa2_50 : ((List.range 1).all fun d => fs2 (50 + d)) = true := by kernel_rfl
theorem fa2_51 : ((List.range 1).all fun d => fs2 (51 + d)) = true := by kernel_rfl
theorem fa2_all : ∀ i, i < 52 → fs2 i = true := by
  intro i hi
  have hq : i = 1 * (i / 1) + i % 1 := (Nat.div_add_mod i 1).symm
  have hr : i % 1 < 1 := Nat.mod_lt _ (by decide)
  have hd : i / 1 < 52 := by omega
  generalize i / 1 = q at hq hd
  generalize i % 1 = r at hq hr
  subst hq
  match q, hd with
  | 0, _ => exact List.all_eq_true.1 fa2_0 r (List.mem_range.2 (by omega))
  | 1, _ => exact List.all_eq_true.1 fa2_1 r (List.mem_range.2 (by omega))
  | 2, _ => exact List.all_eq_true.1 fa2_2 r (List.mem_range.2 (by omega))
  | 3, _ => exact List.all_eq_true.1 fa2_3 r (List.mem_range.2 (by omega))
  | 4, _ => exact List.all_eq_true.1 fa2_4 r (List.mem_range.2 (by omega))
  | 5, _ => exact List.all_eq_true.1 fa2_5 r (List.mem_range.2 (by omega))
  | 6, _ => exact List.all_eq_true.1 fa2_6 r (List.mem_range.2 (by omega))
  | 7, _ => exact List.all_eq_true.1 fa2_7 r (List.mem_range.2 (by omega))
  | 8, _ => exact List.all_eq_true.1 fa2_8 r (List.mem_range.2 (by omega))
  | 9, _ => exact List.all_eq_true.1 fa2_9 r (List.mem_range.2 (by omega))
  | 10, _ => exact List.all_eq_true.1 fa2_10 r (List.mem_range.2 (by omega))
  | 11, _ => exact List.all_eq_true.1 fa2_11 r (List.mem_range.2 (by omega))
  | 12, _ => exact List.all_eq_true.1 fa2_12 r (List.mem_range.2 (by omega))
  | 13, _ => exact List.all_eq_true.1 fa2_13 r (List.mem_range.2 (by omega))
  | 14, _ => exact List.all_eq_true.1 fa2_14 r (List.mem_range.2 (by omega))
  | 15, _ => exact List.all_eq_true.1 fa2_15 r (List.mem_range.2 (by omega))
  | 16, _ => exact List.all_eq_true.1 fa2_16 r (List.mem_range.2 (by omega))
  | 17, _ => exact List.all_eq_true.1 fa2_17 r (List.mem_range.2 (by omega))
  | 18, _ => exact List.all_eq_true.1 fa2_18 r (List.mem_range.2 (by omega))
  | 19, _ => exact List.all_eq_true.1 fa2_19 r (List.mem_range.2 (by omega))
  | 20, _ => exact List.all_eq_true.1 fa2_20 r (List.mem_range.2 (by omega))
  | 21, _ => exact List.all_eq_true.1 fa2_21 r (List.mem_range.2 (by omega))
  | 22, _ => exact List.all_eq_true.1 fa2_22 r (List.mem_range.2 (by omega))
  | 23, _ => exact List.all_eq_true.1 fa2_23 r (List.mem_range.2 (by omega))
  | 24, _ => exact List.all_eq_true.1 fa2_24 r (List.mem_range.2 (by omega))
  | 25, _ => exact List.all_eq_true.1 fa2_25 r (List.mem_range.2 (by omega))
  | 26, _ => exact List.all_eq_true.1 fa2_26 r (List.mem_range.2 (by omega))
  | 27, _ => exact List.all_eq_true.1 fa2_27 r (List.mem_range.2 (by omega))
  | 28, _ => exact List.all_eq_true.1 fa2_28 r (List.mem_range.2 (by omega))
  | 29, _ => exact List.all_eq_true.1 fa2_29 r (List.mem_range.2 (by omega))
  | 30, _ => exact List.all_eq_true.1 fa2_30 r (List.mem_range.2 (by omega))
  | 31, _ => exact List.all_eq_true.1 fa2_31 r (List.mem_range.2 (by omega))
  | 32, _ => exact List.all_eq_true.1 fa2_32 r (List.mem_range.2 (by omega))
  | 33, _ => exact List.all_eq_true.1 fa2_33 r (List.mem_range.2 (by omega))
  | 34, _ => exact List.all_eq_true.1 fa2_34 r (List.mem_range.2 (by omega))
  | 35, _ => exact List.all_eq_true.1 fa2_35 r (List.mem_range.2 (by omega))
  | 36, _ => exact List.all_eq_true.1 fa2_36 r (List.mem_range.2 (by omega))
  | 37, _ => exact List.all_eq_true.1 fa2_37 r (List.mem_range.2 (by omega))
  | 38, _ => exact List.all_eq_true.1 fa2_38 r (List.mem_range.2 (by omega))
  | 39, _ => exact List.all_eq_true.1 fa2_39 r (List.mem_range.2 (by omega))
  | 40, _ => exact List.all_eq_true.1 fa2_40 r (List.mem_range.2 (by omega))
  | 41, _ => exact List.all_eq_true.1 fa2_41 r (List.mem_range.2 (by omega))
  | 42, _ => exact List.all_eq_true.1 fa2_42 r (List.mem_range.2 (by omega))
  | 43, _ => exact List.all_eq_true.1 fa2_43 r (List.mem_range.2 (by omega))
  | 44, _ => exact List.all_eq_true.1 fa2_44 r (List.mem_range.2 (by omega))
  | 45, _ => exact List.all_eq_true.1 fa2_45 r (List.mem_range.2 (by omega))
  | 46, _ => exact List.all_eq_true.1 fa2_46 r (List.mem_range.2 (by omega))
  | 47, _ => exact List.all_eq_true.1 fa2_47 r (List.mem_range.2 (by omega))
  | 48, _ => exact List.all_eq_true.1 fa2_48 r (List.mem_range.2 (by omega))
  | 49, _ => exact List.all_eq_true.1 fa2_49 r (List.mem_range.2 (by omega))
  | 50, _ => exact List.all_eq_true.1 fa2_50 r (List.mem_range.2 (by omega))
  | 51, _ => exact List.all_eq_true.1 fa2_51 r (List.mem_range.2 (by omega))
  | q + 52, h => exact absurd h (by omega)
end Go.Proofs.YtinopjbpjopdcaaGreatDoor.UW
