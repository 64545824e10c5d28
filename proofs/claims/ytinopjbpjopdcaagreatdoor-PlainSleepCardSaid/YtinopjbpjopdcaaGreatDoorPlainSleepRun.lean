import Derived.Test.YtinopjbpjopdcaaGreatDoorEvBegun
import Derived.Test.YtinopjbpjopdcaaGreatDoorEvNum
/-! PlainSleep: the runs, by what 'op' and 'at' come to, and how the word and the value lie. -/
namespace Go.Proofs.YtinopjbpjopdcaaGreatDoor
open Go.Ev

/-- How the two words lie: 0: equal · 1: the word is less · 2: the word is more. -/
noncomputable def ansCmp (o : Nat) : List Ans :=
  [⟨.eql, .sym .u64 1, .sym .u64 2, .bool (Nat.beq o 0)⟩, ⟨.neq, .sym .u64 1, .sym .u64 2, .bool (bif Nat.beq o 0 then false else true)⟩, ⟨.lss, .sym .u64 1, .sym .u64 2, .bool (Nat.beq o 1)⟩, ⟨.gtr, .sym .u64 1, .sym .u64 2, .bool (Nat.beq o 2)⟩, ⟨.lss, .sym .u64 2, .sym .u64 1, .bool (Nat.beq o 2)⟩, ⟨.eql, .sym .u64 1, .sym .u64 1, .bool true⟩]
noncomputable def ansPS (p q o : Nat) : List Ans := ansMod 0 4 5 4 p ++ ansMod 3 6 7 16 q ++ ansCmp o
noncomputable def cvPS : List (IntKind × V × V) := [(.i64, .sym .u64 1, .sym .i64 8), (.i64, .sym .u64 2, .sym .i64 9)]
noncomputable def runPS (i : Nat) : Bool :=
  isTF (fCall (tabK (ansPS (Nat.div i 48) (Nat.mod (Nat.div i 3) 16) (Nat.mod i 3)) cvPS) cx1 100000 50 6 [.sym .i64 0, .sym .u64 1, .sym .u64 2, .sym .i64 3] hM)

theorem ps_0 : ((List.range 2).all fun d => runPS (0 + d)) = true := by kernel_rfl
theorem ps_1 : ((List.range 2).all fun d => runPS (2 + d)) = true := by kernel_rfl
theorem ps_2 : ((List.range 2).all fun d => runPS (4 + d)) = true := by kernel_rfl
theorem ps_3 : ((List.range 2).all fun d => runPS (6 + d)) = true := by kernel_rfl
theorem ps_4 : ((List.range 2).all fun d => runPS (8 + d)) = true := by kernel_rfl
theorem ps_5 : ((List.range 2).all fun d => runPS (10 + d)) = true := by kernel_rfl
theorem ps_6 : ((List.range 2).all fun d => runPS (12 + d)) = true := by kernel_rfl
theorem ps_7 : ((List.range 2).all fun d => runPS (14 + d)) = true := by kernel_rfl
theorem ps_8 : ((List.range 2).all fun d => runPS (16 + d)) = true := by kernel_rfl
theorem ps_9 : ((List.range 2).all fun d => runPS (18 + d)) = true := by kernel_rfl
theorem ps_10 : ((List.range 2).all fun d => runPS (20 + d)) = true := by kernel_rfl
theorem ps_11 : ((List.range 2).all fun d => runPS (22 + d)) = true := by kernel_rfl
theorem ps_12 : ((List.range 2).all fun d => runPS (24 + d)) = true := by kernel_rfl
theorem ps_13 : ((List.range 2).all fun d => runPS (26 + d)) = true := by kernel_rfl
theorem ps_14 : ((List.range 2).all fun d => runPS (28 + d)) = true := by kernel_rfl
theorem ps_15 : ((List.range 2).all fun d => runPS (30 + d)) = true := by kernel_rfl
theorem ps_16 : ((List.range 2).all fun d => runPS (32 + d)) = true := by kernel_rfl
theorem ps_17 : ((List.range 2).all fun d => runPS (34 + d)) = true := by kernel_rfl
theorem ps_18 : ((List.range 2).all fun d => runPS (36 + d)) = true := by kernel_rfl
theorem ps_19 : ((List.range 2).all fun d => runPS (38 + d)) = true := by kernel_rfl
theorem ps_20 : ((List.range 2).all fun d => runPS (40 + d)) = true := by kernel_rfl
theorem ps_21 : ((List.range 2).all fun d => runPS (42 + d)) = true := by kernel_rfl
theorem ps_22 : ((List.range 2).all fun d => runPS (44 + d)) = true := by kernel_rfl
theorem ps_23 : ((List.range 2).all fun d => runPS (46 + d)) = true := by kernel_rfl
theorem ps_24 : ((List.range 2).all fun d => runPS (48 + d)) = true := by kernel_rfl
theorem ps_25 : ((List.range 2).all fun d => runPS (50 + d)) = true := by kernel_rfl
theorem ps_26 : ((List.range 2).all fun d => runPS (52 + d)) = true := by kernel_rfl
theorem ps_27 : ((List.range 2).all fun d => runPS (54 + d)) = true := by kernel_rfl
theorem ps_28 : ((List.range 2).all fun d => runPS (56 + d)) = true := by kernel_rfl
theorem ps_29 : ((List.range 2).all fun d => runPS (58 + d)) = true := by kernel_rfl
theorem ps_30 : ((List.range 2).all fun d => runPS (60 + d)) = true := by kernel_rfl
theorem ps_31 : ((List.range 2).all fun d => runPS (62 + d)) = true := by kernel_rfl
theorem ps_32 : ((List.range 2).all fun d => runPS (64 + d)) = true := by kernel_rfl
theorem ps_33 : ((List.range 2).all fun d => runPS (66 + d)) = true := by kernel_rfl
theorem ps_34 : ((List.range 2).all fun d => runPS (68 + d)) = true := by kernel_rfl
theorem ps_35 : ((List.range 2).all fun d => runPS (70 + d)) = true := by kernel_rfl
theorem ps_36 : ((List.range 2).all fun d => runPS (72 + d)) = true := by kernel_rfl
theorem ps_37 : ((List.range 2).all fun d => runPS (74 + d)) = true := by kernel_rfl
theorem ps_38 : ((List.range 2).all fun d => runPS (76 + d)) = true := by kernel_rfl
theorem ps_39 : ((List.range 2).all fun d => runPS (78 + d)) = true := by kernel_rfl
theorem ps_40 : ((List.range 2).all fun d => runPS (80 + d)) = true := by kernel_rfl
theorem ps_41 : ((List.range 2).all fun d => runPS (82 + d)) = true := by kernel_rfl
theorem ps_42 : ((List.range 2).all fun d => runPS (84 + d)) = true := by kernel_rfl
theorem ps_43 : ((List.range 2).all fun d => runPS (86 + d)) = true := by kernel_rfl
theorem ps_44 : ((List.range 2).all fun d => runPS (88 + d)) = true := by kernel_rfl
theorem ps_45 : ((List.range 2).all fun d => runPS (90 + d)) = true := by kernel_rfl
theorem ps_46 : ((List.range 2).all fun d => runPS (92 + d)) = true := by kernel_rfl
theorem ps_47 : ((List.range 2).all fun d => runPS (94 + d)) = true := by kernel_rfl
theorem ps_48 : ((List.range 2).all fun d => runPS (96 + d)) = true := by kernel_rfl
theorem ps_49 : ((List.range 2).all fun d => runPS (98 + d)) = true := by kernel_rfl
theorem ps_50 : ((List.range 2).all fun d => runPS (100 + d)) = true := by kernel_rfl
theorem ps_51 : ((List.range 2).all fun d => runPS (102 + d)) = true := by kernel_rfl
theorem ps_52 : ((List.range 2).all fun d => runPS (104 + d)) = true := by kernel_rfl
theorem ps_53 : ((List.range 2).all fun d => runPS (106 + d)) = true := by kernel_rfl
theorem ps_54 : ((List.range 2).all fun d => runPS (108 + d)) = true := by kernel_rfl
theorem ps_55 : ((List.range 2).all fun d => runPS (110 + d)) = true := by kernel_rfl
theorem ps_56 : ((List.range 2).all fun d => runPS (112 + d)) = true := by kernel_rfl
theorem ps_57 : ((List.range 2).all fun d => runPS (114 + d)) = true := by kernel_rfl
theorem ps_58 : ((List.range 2).all fun d => runPS (116 + d)) = true := by kernel_rfl
theorem ps_59 : ((List.range 2).all fun d => runPS (118 + d)) = true := by kernel_rfl
theorem ps_60 : ((List.range 2).all fun d => runPS (120 + d)) = true := by kernel_rfl
theorem ps_61 : ((List.range 2).all fun d => runPS (122 + d)) = true := by kernel_rfl
theorem ps_62 : ((List.range 2).all fun d => runPS (124 + d)) = true := by kernel_rfl
theorem ps_63 : ((List.range 2).all fun d => runPS (126 + d)) = true := by kernel_rfl
theorem ps_64 : ((List.range 2).all fun d => runPS (128 + d)) = true := by kernel_rfl
theorem ps_65 : ((List.range 2).all fun d => runPS (130 + d)) = true := by kernel_rfl
theorem ps_66 : ((List.range 2).all fun d => runPS (132 + d)) = true := by kernel_rfl
theorem ps_67 : ((List.range 2).all fun d => runPS (134 + d)) = true := by kernel_rfl
theorem ps_68 : ((List.range 2).all fun d => runPS (136 + d)) = true := by kernel_rfl
theorem ps_69 : ((List.range 2).all fun d => runPS (138 + d)) = true := by kernel_rfl
theorem ps_70 : ((List.range 2).all fun d => runPS (140 + d)) = true := by kernel_rfl
theorem ps_71 : ((List.range 2).all fun d => runPS (142 + d)) = true := by kernel_rfl
theorem ps_72 : ((List.range 2).all fun d => runPS (144 + d)) = true := by kernel_rfl
theorem ps_73 : ((List.range 2).all fun d => runPS (146 + d)) = true := by kernel_rfl
theorem ps_74 : ((List.range 2).all fun d => runPS (148 + d)) = true := by kernel_rfl
theorem ps_75 : ((List.range 2).all fun d => runPS (150 + d)) = true := by kernel_rfl
theorem ps_76 : ((List.range 2).all fun d => runPS (152 + d)) = true := by kernel_rfl
theorem ps_77 : ((List.range 2).all fun d => runPS (154 + d)) = true := by kernel_rfl
theorem ps_78 : ((List.range 2).all fun d => runPS (156 + d)) = true := by kernel_rfl
theorem ps_79 : ((List.range 2).all fun d => runPS (158 + d)) = true := by kernel_rfl
theorem ps_80 : ((List.range 2).all fun d => runPS (160 + d)) = true := by kernel_rfl
theorem ps_81 : ((List.range 2).all fun d => runPS (162 + d)) = true := by kernel_rfl
theorem ps_82 : ((List.range 2).all fun d => runPS (164 + d)) = true := by kernel_rfl
theorem ps_83 : ((List.range 2).all fun d => runPS (166 + d)) = true := by kernel_rfl
theorem ps_84 : ((List.range 2).all fun d => runPS (168 + d)) = true := by kernel_rfl
theorem ps_85 : ((List.range 2).all fun d => runPS (170 + d)) = true := by kernel_rfl
theorem ps_86 : ((List.range 2).all fun d => runPS (172 + d)) = true := by kernel_rfl
theorem ps_87 : ((List.range 2).all fun d => runPS (174 + d)) = true := by kernel_rfl
theorem ps_88 : ((List.range 2).all fun d => runPS (176 + d)) = true := by kernel_rfl
theorem ps_89 : ((List.range 2).all fun d => runPS (178 + d)) = true := by kernel_rfl
theorem ps_90 : ((List.range 2).all fun d => runPS (180 + d)) = true := by kernel_rfl
theorem ps_91 : ((List.range 2).all fun d => runPS (182 + d)) = true := by kernel_rfl
theorem ps_92 : ((List.range 2).all fun d => runPS (184 + d)) = true := by kernel_rfl
theorem ps_93 : ((List.range 2).all fun d => runPS (186 + d)) = true := by kernel_rfl
theorem ps_94 : ((List.range 2).all fun d => runPS (188 + d)) = true := by kernel_rfl
theorem ps_95 : ((List.range 2).all fun d => runPS (190 + d)) = true := by kernel_rfl
theorem ps_all : ∀ i, i < 192 → runPS i = true := by
  intro i hi
  have hq : i = 2 * (i / 2) + i % 2 := (Nat.div_add_mod i 2).symm
  have hr : i % 2 < 2 := Nat.mod_lt _ (by decide)
  have hd : i / 2 < 96 := by omega
  generalize i / 2 = q at hq hd
  generalize i % 2 = r at hq hr
  subst hq
  match q, hd with
  | 0, _ => exact List.all_eq_true.1 ps_0 r (List.mem_range.2 (by omega))
  | 1, _ => exact List.all_eq_true.1 ps_1 r (List.mem_range.2 (by omega))
  | 2, _ => exact List.all_eq_true.1 ps_2 r (List.mem_range.2 (by omega))
  | 3, _ => exact List.all_eq_true.1 ps_3 r (List.mem_range.2 (by omega))
  | 4, _ => exact List.all_eq_true.1 ps_4 r (List.mem_range.2 (by omega))
  | 5, _ => exact List.all_eq_true.1 ps_5 r (List.mem_range.2 (by omega))
  | 6, _ => exact List.all_eq_true.1 ps_6 r (List.mem_range.2 (by omega))
  | 7, _ => exact List.all_eq_true.1 ps_7 r (List.mem_range.2 (by omega))
  | 8, _ => exact List.all_eq_true.1 ps_8 r (List.mem_range.2 (by omega))
  | 9, _ => exact List.all_eq_true.1 ps_9 r (List.mem_range.2 (by omega))
  | 10, _ => exact List.all_eq_true.1 ps_10 r (List.mem_range.2 (by omega))
  | 11, _ => exact List.all_eq_true.1 ps_11 r (List.mem_range.2 (by omega))
  | 12, _ => exact List.all_eq_true.1 ps_12 r (List.mem_range.2 (by omega))
  | 13, _ => exact List.all_eq_true.1 ps_13 r (List.mem_range.2 (by omega))
  | 14, _ => exact List.all_eq_true.1 ps_14 r (List.mem_range.2 (by omega))
  | 15, _ => exact List.all_eq_true.1 ps_15 r (List.mem_range.2 (by omega))
  | 16, _ => exact List.all_eq_true.1 ps_16 r (List.mem_range.2 (by omega))
  | 17, _ => exact List.all_eq_true.1 ps_17 r (List.mem_range.2 (by omega))
  | 18, _ => exact List.all_eq_true.1 ps_18 r (List.mem_range.2 (by omega))
  | 19, _ => exact List.all_eq_true.1 ps_19 r (List.mem_range.2 (by omega))
  | 20, _ => exact List.all_eq_true.1 ps_20 r (List.mem_range.2 (by omega))
  | 21, _ => exact List.all_eq_true.1 ps_21 r (List.mem_range.2 (by omega))
  | 22, _ => exact List.all_eq_true.1 ps_22 r (List.mem_range.2 (by omega))
  | 23, _ => exact List.all_eq_true.1 ps_23 r (List.mem_range.2 (by omega))
  | 24, _ => exact List.all_eq_true.1 ps_24 r (List.mem_range.2 (by omega))
  | 25, _ => exact List.all_eq_true.1 ps_25 r (List.mem_range.2 (by omega))
  | 26, _ => exact List.all_eq_true.1 ps_26 r (List.mem_range.2 (by omega))
  | 27, _ => exact List.all_eq_true.1 ps_27 r (List.mem_range.2 (by omega))
  | 28, _ => exact List.all_eq_true.1 ps_28 r (List.mem_range.2 (by omega))
  | 29, _ => exact List.all_eq_true.1 ps_29 r (List.mem_range.2 (by omega))
  | 30, _ => exact List.all_eq_true.1 ps_30 r (List.mem_range.2 (by omega))
  | 31, _ => exact List.all_eq_true.1 ps_31 r (List.mem_range.2 (by omega))
  | 32, _ => exact List.all_eq_true.1 ps_32 r (List.mem_range.2 (by omega))
  | 33, _ => exact List.all_eq_true.1 ps_33 r (List.mem_range.2 (by omega))
  | 34, _ => exact List.all_eq_true.1 ps_34 r (List.mem_range.2 (by omega))
  | 35, _ => exact List.all_eq_true.1 ps_35 r (List.mem_range.2 (by omega))
  | 36, _ => exact List.all_eq_true.1 ps_36 r (List.mem_range.2 (by omega))
  | 37, _ => exact List.all_eq_true.1 ps_37 r (List.mem_range.2 (by omega))
  | 38, _ => exact List.all_eq_true.1 ps_38 r (List.mem_range.2 (by omega))
  | 39, _ => exact List.all_eq_true.1 ps_39 r (List.mem_range.2 (by omega))
  | 40, _ => exact List.all_eq_true.1 ps_40 r (List.mem_range.2 (by omega))
  | 41, _ => exact List.all_eq_true.1 ps_41 r (List.mem_range.2 (by omega))
  | 42, _ => exact List.all_eq_true.1 ps_42 r (List.mem_range.2 (by omega))
  | 43, _ => exact List.all_eq_true.1 ps_43 r (List.mem_range.2 (by omega))
  | 44, _ => exact List.all_eq_true.1 ps_44 r (List.mem_range.2 (by omega))
  | 45, _ => exact List.all_eq_true.1 ps_45 r (List.mem_range.2 (by omega))
  | 46, _ => exact List.all_eq_true.1 ps_46 r (List.mem_range.2 (by omega))
  | 47, _ => exact List.all_eq_true.1 ps_47 r (List.mem_range.2 (by omega))
  | 48, _ => exact List.all_eq_true.1 ps_48 r (List.mem_range.2 (by omega))
  | 49, _ => exact List.all_eq_true.1 ps_49 r (List.mem_range.2 (by omega))
  | 50, _ => exact List.all_eq_true.1 ps_50 r (List.mem_range.2 (by omega))
  | 51, _ => exact List.all_eq_true.1 ps_51 r (List.mem_range.2 (by omega))
  | 52, _ => exact List.all_eq_true.1 ps_52 r (List.mem_range.2 (by omega))
  | 53, _ => exact List.all_eq_true.1 ps_53 r (List.mem_range.2 (by omega))
  | 54, _ => exact List.all_eq_true.1 ps_54 r (List.mem_range.2 (by omega))
  | 55, _ => exact List.all_eq_true.1 ps_55 r (List.mem_range.2 (by omega))
  | 56, _ => exact List.all_eq_true.1 ps_56 r (List.mem_range.2 (by omega))
  | 57, _ => exact List.all_eq_true.1 ps_57 r (List.mem_range.2 (by omega))
  | 58, _ => exact List.all_eq_true.1 ps_58 r (List.mem_range.2 (by omega))
  | 59, _ => exact List.all_eq_true.1 ps_59 r (List.mem_range.2 (by omega))
  | 60, _ => exact List.all_eq_true.1 ps_60 r (List.mem_range.2 (by omega))
  | 61, _ => exact List.all_eq_true.1 ps_61 r (List.mem_range.2 (by omega))
  | 62, _ => exact List.all_eq_true.1 ps_62 r (List.mem_range.2 (by omega))
  | 63, _ => exact List.all_eq_true.1 ps_63 r (List.mem_range.2 (by omega))
  | 64, _ => exact List.all_eq_true.1 ps_64 r (List.mem_range.2 (by omega))
  | 65, _ => exact List.all_eq_true.1 ps_65 r (List.mem_range.2 (by omega))
  | 66, _ => exact List.all_eq_true.1 ps_66 r (List.mem_range.2 (by omega))
  | 67, _ => exact List.all_eq_true.1 ps_67 r (List.mem_range.2 (by omega))
  | 68, _ => exact List.all_eq_true.1 ps_68 r (List.mem_range.2 (by omega))
  | 69, _ => exact List.all_eq_true.1 ps_69 r (List.mem_range.2 (by omega))
  | 70, _ => exact List.all_eq_true.1 ps_70 r (List.mem_range.2 (by omega))
  | 71, _ => exact List.all_eq_true.1 ps_71 r (List.mem_range.2 (by omega))
  | 72, _ => exact List.all_eq_true.1 ps_72 r (List.mem_range.2 (by omega))
  | 73, _ => exact List.all_eq_true.1 ps_73 r (List.mem_range.2 (by omega))
  | 74, _ => exact List.all_eq_true.1 ps_74 r (List.mem_range.2 (by omega))
  | 75, _ => exact List.all_eq_true.1 ps_75 r (List.mem_range.2 (by omega))
  | 76, _ => exact List.all_eq_true.1 ps_76 r (List.mem_range.2 (by omega))
  | 77, _ => exact List.all_eq_true.1 ps_77 r (List.mem_range.2 (by omega))
  | 78, _ => exact List.all_eq_true.1 ps_78 r (List.mem_range.2 (by omega))
  | 79, _ => exact List.all_eq_true.1 ps_79 r (List.mem_range.2 (by omega))
  | 80, _ => exact List.all_eq_true.1 ps_80 r (List.mem_range.2 (by omega))
  | 81, _ => exact List.all_eq_true.1 ps_81 r (List.mem_range.2 (by omega))
  | 82, _ => exact List.all_eq_true.1 ps_82 r (List.mem_range.2 (by omega))
  | 83, _ => exact List.all_eq_true.1 ps_83 r (List.mem_range.2 (by omega))
  | 84, _ => exact List.all_eq_true.1 ps_84 r (List.mem_range.2 (by omega))
  | 85, _ => exact List.all_eq_true.1 ps_85 r (List.mem_range.2 (by omega))
  | 86, _ => exact List.all_eq_true.1 ps_86 r (List.mem_range.2 (by omega))
  | 87, _ => exact List.all_eq_true.1 ps_87 r (List.mem_range.2 (by omega))
  | 88, _ => exact List.all_eq_true.1 ps_88 r (List.mem_range.2 (by omega))
  | 89, _ => exact List.all_eq_true.1 ps_89 r (List.mem_range.2 (by omega))
  | 90, _ => exact List.all_eq_true.1 ps_90 r (List.mem_range.2 (by omega))
  | 91, _ => exact List.all_eq_true.1 ps_91 r (List.mem_range.2 (by omega))
  | 92, _ => exact List.all_eq_true.1 ps_92 r (List.mem_range.2 (by omega))
  | 93, _ => exact List.all_eq_true.1 ps_93 r (List.mem_range.2 (by omega))
  | 94, _ => exact List.all_eq_true.1 ps_94 r (List.mem_range.2 (by omega))
  | 95, _ => exact List.all_eq_true.1 ps_95 r (List.mem_range.2 (by omega))
  | q + 96, h => exact absurd h (by omega)

theorem plainSleep_calls (op word value at' : Int) (W : World)
    (hc : W.cell? ⟨0, 0, none⟩ = some (.iface 174 (.agg #[.pointer (some ⟨4, 67, none⟩)]))) :
    Calls Tryz.prog 6 #[.int .i64 op, .int .u64 word, .int .u64 value, .int .i64 at'] W fun e W' => e = .returned (.bool true) ∧ Go.RowKit.Grown W W' := by
  let val : Nat → Int := fun i => match i with
    | 0 => op | 1 => word | 2 => value | 3 => at' | 4 => op.tmod 4 | 5 => wr .i64 (op.tmod 4 + 4) | 6 => at'.tmod 16 | 7 => wr .i64 (at'.tmod 16 + 16) | 8 => wr .i64 word | _ => wr .i64 value
  have hf0 : 0 ≤ op % 4 := Int.emod_nonneg _ (by decide)
  have hf1 : op % 4 < 4 := Int.emod_lt_of_pos _ (by decide)
  have ha0 : 0 ≤ at' % 16 := Int.emod_nonneg _ (by decide)
  have ha1 : at' % 16 < 16 := Int.emod_lt_of_pos _ (by decide)
  obtain ⟨o, ho, hcmp⟩ : ∃ o, o < 3 ∧ ∀ x ∈ ansCmp o, AnsOk val x := by
    have key : ∀ o, (o = 0 ∧ word = value ∨ o = 1 ∧ word < value ∨ o = 2 ∧ value < word) → ∀ x ∈ ansCmp o, AnsOk val x := by
      intro o h x hx
      simp only [ansCmp, List.mem_cons, List.not_mem_nil, or_false] at hx
      rcases h with ⟨rfl, h⟩ | ⟨rfl, h⟩ | ⟨rfl, h⟩ <;> rcases hx with rfl | rfl | rfl | rfl | rfl | rfl <;> simp [AnsOk, evBin0, V.conc, val, Nat.beq] <;> omega
    rcases Int.lt_trichotomy word value with h | h | h
    · exact ⟨1, by decide, key 1 (.inr (.inl ⟨rfl, h⟩))⟩
    · exact ⟨0, by decide, key 0 (.inl ⟨rfl, h⟩)⟩
    · exact ⟨2, by decide, key 2 (.inr (.inr ⟨rfl, h⟩))⟩
  have hcc := ps_all (48 * (op % 4).toNat + 3 * (at' % 16).toNat + o) (by omega)
  have e1 : Nat.div (48 * (op % 4).toNat + 3 * (at' % 16).toNat + o) 48 = (op % 4).toNat := by show _ / 48 = _; omega
  have e2 : Nat.mod (Nat.div (48 * (op % 4).toNat + 3 * (at' % 16).toNat + o) 3) 16 = (at' % 16).toNat := by show (_ / 3) % 16 = _; omega
  have e3 : Nat.mod (48 * (op % 4).toNat + 3 * (at' % 16).toNat + o) 3 = o := by show _ % 3 = _; omega
  unfold runPS at hcc
  rw [e1, e2, e3] at hcc
  have hl : ∀ x ∈ ansPS (op % 4).toNat (at' % 16).toNat o, AnsOk val x := by
    intro x hx
    unfold ansPS at hx
    rw [List.mem_append, List.mem_append] at hx
    rcases hx with (hx | hx) | hx
    · exact ansMod_ok (val := val) (by decide) (by decide) rfl rfl x hx
    · exact ansMod_ok (val := val) (by decide) (by decide) rfl rfl x hx
    · exact hcmp x hx
  have hcv : ∀ x ∈ cvPS, CvOk val x := by
    intro x hx
    simp only [cvPS, List.mem_cons, List.not_mem_nil, or_false] at hx
    rcases hx with rfl | rfl <;> exact ⟨_, _, rfl, rfl⟩
  let S := sigK val (ansPS (op % 4).toNat (at' % 16).toNat o) cvPS hl hcv
  have hlr : @LRel S (rhoMin W 4) [.sym .i64 0, .sym .u64 1, .sym .u64 2, .sym .i64 3] [.int .i64 op, .int .u64 word, .int .u64 value, .int .i64 at'] :=
    @LRel.cons S _ _ _ _ _ (@VRel.sym S _ .i64 0) (@LRel.cons S _ _ _ _ _ (@VRel.sym S _ .u64 1) (@LRel.cons S _ _ _ _ _ (@VRel.sym S _ .u64 2) (@LRel.one S _ _ _ (@VRel.sym S _ .i64 3))))
  exact law_calls S (fuel := 100000) (n := 49) (by kernel_rfl) hcc hc hlr
end Go.Proofs.YtinopjbpjopdcaaGreatDoor
