import Derived.Test.YtolngjaihlggnaaGreatDoorEvBegun
import Derived.Test.YtolngjaihlggnaaGreatDoorEvNum
/-! MemOwn: the runs, by what 'f' and 'at' come to. -/
namespace Go.Proofs.YtolngjaihlggnaaGreatDoor
open Go.Ev

noncomputable def ansMO (c d : Nat) : List Ans := ansMod 0 3 4 16 c ++ ansMod 1 5 6 16 d ++ [⟨.eql, .sym .u64 2, .sym .u64 2, .bool true⟩, ⟨.neq, .sym .u64 2, .sym .u64 2, .bool false⟩]
noncomputable def runMO (i : Nat) : Bool :=
  isTF (fCall (tabK (ansMO (Nat.div i 16) (Nat.mod i 16)) []) cx1 100000 50 7 [.sym .i64 0, .sym .i64 1, .sym .u64 2] hM)

theorem mo_0 : ((List.range 4).all fun d => runMO (0 + d)) = true := by kernel_rfl
theorem mo_1 : ((List.range 4).all fun d => runMO (4 + d)) = true := by kernel_rfl
theorem mo_2 : ((List.range 4).all fun d => runMO (8 + d)) = true := by kernel_rfl
theorem mo_3 : ((List.range 4).all fun d => runMO (12 + d)) = true := by kernel_rfl
theorem mo_4 : ((List.range 4).all fun d => runMO (16 + d)) = true := by kernel_rfl
theorem mo_5 : ((List.range 4).all fun d => runMO (20 + d)) = true := by kernel_rfl
theorem mo_6 : ((List.range 4).all fun d => runMO (24 + d)) = true := by kernel_rfl
theorem mo_7 : ((List.range 4).all fun d => runMO (28 + d)) = true := by kernel_rfl
theorem mo_8 : ((List.range 4).all fun d => runMO (32 + d)) = true := by kernel_rfl
theorem mo_9 : ((List.range 4).all fun d => runMO (36 + d)) = true := by kernel_rfl
theorem mo_10 : ((List.range 4).all fun d => runMO (40 + d)) = true := by kernel_rfl
theorem mo_11 : ((List.range 4).all fun d => runMO (44 + d)) = true := by kernel_rfl
theorem mo_12 : ((List.range 4).all fun d => runMO (48 + d)) = true := by kernel_rfl
theorem mo_13 : ((List.range 4).all fun d => runMO (52 + d)) = true := by kernel_rfl
theorem mo_14 : ((List.range 4).all fun d => runMO (56 + d)) = true := by kernel_rfl
theorem mo_15 : ((List.range 4).all fun d => runMO (60 + d)) = true := by kernel_rfl
theorem mo_16 : ((List.range 4).all fun d => runMO (64 + d)) = true := by kernel_rfl
theorem mo_17 : ((List.range 4).all fun d => runMO (68 + d)) = true := by kernel_rfl
theorem mo_18 : ((List.range 4).all fun d => runMO (72 + d)) = true := by kernel_rfl
theorem mo_19 : ((List.range 4).all fun d => runMO (76 + d)) = true := by kernel_rfl
theorem mo_20 : ((List.range 4).all fun d => runMO (80 + d)) = true := by kernel_rfl
theorem mo_21 : ((List.range 4).all fun d => runMO (84 + d)) = true := by kernel_rfl
theorem mo_22 : ((List.range 4).all fun d => runMO (88 + d)) = true := by kernel_rfl
theorem mo_23 : ((List.range 4).all fun d => runMO (92 + d)) = true := by kernel_rfl
theorem mo_24 : ((List.range 4).all fun d => runMO (96 + d)) = true := by kernel_rfl
theorem mo_25 : ((List.range 4).all fun d => runMO (100 + d)) = true := by kernel_rfl
theorem mo_26 : ((List.range 4).all fun d => runMO (104 + d)) = true := by kernel_rfl
theorem mo_27 : ((List.range 4).all fun d => runMO (108 + d)) = true := by kernel_rfl
theorem mo_28 : ((List.range 4).all fun d => runMO (112 + d)) = true := by kernel_rfl
theorem mo_29 : ((List.range 4).all fun d => runMO (116 + d)) = true := by kernel_rfl
theorem mo_30 : ((List.range 4).all fun d => runMO (120 + d)) = true := by kernel_rfl
theorem mo_31 : ((List.range 4).all fun d => runMO (124 + d)) = true := by kernel_rfl
theorem mo_32 : ((List.range 4).all fun d => runMO (128 + d)) = true := by kernel_rfl
theorem mo_33 : ((List.range 4).all fun d => runMO (132 + d)) = true := by kernel_rfl
theorem mo_34 : ((List.range 4).all fun d => runMO (136 + d)) = true := by kernel_rfl
theorem mo_35 : ((List.range 4).all fun d => runMO (140 + d)) = true := by kernel_rfl
theorem mo_36 : ((List.range 4).all fun d => runMO (144 + d)) = true := by kernel_rfl
theorem mo_37 : ((List.range 4).all fun d => runMO (148 + d)) = true := by kernel_rfl
theorem mo_38 : ((List.range 4).all fun d => runMO (152 + d)) = true := by kernel_rfl
theorem mo_39 : ((List.range 4).all fun d => runMO (156 + d)) = true := by kernel_rfl
theorem mo_40 : ((List.range 4).all fun d => runMO (160 + d)) = true := by kernel_rfl
theorem mo_41 : ((List.range 4).all fun d => runMO (164 + d)) = true := by kernel_rfl
theorem mo_42 : ((List.range 4).all fun d => runMO (168 + d)) = true := by kernel_rfl
theorem mo_43 : ((List.range 4).all fun d => runMO (172 + d)) = true := by kernel_rfl
theorem mo_44 : ((List.range 4).all fun d => runMO (176 + d)) = true := by kernel_rfl
theorem mo_45 : ((List.range 4).all fun d => runMO (180 + d)) = true := by kernel_rfl
theorem mo_46 : ((List.range 4).all fun d => runMO (184 + d)) = true := by kernel_rfl
theorem mo_47 : ((List.range 4).all fun d => runMO (188 + d)) = true := by kernel_rfl
theorem mo_48 : ((List.range 4).all fun d => runMO (192 + d)) = true := by kernel_rfl
theorem mo_49 : ((List.range 4).all fun d => runMO (196 + d)) = true := by kernel_rfl
theorem mo_50 : ((List.range 4).all fun d => runMO (200 + d)) = true := by kernel_rfl
theorem mo_51 : ((List.range 4).all fun d => runMO (204 + d)) = true := by kernel_rfl
theorem mo_52 : ((List.range 4).all fun d => runMO (208 + d)) = true := by kernel_rfl
theorem mo_53 : ((List.range 4).all fun d => runMO (212 + d)) = true := by kernel_rfl
theorem mo_54 : ((List.range 4).all fun d => runMO (216 + d)) = true := by kernel_rfl
theorem mo_55 : ((List.range 4).all fun d => runMO (220 + d)) = true := by kernel_rfl
theorem mo_56 : ((List.range 4).all fun d => runMO (224 + d)) = true := by kernel_rfl
theorem mo_57 : ((List.range 4).all fun d => runMO (228 + d)) = true := by kernel_rfl
theorem mo_58 : ((List.range 4).all fun d => runMO (232 + d)) = true := by kernel_rfl
theorem mo_59 : ((List.range 4).all fun d => runMO (236 + d)) = true := by kernel_rfl
theorem mo_60 : ((List.range 4).all fun d => runMO (240 + d)) = true := by kernel_rfl
theorem mo_61 : ((List.range 4).all fun d => runMO (244 + d)) = true := by kernel_rfl
theorem mo_62 : ((List.range 4).all fun d => runMO (248 + d)) = true := by kernel_rfl
theorem mo_63 : ((List.range 4).all fun d => runMO (252 + d)) = true := by kernel_rfl
theorem mo_all : ∀ i, i < 256 → runMO i = true := by
  intro i hi
  have hq : i = 4 * (i / 4) + i % 4 := (Nat.div_add_mod i 4).symm
  have hr : i % 4 < 4 := Nat.mod_lt _ (by decide)
  have hd : i / 4 < 64 := by omega
  generalize i / 4 = q at hq hd
  generalize i % 4 = r at hq hr
  subst hq
  match q, hd with
  | 0, _ => exact List.all_eq_true.1 mo_0 r (List.mem_range.2 (by omega))
  | 1, _ => exact List.all_eq_true.1 mo_1 r (List.mem_range.2 (by omega))
  | 2, _ => exact List.all_eq_true.1 mo_2 r (List.mem_range.2 (by omega))
  | 3, _ => exact List.all_eq_true.1 mo_3 r (List.mem_range.2 (by omega))
  | 4, _ => exact List.all_eq_true.1 mo_4 r (List.mem_range.2 (by omega))
  | 5, _ => exact List.all_eq_true.1 mo_5 r (List.mem_range.2 (by omega))
  | 6, _ => exact List.all_eq_true.1 mo_6 r (List.mem_range.2 (by omega))
  | 7, _ => exact List.all_eq_true.1 mo_7 r (List.mem_range.2 (by omega))
  | 8, _ => exact List.all_eq_true.1 mo_8 r (List.mem_range.2 (by omega))
  | 9, _ => exact List.all_eq_true.1 mo_9 r (List.mem_range.2 (by omega))
  | 10, _ => exact List.all_eq_true.1 mo_10 r (List.mem_range.2 (by omega))
  | 11, _ => exact List.all_eq_true.1 mo_11 r (List.mem_range.2 (by omega))
  | 12, _ => exact List.all_eq_true.1 mo_12 r (List.mem_range.2 (by omega))
  | 13, _ => exact List.all_eq_true.1 mo_13 r (List.mem_range.2 (by omega))
  | 14, _ => exact List.all_eq_true.1 mo_14 r (List.mem_range.2 (by omega))
  | 15, _ => exact List.all_eq_true.1 mo_15 r (List.mem_range.2 (by omega))
  | 16, _ => exact List.all_eq_true.1 mo_16 r (List.mem_range.2 (by omega))
  | 17, _ => exact List.all_eq_true.1 mo_17 r (List.mem_range.2 (by omega))
  | 18, _ => exact List.all_eq_true.1 mo_18 r (List.mem_range.2 (by omega))
  | 19, _ => exact List.all_eq_true.1 mo_19 r (List.mem_range.2 (by omega))
  | 20, _ => exact List.all_eq_true.1 mo_20 r (List.mem_range.2 (by omega))
  | 21, _ => exact List.all_eq_true.1 mo_21 r (List.mem_range.2 (by omega))
  | 22, _ => exact List.all_eq_true.1 mo_22 r (List.mem_range.2 (by omega))
  | 23, _ => exact List.all_eq_true.1 mo_23 r (List.mem_range.2 (by omega))
  | 24, _ => exact List.all_eq_true.1 mo_24 r (List.mem_range.2 (by omega))
  | 25, _ => exact List.all_eq_true.1 mo_25 r (List.mem_range.2 (by omega))
  | 26, _ => exact List.all_eq_true.1 mo_26 r (List.mem_range.2 (by omega))
  | 27, _ => exact List.all_eq_true.1 mo_27 r (List.mem_range.2 (by omega))
  | 28, _ => exact List.all_eq_true.1 mo_28 r (List.mem_range.2 (by omega))
  | 29, _ => exact List.all_eq_true.1 mo_29 r (List.mem_range.2 (by omega))
  | 30, _ => exact List.all_eq_true.1 mo_30 r (List.mem_range.2 (by omega))
  | 31, _ => exact List.all_eq_true.1 mo_31 r (List.mem_range.2 (by omega))
  | 32, _ => exact List.all_eq_true.1 mo_32 r (List.mem_range.2 (by omega))
  | 33, _ => exact List.all_eq_true.1 mo_33 r (List.mem_range.2 (by omega))
  | 34, _ => exact List.all_eq_true.1 mo_34 r (List.mem_range.2 (by omega))
  | 35, _ => exact List.all_eq_true.1 mo_35 r (List.mem_range.2 (by omega))
  | 36, _ => exact List.all_eq_true.1 mo_36 r (List.mem_range.2 (by omega))
  | 37, _ => exact List.all_eq_true.1 mo_37 r (List.mem_range.2 (by omega))
  | 38, _ => exact List.all_eq_true.1 mo_38 r (List.mem_range.2 (by omega))
  | 39, _ => exact List.all_eq_true.1 mo_39 r (List.mem_range.2 (by omega))
  | 40, _ => exact List.all_eq_true.1 mo_40 r (List.mem_range.2 (by omega))
  | 41, _ => exact List.all_eq_true.1 mo_41 r (List.mem_range.2 (by omega))
  | 42, _ => exact List.all_eq_true.1 mo_42 r (List.mem_range.2 (by omega))
  | 43, _ => exact List.all_eq_true.1 mo_43 r (List.mem_range.2 (by omega))
  | 44, _ => exact List.all_eq_true.1 mo_44 r (List.mem_range.2 (by omega))
  | 45, _ => exact List.all_eq_true.1 mo_45 r (List.mem_range.2 (by omega))
  | 46, _ => exact List.all_eq_true.1 mo_46 r (List.mem_range.2 (by omega))
  | 47, _ => exact List.all_eq_true.1 mo_47 r (List.mem_range.2 (by omega))
  | 48, _ => exact List.all_eq_true.1 mo_48 r (List.mem_range.2 (by omega))
  | 49, _ => exact List.all_eq_true.1 mo_49 r (List.mem_range.2 (by omega))
  | 50, _ => exact List.all_eq_true.1 mo_50 r (List.mem_range.2 (by omega))
  | 51, _ => exact List.all_eq_true.1 mo_51 r (List.mem_range.2 (by omega))
  | 52, _ => exact List.all_eq_true.1 mo_52 r (List.mem_range.2 (by omega))
  | 53, _ => exact List.all_eq_true.1 mo_53 r (List.mem_range.2 (by omega))
  | 54, _ => exact List.all_eq_true.1 mo_54 r (List.mem_range.2 (by omega))
  | 55, _ => exact List.all_eq_true.1 mo_55 r (List.mem_range.2 (by omega))
  | 56, _ => exact List.all_eq_true.1 mo_56 r (List.mem_range.2 (by omega))
  | 57, _ => exact List.all_eq_true.1 mo_57 r (List.mem_range.2 (by omega))
  | 58, _ => exact List.all_eq_true.1 mo_58 r (List.mem_range.2 (by omega))
  | 59, _ => exact List.all_eq_true.1 mo_59 r (List.mem_range.2 (by omega))
  | 60, _ => exact List.all_eq_true.1 mo_60 r (List.mem_range.2 (by omega))
  | 61, _ => exact List.all_eq_true.1 mo_61 r (List.mem_range.2 (by omega))
  | 62, _ => exact List.all_eq_true.1 mo_62 r (List.mem_range.2 (by omega))
  | 63, _ => exact List.all_eq_true.1 mo_63 r (List.mem_range.2 (by omega))
  | q + 64, h => exact absurd h (by omega)

theorem memOwn_calls (f at' v : Int) (W : World)
    (hc : W.cell? ⟨0, 0, none⟩ = some (.iface 153 (.agg #[.pointer (some ⟨4, 123, none⟩)]))) :
    Calls Tryz.prog 7 #[.int .i64 f, .int .i64 at', .int .u64 v] W fun e W' => e = .returned (.bool true) ∧ Go.RowKit.Grown W W' := by
  let val : Nat → Int := fun i => match i with
    | 0 => f | 1 => at' | 2 => v | 3 => f.tmod 16 | 4 => wr .i64 (f.tmod 16 + 16) | 5 => at'.tmod 16 | _ => wr .i64 (at'.tmod 16 + 16)
  have hf0 : 0 ≤ f % 16 := Int.emod_nonneg _ (by decide)
  have hf1 : f % 16 < 16 := Int.emod_lt_of_pos _ (by decide)
  have ha0 : 0 ≤ at' % 16 := Int.emod_nonneg _ (by decide)
  have ha1 : at' % 16 < 16 := Int.emod_lt_of_pos _ (by decide)
  have hcc := mo_all (16 * (f % 16).toNat + (at' % 16).toNat) (by omega)
  have e1 : (16 * (f % 16).toNat + (at' % 16).toNat) / 16 = (f % 16).toNat := by omega
  have e2 : (16 * (f % 16).toNat + (at' % 16).toNat) % 16 = (at' % 16).toNat := by omega
  have hcc : isTF (fCall (tabK (ansMO ((16 * (f % 16).toNat + (at' % 16).toNat) / 16) ((16 * (f % 16).toNat + (at' % 16).toNat) % 16)) []) cx1 100000 50 7 [.sym .i64 0, .sym .i64 1, .sym .u64 2] hM) = true := hcc
  rw [e1, e2] at hcc
  have hl : ∀ x ∈ ansMO (f % 16).toNat (at' % 16).toNat, AnsOk val x := by
    intro x hx
    unfold ansMO at hx
    rw [List.mem_append, List.mem_append] at hx
    rcases hx with (hx | hx) | hx
    · exact ansMod_ok (by decide) (by decide) rfl rfl x hx
    · exact ansMod_ok (by decide) (by decide) rfl rfl x hx
    · simp only [List.mem_cons, List.not_mem_nil, or_false] at hx
      rcases hx with rfl | rfl <;> simp [AnsOk, evBin0, V.conc]
  let S := sigK val (ansMO (f % 16).toNat (at' % 16).toNat) [] hl (fun x hx => by cases hx)
  have hlr : @LRel S (rhoMin W 4) [.sym .i64 0, .sym .i64 1, .sym .u64 2] [.int .i64 f, .int .i64 at', .int .u64 v] :=
    @LRel.cons S _ _ _ _ _ (@VRel.sym S _ .i64 0) (@LRel.cons S _ _ _ _ _ (@VRel.sym S _ .i64 1) (@LRel.one S _ _ _ (@VRel.sym S _ .u64 2)))
  exact law_calls S (fuel := 100000) (n := 49) (by kernel_rfl) hcc hc hlr
end Go.Proofs.YtolngjaihlggnaaGreatDoor
