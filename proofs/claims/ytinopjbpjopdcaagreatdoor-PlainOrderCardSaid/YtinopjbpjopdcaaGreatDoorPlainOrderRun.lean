import Derived.Test.YtinopjbpjopdcaaGreatDoorEvBegun
import Derived.Test.YtinopjbpjopdcaaGreatDoorEvNum
/-! PlainOrder: the runs, by what 'which' comes to. -/
namespace Go.Proofs.YtinopjbpjopdcaaGreatDoor
open Go.Ev

noncomputable def runPO (i : Nat) : Bool :=
  isTF (fCall (tabK (ansMod 0 1 2 14 i) []) cx1 100000 50 7 [.sym .i64 0] hM)

theorem po_0 : ((List.range 1).all fun d => runPO (0 + d)) = true := by kernel_rfl
theorem po_1 : ((List.range 1).all fun d => runPO (1 + d)) = true := by kernel_rfl
theorem po_2 : ((List.range 1).all fun d => runPO (2 + d)) = true := by kernel_rfl
theorem po_3 : ((List.range 1).all fun d => runPO (3 + d)) = true := by kernel_rfl
theorem po_4 : ((List.range 1).all fun d => runPO (4 + d)) = true := by kernel_rfl
theorem po_5 : ((List.range 1).all fun d => runPO (5 + d)) = true := by kernel_rfl
theorem po_6 : ((List.range 1).all fun d => runPO (6 + d)) = true := by kernel_rfl
theorem po_7 : ((List.range 1).all fun d => runPO (7 + d)) = true := by kernel_rfl
theorem po_8 : ((List.range 1).all fun d => runPO (8 + d)) = true := by kernel_rfl
theorem po_9 : ((List.range 1).all fun d => runPO (9 + d)) = true := by kernel_rfl
theorem po_10 : ((List.range 1).all fun d => runPO (10 + d)) = true := by kernel_rfl
theorem po_11 : ((List.range 1).all fun d => runPO (11 + d)) = true := by kernel_rfl
theorem po_12 : ((List.range 1).all fun d => runPO (12 + d)) = true := by kernel_rfl
theorem po_13 : ((List.range 1).all fun d => runPO (13 + d)) = true := by kernel_rfl
theorem po_all : ∀ i, i < 14 → runPO i = true := by
  intro i hi
  have hq : i = 1 * (i / 1) + i % 1 := (Nat.div_add_mod i 1).symm
  have hr : i % 1 < 1 := Nat.mod_lt _ (by decide)
  have hd : i / 1 < 14 := by omega
  generalize i / 1 = q at hq hd
  generalize i % 1 = r at hq hr
  subst hq
  match q, hd with
  | 0, _ => exact List.all_eq_true.1 po_0 r (List.mem_range.2 (by omega))
  | 1, _ => exact List.all_eq_true.1 po_1 r (List.mem_range.2 (by omega))
  | 2, _ => exact List.all_eq_true.1 po_2 r (List.mem_range.2 (by omega))
  | 3, _ => exact List.all_eq_true.1 po_3 r (List.mem_range.2 (by omega))
  | 4, _ => exact List.all_eq_true.1 po_4 r (List.mem_range.2 (by omega))
  | 5, _ => exact List.all_eq_true.1 po_5 r (List.mem_range.2 (by omega))
  | 6, _ => exact List.all_eq_true.1 po_6 r (List.mem_range.2 (by omega))
  | 7, _ => exact List.all_eq_true.1 po_7 r (List.mem_range.2 (by omega))
  | 8, _ => exact List.all_eq_true.1 po_8 r (List.mem_range.2 (by omega))
  | 9, _ => exact List.all_eq_true.1 po_9 r (List.mem_range.2 (by omega))
  | 10, _ => exact List.all_eq_true.1 po_10 r (List.mem_range.2 (by omega))
  | 11, _ => exact List.all_eq_true.1 po_11 r (List.mem_range.2 (by omega))
  | 12, _ => exact List.all_eq_true.1 po_12 r (List.mem_range.2 (by omega))
  | 13, _ => exact List.all_eq_true.1 po_13 r (List.mem_range.2 (by omega))
  | q + 14, h => exact absurd h (by omega)

theorem plainOrder_calls (which : Int) (W : World)
    (hc : W.cell? ⟨0, 0, none⟩ = some (.iface 174 (.agg #[.pointer (some ⟨4, 67, none⟩)]))) :
    Calls Tryz.prog 7 #[.int .i64 which] W fun e W' => e = .returned (.bool true) ∧ Go.RowKit.Grown W W' := by
  let val : Nat → Int := fun i => match i with
    | 0 => which | 1 => which.tmod 14 | _ => wr .i64 (which.tmod 14 + 14)
  have hf0 : 0 ≤ which % 14 := Int.emod_nonneg _ (by decide)
  have hf1 : which % 14 < 14 := Int.emod_lt_of_pos _ (by decide)
  have hcc : isTF (fCall (tabK (ansMod 0 1 2 14 (which % 14).toNat) []) cx1 100000 50 7 [.sym .i64 0] hM) = true := po_all (which % 14).toNat (by omega)
  have hl : ∀ x ∈ ansMod 0 1 2 14 (which % 14).toNat, AnsOk val x := fun x hx => ansMod_ok (val := val) (by decide) (by decide) rfl rfl x hx
  let S := sigK val (ansMod 0 1 2 14 (which % 14).toNat) [] hl (fun x hx => by cases hx)
  have hlr : @LRel S (rhoMin W 4) [.sym .i64 0] [.int .i64 which] := @LRel.one S _ _ _ (@VRel.sym S _ .i64 0)
  exact law_calls S (fuel := 100000) (n := 49) (by kernel_rfl) hcc hc hlr
end Go.Proofs.YtinopjbpjopdcaaGreatDoor
