import Derived.Test.YtinopjbpjopdcaaGreatDoorEvTopF
import Derived.Test.YtinopjbpjopdcaaGreatDoorEvFt
import Derived.Test.YtinopjbpjopdcaaGreatDoorEvAs
/-! The calls that are no table's: package errors, by their contracts. -/
namespace Go.Proofs.YtinopjbpjopdcaaGreatDoor
open Go.Ev Go.RowKit Go.Extern.Stop Go.Stop Go.Extern

theorem follows : Tryz.prog.follows .mixedOrders = true := by kernel_rfl
theorem gsize : 4 = Tryz.prog.globals.size := by kernel_rfl

theorem asOk : AsOk Tryz.prog 97 0 4 174 67 122 162 :=
  ⟨by kernel_rfl, as_nil, fun e t old w h1 h2 h3 => (as_hit e t old w h1 h2 h3).mono fun ev w' ⟨k1, k2⟩ => ⟨k1, _, _, _, _, _, _, _, _, k2⟩⟩

theorem typeOfNil (w : World) : (ReflectliteType.typeOf #[.nilIface]).run Tryz.prog w = .ok .nilIface w := by kernel_rfl
theorem cmpOne (w : World) : (ReflectliteType.method (fun t => do Rtype.noPackHeld "Comparable" t; pure (.bool (← typeInfo t).comparable)) #[.agg #[.pointer (some ⟨4, 122, none⟩)]]).run Tryz.prog w = .ok (.bool true) w := by kernel_rfl

theorem callTy0 (w : World) : (callFunc 78 #[.nilIface]).run Tryz.prog w = .ok (.value .nilIface) w := by
  have h := @run_callFunc_extern Tryz.prog 78 _ ReflectliteType.typeOf Tryz.func78 (by kernel_rfl) (by kernel_rfl) (by kernel_rfl) (by kernel_rfl)
  rw [h, typeOfNil]
  rfl
theorem callTy1 (v : Value) (w : World) : (callFunc 78 #[.iface 122 v]).run Tryz.prog w = .ok (.value (.iface 174 (.agg #[.pointer (some ⟨4, 122, none⟩)]))) w := by
  have h := @run_callFunc_extern Tryz.prog 78 _ ReflectliteType.typeOf Tryz.func78 (by kernel_rfl) (by kernel_rfl) (by kernel_rfl) (by kernel_rfl)
  rw [h, Tryz.typeOf25]
  rfl
theorem callCmp (w : World) : (callFunc 180 #[.agg #[.pointer (some ⟨4, 122, none⟩)]]).run Tryz.prog w = .ok (.value (.bool true)) w := by
  have h := @run_callFunc_extern Tryz.prog 180 _ (ReflectliteType.method (fun t => do Rtype.noPackHeld "Comparable" t; pure (.bool (← typeInfo t).comparable))) Tryz.func180 (by kernel_rfl) (by kernel_rfl) (by kernel_rfl) (by kernel_rfl)
  rw [h, cmpOne]
  rfl

def orc0 (f : FuncId) : Option (List V → H → Option (V × H)) :=
  bif Nat.beq f 97 then some (asO 0 4 174 67 122 162)
  else bif Nat.beq f 78 then some (tyO 4 174 122)
  else bif Nat.beq f 180 then some (cmpO 4 122) else none
def ts0 (t : TypeId) : Option Sh := bif Nat.beq t 122 then some .ptr else none
noncomputable def cx0 : FCx := ⟨fft, ts0, orc0⟩
def hM : H := hMin 0 4 174 67

theorem ts_ok : TsOk Tryz.prog ts0 := by
  intro t s h
  unfold ts0 at h
  cases hb : Nat.beq t 122 with
  | false => rw [hb] at h; cases h
  | true =>
    rw [hb] at h
    simp only [cond_true, Option.some.injEq] at h
    have hb := nbeq hb
    subst hb; subst h
    have hc : (Tryz.prog.info? 122).map (·.comparable) = some true := by kernel_rfl
    rw [Option.map_eq_some_iff] at hc
    exact ⟨by kernel_rfl, by simp, by simp, hc⟩

section
variable [inst : Sig]
theorem orc0_ok (base : Nat) (f : FuncId) (g : List V → H → Option (V × H)) (h : orc0 f = some g) : OrcOk Tryz.prog base f g := by
  unfold orc0 at h
  cases h1 : Nat.beq f 97 with
  | true =>
    rw [h1] at h
    simp only [cond_true, Option.some.injEq] at h
    have h1 := nbeq h1
    subst h1; subst h
    have hg0 : 0 ≤ Tryz.prog.globals.size := Nat.le_trans (by decide) (Nat.le_of_eq gsize)
    exact @as_ok inst Tryz.prog base 97 0 4 174 67 122 162 asOk gsize hg0
  | false =>
    rw [h1] at h
    simp only [cond_false] at h
    cases h2 : Nat.beq f 78 with
    | true =>
      rw [h2] at h
      simp only [cond_true, Option.some.injEq] at h
      have h2 := nbeq h2
      subst h2; subst h
      exact @ty_ok inst Tryz.prog base 78 4 174 122 gsize callTy0 callTy1
    | false =>
      rw [h2] at h
      simp only [cond_false] at h
      cases h3 : Nat.beq f 180 with
      | true =>
        rw [h3] at h
        simp only [cond_true, Option.some.injEq] at h
        have h3 := nbeq h3
        subst h3; subst h
        exact @cmp_ok inst Tryz.prog base 180 4 122 gsize callCmp
      | false => rw [h3] at h; cases h
theorem cx0_ok (base : Nat) : OrcSound Tryz.prog base cx0.toCx := @orcs_of inst Tryz.prog base cx0.toCx (@orc0_ok inst base)
end
end Go.Proofs.YtinopjbpjopdcaaGreatDoor
