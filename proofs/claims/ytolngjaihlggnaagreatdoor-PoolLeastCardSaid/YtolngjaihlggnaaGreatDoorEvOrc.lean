import Derived.Test.YtolngjaihlggnaaGreatDoorEvTopF
import Derived.Test.YtolngjaihlggnaaGreatDoorEvFt
import Derived.Test.YtolngjaihlggnaaGreatDoorEvAs
/-! The calls that are no table's: package errors, by their contracts. -/
namespace Go.Proofs.YtolngjaihlggnaaGreatDoor
open Go.Ev Go.RowKit Go.Extern.Stop Go.Stop Go.Extern

theorem follows : Tryz.prog.follows .mixedOrders = true := by kernel_rfl
theorem gsize : 4 = Tryz.prog.globals.size := by kernel_rfl

theorem asOk : AsOk Tryz.prog 79 0 4 153 123 126 136 :=
  ⟨by kernel_rfl, as_nil, fun e t old w h1 h2 h3 => (as_hit e t old w h1 h2 h3).mono fun ev w' ⟨k1, k2⟩ => ⟨k1, _, _, _, _, _, _, _, _, k2⟩⟩

theorem typeOfNil (w : World) : (ReflectliteType.typeOf #[.nilIface]).run Tryz.prog w = .ok .nilIface w := by kernel_rfl
theorem cmpOne (w : World) : (ReflectliteType.method (fun t => do Rtype.noPackHeld "Comparable" t; pure (.bool (← typeInfo t).comparable)) #[.agg #[.pointer (some ⟨4, 126, none⟩)]]).run Tryz.prog w = .ok (.bool true) w := by kernel_rfl

theorem callTy0 (w : World) : (callFunc 80 #[.nilIface]).run Tryz.prog w = .ok (.value .nilIface) w := by
  have h := @run_callFunc_extern Tryz.prog 80 _ ReflectliteType.typeOf Tryz.func80 (by kernel_rfl) (by kernel_rfl) (by kernel_rfl) (by kernel_rfl)
  rw [h, typeOfNil]
  rfl
theorem callTy1 (v : Value) (w : World) : (callFunc 80 #[.iface 126 v]).run Tryz.prog w = .ok (.value (.iface 153 (.agg #[.pointer (some ⟨4, 126, none⟩)]))) w := by
  have h := @run_callFunc_extern Tryz.prog 80 _ ReflectliteType.typeOf Tryz.func80 (by kernel_rfl) (by kernel_rfl) (by kernel_rfl) (by kernel_rfl)
  rw [h, Tryz.typeOf25]
  rfl
theorem callCmp (w : World) : (callFunc 129 #[.agg #[.pointer (some ⟨4, 126, none⟩)]]).run Tryz.prog w = .ok (.value (.bool true)) w := by
  have h := @run_callFunc_extern Tryz.prog 129 _ (ReflectliteType.method (fun t => do Rtype.noPackHeld "Comparable" t; pure (.bool (← typeInfo t).comparable))) Tryz.func129 (by kernel_rfl) (by kernel_rfl) (by kernel_rfl) (by kernel_rfl)
  rw [h, cmpOne]
  rfl

def orc0 (f : FuncId) : Option (List V → H → Option (V × H)) :=
  bif Nat.beq f 79 then some (asO 0 4 153 123 126 136)
  else bif Nat.beq f 80 then some (tyO 4 153 126)
  else bif Nat.beq f 129 then some (cmpO 4 126) else none
def ts0 (t : TypeId) : Option Sh := bif Nat.beq t 126 then some .ptr else none
noncomputable def cx0 : FCx := ⟨fft, ts0, orc0⟩
def hM : H := hMin 0 4 153 123

theorem ts_ok : TsOk Tryz.prog ts0 := by
  intro t s h
  unfold ts0 at h
  cases hb : Nat.beq t 126 with
  | false => rw [hb] at h; cases h
  | true =>
    rw [hb] at h
    simp only [cond_true, Option.some.injEq] at h
    have hb := nbeq hb
    subst hb; subst h
    have hc : (Tryz.prog.info? 126).map (·.comparable) = some true := by kernel_rfl
    rw [Option.map_eq_some_iff] at hc
    exact ⟨by kernel_rfl, by simp, by simp, hc⟩

section
variable [inst : Sig]
theorem orc0_ok (base : Nat) (f : FuncId) (g : List V → H → Option (V × H)) (h : orc0 f = some g) : OrcOk Tryz.prog base f g := by
  unfold orc0 at h
  cases h1 : Nat.beq f 79 with
  | true =>
    rw [h1] at h
    simp only [cond_true, Option.some.injEq] at h
    have h1 := nbeq h1
    subst h1; subst h
    have hg0 : 0 ≤ Tryz.prog.globals.size := Nat.le_trans (by decide) (Nat.le_of_eq gsize)
    exact @as_ok inst Tryz.prog base 79 0 4 153 123 126 136 asOk gsize hg0
  | false =>
    rw [h1] at h
    simp only [cond_false] at h
    cases h2 : Nat.beq f 80 with
    | true =>
      rw [h2] at h
      simp only [cond_true, Option.some.injEq] at h
      have h2 := nbeq h2
      subst h2; subst h
      exact @ty_ok inst Tryz.prog base 80 4 153 126 gsize callTy0 callTy1
    | false =>
      rw [h2] at h
      simp only [cond_false] at h
      cases h3 : Nat.beq f 129 with
      | true =>
        rw [h3] at h
        simp only [cond_true, Option.some.injEq] at h
        have h3 := nbeq h3
        subst h3; subst h
        exact @cmp_ok inst Tryz.prog base 129 4 126 gsize callCmp
      | false => rw [h3] at h; cases h
theorem cx0_ok (base : Nat) : OrcSound Tryz.prog base cx0.toCx := @orcs_of inst Tryz.prog base cx0.toCx (@orc0_ok inst base)
end
end Go.Proofs.YtolngjaihlggnaaGreatDoor
