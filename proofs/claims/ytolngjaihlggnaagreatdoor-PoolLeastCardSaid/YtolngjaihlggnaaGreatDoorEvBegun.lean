import Derived.Test.YtolngjaihlggnaaGreatDoorEvOrc
import Derived.RowKit3
/-! The layer's 'begun' comes to 'true', and leaves nothing behind; a law whose run comes to 'true'. -/
namespace Go.Proofs.YtolngjaihlggnaaGreatDoor
open Go.Ev

theorem begun_isT (inst : Tab) : isTF (fCall inst cx0 1000000 60 8 [] hM) = true := by kernel_rfl

def orc1 (f : FuncId) : Option (List V → H → Option (V × H)) :=
  bif Nat.beq f 8 then some (trueO 0 4 153 123) else orc0 f
noncomputable def cx1 : FCx := ⟨fft, ts0, orc1⟩

theorem orc1_ok [inst : Sig] (base : Nat) (f : FuncId) (g : List V → H → Option (V × H)) (h : orc1 f = some g) : OrcOk Tryz.prog base f g := by
  unfold orc1 at h
  cases h1 : Nat.beq f 8 with
  | true =>
    rw [h1] at h
    simp only [cond_true, Option.some.injEq] at h
    have h1 := nbeq h1
    subst h1; subst h
    obtain ⟨hend, he⟩ := isTF_evCall (begun_isT inst.toTab)
    exact @true_ok inst Tryz.prog base cx0.toCx 0 4 153 123 gsize (by decide) follows ts_ok ft_ok (@cx0_ok inst base) 1000000 60 8 hend he
  | false =>
    rw [h1] at h
    exact @orc0_ok inst base f g h
theorem cx1_ok [inst : Sig] (base : Nat) : OrcSound Tryz.prog base cx1.toCx := @orcs_of inst Tryz.prog base cx1.toCx (@orc1_ok inst base)

theorem grown_of_ext [Sig] {ρ ρ' : Rho} {h h' : H} {w w' : World} (hx : Ext ρ h w ρ' h' w') (hno : ∀ b, ¬ own h b) : Go.RowKit.Grown w w' :=
  ⟨kept_of_ext hx hno _, hx.frz, hx.size⟩

/-- A law whose run comes to 'true'. -/
theorem law_calls (inst : Sig) {fuel n f : Nat} (ho : orc1 f = none) {az : List V} (hev : isTF (fCall inst.toTab cx1 fuel (n + 1) f az hM) = true) {W : World}
    (hc : W.cell? ⟨0, 0, none⟩ = some (.iface 153 (.agg #[.pointer (some ⟨4, 123, none⟩)]))) {az' : List Value} (ha : @LRel inst (rhoMin W 4) az az') :
    Calls Tryz.prog f az'.toArray W fun e W' => e = .returned (.bool true) ∧ Go.RowKit.Grown W W' := by
  obtain ⟨h', he⟩ := isTF_evCall hev
  refine (@top_calls inst Tryz.prog W.heap.size (rhoMin W 4) hM h' W cx1.toCx follows ts_ok ft_ok (@cx1_ok inst _) fuel n f ho az _ he (@pinsMin inst Tryz.prog W 4 gsize) (@relMin inst W 0 4 153 123 (by decide) hc) az' ha).mono fun r w' ⟨v', h1, ρ', h2, h3, h4⟩ => ?_
  cases h4
  exact ⟨h1, grown_of_ext h3 hMin_own⟩
end Go.Proofs.YtolngjaihlggnaaGreatDoor
