import Derived.Test.YtolngjaihlggnaaGreatDoorEvBegun
import Derived.RowKit3
/-! Remainders of numbers that are not known, by a table. -/
namespace Go.Proofs.YtolngjaihlggnaaGreatDoor
open Go.Ev

def lookM (i : Nat) (m : Int) : List (Nat × Int × Int) → Option Int
  | [] => none
  | (j, n, r) :: l => bif Nat.beq i j && decide (m = n) then some r else lookM i m l

def binM (l : List (Nat × Int × Int)) (op : BinOp) (a b : V) : Option V :=
  match op, a, b with
  | .rem, .sym k i, .int k' m => if k = k' then (lookM i m l).map (V.int k) else none
  | _, _, _ => none

theorem binM_ok {val : Nat → Int} {l : List (Nat × Int × Int)} (h : ∀ i m r, lookM i m l = some r → m ≠ 0 ∧ (val i).tmod m = r) (op : BinOp) (a b v : V) (hv : binM l op a b = some v) :
    evBin0 op (a.conc val) (b.conc val) = some (v.conc val) := by
  unfold binM at hv
  split at hv
  · split at hv
    · rename_i hk
      subst hk
      rw [Option.map_eq_some_iff] at hv
      obtain ⟨r, h1, rfl⟩ := hv
      obtain ⟨h2, h3⟩ := h _ _ _ h1
      simp [V.conc, evBin0, h2, h3]
    · cases hv
  · cases hv

@[reducible] def tabM (l : List (Nat × Int × Int)) : Tab := ⟨binM l, fun _ _ => none, fun _ _ => none⟩

@[reducible] def sigM (val : Nat → Int) (l : List (Nat × Int × Int)) (h : ∀ i m r, lookM i m l = some r → m ≠ 0 ∧ (val i).tmod m = r) : Sig where
  toTab := tabM l
  val := val
  bin_ok := fun op a b v hv => binM_ok h op a b v hv
  cvi_ok := fun k a v hv => (by cases hv)
  eqi_ok := fun a b q hv => (by cases hv)

theorem grown_of_ext [Sig] {ρ ρ' : Rho} {h h' : H} {w w' : World} (hx : Ext ρ h w ρ' h' w') (hno : ∀ b, ¬ own h b) : Go.RowKit.Grown w w' :=
  ⟨kept_of_ext hx hno _, hx.frz, hx.size⟩

/-- A law whose run comes to 'true'. -/
theorem law_calls [inst : Sig] {fuel n f : Nat} (ho : cx1.orc f = none) {az : List V} (hev : isT (evCall cx1 fuel (n + 1) f az hM) = true) {W : World}
    (hc : W.cell? ⟨0, 0, none⟩ = some (.iface 153 (.agg #[.pointer (some ⟨4, 123, none⟩)]))) {az' : List Value} (ha : LRel (rhoMin W 4) az az') :
    Calls Tryz.prog f az'.toArray W fun e W' => e = .returned (.bool true) ∧ Go.RowKit.Grown W W' := by
  obtain ⟨h', he⟩ := isT_some hev
  refine (@top_calls inst Tryz.prog W.heap.size (rhoMin W 4) hM h' W cx1 follows ts_ok ft_ok (@cx1_ok inst _) fuel n f ho az _ he (@pinsMin inst Tryz.prog W 4 gsize) (@relMin inst W 0 4 153 123 (by decide) hc) az' ha).mono fun r w' ⟨v', h1, ρ', h2, h3, h4⟩ => ?_
  cases h4
  exact ⟨h1, grown_of_ext h3 hMin_own⟩
end Go.Proofs.YtolngjaihlggnaaGreatDoor
