import Derived.Test.YtolngjaihlggnaaGreatDoorEvSymD
/-! Open loops: numbers that are known take their names' places. -/
namespace Go.Ev
set_option linter.unusedVariables false
set_option linter.unusedSimpArgs false
set_option linter.unusedSectionVars false

def v1i (κ : Nat → Option Int) : V → V → Bool
  | .int k a, .sym j i => decide (k = j) && (match κ i with | some z => decide (a = z) | none => false)
  | .top, .top => true
  | .slv b o i l, .slv b' o' i' l' => Nat.beq b b' && Nat.beq o o' && Nat.beq i i' && Nat.beq l l'
  | p, q => V.beq p q
def viL (κ : Nat → Option Int) : List V → List V → Bool
  | [], [] => true
  | p :: ps, q :: qs => v1i κ p q && viL κ ps qs
  | _, _ => false
def viE (κ : Nat → Option Int) : List (Nib × Nib × V) → List (Nib × Nib × V) → Bool
  | [], [] => true
  | p :: ps, q :: qs => Nat.beq (tnat p.1 p.2.1) (tnat q.1 q.2.1) && v1i κ p.2.2 q.2.2 && viE κ ps qs
  | _, _ => false
def viB (κ : Nat → Option Int) : List (Nat × Blk) → List (Nat × Blk) → Bool
  | [], [] => true
  | (a, .cells ps r) :: p, (b, .cells qs r') :: q => Nat.beq a b && (r == r') && viL κ ps qs && viB κ p q
  | _, _ => false
def Pat.inst (κ : Nat → Option Int) (p q : Pat) : Bool := Nat.beq p.nx q.nx && viE κ p.pe q.pe && viB κ p.pb q.pb

section
variable {inst : Sig} {κ : Nat → Option Int} (hκ : ∀ i z, κ i = some z → inst.val i = z)
include hκ

theorem v1i_ok {ρ : Rho} {p q : V} {x : Value} (hm : v1i κ p q = true) (h : @VRel inst ρ q x) : @VRel inst ρ p x := by
  have same : V.beq p q = true → @VRel inst ρ p x := fun hb => by rw [V.beq_eq _ _ hb]; exact h
  cases p with
  | int k a =>
    cases q with
    | sym j i =>
      simp only [v1i, Bool.and_eq_true, decide_eq_true_eq] at hm
      obtain ⟨rfl, hm⟩ := hm
      cases hk : κ i with
      | none => rw [hk] at hm; cases hm
      | some z =>
        rw [hk] at hm
        simp only [decide_eq_true_eq] at hm
        subst hm
        have := hκ i _ hk
        cases h
        rw [this]
        exact @VRel.int inst _ _ _
    | _ => exact same hm
  | top => cases q <;> first | exact h | exact same hm
  | slv b o i l =>
    cases q with
    | slv b' o' i' l' =>
      simp only [v1i, Bool.and_eq_true] at hm
      rw [nbeq hm.1.1.1, nbeq hm.1.1.2, nbeq hm.1.2, nbeq hm.2]
      exact h
    | _ => exact same hm
  | _ => exact same hm

theorem viL_ok {ρ : Rho} : ∀ {ps qs : List V} {xs : List Value}, viL κ ps qs = true → @LRel inst ρ qs xs → @LRel inst ρ ps xs
  | [], [], xs, _, h => h
  | p :: ps, q :: qs, xs, hm, h => by
    simp only [viL, Bool.and_eq_true] at hm
    match xs, h.1 with
    | x :: xs, hl =>
      have h0 := h.2 0 q x rfl rfl
      have hr : @LRel inst ρ qs xs := ⟨by simpa using hl, fun i a b ha hb => h.2 (i + 1) a b (by simpa using ha) (by simpa using hb)⟩
      exact @LRel.cons inst _ _ _ _ _ (v1i_ok hκ hm.1 h0) (viL_ok hm.2 hr)
  | [], _ :: _, _, hm, _ => by cases hm
  | _ :: _, [], _, hm, _ => by cases hm
end

theorem viL_len {κ : Nat → Option Int} : ∀ {ps qs : List V}, viL κ ps qs = true → ps.length = qs.length
  | [], [], _ => rfl
  | p :: ps, q :: qs, hm => by
    simp only [viL, Bool.and_eq_true] at hm
    simp [viL_len hm.2]
  | [], _ :: _, hm => by cases hm
  | _ :: _, [], hm => by cases hm

theorem viE_ok {κ : Nat → Option Int} : ∀ {l l' : List (Nib × Nib × V)} {t : Nat} {v : V}, viE κ l l' = true → (envS l).get t = some v → ∃ v', (envS l').get t = some v' ∧ v1i κ v v' = true
  | [], [], t, v, _, h => by simp [envS, T.get] at h
  | p :: l, q :: l', t, v, hm, h => by
    simp only [viE, Bool.and_eq_true] at hm
    have hs := nbeq hm.1.1
    simp only [envS] at h ⊢
    by_cases ht : tnat p.1 p.2.1 = t
    · subst ht
      rw [T.get_set_same] at h
      cases h
      exact ⟨q.2.2, by rw [hs, T.get_set_same], hm.1.2⟩
    · rw [T.get_set_ne _ _ ht] at h
      obtain ⟨v', h1, h2⟩ := viE_ok hm.2 h
      exact ⟨v', by rw [T.get_set_ne _ _ (by rw [← hs]; exact ht)]; exact h1, h2⟩
  | [], _ :: _, _, _, hm, _ => by cases hm
  | _ :: _, [], _, _, hm, _ => by cases hm

theorem viB_ok {κ : Nat → Option Int} : ∀ {l l' : List (Nat × Blk)} {b : Nat} {k : Blk}, viB κ l l' = true → (hT l).get b = some k → ∃ ps qs r, k = .cells ps r ∧ (hT l').get b = some (.cells qs r) ∧ viL κ ps qs = true
  | [], [], b, k, _, h => by simp [hT, T.get] at h
  | (a, .cells ps r) :: l, (a', .cells qs r') :: l', b, k, hm, h => by
    simp only [viB, Bool.and_eq_true, beq_iff_eq] at hm
    obtain ⟨⟨⟨h1, rfl⟩, h3⟩, h4⟩ := hm
    have hs := nbeq h1
    subst hs
    simp only [hT] at h ⊢
    by_cases hb : a = b
    · subst hb
      rw [T.get_set_same] at h
      cases h
      exact ⟨ps, qs, r, rfl, T.get_set_same _ _ _, h3⟩
    · rw [T.get_set_ne _ _ hb] at h
      obtain ⟨p1, q1, r1, g1, g2, g3⟩ := viB_ok h4 h
      exact ⟨p1, q1, r1, g1, by rw [T.get_set_ne _ _ hb]; exact g2, g3⟩
  | [], _ :: _, _, _, hm, _ => by cases hm
  | _ :: _, [], _, _, hm, _ => by simp [viB] at hm
  | (_, .map _) :: _, _ :: _, _, _, hm, _ => by simp [viB] at hm
  | (_, .dead) :: _, _ :: _, _, _, hm, _ => by simp [viB] at hm
  | (_, .cells _ _) :: _, (_, .map _) :: _, _, _, hm, _ => by simp [viB] at hm
  | (_, .cells _ _) :: _, (_, .dead) :: _, _, _, hm, _ => by simp [viB] at hm

/-- ████ Numbers that are known take their names' places. -/
theorem LS.inst {P : Program} {ips : List Inp} {w0 : World} {n : Nat} {inst : Sig} {κ : Nat → Option Int} (hκ : ∀ i z, κ i = some z → inst.val i = z) {p q : Pat} (hm : Pat.inst κ p q = true) {a : Act} {w : World}
    (hs : LS P ips w0 n inst q.e q.h a w) : LS P ips w0 n inst p.e p.h a w := by
  simp only [Pat.inst, Bool.and_eq_true] at hm
  obtain ⟨⟨h1, h2⟩, h3⟩ := hm
  have hnx := nbeq h1
  obtain ⟨⟨ρ, ⟨spins, ⟨senv1, senv2⟩, ⟨sblk, sdom, sinj, ssz⟩⟩, hρ⟩, hfr, hdf⟩ := hs
  refine ⟨⟨ρ, ⟨spins, ⟨senv1, fun t v ht => ?_⟩, ⟨fun b k e1 g1 g2 => ?_, fun b e1 g1 => ?_, ?_, ssz⟩⟩, hρ⟩, hfr, hdf⟩
  · obtain ⟨v', k1, k2⟩ := viE_ok h2 ht
    obtain ⟨x, k3, k4⟩ := senv2 t v' k1
    exact ⟨x, k3, v1i_ok hκ k2 k4⟩
  · obtain ⟨ps, qs, r, rfl, k1, k2⟩ := viB_ok h3 g1
    obtain ⟨c, ty, fr, m1', m2', ⟨m3, m4⟩, m5⟩ := sblk b _ e1 k1 g2
    exact ⟨c, ty, fr, m1', m2', ⟨by rw [viL_len k2]; exact m3, by rw [viL_len k2]; exact viL_ok hκ k2 m4⟩, m5⟩
  · show b < p.nx
    rw [hnx]
    exact sdom b e1 g1
  · rintro b b' e1 e2 ⟨k1, g1, o1⟩ ⟨k2, g2, o2⟩ r1 r2 heq
    obtain ⟨ps, qs, r, rfl, q1, _⟩ := viB_ok h3 g1
    obtain ⟨ps', qs', r', rfl, q2, _⟩ := viB_ok h3 g2
    exact sinj b b' e1 e2 ⟨_, q1, o1⟩ ⟨_, q2, o2⟩ r1 r2 heq
end Go.Ev
