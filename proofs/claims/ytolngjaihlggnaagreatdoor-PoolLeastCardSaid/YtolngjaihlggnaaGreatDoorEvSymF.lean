import Derived.Test.YtolngjaihlggnaaGreatDoorEvSymE
/-! Open loops: as EvSymE, of heaps that hold maps too. -/
namespace Go.Ev
set_option linter.unusedVariables false
set_option linter.unusedSimpArgs false
set_option linter.unusedSectionVars false

def v2i (κ : Nat → Option Int) : V → V → Bool
  | .agg ps, .agg qs => viL κ ps qs
  | p, q => v1i κ p q
def viM (κ : Nat → Option Int) : List (V × V) → List (V × V) → Bool
  | [], [] => true
  | p :: ps, q :: qs => v2i κ p.1 q.1 && v2i κ p.2 q.2 && viM κ ps qs
  | _, _ => false
def bI (κ : Nat → Option Int) : Blk → Blk → Bool
  | .cells ps r, .cells qs r' => (r == r') && viL κ ps qs
  | .map ps, .map qs => viM κ ps qs
  | _, _ => false
def viB2 (κ : Nat → Option Int) : List (Nat × Blk) → List (Nat × Blk) → Bool
  | [], [] => true
  | p :: ps, q :: qs => Nat.beq p.1 q.1 && bI κ p.2 q.2 && viB2 κ ps qs
  | _, _ => false
def Pat.instM (κ : Nat → Option Int) (p q : Pat) : Bool := Nat.beq p.nx q.nx && viE κ p.pe q.pe && viB2 κ p.pb q.pb

section
variable {inst : Sig} {κ : Nat → Option Int} (hκ : ∀ i z, κ i = some z → inst.val i = z)
include hκ

theorem v2i_ok {ρ : Rho} {p q : V} {x : Value} (hm : v2i κ p q = true) (h : @VRel inst ρ q x) : @VRel inst ρ p x := by
  cases p with
  | agg ps =>
    cases q with
    | agg qs =>
      cases h with
      | agg _ a' la ha =>
        have := viL_ok (ρ := ρ) hκ (ps := ps) (qs := qs) hm ⟨la, ha⟩
        exact @VRel.agg' inst _ _ _ this
    | _ => exact v1i_ok hκ hm h
  | _ => exact v1i_ok hκ (by cases q <;> exact hm) h

theorem viM_ok {ρ : Rho} : ∀ {ps qs : List (V × V)} {fs : List MapEntry}, viM κ ps qs = true → @MapRel inst ρ qs fs → @MapRel inst ρ ps fs
  | [], [], fs, _, h => h
  | p :: ps, q :: qs, fs, hm, h => by
    simp only [viM, Bool.and_eq_true] at hm
    obtain ⟨hlen, ⟨_, hkey⟩, ⟨_, hval⟩⟩ := h
    match fs, hlen with
    | f :: fs, hl =>
      have k0 := hkey 0 q.1 f.key rfl rfl
      have v0 := hval 0 q.2 f.val rfl rfl
      have hr : @MapRel inst ρ qs fs := @MapRel.mk inst _ _ _ (by simpa using hl)
        ⟨by simpa using hl, fun i a b ha hb => hkey (i + 1) a b (by simpa using ha) (by simpa using hb)⟩
        ⟨by simpa using hl, fun i a b ha hb => hval (i + 1) a b (by simpa using ha) (by simpa using hb)⟩
      obtain ⟨r1, r2, r3⟩ := viM_ok hm.2 hr
      exact ⟨by simp [r1], @LRel.cons inst _ _ _ _ _ (v2i_ok hκ hm.1.1 k0) r2, @LRel.cons inst _ _ _ _ _ (v2i_ok hκ hm.1.2 v0) r3⟩
  | [], _ :: _, _, hm, _ => by cases hm
  | _ :: _, [], _, hm, _ => by cases hm

theorem bI_ok {base : Nat} {ρ : Rho} {w : World} {e : Ent} {k k' : Blk} (hm : bI κ k k' = true) (h : @BRel inst base ρ w e k') : @BRel inst base ρ w e k := by
  cases k with
  | cells ps r =>
    cases k' with
    | cells qs r' =>
      simp only [bI, Bool.and_eq_true, beq_iff_eq] at hm
      obtain ⟨rfl, hm⟩ := hm
      obtain ⟨c, ty, fr, m1', m2', ⟨m3, m4⟩, m5⟩ := h
      exact ⟨c, ty, fr, m1', m2', ⟨by rw [viL_len hm]; exact m3, by rw [viL_len hm]; exact viL_ok hκ hm m4⟩, m5⟩
    | _ => cases hm
  | map ps =>
    cases k' with
    | map qs =>
      obtain ⟨fs, ck, h1, h2, h3⟩ := h
      exact ⟨fs, ck, h1, viM_ok hκ hm h2, h3⟩
    | _ => cases hm
  | dead => trivial
end

theorem bI_own {κ : Nat → Option Int} {k k' : Blk} (hm : bI κ k k' = true) : k.owned = true → k'.owned = true := by
  cases k with
  | cells ps r =>
    cases k' with
    | cells qs r' =>
      simp only [bI, Bool.and_eq_true, beq_iff_eq] at hm
      obtain ⟨rfl, hm⟩ := hm
      exact fun h => h
    | _ => cases hm
  | map ps =>
    cases k' with
    | map qs => exact fun _ => rfl
    | _ => cases hm
  | dead => cases k' <;> cases hm

theorem viB2_ok {κ : Nat → Option Int} : ∀ {l l' : List (Nat × Blk)} {b : Nat} {k : Blk}, viB2 κ l l' = true → (hT l).get b = some k → ∃ k', (hT l').get b = some k' ∧ bI κ k k' = true
  | [], [], b, k, _, h => by simp [hT, T.get] at h
  | p :: l, q :: l', b, k, hm, h => by
    simp only [viB2, Bool.and_eq_true] at hm
    have hs := nbeq hm.1.1
    simp only [hT] at h ⊢
    by_cases hb : p.1 = b
    · subst hb
      rw [T.get_set_same] at h
      cases h
      exact ⟨q.2, by rw [hs, T.get_set_same], hm.1.2⟩
    · rw [T.get_set_ne _ _ hb] at h
      obtain ⟨k', g1, g2⟩ := viB2_ok hm.2 h
      exact ⟨k', by rw [T.get_set_ne _ _ (by rw [← hs]; exact hb)]; exact g1, g2⟩
  | [], _ :: _, _, _, hm, _ => by cases hm
  | _ :: _, [], _, _, hm, _ => by cases hm

/-- Numbers that are known take their names' places. -/
theorem LS.instM {P : Program} {ips : List Inp} {w0 : World} {n : Nat} {inst : Sig} {κ : Nat → Option Int} (hκ : ∀ i z, κ i = some z → inst.val i = z) {p q : Pat} (hm : Pat.instM κ p q = true) {a : Act} {w : World}
    (hs : LS P ips w0 n inst q.e q.h a w) : LS P ips w0 n inst p.e p.h a w := by
  simp only [Pat.instM, Bool.and_eq_true] at hm
  obtain ⟨⟨h1, h2⟩, h3⟩ := hm
  have hnx := nbeq h1
  obtain ⟨⟨ρ, ⟨spins, ⟨senv1, senv2⟩, ⟨sblk, sdom, sinj, ssz⟩⟩, hρ⟩, hfr, hdf⟩ := hs
  refine ⟨⟨ρ, ⟨spins, ⟨senv1, fun t v ht => ?_⟩, ⟨fun b k e1 g1 g2 => ?_, fun b e1 g1 => ?_, ?_, ssz⟩⟩, hρ⟩, hfr, hdf⟩
  · obtain ⟨v', k1, k2⟩ := viE_ok h2 ht
    obtain ⟨x, k3, k4⟩ := senv2 t v' k1
    exact ⟨x, k3, v1i_ok hκ k2 k4⟩
  · obtain ⟨k', k1, k2⟩ := viB2_ok h3 g1
    exact bI_ok hκ k2 (sblk b _ e1 k1 g2)
  · show b < p.nx
    rw [hnx]
    exact sdom b e1 g1
  · rintro b b' e1 e2 ⟨k1, g1, o1⟩ ⟨k2, g2, o2⟩ r1 r2 heq
    obtain ⟨k1', q1, o1'⟩ := viB2_ok h3 g1
    obtain ⟨k2', q2, o2'⟩ := viB2_ok h3 g2
    exact sinj b b' e1 e2 ⟨_, q1, bI_own o1' o1⟩ ⟨_, q2, bI_own o2' o2⟩ r1 r2 heq

/-! A pattern, numbers put in. -/
def subV (κ : Nat → Option Int) : V → V
  | .sym k i => match κ i with | some z => .int k z | none => .sym k i
  | v => v
def sub2 (κ : Nat → Option Int) : V → V
  | .agg l => .agg (l.map (subV κ))
  | v => subV κ v
def subBk (κ : Nat → Option Int) : Blk → Blk
  | .cells c r => .cells (c.map (subV κ)) r
  | .map es => .map (es.map fun x => (sub2 κ x.1, sub2 κ x.2))
  | .dead => .dead
def Pat.sub (κ : Nat → Option Int) (p : Pat) : Pat := ⟨p.pe.map fun x => (x.1, x.2.1, subV κ x.2.2), p.pb.map fun x => (x.1, subBk κ x.2), p.nx⟩
end Go.Ev
