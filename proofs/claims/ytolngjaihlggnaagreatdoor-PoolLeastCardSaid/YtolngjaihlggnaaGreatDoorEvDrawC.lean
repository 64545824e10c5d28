import Derived.Test.YtolngjaihlggnaaGreatDoorEvDrawB
/-! Regions that draw their order, part C: cuts. 'L': what is done; a cut: a place of the text up to which just the done ones turn memory. -/
namespace Go.Ev
set_option linter.unusedVariables false
set_option linter.unusedSimpArgs false
set_option linter.unusedSectionVars false
variable [Sig]

def bit (b : List Nat) (i j : Nat) : Prop := (b.getD j 0).testBit i = true

structure Run (cx : Cx) (call : CallF) (B : Nat) (b : List Nat) (rl : List ROp) (E : Nat → Env) (Hh : Nat → H) (vs : Nat → V) (ini : Nat → Option Blk) : Prop where
  op : ∀ k o, rl[k]? = some o → Stp cx call B k o (E k) (Hh k) (Hh (k + 1)) (vs k) (ini k) ∧ E (k + 1) = Env.put (E k) o.d (vs k)
  fwd : ∀ i j, j < rl.length → bit b i j → i < j
  sep : ∀ i j p q, rl[i]? = some p → rl[j]? = some q → i ≠ j → ¬ bit b i j → ¬ bit b j i → (∀ d, p.d = some d → d ∉ q.reads ∧ q.d ≠ some d) ∧ ¬ (p.o.cls = 3 ∧ q.o.cls = 3)
  chk : ∀ i j p q, rl[i]? = some p → rl[j]? = some q → (p.o.cls = 1 ∨ p.o.cls = 2) → q.o.cls = 3 → ¬ bit b i j → ¬ bit b j i →
    sameIn cx p ⟨E i, Hh i, Hh (i + 1), vs i⟩ (B + i) (Nat.blt i j) (Hh j) = true ∧ sameIn cx p ⟨E i, Hh i, Hh (i + 1), vs i⟩ (B + i) (Nat.blt i j) (Hh (j + 1)) = true

section
variable {cx : Cx} {call : CallF} {B : Nat} {b : List Nat} {rl : List ROp} {E : Nat → Env} {Hh : Nat → H} {vs : Nat → V} {ini : Nat → Option Blk}

def Wr (rl : List ROp) (i : Nat) : Prop := ∃ o, rl[i]? = some o ∧ o.o.cls = 3
def Cut (rl : List ROp) (L : Nat → Bool) (c : Nat) : Prop := c ≤ rl.length ∧ ∀ p, Wr rl p → (L p = true ↔ p < c)
def Closed (b : List Nat) (L : Nat → Bool) : Prop := ∀ j, L j = true → ∀ i, bit b i j → L i = true

theorem Wr.lt {i : Nat} (h : Wr rl i) : i < rl.length := by obtain ⟨o, h1, _⟩ := h; exact (List.getElem?_eq_some_iff.1 h1).1

theorem Run.ord (R : Run cx call B b rl E Hh vs ini) {i j : Nat} (hi : Wr rl i) (hj : Wr rl j) (hij : i < j) : bit b i j := by
  obtain ⟨p, h1, h2⟩ := hi
  obtain ⟨q, h3, h4⟩ := hj
  by_cases h5 : bit b i j
  · exact h5
  · by_cases h6 : bit b j i
    · have := R.fwd j i (List.getElem?_eq_some_iff.1 h1).1 h6; omega
    · exact absurd ⟨h2, h4⟩ (R.sep i j p q h1 h3 (by omega) h5 h6).2

theorem Run.quiet1 (R : Run cx call B b rl E Hh vs ini) {i : Nat} (hi : i < rl.length) (hw : ¬ Wr rl i) : (ini i = none ∧ Hh (i + 1) = Hh i) ∨ ∃ bl, ini i = some bl ∧ Hh (i + 1) = (Hh i).set (B + i) bl := by
  have ho : rl[i]? = some rl[i] := by simp [hi]
  rcases (R.op i _ ho).1 with ⟨_, h1, _, h2⟩ | ⟨_, ⟨u, _, _, h1, h2⟩ | ⟨bl, f, _, _, h1, h2, _⟩ | ⟨r, _, _, _, h3, _⟩⟩
  · exact .inl ⟨h2, h1⟩
  · exact .inl ⟨h2, h1⟩
  · exact .inr ⟨bl, h2, h1⟩
  · exact absurd ⟨_, ho, h3⟩ hw

theorem Run.laid (R : Run cx call B b rl E Hh vs ini) {i : Nat} (hi : i < rl.length) {bl : Blk} (h : ini i = some bl) :
    ∃ o f, rl[i]? = some o ∧ guardOk (E i) o.g = some true ∧ evOp cx (E i) (Hh i) o.o = some (.new bl f) ∧ o.o.cls = 2 ∧ (Hh i).get (B + i) = none ∧ Hh (i + 1) = (Hh i).set (B + i) bl ∧ vs i = f (B + i) ∧ ¬ Wr rl i := by
  have ho : rl[i]? = some rl[i] := by simp [hi]
  rcases (R.op i _ ho).1 with ⟨_, h1, _, h2⟩ | ⟨hg, ⟨u, _, _, h1, h2⟩ | ⟨b2, f, h0, h1, h2, h3, h4, h5⟩ | ⟨r, _, _, h2, h3, _⟩⟩
  · rw [h] at h2; cases h2
  · rw [h] at h2; cases h2
  · rw [h] at h3; cases h3
    exact ⟨_, f, ho, hg, h0, h5, h4, h2, h1, fun ⟨o, q1, q2⟩ => by rw [ho] at q1; cases q1; omega⟩
  · rw [h] at h2; cases h2

theorem Run.quietN (R : Run cx call B b rl E Hh vs ini) (c : Nat) : ∀ k, c + k ≤ rl.length → (∀ p, c ≤ p → p < c + k → ¬ Wr rl p) →
    (Hh (c + k)).nx = (Hh c).nx ∧ (∀ x, (∀ i, c ≤ i → i < c + k → x ≠ B + i) → (Hh (c + k)).get x = (Hh c).get x) ∧
    (∀ i, c ≤ i → i < c + k → ini i = none → (Hh (c + k)).get (B + i) = (Hh c).get (B + i)) ∧
    ∀ i bl, c ≤ i → i < c + k → ini i = some bl → (Hh (c + k)).get (B + i) = some bl := by
  intro k
  induction k with
  | zero => intro _ _; exact ⟨rfl, fun _ _ => rfl, fun i h1 h2 => by omega, fun i bl h1 h2 => by omega⟩
  | succ k ih =>
    intro hn hw
    obtain ⟨q1, q2, q2', q3⟩ := ih (by omega) fun p h1 h2 => hw p h1 (by omega)
    have he : c + (k + 1) = c + k + 1 := by omega
    rw [he]
    rcases R.quiet1 (i := c + k) (by omega) (hw _ (by omega) (by omega)) with ⟨h1, h2⟩ | ⟨bl, h1, h2⟩
    · rw [h2]
      refine ⟨q1, fun x hx => q2 x fun i g1 g2 => hx i g1 (by omega), fun i g1 g2 g3 => ?_, fun i bl g1 g2 g3 => ?_⟩
      · by_cases hi : i = c + k
        · subst hi; exact q2 _ fun i g1 g2 => by omega
        · exact q2' i g1 (by omega) g3
      · by_cases hi : i = c + k
        · subst hi; rw [h1] at g3; cases g3
        · exact q3 i bl g1 (by omega) g3
    · rw [h2]
      refine ⟨q1, fun x hx => ?_, fun i g1 g2 g3 => ?_, fun i bl' g1 g2 g3 => ?_⟩
      · rw [H.get_set_ne _ _ (Ne.symm (hx (c + k) (by omega) (by omega)))]
        exact q2 x fun i g1 g2 => hx i g1 (by omega)
      · by_cases hi : i = c + k
        · subst hi; rw [h1] at g3; cases g3
        · rw [H.get_set_ne _ _ (by omega)]; exact q2' i g1 (by omega) g3
      · by_cases hi : i = c + k
        · subst hi; rw [h1] at g3; cases g3; exact H.get_set_same _ _ _
        · rw [H.get_set_ne _ _ (by omega)]; exact q3 i bl' g1 (by omega) g3

theorem Run.quiet (R : Run cx call B b rl E Hh vs ini) {c c' : Nat} (hc : c ≤ c') (hn : c' ≤ rl.length) (hw : ∀ p, c ≤ p → p < c' → ¬ Wr rl p) :
    (Hh c').nx = (Hh c).nx ∧ (∀ x, (∀ i, c ≤ i → i < c' → x ≠ B + i) → (Hh c').get x = (Hh c).get x) ∧
    (∀ i, c ≤ i → i < c' → ini i = none → (Hh c').get (B + i) = (Hh c).get (B + i)) ∧
    ∀ i bl, c ≤ i → i < c' → ini i = some bl → (Hh c').get (B + i) = some bl := by
  have := R.quietN c (c' - c)
  rw [show c + (c' - c) = c' by omega] at this
  exact this hn hw

variable {L : Nat → Bool}

theorem Cut.none_between {c c' : Nat} (h : Cut rl L c) (h' : Cut rl L c') {p : Nat} (h1 : c ≤ p) (h2 : p < c') : ¬ Wr rl p := fun hw => by
  have := (h'.2 p hw).2 h2
  have := (h.2 p hw).1 this
  omega

theorem Run.cuts (R : Run cx call B b rl E Hh vs ini) (hL : Closed b L) : ∀ m, m ≤ rl.length →
    (∃ c, c ≤ m ∧ (∀ p, p < m → Wr rl p → (L p = true ↔ p < c)) ∧ (c = 0 ∨ ∃ K, c = K + 1 ∧ Wr rl K ∧ L K = true)) ∧
    (∃ c, c ≤ m ∧ (∀ p, p < m → Wr rl p → (L p = true ↔ p < c)) ∧ (c = m ∨ (Wr rl c ∧ L c = false))) := by
  intro m
  induction m with
  | zero => intro _; exact ⟨⟨0, Nat.le_refl _, fun p h => by omega, .inl rfl⟩, ⟨0, Nat.le_refl _, fun p h => by omega, .inl rfl⟩⟩
  | succ m ih =>
    intro hm
    obtain ⟨⟨c, h1, h2, h3⟩, ⟨d, g1, g2, g3⟩⟩ := ih (by omega)
    have hdown : L m = true → Wr rl m → ∀ p, p < m → Wr rl p → L p = true := fun hl hw p hp hq => hL m hl p (R.ord hq hw hp)
    refine ⟨?_, ?_⟩
    · by_cases hw : Wr rl m
      · cases hl : L m with
        | true =>
          refine ⟨m + 1, Nat.le_refl _, fun p hp hq => ⟨fun _ => hp, fun _ => ?_⟩, .inr ⟨m, rfl, hw, hl⟩⟩
          by_cases hpm : p = m
          · subst hpm; exact hl
          · exact hdown hl hw p (by omega) hq
        | false =>
          refine ⟨c, by omega, fun p hp hq => ?_, h3⟩
          by_cases hpm : p = m
          · subst hpm; rw [hl]; exact ⟨fun h => (by cases h), fun h => by omega⟩
          · exact h2 p (by omega) hq
      · refine ⟨c, by omega, fun p hp hq => ?_, h3⟩
        by_cases hpm : p = m
        · subst hpm; exact absurd hq hw
        · exact h2 p (by omega) hq
    · by_cases hd : d = m
      · subst hd
        by_cases hw : Wr rl d
        · cases hl : L d with
          | true =>
            refine ⟨d + 1, Nat.le_refl _, fun p hp hq => ⟨fun _ => hp, fun _ => ?_⟩, .inl rfl⟩
            by_cases hpm : p = d
            · subst hpm; exact hl
            · exact hdown hl hw p (by omega) hq
          | false =>
            refine ⟨d, by omega, fun p hp hq => ?_, .inr ⟨hw, hl⟩⟩
            by_cases hpm : p = d
            · subst hpm; rw [hl]; exact ⟨fun h => (by cases h), fun h => by omega⟩
            · exact g2 p (by omega) hq
        · refine ⟨d + 1, Nat.le_refl _, fun p hp hq => ?_, .inl rfl⟩
          by_cases hpm : p = d
          · subst hpm; exact absurd hq hw
          · have := g2 p (by omega) hq
            exact ⟨fun h => by have := this.1 h; omega, fun h => this.2 (by omega)⟩
      · rcases g3 with g3 | ⟨g3, g4⟩
        · exact absurd g3 hd
        · refine ⟨d, by omega, fun p hp hq => ?_, .inr ⟨g3, g4⟩⟩
          by_cases hpm : p = m
          · subst hpm
            refine ⟨fun h => ?_, fun h => by omega⟩
            have := hdown h hq d (by omega) g3
            rw [g4] at this; cases this
          · exact g2 p (by omega) hq

theorem Run.cut_min (R : Run cx call B b rl E Hh vs ini) (hL : Closed b L) : ∃ c, Cut rl L c ∧ (c = 0 ∨ ∃ K, c = K + 1 ∧ Wr rl K ∧ L K = true) := by
  obtain ⟨⟨c, h1, h2, h3⟩, _⟩ := R.cuts hL rl.length (Nat.le_refl _)
  exact ⟨c, ⟨h1, fun p hp => h2 p hp.lt hp⟩, h3⟩
theorem Run.cut_max (R : Run cx call B b rl E Hh vs ini) (hL : Closed b L) : ∃ c, Cut rl L c ∧ (c = rl.length ∨ (Wr rl c ∧ L c = false)) := by
  obtain ⟨_, ⟨c, h1, h2, h3⟩⟩ := R.cuts hL rl.length (Nat.le_refl _)
  exact ⟨c, ⟨h1, fun p hp => h2 p hp.lt hp⟩, h3⟩

theorem Cut.le_max {c c' : Nat} (h : Cut rl L c) (hm : c' = rl.length ∨ (Wr rl c' ∧ L c' = false)) : c ≤ c' := by
  rcases hm with rfl | ⟨h1, h2⟩
  · exact h.1
  · apply Nat.le_of_not_lt
    intro hlt
    rw [(h.2 c' h1).2 hlt] at h2; cases h2
theorem Cut.min_le {c c' : Nat} (h : Cut rl L c) (hm : c' = 0 ∨ ∃ K, c' = K + 1 ∧ Wr rl K ∧ L K = true) : c' ≤ c := by
  rcases hm with rfl | ⟨K, rfl, h1, h2⟩
  · omega
  · exact (h.2 K h1).1 h2

/-- A new block that is done, but stands behind the cut: the text has not laid it yet. -/
theorem Run.clean (R : Run cx call B b rl E Hh vs ini) (hL : Closed b L) {c i : Nat} (hc : Cut rl L c) (hi : i < rl.length) (hl : L i = true) (hci : c ≤ i) {bl : Blk} (hb : ini i = some bl) : (Hh c).get (B + i) = none := by
  obtain ⟨o, f, ho, hg, hev, hcls, hno, _, _, hnw⟩ := R.laid hi hb
  obtain ⟨m, hm, hm2⟩ := R.cut_max hL
  have hcm := hc.le_max hm2
  by_cases him : i < m
  · rw [← (R.quiet hci (by omega) fun p h1 h2 => hc.none_between hm h1 (by omega)).2.1 (B + i) fun k h1 h2 => by omega]
    exact hno
  · rcases hm2 with rfl | ⟨hw, hf⟩
    · omega
    · have hne : i ≠ m := fun h => by subst h; exact hnw hw
      obtain ⟨q, hq1, hq2⟩ := id hw
      have hs := (R.chk i m o q ho hq1 (.inr hcls) hq2 (fun h => by have := R.fwd i m hw.lt h; omega) fun h => by rw [hL i hl m h] at hf; cases hf).1
      simp only [sameIn, hg, hev] at hs
      rw [← (R.quiet hcm hm.1 fun p h1 h2 => hc.none_between hm h1 h2).2.1 (B + i) fun k h1 h2 => by omega]
      cases hx : (Hh m).get (B + i) with
      | none => rfl
      | some b' =>
        rw [hx, show Nat.blt i m = false from Bool.eq_false_iff.2 fun h => by have := nblt h; omega] at hs
        simp at hs

/-- A new block that is not done yet, but stands before the cut: the text holds it as it was laid. -/
theorem Run.stay (R : Run cx call B b rl E Hh vs ini) (hL : Closed b L) {c j : Nat} (hc : Cut rl L c) (hl : L j = false) (hcl : ∀ i, bit b i j → L i = true) (hj : j < c) {bl : Blk} (hb : ini j = some bl) : (Hh c).get (B + j) = some bl := by
  have hjn : j < rl.length := Nat.lt_of_lt_of_le hj hc.1
  obtain ⟨o, f, ho, hg, hev, hcls, hno, _, _, hnw⟩ := R.laid hjn hb
  obtain ⟨m, hm, hm2⟩ := R.cut_min hL
  have hmc := hc.min_le hm2
  have hq := R.quiet hmc hc.1 fun p h1 h2 => hm.none_between hc h1 h2
  by_cases hjm : m ≤ j
  · exact hq.2.2.2 j bl hjm hj hb
  · rcases hm2 with rfl | ⟨K, rfl, hw, hf⟩
    · omega
    · have hne : j ≠ K := fun h => by subst h; exact hnw hw
      obtain ⟨q, hq1, hq2⟩ := id hw
      have hs := (R.chk j K o q ho hq1 (.inr hcls) hq2 (fun h => by rw [hL K hf j h] at hl; cases hl) fun h => by have := R.fwd K j hjn h; omega).2
      simp only [sameIn, hg, hev] at hs
      rw [hq.2.1 (B + j) fun k h1 h2 => by omega]
      have hlt : Nat.blt j K = true := Nat.ble_eq_true_of_le (by omega : j + 1 ≤ K)
      rw [hlt] at hs
      cases hx : (Hh (K + 1)).get (B + j) with
      | none => rw [hx] at hs; simp at hs
      | some b' =>
        rw [hx] at hs
        simp only [Bool.true_and] at hs
        rw [Blk.beq_eq hs]

/-- A read that is due tells what it told in the order of the text. -/
theorem Run.read (R : Run cx call B b rl E Hh vs ini) (hL : Closed b L) {j : Nat} {o : ROp} (ho : rl[j]? = some o) (hl : L j = false) (hcl : ∀ i, bit b i j → L i = true) (hcls : o.o.cls = 1) (hg : guardOk (E j) o.g = some true)
    (hev : evOp cx (E j) (Hh j) o.o = some (.val (vs j))) : ∃ c, Cut rl L c ∧ evOp cx (E j) (Hh c) o.o = some (.val (vs j)) := by
  have hjn : j < rl.length := (List.getElem?_eq_some_iff.1 ho).1
  have hnw : ¬ Wr rl j := fun ⟨q, h1, h2⟩ => by rw [ho] at h1; cases h1; omega
  obtain ⟨m, hm, hm2⟩ := R.cut_min hL
  obtain ⟨M, hM, hM2⟩ := R.cut_max hL
  have fin : ∀ {h : H} {e : Bool}, sameIn cx o ⟨E j, Hh j, Hh (j + 1), vs j⟩ (B + j) e h = true → evOp cx (E j) h o.o = some (.val (vs j)) := by
    intro h e hs
    simp only [sameIn, hg, hev] at hs
    split at hs
    · rename_i v hv
      rw [hv, V.beq_eq _ _ hs]
    · cases hs
  by_cases h1 : m ≤ j
  · by_cases h2 : j ≤ M
    · exact ⟨j, ⟨by omega, fun p hp => ⟨fun h => by have := (hm.2 p hp).1 h; omega, fun h => (hM.2 p hp).2 (by omega)⟩⟩, hev⟩
    · rcases hM2 with rfl | ⟨hw, hf⟩
      · omega
      · obtain ⟨q, hq1, hq2⟩ := id hw
        exact ⟨M, hM, fin (R.chk j M o q ho hq1 (.inl hcls) hq2 (fun h => by have := R.fwd j M hw.lt h; omega) fun h => by rw [hcl M h] at hf; cases hf).1⟩
  · rcases hm2 with rfl | ⟨K, rfl, hw, hf⟩
    · omega
    · obtain ⟨q, hq1, hq2⟩ := id hw
      have hne : j ≠ K := fun h => by subst h; exact hnw hw
      exact ⟨K + 1, hm, fin (R.chk j K o q ho hq1 (.inl hcls) hq2 (fun h => by rw [hL K hf j h] at hl; cases hl) fun h => by have := R.fwd K j hjn h; omega).2⟩
end
end Go.Ev
