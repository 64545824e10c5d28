import Derived.Test.YtolngjaihlggnaaGreatDoorEvDrawA
/-! Regions that draw their order, part B: the run in the order of the text, as rows. -/
namespace Go.Ev
set_option linter.unusedVariables false
set_option linter.unusedSimpArgs false
set_option linter.unusedSectionVars false
variable [Sig]

theorem cls_heap {cx : Cx} {e : Env} {o : RO} (hc : o.cls = 0 ∨ o.cls = 2) (h h2 : H) : evOp cx e h o = evOp cx e h2 o := by
  cases o <;> first
    | rfl
    | simp [RO.cls] at hc

/-- What one operation did in the order of the text. -/
def Stp (cx : Cx) (call : CallF) (base i : Nat) (o : ROp) (e : Env) (hb ha : H) (v : V) (ini : Option Blk) : Prop :=
  (guardOk e o.g = some false ∧ ha = hb ∧ v = unit ∧ ini = none) ∨
  (guardOk e o.g = some true ∧ ((∃ u, evOp cx e hb o.o = some (.val u) ∧ v = u ∧ ha = hb ∧ ini = none) ∨
    (∃ b f, evOp cx e hb o.o = some (.new b f) ∧ v = f (base + i) ∧ ha = hb.set (base + i) b ∧ ini = some b ∧ hb.get (base + i) = none ∧ o.o.cls = 2) ∨
    (∃ r, evOp cx e hb o.o = some r ∧ ResIs call hb r v ha ∧ ini = none ∧ o.o.cls = 3 ∧ ∀ b f, r ≠ .new b f)))

theorem evDrw_dat {cx : Cx} {call : CallF} {base : Nat} : ∀ (rl : List ROp) (i : Nat) (e : Env) (h : H) (acc : List Rec) (e' : Env) (h' : H) (l : List Rec), evDrw cx call base rl i e h acc = some (e', h', l) →
    ∃ (E : Nat → Env) (Hh : Nat → H) (vs : Nat → V) (ini : Nat → Option Blk) (recs : List Rec), l = acc.reverse ++ recs ∧ E 0 = e ∧ Hh 0 = h ∧ E rl.length = e' ∧ Hh rl.length = h' ∧
      ∀ k o, rl[k]? = some o → Stp cx call base (i + k) o (E k) (Hh k) (Hh (k + 1)) (vs k) (ini k) ∧ E (k + 1) = Env.put (E k) o.d (vs k) ∧ recs[k]? = some ⟨E k, Hh k, Hh (k + 1), vs k⟩ := by
  intro rl
  induction rl with
  | nil =>
    intro i e h acc e' h' l hev
    simp only [evDrw, Option.some.injEq, Prod.mk.injEq] at hev
    obtain ⟨rfl, rfl, rfl⟩ := hev
    exact ⟨fun _ => e, fun _ => h, fun _ => unit, fun _ => none, [], by simp, rfl, rfl, rfl, rfl, fun k o hk => by simp at hk⟩
  | cons o rl ih =>
    intro i e h acc e' h' l hev
    have go : ∀ {h1 : H} {v : V} {i0 : Option Blk}, Stp cx call base i o e h h1 v i0 → evDrw cx call base rl (i + 1) (Env.put e o.d v) h1 (⟨e, h, h1, v⟩ :: acc) = some (e', h', l) →
        ∃ (E : Nat → Env) (Hh : Nat → H) (vs : Nat → V) (ini : Nat → Option Blk) (recs : List Rec), l = acc.reverse ++ recs ∧ E 0 = e ∧ Hh 0 = h ∧ E (o :: rl).length = e' ∧ Hh (o :: rl).length = h' ∧
          ∀ k p, (o :: rl)[k]? = some p → Stp cx call base (i + k) p (E k) (Hh k) (Hh (k + 1)) (vs k) (ini k) ∧ E (k + 1) = Env.put (E k) p.d (vs k) ∧ recs[k]? = some ⟨E k, Hh k, Hh (k + 1), vs k⟩ := by
      intro h1 v i0 hs hr
      obtain ⟨E, Hh, vs, ini, recs, q1, q2, q3, q4, q5, q6⟩ := ih _ _ _ _ _ _ _ hr
      refine ⟨fun k => match k with | 0 => e | k + 1 => E k, fun k => match k with | 0 => h | k + 1 => Hh k, fun k => match k with | 0 => v | k + 1 => vs k, fun k => match k with | 0 => i0 | k + 1 => ini k, ⟨e, h, h1, v⟩ :: recs, by simp [q1], rfl, rfl, q4, q5, ?_⟩
      intro k p hp
      cases k with
      | zero =>
        simp only [List.getElem?_cons_zero, Option.some.injEq] at hp
        subst hp
        refine ⟨?_, q2, ?_⟩
        · simp only [Nat.add_zero, q3]; exact hs
        · simp only [List.getElem?_cons_zero, q3]
      | succ k =>
        simp only [List.getElem?_cons_succ] at hp
        obtain ⟨r1, r2, r3⟩ := q6 k p hp
        refine ⟨?_, r2, ?_⟩
        · have : i + (k + 1) = i + 1 + k := by omega
          rw [this]; exact r1
        · simpa using r3
    simp only [evDrw] at hev
    cases hg : guardOk e o.g with
    | none => rw [hg] at hev; simp at hev
    | some b =>
      rw [hg] at hev
      cases b with
      | false => exact go (.inl ⟨hg, rfl, rfl, rfl⟩) hev
      | true =>
        simp only at hev
        cases hop : evOp cx e h o.o with
        | none => rw [hop] at hev; simp at hev
        | some r =>
          rw [hop] at hev
          cases r with
          | val u => exact go (.inr ⟨hg, .inl ⟨u, hop, rfl, rfl, rfl⟩⟩) hev
          | new b f =>
            simp only at hev
            cases hb : h.get (base + i) with
            | some b' => rw [hb] at hev; simp at hev
            | none =>
              rw [hb] at hev
              cases hc : Nat.beq o.o.cls 2 with
              | false => rw [hc] at hev; simp at hev
              | true =>
                rw [hc] at hev
                exact go (.inr ⟨hg, .inr (.inl ⟨b, f, hop, rfl, rfl, rfl, hb, nbeq hc⟩)⟩) hev
          | upd u h1 =>
            simp only at hev
            cases hc : Nat.beq o.o.cls 3 with
            | false => rw [hc] at hev; simp at hev
            | true =>
              rw [hc] at hev
              exact go (.inr ⟨hg, .inr (.inr ⟨_, hop, ⟨rfl, rfl⟩, rfl, nbeq hc, fun _ _ hh => by cases hh⟩)⟩) hev
          | call f az =>
            simp only at hev
            cases hcl : call f az h with
            | none => rw [hcl] at hev; simp at hev
            | some p =>
              obtain ⟨v, h1⟩ := p
              rw [hcl] at hev
              cases hc : Nat.beq o.o.cls 3 with
              | false => rw [hc] at hev; simp at hev
              | true =>
                rw [hc] at hev
                exact go (.inr ⟨hg, .inr (.inr ⟨_, hop, hcl, rfl, nbeq hc, fun _ _ hh => by cases hh⟩)⟩) hev

theorem Blk.beq_eq {a b : Blk} (h : Blk.beq a b = true) : a = b := by
  cases a <;> cases b <;> simp only [Blk.beq, Bool.and_eq_true, reduceCtorEq] at h
  · obtain ⟨h1, h2⟩ := h
    rw [V.beqL_eq _ _ h1, beq_iff_eq.1 h2]
  · obtain ⟨⟨h0, h1⟩, h2⟩ := h
    replace h1 := V.beqL_eq _ _ h1
    replace h2 := V.beqL_eq _ _ h2
    congr 1
    rename_i x y
    apply List.ext_getElem?
    intro i
    have e1 := congrArg (·[i]?) h1
    have e2 := congrArg (·[i]?) h2
    simp only [List.getElem?_map] at e1 e2
    cases hx : x[i]? <;> cases hy : y[i]? <;> simp [hx, hy] at e1 e2 ⊢
    exact Prod.ext e1 e2

theorem chkAll_at {cx : Cx} {base : Nat} {ops : List ROp} {l : List Rec} : ∀ (chk : List (Nat × Nat)), chkAll cx base ops l chk = true → ∀ i j, (i, j) ∈ chk → ∀ o ri rj, ops[i]? = some o → l[i]? = some ri → l[j]? = some rj →
    sameIn cx o ri (base + i) (Nat.blt i j) rj.hb = true ∧ sameIn cx o ri (base + i) (Nat.blt i j) rj.ha = true := by
  intro chk
  induction chk with
  | nil => intro _ i j hm; simp at hm
  | cons p chk ih =>
    intro hc i j hm o ri rj h1 h2 h3
    obtain ⟨i', j'⟩ := p
    simp only [chkAll] at hc
    rcases List.mem_cons.1 hm with heq | hm
    · cases heq
      rw [h1, h2, h3] at hc
      simp only [Bool.and_eq_true] at hc
      exact hc.1
    · split at hc
      · simp only [Bool.and_eq_true] at hc
        exact ih hc.2 i j hm o ri rj h1 h2 h3
      · cases hc

/-- Some names of an environment. -/
def restr (e : Env) : List Nat → Env
  | [] => .nil
  | t :: r => match e.get t with
    | some v => (restr e r).set t v
    | none => restr e r

theorem restr_get (e : Env) : ∀ (l : List Nat) (t : Nat), t ∈ l → (restr e l).get t = e.get t := by
  intro l
  induction l with
  | nil => intro t h; simp at h
  | cons x l ih =>
    intro t h
    simp only [restr]
    by_cases hx : x = t
    · subst hx
      cases hv : e.get x with
      | some v => exact T.get_set_same _ _ _
      | none =>
        simp only
        by_cases hm : x ∈ l
        · rw [ih x hm, hv]
        · clear ih h
          induction l with
          | nil => simp [restr, T.get]
          | cons y l ih2 =>
            simp only [List.mem_cons, not_or] at hm
            simp only [restr]
            cases hy : e.get y with
            | some v => rw [T.get_set_ne _ _ (Ne.symm hm.1)]; exact ih2 hm.2
            | none => exact ih2 hm.2
    · have hm : t ∈ l := by simpa [Ne.symm hx] using h
      cases hv : e.get x with
      | some v => rw [T.get_set_ne _ _ hx]; exact ih t hm
      | none => exact ih t hm

theorem restr_sub (e : Env) : ∀ (l : List Nat) (t : Nat) (v : V), (restr e l).get t = some v → t ∈ l ∧ e.get t = some v := by
  intro l
  induction l with
  | nil => intro t v h; simp [restr, T.get] at h
  | cons x l ih =>
    intro t v h
    simp only [restr] at h
    cases hv : e.get x with
    | none =>
      rw [hv] at h
      obtain ⟨h1, h2⟩ := ih t v h
      exact ⟨List.mem_cons_of_mem _ h1, h2⟩
    | some u =>
      rw [hv] at h
      by_cases hx : x = t
      · subst hx
        rw [T.get_set_same] at h
        cases h
        exact ⟨List.mem_cons_self, hv⟩
      · rw [T.get_set_ne _ _ hx] at h
        obtain ⟨h1, h2⟩ := ih t v h
        exact ⟨List.mem_cons_of_mem _ h1, h2⟩

/-- Blocks laid over a heap, under names that were set aside. -/
def over (base : Nat) (p : Nat → Option Blk) : Nat → H → H
  | 0, h => h
  | k + 1, h => match p k with
    | some b => (over base p k h).set (base + k) b
    | none => over base p k h

theorem over_nx (base : Nat) (p : Nat → Option Blk) (h : H) : ∀ n, (over base p n h).nx = h.nx := by
  intro n
  induction n with
  | zero => rfl
  | succ n ih => simp only [over]; split <;> first | exact ih | (simp only [H.set]; exact ih)
theorem over_get_lt (base : Nat) (p : Nat → Option Blk) (h : H) {x : Nat} (hx : x < base) : ∀ n, (over base p n h).get x = h.get x := by
  intro n
  induction n with
  | zero => rfl
  | succ n ih => simp only [over]; split <;> first | exact ih | (rw [H.get_set_ne _ _ (by omega)]; exact ih)
theorem over_get_ge (base : Nat) (p : Nat → Option Blk) (h : H) {i : Nat} : ∀ n, n ≤ i → (over base p n h).get (base + i) = h.get (base + i) := by
  intro n
  induction n with
  | zero => intro _; rfl
  | succ n ih => intro hn; simp only [over]; split <;> first | exact ih (by omega) | (rw [H.get_set_ne _ _ (by omega)]; exact ih (by omega))
theorem over_get (base : Nat) (p : Nat → Option Blk) (h : H) {i : Nat} : ∀ n, i < n → (over base p n h).get (base + i) = match p i with | some b => some b | none => h.get (base + i) := by
  intro n
  induction n with
  | zero => intro hi; omega
  | succ n ih =>
    intro hi
    simp only [over]
    by_cases hin : i = n
    · subst hin
      cases hp : p i with
      | some b => simp only [H.get_set_same]
      | none => simp only; exact over_get_ge base p h i (Nat.le_refl _)
    · split
      · rw [H.get_set_ne _ _ (by omega)]; exact ih (by omega)
      · exact ih (by omega)
end Go.Ev
