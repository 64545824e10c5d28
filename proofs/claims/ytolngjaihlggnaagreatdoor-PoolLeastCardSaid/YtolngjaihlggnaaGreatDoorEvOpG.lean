import Derived.Test.YtolngjaihlggnaaGreatDoorEvOpF
/-! Comparisons of structs and arrays; the operation. -/
namespace Go.Ev
set_option linter.unusedVariables false
set_option linter.unusedSimpArgs false
set_option linter.unusedSectionVars false
variable [Sig]
section
variable {P : Program} {base : Nat} {ρ : Rho} {n : Nat} {e : Env} {h : H} {a : Act} {w : World} {cx : Cx} {o : Oper} {r : RO} {res : Res}

theorem evEqL_app {h : H} {ts : TypeId → Option Sh} : ∀ {l m : List (Nat × Sh)} {xs ys : List V}, evEqL h ts (l ++ m) xs ys = match evEqL h ts l xs ys with | some true => evEqL h ts m xs ys | q => q
  | [], m, xs, ys => by simp [evEqL]
  | (o, s) :: l, m, xs, ys => by
    simp only [List.cons_append, evEqL]
    cases xs[o]? with
    | none => rfl
    | some u =>
      cases ys[o]? with
      | none => rfl
      | some v =>
        simp only
        cases evSh h ts s u v with
        | none => rfl
        | some b =>
          cases b with
          | false => rfl
          | true => exact evEqL_app

/-- A value of type t lies at 'off' in a row. -/
def AtOff (P : Program) (ds : List Value) (off st : Nat) (t : TypeId) (v : Value) : Prop :=
  match tAgg P t with
  | some true => ∃ A : Array Value, v = .agg A ∧ ∀ i, i < st → A[i]? = ds[off + i]?
  | some false => ds[off]? = some v
  | none => False

theorem part_at {t : TypeId} {sf st off fo : Nat} {A : Array Value} {ds : List Value} (hA : ∀ i, i < st → A[i]? = ds[off + i]?) (hsf : tSize P t = some sf) (hle : fo + sf ≤ st) (hd : tAgg P t = some true ∨ (tAgg P t = some false ∧ sf = 1 ∧ ∃ v, ds[off + fo]? = some v)) (w : World) :
    ∃ v, (part t A fo).run P w = .ok v w ∧ AtOff P ds (off + fo) sf t v := by
  rcases hd with hd | ⟨hd, h1, v, hv⟩
  · refine ⟨.agg (A.extract fo (fo + sf)), ?_, ?_⟩
    · simp only [part, Sem.run_bind, run_agg hd, Result.andThen_ok, if_true, run_size hsf, Sem.run_pure]
    · unfold AtOff
      rw [hd]
      refine ⟨_, rfl, fun i hi => ?_⟩
      have := hA (fo + i) (by omega)
      rw [Nat.add_assoc, ← this, Array.getElem?_extract]
      by_cases hlt : fo + i < A.size
      · rw [if_pos (by omega)]
      · rw [if_neg (by omega)]
        exact (Array.getElem?_eq_none (by omega)).symm
  · subst h1
    refine ⟨v, ?_, ?_⟩
    · have := hA fo (by omega)
      rw [hv] at this
      simp only [part, Sem.run_bind, run_agg hd, Result.andThen_ok, Bool.false_eq_true, if_false, this, Sem.run_pure]
    · unfold AtOff
      rw [hd]
      exact hv

def eqElems (d : Nat) (el : TypeId) (s : Nat) (xs ys : Array Value) : (k i : Nat) → Sem Bool
  | 0, _ => pure true
  | k + 1, i => do
    let a ← part el xs (i * s)
    let b ← part el ys (i * s)
    let r ← Go.Op.equalIn d el a b
    if (!r) = true then pure false else eqElems d el s xs ys k (i + 1)

theorem run_equalIn_array (d : Nat) (t el : TypeId) (k s : Nat) (xs ys : Array Value) (hu : P.underlying t = some (.array k el)) (hs : tSize P el = some s) (w : World) :
    (Go.Op.equalIn (d + 1) t (.agg xs) (.agg ys)).run P w = (eqElems d el s xs ys k 0).run P w := by
  simp only [Go.Op.equalIn, Sem.run_bind, run_und hu, Result.andThen_ok, run_size hs]
  rw [Std.Legacy.Range.forIn_eq_forIn_range']
  have hsz : (⟨0, k, 1, by decide⟩ : Std.Legacy.Range).size = k := by simp [Std.Legacy.Range.size]
  rw [hsz]
  clear hu hsz
  show ((Sem.run P (forIn (List.range' 0 k 1) _ _) w).andThen _) = _
  generalize 0 = i
  induction k generalizing i w with
  | zero => simp [eqElems]
  | succ k ih =>
    simp only [List.range'_succ, List.forIn_cons, eqElems, Sem.run_bind, Sem.run_ite]
    generalize (part el xs (i * s)).run P w = r1
    cases r1 with
    | halt x w1 => simp [Result.andThen]
    | ok a w1 =>
      simp only [Result.andThen_ok]
      generalize (part el ys (i * s)).run P w1 = r2
      cases r2 with
      | halt x w1 => simp [Result.andThen]
      | ok b w2 =>
        simp only [Result.andThen_ok]
        generalize (Op.equalIn d el a b).run P w2 = r3
        cases r3 with
        | halt x w1 => simp [Result.andThen]
        | ok r w3 =>
          cases r
          · simp only [Result.andThen_ok, Bool.not_false, if_true, Sem.run_pure]
          · simp only [Result.andThen_ok, Bool.not_true, Bool.false_eq_true, if_false, Sem.run_pure]
            exact ih w3 (i + 1)

theorem tAgg_of_scalar {t : TypeId} {s : Sh} (hs : scSh P t = some s) : tAgg P t = some false := by
  unfold scSh at hs
  unfold tAgg
  split at hs <;> first | (cases hs; done) | (rename_i hu; simp [hu])

theorem flat_run (hR : Rel base ρ h w) {ts : TypeId → Option Sh} (hts : TsOk P ts) {xs ys : List V} {xs' ys' : List Value} (hx : LRel ρ xs xs') (hy : LRel ρ ys ys') : ∀ (d : Nat) {t : TypeId} {off st : Nat} {ls : List (Nat × Sh)},
    flatSh P d t off = some ls → tSize P t = some st → ∀ {q : Bool}, evEqL h ts ls xs ys = some q → ∀ {u v : Value}, AtOff P xs' off st t u → AtOff P ys' off st t v → ∀ D, (Go.Op.equalIn (D + 2 + d) t u v).run P w = .ok q w := by
  intro d
  induction d with
  | zero => intro t off st ls hf; simp [flatSh] at hf
  | succ d ih =>
    intro t off st ls hf hst q hq u v hu' hv' D
    simp only [flatSh, Option.bind_eq_some_iff] at hf
    obtain ⟨st', hst', hf⟩ := hf
    rw [hst] at hst'
    cases hst'
    -- one cell
    have scal : (if st = 1 then (scSh P t).map fun s => [(off, s)] else none) = some ls → (Go.Op.equalIn (D + 2 + (d + 1)) t u v).run P w = .ok q w := by
      intro hf
      split at hf
      · simp only [Option.map_eq_some_iff] at hf
        obtain ⟨s, hs, rfl⟩ := hf
        have ha := tAgg_of_scalar hs
        unfold AtOff at hu' hv'
        rw [ha] at hu' hv'
        simp only [evEqL] at hq
        cases hxo : xs[off]? with
        | none => rw [hxo] at hq; simp at hq
        | some x0 =>
          cases hyo : ys[off]? with
          | none => rw [hxo, hyo] at hq; simp at hq
          | some y0 =>
            rw [hxo, hyo] at hq
            simp only at hq
            have hq' : evSh h ts s x0 y0 = some q := by
              cases hc : evSh h ts s x0 y0 with
              | none => rw [hc] at hq; simp at hq
              | some b => rw [hc] at hq; cases b <;> simpa using hq
            have := sh_run hR hts hs (.inl rfl) (hx.2 off x0 u hxo hu') (hy.2 off y0 v hyo hv') hq' (D + 1 + d)
            rwa [show D + 1 + d + 1 + 1 = D + 2 + (d + 1) by omega] at this
      · cases hf
    -- a part of an aggregate, by the step before
    have step : ∀ {tf : TypeId} {sf fo : Nat} {lf : List (Nat × Sh)} {A B : Array Value}, (∀ i, i < st → A[i]? = xs'[off + i]?) → (∀ i, i < st → B[i]? = ys'[off + i]?) → tSize P tf = some sf → fo + sf ≤ st → flatSh P d tf (off + fo) = some lf →
        ∀ {b : Bool}, evEqL h ts lf xs ys = some b → ∃ p q, (part tf A fo).run P w = .ok p w ∧ (part tf B fo).run P w = .ok q w ∧ (Go.Op.equalIn (D + 2 + d) tf p q).run P w = .ok b w := by
      intro tf sf fo lf A B hA hB hsf hle hlf b hb
      have hag : tAgg P tf = some true ∨ (tAgg P tf = some false ∧ sf = 1 ∧ (∃ v, xs'[off + fo]? = some v) ∧ ∃ v, ys'[off + fo]? = some v) := by
        cases d with
        | zero => simp [flatSh] at hlf
        | succ d =>
          simp only [flatSh, Option.bind_eq_some_iff] at hlf
          obtain ⟨s1, h1, h2⟩ := hlf
          rw [hsf] at h1
          cases h1
          have hsc : (if sf = 1 then (scSh P tf).map fun s => [(off + fo, s)] else none) = some lf → tAgg P tf = some true ∨ (tAgg P tf = some false ∧ sf = 1 ∧ (∃ v, xs'[off + fo]? = some v) ∧ ∃ v, ys'[off + fo]? = some v) := by
            intro hf
            split at hf
            · rename_i h1
              simp only [Option.map_eq_some_iff] at hf
              obtain ⟨s, hs, rfl⟩ := hf
              refine .inr ⟨tAgg_of_scalar hs, h1, ?_⟩
              simp only [evEqL] at hb
              cases hxo : xs[off + fo]? with
              | none => rw [hxo] at hb; simp at hb
              | some x0 =>
                cases hyo : ys[off + fo]? with
                | none => rw [hxo, hyo] at hb; simp at hb
                | some y0 =>
                  obtain ⟨x1, h3, _⟩ := hx.get hxo
                  obtain ⟨y1, h4, _⟩ := hy.get hyo
                  exact ⟨⟨x1, h3⟩, y1, h4⟩
            · cases hf
          split at h2
          · rename_i hu; left; simp [tAgg, hu]
          · rename_i hu; left; simp [tAgg, hu]
          all_goals first | exact hsc h2 | cases h2
      obtain ⟨p, hp1, hp2⟩ := part_at hA hsf hle (hag.imp id fun hh => ⟨hh.1, hh.2.1, hh.2.2.1⟩) w
      obtain ⟨r, hr1, hr2⟩ := part_at hB hsf hle (hag.imp id fun hh => ⟨hh.1, hh.2.1, hh.2.2.2⟩) w
      exact ⟨p, r, hp1, hr1, ih hlf hsf hb hp2 hr2 D⟩
    split at hf
    · -- a struct
      rename_i fs hu
      split at hf
      · cases hf
      · rename_i hst0
        have ha : tAgg P t = some true := by simp [tAgg, hu]
        unfold AtOff at hu' hv'
        rw [ha] at hu' hv'
        obtain ⟨A, rfl, hA⟩ := hu'
        obtain ⟨B, rfl, hB⟩ := hv'
        have hfo : P.fieldsOf t = fs := by simp [Program.fieldsOf, hu]
        rw [show D + 2 + (d + 1) = (D + 2 + d) + 1 by omega, run_equalIn_struct w (D + 2 + d) t A B (by rw [hfo]; exact hu) (by simpa using hst0), hfo]
        clear hu hfo scal
        generalize fs.toList = fl at hf
        induction fl generalizing ls with
        | nil =>
          simp only [flatFs, Option.some.injEq] at hf
          subst hf
          simp only [evEqL, Option.some.injEq] at hq
          subst hq
          rfl
        | cons f fl ihl =>
          simp only [flatFs] at hf
          split at hf
          · rename_i hnm
            simp only [Op.eqFields, hnm, ne_eq, not_true_eq_false, if_false]
            exact ihl hq hf
          · rename_i hnm
            simp only [Option.bind_eq_some_iff] at hf
            obtain ⟨sf, h1, h2⟩ := hf
            split at h2
            · rename_i hle
              simp only [Option.bind_eq_some_iff, Option.map_eq_some_iff] at h2
              obtain ⟨l1, h3, l2, h4, rfl⟩ := h2
              rw [evEqL_app] at hq
              simp only [Op.eqFields, ne_eq, hnm, not_false_eq_true, if_true]
              cases hc : evEqL h ts l1 xs ys with
              | none => rw [hc] at hq; simp at hq
              | some b =>
                obtain ⟨p, r, hp, hr, heq⟩ := step hA hB h1 hle h3 hc
                simp only [Sem.run_bind, hp, hr, heq, Result.andThen_ok, Sem.run_ite]
                rw [hc] at hq
                cases b with
                | false =>
                  simp only [Option.some.injEq] at hq
                  subst hq
                  simp
                | true =>
                  simp only at hq
                  simp only [Bool.not_true, Bool.false_eq_true, if_false]
                  exact ihl hq h4
            · cases h2
    · -- an array
      rename_i k el hu
      simp only [Option.bind_eq_some_iff] at hf
      obtain ⟨s, hs, hf⟩ := hf
      split at hf
      · rename_i hks
        have ha : tAgg P t = some true := by simp [tAgg, hu]
        unfold AtOff at hu' hv'
        rw [ha] at hu' hv'
        obtain ⟨A, rfl, hA⟩ := hu'
        obtain ⟨B, rfl, hB⟩ := hv'
        rw [show D + 2 + (d + 1) = (D + 2 + d) + 1 by omega, run_equalIn_array (D + 2 + d) t el k s A B hu hs]
        clear hu scal
        have arr : ∀ (m i : Nat) (ls : List (Nat × Sh)) (q : Bool), i + m = k → flatEs (flatSh P d el) s off m i = some ls → evEqL h ts ls xs ys = some q → (eqElems (D + 2 + d) el s A B m i).run P w = .ok q w := by
          intro m
          induction m with
          | zero =>
            intro i ls q hi hf hq
            simp only [flatEs, Option.some.injEq] at hf
            subst hf
            simp only [evEqL, Option.some.injEq] at hq
            subst hq
            rfl
          | succ m ihm =>
            intro i ls q hi hf hq
            simp only [flatEs, Option.bind_eq_some_iff, Option.map_eq_some_iff] at hf
            obtain ⟨l1, h3, l2, h4, rfl⟩ := hf
            rw [evEqL_app] at hq
            have hle : i * s + s ≤ st := by
              have h1 : (i + 1) * s ≤ k * s := Nat.mul_le_mul_right s (by omega)
              rw [Nat.add_mul, Nat.one_mul] at h1
              omega
            simp only [eqElems]
            cases hc : evEqL h ts l1 xs ys with
            | none => rw [hc] at hq; simp at hq
            | some b =>
              obtain ⟨p, r, hp, hr, heq⟩ := step hA hB hs hle h3 hc
              simp only [Sem.run_bind, hp, hr, heq, Result.andThen_ok, Sem.run_ite]
              rw [hc] at hq
              cases b with
              | false =>
                simp only [Option.some.injEq] at hq
                subst hq
                simp
              | true =>
                simp only at hq
                simp only [Bool.not_true, Bool.false_eq_true, if_false]
                exact ihm (i + 1) l2 q (by omega) h4 hq
        exact arr k 0 ls q (by omega) hf hq
      · cases hf
    all_goals first | exact scal hf | cases hf

/-- Two values of a type, compared as the program compares them. -/
theorem eq_run (hR : Rel base ρ h w) {ts : TypeId → Option Sh} (hts : TsOk P ts) {t : TypeId} {s s' : Shape} (hs : rShape P t = some s) (hss : s' = s ∨ (s = .sc .ifcS ∧ s' = .sc .ifc)) {x y : V} {x' y' : Value} (hx : VRel ρ x x') (hy : VRel ρ y y') {q : Bool}
    (hev : evEq h ts s' x y = some q) : (Op.equal t x' y').run P w = .ok q w := by
  unfold Op.equal Op.maxDepth
  have scal : (scSh P t).map .sc = some s → (Op.equalIn 10000 t x' y').run P w = .ok q w := by
    intro hs
    simp only [Option.map_eq_some_iff] at hs
    obtain ⟨sh, h1, rfl⟩ := hs
    have : ∃ sh', s' = .sc sh' ∧ (sh' = sh ∨ (sh = .ifcS ∧ sh' = .ifc)) := by
      rcases hss with rfl | ⟨h2, rfl⟩
      · exact ⟨sh, rfl, .inl rfl⟩
      · cases h2; exact ⟨.ifc, rfl, .inr ⟨rfl, rfl⟩⟩
    obtain ⟨sh', rfl, h2⟩ := this
    simp only [evEq] at hev
    exact sh_run hR hts h1 h2 hx hy hev 9998
  have flat : ∀ ls, flatSh P 8 t 0 = some ls → s = .flat ls → tAgg P t = some true → (Op.equalIn 10000 t x' y').run P w = .ok q w := by
    intro ls h1 h2 hag
    subst h2
    have : s' = .flat ls := by
      rcases hss with h3 | ⟨h3, _⟩
      · exact h3
      · cases h3
    subst this
    cases hx <;> cases hy <;> simp only [evEq, reduceCtorEq] at hev
    rename_i xs xs' l1 r1 ys ys' l2 r2
    have hst : ∃ st, tSize P t = some st := by
      simp only [flatSh, Option.bind_eq_some_iff] at h1
      obtain ⟨st, h3, _⟩ := h1
      exact ⟨st, h3⟩
    obtain ⟨st, hst⟩ := hst
    have := flat_run hR hts ⟨l1, r1⟩ ⟨l2, r2⟩ 8 h1 hst hev (u := .agg ⟨xs'⟩) (v := .agg ⟨ys'⟩) (by unfold AtOff; rw [hag]; exact ⟨_, rfl, fun i _ => by simp⟩) (by unfold AtOff; rw [hag]; exact ⟨_, rfl, fun i _ => by simp⟩) 9990
    exact this
  unfold rShape at hs
  split at hs
  · rename_i fs hu
    split at hs
    · cases hs
    · simp only [Option.map_eq_some_iff] at hs
      obtain ⟨ls, h1, h2⟩ := hs
      exact flat ls h1 h2.symm (by simp [tAgg, hu])
  · rename_i k el hu
    split at hs
    · cases hs
    · simp only [Option.map_eq_some_iff] at hs
      obtain ⟨ls, h1, h2⟩ := hs
      exact flat ls h1 h2.symm (by simp [tAgg, hu])
  · exact scal hs

theorem rEqSh_ss {t : TypeId} {x y : Operand} {s' : Shape} (hs : rEqSh P t x y = some s') : ∃ s, rShape P t = some s ∧ (s' = s ∨ (s = .sc .ifcS ∧ s' = .sc .ifc ∧ (isC x || isC y) = true)) := by
  simp only [rEqSh, Option.map_eq_some_iff] at hs
  obtain ⟨s, h1, h2⟩ := hs
  refine ⟨s, h1, ?_⟩
  split at h2
  · cases hc : (isC x || isC y) with
    | true => rw [hc] at h2; simp only [if_true] at h2; exact .inr ⟨rfl, h2.symm, rfl⟩
    | false => rw [hc] at h2; simp only [Bool.false_eq_true, if_false] at h2; exact .inl h2.symm
  · exact .inl h2.symm

theorem guard_nil {op : BinOp} {t : TypeId} {x y : Operand} (hc : (isC x || isC y) = true ∨ (Op.eqGuardIn Op.maxDepth t .nilIface .nilIface).run P w = .ok false w) : (eqGuard op t x y .nilIface .nilIface).run P w = .ok () w := by
  cases op <;> first
    | rfl
    | (cases x <;> cases y <;> simp [eqGuard, isC] at hc ⊢ <;> simp [hc])

theorem evSc_top (h : H) (sh : Sh) (y : V) : evSc h sh .top y = none ∧ evSc h sh y .top = none := by
  constructor
  · cases hq : evSc h sh .top y with
    | none => rfl
    | some q =>
      exfalso
      cases sh <;> cases y <;> simp only [evSc, reduceCtorEq] at hq
      obtain ⟨k, m, n, h1, _⟩ := Sig.eqi_ok _ _ _ hq
      simp [V.conc] at h1
  · cases hq : evSc h sh y .top with
    | none => rfl
    | some q =>
      exfalso
      cases sh <;> cases y <;> simp only [evSc, reduceCtorEq] at hq
      obtain ⟨k, m, n, _, h1, _⟩ := Sig.eqi_ok _ _ _ hq
      simp [V.conc] at h1

theorem evEq_top {h : H} {ts : TypeId → Option Sh} {s : Shape} {x y : V} {q : Bool} (hev : evEq h ts s x y = some q) : x ≠ .top ∧ y ≠ .top := by
  constructor
  · rintro rfl
    cases s with
    | flat l => simp [evEq] at hev
    | sc sh => cases sh <;> simp [evEq, evSh, evSc_top, evIfc, V.isNili] at hev
  · rintro rfl
    cases s with
    | flat l => cases x <;> simp [evEq] at hev
    | sc sh => cases sh <;> cases x <;> simp [evEq, evSh, evSc_top, evIfc, V.isNili] at hev

set_option maxHeartbeats 2000000 in
/-- The guard of a comparison lets it by. -/
theorem guard_ok (hR : Rel base ρ h w) {op : BinOp} (hop : op = .eql ∨ op = .neq) {ts : TypeId → Option Sh} {t : TypeId} {x y : Operand} {s' : Shape} (hs : rEqSh P t x y = some s') {u v : V} {u' v' : Value} (hx : VRel ρ u u') (hy : VRel ρ v v') {q : Bool}
    (hev : evEq h ts s' u v = some q) : (eqGuard op t x y u' v').run P w = .ok () w := by
  obtain ⟨s, h1, h2⟩ := rEqSh_ss hs
  obtain ⟨nt1, nt2⟩ := evEq_top hev
  have hagg : ∀ {A B : Array Value}, u' = .agg A → v' = .agg B → P.eqGuardType P.depth t = false := by
    intro A B hA hB
    subst hA; subst hB
    cases hx <;> cases hy <;> first | exact absurd rfl nt1 | exact absurd rfl nt2 | skip
    unfold rShape at h1
    split at h1
    · split at h1
      · cases h1
      · rename_i hc; simpa using hc
    · split at h1
      · cases h1
      · rename_i hc; simpa using hc
    · exfalso
      simp only [Option.map_eq_some_iff] at h1
      obtain ⟨sh, h3, rfl⟩ := h1
      have : ∃ sh', s' = .sc sh' := by
        rcases h2 with rfl | ⟨_, rfl, _⟩
        · exact ⟨_, rfl⟩
        · exact ⟨_, rfl⟩
      obtain ⟨sh', rfl⟩ := this
      simp only [evEq] at hev
      cases sh' <;> simp [evSh, evSc, evIfc, V.isNili] at hev
  have hnil : u' = .nilIface → v' = .nilIface → (isC x || isC y) = true ∨ (Op.eqGuardIn Op.maxDepth t .nilIface .nilIface).run P w = .ok false w := by
    intro hA hB
    subst hA; subst hB
    cases hx <;> cases hy <;> first | exact absurd rfl nt1 | exact absurd rfl nt2 | skip
    rcases h2 with rfl | ⟨_, _, hc⟩
    · unfold rShape at h1
      split at h1
      · split at h1
        · cases h1
        · simp only [Option.map_eq_some_iff] at h1
          obtain ⟨ls, _, rfl⟩ := h1
          simp [evEq] at hev
      · split at h1
        · cases h1
        · simp only [Option.map_eq_some_iff] at h1
          obtain ⟨ls, _, rfl⟩ := h1
          simp [evEq] at hev
      · simp only [Option.map_eq_some_iff] at h1
        obtain ⟨sh, h3, rfl⟩ := h1
        simp only [evEq] at hev
        have hsh : sh = .ifc := by cases sh <;> simp [evSh, evSc, evIfc, V.isNili] at hev ⊢
        subst hsh
        right
        obtain ⟨ms, hu⟩ := ifc_und h3 (.inl rfl)
        unfold scSh at h3
        rw [hu] at h3
        simp only [Option.some.injEq] at h3
        have hms : ms.isEmpty = true := by
          cases hm : ms.isEmpty with
          | true => rfl
          | false => rw [hm] at h3; simp at h3
        unfold Op.maxDepth
        show (Op.eqGuardIn (9999 + 1) t .nilIface .nilIface).run P w = .ok false w
        generalize 9999 = D
        simp only [Op.eqGuardIn, Sem.run_bind, run_und hu, Result.andThen_ok, Sem.run_pure, hms, Bool.not_true]
    · exact .inl hc
  rcases hop with rfl | rfl <;> cases hx <;> cases hy <;> first
    | exact absurd rfl nt1
    | exact absurd rfl nt2
    | rfl
    | exact run_eqGuard_agg w _ t x y _ _ (hagg rfl rfl)
    | skip
  all_goals exact guard_nil (hnil rfl rfl)
end
end Go.Ev
