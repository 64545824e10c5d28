import Derived.Test.YtolngjaihlggnaaGreatDoorEvDrawF
/-! Calls: the evaluator's calls are the model's. -/
namespace Go.Ev
set_option linter.unusedVariables false
set_option linter.unusedSimpArgs false
set_option linter.unusedSectionVars false
variable [Sig]

def resG (tmps : Array Value) : ResultVar → Sem Value
  | .tmp t => pure (tmps.getD t undef)
  | .cell a t => do loadVar t (← asAddr (tmps.getD a undef))

theorem results_eq (fn : Func) (tmps : Array Value) : results fn tmps = (do
  let vs ← fn.results.mapM (resG tmps)
  pure (if h : vs.size = 1 then vs[0] else .tuple vs)) := rfl

section
variable {P : Program} {base : Nat} {ρ : Rho} {n : Nat} {e : Env} {h : H} {a : Act} {w : World} {cx : Cx}

theorem St.tmp (s : St P base ρ n e h a w) {i : Nat} {v : V} (hv : e.get i = some v) : ∃ v', a.tmps.getD i undef = v' ∧ VRel ρ v v' := by
  obtain ⟨v', h1, h2⟩ := s.env.2 i v hv
  refine ⟨v', ?_, h2⟩
  rw [Array.getD_eq_getD_getElem?, h1]
  rfl

theorem res_run (s : St P base ρ n e h a w) {r : ResultVar} {x : RRes} (hr : rRes P r = some x) {v : V} (hev : evRes e h x = some v) : ∃ v', (resG a.tmps r).run P w = .ok v' w ∧ VRel ρ v v' := by
  cases r with
  | tmp t =>
    simp only [rRes, Option.some.injEq] at hr
    subst hr
    obtain ⟨v', h1, h2⟩ := s.tmp hev
    exact ⟨v', by simp only [resG, h1, Sem.run_pure], h2⟩
  | cell t ty =>
    simp only [rRes, Option.bind_eq_some_iff] at hr
    obtain ⟨b, h1, h2⟩ := hr
    cases b with
    | false =>
      simp only [Bool.false_eq_true, if_false, Option.some.injEq] at h2
      subst h2
      simp only [evRes] at hev
      split at hev
      · rename_i b o hg
        obtain ⟨x, h3, h4⟩ := s.tmp hg
        cases h4 with
        | ptr _ _ ent he =>
          obtain ⟨v', h7, h8⟩ := s.rel.load1 he hev
          refine ⟨v', ?_, h8⟩
          simp only [resG, h3, asAddr, loadVar, Sem.run_bind, Sem.run_pure, Result.andThen_ok, run_agg h1, Bool.false_eq_true, if_false, run_load, h7]
      · cases hev
    | true =>
      simp only [if_true, Option.map_eq_some_iff] at h2
      obtain ⟨k, h5, rfl⟩ := h2
      simp only [evRes] at hev
      split at hev
      · rename_i b o hg
        obtain ⟨x, h3, h4⟩ := s.tmp hg
        simp only [Option.map_eq_some_iff] at hev
        obtain ⟨cs, h6, rfl⟩ := hev
        cases h4 with
        | ptr _ _ ent he =>
          obtain ⟨ds, h7, h8⟩ := s.rel.loadA (P := P) he h6
          refine ⟨.agg ⟨ds⟩, ?_, .agg' h8⟩
          simp only [resG, h3, asAddr, loadVar, Sem.run_bind, Sem.run_pure, Result.andThen_ok, run_agg h1, if_true, run_size h5, h7]
      · cases hev

theorem ress_run (s : St P base ρ n e h a w) : ∀ (rs : List ResultVar) (xs : List RRes), rRess P rs = some xs → ∀ vs, evRess e h xs = some vs → ∃ vs', (rs.mapM (resG a.tmps)).run P w = .ok vs' w ∧ LRel ρ vs vs' := by
  intro rs
  induction rs with
  | nil =>
    intro xs hr vs hev
    simp only [rRess, Option.some.injEq] at hr
    subst hr
    simp only [evRess, Option.some.injEq] at hev
    subst hev
    exact ⟨[], by simp, .nil ρ⟩
  | cons r rs ih =>
    intro xs hr vs hev
    simp only [rRess, Option.bind_eq_some_iff, Option.map_eq_some_iff] at hr
    obtain ⟨x, h1, xs', h2, rfl⟩ := hr
    simp only [evRess, Option.bind_eq_some_iff, Option.map_eq_some_iff] at hev
    obtain ⟨v, h3, vs', h4, rfl⟩ := hev
    obtain ⟨v', h5, h6⟩ := res_run s h1 h3
    obtain ⟨us, h7, h8⟩ := ih xs' h2 vs' h4
    exact ⟨v' :: us, by simp only [List.mapM_cons, Sem.run_bind, h5, Result.andThen_ok, h7, Sem.run_pure], h8.cons h6⟩

theorem results_run (s : St P base ρ n e h a w) {fn : Func} {xs : List RRes} (hr : rRess P fn.results.toList = some xs) {vs : List V} (hev : evRess e h xs = some vs) : ∃ v', (results fn a.tmps).run P w = .ok v' w ∧ VRel ρ (packRes vs) v' := by
  obtain ⟨us, h1, h2⟩ := ress_run s _ _ hr _ hev
  rw [results_eq]
  refine ⟨if h : us.toArray.size = 1 then us.toArray[0] else .tuple us.toArray, ?_, ?_⟩
  · rw [Array.mapM_eq_mapM_toList]
    simp only [Sem.run_bind, Sem.run_map, h1, Result.andThen_ok, Sem.run_pure]
  · cases vs with
    | nil =>
      have : us = [] := List.length_eq_zero_iff.1 h2.1.symm
      subst this
      exact VRel.tup' (.nil ρ)
    | cons v vs =>
      cases vs with
      | nil =>
        obtain ⟨u, rfl⟩ : ∃ u, us = [u] := List.length_eq_one_iff.1 h2.1.symm
        exact h2.2 0 v u rfl rfl
      | cons v2 vs =>
        have hl : us.toArray.size ≠ 1 := by
          have := h2.1
          simp at this ⊢
          omega
        rw [dif_neg hl]
        exact VRel.tup' h2

theorem envOf_get : ∀ (l : List V) (i : Nat) (e : Env) (t : Nat) (v : V), (envOf l i e).get t = some v → (i ≤ t ∧ l[t - i]? = some v) ∨ ((t < i ∨ i + l.length ≤ t) ∧ e.get t = some v) := by
  intro l
  induction l with
  | nil => intro i e t v hg; simp only [envOf] at hg; exact .inr ⟨by simp; omega, hg⟩
  | cons x l ih =>
    intro i e t v hg
    simp only [envOf] at hg
    rcases ih (i + 1) _ t v hg with ⟨h1, h2⟩ | ⟨h1, h2⟩
    · refine .inl ⟨by omega, ?_⟩
      have : t - i = (t - (i + 1)) + 1 := by omega
      rw [this, List.getElem?_cons_succ]; exact h2
    · by_cases hti : t = i
      · subst hti
        rw [T.get_set_same] at h2
        cases h2
        exact .inl ⟨Nat.le_refl _, by simp⟩
      · rw [T.get_set_ne _ _ (Ne.symm hti)] at h2
        refine .inr ⟨?_, h2⟩
        simp only [List.length_cons]
        omega

/-- What stands for a function without a Go body. -/
def OrcSound (P : Program) (base : Nat) (cx : Cx) : Prop :=
  ∀ f g, cx.orc f = some g → ∀ az h v h', g az h = some (v, h') → ∀ ρ w az', Pins P ρ → Rel base ρ h w → LRel ρ az az' →
    Does P f az'.toArray w fun v' w' => ∃ ρ', Rel base ρ' h' w' ∧ Ext ρ h w ρ' h' w' ∧ VRel ρ' v v'

def FtOk (P : Program) (ft : T RFunc) : Prop := ∀ f rf, ft.get f = some rf → rFunc P f = some rf

theorem func_calls (hm : P.follows .mixedOrders = true) (hts : TsOk P cx.ts) {f : FuncId} {rf : RFunc} (hf : rFunc P f = some rf) {fuel : Nat} {call : CallF} (hcall : CallSound P base call) {az : List V} {x : Ex} {e' : Env} {h' : H}
    (hev : evCode cx call fuel rf.body (envOf az 0 .nil) h = some (x, e', h')) (hx : ∀ i, x ≠ .exit i) {vs : List V} (hrs : evRess e' h' rf.res = some vs) (hp : Pins P ρ) (hr : Rel base ρ h w) {az' : List Value} (ha : LRel ρ az az') :
    Calls P f az'.toArray w fun r w' => ∃ v', r = .returned v' ∧ ∃ ρ', Rel base ρ' h' w' ∧ Ext ρ h w ρ' h' w' ∧ VRel ρ' (packRes vs) v' := by
  unfold rFunc at hf
  split at hf
  · cases hf
  · rename_i hg
    simp only [Option.bind_eq_some_iff] at hf
    obtain ⟨fn, h1, c, h2, h3⟩ := hf
    split at h3
    · rename_i hd
      simp only [Option.map_eq_some_iff] at h3
      obtain ⟨rs, h4, rfl⟩ := h3
      refine calls_of_wp h1 h2 ?_
      have s : St P base ρ fn.ntmps (envOf az 0 .nil) h { tmps := az'.toArray ++ Array.replicate (fn.ntmps - az'.toArray.size) undef, defers := [] } w := by
        refine ⟨hp, ⟨by simp; omega, fun t v hv => ?_⟩, hr⟩
        rcases envOf_get az 0 .nil t v hv with ⟨_, h5⟩ | ⟨_, h5⟩
        · rw [Nat.sub_zero] at h5
          obtain ⟨y, h6, h7⟩ := ha.get h5
          refine ⟨y, ?_, h7⟩
          have hlt : t < az'.length := (List.getElem?_eq_some_iff.1 h6).1
          rw [Array.getElem?_append_left (by simpa using hlt)]
          simpa using h6
        · simp [T.get] at h5
      refine code_ok (n := fn.ntmps) hts hcall (drw_ok hm hts hcall) fuel c ρ _ h _ w x e' h' _ hd hev s rfl fun ρ' a' w' s' hx' hdef => ?_
      obtain ⟨v', h8, h9⟩ := results_run s' h4 hrs
      have : a'.defers = [] ∧ ∃ v, (results fn a'.tmps).run P w' = .ok v w' ∧ ∃ v', (Ending.returned v) = .returned v' ∧ ∃ ρ', Rel base ρ' h' w' ∧ Ext ρ h w ρ' h' w' ∧ VRel ρ' (packRes vs) v' :=
        ⟨hdef, v', h8, v', rfl, ρ', s'.rel, hx', h9⟩
      cases x with
      | nrm => exact this
      | ret => exact this
      | exit i => exact absurd rfl (hx i)
    · cases h3

theorem run_enter {f : FuncId} (hgood : goodFn P f = true) (args : Array Value) (w : World) : (callFunc f args).run P w = .ok (.enter f args) w := by
  unfold goodFn at hgood
  cases hfn : P.funcs[f]? with
  | none => rw [hfn] at hgood; cases hgood
  | some fn =>
    rw [hfn] at hgood
    simp only [Bool.and_eq_true, Bool.not_eq_true', Option.isSome_iff_exists] at hgood
    obtain ⟨hname, c, hb⟩ := hgood
    have h1 : fn.name ≠ "runtime.NumGoroutine" := by simpa using hname
    simp [callFunc, hfn, h1, hb]

theorem call_ok (hm : P.follows .mixedOrders = true) (hts : TsOk P cx.ts) (hft : FtOk P cx.ft) (horc : OrcSound P base cx) (fuel : Nat) : ∀ n, CallSound P base (evCall cx fuel n) := by
  intro n
  induction n with
  | zero => intro f az h v h' hev; simp [evCall] at hev
  | succ n ih =>
    intro f az h v h' hev ρ w az' hp hr ha
    simp only [evCall] at hev
    cases ho : cx.orc f with
    | some g =>
      rw [ho] at hev
      exact horc f g ho az h v h' hev ρ w az' hp hr ha
    | none =>
      rw [ho] at hev
      simp only at hev
      cases hg : cx.ft.get f with
      | none => rw [hg] at hev; simp at hev
      | some rf =>
        rw [hg] at hev
        simp only at hev
        have hf := hft f rf hg
        cases hc : evCode cx (evCall cx fuel n) fuel rf.body (envOf az 0 .nil) h with
        | none => rw [hc] at hev; simp at hev
        | some p =>
          obtain ⟨x, e1, h1⟩ := p
          rw [hc] at hev
          have hx : ∀ i, x ≠ .exit i := fun i hi => by subst hi; simp at hev
          have hev : (match evRess e1 h1 rf.res with | some vs => some (packRes vs, h1) | none => none) = some (v, h') := by
            cases x with
            | exit i => exact absurd rfl (hx i)
            | nrm => exact hev
            | ret => exact hev
          cases hrs : evRess e1 h1 rf.res with
          | none => rw [hrs] at hev; cases hev
          | some vs =>
            rw [hrs] at hev
            simp only [Option.some.injEq, Prod.mk.injEq] at hev
            obtain ⟨rfl, rfl⟩ := hev
            have hcalls := func_calls hm hts hf ih hc hx hrs hp hr ha
            intro o a next Q hn
            have hgood : goodFn P f = true := by
              unfold rFunc at hf
              split at hf
              · cases hf
              · rename_i hh; simpa using hh
            rw [run_enter hgood, Oper.upon_enter]
            refine hcalls.mono fun r w' ⟨v', h1, h2⟩ => ?_
            subst h1
            exact hn v' w' h2
end
end Go.Ev
