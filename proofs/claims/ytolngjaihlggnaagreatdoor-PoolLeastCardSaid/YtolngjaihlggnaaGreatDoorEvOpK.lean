import Derived.Test.YtolngjaihlggnaaGreatDoorEvOpJ
/-! The operations, one by one: lengths, copies, appends, calls. -/
namespace Go.Ev
set_option linter.unusedVariables false
set_option linter.unusedSimpArgs false
set_option linter.unusedSectionVars false
variable [Sig]
section
variable {P : Program} {base : Nat} {ρ : Rho} {n : Nat} {e : Env} {h : H} {a : Act} {w : World} {cx : Cx} {o : Oper} {r : RO} {res : Res}

/-- A builtin's run. -/
theorem run_bi {c : Call} {b : Builtin} (ho : o.op = .call c) (hb : c.callee = .builtin b) :
    (execOp a.eval o).run P w = (builtin b c.argTypes o.type (c.args.map fun | .const _ => true | _ => false) (c.args.map a.eval)).run P w := by
  simp only [execOp, ho, resolve, hb, Sem.run_bind, Sem.run_pure, Result.andThen_ok, invoke]
  rfl

theorem arr1 {α : Type} {x : Array α} {u : α} (h : x.toList = [u]) : x = #[u] := by apply Array.ext'; simpa using h
theorem arr2 {α : Type} {x : Array α} {u v : α} (h : x.toList = [u, v]) : x = #[u, v] := by apply Array.ext'; simpa using h

theorem ok_len (s : St P base ρ n e h a w) {c : Call} (ho : o.op = .call c) (hb : c.callee = .builtin .len) (hr : rBuiltin P .len c.argTypes c.args = some r) (hev : evOp cx e h r = some res) : ResOk P base ρ h o a w res := by
  have hrun0 := run_bi (P := P) (a := a) (w := w) ho hb
  unfold rBuiltin at hr
  split at hr <;> first | (exfalso; simp_all; done) | skip
  rename_i x t h1 h2 h3
  rw [arr1 h2, arr1 h3] at hrun0
  simp only [List.map_toArray, List.map_cons, List.map_nil, builtin] at hrun0
  have fin : ∀ {k : Nat}, (Builtin.len_ #[t] o.type #[a.eval x]).run P w = .ok (goInt k) w → ∃ v', (execOp a.eval o).run P w = .ok (.value v') w ∧ VRel ρ (.int .i64 k) v' := by
    intro k hk
    refine ⟨.int .i64 k, ?_, .int _ _⟩
    rw [hrun0]
    simp only [Sem.run_bind, hk, Result.andThen_ok, Sem.run_pure]
    rfl
  split at hr
  · rename_i hu
    simp only [Option.map_eq_some_iff] at hr
    obtain ⟨y, h4, rfl⟩ := hr
    simp only [evOp, Option.bind_eq_some_iff] at hev
    obtain ⟨v, h5, h6⟩ := hev
    have hx := s.x h4 h5
    generalize hxv : a.eval x = xv at hx fin
    cases hx <;> simp only [reduceCtorEq, Option.some.injEq] at h6
    case str sb l hl =>
      subst h6; subst hl
      refine fin ?_
      have : (sb.data.toList.map UInt8.toNat).length = sb.size := by simp
      rw [this]
      simp only [Builtin.len_, Sem.run_bind, run_und hu, Result.andThen_ok, Sem.run_pure, List.getElem?_toArray, List.getElem?_cons_zero]
  · rename_i el hu
    simp only [Option.map_eq_some_iff] at hr
    obtain ⟨y, h4, rfl⟩ := hr
    simp only [evOp, Option.bind_eq_some_iff] at hev
    obtain ⟨v, h5, h6⟩ := hev
    have hx := s.x h4 h5
    generalize hxv : a.eval x = xv at hx fin
    cases hx <;> simp only [reduceCtorEq, Option.some.injEq] at h6
    case nils =>
      subst h6
      exact fin (by simp only [Builtin.len_, Sem.run_bind, run_und hu, Result.andThen_ok, Sem.run_pure, List.getElem?_toArray, List.getElem?_cons_zero])
    case slc b o' len cap sz ent ro' cap' he hs =>
      subst h6
      exact fin (by simp only [Builtin.len_, Sem.run_bind, run_und hu, Result.andThen_ok, Sem.run_pure, List.getElem?_toArray, List.getElem?_cons_zero])
    case slv b o' il lo ent len cap' he hl hlo =>
      subst h6
      obtain ⟨v', h7, h8⟩ := fin (k := len) (by simp only [Builtin.len_, Sem.run_bind, run_und hu, Result.andThen_ok, Sem.run_pure, List.getElem?_toArray, List.getElem?_cons_zero])
      refine ⟨v', h7, ?_⟩
      cases h8
      rw [← hl]
      exact .sym _ _
    case slvn b o' il pp cp hl =>
      subst h6
      obtain ⟨v', h7, h8⟩ := fin (k := 0) (by simp only [Builtin.len_, Sem.run_bind, run_und hu, Result.andThen_ok, Sem.run_pure, List.getElem?_toArray, List.getElem?_cons_zero])
      refine ⟨v', h7, ?_⟩
      cases h8
      rw [show ((0 : Nat) : Int) = Sig.val il from hl.symm]
      exact .sym _ _
  · rename_i kt el hu
    simp only [Option.map_eq_some_iff] at hr
    obtain ⟨y, h4, rfl⟩ := hr
    simp only [evOp, Option.bind_eq_some_iff] at hev
    obtain ⟨v, h5, h6⟩ := hev
    have hx := s.x h4 h5
    generalize hxv : a.eval x = xv at hx fin
    cases hx <;> simp only [reduceCtorEq, Option.some.injEq] at h6
    case nilm =>
      subst h6
      exact fin (k := 0) (by simp only [Builtin.len_, Sem.run_bind, run_und hu, Result.andThen_ok, Sem.run_pure, List.getElem?_toArray, List.getElem?_cons_zero]; rfl)
    case map rr ent he =>
      split at h6
      · rename_i es hg
        simp only [Option.some.injEq] at h6
        subst h6
        obtain ⟨fs, ck, g1, g2, g3⟩ := s.rel.blk rr _ ent hg he
        have : es.length = fs.size := by simpa using g2.len
        rw [this]
        exact fin (by simp only [Builtin.len_, Sem.run_bind, run_und hu, Result.andThen_ok, Sem.run_pure, List.getElem?_toArray, List.getElem?_cons_zero, run_getMap g1])
      · cases h6
  · rename_i m el hu
    cases hr
    simp only [evOp, Option.some.injEq] at hev
    subst hev
    exact fin (by simp only [Builtin.len_, Sem.run_bind, run_und hu, Result.andThen_ok, Sem.run_pure, List.getElem?_toArray, List.getElem?_cons_zero])
  · rename_i t' hu
    split at hr
    · rename_i m el hu'
      cases hr
      simp only [evOp, Option.some.injEq] at hev
      subst hev
      exact fin (by simp only [Builtin.len_, Sem.run_bind, run_und hu, run_und hu', Result.andThen_ok, Sem.run_pure, List.getElem?_toArray, List.getElem?_cons_zero])
    · cases hr
  · cases hr

theorem ok_cap (s : St P base ρ n e h a w) {c : Call} (ho : o.op = .call c) (hb : c.callee = .builtin .cap) (hr : rBuiltin P .cap c.argTypes c.args = some r) (hev : evOp cx e h r = some res) : ResOk P base ρ h o a w res := by
  have hrun0 := run_bi (P := P) (a := a) (w := w) ho hb
  unfold rBuiltin at hr
  split at hr <;> first | (exfalso; simp_all; done) | skip
  rename_i x t h1 h2 h3
  rw [arr1 h2, arr1 h3] at hrun0
  simp only [List.map_toArray, List.map_cons, List.map_nil, builtin] at hrun0
  have fin : ∀ {k : Nat}, (Builtin.cap_ #[t] o.type #[a.eval x]).run P w = .ok (goInt k) w → ∃ v', (execOp a.eval o).run P w = .ok (.value v') w ∧ VRel ρ (.int .i64 k) v' := by
    intro k hk
    refine ⟨.int .i64 k, ?_, .int _ _⟩
    rw [hrun0]
    simp only [Sem.run_bind, hk, Result.andThen_ok, Sem.run_pure]
    rfl
  split at hr
  · rename_i el hu
    simp only [Option.map_eq_some_iff] at hr
    obtain ⟨y, h4, rfl⟩ := hr
    simp only [evOp, Option.bind_eq_some_iff] at hev
    obtain ⟨v, h5, h6⟩ := hev
    have hx := s.x h4 h5
    generalize hxv : a.eval x = xv at hx fin
    cases hx <;> simp only [reduceCtorEq, Option.some.injEq] at h6
    case nils =>
      subst h6
      exact fin (k := 0) (by simp only [Builtin.cap_, Sem.run_bind, run_und hu, Result.andThen_ok, Sem.run_pure, List.getElem?_toArray, List.getElem?_cons_zero])
    case slc b o' len cap sz ent ro' cap' he hs =>
      cases hz : Nat.beq sz 0 with
      | false => rw [hz] at h6; simp at h6
      | true =>
        rw [hz] at h6
        simp only [cond_true, Option.some.injEq] at h6
        subst h6
        have : cap' = cap := by
          rcases hs with hs | ⟨hs, _⟩
          · exact hs.2.1
          · exact absurd (nbeq hz) hs
        subst this
        exact fin (by simp only [Builtin.cap_, Sem.run_bind, run_und hu, Result.andThen_ok, Sem.run_pure, List.getElem?_toArray, List.getElem?_cons_zero])
  · cases hr

theorem max_run (t : TypeId) : ∀ (vs : List V) (vs' : List Value) (k : IntKind) (m : Int) (v : V), LRel ρ vs vs' → maxL k m vs = some v → (vs'.foldlM Builtin.max2 (Value.int k m)).run P w = .ok (match v with | .int q i => .int q i | _ => undef) w ∧ (∃ q i, v = .int q i)
  | [], vs', k, m, v, hl, hv => by
    have : vs' = [] := List.eq_nil_of_length_eq_zero (by have := hl.1; simp at this; exact this.symm)
    subst this
    simp only [maxL, Option.some.injEq] at hv
    subst hv
    exact ⟨rfl, _, _, rfl⟩
  | x :: vs, vs', k, m, v, hl, hv => by
    obtain ⟨x', b', rfl, r1, l1⟩ := hl.of_cons
    cases x <;> simp only [maxL, reduceCtorEq] at hv
    split at hv
    · rename_i hk
      subst hk
      have := vrel_int r1
      subst this
      obtain ⟨h1, h2⟩ := max_run t vs b' _ _ v l1 hv
      refine ⟨?_, h2⟩
      simp only [List.foldlM_cons, Sem.run_bind, Builtin.max2, Sem.run_pure, Result.andThen_ok]
      exact h1
    · cases hv

theorem min_run (t : TypeId) : ∀ (vs : List V) (vs' : List Value) (k : IntKind) (m : Int) (v : V), LRel ρ vs vs' → minL k m vs = some v → (vs'.foldlM Builtin.min2 (Value.int k m)).run P w = .ok (match v with | .int q i => .int q i | _ => undef) w ∧ (∃ q i, v = .int q i)
  | [], vs', k, m, v, hl, hv => by
    have : vs' = [] := List.eq_nil_of_length_eq_zero (by have := hl.1; simp at this; exact this.symm)
    subst this
    simp only [minL, Option.some.injEq] at hv
    subst hv
    exact ⟨rfl, _, _, rfl⟩
  | x :: vs, vs', k, m, v, hl, hv => by
    obtain ⟨x', b', rfl, r1, l1⟩ := hl.of_cons
    cases x <;> simp only [minL, reduceCtorEq] at hv
    split at hv
    · rename_i hk
      subst hk
      have := vrel_int r1
      subst this
      obtain ⟨h1, h2⟩ := min_run t vs b' _ _ v l1 hv
      refine ⟨?_, h2⟩
      simp only [List.foldlM_cons, Sem.run_bind, Builtin.min2, Sem.run_pure, Result.andThen_ok]
      exact h1
    · cases hv

theorem ok_max (s : St P base ρ n e h a w) {c : Call} (ho : o.op = .call c) (hb : c.callee = .builtin .max) (hr : rBuiltin P .max c.argTypes c.args = some r) (hev : evOp cx e h r = some res) : ResOk P base ρ h o a w res := by
  have hrun0 := run_bi (P := P) (a := a) (w := w) ho hb
  unfold rBuiltin at hr
  split at hr <;> first | (exfalso; simp_all; done) | skip
  rename_i h1
  simp only [Option.map_eq_some_iff] at hr
  obtain ⟨ys, h2, rfl⟩ := hr
  simp only [evOp, Option.bind_eq_some_iff] at hev
  obtain ⟨vs, h3, h4⟩ := hev
  have hl := s.xs h2 h3
  cases vs with
  | nil => simp at h4
  | cons v vs =>
    cases v <;> simp only [reduceCtorEq, Option.map_eq_some_iff] at h4
    obtain ⟨u, h5, rfl⟩ := h4
    obtain ⟨x', b', hmap, r1, l1⟩ := hl.of_cons
    have := vrel_int r1
    subst this
    obtain ⟨h6, q, i, rfl⟩ := max_run (P := P) (w := w) o.type vs b' _ _ u l1 h5
    refine ⟨.int q i, ?_, .int _ _⟩
    rw [hrun0]
    have htl := Array.toList_map (f := a.eval) (xs := c.args)
    rw [hmap] at htl
    simp only [builtin, Sem.run_bind, Builtin.max_, htl, h6, Result.andThen_ok, Sem.run_pure]

theorem ok_min (s : St P base ρ n e h a w) {c : Call} (ho : o.op = .call c) (hb : c.callee = .builtin .min) (hr : rBuiltin P .min c.argTypes c.args = some r) (hev : evOp cx e h r = some res) : ResOk P base ρ h o a w res := by
  have hrun0 := run_bi (P := P) (a := a) (w := w) ho hb
  unfold rBuiltin at hr
  split at hr <;> first | (exfalso; simp_all; done) | skip
  rename_i h1
  simp only [Option.map_eq_some_iff] at hr
  obtain ⟨ys, h2, rfl⟩ := hr
  simp only [evOp, Option.bind_eq_some_iff] at hev
  obtain ⟨vs, h3, h4⟩ := hev
  have hl := s.xs h2 h3
  cases vs with
  | nil => simp at h4
  | cons v vs =>
    cases v <;> simp only [reduceCtorEq, Option.map_eq_some_iff] at h4
    obtain ⟨u, h5, rfl⟩ := h4
    obtain ⟨x', b', hmap, r1, l1⟩ := hl.of_cons
    have := vrel_int r1
    subst this
    obtain ⟨h6, q, i, rfl⟩ := min_run (P := P) (w := w) o.type vs b' _ _ u l1 h5
    refine ⟨.int q i, ?_, .int _ _⟩
    rw [hrun0]
    have htl := Array.toList_map (f := a.eval) (xs := c.args)
    rw [hmap] at htl
    simp only [builtin, Sem.run_bind, Builtin.min_, htl, h6, Result.andThen_ok, Sem.run_pure]
end
end Go.Ev
