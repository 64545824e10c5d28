import Derived.Test.YtolngjaihlggnaaGreatDoorEvOpK
/-! The operations, one by one: copies, appends, calls. -/
namespace Go.Ev
set_option linter.unusedVariables false
set_option linter.unusedSimpArgs false
set_option linter.unusedSectionVars false
variable [Sig]
section
variable {P : Program} {base : Nat} {ρ : Rho} {n : Nat} {e : Env} {h : H} {a : Act} {w : World} {cx : Cx} {o : Oper} {r : RO} {res : Res}

theorem loadFrom_drew (q : Addr) : ∀ (k i : Nat) (acc A : Array Value), (loadCellsFrom q i k acc).run P w = .ok A w → (loadCellsFrom q i k acc).run P w.drew = .ok A w.drew
  | 0, i, acc, A, hr => by simp [loadCellsFrom] at hr ⊢; exact hr
  | k + 1, i, acc, A, hr => by
    simp only [loadCellsFrom, Sem.run_bind, run_load] at hr ⊢
    have hc : w.drew.cell? (q.add i) = w.cell? (q.add i) := rfl
    rw [hc]
    cases hcell : w.cell? (q.add i) with
    | some v =>
      rw [hcell] at hr
      simp only [Result.andThen_ok] at hr ⊢
      exact loadFrom_drew q k _ _ _ hr
    | none =>
      rw [hcell] at hr
      have hf : w.drew.farLoad P (q.add i) (Mode.plain == Mode.atomic) = w.farLoad P (q.add i) (Mode.plain == Mode.atomic) := rfl
      rw [hf]
      cases hfar : w.farLoad P (q.add i) (Mode.plain == Mode.atomic) with
      | error e => rw [hfar] at hr; simp at hr
      | ok p =>
        rw [hfar] at hr
        simp only [Result.andThen_ok] at hr ⊢
        exact loadFrom_drew q k _ _ _ hr

theorem first_drew {k j : Nat} {v : Value} {A : Array Value} (hr : (Builtin.firstCells k j v).run P w = .ok A w) : (Builtin.firstCells k j v).run P w.drew = .ok A w.drew := by
  unfold Builtin.firstCells at hr ⊢
  split
  · exact loadFrom_drew _ _ _ _ _ hr
  · simp at hr ⊢; exact hr
  · simp at hr ⊢; exact hr
  · simp at hr

/-- The elements of a slice. -/
theorem slice_cells (hR : Rel base ρ h w) {k : Nat} {v : V} {v' : Value} (hv : VRel ρ v v') {m : Nat} {cs : List V} (hs : sliceCells h k v = some (m, cs)) :
    (Builtin.lenOf v').run P w = .ok m w ∧ cs.length = m * k ∧ ∀ j, j ≤ m → ∃ ds, (Builtin.firstCells k j v').run P w = .ok ⟨ds⟩ w ∧ LRel ρ (cs.take (j * k)) ds := by
  cases hv <;> simp only [sliceCells, reduceCtorEq] at hs
  case nils =>
    simp only [Option.some.injEq, Prod.mk.injEq] at hs
    obtain ⟨rfl, rfl⟩ := hs
    refine ⟨rfl, by simp, fun j hj => ⟨[], rfl, by simpa using LRel.nil ρ⟩⟩
  case slc b o' len cap sz ent ro' cap' he hs' =>
    simp only [Option.map_eq_some_iff, Prod.mk.injEq] at hs
    obtain ⟨cs', h1, rfl, rfl⟩ := hs
    have hlen : cs'.length = len * k := by
      simp only [H.ldA, Option.bind_eq_some_iff] at h1
      obtain ⟨c0, _, h3⟩ := h1
      cases hle : Nat.ble (o' + len * k) c0.length with
      | false => rw [hle] at h3; simp at h3
      | true =>
        rw [hle] at h3
        simp only [cond_true, Option.some.injEq] at h3
        have := nble hle
        subst h3
        simp
        omega
    refine ⟨rfl, hlen, fun j hj => ?_⟩
    by_cases hz : len = 0
    · subst hz
      have hj0 : j = 0 := by omega
      subst hj0
      exact ⟨[], by simp [Builtin.firstCells, loadCells, loadCellsFrom], by simpa using LRel.nil ρ⟩
    · have hro : ro' = ent.ro + o' := by
        rcases hs' with hs' | ⟨_, hs' | hs'⟩
        · exact hs'.2.2
        · exact hs'.2.2.1
        · omega
      have h2 : h.ldA b o' (j * k) = some (cs'.take (j * k)) := by
        simp only [H.ldA, Option.bind_eq_some_iff] at h1 ⊢
        obtain ⟨c0, h3, h4⟩ := h1
        refine ⟨c0, h3, ?_⟩
        cases hle : Nat.ble (o' + len * k) c0.length with
        | false => rw [hle] at h4; simp at h4
        | true =>
          rw [hle] at h4
          simp only [cond_true, Option.some.injEq] at h4
          have := nble hle
          have hjl : j * k ≤ len * k := Nat.mul_le_mul_right k hj
          have hb : Nat.ble (o' + j * k) c0.length = true := Nat.ble_eq_true_of_le (by omega)
          rw [hb, cond_true, ← h4, List.take_take, Nat.min_eq_left hjl]
      obtain ⟨ds, h3, h4⟩ := hR.loadA (P := P) he h2
      refine ⟨ds, ?_, h4⟩
      simp only [Builtin.firstCells, hro]
      exact h3

theorem ok_copy (s : St P base ρ n e h a w) {c : Call} (ho : o.op = .call c) (hb : c.callee = .builtin .copy) (hr : rBuiltin P .copy c.argTypes c.args = some r) (hev : evOp cx e h r = some res) : ResOk P base ρ h o a w res := by
  have hrun0 := run_bi (P := P) (a := a) (w := w) ho hb
  unfold rBuiltin at hr
  split at hr <;> first | (exfalso; simp_all; done) | skip
  rename_i x y t u h1 h2 h3
  rw [arr2 h2, arr2 h3] at hrun0
  simp only [List.map_toArray, List.map_cons, List.map_nil, builtin] at hrun0
  split at hr <;> first | (cases hr; done) | skip
  rename_i el el' hu hu'
  simp only [Option.bind_eq_some_iff, Option.map_eq_some_iff] at hr
  obtain ⟨x', h4, y', h5, k, h6, rfl⟩ := hr
  simp only [evOp, Option.bind_eq_some_iff] at hev
  obtain ⟨dv, h7, sv, h8, ⟨m, vs⟩, h9, h10⟩ := hev
  have hx := s.x h4 h7
  have hy := s.x h5 h8
  obtain ⟨g1, g2, g3⟩ := slice_cells (P := P) s.rel hy h9
  generalize hxv : a.eval x = xv at hx hrun0
  cases hx <;> simp only [reduceCtorEq] at h10
  case nils =>
    simp only [Option.some.injEq] at h10
    subst h10
    refine ⟨.int .i64 0, ?_, .int _ _⟩
    obtain ⟨ds, q1, q2⟩ := g3 0 (Nat.zero_le _)
    rw [hrun0]
    simp only [Sem.run_bind, Builtin.copy_, List.getElem?_toArray, List.getElem?_cons_zero, List.getElem?_cons_succ, run_und hu, Result.andThen_ok, g1, run_size h6, Nat.min_zero, q1, Sem.run_pure]
    simp [q1, goInt]
  case slc b o' len cap sz ent ro' cap' he hs =>
    cases hmz : Nat.beq (min m len) 0 with
    | true =>
      rw [hmz] at h10
      simp only [cond_true, Option.some.injEq] at h10
      subst h10
      have hmz := nbeq hmz
      refine ⟨.int .i64 0, ?_, .int _ _⟩
      obtain ⟨ds, q1, q2⟩ := g3 0 (Nat.zero_le _)
      have hds : ds = [] := List.eq_nil_of_length_eq_zero (by have := q2.1; simp at this; exact this.symm)
      subst hds
      rw [hrun0]
      have hmin : Nat.min m len = 0 := hmz
      simp only [Sem.run_bind, Builtin.copy_, List.getElem?_toArray, List.getElem?_cons_zero, List.getElem?_cons_succ, run_und hu, Result.andThen_ok, g1, run_size h6, hmin, q1, Sem.run_pure, storeCells]
      rfl
    | false =>
      rw [hmz] at h10
      simp only [cond_false, Option.map_eq_some_iff] at h10
      obtain ⟨h', h11, rfl⟩ := h10
      obtain ⟨ds, q1, q2⟩ := g3 (min m len) (Nat.min_le_left _ _)
      have hne : min m len ≠ 0 := fun hh => by rw [nbt hh] at hmz; cases hmz
      have hro : ro' = ent.ro + o' := by
        rcases hs with hs | ⟨_, hs | hs⟩
        · exact hs.2.2
        · exact hs.2.2.1
        · exfalso; apply hne; rw [hs.1]; exact Nat.min_zero _
      obtain ⟨w', q3, q4, q5⟩ := s.rel.storeA (P := P) he q2 h11
      refine OpOk.val (v := .int .i64 (min m len : Nat)) ?_ ⟨ρ, q4, q5, .int _ _⟩
      rw [hrun0]
      have hmin : Nat.min m len = min m len := rfl
      simp only [Sem.run_bind, Builtin.copy_, List.getElem?_toArray, List.getElem?_cons_zero, List.getElem?_cons_succ, run_und hu, Result.andThen_ok, g1, run_size h6, hmin, q1, Sem.run_pure, hro, q3]
      rfl

theorem zeroCells_rel {z : List V} {z' : Array Value} (hz : LRel ρ z z'.toList) (k : Nat) : LRel ρ (repZ z k) (Builtin.zeroCells z' k).toList := rep_rel hz k _ rfl

theorem ok_clear (s : St P base ρ n e h a w) {c : Call} (ho : o.op = .call c) (hb : c.callee = .builtin .clear) (hr : rBuiltin P .clear c.argTypes c.args = some r) (hev : evOp cx e h r = some res) : ResOk P base ρ h o a w res := by
  have hrun0 := run_bi (P := P) (a := a) (w := w) ho hb
  unfold rBuiltin at hr
  split at hr <;> first | (exfalso; simp_all; done) | skip
  rename_i x t h1 h2 h3
  rw [arr1 h2, arr1 h3] at hrun0
  simp only [List.map_toArray, List.map_cons, List.map_nil, builtin] at hrun0
  split at hr <;> first | (cases hr; done) | skip
  rename_i el hu
  simp only [Option.bind_eq_some_iff, Option.map_eq_some_iff] at hr
  obtain ⟨x', h4, z, h5, rfl⟩ := hr
  simp only [evOp, Option.bind_eq_some_iff] at hev
  obtain ⟨v, h7, h8⟩ := hev
  have hx := s.x h4 h7
  obtain ⟨z', hz1, _, hz3⟩ := run_zero h5 w
  generalize hxv : a.eval x = xv at hx hrun0
  cases hx <;> simp only [reduceCtorEq] at h8
  case nils =>
    simp only [Option.some.injEq] at h8
    subst h8
    refine ⟨.tuple #[], ?_, .tup' (.nil ρ)⟩
    rw [hrun0]
    simp only [Sem.run_bind, Builtin.clear_, List.getElem?_toArray, List.getElem?_cons_zero, run_und hu, Result.andThen_ok, Sem.run_pure]
  case slc b o' len cap sz ent ro' cap' he hs =>
    cases hz : Nat.beq len 0 with
    | true =>
      rw [hz] at h8
      simp only [cond_true, Option.some.injEq] at h8
      subst h8
      have := nbeq hz
      subst this
      refine ⟨.tuple #[], ?_, .tup' (.nil ρ)⟩
      rw [hrun0]
      simp only [Sem.run_bind, Builtin.clear_, List.getElem?_toArray, List.getElem?_cons_zero, run_und hu, Result.andThen_ok, Sem.run_pure]
    | false =>
      rw [hz] at h8
      simp only [cond_false, Option.map_eq_some_iff] at h8
      obtain ⟨h', h9, rfl⟩ := h8
      have hne : len ≠ 0 := fun hh => by rw [nbt hh] at hz; cases hz
      have hro : ro' = ent.ro + o' := by
        rcases hs with hs | ⟨_, hs | hs⟩
        · exact hs.2.2
        · exact hs.2.2.1
        · exact absurd hs.1 hne
      obtain ⟨w', q3, q4, q5⟩ := s.rel.storeA (P := P) he (zeroCells_rel (hz3 ρ).cells len) h9
      refine OpOk.val (v := .tuple #[]) ?_ ⟨ρ, q4, q5, .tup' (.nil ρ)⟩
      rw [hrun0]
      obtain ⟨m, rfl⟩ : ∃ m, len = m + 1 := ⟨len - 1, by omega⟩
      simp only [Sem.run_bind, Builtin.clear_, List.getElem?_toArray, List.getElem?_cons_zero, run_und hu, Result.andThen_ok, Sem.run_pure, hz1, hro, q3]

/-! ### Appends -/

theorem nextcap_le {need cap : Nat} (hn : need ≤ 1000000) (hc : cap < need) : Builtin.nextslicecap need cap ≤ 10000000 := by
  unfold Builtin.nextslicecap
  split
  · omega
  · split
    · omega
    · have g : ∀ (r c : Nat), c ≤ 2000000 → Builtin.growBy need r c ≤ 2000000 := by
        intro r
        induction r with
        | zero => intro c hc; simpa [Builtin.growBy] using hc
        | succ r ih =>
          intro c hc
          simp only [Builtin.growBy]
          split
          · exact hc
          · exact ih _ (by omega)
      have := g 4 cap (by omega)
      omega

theorem drew_heap (w : World) : w.drew.heap = w.heap := rfl

theorem Rel.drew (hR : Rel base ρ h w) : Rel base ρ h w.drew := ⟨fun b blk ent hb he => (hR.blk b blk ent hb he).of_heap fun _ => rfl, hR.dom, hR.inj, hR.sz⟩
theorem Ext.drew (ρ : Rho) (h : H) (w : World) : Ext ρ h w ρ h w.drew :=
  ⟨.refl ρ, fun b e h1 h2 => by simp [h1] at h2, Nat.le_refl _, Nat.le_refl _, rfl, rfl, fun _ => rfl, fun _ _ _ => rfl, fun b e ho he => .inr ⟨b, e, ho, he, rfl⟩⟩
end
end Go.Ev
