import Derived.Test.YtolngjaihlggnaaGreatDoorEvOp
/-! The operations, one by one: values, loads, stores, structs. -/
namespace Go.Ev
set_option linter.unusedVariables false
set_option linter.unusedSimpArgs false
set_option linter.unusedSectionVars false
variable [Sig]
section
variable {P : Program} {base : Nat} {ρ : Rho} {n : Nat} {e : Env} {h : H} {a : Act} {w : World} {cx : Cx} {o : Oper} {r : RO} {res : Res}

theorem ok_move (s : St P base ρ n e h a w) {x : Operand} (ho : o.op = .move x ∨ o.op = .assign x) (hr : rOp? P (.move x) = some r) (hev : evOp cx e h r = some res) : ResOk P base ρ h o a w res := by
  simp only [rOp?, Option.map_eq_some_iff] at hr
  obtain ⟨y, h1, rfl⟩ := hr
  simp only [evOp, Option.map_eq_some_iff] at hev
  obtain ⟨v, h2, rfl⟩ := hev
  exact ⟨_, by rcases ho with ho | ho <;> (simp only [execOp, ho]; rfl), s.x h1 h2⟩

theorem vrel_bool {ρ : Rho} {b : Bool} {v : Value} (h : VRel ρ (.bool b) v) : v = .bool b := by cases h; rfl
theorem vrel_int {ρ : Rho} {k : IntKind} {m : Int} {v : Value} (h : VRel ρ (.int k m) v) : v = .int k m := by cases h; rfl

theorem ok_pick (s : St P base ρ n e h a w) {c x y : Operand} (ho : o.op = .pick c x y) (hr : rOp? P (.pick c x y) = some r) (hev : evOp cx e h r = some res) : ResOk P base ρ h o a w res := by
  simp only [rOp?, Option.map_eq_some_iff, Option.bind_eq_some_iff] at hr
  obtain ⟨c', h1, x', h2, y', h3, rfl⟩ := hr
  simp only [evOp, Option.bind_eq_some_iff] at hev
  obtain ⟨v, h4, h5⟩ := hev
  have hc := s.x h1 h4
  cases v <;> simp only [reduceCtorEq] at h5
  rename_i t
  simp only [Option.map_eq_some_iff] at h5
  obtain ⟨u, h6, rfl⟩ := h5
  have hc := vrel_bool hc
  cases t with
  | true =>
    simp only [cond_true] at h6
    exact ⟨a.eval x, by simp only [execOp, ho, hc, asBool, Sem.run_bind, Sem.run_pure, Result.andThen_ok, if_true], s.x h2 h6⟩
  | false =>
    simp only [cond_false] at h6
    exact ⟨a.eval y, by simp only [execOp, ho, hc, asBool, Sem.run_bind, Sem.run_pure, Result.andThen_ok, Bool.false_eq_true, if_false], s.x h3 h6⟩

/-- A new row of cells. -/
theorem brel_new (base : Nat) {ρ : Rho} {w : World} (hb : base ≤ w.heap.size) {cs : List V} {ds : List Value} (hl : LRel ρ cs ds) (t : TypeId) {i : Nat} (hi : ρ i = none) :
    BRel base (ρ.add i ⟨w.heap.size, 0, ds.length⟩) (w.alloc (.cells ⟨ds⟩ t)) ⟨w.heap.size, 0, ds.length⟩ (.cells cs false) := by
  refine ⟨⟨ds⟩, t, (0, 0), heap_alloc_same w _, by simp, ⟨by simp [hl.1], ?_⟩, fun _ => ⟨rfl, hb⟩, fun hh => by cases hh⟩
  simp only [List.drop_zero]
  rw [hl.1, List.take_length]
  exact hl.mono (Rho.add_le _ hi)

theorem ok_alloc (s : St P base ρ n e h a w) {t : TypeId} (ho : o.op = .alloc t) (hr : rOp? P (.alloc t) = some r) (hev : evOp cx e h r = some res) : ResOk P base ρ h o a w res := by
  simp only [rOp?, Option.map_eq_some_iff] at hr
  obtain ⟨z, h1, rfl⟩ := hr
  simp only [evOp, Option.some.injEq] at hev
  subst hev
  obtain ⟨z', h2, _, h3⟩ := run_zero h1 w
  refine ⟨⟨w.heap.size, 0, z'.cells.toList.length⟩, .cells ⟨z'.cells.toList⟩ t, rfl, frozen_alloc_cells w _ _, fun i hi => ⟨brel_new base s.rel.sz (h3 ρ).cells t hi, _, .ptr i 0 _ (Rho.add_same _ _ _), ?_⟩⟩
  simp only [execOp, ho, Instr.alloc, Sem.run_bind, h2, Result.andThen_ok, newVar, newRow, run_newObj, Sem.run_pure, World.alloc]

theorem ok_box (s : St P base ρ n e h a w) {t : TypeId} {x : Operand} (ho : o.op = .box t x) (hr : rOp? P (.box t x) = some r) (hev : evOp cx e h r = some res) : ResOk P base ρ h o a w res := by
  simp only [rOp?, Option.map_eq_some_iff, Option.bind_eq_some_iff] at hr
  obtain ⟨k, h1, y, h2, rfl⟩ := hr
  simp only [evOp, Option.bind_eq_some_iff] at hev
  obtain ⟨v, h3, h4⟩ := hev
  cases hc : (Nat.beq v.cells.length k && ones v.cells) with
  | false => rw [hc] at h4; simp at h4
  | true =>
    rw [hc] at h4
    simp only [cond_true, Option.some.injEq] at h4
    subst h4
    have hv := s.x h2 h3
    refine ⟨⟨w.heap.size, 0, (a.eval x).cells.toList.length⟩, .cells ⟨(a.eval x).cells.toList⟩ t, rfl, frozen_alloc_cells w _ _, fun i hi => ⟨brel_new base s.rel.sz hv.cells t hi, _, .ptr i 0 _ (Rho.add_same _ _ _), ?_⟩⟩
    simp only [execOp, ho, Instr.box, Sem.run_bind, Result.andThen_ok, newVar, newRow, run_newObj, Sem.run_pure, World.alloc]

theorem ok_load (s : St P base ρ n e h a w) {t : TypeId} {x : Operand} (ho : o.op = .load t x) (hr : rOp? P (.load t x) = some r) (hev : evOp cx e h r = some res) : ResOk P base ρ h o a w res := by
  simp only [rOp?, Option.bind_eq_some_iff] at hr
  obtain ⟨b, h1, y, h2, h3⟩ := hr
  cases b with
  | false =>
    simp only [Bool.false_eq_true, if_false, Option.some.injEq] at h3
    subst h3
    simp only [evOp, Option.bind_eq_some_iff] at hev
    obtain ⟨v, h4, h5⟩ := hev
    have hx := s.x h2 h4
    cases v <;> simp only [reduceCtorEq] at h5
    rename_i b o'
    simp only [Option.map_eq_some_iff] at h5
    obtain ⟨u, h6, rfl⟩ := h5
    generalize hxv : a.eval x = xv at hx
    cases hx with
    | ptr _ _ ent he =>
      obtain ⟨v', h7, h8⟩ := s.rel.load1 he h6
      refine ⟨v', ?_, h8⟩
      simp only [execOp, ho, Instr.loadAt, Instr.sureAddr, hxv, loadVar, Sem.run_bind, Sem.run_pure, Result.andThen_ok, run_agg h1, Bool.false_eq_true, if_false, run_load, h7]
  | true =>
    simp only [if_true, Option.map_eq_some_iff] at h3
    obtain ⟨k, h3, rfl⟩ := h3
    simp only [evOp, Option.bind_eq_some_iff] at hev
    obtain ⟨v, h4, h5⟩ := hev
    have hx := s.x h2 h4
    cases v <;> simp only [reduceCtorEq] at h5
    rename_i b o'
    simp only [Option.map_eq_some_iff] at h5
    obtain ⟨u, h6, rfl⟩ := h5
    generalize hxv : a.eval x = xv at hx
    cases hx with
    | ptr _ _ ent he =>
      obtain ⟨ds, h7, h8⟩ := s.rel.loadA (P := P) he h6
      refine ⟨.agg ⟨ds⟩, ?_, .agg' h8⟩
      simp only [execOp, ho, Instr.loadAt, Instr.sureAddr, hxv, loadVar, Sem.run_bind, Sem.run_pure, Result.andThen_ok, run_agg h1, if_true, run_size h3, h7]

theorem ok_store (s : St P base ρ n e h a w) {t : TypeId} {x y : Operand} (ho : o.op = .store t x y) (hr : rOp? P (.store t x y) = some r) (hev : evOp cx e h r = some res) : ResOk P base ρ h o a w res := by
  simp only [rOp?, Option.bind_eq_some_iff, Option.map_eq_some_iff] at hr
  obtain ⟨k, h1, x', h2, y', h3, rfl⟩ := hr
  simp only [evOp, Option.bind_eq_some_iff] at hev
  obtain ⟨v, h4, h5⟩ := hev
  have hx := s.x h2 h4
  cases v <;> simp only [reduceCtorEq] at h5
  rename_i b o'
  simp only [Option.bind_eq_some_iff] at h5
  obtain ⟨u, h6, h7⟩ := h5
  have hy := s.x h3 h6
  cases hk : Nat.beq u.cells.length k with
  | false => rw [hk] at h7; simp at h7
  | true =>
    rw [hk] at h7
    simp only [cond_true, Option.map_eq_some_iff] at h7
    obtain ⟨h', h8, rfl⟩ := h7
    generalize hxv : a.eval x = xv at hx
    cases hx with
    | ptr _ _ ent he =>
      obtain ⟨w', h9, h10, h11⟩ := s.rel.storeA (P := P) he hy.cells h8
      refine OpOk.skip ?_ ⟨ρ, h10, h11, VRel.tup' (.nil ρ)⟩
      have hsz : (a.eval y).cells.size = k := by rw [← nbeq hk, hy.cells.1]; simp
      simp only [execOp, ho, Instr.storeAt, Instr.sureAddr, hxv, storeVar, Sem.run_bind, Sem.run_pure, Result.andThen_ok, run_size h1, hsz, ne_eq, not_true_eq_false, if_false, h9]

theorem ok_nilck (s : St P base ρ n e h a w) {x : Operand} (ho : o.op = .nilCheck x) (hr : rOp? P (.nilCheck x) = some r) (hev : evOp cx e h r = some res) : ResOk P base ρ h o a w res := by
  simp only [rOp?, Option.map_eq_some_iff] at hr
  obtain ⟨y, h1, rfl⟩ := hr
  simp only [evOp, Option.bind_eq_some_iff] at hev
  obtain ⟨v, h2, h3⟩ := hev
  have hx := s.x h1 h2
  generalize hxv : a.eval x = xv at hx
  cases hx <;> simp only [reduceCtorEq, Option.some.injEq] at h3 <;> subst h3
  case ptr b o' ent he => exact ⟨_, by simp only [execOp, ho, hxv]; rfl, .ptr b o' ent he⟩
  case fn f aa c a' c' la lc ha hc => exact ⟨_, by simp only [execOp, ho, hxv]; rfl, .fn f aa c a' c' la lc ha hc⟩
  case ifc t v v' hv => exact ⟨_, by simp only [execOp, ho, hxv]; rfl, .ifc t v v' hv⟩

theorem ok_mkifc (s : St P base ρ n e h a w) {t : TypeId} {x : Operand} (ho : o.op = .makeInterface t x) (hr : rOp? P (.makeInterface t x) = some r) (hev : evOp cx e h r = some res) : ResOk P base ρ h o a w res := by
  simp only [rOp?] at hr
  split at hr
  · cases hr
  · cases hr
  · rename_i hni hnn
    simp only [Option.map_eq_some_iff] at hr
    obtain ⟨y, h1, rfl⟩ := hr
    simp only [evOp, Option.map_eq_some_iff] at hev
    obtain ⟨v, h2, rfl⟩ := hev
    cases hu : P.underlying t with
    | none => exact absurd hu hnn
    | some d =>
      refine ⟨.iface t (a.eval x), ?_, .ifc t v _ (s.x h1 h2)⟩
      simp only [execOp, ho, Instr.makeInterface, Sem.run_bind, run_und hu, Result.andThen_ok]
      cases d <;> first | rfl | exact absurd hu (hni _)

theorem map_mk (f : Operand → Value) (z : Array Operand) : z.map f = ⟨z.toList.map f⟩ := by apply Array.ext'; simp

theorem ok_mkfn (s : St P base ρ n e h a w) {f : FuncId} {x y : Array Operand} (ho : o.op = .makeFunc (.func f) x y) (hr : rOp? P (.makeFunc (.func f) x y) = some r) (hev : evOp cx e h r = some res) : ResOk P base ρ h o a w res := by
  simp only [rOp?] at hr
  split at hr
  · simp only [Option.bind_eq_some_iff, Option.map_eq_some_iff] at hr
    obtain ⟨x', h1, y', h2, rfl⟩ := hr
    simp only [evOp, Option.bind_eq_some_iff, Option.map_eq_some_iff] at hev
    obtain ⟨v, h3, u, h4, rfl⟩ := hev
    have r1 := s.xs h1 h3
    have r2 := s.xs h2 h4
    refine ⟨_, ?_, .fn f v u _ _ r1.1 r2.1 r1.2 r2.2⟩
    simp only [execOp, ho, Instr.makeFunc, map_mk, Sem.run_bind, Sem.run_pure, Result.andThen_ok]
  · cases hr

theorem ok_mkmap (s : St P base ρ n e h a w) {t : TypeId} {x : Option Operand} (ho : o.op = .makeMap t x) (hr : rOp? P (.makeMap t x) = some r) (hev : evOp cx e h r = some res) : ResOk P base ρ h o a w res := by
  have hgo : r = .mkmap ∧ (Instr.makeMap t (x.map a.eval)).run P w = .ok (.map (some w.heap.size)) (w.alloc (.map #[] 0)) := by
    simp only [rOp?] at hr
    split at hr
    · cases hr
      exact ⟨rfl, by simp [Instr.makeMap]⟩
    · rename_i k m
      cases hu : P.underlying t with
      | none => rw [hu] at hr; cases hr
      | some d =>
        rw [hu] at hr
        cases d <;> simp only [reduceCtorEq, Option.some.injEq] at hr
        subst hr
        exact ⟨rfl, by simp [Instr.makeMap, run_und hu, Act.eval, asInt, asIntOf]⟩
    · cases hr
  obtain ⟨rfl, hrun⟩ := hgo
  simp only [evOp, Option.some.injEq] at hev
  subst hev
  refine ⟨⟨w.heap.size, 0, 0⟩, .map #[] 0, rfl, frozen_alloc_map w _ _, fun i hi => ⟨⟨#[], 0, heap_alloc_same w _, ⟨rfl, .nil _, .nil _⟩, s.rel.sz⟩, _, .map i _ (Rho.add_same _ _ _), ?_⟩⟩
  simp only [execOp, ho, Sem.run_bind, hrun, Result.andThen_ok, Sem.run_pure]

theorem ok_extract (s : St P base ρ n e h a w) {i : Nat} {x : Operand} (ho : o.op = .extract x i) (hr : rOp? P (.extract x i) = some r) (hev : evOp cx e h r = some res) : ResOk P base ρ h o a w res := by
  simp only [rOp?, Option.map_eq_some_iff] at hr
  obtain ⟨y, h1, rfl⟩ := hr
  simp only [evOp, Option.bind_eq_some_iff] at hev
  obtain ⟨v, h2, h3⟩ := hev
  have hx := s.x h1 h2
  generalize hxv : a.eval x = xv at hx
  cases hx <;> simp only [reduceCtorEq] at h3
  case tup vs vs' la ha =>
    simp only [Option.map_eq_some_iff] at h3
    obtain ⟨u, h4, rfl⟩ := h3
    obtain ⟨u', h5, h6⟩ := LRel.get ⟨la, ha⟩ h4
    refine ⟨u', ?_, h6⟩
    have : (⟨vs'⟩ : Array Value)[i]? = some u' := by simpa using h5
    simp only [execOp, ho, Instr.extract, hxv, this, Sem.run_bind, Sem.run_pure, Result.andThen_ok]
end
end Go.Ev
