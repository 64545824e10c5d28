import Derived.Test.YtolngjaihlggnaaGreatDoorEvOpM
/-! The operations, one by one: appends, calls; all of them. -/
namespace Go.Ev
set_option linter.unusedVariables false
set_option linter.unusedSimpArgs false
set_option linter.unusedSectionVars false
variable [Sig]
section
variable {P : Program} {base : Nat} {ρ : Rho} {n : Nat} {e : Env} {h : H} {a : Act} {w : World} {cx : Cx} {o : Oper} {r : RO} {res : Res}

theorem AppOk.resOk {run : Result Value} (hrun : (execOp a.eval o).run P w = run.andThen fun v w' => .ok (.value v) w') (hk : AppOk P base ρ h w run res) : ResOk P base ρ h o a w res := by
  cases res with
  | val v =>
    obtain ⟨v', h1, h2⟩ := hk
    exact ⟨v', by rw [hrun, h1]; rfl, h2⟩
  | upd v h' =>
    obtain ⟨v', w', ρ', h1, h2, h3, h4⟩ := hk
    exact OpOk.val (by rw [hrun, h1]; rfl) ⟨ρ', h2, h3, h4⟩
  | new b f => exact hk.elim
  | call f az => exact hk.elim

theorem ok_append (s : St P base ρ n e h a w) {c : Call} (ho : o.op = .call c) (hb : c.callee = .builtin .append) (hr : rBuiltin P .append c.argTypes c.args = some r) (hev : evOp cx e h r = some res) : ResOk P base ρ h o a w res := by
  have hrun0 := run_bi (P := P) (a := a) (w := w) ho hb
  unfold rBuiltin at hr
  split at hr <;> first | (exfalso; simp_all; done) | skip
  rename_i x y t u h1 h2 h3
  rw [arr2 h2, arr2 h3] at hrun0
  simp only [List.map_toArray, List.map_cons, List.map_nil, builtin] at hrun0
  split at hr <;> first | (cases hr; done) | skip
  rename_i el hu
  simp only [Option.bind_eq_some_iff] at hr
  obtain ⟨x', h4, y', h5, i, h6, z, h7, h8⟩ := hr
  split at h8
  · rename_i hzl
    have hz := fun w => run_zero (P := P) h7 w
    obtain ⟨z', _, hz2, hz3⟩ := hz w
    have hzr : ∀ w, (zeroValue el).run P w = .ok z' w := fun w => by
      obtain ⟨z2, g1, g2, _⟩ := hz w
      rw [hz2] at g2
      cases g2
      exact g1
    have hzk : z'.cells.size = i.size := by have := (hz3 ρ).cells.1; simp at this; omega
    have hrun1 : (execOp a.eval o).run P w = ((Builtin.append_ #[t, u] o.type #[a.eval x, a.eval y]).run P w).andThen fun v w' => .ok (.value v) w' := by
      rw [hrun0]
      simp only [Sem.run_bind, Sem.run_pure]
    split at h8
    · rename_i ul hu'
      simp only [Option.some.injEq] at h8
      subst h8
      simp only [evOp, Option.bind_eq_some_iff] at hev
      obtain ⟨sv, g1, xv, g2, ⟨m, vs⟩, g3, g4⟩ := hev
      have hs := s.x h4 g1
      have hx := s.x h5 g2
      obtain ⟨q1, q2, q3⟩ := slice_cells (P := P) s.rel hx g3
      obtain ⟨ds, q4, q5⟩ := q3 m (Nat.le_refl _)
      rw [take_all (by omega)] at q5
      refine AppOk.resOk hrun1 (append_ok s.rel hu h6 hzr hzk hs q5 (by rw [← q5.1, q2]) (.inl ⟨ul, hu', q1, q4, first_drew q4⟩) g4)
    · rename_i uk hu'
      simp only [Option.some.injEq] at h8
      subst h8
      simp only [evOp, Option.bind_eq_some_iff] at hev
      obtain ⟨sv, g1, nv, g2, m, g3, g4⟩ := hev
      have hs := s.x h4 g1
      have hx := s.x h5 g2
      obtain ⟨q, rfl⟩ := toNat?_some g3
      have hx := vrel_int hx
      cases hm : Nat.ble m 1000000 with
      | false => rw [hm] at g4; simp at g4
      | true =>
        rw [hm] at g4
        simp only [cond_true] at g4
        rw [hx] at hrun1
        have hrel : ∃ ds : List Value, LRel ρ (repZ z.cells m) ds ∧ ds.length = m * i.size ∧ ((m * i.size = 0 ∧ ds = []) ∨ (m * i.size ≠ 0 ∧ ds = (Builtin.zeroCells z'.cells m).toList)) := by
          have hzr2 := zeroCells_rel (hz3 ρ).cells m
          have hlen : (Builtin.zeroCells z'.cells m).toList.length = m * i.size := by rw [← hzr2.1, repZ_length, hzl]
          by_cases h0 : m * i.size = 0
          · refine ⟨[], ?_, by simpa using h0.symm, .inl ⟨h0, rfl⟩⟩
            have : repZ z.cells m = [] := List.eq_nil_of_length_eq_zero (by rw [repZ_length, hzl, h0])
            rw [this]
            exact .nil ρ
          · exact ⟨_, hzr2, hlen, .inr ⟨h0, rfl⟩⟩
        obtain ⟨ds, d1, d2, d3⟩ := hrel
        exact AppOk.resOk hrun1 (append_ok s.rel hu h6 hzr hzk hs d1 d2 (.inr ⟨uk, q, z', hu', rfl, hzr, d3⟩) g4)
    · cases h8
  · cases h8

/-! ### Calls -/

theorem ok_call (s : St P base ρ n e h a w) {c : Call} {f : FuncId} (ho : o.op = .call c) (hb : c.callee = .value (.func f)) {xs : List X} (h1 : rXs P c.args.toList = some xs) (hev : evOp cx e h (.call f xs) = some res) : ResOk P base ρ h o a w res := by
  simp only [evOp, Option.map_eq_some_iff] at hev
  obtain ⟨vs, h2, rfl⟩ := hev
  refine ⟨_, s.xs h1 h2, ?_⟩
  have hmap : c.args.map a.eval = (c.args.toList.map a.eval).toArray := by apply Array.ext'; simp
  simp only [execOp, ho, resolve, hb, Act.eval, Deferred.ofValue, Sem.run_bind, Sem.run_pure, Result.andThen_ok, invoke, Array.append_empty]
  congr 2
  rw [hmap]
  simp

theorem ok_callv (s : St P base ρ n e h a w) {c : Call} {f : Operand} (ho : o.op = .call c) (hb : c.callee = .value f) {f' : X} {xs : List X} (hf : rX P f = some f') (h1 : rXs P c.args.toList = some xs) (hev : evOp cx e h (.callv f' xs) = some res) : ResOk P base ρ h o a w res := by
  simp only [evOp, Option.bind_eq_some_iff] at hev
  obtain ⟨v, h2, h3⟩ := hev
  have hx := s.x hf h2
  generalize hxv : a.eval f = xv at hx
  cases hx <;> simp only [reduceCtorEq] at h3
  case fn g aa cc aa' cc' la lc ha hc =>
    simp only [Option.map_eq_some_iff] at h3
    obtain ⟨vs, h4, rfl⟩ := h3
    have hl := s.xs h1 h4
    refine ⟨aa' ++ c.args.toList.map a.eval ++ cc', (LRel.app (LRel.app ⟨la, ha⟩ hl) ⟨lc, hc⟩), ?_⟩
    simp only [execOp, ho, resolve, hb, hxv, Deferred.ofValue, Sem.run_bind, Sem.run_pure, Result.andThen_ok, invoke]
    congr 2
    apply Array.ext'
    simp

theorem look?_mem {t : TypeId} {f : FuncId} : ∀ {l : List (TypeId × FuncId)}, look? t l = some f → (t, f) ∈ l
  | [], h => by simp [look?] at h
  | (u, g) :: l, h => by
    simp only [look?] at h
    cases hb : Nat.beq t u with
    | true =>
      rw [hb] at h
      simp only [cond_true, Option.some.injEq] at h
      rw [nbeq hb, h]
      exact List.mem_cons_self
    | false =>
      rw [hb] at h
      exact List.mem_cons_of_mem _ (look?_mem (by simpa using h))

/-- A method that takes the value itself. -/
theorem method_run {name : String} {t : TypeId} {f : FuncId} {v : Value} (hmem : (t, f) ∈ methTbl P name) (w : World) : (Go.method (P.types.size + Made.depth) t v name).run P w = .ok (f, v) w := by
  unfold methTbl at hmem
  rw [List.mem_filterMap] at hmem
  obtain ⟨t', _, h2⟩ := hmem
  simp only [Option.bind_eq_some_iff] at h2
  obtain ⟨i, h3, m, h4, h5⟩ := h2
  split at h5
  · rename_i hp
    have hpath : m.path = #[] := Array.eq_empty_of_size_eq_zero hp
    have hd : P.types.size + Made.depth = (P.types.size + 99) + 1 := rfl
    have key : ∀ g q, m.func = some (g, q) → t' = t → (∃ d, P.underlying t = some d ∧ ((q = true ∧ ∃ el, d = .pointer el) ∨ (q = false ∧ ∀ el, d ≠ .pointer el))) → (Go.method (P.types.size + Made.depth) t v name).run P w = .ok (g, v) w := by
      rintro g q hfn rfl ⟨d, hu, hq⟩
      rw [hd]
      generalize P.types.size + 99 = D
      simp only [Go.method, Sem.run_bind, run_tinfo h3, Result.andThen_ok, h4, hpath, follow, Sem.run_pure, hfn]
      rcases hq with ⟨rfl, el, rfl⟩ | ⟨rfl, hne⟩
      · simp only [receiverAt, Sem.run_bind, run_und hu, Result.andThen_ok, Place.get, Sem.run_pure]
      · simp only [receiverAt, Sem.run_bind, run_und hu, Result.andThen_ok, Place.get, Sem.run_pure]
    split at h5
    · rename_i g el hfn hu
      cases h5
      exact key _ _ hfn rfl ⟨_, hu, .inl ⟨rfl, _, rfl⟩⟩
    · rename_i g fs hfn hu
      cases h5
      exact key _ _ hfn rfl ⟨_, hu, .inr ⟨rfl, fun _ hh => by cases hh⟩⟩
    · rename_i g k hfn hu
      cases h5
      exact key _ _ hfn rfl ⟨_, hu, .inr ⟨rfl, fun _ hh => by cases hh⟩⟩
    · cases h5
  · cases h5

theorem ok_inv (s : St P base ρ n e h a w) {c : Call} {x : Operand} {name : String} (ho : o.op = .call c) (hb : c.callee = .invoke x name) {x' : X} {xs : List X} (hx : rX P x = some x') (h1 : rXs P c.args.toList = some xs)
    (hev : evOp cx e h (.inv ((methTbl P name).filter fun (_, f) => knownFn P f) x' xs) = some res) : ResOk P base ρ h o a w res := by
  simp only [evOp, Option.bind_eq_some_iff] at hev
  obtain ⟨v, h2, h3⟩ := hev
  have hx := s.x hx h2
  generalize hxv : a.eval x = xv at hx
  cases hx <;> simp only [reduceCtorEq] at h3
  case ifc t u u' hu =>
    simp only [Option.bind_eq_some_iff, Option.map_eq_some_iff] at h3
    obtain ⟨f, h4, vs, h5, rfl⟩ := h3
    have hmem := look?_mem h4
    rw [List.mem_filter] at hmem
    have hl := s.xs h1 h5
    refine ⟨u' :: c.args.toList.map a.eval, .cons hu hl, ?_⟩
    have hsz : (#[Value.iface t u'] ++ c.args.map a.eval)[0]? = some (.iface t u') := by rw [Array.getElem?_append_left (by simp)]; rfl
    have hex : (#[Value.iface t u'] ++ c.args.map a.eval).extract 1 (#[Value.iface t u'] ++ c.args.map a.eval).size = c.args.map a.eval := by
      apply Array.ext'
      rw [Array.toList_extract, Array.toList_append, Array.toList_map]
      simp
      exact List.take_of_length_le (by simp)
    simp only [execOp, ho, resolve, hb, hxv, Sem.run_bind, Sem.run_pure, Result.andThen_ok, invoke, hsz, hex, callMethod, run_program, method_run hmem.1]
    congr 2
    apply Array.ext'
    simp

/-- ████ Each operation comes to what the evaluator says. -/
theorem evOp_ok (s : St P base ρ n e h a w) (hts : TsOk P cx.ts) (hev : evOp cx e h (rOp P o.op) = some res) : ResOk P base ρ h o a w res := by
  unfold rOp at hev
  cases hr : rOp? P o.op with
  | none => rw [hr] at hev; simp [evOp] at hev
  | some r =>
    rw [hr, Option.getD_some] at hev
    cases ho : o.op with
    | move x => rw [ho] at hr; exact ok_move s (.inl ho) hr hev
    | assign x => rw [ho] at hr; exact ok_move s (.inr ho) hr hev
    | pick c x y => rw [ho] at hr; exact ok_pick s ho hr hev
    | alloc t => rw [ho] at hr; exact ok_alloc s ho hr hev
    | box t x => rw [ho] at hr; exact ok_box s ho hr hev
    | build t ps => rw [ho] at hr; exact ok_build s ho hr hev
    | buildSlice t len ps => rw [ho] at hr; exact ok_bsl s ho hr hev
    | insert t m k v => rw [ho] at hr; exact ok_mput s hts (.inr ho) hr hev
    | load t x => rw [ho] at hr; exact ok_load s ho hr hev
    | store t x y => rw [ho] at hr; exact ok_store s ho hr hev
    | nilCheck x => rw [ho] at hr; exact ok_nilck s ho hr hev
    | binOp op t x y t' => rw [ho] at hr; exact ok_binOp s hts ho hr hev
    | unOp op t x => rw [ho] at hr; exact ok_un s ho hr hev
    | convert t t' x => rw [ho] at hr; exact ok_conv s ho hr hev
    | makeInterface t x => rw [ho] at hr; exact ok_mkifc s ho hr hev
    | makeFunc fn x y =>
      rw [ho] at hr
      cases fn with
      | func f => exact ok_mkfn s ho hr hev
      | _ => simp [rOp?] at hr
    | makeMap t x => rw [ho] at hr; exact ok_mkmap s ho hr hev
    | makeSlice t x y => rw [ho] at hr; exact ok_makeSlice s ho hr hev
    | slice t x lo hi mx => rw [ho] at hr; exact ok_slice s ho hr hev
    | fieldAddr t x f => rw [ho] at hr; exact ok_fadd s ho hr hev
    | field t x f => rw [ho] at hr; exact ok_field s ho hr hev
    | indexAddr t x y => rw [ho] at hr; exact ok_indexAddr s ho hr hev
    | index t x y => rw [ho] at hr; exact ok_index s ho hr hev
    | lookup t x y ok => rw [ho] at hr; exact ok_lookup s hts ho hr hev
    | mapUpdate t m k v => rw [ho] at hr; exact ok_mput s hts (.inl ho) hr hev
    | typeAssert x t u ok => rw [ho] at hr; exact ok_assert s ho hr hev
    | extract x i => rw [ho] at hr; exact ok_extract s ho hr hev
    | call c =>
      rw [ho] at hr
      simp only [rOp?] at hr
      split at hr
      · rename_i b hb
        cases b with
        | len => exact ok_len s ho hb hr hev
        | cap => exact ok_cap s ho hb hr hev
        | append => exact ok_append s ho hb hr hev
        | copy => exact ok_copy s ho hb hr hev
        | clear => exact ok_clear s ho hb hr hev
        | max => exact ok_max s ho hb hr hev
        | min => exact ok_min s ho hb hr hev
        | _ => simp [rBuiltin] at hr
      · rename_i x name hb
        simp only [Option.bind_eq_some_iff, Option.map_eq_some_iff] at hr
        obtain ⟨x', h1, xs, h2, rfl⟩ := hr
        exact ok_inv s ho hb h1 h2 hev
      · rename_i f hb
        split at hr
        · simp only [Option.map_eq_some_iff] at hr
          obtain ⟨xs, h1, rfl⟩ := hr
          exact ok_call s ho hb h1 hev
        · cases hr
      · rename_i f hf hb
        simp only [Option.bind_eq_some_iff, Option.map_eq_some_iff] at hr
        obtain ⟨f', h1, xs, h2, rfl⟩ := hr
        exact ok_callv s ho hb h1 h2 hev
    | _ => rw [ho] at hr; simp [rOp?] at hr
end
end Go.Ev
