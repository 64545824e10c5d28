import Derived.Test.YtolngjaihlggnaaGreatDoorEvOpG
/-! The operations, one by one: comparisons, maps, assertions, lengths, calls. -/
namespace Go.Ev
set_option linter.unusedVariables false
set_option linter.unusedSimpArgs false
set_option linter.unusedSectionVars false
variable [Sig]
section
variable {P : Program} {base : Nat} {ρ : Rho} {n : Nat} {e : Env} {h : H} {a : Act} {w : World} {cx : Cx} {o : Oper} {r : RO} {res : Res}

def V.isNum : V → Bool
  | .int _ _ | .sym _ _ => true
  | _ => false

theorem sh_kinds {s : Sh} {ts : TypeId → Option Sh} {x y : V} {q : Bool} (hev : evSh h ts s x y = some q) : (s = .int ∨ ¬ (x.isNum = true ∧ y.isNum = true)) ∧ (s = .str ∨ ∀ k i, ¬ (x = .str k ∧ y = .str i)) := by
  constructor
  · by_cases hs : s = .int
    · exact .inl hs
    · right
      rintro ⟨h1, h2⟩
      cases x <;> simp only [V.isNum, reduceCtorEq] at h1 <;> cases y <;> simp only [V.isNum, reduceCtorEq] at h2 <;> cases s <;> first | exact hs rfl | (simp [evSh, evSc, evIfc, V.isNili] at hev)
  · by_cases hs : s = .str
    · exact .inl hs
    · right
      rintro k i ⟨rfl, rfl⟩
      cases s <;> first | exact hs rfl | (simp [evSh, evSc, evIfc, V.isNili] at hev)

set_option maxHeartbeats 2000000 in
theorem binop_eq {x y : V} {x' y' : Value} (hx : VRel ρ x x') (hy : VRel ρ y y') (t : TypeId) (h1 : ¬ (x.isNum = true ∧ y.isNum = true)) (h2 : ∀ k i, ¬ (x = .str k ∧ y = .str i)) (nt1 : x ≠ .top) (nt2 : y ≠ .top) :
    binOp .eql t x' y' = (do pure (.bool (← Op.equal t x' y'))) ∧ binOp .neq t x' y' = (do pure (.bool (!(← Op.equal t x' y')))) := by
  cases hx <;> cases hy <;> first
    | exact absurd rfl nt1
    | exact absurd rfl nt2
    | exact ⟨rfl, rfl⟩
    | exact absurd ⟨rfl, rfl⟩ h1
    | exact absurd ⟨rfl, rfl⟩ (h2 _ _)

theorem ok_eq (s : St P base ρ n e h a w) (hts : TsOk P cx.ts) {op : BinOp} {t t' : TypeId} {x y : Operand} (ho : o.op = .binOp op t x y t') (hni : ∀ k, P.underlying t ≠ some (.int k)) (hns : P.underlying t ≠ some .string)
    {neg : Bool} (hop : (op = .eql ∧ neg = false) ∨ (op = .neq ∧ neg = true)) {sh : Shape} (hsh : rEqSh P t x y = some sh) {x' y' : X} (h1 : rX P x = some x') (h2 : rX P y = some y') (hev : evOp cx e h (.eq neg sh x' y') = some res) : ResOk P base ρ h o a w res := by
  simp only [evOp, Option.bind_eq_some_iff, Option.map_eq_some_iff] at hev
  obtain ⟨u, h3, v, h4, q, h5, rfl⟩ := hev
  have hx := s.x h1 h3
  have hy := s.x h2 h4
  obtain ⟨s0, h6, h7⟩ := rEqSh_ss hsh
  have hrun := eq_run s.rel hts h6 (h7.imp id fun hh => ⟨hh.1, hh.2.1⟩) hx hy h5
  have hg := guard_ok s.rel (op := op) (hop.imp (·.1) (·.1)) hsh hx hy h5
  have hkinds : (¬ (u.isNum = true ∧ v.isNum = true)) ∧ (∀ k i, ¬ (u = .str k ∧ v = .str i)) := by
    cases sh with
    | flat ls =>
      constructor
      · rintro ⟨g1, g2⟩; cases u <;> simp only [V.isNum, reduceCtorEq] at g1 <;> simp [evEq] at h5
      · rintro k i ⟨rfl, rfl⟩; simp [evEq] at h5
    | sc sc' =>
      simp only [evEq] at h5
      obtain ⟨k1, k2⟩ := sh_kinds h5
      have hnot : ∀ q, sc' = q → q = .int ∨ q = .str → False := by
        intro q hq hq2
        subst hq
        rcases h7 with rfl | ⟨_, h8, _⟩
        · unfold rShape at h6
          split at h6
          · split at h6
            · cases h6
            · simp at h6
          · split at h6
            · cases h6
            · simp at h6
          · simp only [Option.map_eq_some_iff, Shape.sc.injEq] at h6
            obtain ⟨s1, h8, rfl⟩ := h6
            unfold scSh at h8
            split at h8
            · rename_i k hu; exact hni k hu
            · cases h8; simp at hq2
            · rename_i hu; exact hns hu
            · simp only [Option.bind_eq_some_iff] at h8
              obtain ⟨z, _, h8⟩ := h8
              split at h8
              · cases h8
              · cases h8; simp at hq2
            · cases h8; rename_i ms hu; cases hm : ms.isEmpty <;> simp [hm] at hq2
            · cases h8; simp at hq2
            · cases h8; simp at hq2
            · cases h8; simp at hq2
            · cases h8
        · cases h8; simp at hq2
      exact ⟨k1.resolve_left fun hh => hnot _ hh (.inl rfl), k2.resolve_left fun hh => hnot _ hh (.inr rfl)⟩
  obtain ⟨b1, b2⟩ := binop_eq hx hy t hkinds.1 hkinds.2 (evEq_top h5).1 (evEq_top h5).2
  rcases hop with ⟨rfl, rfl⟩ | ⟨rfl, rfl⟩
  · refine ⟨_, ?_, .bool _⟩
    simp only [execOp, ho, Sem.run_bind, hg, Result.andThen_ok, b1, hrun, Sem.run_pure]
    rfl
  · refine ⟨_, ?_, .bool _⟩
    simp only [execOp, ho, Sem.run_bind, hg, Result.andThen_ok, b2, hrun, Sem.run_pure]
    rfl

theorem ok_binOp (s : St P base ρ n e h a w) (hts : TsOk P cx.ts) {op : BinOp} {t t' : TypeId} {x y : Operand} (ho : o.op = .binOp op t x y t') (hr : rOp? P (.binOp op t x y t') = some r) (hev : evOp cx e h r = some res) : ResOk P base ρ h o a w res := by
  simp only [rOp?] at hr
  split at hr
  · simp only [Option.bind_eq_some_iff, Option.map_eq_some_iff] at hr
    obtain ⟨x', h1, y', h2, rfl⟩ := hr
    exact ok_bin s ho h1 h2 hev
  · simp only [Option.bind_eq_some_iff, Option.map_eq_some_iff] at hr
    obtain ⟨x', h1, y', h2, rfl⟩ := hr
    exact ok_bin s ho h1 h2 hev
  · rename_i hni hns
    split at hr
    · simp only [Option.bind_eq_some_iff, Option.map_eq_some_iff] at hr
      obtain ⟨sh, h0, x', h1, y', h2, rfl⟩ := hr
      exact ok_eq s hts ho hni hns (.inl ⟨rfl, rfl⟩) h0 h1 h2 hev
    · simp only [Option.bind_eq_some_iff, Option.map_eq_some_iff] at hr
      obtain ⟨sh, h0, x', h1, y', h2, rfl⟩ := hr
      exact ok_eq s hts ho hni hns (.inr ⟨rfl, rfl⟩) h0 h1 h2 hev
    · cases hr

/-! ### Assertions -/

theorem ok_assert (s : St P base ρ n e h a w) {x : Operand} {t u : TypeId} {ok : Bool} (ho : o.op = .typeAssert x t u ok) (hr : rOp? P (.typeAssert x t u ok) = some r) (hev : evOp cx e h r = some res) : ResOk P base ρ h o a w res := by
  simp only [rOp?, Option.bind_eq_some_iff] at hr
  obtain ⟨z, h1, x', h2, h3⟩ := hr
  obtain ⟨z', hz1, _, hz3⟩ := run_zero h1 w
  cases hu : P.underlying u with
  | none => rw [hu] at h3; cases h3
  | some d =>
    rw [hu] at h3
    have conc : (∀ want, d ≠ .interface want) → r = .asC u z ok x' → ResOk P base ρ h o a w res := by
      intro hni hrr
      subst hrr
      simp only [evOp, Option.bind_eq_some_iff] at hev
      obtain ⟨v, h5, h6⟩ := hev
      have hx := s.x h2 h5
      generalize hxv : a.eval x = xv at hx
      cases hx <;> simp only [reduceCtorEq] at h6
      case nili =>
        cases ok with
        | false => simp at h6
        | true =>
          simp only [cond_true, Option.some.injEq] at h6
          subst h6
          refine ⟨.tuple #[z', .bool false], ?_, .tup' (.cons (hz3 ρ) (.one (.bool false)))⟩
          simp only [execOp, ho, hxv, Instr.typeAssert, Sem.run_bind, run_und hu, Result.andThen_ok]
          cases d <;> first | exact absurd rfl (hni _) | simp only [if_true, Sem.run_bind, hz1, Result.andThen_ok, Sem.run_pure]
      case ifc t1 v1 v1' hv1 =>
        cases hb : Nat.beq t1 u with
        | true =>
          have := nbeq hb
          subst this
          rw [hb] at h6
          simp only [cond_true, Option.some.injEq] at h6
          subst h6
          cases ok with
          | true =>
            refine ⟨.tuple #[v1', .bool true], ?_, .tup' (.cons hv1 (.one (.bool true)))⟩
            simp only [execOp, ho, hxv, Instr.typeAssert, Sem.run_bind, run_und hu, Result.andThen_ok]
            cases d <;> first | exact absurd rfl (hni _) | simp only [if_true, Sem.run_pure, Result.andThen_ok]
          | false =>
            refine ⟨v1', ?_, hv1⟩
            simp only [execOp, ho, hxv, Instr.typeAssert, Sem.run_bind, run_und hu, Result.andThen_ok]
            cases d <;> first | exact absurd rfl (hni _) | simp only [if_true, Bool.false_eq_true, if_false, Sem.run_pure, Result.andThen_ok]
        | false =>
          have hne : t1 ≠ u := fun hh => by rw [nbt hh] at hb; cases hb
          rw [hb] at h6
          cases ok with
          | false => simp at h6
          | true =>
            simp only [cond_false, cond_true, Option.some.injEq] at h6
            subst h6
            refine ⟨.tuple #[z', .bool false], ?_, .tup' (.cons (hz3 ρ) (.one (.bool false)))⟩
            simp only [execOp, ho, hxv, Instr.typeAssert, Sem.run_bind, run_und hu, Result.andThen_ok]
            cases d <;> first | exact absurd rfl (hni _) | simp only [if_neg hne, if_true, Sem.run_bind, hz1, Result.andThen_ok, Sem.run_pure]
    by_cases hd : ∃ want, d = .interface want
    · obtain ⟨want, rfl⟩ := hd
      simp only [Option.some.injEq] at h3
      subst h3
      simp only [evOp, Option.bind_eq_some_iff] at hev
      obtain ⟨v, h5, h6⟩ := hev
      have hx := s.x h2 h5
      generalize hxv : a.eval x = xv at hx
      cases hx <;> simp only [reduceCtorEq] at h6
      case nili =>
        cases ok with
        | false => simp at h6
        | true =>
          simp only [cond_true, Option.some.injEq] at h6
          subst h6
          refine ⟨.tuple #[z', .bool false], ?_, .tup' (.cons (hz3 ρ) (.one (.bool false)))⟩
          simp only [execOp, ho, hxv, Instr.typeAssert, Sem.run_bind, run_und hu, Result.andThen_ok, if_true, hz1, Sem.run_pure]
      case ifc t1 v1 v1' hv1 =>
        cases hm : mem? t1 (asITbl P want) with
        | false => rw [hm] at h6; simp at h6
        | true =>
          rw [hm] at h6
          simp only [cond_true, Option.some.injEq] at h6
          subst h6
          have hmem : ∃ i, P.info? t1 = some i ∧ Instr.missingMethod want i.methods = none := by
            have hin : t1 ∈ asITbl P want := by
              generalize asITbl P want = l at hm
              induction l with
              | nil => simp [mem?] at hm
              | cons u' l ih =>
                simp only [mem?] at hm
                cases hb : Nat.beq t1 u' with
                | true => rw [nbeq hb]; exact List.mem_cons_self
                | false => rw [hb] at hm; exact List.mem_cons_of_mem _ (ih (by simpa using hm))
            unfold asITbl at hin
            rw [List.mem_filter] at hin
            obtain ⟨_, hin⟩ := hin
            cases hi : P.info? t1 with
            | none => rw [hi] at hin; simp at hin
            | some i =>
              rw [hi] at hin
              refine ⟨i, rfl, ?_⟩
              have hin := List.isEmpty_iff.1 hin
              unfold Instr.missingMethod
              simp only [hin]
              rfl
          obtain ⟨i, hi1, hi2⟩ := hmem
          cases ok with
          | true =>
            refine ⟨.tuple #[.iface t1 v1', .bool true], ?_, .tup' (.cons (.ifc t1 v1 v1' hv1) (.one (.bool true)))⟩
            simp only [execOp, ho, hxv, Instr.typeAssert, Sem.run_bind, run_und hu, Result.andThen_ok, run_tinfo hi1, hi2, if_true, Sem.run_pure]
          | false =>
            refine ⟨.iface t1 v1', ?_, .ifc t1 v1 v1' hv1⟩
            simp only [execOp, ho, hxv, Instr.typeAssert, Sem.run_bind, run_und hu, Result.andThen_ok, run_tinfo hi1, hi2, Bool.false_eq_true, if_false, Sem.run_pure]
    · refine conc (fun want hh => hd ⟨want, hh⟩) ?_
      cases d <;> first | exact absurd ⟨_, rfl⟩ hd | (simp only [Option.some.injEq] at h3; exact h3.symm)
end
end Go.Ev
