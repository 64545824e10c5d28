import Derived.Test.YtolngjaihlggnaaGreatDoorEvOpH
/-! The operations, one by one: maps. -/
namespace Go.Ev
set_option linter.unusedVariables false
set_option linter.unusedSimpArgs false
set_option linter.unusedSectionVars false
variable [Sig]

mutual
theorem V.beq_eq : ∀ (a b : V), V.beq a b = true → a = b
  | .bool a, b, h => by cases b <;> simp [V.beq] at h ⊢; exact h
  | .int k a, b, h => by cases b <;> simp [V.beq] at h ⊢; exact h
  | .sym k a, b, h => by cases b <;> simp [V.beq] at h ⊢; exact h
  | .str a, b, h => by cases b <;> simp [V.beq] at h ⊢; exact h
  | .nilp, b, h => by cases b <;> simp [V.beq] at h ⊢
  | .ptr x y, b, h => by cases b <;> simp [V.beq] at h ⊢; exact h
  | .nils, b, h => by cases b <;> simp [V.beq] at h ⊢
  | .slc x y z u v, b, h => by cases b <;> simp [V.beq] at h ⊢; exact ⟨h.1.1.1.1, h.1.1.1.2, h.1.1.2, h.1.2, h.2⟩
  | .nilm, b, h => by cases b <;> simp [V.beq] at h ⊢
  | .map r, b, h => by cases b <;> simp [V.beq] at h ⊢; exact h
  | .nilf, b, h => by cases b <;> simp [V.beq] at h ⊢
  | .fn f a c, b, h => by
    cases b <;> simp [V.beq] at h ⊢
    exact ⟨h.1.1, V.beqL_eq _ _ h.1.2, V.beqL_eq _ _ h.2⟩
  | .nili, b, h => by cases b <;> simp [V.beq] at h ⊢
  | .ifc t v, b, h => by
    cases b <;> simp [V.beq] at h ⊢
    exact ⟨h.1, V.beq_eq _ _ h.2⟩
  | .agg a, b, h => by
    cases b <;> simp [V.beq] at h ⊢
    exact V.beqL_eq _ _ h
  | .tup a, b, h => by
    cases b <;> simp [V.beq] at h ⊢
    exact V.beqL_eq _ _ h
theorem V.beqL_eq : ∀ (a b : List V), V.beqL a b = true → a = b
  | [], b, h => by cases b <;> simp [V.beqL] at h ⊢
  | x :: a, b, h => by
    cases b <;> simp [V.beqL] at h ⊢
    exact ⟨V.beq_eq _ _ h.1, V.beqL_eq _ _ h.2⟩
end

section
variable {P : Program} {base : Nat} {ρ : Rho} {n : Nat} {e : Env} {h : H} {a : Act} {w : World} {cx : Cx} {o : Oper} {r : RO} {res : Res}

theorem run_getMap {r : Nat} {fs : Array MapEntry} {ck : Nat} (hg : w.heap[r]? = some (.map fs ck)) : (getObj r).run P w = .ok (.map fs ck) w := by
  simp [getObj, Sem.run, hg]
theorem run_setMap {r : Nat} {fs : Array MapEntry} {ck : Nat} (hg : w.heap[r]? = some (.map fs ck)) (o : Obj) : (setObj r o).run P w = .ok () { w with heap := w.heap.setIfInBounds r o } := by
  simp [setObj, Sem.run, hg]

/-- A map's key: one cell, or an array of numbers. -/
inductive KeyT (P : Program) (t : TypeId) : Nat → Prop
  | one (d : TypeDesc) (hu : P.underlying t = some d) (hd : (∃ k, d = .int k) ∨ d = .bool ∨ d = .string) : KeyT P t 0
  | arr (m : Nat) (el : TypeId) (k : IntKind) (hu : P.underlying t = some (.array m el)) (he : P.underlying el = some (.int k)) (hs : tSize P el = some 1) (hm : m ≠ 0) : KeyT P t m

theorem keySh_ok {t : TypeId} {s : Shape} {kn : Nat} (hk : keySh P t = some (s, kn)) : rShape P t = some s ∧ KeyT P t kn := by
  unfold keySh at hk
  split at hk
  · rename_i k hu
    simp only [Option.map_eq_some_iff] at hk
    obtain ⟨s', h1, h2⟩ := hk
    cases h2
    exact ⟨h1, .one _ hu (.inl ⟨k, rfl⟩)⟩
  · rename_i hu
    simp only [Option.map_eq_some_iff] at hk
    obtain ⟨s', h1, h2⟩ := hk
    cases h2
    exact ⟨h1, .one _ hu (.inr (.inl rfl))⟩
  · rename_i hu
    simp only [Option.map_eq_some_iff] at hk
    obtain ⟨s', h1, h2⟩ := hk
    cases h2
    exact ⟨h1, .one _ hu (.inr (.inr rfl))⟩
  · rename_i m el hu
    split at hk
    · rename_i k he
      split at hk
      · rename_i hc
        simp only [Option.map_eq_some_iff] at hk
        obtain ⟨s', h1, h2⟩ := hk
        cases h2
        exact ⟨h1, .arr _ el k hu he hc.1 hc.2⟩
      · cases hk
    · cases hk
  · cases hk

theorem key_scalar {k : V} {k' : Value} (hk : VRel ρ k k') (hok : keyOk 0 k = true) : (∃ q i, k = .int q i ∧ k' = .int q i) ∨ (∃ b, k = .bool b ∧ k' = .bool b) ∨ (∃ l s, k = .str l ∧ k' = .string s) := by
  cases hk <;> simp [keyOk] at hok
  · exact .inr (.inl ⟨_, rfl, rfl⟩)
  · exact .inl ⟨_, _, rfl, rfl⟩
  · exact .inr (.inr ⟨_, _, rfl, rfl⟩)

theorem key_agg {k : V} {k' : Value} {kn : Nat} (hkn : kn ≠ 0) (hk : VRel ρ k k') (hok : keyOk kn k = true) : ∃ cs ds, k = .agg cs ∧ k' = .agg ⟨ds⟩ ∧ ds.length = kn ∧ (∀ i, i < kn → ∃ q m, cs[i]? = some (.int q m) ∧ ds[i]? = some (.int q m)) := by
  cases hk <;> simp [keyOk, nbf hkn] at hok
  rename_i cs ds la ha
  refine ⟨cs, ds, rfl, rfl, by omega, fun i hi => ?_⟩
  have hc : i < cs.length := by omega
  have hd : i < ds.length := by omega
  have h1 := hok.2 cs[i] (List.getElem_mem hc)
  have h2 := ha i cs[i] ds[i] (by simp [hc]) (by simp [hd])
  generalize hci : cs[i] = ci at h1 h2
  generalize hdi : ds[i] = di at h2
  cases h2 <;> simp [V.isInt] at h1
  exact ⟨_, _, by simp [List.getElem?_eq_getElem hc, hci]; exact ⟨rfl, rfl⟩, by simp [List.getElem?_eq_getElem hd, hdi]⟩

theorem checkKey_run {t : TypeId} {kn : Nat} (ht : KeyT P t kn) {k : V} {k' : Value} (hk : VRel ρ k k') (hok : keyOk kn k = true) (b : Bool) (w : World) : (Instr.checkKey b 10000 t k').run P w = .ok () w := by
  show (Instr.checkKey b (9999 + 1) t k').run P w = .ok () w
  cases ht with
  | one d hu hd =>
    generalize 9999 = D
    rcases key_scalar hk hok with ⟨q, i, rfl, rfl⟩ | ⟨q, rfl, rfl⟩ | ⟨l, s, rfl, rfl⟩ <;> rcases hd with ⟨k0, rfl⟩ | rfl | rfl <;> simp only [Instr.checkKey, Sem.run_bind, run_und hu, Result.andThen_ok, Sem.run_pure]
  | arr m el k0 hu he hs hm =>
    obtain ⟨cs, ds, rfl, rfl, hl, hi⟩ := key_agg hm hk hok
    have hel : ∀ v : Value, (∃ q m, v = .int q m) → (Instr.checkKey b 9999 el v).run P w = .ok () w := by
      rintro v ⟨q, m, rfl⟩
      show (Instr.checkKey b (9998 + 1) el _).run P w = .ok () w
      generalize 9998 = D
      simp only [Instr.checkKey, Sem.run_bind, run_und he, Result.andThen_ok, Sem.run_pure]
    have hag : tAgg P el = some false := by simp [tAgg, he]
    generalize 9999 = D at hel ⊢
    simp only [Instr.checkKey, Sem.run_bind, run_und hu, Result.andThen_ok]
    rw [Std.Legacy.Range.forIn_eq_forIn_range']
    have hsz : (⟨0, kn, 1, by decide⟩ : Std.Legacy.Range).size = kn := by simp [Std.Legacy.Range.size]
    rw [hsz]
    have hi' : ∀ j i, i + j = kn → (Sem.run P (forIn (List.range' i j 1) PUnit.unit fun i _ => do
        let s ← Go.sizeOf el
        let v ← part el ⟨ds⟩ (i * s)
        Instr.checkKey b D el v
        pure (ForInStep.yield PUnit.unit)) w) = .ok PUnit.unit w := by
      intro j
      induction j with
      | zero => intro i _; rfl
      | succ j ih =>
        intro i hij
        obtain ⟨q, z, _, h2⟩ := hi i (by omega)
        have hp : (part el ⟨ds⟩ (i * 1)).run P w = .ok (.int q z) w := by
          have : (⟨ds⟩ : Array Value)[i]? = some (.int q z) := by simpa using h2
          simp only [part, Sem.run_bind, run_agg hag, Result.andThen_ok, Bool.false_eq_true, if_false, Nat.mul_one, this, Sem.run_pure]
        simp only [List.range'_succ, List.forIn_cons, Sem.run_bind, run_size hs, Result.andThen_ok, hp, hel _ ⟨q, z, rfl⟩, Sem.run_pure]
        exact ih (i + 1) (by omega)
    have h3 := hi' kn 0 (by omega)
    exact congrArg (fun r : Result PUnit => r.andThen fun _ w' => (pure () : Sem Unit).run P w') h3

theorem LRel.of_cons {a : List V} {v : V} {b : List Value} (hl : LRel ρ (v :: a) b) : ∃ v' b', b = v' :: b' ∧ VRel ρ v v' ∧ LRel ρ a b' := by
  cases b with
  | nil => have := hl.1; simp at this
  | cons v' b' => exact ⟨v', b', rfl, hl.2 0 v v' (by simp) (by simp), by have := hl.1; simp at this; exact this, fun i x y hx hy => hl.2 (i + 1) x y (by simpa using hx) (by simpa using hy)⟩

/-- What a search comes to, held against the model's. -/
def FRel (ρ : Rho) : Option (Nat × V) → Option (Nat × Value) → Prop
  | none, none => True
  | some (i, v), some (j, v') => i = j ∧ VRel ρ v v'
  | _, _ => False

theorem find_asking {kt : TypeId} {s : Shape} (hR : Rel base ρ h w) {ts : TypeId → Option Sh} (hts : TsOk P ts) (hsh : rShape P kt = some s) {k : V} {k' : Value} (hk : VRel ρ k k') : ∀ {es : List (V × V)} {fs : List MapEntry}, LRel ρ (es.map (·.1)) (fs.map (·.key)) → LRel ρ (es.map (·.2)) (fs.map (·.val)) →
    ∀ {i : Nat} {q : Option (Nat × V)}, findK h ts s k es i = some q → ∃ q', (Instr.findAsking kt k' fs i).run P w = .ok q' w ∧ FRel ρ q q'
  | [], fs, h1, h2, i, q, hf => by
    have : fs = [] := List.eq_nil_of_length_eq_zero (by have := h1.1; simp at this; exact this.symm)
    subst this
    simp only [findK, Option.some.injEq] at hf
    subst hf
    exact ⟨none, rfl, trivial⟩
  | (k1, v1) :: es, fs, h1, h2, i, q, hf => by
    cases fs with
    | nil => have := h1.1; simp at this
    | cons f fs =>
      simp only [List.map_cons] at h1 h2
      obtain ⟨_, _, e1, r1, l1⟩ := h1.of_cons
      obtain ⟨_, _, e2, r2, l2⟩ := h2.of_cons
      cases e1; cases e2
      simp only [findK] at hf
      cases hc : evEq h ts s k k1 with
      | none => rw [hc] at hf; simp at hf
      | some b =>
        have hrun := eq_run hR hts hsh (.inl rfl) hk r1 hc
        rw [hc] at hf
        cases b with
        | true =>
          simp only [Option.some.injEq] at hf
          subst hf
          exact ⟨some (i, f.val), by simp only [Instr.findAsking, Sem.run_bind, hrun, Result.andThen_ok, if_true, Sem.run_pure], rfl, r2⟩
        | false =>
          simp only at hf
          obtain ⟨q', h3, h4⟩ := find_asking hR hts hsh hk l1 l2 hf
          exact ⟨q', by simp only [Instr.findAsking, Sem.run_bind, hrun, Result.andThen_ok, Bool.false_eq_true, if_false, h3], h4⟩

/-- The model's quick search agrees with its slow one. -/
theorem findNow_asking {kt : TypeId} {d : TypeDesc} (hu : P.underlying kt = some d) (hd : (∃ k, d = .int k) ∨ d = .bool ∨ d = .string) (k' : Value) (w : World) : ∀ (fs : List MapEntry) (i : Nat) {q : Option (Nat × Value)}, (Instr.findAsking kt k' fs i).run P w = .ok q w →
    Instr.findNow d k' fs i = some q ∨ Instr.findNow d k' fs i = none
  | [], i, q, hr => by
    simp [Instr.findAsking] at hr
    subst hr
    exact .inl rfl
  | f :: fs, i, q, hr => by
    simp only [Instr.findNow]
    cases hsn : Instr.sameNow d k' f.key with
    | none => exact .inr rfl
    | some b =>
      have heq : (Op.equal kt k' f.key).run P w = .ok b w := by
        generalize f.key = fk at hsn ⊢
        unfold Op.equal Op.maxDepth
        show (Op.equalIn (9999 + 1) kt k' fk).run P w = .ok b w
        generalize 9999 = D
        unfold Instr.sameNow at hsn
        split at hsn
        · split at hsn
          · rename_i hkk
            cases hsn
            simp [Op.equalIn, run_und hu, hkk]
          · cases hsn
        · cases hsn
          simp [Op.equalIn, run_und hu]
        · cases hsn
          simp [Op.equalIn, run_und hu]
        · cases hsn
      simp only [Instr.findAsking, Sem.run_bind, heq, Result.andThen_ok] at hr
      cases b with
      | true =>
        simp only [if_true, Sem.run_pure, Result.ok.injEq, and_true] at hr
        exact .inl (by simp [hr])
      | false =>
        simp only [Bool.false_eq_true, if_false] at hr
        exact findNow_asking hu hd k' w fs (i + 1) hr

theorem findNow_arr (m el : TypeId) (k' : Value) : ∀ (fs : List MapEntry) (i : Nat), Instr.findNow (.array m el) k' fs i = none ∨ (fs = [] ∧ Instr.findNow (.array m el) k' fs i = some none)
  | [], i => .inr ⟨rfl, rfl⟩
  | f :: fs, i => .inl (by simp [Instr.findNow, Instr.sameNow])

theorem findKey_run {kt : TypeId} {s : Shape} {kn : Nat} (hR : Rel base ρ h w) {ts : TypeId → Option Sh} (hts : TsOk P ts) (hsh : rShape P kt = some s) (ht : KeyT P kt kn) {k : V} {k' : Value} (hk : VRel ρ k k') {es : List (V × V)} {fs : List MapEntry}
    (hm : MapRel ρ es fs) {q : Option (Nat × V)} (hf : findK h ts s k es 0 = some q) : ∃ q', (Instr.findKey kt k' fs).run P w = .ok q' w ∧ FRel ρ q q' := by
  obtain ⟨q', h1, h2⟩ := find_asking hR hts hsh hk hm.key hm.val hf
  refine ⟨q', ?_, h2⟩
  cases ht with
  | one d hu hd =>
    simp only [Instr.findKey, Sem.run_bind, run_und hu, Result.andThen_ok]
    rcases findNow_asking hu hd k' w fs 0 h1 with h3 | h3
    · rw [h3]; rfl
    · rw [h3]; exact h1
  | arr _ el k0 hu he hs hm =>
    simp only [Instr.findKey, Sem.run_bind, run_und hu, Result.andThen_ok]
    rcases findNow_arr kn el k' fs 0 with h3 | ⟨h4, h3⟩
    · rw [h3]; exact h1
    · rw [h3]
      subst h4
      simpa [Instr.findAsking] using h1

theorem ok_lookup (s : St P base ρ n e h a w) (hts : TsOk P cx.ts) {t : TypeId} {x y : Operand} {ok : Bool} (ho : o.op = .lookup t x y ok) (hr : rOp? P (.lookup t x y ok) = some r) (hev : evOp cx e h r = some res) : ResOk P base ρ h o a w res := by
  simp only [rOp?] at hr
  cases hu : P.underlying t with
  | none => rw [hu] at hr; cases hr
  | some d =>
    rw [hu] at hr
    cases d <;> simp only [reduceCtorEq, Option.bind_eq_some_iff, Option.map_eq_some_iff] at hr
    rename_i kt el
    obtain ⟨⟨sh, kn⟩, h1, z, h2, x', h3, y', h4, rfl⟩ := hr
    obtain ⟨hsh, hkt⟩ := keySh_ok h1
    simp only [evOp, Option.bind_eq_some_iff] at hev
    obtain ⟨mv, h5, kv, h6, h7⟩ := hev
    have hx := s.x h3 h5
    have hy := s.x h4 h6
    cases hko : keyOk kn kv with
    | false => rw [hko] at h7; simp at h7
    | true =>
      rw [hko] at h7
      simp only [cond_true, Option.bind_eq_some_iff, Option.map_eq_some_iff] at h7
      obtain ⟨es, h8, q, h9, rfl⟩ := h7
      obtain ⟨z', hz1, _, hz3⟩ := run_zero h2 w
      have hes : ∃ fs : Array MapEntry, MapRel ρ es fs.toList ∧ ((a.eval x = .map none ∧ fs = #[]) ∨ ∃ rb ck, a.eval x = .map (some rb) ∧ w.heap[rb]? = some (.map fs ck)) := by
        generalize hxv : a.eval x = xv at hx
        cases hx <;> simp only [mapOf, reduceCtorEq] at h8
        case nilm =>
          simp only [Option.some.injEq] at h8
          subst h8
          exact ⟨#[], ⟨rfl, .nil _, .nil _⟩, .inl ⟨rfl, rfl⟩⟩
        case map rr ent he =>
          split at h8
          · rename_i es' hg
            simp only [Option.some.injEq] at h8
            subst h8
            obtain ⟨fs, ck, g1, g2, g3⟩ := s.rel.blk rr _ ent hg he
            exact ⟨fs, g2, .inr ⟨ent.rb, ck, rfl, g1⟩⟩
          · cases h8
      obtain ⟨fs, hm, hcase⟩ := hes
      obtain ⟨q', hq1, hq2⟩ := findKey_run s.rel hts hsh hkt hy hm h9
      have hck := fun b => checkKey_run (P := P) hkt hy hko b w
      have hval : ∃ v' : Value, (execOp a.eval o).run P w = .ok (.value v') w ∧ VRel ρ (lookV z ok q) v' := by
        have hout : ∃ v' : Value, VRel ρ (lookV z ok q) v' ∧ ((match q' with
            | some (_, v) => pure (v, true)
            | none => do pure (← zeroValue el, false) : Sem (Value × Bool)) >>= fun (p : Value × Bool) => pure (if ok then .tuple #[p.1, .bool p.2] else p.1)).run P w = .ok v' w := by
          cases q with
          | none =>
            cases q' with
            | some _ => exact hq2.elim
            | none =>
              cases ok with
              | true => exact ⟨.tuple #[z', .bool false], .tup' (.cons (hz3 ρ) (.one (.bool _))), by simp [hz1]⟩
              | false => exact ⟨z', hz3 ρ, by simp [hz1]⟩
          | some p =>
            obtain ⟨i, v⟩ := p
            cases q' with
            | none => exact hq2.elim
            | some p' =>
              obtain ⟨j, v'⟩ := p'
              obtain ⟨_, hv⟩ := hq2
              cases ok with
              | true => exact ⟨.tuple #[v', .bool true], .tup' (.cons hv (.one (.bool _))), by simp⟩
              | false => exact ⟨v', hv, by simp⟩
        obtain ⟨v', hv1, hv2⟩ := hout
        refine ⟨v', ?_, hv1⟩
        rcases hcase with ⟨hxv, rfl⟩ | ⟨rb, ck, hxv, hg⟩
        · simp only [execOp, ho, hxv, Instr.lookup, Sem.run_bind, run_und hu, Result.andThen_ok, Sem.run_pure, hck, hq1]
          simp only [Sem.run_bind] at hv2
          cases q' with
          | none => simp [hz1] at hv2; simp [hz1, hv2]
          | some p => simpa using congrArg (fun r => r.andThen fun a w' => Result.ok (Next.value a) w') hv2
        · simp only [execOp, ho, hxv, Instr.lookup, Sem.run_bind, run_und hu, Result.andThen_ok, Sem.run_pure, run_getMap hg, hck, hq1]
          simp only [Sem.run_bind] at hv2
          cases q' with
          | none => simp [hz1] at hv2; simp [hz1, hv2]
          | some p => simpa using congrArg (fun r => r.andThen fun a w' => Result.ok (Next.value a) w') hv2
      exact hval
end
end Go.Ev
