import Derived.Test.YtolngjaihlggnaaGreatDoorEvOpI
/-! The operations, one by one: a map's store; lengths; copies; appends; calls. -/
namespace Go.Ev
set_option linter.unusedVariables false
set_option linter.unusedSimpArgs false
set_option linter.unusedSectionVars false
variable [Sig]
section
variable {P : Program} {base : Nat} {ρ : Rho} {n : Nat} {e : Env} {h : H} {a : Act} {w : World} {cx : Cx} {o : Oper} {r : RO} {res : Res}

theorem keys_same {kn : Nat} {k : V} {x y : Value} (hok : keyOk kn k = true) (hx : VRel ρ k x) (hy : VRel ρ k y) : x = y ∧ Instr.sameBits 10000 x y = true := by
  by_cases hkn : kn = 0
  · subst hkn
    rcases key_scalar hx hok with ⟨q, i, rfl, rfl⟩ | ⟨q, rfl, rfl⟩ | ⟨l, s, rfl, rfl⟩
    · have := vrel_int hy
      subst this
      exact ⟨rfl, by simp [Instr.sameBits]⟩
    · have := vrel_bool hy
      subst this
      exact ⟨rfl, by simp [Instr.sameBits]⟩
    · cases hx with
      | str _ _ h1 =>
        cases hy with
        | str s2 _ h2 =>
          have : s = s2 := WideShapes.bytes_inj (map_toNat_inj (h1.trans h2.symm))
          subst this
          refine ⟨rfl, ?_⟩
          simp only [Instr.sameBits, beq_toListBytes, beq_self_eq_true]
  · obtain ⟨cs, ds, rfl, rfl, l1, i1⟩ := key_agg hkn hx hok
    obtain ⟨cs', es, h3, rfl, l2, i2⟩ := key_agg hkn hy hok
    cases h3
    have hde : ds = es := by
      apply List.ext_getElem?
      intro i
      by_cases hi : i < kn
      · obtain ⟨q, m, g1, g2⟩ := i1 i hi
        obtain ⟨q', m', g3, g4⟩ := i2 i hi
        rw [g1] at g3
        cases g3
        rw [g2, g4]
      · rw [List.getElem?_eq_none (by omega), List.getElem?_eq_none (by omega)]
    subst hde
    refine ⟨rfl, ?_⟩
    show Instr.sameBits (9999 + 1) _ _ = true
    generalize 9999 = D
    simp only [Instr.sameBits, beq_self_eq_true, Bool.true_and, List.all_eq_true]
    rintro ⟨u, v⟩ huv
    obtain ⟨i, hi, hiv⟩ := List.getElem_of_mem huv
    simp only [List.length_zip, Nat.min_self] at hi
    rw [List.getElem_zip] at hiv
    simp only [Prod.mk.injEq] at hiv
    obtain ⟨h1, h2⟩ := hiv
    obtain ⟨q, m, g1, g2⟩ := i1 i (by omega)
    rw [List.getElem?_eq_getElem hi, Option.some.injEq] at g2
    rw [← h1, ← h2, g2]
    cases D <;> simp [Instr.sameBits]

theorem findK_at {ts : TypeId → Option Sh} {s : Shape} {k : V} : ∀ {es : List (V × V)} {i : Nat} {j : Nat} {v : V}, findK h ts s k es i = some (some (j, v)) → i ≤ j ∧ ∃ k', es[j - i]? = some (k', v)
  | [], i, j, v, hf => by simp [findK] at hf
  | (k1, v1) :: es, i, j, v, hf => by
    simp only [findK] at hf
    cases hc : evEq h ts s k k1 with
    | none => rw [hc] at hf; simp at hf
    | some b =>
      rw [hc] at hf
      cases b with
      | true =>
        simp only [Option.some.injEq, Prod.mk.injEq] at hf
        obtain ⟨rfl, rfl⟩ := hf
        exact ⟨Nat.le_refl _, k1, by simp⟩
      | false =>
        simp only at hf
        obtain ⟨h1, k', h2⟩ := findK_at hf
        exact ⟨by omega, k', by rw [show j - i = (j - (i + 1)) + 1 by omega]; simpa using h2⟩

theorem ok_mput (s : St P base ρ n e h a w) (hts : TsOk P cx.ts) {t : TypeId} {x y z : Operand} (ho : o.op = .mapUpdate t x y z ∨ o.op = .insert t x y z) (hr : rOp? P (.mapUpdate t x y z) = some r) (hev : evOp cx e h r = some res) : ResOk P base ρ h o a w res := by
  simp only [rOp?] at hr
  cases hu : P.underlying t with
  | none => rw [hu] at hr; cases hr
  | some d =>
    rw [hu] at hr
    cases d <;> simp only [reduceCtorEq, Option.bind_eq_some_iff, Option.map_eq_some_iff] at hr
    rename_i kt el
    obtain ⟨⟨sh, kn⟩, h1, x', h3, y', h4, z', h4', rfl⟩ := hr
    obtain ⟨hsh, hkt⟩ := keySh_ok h1
    simp only [evOp, Option.bind_eq_some_iff] at hev
    obtain ⟨mv, h5, h7⟩ := hev
    have hx := s.x h3 h5
    generalize hxv : a.eval x = xv at hx
    cases hx <;> simp only [reduceCtorEq] at h7
    case map rr ent he =>
      simp only [Option.bind_eq_some_iff] at h7
      obtain ⟨kv, h6, vv, h8, h9⟩ := h7
      have hy := s.x h4 h6
      have hz := s.x h4' h8
      cases hko : keyOk kn kv with
      | false => rw [hko] at h9; simp at h9
      | true =>
        rw [hko] at h9
        simp only [cond_true] at h9
        split at h9
        · rename_i es hg
          simp only [Option.bind_eq_some_iff] at h9
          obtain ⟨q, h10, h11⟩ := h9
          cases hold : oldOk es kv q with
          | false => rw [hold] at h11; simp at h11
          | true =>
            rw [hold] at h11
            simp only [cond_true, Option.some.injEq] at h11
            subst h11
            obtain ⟨fs, ck, g1, hm, g3⟩ := s.rel.blk rr _ ent hg he
            obtain ⟨q', hq1, hq2⟩ := findKey_run s.rel hts hsh hkt hy hm h10
            have hck := fun b => checkKey_run (P := P) hkt hy hko b w
            have hrun : ∃ fs' ck', (Instr.mapUpdate t (a.eval x) (a.eval y) (a.eval z)).run P w = .ok () { w with heap := w.heap.setIfInBounds ent.rb (.map fs' ck') } ∧ MapRel ρ (putK es kv vv q) fs'.toList := by
              cases q with
              | none =>
                cases q' with
                | some _ => exact hq2.elim
                | none =>
                  refine ⟨fs.push { key := a.eval y, val := a.eval z, born := ck }, ck + 1, ?_, ?_⟩
                  · simp only [hxv, Instr.mapUpdate, Sem.run_bind, run_und hu, Result.andThen_ok, run_getMap g1, hck, hq1, run_setMap g1]
                  · refine ⟨by simp [putK, hm.len], ?_, ?_⟩
                    · simp only [putK, List.map_append, Array.toList_push]
                      exact hm.key.app (.one hy)
                    · simp only [putK, List.map_append, Array.toList_push]
                      exact hm.val.app (.one hz)
              | some p =>
                obtain ⟨i, v⟩ := p
                cases q' with
                | none => exact hq2.elim
                | some p' =>
                  obtain ⟨j, v'⟩ := p'
                  obtain ⟨rfl, hv⟩ := hq2
                  obtain ⟨_, k', hk'⟩ := findK_at h10
                  simp only [Nat.sub_zero] at hk'
                  simp only [oldOk, hk'] at hold
                  have := V.beq_eq _ _ hold
                  subst this
                  have hkl : (es.map (·.1))[i]? = some k' := by simp [hk']
                  obtain ⟨ko, hko1, hko2⟩ := hm.key.get hkl
                  rw [List.getElem?_map, Option.map_eq_some_iff] at hko1
                  obtain ⟨f, hf1, rfl⟩ := hko1
                  have hfa : fs[i]? = some f := by simpa using hf1
                  obtain ⟨hs1, hs2⟩ := keys_same hko hko2 hy
                  refine ⟨fs.modify i fun e => { e with key := a.eval y, val := a.eval z }, ck, ?_, ?_⟩
                  · simp only [hxv, Instr.mapUpdate, Sem.run_bind, run_und hu, Result.andThen_ok, run_getMap g1, hck, hq1, hfa, Option.map_some, Option.getD_some, Instr.keyThatStays, hs2, if_true, Sem.run_pure, run_setMap g1]
                  · have hmk : ((fs.modify i fun e => { e with key := a.eval y, val := a.eval z }).toList.map (·.key)) = (fs.toList.map (·.key)).set i (a.eval y) := by
                      apply List.ext_getElem?
                      intro m
                      by_cases hmi : i = m
                      · subst hmi
                        have : i < fs.size := by simpa using (List.getElem?_eq_some_iff.1 hf1).1
                        simp [List.getElem?_modify, List.getElem?_set, this, hfa]
                      · simp [List.getElem?_modify, List.getElem?_set, hmi]
                    have hmv : ((fs.modify i fun e => { e with key := a.eval y, val := a.eval z }).toList.map (·.val)) = (fs.toList.map (·.val)).set i (a.eval z) := by
                      apply List.ext_getElem?
                      intro m
                      by_cases hmi : i = m
                      · subst hmi
                        have : i < fs.size := by simpa using (List.getElem?_eq_some_iff.1 hf1).1
                        simp [List.getElem?_modify, List.getElem?_set, this, hfa]
                      · simp [List.getElem?_modify, List.getElem?_set, hmi]
                    refine ⟨by simp [putK, hm.len], ?_, ?_⟩
                    · rw [hmk]
                      simp only [putK, List.map_set]
                      exact hm.key.set hy i
                    · rw [hmv]
                      simp only [putK, List.map_set]
                      exact hm.val.set hz i
            obtain ⟨fs', ck', hrun1, hm'⟩ := hrun
            obtain ⟨r1, r2⟩ := s.rel.setMap (ck' := ck') hg he g1 hm'
            refine OpOk.skip ?_ ⟨ρ, r1, r2, VRel.tup' (.nil ρ)⟩
            rcases ho with ho | ho <;> simp only [execOp, ho, Sem.run_bind, hrun1, Result.andThen_ok, Sem.run_pure]
        · cases h9
end
end Go.Ev
