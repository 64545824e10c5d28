import Derived.Test.YtolngjaihlggnaaGreatDoorEvOpD
import Derived.Laws.Strings
/-! The operations, one by one: numbers, comparisons, maps. -/
namespace Go.Ev
set_option linter.unusedVariables false
set_option linter.unusedSimpArgs false
set_option linter.unusedSectionVars false
variable [Sig]
section
variable {P : Program} {base : Nat} {ρ : Rho} {n : Nat} {e : Env} {h : H} {a : Act} {w : World} {cx : Cx} {o : Oper} {r : RO} {res : Res}

theorem guard_int (op : BinOp) (t : TypeId) (x y : Operand) (k k' : IntKind) (i j : Int) (w : World) : (eqGuard op t x y (.int k i) (.int k' j)).run P w = .ok () w := by
  cases op <;> rfl
theorem guard_str (op : BinOp) (t : TypeId) (x y : Operand) (s u : ByteArray) (w : World) : (eqGuard op t x y (.string s) (.string u)).run P w = .ok () w := by
  cases op <;> rfl

theorem map_toNat_inj : ∀ {l m : List UInt8}, l.map UInt8.toNat = m.map UInt8.toNat → l = m
  | [], [], _ => rfl
  | [], _ :: _, h => by simp at h
  | _ :: _, [], h => by simp at h
  | a :: l, b :: m, h => by
    simp only [List.map_cons, List.cons.injEq] at h
    rw [UInt8.toNat_inj.1 h.1, map_toNat_inj h.2]

theorem str_eq {s u : ByteArray} : (s.toList == u.toList) = (s.data.toList.map UInt8.toNat == u.data.toList.map UInt8.toNat) := by
  rw [ByteArray.toList_eq, ByteArray.toList_eq, Bool.eq_iff_iff]
  simp only [beq_iff_eq]
  constructor
  · intro h; rw [h]
  · intro h
    exact map_toNat_inj h

theorem evBin0_run {op : BinOp} {x y v : V} {x' y' : Value} (hx : VRel ρ x x') (hy : VRel ρ y y') (hev : evBin0 op x y = some v) (t : TypeId) (w : World) :
    ∃ v', (binOp op t x' y').run P w = .ok v' w ∧ VRel ρ v v' := by
  cases hx <;> cases hy <;> simp only [evBin0, reduceCtorEq] at hev
  case int.int k i k' j =>
    split at hev
    · -- shl
      cases hd : decide (0 ≤ j) with
      | false => rw [hd] at hev; simp at hev
      | true =>
        rw [hd] at hev
        simp only [cond_true, Option.some.injEq] at hev
        subst hev
        have hj : ¬ j < 0 := by have := of_decide_eq_true hd; omega
        exact ⟨_, by simp only [binOp, Op.shift, if_neg hj]; rfl, .int _ _⟩
    · cases hd : decide (0 ≤ j) with
      | false => rw [hd] at hev; simp at hev
      | true =>
        rw [hd] at hev
        simp only [cond_true, Option.some.injEq] at hev
        subst hev
        have hj : ¬ j < 0 := by have := of_decide_eq_true hd; omega
        exact ⟨_, by simp only [binOp, Op.shift, if_neg hj]; rfl, .int _ _⟩
    · rename_i h1 h2
      split at hev
      · rename_i hk
        subst hk
        cases op <;> simp only [Option.some.injEq, reduceCtorEq] at hev <;> first
          | (exact absurd rfl (by assumption))
          | (split at hev
             · cases hev
             · rename_i hj
               cases hev
               exact ⟨_, by simp only [binOp, ne_eq, not_true_eq_false, if_false, Op.intDiv, hj]; rfl, .int _ _⟩)
          | (subst hev; exact ⟨_, by simp only [binOp, ne_eq, not_true_eq_false, if_false]; rfl, .int _ _⟩)
          | (subst hev; exact ⟨_, by simp only [binOp, ne_eq, not_true_eq_false, if_false]; rfl, .bool _⟩)
      · cases hev
  case str.str s l hl u m hm =>
    cases op <;> simp only [Option.some.injEq, reduceCtorEq] at hev
    case add =>
      cases hle : Nat.ble (l.length + m.length) 1000000 with
      | false => rw [hle] at hev; simp at hev
      | true =>
        rw [hle] at hev
        simp only [cond_true, Option.some.injEq] at hev
        subst hev
        have hle := nble hle
        subst hl; subst hm
        refine ⟨.string (s ++ u), ?_, .str _ _ ?_⟩
        · have : ¬ (((s.size + u.size : Nat) : Int) > IntKind.i64.max) := by
            have h1 : s.size = s.data.toList.length := by simp
            have h2 : u.size = u.data.toList.length := by simp
            simp only [List.length_map] at hle
            have : IntKind.i64.max = 9223372036854775807 := by decide
            rw [this]
            omega
          simp only [binOp, Op.stringOp, if_neg this, Sem.run_pure]
        · simp [ByteArray.data_append]
    case eql =>
      subst hev
      subst hl; subst hm
      exact ⟨_, by simp only [binOp, Op.stringOp, Sem.run_pure, str_eq], .bool _⟩
    case neq =>
      subst hev
      subst hl; subst hm
      exact ⟨_, by simp only [binOp, Op.stringOp, Sem.run_pure, str_eq], .bool _⟩

theorem evBin0_kinds {op : BinOp} {x y v : V} (hev : evBin0 op x y = some v) : (∃ k i k' j, x = .int k i ∧ y = .int k' j) ∨ (∃ s u, x = .str s ∧ y = .str u) := by
  cases x <;> cases y <;> simp only [evBin0, reduceCtorEq] at hev
  · exact .inl ⟨_, _, _, _, rfl, rfl⟩
  · exact .inr ⟨_, _, rfl, rfl⟩

theorem vrel_conc {v : V} {x : Value} (h : VRel ρ v x) : VRel ρ (v.conc Sig.val) x := by
  cases v with
  | sym k i => cases h; exact .int _ _
  | _ => exact h
theorem vrel_unconc {v : V} {x : Value} (h : VRel ρ (v.conc Sig.val) x) : VRel ρ v x := by
  cases v with
  | sym k i =>
    simp only [V.conc] at h
    cases h
    exact .sym _ _
  | _ => exact h

/-- A table's word, or the plain one: of numbers that are told. -/
theorem evBin_conc {op : BinOp} {x y v : V} {x' y' : Value} (hx : VRel ρ x x') (hy : VRel ρ y y') (hev : evBin op x y = some v) :
    ∃ x1 y1 v1, VRel ρ x1 x' ∧ VRel ρ y1 y' ∧ evBin0 op x1 y1 = some v1 ∧ ∀ z, VRel ρ v1 z → VRel ρ v z := by
  unfold evBin at hev
  split at hev
  · rename_i u hu
    cases hev
    exact ⟨x, y, _, hx, hy, hu, fun z hz => hz⟩
  · exact ⟨_, _, _, vrel_conc hx, vrel_conc hy, Sig.bin_ok _ _ _ _ hev, fun z hz => vrel_unconc hz⟩

theorem ok_bin (s : St P base ρ n e h a w) {op : BinOp} {t t' : TypeId} {x y : Operand} (ho : o.op = .binOp op t x y t') {x' y' : X} (h1 : rX P x = some x') (h2 : rX P y = some y') (hev : evOp cx e h (.bin op x' y') = some res) : ResOk P base ρ h o a w res := by
  simp only [evOp, Option.bind_eq_some_iff, Option.map_eq_some_iff] at hev
  obtain ⟨u, h3, v, h4, z, h5, rfl⟩ := hev
  obtain ⟨u1, v1, z1, hx, hy, h5, hz⟩ := evBin_conc (s.x h1 h3) (s.x h2 h4) h5
  obtain ⟨z', h6, h7⟩ := evBin0_run (P := P) hx hy h5 t w
  refine ⟨z', ?_, hz _ h7⟩
  have hg : (eqGuard op t x y (a.eval x) (a.eval y)).run P w = .ok () w := by
    rcases evBin0_kinds h5 with ⟨k, i, k', j, rfl, rfl⟩ | ⟨p, q, rfl, rfl⟩
    · rw [vrel_int hx, vrel_int hy]; exact guard_int ..
    · generalize hxv : a.eval x = xv at hx
      generalize hyv : a.eval y = yv at hy
      cases hx; cases hy
      exact guard_str ..
  simp only [execOp, ho, Sem.run_bind, hg, Result.andThen_ok, h6, Sem.run_pure]

theorem ok_un (s : St P base ρ n e h a w) {op : UnOp} {t : TypeId} {x : Operand} (ho : o.op = .unOp op t x) (hr : rOp? P (.unOp op t x) = some r) (hev : evOp cx e h r = some res) : ResOk P base ρ h o a w res := by
  simp only [rOp?, Option.map_eq_some_iff] at hr
  obtain ⟨x', h1, rfl⟩ := hr
  simp only [evOp, Option.bind_eq_some_iff, Option.map_eq_some_iff] at hev
  obtain ⟨u, h2, v, h3, rfl⟩ := hev
  have hx := s.x h1 h2
  generalize hxv : a.eval x = xv at hx
  cases hx <;> cases op <;> simp only [evUn, reduceCtorEq, Option.some.injEq] at h3 <;> subst h3
  · exact ⟨_, by simp only [execOp, ho, hxv, Op.unary, Sem.run_bind, Sem.run_pure, Result.andThen_ok], .bool _⟩
  · exact ⟨_, by simp only [execOp, ho, hxv, Op.unary, Op.intArith, Sem.run_bind, Sem.run_pure, Result.andThen_ok]; rfl, .int _ _⟩
  · exact ⟨_, by simp only [execOp, ho, hxv, Op.unary, Op.intBits, Sem.run_bind, Sem.run_pure, Result.andThen_ok]; rfl, .int _ _⟩

theorem ok_conv (s : St P base ρ n e h a w) {t t' : TypeId} {x : Operand} (ho : o.op = .convert t t' x) (hr : rOp? P (.convert t t' x) = some r) (hev : evOp cx e h r = some res) : ResOk P base ρ h o a w res := by
  simp only [rOp?] at hr
  cases hu : P.underlying t with
  | none => rw [hu] at hr; cases hr
  | some d =>
    cases hu' : P.underlying t' with
    | none => rw [hu, hu'] at hr; cases d <;> cases hr
    | some d' =>
      rw [hu, hu'] at hr
      cases d <;> cases d' <;> simp only [reduceCtorEq, Option.map_eq_some_iff] at hr
      case int.int k k' =>
        obtain ⟨x', h1, rfl⟩ := hr
        simp only [evOp, Option.bind_eq_some_iff] at hev
        obtain ⟨u, h2, h3⟩ := hev
        have hx := s.x h1 h2
        cases u <;> simp only [reduceCtorEq, Option.some.injEq, Option.map_eq_some_iff] at h3
        case int =>
          subst h3
          have hx := vrel_int hx
          refine ⟨_, ?_, .int _ _⟩
          simp only [execOp, ho, hx, convert, Sem.run_bind, run_und hu, run_und hu', Result.andThen_ok, Conv.intToInt, Sem.run_pure]
          rfl
        case sym =>
          obtain ⟨v, h4, rfl⟩ := h3
          obtain ⟨j, m, h5, h6⟩ := Sig.cvi_ok _ _ _ h4
          have hx := vrel_conc hx
          rw [h5] at hx
          have hx := vrel_int hx
          refine ⟨_, ?_, vrel_unconc (by rw [h6]; exact .int _ _)⟩
          simp only [execOp, ho, hx, convert, Sem.run_bind, run_und hu, run_und hu', Result.andThen_ok, Conv.intToInt, Sem.run_pure]
          rfl
      case string.string =>
        obtain ⟨x', h1, rfl⟩ := hr
        simp only [evOp, Option.bind_eq_some_iff] at hev
        obtain ⟨u, h2, h3⟩ := hev
        have hx := s.x h1 h2
        generalize hxv : a.eval x = xv at hx
        cases hx <;> simp only [reduceCtorEq, Option.some.injEq] at h3
        case str sb l hl =>
          subst h3
          refine ⟨.string sb, ?_, .str _ _ hl⟩
          simp only [execOp, ho, hxv, convert, Sem.run_bind, run_und hu, run_und hu', Result.andThen_ok, Sem.run_pure]
end
end Go.Ev
