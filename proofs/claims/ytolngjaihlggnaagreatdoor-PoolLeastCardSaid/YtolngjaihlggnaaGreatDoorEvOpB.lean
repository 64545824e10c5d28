import Derived.Test.YtolngjaihlggnaaGreatDoorEvOpA
import Derived.Great.BuildSlice
/-! The operations, one by one: places, parts, rows. -/
namespace Go.Ev
set_option linter.unusedVariables false
set_option linter.unusedSimpArgs false
set_option linter.unusedSectionVars false
variable [Sig]
section
variable {P : Program} {base : Nat} {ρ : Rho} {n : Nat} {e : Env} {h : H} {a : Act} {w : World} {cx : Cx} {o : Oper} {r : RO} {res : Res}

theorem addr_add (b x k : Nat) : (⟨b, x, none⟩ : Addr).add k = ⟨b, x + k, none⟩ := by unfold Addr.add; split <;> simp_all

theorem toNat?_some {v : V} {m : Nat} (h : v.toNat? = some m) : ∃ k, v = .int k (m : Int) := by
  cases v <;> simp only [V.toNat?, reduceCtorEq] at h
  rename_i k i
  cases hd : decide (0 ≤ i) with
  | false => rw [hd] at h; simp at h
  | true =>
    rw [hd] at h
    simp only [cond_true, Option.some.injEq] at h
    have := of_decide_eq_true hd
    exact ⟨k, by rw [← h, Int.toNat_of_nonneg this]⟩

theorem nblt {a b : Nat} (h : Nat.blt a b = true) : a < b := Nat.le_of_ble_eq_true h

theorem ok_fadd (s : St P base ρ n e h a w) {t : TypeId} {x : Operand} {f : Nat} (ho : o.op = .fieldAddr t x f) (hr : rOp? P (.fieldAddr t x f) = some r) (hev : evOp cx e h r = some res) : ResOk P base ρ h o a w res := by
  simp only [rOp?] at hr
  cases hu : P.underlying t with
  | none => rw [hu] at hr; cases hr
  | some d =>
    rw [hu] at hr
    cases d <;> simp only [reduceCtorEq] at hr
    rename_i fs
    simp only [Option.bind_eq_some_iff] at hr
    obtain ⟨fd, h1, k, h2, h3⟩ := hr
    split at h3
    · cases h3
    · rename_i hk
      simp only [Option.map_eq_some_iff] at h3
      obtain ⟨y, h4, rfl⟩ := h3
      simp only [evOp, Option.bind_eq_some_iff] at hev
      obtain ⟨v, h5, h6⟩ := hev
      have hx := s.x h4 h5
      generalize hxv : a.eval x = xv at hx
      cases hx <;> simp only [reduceCtorEq, Option.some.injEq] at h6
      case ptr b o' ent he =>
        subst h6
        refine ⟨_, ?_, .ptr b (o' + fd.offset) ent he⟩
        simp only [execOp, ho, Instr.fieldAt, Instr.sureAddr, hxv, Sem.run_bind, Sem.run_pure, Result.andThen_ok, run_und hu, h1, fieldPlace, run_size h2, hk, if_false, addr_add, Nat.add_assoc]

theorem part_run1 {t : TypeId} (h1 : tAgg P t = some false) {cs : List V} {ds : List Value} (hl : LRel ρ cs ds) {off : Nat} {v : V} (hv : part1 cs off = some v) (w : World) :
    ∃ v', (part t ⟨ds⟩ off).run P w = .ok v' w ∧ VRel ρ v v' := by
  obtain ⟨v', h2, h3⟩ := hl.get hv
  refine ⟨v', ?_, h3⟩
  have : (⟨ds⟩ : Array Value)[off]? = some v' := by simpa using h2
  simp only [part, Sem.run_bind, run_agg h1, Result.andThen_ok, Bool.false_eq_true, if_false, this, Sem.run_pure]

theorem part_runA {t : TypeId} (h1 : tAgg P t = some true) {k : Nat} (hk : tSize P t = some k) {cs : List V} {ds : List Value} (hl : LRel ρ cs ds) {off : Nat} {v : V} (hv : partA cs off k = some v) (w : World) :
    ∃ v', (part t ⟨ds⟩ off).run P w = .ok v' w ∧ VRel ρ v v' := by
  simp only [partA] at hv
  cases hle : Nat.ble (off + k) cs.length with
  | false => rw [hle] at hv; simp at hv
  | true =>
    rw [hle] at hv
    simp only [cond_true, Option.some.injEq] at hv
    subst hv
    refine ⟨.agg ⟨(ds.drop off).take k⟩, ?_, .agg' ((hl.drop off).take k)⟩
    simp only [part, Sem.run_bind, run_agg h1, Result.andThen_ok, if_true, run_size hk, Sem.run_pure]
    congr 2
    apply Array.ext'
    simp [List.extract_eq_take_drop]

theorem ok_field (s : St P base ρ n e h a w) {t : TypeId} {x : Operand} {f : Nat} (ho : o.op = .field t x f) (hr : rOp? P (.field t x f) = some r) (hev : evOp cx e h r = some res) : ResOk P base ρ h o a w res := by
  simp only [rOp?] at hr
  cases hu : P.underlying t with
  | none => rw [hu] at hr; cases hr
  | some d =>
    rw [hu] at hr
    cases d <;> simp only [reduceCtorEq] at hr
    rename_i fs
    simp only [Option.bind_eq_some_iff] at hr
    obtain ⟨fd, h1, b, h2, y, h3, h4⟩ := hr
    cases b with
    | true =>
      simp only [if_true, Option.map_eq_some_iff] at h4
      obtain ⟨k, h5, rfl⟩ := h4
      simp only [evOp, Option.bind_eq_some_iff] at hev
      obtain ⟨v, h6, h7⟩ := hev
      have hx := s.x h3 h6
      generalize hxv : a.eval x = xv at hx
      cases hx <;> simp only [reduceCtorEq] at h7
      case agg cs ds la ha =>
        simp only [Option.map_eq_some_iff] at h7
        obtain ⟨u, h8, rfl⟩ := h7
        obtain ⟨u', h9, h10⟩ := part_runA h2 h5 ⟨la, ha⟩ h8 w
        refine ⟨u', ?_, h10⟩
        simp only [execOp, ho, Instr.field, hxv, asAgg, Sem.run_bind, Sem.run_pure, Result.andThen_ok, run_und hu, h1, h9]
    | false =>
      simp only [Bool.false_eq_true, if_false, Option.some.injEq] at h4
      subst h4
      simp only [evOp, Option.bind_eq_some_iff] at hev
      obtain ⟨v, h6, h7⟩ := hev
      have hx := s.x h3 h6
      generalize hxv : a.eval x = xv at hx
      cases hx <;> simp only [reduceCtorEq] at h7
      case agg cs ds la ha =>
        simp only [Option.map_eq_some_iff] at h7
        obtain ⟨u, h8, rfl⟩ := h7
        obtain ⟨u', h9, h10⟩ := part_run1 h2 ⟨la, ha⟩ h8 w
        refine ⟨u', ?_, h10⟩
        simp only [execOp, ho, Instr.field, hxv, asAgg, Sem.run_bind, Sem.run_pure, Result.andThen_ok, run_und hu, h1, h9]

theorem ok_indexAddr (s : St P base ρ n e h a w) {t : TypeId} {x y : Operand} (ho : o.op = .indexAddr t x y) (hr : rOp? P (.indexAddr t x y) = some r) (hev : evOp cx e h r = some res) : ResOk P base ρ h o a w res := by
  simp only [rOp?, Option.bind_eq_some_iff] at hr
  obtain ⟨x', h1, y', h2, h3⟩ := hr
  cases hu : P.underlying t with
  | none => rw [hu] at h3; cases h3
  | some d =>
    rw [hu] at h3
    cases d <;> simp only [reduceCtorEq, Option.map_eq_some_iff] at h3
    case array len el =>
      obtain ⟨k, h4, rfl⟩ := h3
      simp only [evOp, Option.bind_eq_some_iff] at hev
      obtain ⟨v, h5, h6⟩ := hev
      have hx := s.x h1 h5
      generalize hxv : a.eval x = xv at hx
      cases hx <;> simp only [reduceCtorEq] at h6
      case ptr b o' ent he =>
        simp only [Option.bind_eq_some_iff] at h6
        obtain ⟨iv, h7, i, h8, h9⟩ := h6
        have hy := s.x h2 h7
        obtain ⟨ik, rfl⟩ := toNat?_some h8
        have hy := vrel_int hy
        cases hlt : Nat.blt i len with
        | false => rw [hlt] at h9; simp at h9
        | true =>
          rw [hlt] at h9
          simp only [cond_true, Option.some.injEq] at h9
          subst h9
          have hlt := nblt hlt
          refine ⟨_, ?_, .ptr b (o' + i * k) ent he⟩
          have hb : (0 : Int) ≤ (i : Int) ∧ (i : Int) < (len : Int) := by omega
          simp only [execOp, ho, Instr.indexAt, Instr.sureAddr, hxv, hy, asIntOf, Sem.run_bind, Sem.run_pure, Result.andThen_ok, run_und hu, if_pos hb, run_size h4, addr_add, Int.toNat_natCast, Nat.add_assoc]
    case slice el =>
      obtain ⟨k, h4, rfl⟩ := h3
      simp only [evOp, Option.bind_eq_some_iff] at hev
      obtain ⟨v, h5, h6⟩ := hev
      have hx := s.x h1 h5
      generalize hxv : a.eval x = xv at hx
      cases hx <;> simp only [reduceCtorEq] at h6
      case slc b o' len cap sz ent ro' cap' he hs =>
        simp only [Option.bind_eq_some_iff] at h6
        obtain ⟨iv, h7, i, h8, h9⟩ := h6
        have hy := s.x h2 h7
        obtain ⟨ik, rfl⟩ := toNat?_some h8
        have hy := vrel_int hy
        cases hlt : Nat.blt i len with
        | false => rw [hlt] at h9; simp at h9
        | true =>
          rw [hlt] at h9
          simp only [cond_true, Option.some.injEq] at h9
          subst h9
          have hlt := nblt hlt
          have hro : ro' = ent.ro + o' := by
            rcases hs with hs | ⟨_, hs | hs⟩
            · exact hs.2.2
            · exact hs.2.2.1
            · omega
          refine ⟨_, ?_, .ptr b (o' + i * k) ent he⟩
          have hb : (0 : Int) ≤ (i : Int) ∧ (i : Int) < (len : Int) := by omega
          simp only [execOp, ho, Instr.indexAt, Instr.sureAddr, hxv, hy, asIntOf, Sem.run_bind, Sem.run_pure, Result.andThen_ok, run_und hu, if_pos hb, run_size h4, addr_add, Int.toNat_natCast, hro, Nat.add_assoc]
      case slv b o' il lo ent len cap' he hl hlo =>
        simp only [Option.bind_eq_some_iff] at h6
        obtain ⟨iv, h7, i, h8, h9⟩ := h6
        have hy := s.x h2 h7
        obtain ⟨ik, rfl⟩ := toNat?_some h8
        have hy := vrel_int hy
        cases hlt : Nat.blt i lo with
        | false => rw [hlt] at h9; simp at h9
        | true =>
          rw [hlt] at h9
          simp only [cond_true, Option.some.injEq] at h9
          subst h9
          have hlt := nblt hlt
          refine ⟨_, ?_, .ptr b (o' + i * k) ent he⟩
          have hb : (0 : Int) ≤ (i : Int) ∧ (i : Int) < (len : Int) := by omega
          simp only [execOp, ho, Instr.indexAt, Instr.sureAddr, hxv, hy, asIntOf, Sem.run_bind, Sem.run_pure, Result.andThen_ok, run_und hu, if_pos hb, run_size h4, addr_add, Int.toNat_natCast, Nat.add_assoc]
      case slvn b o' il pp cp hl =>
        simp only [Option.bind_eq_some_iff] at h6
        obtain ⟨iv, h7, i, h8, h9⟩ := h6
        have : Nat.blt i 0 = false := by cases i <;> rfl
        rw [this] at h9
        simp at h9

theorem ok_index (s : St P base ρ n e h a w) {t : TypeId} {x y : Operand} (ho : o.op = .index t x y) (hr : rOp? P (.index t x y) = some r) (hev : evOp cx e h r = some res) : ResOk P base ρ h o a w res := by
  simp only [rOp?, Option.bind_eq_some_iff] at hr
  obtain ⟨x', h1, y', h2, h3⟩ := hr
  cases hu : P.underlying t with
  | none => rw [hu] at h3; cases h3
  | some d =>
    rw [hu] at h3
    cases d <;> simp only [reduceCtorEq, Option.bind_eq_some_iff] at h3
    case array len el =>
      obtain ⟨b, h4, k, h5, h6⟩ := h3
      cases b with
      | true =>
        simp only [if_true, Option.some.injEq] at h6
        subst h6
        simp only [evOp, Option.bind_eq_some_iff] at hev
        obtain ⟨v, h5', h6⟩ := hev
        have hx := s.x h1 h5'
        generalize hxv : a.eval x = xv at hx
        cases hx <;> simp only [reduceCtorEq] at h6
        case agg cs ds la ha =>
          simp only [Option.bind_eq_some_iff] at h6
          obtain ⟨iv, h7, i, h8, h9⟩ := h6
          have hy := s.x h2 h7
          obtain ⟨ik, rfl⟩ := toNat?_some h8
          have hy := vrel_int hy
          cases hlt : Nat.blt i len with
          | false => rw [hlt] at h9; simp at h9
          | true =>
            rw [hlt] at h9
            simp only [cond_true, Option.map_eq_some_iff] at h9
            obtain ⟨u, h10, rfl⟩ := h9
            have hlt := nblt hlt
            obtain ⟨u', h11, h12⟩ := part_runA h4 h5 ⟨la, ha⟩ h10 w
            refine ⟨u', ?_, h12⟩
            have hb : (0 : Int) ≤ (i : Int) ∧ (i : Int) < (len : Int) := by omega
            simp only [execOp, ho, Instr.index, hxv, hy, asIntOf, Sem.run_bind, Sem.run_pure, Result.andThen_ok, run_und hu, if_pos hb, run_size h5, Int.toNat_natCast, h11]
      | false =>
        simp only [Bool.false_eq_true, if_false] at h6
        split at h6
        · rename_i hk1
          subst hk1
          simp only [Option.some.injEq] at h6
          subst h6
          simp only [evOp, Option.bind_eq_some_iff] at hev
          obtain ⟨v, h5', h6⟩ := hev
          have hx := s.x h1 h5'
          generalize hxv : a.eval x = xv at hx
          cases hx <;> simp only [reduceCtorEq] at h6
          case agg cs ds la ha =>
            simp only [Option.bind_eq_some_iff] at h6
            obtain ⟨iv, h7, i, h8, h9⟩ := h6
            have hy := s.x h2 h7
            obtain ⟨ik, rfl⟩ := toNat?_some h8
            have hy := vrel_int hy
            cases hlt : Nat.blt i len with
            | false => rw [hlt] at h9; simp at h9
            | true =>
              rw [hlt] at h9
              simp only [cond_true, Option.map_eq_some_iff] at h9
              obtain ⟨u, h10, rfl⟩ := h9
              have hlt := nblt hlt
              obtain ⟨u', h11, h12⟩ := part_run1 h4 ⟨la, ha⟩ h10 w
              refine ⟨u', ?_, h12⟩
              have hb : (0 : Int) ≤ (i : Int) ∧ (i : Int) < (len : Int) := by omega
              simp only [execOp, ho, Instr.index, hxv, hy, asIntOf, Sem.run_bind, Sem.run_pure, Result.andThen_ok, run_und hu, if_pos hb, run_size h5, Int.toNat_natCast, Nat.mul_one, h11]
        · cases h6
    case string =>
      simp only [Option.some.injEq] at h3
      subst h3
      simp only [evOp, Option.bind_eq_some_iff] at hev
      obtain ⟨v, h5', h6⟩ := hev
      have hx := s.x h1 h5'
      generalize hxv : a.eval x = xv at hx
      cases hx <;> simp only [reduceCtorEq] at h6
      case str sb l hl =>
        simp only [Option.bind_eq_some_iff] at h6
        obtain ⟨iv, h7, i, h8, h9⟩ := h6
        have hy := s.x h2 h7
        obtain ⟨ik, rfl⟩ := toNat?_some h8
        have hy := vrel_int hy
        simp only [Option.bind_eq_some_iff, Option.some.injEq] at h9
        obtain ⟨u, h10, rfl⟩ := h9
        subst hl
        rw [List.getElem?_map, Option.map_eq_some_iff] at h10
        obtain ⟨c, h11, rfl⟩ := h10
        have hlt : i < sb.data.toList.length := (List.getElem?_eq_some_iff.1 h11).1
        have hc : sb[i]? = some c := by
          have hs : i < sb.size := by simpa using hlt
          rw [getElem?_pos sb i hs]
          have hd := (List.getElem?_eq_some_iff.1 h11).2
          rw [Array.getElem_toList] at hd
          exact congrArg some hd
        refine ⟨_, ?_, .int .u8 (c.toNat : Int)⟩
        have hb : (0 : Int) ≤ (i : Int) := by omega
        simp only [execOp, ho, Instr.index, hxv, hy, asIntOf, Sem.run_bind, Sem.run_pure, Result.andThen_ok, run_und hu, if_pos hb, Int.toNat_natCast, hc]
end
end Go.Ev
