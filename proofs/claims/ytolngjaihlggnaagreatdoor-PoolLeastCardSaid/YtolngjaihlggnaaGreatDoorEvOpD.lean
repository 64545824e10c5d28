import Derived.Test.YtolngjaihlggnaaGreatDoorEvOpC
/-! The operations, one by one: slices of slices, numbers, comparisons. -/
namespace Go.Ev
set_option linter.unusedVariables false
set_option linter.unusedSimpArgs false
set_option linter.unusedSectionVars false
variable [Sig]
section
variable {P : Program} {base : Nat} {ρ : Rho} {n : Nat} {e : Env} {h : H} {a : Act} {w : World} {cx : Cx} {o : Oper} {r : RO} {res : Res}

/-- An operand that may be missing. -/
def OVRel (ρ : Rho) : Option V → Option Value → Prop
  | none, none => True
  | some v, some v' => VRel ρ v v'
  | _, _ => False

theorem St.xo (s : St P base ρ n e h a w) {x : Option Operand} {y : Option X} (hx : rXo P x = some y) {v : Option V} (hv : evo e y = some v) : OVRel ρ v (x.map a.eval) := by
  cases x with
  | none => simp only [rXo] at hx; cases hx; simp only [evo] at hv; cases hv; trivial
  | some x =>
    simp only [rXo, Option.map_eq_some_iff] at hx
    obtain ⟨y', h1, rfl⟩ := hx
    simp only [evo, Option.bind_eq_some_iff, Option.some.injEq] at hv
    obtain ⟨v', h2, rfl⟩ := hv
    exact s.x h1 h2

theorem run_bound {k : IntKind} {m y : Nat} (hm : m ≤ y) (c : BoundsCode) (w : World) : (Instr.sliceBound (.int k (m : Int)) y c).run P w = .ok m w := by
  have hb : (0 : Int) ≤ (m : Int) ∧ (m : Int) ≤ (y : Int) := by omega
  simp only [Instr.sliceBound, asIntOf, Sem.run_bind, Sem.run_pure, Result.andThen_ok, if_pos hb, Int.toNat_natCast]

theorem bnd_none {d m r : Nat} (h : bnd none d m = some r) : r = d := by simp only [bnd, Option.some.injEq] at h; exact h.symm
theorem bnd_some {v : V} {d m r : Nat} (h : bnd (some v) d m = some r) : (∃ k, v = .int k (r : Int)) ∧ r ≤ m := by
  simp only [bnd, Option.bind_eq_some_iff] at h
  obtain ⟨q, h1, h2⟩ := h
  cases hle : Nat.ble q m with
  | false => rw [hle] at h2; simp at h2
  | true =>
    rw [hle] at h2
    simp only [cond_true, Option.some.injEq] at h2
    subst h2
    exact ⟨toNat?_some h1, nble hle⟩

theorem run_bounds (isS : Bool) {len cap cap' m hh l : Nat} (hcap : cap ≤ cap') {lo hi mx : Option V} {lo' hi' mx' : Option Value} (r1 : OVRel ρ lo lo') (r2 : OVRel ρ hi hi') (r3 : OVRel ρ mx mx')
    (hmh : mx.isSome = true → hi.isSome = true) (hb1 : bnd mx cap cap = some m) (hb2 : bnd hi len m = some hh) (hb3 : bnd lo 0 hh = some l) (w : World) :
    (Instr.sliceBounds isS len cap' lo' hi' mx').run P w = .ok (l, hh, if mx.isSome then m else cap') w ∧ (lo = none → l = 0) ∧ (mx.isSome = true → m ≤ cap) ∧ (mx = none → m = cap) ∧ (hi = none → hh = len) ∧ (hi.isSome = true → hh ≤ m) ∧ (lo.isSome = true → l ≤ hh) := by
  cases mx with
  | some mv =>
    obtain ⟨⟨k1, rfl⟩, hm⟩ := bnd_some hb1
    cases mx' with
    | none => exact r3.elim
    | some mv' =>
      have e3 := vrel_int r3
      subst e3
      cases hi with
      | none => simp at hmh
      | some hv =>
        obtain ⟨⟨k2, rfl⟩, hh'⟩ := bnd_some hb2
        cases hi' with
        | none => exact r2.elim
        | some hv' =>
          have e2 := vrel_int r2
          subst e2
          cases lo with
          | none =>
            cases lo' with
            | some _ => exact r1.elim
            | none =>
              have := bnd_none hb3
              subst this
              refine ⟨?_, fun _ => rfl, fun _ => hm, fun h => by simp at h, fun h => by simp at h, fun _ => hh', fun h => by simp at h⟩
              simp only [Instr.sliceBounds, Sem.run_bind, run_bound (Nat.le_trans hm hcap), Result.andThen_ok, run_bound hh', Sem.run_pure, Option.isSome_some, if_true]
          | some lv =>
            obtain ⟨⟨k4, rfl⟩, hl'⟩ := bnd_some hb3
            cases lo' with
            | none => exact r1.elim
            | some lv' =>
              have e1 := vrel_int r1
              subst e1
              refine ⟨?_, fun h => by simp at h, fun _ => hm, fun h => by simp at h, fun h => by simp at h, fun _ => hh', fun _ => hl'⟩
              simp only [Instr.sliceBounds, Sem.run_bind, run_bound (Nat.le_trans hm hcap), Result.andThen_ok, run_bound hh', run_bound hl', Sem.run_pure, Option.isSome_some, if_true]
  | none =>
    cases mx' with
    | some _ => exact r3.elim
    | none =>
      have hm := bnd_none hb1
      subst hm
      cases hi with
      | none =>
        cases hi' with
        | some _ => exact r2.elim
        | none =>
          have hhe := bnd_none hb2
          subst hhe
          cases lo with
          | none =>
            cases lo' with
            | some _ => exact r1.elim
            | none =>
              have := bnd_none hb3
              subst this
              refine ⟨?_, fun _ => rfl, fun h => by simp at h, fun _ => rfl, fun _ => rfl, fun h => by simp at h, fun h => by simp at h⟩
              simp only [Instr.sliceBounds, Sem.run_bind, Result.andThen_ok, Sem.run_pure, Option.isSome_none, Bool.false_eq_true, if_false]
          | some lv =>
            obtain ⟨⟨k4, rfl⟩, hl'⟩ := bnd_some hb3
            cases lo' with
            | none => exact r1.elim
            | some lv' =>
              have e1 := vrel_int r1
              subst e1
              refine ⟨?_, fun h => by simp at h, fun h => by simp at h, fun _ => rfl, fun _ => rfl, fun h => by simp at h, fun _ => hl'⟩
              simp only [Instr.sliceBounds, Sem.run_bind, Result.andThen_ok, run_bound hl', Sem.run_pure, Option.isSome_none, Bool.false_eq_true, if_false]
      | some hv =>
        obtain ⟨⟨k2, rfl⟩, hh'⟩ := bnd_some hb2
        cases hi' with
        | none => exact r2.elim
        | some hv' =>
          have e2 := vrel_int r2
          subst e2
          cases lo with
          | none =>
            cases lo' with
            | some _ => exact r1.elim
            | none =>
              have := bnd_none hb3
              subst this
              refine ⟨?_, fun _ => rfl, fun h => by simp at h, fun _ => rfl, fun h => by simp at h, fun _ => hh', fun h => by simp at h⟩
              simp only [Instr.sliceBounds, Sem.run_bind, Result.andThen_ok, run_bound (Nat.le_trans hh' hcap), Sem.run_pure, Option.isSome_none, Bool.false_eq_true, if_false]
          | some lv =>
            obtain ⟨⟨k4, rfl⟩, hl'⟩ := bnd_some hb3
            cases lo' with
            | none => exact r1.elim
            | some lv' =>
              have e1 := vrel_int r1
              subst e1
              refine ⟨?_, fun h => by simp at h, fun h => by simp at h, fun _ => rfl, fun h => by simp at h, fun _ => hh', fun _ => hl'⟩
              simp only [Instr.sliceBounds, Sem.run_bind, Result.andThen_ok, run_bound (Nat.le_trans hh' hcap), run_bound hl', Sem.run_pure, Option.isSome_none, Bool.false_eq_true, if_false]

theorem ok_slStr (s : St P base ρ n e h a w) {t : TypeId} {x : Operand} {lo hi mx : Option Operand} (ho : o.op = .slice t x lo hi mx) (hu : P.underlying t = some .string) {x' : X} {lo' hi' : Option X}
    (h1 : rX P x = some x') (h2 : rXo P lo = some lo') (h3 : rXo P hi = some hi') (hmx : mx = none) (hev : evOp cx e h (.slStr x' lo' hi') = some res) : ResOk P base ρ h o a w res := by
  subst hmx
  simp only [evOp, Option.bind_eq_some_iff] at hev
  obtain ⟨v, h5, h6⟩ := hev
  have hx := s.x h1 h5
  generalize hxv : a.eval x = xv at hx
  cases hx <;> simp only [reduceCtorEq] at h6
  case str sb l hl =>
    simp only [Option.bind_eq_some_iff, Option.map_eq_some_iff] at h6
    obtain ⟨lv, h7, hv, h8, hh, h9, ll, h10, rfl⟩ := h6
    have r1 := s.xo h2 h7
    have r2 := s.xo h3 h8
    have hlen : l.length = sb.size := by subst hl; simp
    have hb := run_bounds (P := P) (ρ := ρ) (len := sb.size) (cap := sb.size) (cap' := sb.size) (m := sb.size) false (Nat.le_refl _) r1 r2 (mx := none) (mx' := none) trivial (by simp) rfl (by rw [← hlen]; exact h9) h10 w
    obtain ⟨hb, hl0, _, _, hb3, hb4, hb5⟩ := hb
    refine ⟨.string (sb.extract ll hh), ?_, .str _ _ ?_⟩
    · simp only [execOp, ho, Instr.sliceAt, hxv, Sem.run_bind, run_und hu, Result.andThen_ok, Instr.slice, Option.map_none, Option.isSome_none, Bool.false_eq_true, if_false, hb, Sem.run_pure]
    · have hhle : hh ≤ sb.size := by
        cases hv with
        | none => have := hb3 rfl; omega
        | some _ => exact hb4 rfl
      subst hl
      simp only [ByteArray.data_extract, Array.toList_extract, List.extract_eq_take_drop, List.map_take, List.map_drop]

theorem ok_slSlc (s : St P base ρ n e h a w) {t el : TypeId} {x : Operand} {lo hi mx : Option Operand} (ho : o.op = .slice t x lo hi mx) (hu : P.underlying t = some (.slice el)) {k : Nat} (hk : tSize P el = some k) {x' : X} {lo' hi' mx' : Option X}
    (h1 : rX P x = some x') (h2 : rXo P lo = some lo') (h3 : rXo P hi = some hi') (h4 : rXo P mx = some mx') (hev : evOp cx e h (.slSlc k x' lo' hi' mx') = some res) : ResOk P base ρ h o a w res := by
  simp only [evOp, Option.bind_eq_some_iff] at hev
  obtain ⟨v, h5, h6⟩ := hev
  have hx := s.x h1 h5
  generalize hxv : a.eval x = xv at hx
  cases hx <;> simp only [reduceCtorEq] at h6
  case nils =>
    simp only [Option.bind_eq_some_iff] at h6
    obtain ⟨lv, h7, hv, h8, mv, h9, h10⟩ := h6
    have r1 := s.xo h2 h7
    have r2 := s.xo h3 h8
    have r3 := s.xo h4 h9
    cases hc : (mv.isSome && !hv.isSome) with
    | true => rw [hc] at h10; simp at h10
    | false =>
      rw [hc] at h10
      simp only [cond_false, Option.bind_eq_some_iff, Option.map_eq_some_iff] at h10
      obtain ⟨m, h10, hh, h11, l, h12, rfl⟩ := h10
      have hmh : mv.isSome = true → hv.isSome = true := by intro h; rw [h] at hc; simpa using hc
      obtain ⟨hb, hl0, hb1, hb2, hb3, hb4, hb5⟩ := run_bounds (P := P) true (Nat.le_refl 0) r1 r2 r3 hmh h10 h11 h12 w
      have hm0 : m = 0 := by
        cases mv with
        | none => exact hb2 rfl
        | some _ => have := hb1 rfl; omega
      have hh0 : hh = 0 := by
        cases hv with
        | none => exact hb3 rfl
        | some _ => have := hb4 rfl; omega
      have hl0' : l = 0 := by
        cases lv with
        | none => exact hl0 rfl
        | some _ => have := hb5 rfl; omega
      subst hm0; subst hh0; subst hl0'
      refine ⟨_, ?_, .nils⟩
      have hif : (if mv.isSome = true then 0 else 0) = 0 := by split <;> rfl
      simp only [execOp, ho, Instr.sliceAt, hxv, Sem.run_bind, run_und hu, Result.andThen_ok, Instr.slice, hb, run_size hk, Sem.run_pure, hif, if_true]
  case slc b o' len cap sz ent ro' cap' he hs =>
    simp only [Option.bind_eq_some_iff] at h6
    obtain ⟨lv, h7, hv, h8, mv, h9, h10⟩ := h6
    have r1 := s.xo h2 h7
    have r2 := s.xo h3 h8
    have r3 := s.xo h4 h9
    cases hc : ((mv.isSome && (!hv.isSome || (!(Nat.beq sz 0) && Nat.beq cap 0))) || !(Nat.beq sz 0 || Nat.beq sz k)) with
    | true => rw [hc] at h10; simp at h10
    | false =>
      rw [hc] at h10
      simp only [cond_false, Option.bind_eq_some_iff, Option.map_eq_some_iff] at h10
      obtain ⟨m, h10, hh, h11, l, h12, rfl⟩ := h10
      rw [Bool.or_eq_false_iff] at hc
      obtain ⟨hc1, hc2⟩ := hc
      have hmh : mv.isSome = true → hv.isSome = true := by intro h; rw [h] at hc1; simp at hc1; exact hc1.1
      have hszk : sz = 0 ∨ sz = k := by
        cases hz : Nat.beq sz 0 with
        | true => exact .inl (nbeq hz)
        | false => rw [hz] at hc2; simp at hc2; exact .inr hc2
      have hcapcap : cap ≤ cap' := by
        rcases hs with hs | ⟨_, hs | hs⟩ <;> omega
      obtain ⟨hb, hl0, hb1, hb2, hb3, hb4, hb5⟩ := run_bounds (P := P) true hcapcap r1 r2 r3 hmh h10 h11 h12 w
      generalize hM : (if mv.isSome = true then m else cap') = M at hb
      have hrun : (execOp a.eval o).run P w = .ok (.value (.slice (some (if M = l then ⟨ent.rb, ro', none⟩ else ⟨ent.rb, ro' + l * k, none⟩)) (hh - l) (M - l))) w := by
        simp only [execOp, ho, Instr.sliceAt, hxv, Sem.run_bind, run_und hu, Result.andThen_ok, Instr.slice, hb, run_size hk, Sem.run_pure, Option.map_some, addr_add]
        congr 3
        split <;> rfl
      refine ⟨_, hrun, ?_⟩
      unfold addO
      have haddr : ∀ q : Nat, (if M = l then (⟨ent.rb, ro', none⟩ : Addr) else ⟨ent.rb, ro' + l * k, none⟩) = ⟨ent.rb, if M = l then ro' else ro' + l * k, none⟩ := fun _ => by split <;> rfl
      rw [haddr 0]
      refine .slc b _ _ _ _ ent _ _ he ?_
      cases hmv : mv with
      | some mv' =>
        -- the capacity is written out
        subst hmv
        have hMm : M = m := by rw [← hM]; rfl
        have hmc := hb1 rfl
        have hro : ro' = ent.ro + o' := by
          rcases hs with hs | ⟨hs0, hs | hs⟩
          · exact hs.2.2
          · exact hs.2.2.1
          · exfalso
            simp only [Option.isSome_some, Bool.true_and] at hc1
            rw [nbf hs0, nbt hs.2.1] at hc1
            simp at hc1
        refine .inl ⟨rfl, by rw [hMm], ?_⟩
        subst hMm
        simp only [Option.isSome_some, cond_true]
        by_cases hml : M = l
        · simp [hml, hro, nbt]
        · rw [if_neg hml, nbf hml]; simp [hro, Nat.add_assoc]
      | none =>
        subst hmv
        have hMc : M = cap' := by rw [← hM]; rfl
        have hmc : m = cap := hb2 rfl
        subst hMc; subst hmc
        simp only [Option.isSome_none, cond_false]
        rcases hs with ⟨hs0, hs1, hs2⟩ | ⟨hs0, hs | hs⟩
        · subst hs0; subst hs1
          refine .inl ⟨rfl, rfl, ?_⟩
          by_cases hml : M = l
          · simp [hml, hs2, nbt]
          · rw [if_neg hml, nbf hml]; simp [hs2, Nat.add_assoc]
        · refine .inr ⟨hs0, ?_⟩
          rw [nbf hs0]
          simp only [Bool.false_and, cond_false]
          have hk' : sz = k := hszk.resolve_left hs0
          subst hk'
          obtain ⟨hs1, hs2, hs3, hs4⟩ := hs
          have hhm : hh ≤ m := by
            cases hv with
            | none => have := hb3 rfl; omega
            | some _ => exact hb4 rfl
          have hlh : l ≤ hh := by
            cases lv with
            | none => have := hl0 rfl; omega
            | some _ => exact hb5 rfl
          by_cases hml : M = l
          · right; omega
          · left
            rw [if_neg hml]
            have h5 : l * sz ≤ M * sz := Nat.mul_le_mul_right _ (by omega)
            refine ⟨by omega, by omega, by omega, ?_⟩
            rw [Nat.sub_mul]
            omega
        · refine .inr ⟨hs0, .inr ?_⟩
          obtain ⟨hs1, hs2, hs3⟩ := hs
          have hhm : hh = 0 := by
            cases hv with
            | none => have := hb3 rfl; omega
            | some _ => have := hb4 rfl; omega
          have hlh : l = 0 := by
            cases lv with
            | none => exact hl0 rfl
            | some _ => have := hb5 rfl; omega
          omega

theorem ok_slArr (s : St P base ρ n e h a w) {t el : TypeId} {len : Nat} {x : Operand} {lo hi mx : Option Operand} (ho : o.op = .slice t x lo hi mx) {k : Nat} (hk : tSize P el = some k)
    (hu : P.underlying t = some (.array len el) ∨ ∃ t', P.underlying t = some (.pointer t') ∧ P.underlying t' = some (.array len el)) {x' : X} {lo' hi' mx' : Option X}
    (h1 : rX P x = some x') (h2 : rXo P lo = some lo') (h3 : rXo P hi = some hi') (h4 : rXo P mx = some mx') (hev : evOp cx e h (.slArr len k x' lo' hi' mx') = some res) : ResOk P base ρ h o a w res := by
  simp only [evOp, Option.bind_eq_some_iff] at hev
  obtain ⟨v, h5, h6⟩ := hev
  have hx := s.x h1 h5
  generalize hxv : a.eval x = xv at hx
  cases hx <;> simp only [reduceCtorEq] at h6
  case ptr b o' ent he =>
    simp only [Option.bind_eq_some_iff] at h6
    obtain ⟨lv, h7, hv, h8, mv, h9, h10⟩ := h6
    have r1 := s.xo h2 h7
    have r2 := s.xo h3 h8
    have r3 := s.xo h4 h9
    cases hc : (mv.isSome && !hv.isSome) with
    | true => rw [hc] at h10; simp at h10
    | false =>
      rw [hc] at h10
      simp only [cond_false, Option.bind_eq_some_iff, Option.map_eq_some_iff] at h10
      obtain ⟨m, h10, hh, h11, l, h12, rfl⟩ := h10
      have hmh : mv.isSome = true → hv.isSome = true := by intro h; rw [h] at hc; simpa using hc
      obtain ⟨hb, hl0, hb1, hb2, hb3, hb4, hb5⟩ := run_bounds (P := P) false (Nat.le_refl len) r1 r2 r3 hmh h10 h11 h12 w
      have hM : (if mv.isSome = true then m else len) = m := by
        cases mv with
        | none => have := hb2 rfl; simp [this]
        | some _ => rfl
      rw [hM] at hb
      have hrun : (execOp a.eval o).run P w = .ok (.value (.slice (some ⟨ent.rb, if m = l then ent.ro + o' else ent.ro + o' + l * k, none⟩) (hh - l) (m - l))) w := by
        have haddr : (if m = l then (⟨ent.rb, ent.ro + o', none⟩ : Addr) else (⟨ent.rb, ent.ro + o', none⟩ : Addr).add (l * k)) = ⟨ent.rb, if m = l then ent.ro + o' else ent.ro + o' + l * k, none⟩ := by rw [addr_add]; split <;> rfl
        rcases hu with hu | ⟨t', hu, hu'⟩
        · simp only [execOp, ho, Instr.sliceAt, Instr.sureAddr, hxv, Sem.run_bind, run_und hu, Result.andThen_ok, hb, run_size hk, Sem.run_pure, haddr]
        · simp only [execOp, ho, Instr.sliceAt, Instr.slice, asAddr, hxv, Sem.run_bind, run_und hu, run_und hu', Result.andThen_ok, hb, run_size hk, Sem.run_pure, haddr]
      refine ⟨_, hrun, ?_⟩
      unfold addO
      refine .slc b _ _ _ _ ent _ _ he (.inl ⟨rfl, rfl, ?_⟩)
      by_cases hml : m = l
      · simp [hml, nbt]
      · rw [if_neg hml, nbf hml]; simp [Nat.add_assoc]

theorem ok_slice (s : St P base ρ n e h a w) {t : TypeId} {x : Operand} {lo hi mx : Option Operand} (ho : o.op = .slice t x lo hi mx) (hr : rOp? P (.slice t x lo hi mx) = some r) (hev : evOp cx e h r = some res) : ResOk P base ρ h o a w res := by
  simp only [rOp?, Option.bind_eq_some_iff] at hr
  obtain ⟨x', h1, lo', h2, hi', h3, mx', h4, h5⟩ := hr
  cases hu : P.underlying t with
  | none => rw [hu] at h5; cases h5
  | some d =>
    rw [hu] at h5
    cases d <;> simp only [reduceCtorEq, Option.map_eq_some_iff] at h5
    case string =>
      split at h5
      · cases h5
      · rename_i hm
        simp only [Option.some.injEq] at h5
        subst h5
        have hmx : mx = none := by
          cases mx with
          | none => rfl
          | some q =>
            simp only [rXo, Option.map_eq_some_iff] at h4
            obtain ⟨q', _, rfl⟩ := h4
            simp at hm
        exact ok_slStr s ho hu h1 h2 h3 hmx hev
    case slice el =>
      obtain ⟨k, h6, rfl⟩ := h5
      exact ok_slSlc s ho hu h6 h1 h2 h3 h4 hev
    case array len el =>
      obtain ⟨k, h6, rfl⟩ := h5
      exact ok_slArr s ho h6 (.inl hu) h1 h2 h3 h4 hev
    case pointer t' =>
      cases hu' : P.underlying t' with
      | none => rw [hu'] at h5; cases h5
      | some d =>
        rw [hu'] at h5
        cases d <;> simp only [reduceCtorEq, Option.map_eq_some_iff] at h5
        case array len el =>
          obtain ⟨k, h6, rfl⟩ := h5
          exact ok_slArr s ho h6 (.inr ⟨t', hu, hu'⟩) h1 h2 h3 h4 hev
end
end Go.Ev
