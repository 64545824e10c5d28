import Derived.Test.YtolngjaihlggnaaGreatDoorEvOpN
import Derived.LoopN
/-! Regions in the order of the text, code, calls. (Regions that draw their order: by a hypothesis here, 'DrwSound'.) -/
namespace Go.Ev
set_option linter.unusedVariables false
set_option linter.unusedSimpArgs false
set_option linter.unusedSectionVars false
variable [Sig]

/-- A call of a function, with a Go body or without one. -/
def Does (P : Program) (f : FuncId) (args : Array Value) (w : World) (K : Value → World → Prop) : Prop :=
  ∀ (o : Oper) (a : Act) (next : Act → World → Prop) (Q : Exit → Act → World → Prop), (∀ v w', K v w' → next (a.put o.dst v) w') → o.upon P a next Q ((callFunc f args).run P w)

/-- What a call of the evaluator's says of the model's. -/
def CallSound (P : Program) (base : Nat) (call : CallF) : Prop :=
  ∀ f az h v h', call f az h = some (v, h') → ∀ ρ w az', Pins P ρ → Rel base ρ h w → LRel ρ az az' →
    Does P f az'.toArray w fun v' w' => ∃ ρ', Rel base ρ' h' w' ∧ Ext ρ h w ρ' h' w' ∧ VRel ρ' v v'

section
variable {P : Program} {base : Nat} {ρ : Rho} {n : Nat} {e : Env} {h : H} {a : Act} {w : World} {cx : Cx} {o : Oper}

theorem Does.mono {f : FuncId} {args : Array Value} {K K' : Value → World → Prop} (hd : Does P f args w K) (hk : ∀ v w', K v w' → K' v w') : Does P f args w K' :=
  fun o a next Q hn => hd o a next Q fun v w' hv => hn v w' (hk v w' hv)

/-- The temporaries' relation, without a bound on what is asked. -/
def DstOk (n : Nat) (d : Option Nat) : Prop := ∀ i, d = some i → i < n

theorem St.mono {ρ' : Rho} {h' : H} {w' : World} (s : St P base ρ n e h a w) (hr : Rel base ρ' h' w') (hx : Ext ρ h w ρ' h' w') : St P base ρ' n e h' a w' :=
  ⟨s.pins.mono hx.le, s.env.mono hx.le, hr⟩
theorem St.put {v : V} {v' : Value} {d : Option Nat} (s : St P base ρ n e h a w) (hd : DstOk n d) (hv : VRel ρ v v') : St P base ρ n (Env.put e d v) h (a.put d v') w :=
  ⟨s.pins, s.env.put hd hv, s.rel⟩

theorem put_defers {d : Option Nat} {v : Value} : (a.put d v).defers = a.defers := by cases d <;> rfl

/-- The guard. -/
theorem guard_wanted (s : St P base ρ n e h a w) {ops : Array Oper} {g : Option (Nat × Bool)} (hg : rGuard ops o.guard = some g) {b : Bool} (hok : guardOk e g = some b) : Region.wanted o (yielded ops a.tmps) = b := by
  unfold rGuard at hg
  unfold Region.wanted
  split at hg
  · rename_i hn
    cases hg
    simp only [guardOk, Option.some.injEq] at hok
    rw [hn]
    exact hok
  · rename_i j want hs
    simp only [Option.map_eq_some_iff] at hg
    obtain ⟨d, h1, rfl⟩ := hg
    rw [hs]
    simp only [guardOk] at hok
    cases he : e.get d with
    | none => rw [he] at hok; simp at hok
    | some v =>
      rw [he] at hok
      obtain ⟨v', h2, h3⟩ := s.env.2 d v he
      have hy : yielded ops a.tmps j = match v' with | .bool b => some b | _ => none := by
        unfold yielded
        rw [h1]
        simp only [Option.bind_some, h2]
        cases v' <;> rfl
      simp only [hy]
      cases h3 <;> simp at hok ⊢ <;> first | exact hok | (subst hok; rfl)

/-- A result's value and heap. -/
def ResIs (call : CallF) (h : H) (r : Res) (v : V) (h' : H) : Prop :=
  match r with
  | .val u => v = u ∧ h' = h
  | .new b f => v = f h.nx ∧ h' = ⟨h.t.set h.nx b, h.nx + 1⟩
  | .upd u h1 => v = u ∧ h' = h1
  | .call f az => call f az h = some (v, h')

/-- An operation that comes to a result with the evaluator's, in the walk of a region. -/
theorem oper_ok (s : St P base ρ n e h a w) (hts : TsOk P cx.ts) {call : CallF} (hcall : CallSound P base call) {ops : Array Oper} {Q : Exit → Act → World → Prop} {next : Act → World → Prop}
    (hd : DstOk n o.dst) {r : Res} (hev : evOp cx e h (rOp P o.op) = some r) {v : V} {h' : H}
    (hres : ResIs call h r v h')
    (hk : ∀ ρ' v' w', St P base ρ' n (Env.put e o.dst v) h' (a.put o.dst v') w' → Ext ρ h w ρ' h' w' → VRel ρ' v v' → next (a.put o.dst v') w') : o.wp P a w next Q := by
  have hok := evOp_ok (o := o) s hts hev
  unfold Oper.wp
  cases r with
  | val u =>
    obtain ⟨rfl, rfl⟩ := hres
    obtain ⟨v', h1, h2⟩ := hok
    exact OpOk.val (K := fun v0 w0 => v0 = v' ∧ w0 = w) h1 ⟨rfl, rfl⟩ next Q fun v0 w0 ⟨hv, hw⟩ => by subst hv; subst hw; exact hk ρ _ _ (s.put hd h2) (Ext.refl ρ _ _) h2
  | new b f =>
    obtain ⟨rfl, rfl⟩ := hres
    obtain ⟨ent, obj, h1, h2, h3⟩ := hok
    have hi0 : ρ h.nx = none := by
      cases hq : ρ h.nx with
      | none => rfl
      | some e => exact absurd (s.rel.dom _ _ hq) (Nat.lt_irrefl _)
    obtain ⟨h4, v', h5, h6⟩ := h3 h.nx hi0
    obtain ⟨q1, q2⟩ := s.rel.alloc (i := h.nx) (nx' := h.nx + 1) hi0 (by omega) (by omega) h1 h2 h4
    have hx := q2 (Nat.le_refl _)
    exact OpOk.val (K := fun v0 w0 => v0 = v' ∧ w0 = w.alloc obj) h6 ⟨rfl, rfl⟩ next Q fun v0 w0 ⟨hv, hw⟩ => by subst hv; subst hw; exact hk _ _ _ ((s.mono q1 hx).put hd h5) hx h5
  | upd u h1 =>
    obtain ⟨rfl, rfl⟩ := hres
    exact hok next Q fun v0 w0 ⟨ρ', r1, r2, r3⟩ => hk ρ' v0 w0 ((s.mono r1 r2).put hd r3) r2 r3
  | call f az =>
    obtain ⟨az', h1, h2⟩ := hok
    rw [h2]
    exact hcall f az h v h' hres ρ w az' s.pins s.rel h1 o a next Q fun v0 w0 ⟨ρ', r1, r2, r3⟩ => hk ρ' v0 w0 ((s.mono r1 r2).put hd r3) r2 r3

theorem region_ok {call : CallF} (hts : TsOk P cx.ts) (hcall : CallSound P base call) {ops : Array Oper} {Q : Exit → Act → World → Prop} : ∀ (l : List Oper) (i : Nat) (rl : List ROp) (ρ : Rho) (e : Env) (h : H) (a : Act) (w : World) (e' : Env) (h' : H),
    ops.toList.drop i = l → rOpers P ops l = some rl → (rl.all fun o => match o.d with | none => true | some d => Nat.blt d n) = true → evOps cx call rl e h = some (e', h') → St P base ρ n e h a w → a.defers = [] →
    (∀ ρ' a' w', St P base ρ' n e' h' a' w' → Ext ρ h w ρ' h' w' → a'.defers = [] → Q .normal a' w') → wpOps P ops Q (List.range' i l.length) a w := by
  intro l
  induction l with
  | nil =>
    intro i rl ρ e h a w e' h' hl hr hd hev s hdef hq
    simp only [rOpers, Option.some.injEq] at hr
    subst hr
    simp only [evOps, Option.some.injEq, Prod.mk.injEq] at hev
    obtain ⟨rfl, rfl⟩ := hev
    exact hq ρ a w s (Ext.refl _ _ _) hdef
  | cons o l ih =>
    intro i rl ρ e h a w e' h' hl hr hd hev s hdef hq
    simp only [rOpers, Option.bind_eq_some_iff, Option.map_eq_some_iff] at hr
    obtain ⟨g, h1, rl', h2, rfl⟩ := hr
    simp only [List.all_cons, Bool.and_eq_true] at hd
    obtain ⟨hd1, hd2⟩ := hd
    have hdst : DstOk n o.dst := by
      intro d hdd
      rw [hdd] at hd1
      exact nblt hd1
    have hoi : ops[i]? = some o := by
      have : (ops.toList.drop i)[0]? = some o := by rw [hl]; rfl
      rw [List.getElem?_drop] at this
      simpa using this
    have hl' : ops.toList.drop (i + 1) = l := by
      rw [← List.drop_drop, hl]
      rfl
    simp only [List.length_cons, List.range'_succ, wpOps, hoi]
    simp only [evOps] at hev
    cases hg : guardOk e g with
    | none => rw [hg] at hev; simp at hev
    | some b =>
      rw [hg] at hev
      rw [guard_wanted s h1 hg]
      cases b with
      | false =>
        simp only [Bool.false_eq_true, if_false]
        have s' := s.put hdst (VRel.tup' (.nil ρ) : VRel ρ unit undef)
        exact ih (i + 1) rl' ρ _ h _ w e' h' hl' h2 hd2 hev s' (by rw [put_defers]; exact hdef) hq
      | true =>
        simp only [if_true]
        left
        have go : ∀ {r : Res} {v : V} {h1' : H}, evOp cx e h (rOp P o.op) = some r → ResIs call h r v h1' → evOps cx call rl' (Env.put e o.dst v) h1' = some (e', h') → o.wp P a w (wpOps P ops Q (List.range' (i + 1) l.length)) Q := by
          intro r v h1' hr1 hr2 hev'
          refine oper_ok s hts hcall (ops := ops) hdst hr1 hr2 fun ρ' v' w' s' hx hv => ?_
          exact ih (i + 1) rl' ρ' _ h1' _ w' e' h' hl' h2 hd2 hev' s' (by rw [put_defers]; exact hdef) fun ρ2 a2 w2 s2 x2 d2 => hq ρ2 a2 w2 s2 (hx.trans x2) d2
        cases hop : evOp cx e h (rOp P o.op) with
        | none => rw [hop] at hev; simp at hev
        | some r =>
          rw [hop] at hev
          cases r with
          | val u => exact go hop ⟨rfl, rfl⟩ hev
          | new b f => exact go hop ⟨rfl, rfl⟩ hev
          | upd u h1' => exact go hop ⟨rfl, rfl⟩ hev
          | call f az =>
            simp only at hev
            cases hc : call f az h with
            | none => rw [hc] at hev; simp at hev
            | some p =>
              obtain ⟨v, h1'⟩ := p
              rw [hc] at hev
              exact go hop hc hev

/-- A region that draws its order: whatever the order, it comes to what the evaluator says. -/
def DrwSound (P : Program) (base : Nat) (cx : Cx) (call : CallF) : Prop :=
  ∀ (n : Nat) (id : Nat) (ops : Array Oper) (rl : List ROp) (chk : List (Nat × Nat)), rCode P (.region id ops true) = .drw rl chk → (RCode.drw rl chk).dstOk n = true →
    ∀ e h e' h' l, evDrw cx call h.nx rl 0 e ⟨h.t, h.nx + rl.length⟩ [] = some (e', h', l) → chkAll cx h.nx rl l chk = true →
      ∀ ρ a w (Q : Exit → Act → World → Prop), St P base ρ n e h a w → a.defers = [] → (∀ ρ' a' w', St P base ρ' n e' h' a' w' → Ext ρ h w ρ' h' w' → a'.defers = [] → Q .normal a' w') → (Code.region id ops true).wp P Q a w

def Ex.exit' : Ex → Exit
  | .nrm => .normal
  | .exit id => .exit id
  | .ret => .ret

theorem rCode_drw (P : Program) (id : Nat) (ops : Array Oper) : rCode P (.region id ops true) = .bad ∨ ∃ rl chk, rCode P (.region id ops true) = .drw rl chk := by
  simp only [rCode]
  split
  · exact Or.inl rfl
  · simp only [if_true]
    split
    · exact Or.inr ⟨_, _, rfl⟩
    · exact Or.inl rfl

theorem code_ok {call : CallF} (hts : TsOk P cx.ts) (hcall : CallSound P base call) (hdrw : DrwSound P base cx call) (fuel : Nat) : ∀ (c : Code) (ρ : Rho) (e : Env) (h : H) (a : Act) (w : World) (x : Ex) (e' : Env) (h' : H) (Q : Exit → Act → World → Prop),
    (rCode P c).dstOk n = true → evCode cx call fuel (rCode P c) e h = some (x, e', h') → St P base ρ n e h a w → a.defers = [] →
    (∀ ρ' a' w', St P base ρ' n e' h' a' w' → Ext ρ h w ρ' h' w' → a'.defers = [] → Q x.exit' a' w') → c.wp P Q a w := by
  intro c
  induction c with
  | skip =>
    intro ρ e h a w x e' h' Q hd hev s hdef hq
    simp only [rCode, evCode, Option.some.injEq, Prod.mk.injEq] at hev
    obtain ⟨rfl, rfl, rfl⟩ := hev
    exact wp_skip (hq ρ a w s (Ext.refl _ _ _) hdef)
  | region id ops draw =>
    intro ρ e h a w x e' h' Q hd hev s hdef hq
    cases draw with
    | false =>
      simp only [rCode] at hd hev
      cases hr : rOpers P ops ops.toList with
      | none => rw [hr] at hev; simp [evCode] at hev
      | some rl =>
        rw [hr] at hev hd
        simp only [Bool.false_eq_true, if_false, evCode, RCode.dstOk] at hev hd
        cases ho : evOps cx call rl e h with
        | none => rw [ho] at hev; simp at hev
        | some p =>
          obtain ⟨e1, h1⟩ := p
          rw [ho] at hev
          simp only [Option.some.injEq, Prod.mk.injEq] at hev
          obtain ⟨rfl, rfl, rfl⟩ := hev
          refine wp_region ?_
          have := region_ok (n := n) (Q := Q) hts hcall (ops := ops) ops.toList 0 rl ρ e h a w e1 h1 (by simp) hr hd ho s hdef hq
          rw [List.range_eq_range']
          simpa using this
    | true =>
      cases hr : rCode P (.region id ops true) with
      | drw rl chk =>
        rw [hr] at hev hd
        simp only [evCode] at hev
        cases ho : evDrw cx call h.nx rl 0 e ⟨h.t, h.nx + rl.length⟩ [] with
        | none => rw [ho] at hev; simp at hev
        | some p =>
          obtain ⟨e1, h1, l⟩ := p
          rw [ho] at hev
          simp only at hev
          cases hc : chkAll cx h.nx rl l chk with
          | false => rw [hc] at hev; simp at hev
          | true =>
            rw [hc] at hev
            simp only [cond_true, Option.some.injEq, Prod.mk.injEq] at hev
            obtain ⟨rfl, rfl, rfl⟩ := hev
            exact hdrw n id ops rl chk hr hd e h e1 h1 l ho hc ρ a w Q s hdef hq
      | _ =>
        exfalso
        rcases rCode_drw P id ops with hb | ⟨rl, chk, hb⟩
        · rw [hb] at hev; simp [evCode] at hev
        · rw [hb] at hr; cases hr
  | seq c d ih1 ih2 =>
    intro ρ e h a w x e' h' Q hd hev s hdef hq
    simp only [rCode, evCode, RCode.dstOk, Bool.and_eq_true] at hev hd
    refine wp_seq ?_
    cases hc : evCode cx call fuel (rCode P c) e h with
    | none => rw [hc] at hev; simp at hev
    | some p =>
      obtain ⟨x1, e1, h1⟩ := p
      rw [hc] at hev
      cases x1 with
      | nrm =>
        simp only at hev
        refine ih1 ρ e h a w .nrm e1 h1 _ hd.1 hc s hdef fun ρ1 a1 w1 s1 y1 d1 => ?_
        exact ih2 ρ1 e1 h1 a1 w1 x e' h' Q hd.2 hev s1 d1 fun ρ2 a2 w2 s2 y2 d2 => hq ρ2 a2 w2 s2 (y1.trans y2) d2
      | exit id =>
        simp only [Option.some.injEq, Prod.mk.injEq] at hev
        obtain ⟨rfl, rfl, rfl⟩ := hev
        exact ih1 ρ e h a w _ _ _ _ hd.1 hc s hdef fun ρ1 a1 w1 s1 y1 d1 => hq ρ1 a1 w1 s1 y1 d1
      | ret =>
        simp only [Option.some.injEq, Prod.mk.injEq] at hev
        obtain ⟨rfl, rfl, rfl⟩ := hev
        exact ih1 ρ e h a w _ _ _ _ hd.1 hc s hdef fun ρ1 a1 w1 s1 y1 d1 => hq ρ1 a1 w1 s1 y1 d1
  | cond c u v ih1 ih2 =>
    intro ρ e h a w x e' h' Q hd hev s hdef hq
    simp only [rCode] at hd hev
    cases hx : rX P c with
    | none => rw [hx] at hev; simp [evCode] at hev
    | some y =>
      rw [hx] at hev hd
      simp only [evCode, RCode.dstOk, Bool.and_eq_true] at hev hd
      cases hv : y.ev e with
      | none => rw [hv] at hev; simp at hev
      | some b =>
        rw [hv] at hev
        have hb := s.x hx hv
        cases b with
        | bool b =>
          have hb := vrel_bool hb
          cases b with
          | true => exact wp_cond_true hb (ih1 ρ e h a w x e' h' Q hd.1 hev s hdef hq)
          | false => exact wp_cond_false hb (ih2 ρ e h a w x e' h' Q hd.2 hev s hdef hq)
        | _ => simp at hev
  | block id c ih =>
    intro ρ e h a w x e' h' Q hd hev s hdef hq
    simp only [rCode, evCode, RCode.dstOk] at hev hd
    refine wp_block ?_
    cases hc : evCode cx call fuel (rCode P c) e h with
    | none => rw [hc] at hev; simp at hev
    | some p =>
      obtain ⟨x1, e1, h1⟩ := p
      rw [hc] at hev
      cases x1 with
      | nrm =>
        simp only [Option.some.injEq, Prod.mk.injEq] at hev
        obtain ⟨rfl, rfl, rfl⟩ := hev
        exact ih ρ e h a w _ _ _ _ hd hc s hdef fun ρ1 a1 w1 s1 y1 d1 => hq ρ1 a1 w1 s1 y1 d1
      | ret =>
        simp only [Option.some.injEq, Prod.mk.injEq] at hev
        obtain ⟨rfl, rfl, rfl⟩ := hev
        exact ih ρ e h a w _ _ _ _ hd hc s hdef fun ρ1 a1 w1 s1 y1 d1 => hq ρ1 a1 w1 s1 y1 d1
      | exit id' =>
        simp only at hev
        cases hb : Nat.beq id id' with
        | true =>
          rw [hb] at hev
          simp only [cond_true, Option.some.injEq, Prod.mk.injEq] at hev
          obtain ⟨rfl, rfl, rfl⟩ := hev
          refine ih ρ e h a w _ _ _ _ hd hc s hdef fun ρ1 a1 w1 s1 y1 d1 => ?_
          simp only [Ex.exit', Exit.inBlock, (nbeq hb).symm, if_true]
          exact hq ρ1 a1 w1 s1 y1 d1
        | false =>
          rw [hb] at hev
          simp only [cond_false, Option.some.injEq, Prod.mk.injEq] at hev
          obtain ⟨rfl, rfl, rfl⟩ := hev
          refine ih ρ e h a w _ _ _ _ hd hc s hdef fun ρ1 a1 w1 s1 y1 d1 => ?_
          have hne : ¬ id' = id := fun hh => by rw [nbt hh.symm] at hb; cases hb
          simp only [Ex.exit', Exit.inBlock, if_neg hne]
          exact hq ρ1 a1 w1 s1 y1 d1
  | loop c ih =>
    intro ρ e h a w x e' h' Q hd hev s hdef hq
    simp only [rCode, evCode, RCode.dstOk] at hev hd
    refine wp_loop_rounds fuel ?_
    have key : ∀ (m : Nat) (ρ : Rho) (e : Env) (h : H) (a : Act) (w : World), loopN (evCode cx call fuel (rCode P c)) m e h = some (x, e', h') → St P base ρ n e h a w → a.defers = [] →
        (∀ ρ' a' w', St P base ρ' n e' h' a' w' → Ext ρ h w ρ' h' w' → a'.defers = [] → Q x.exit' a' w') → Code.rounds P c Q m a w := by
      intro m
      induction m with
      | zero => intro ρ e h a w hl; simp [loopN] at hl
      | succ m ihm =>
        intro ρ e h a w hl s hdef hq
        simp only [loopN] at hl
        rw [rounds_succ]
        cases hc : evCode cx call fuel (rCode P c) e h with
        | none => rw [hc] at hl; simp at hl
        | some p =>
          obtain ⟨x1, e1, h1⟩ := p
          rw [hc] at hl
          cases x1 with
          | nrm =>
            simp only at hl
            refine ih ρ e h a w _ _ _ _ hd hc s hdef fun ρ1 a1 w1 s1 y1 d1 => ?_
            exact ihm ρ1 e1 h1 a1 w1 hl s1 d1 fun ρ2 a2 w2 s2 y2 d2 => hq ρ2 a2 w2 s2 (y1.trans y2) d2
          | ret =>
            simp only [Option.some.injEq, Prod.mk.injEq] at hl
            obtain ⟨rfl, rfl, rfl⟩ := hl
            exact ih ρ e h a w _ _ _ _ hd hc s hdef fun ρ1 a1 w1 s1 y1 d1 => hq ρ1 a1 w1 s1 y1 d1
          | exit id =>
            simp only [Option.some.injEq, Prod.mk.injEq] at hl
            obtain ⟨rfl, rfl, rfl⟩ := hl
            exact ih ρ e h a w _ _ _ _ hd hc s hdef fun ρ1 a1 w1 s1 y1 d1 => hq ρ1 a1 w1 s1 y1 d1
    exact key fuel ρ e h a w hev s hdef hq
  | exit id =>
    intro ρ e h a w x e' h' Q hd hev s hdef hq
    simp only [rCode, evCode, Option.some.injEq, Prod.mk.injEq] at hev
    obtain ⟨rfl, rfl, rfl⟩ := hev
    exact wp_exit (hq ρ a w s (Ext.refl _ _ _) hdef)
  | ret =>
    intro ρ e h a w x e' h' Q hd hev s hdef hq
    simp only [rCode, evCode, Option.some.injEq, Prod.mk.injEq] at hev
    obtain ⟨rfl, rfl, rfl⟩ := hev
    exact wp_ret (hq ρ a w s (Ext.refl _ _ _) hdef)
  | label l =>
    intro ρ e h a w x e' h' Q hd hev s hdef hq
    simp only [rCode, evCode, Option.some.injEq, Prod.mk.injEq] at hev
    obtain ⟨rfl, rfl, rfl⟩ := hev
    exact wp_label (hq ρ a w s (Ext.refl _ _ _) hdef)
  | rangeFunc f ps c d _ _ => intro ρ e h a w x e' h' Q hd hev; simp [rCode, evCode] at hev
  | scope c _ => intro ρ e h a w x e' h' Q hd hev; simp [rCode, evCode] at hev
  | goto l => intro ρ e h a w x e' h' Q hd hev; simp [rCode, evCode] at hev
  | refuse y => intro ρ e h a w x e' h' Q hd hev; simp [rCode, evCode] at hev
end
end Go.Ev
