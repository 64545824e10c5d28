import Derived.Test.YtolngjaihlggnaaGreatDoorEvResolve
import Derived.Test.YtolngjaihlggnaaGreatDoorEvRel
import Derived.Laws.Slices
/-! Each operation of the model comes to what the evaluator says. -/
namespace Go.Ev
set_option linter.unusedVariables false
set_option linter.unusedSimpArgs false
set_option linter.unusedSectionVars false
variable [Sig]

/-- The blocks that stand for themselves: the package-level variables, and the block of the types' handles. -/
def Pins (P : Program) (ρ : Rho) : Prop := ∀ g, g ≤ P.globals.size → ∃ e, ρ g = some e ∧ e.rb = g ∧ e.ro = 0
theorem Pins.mono {P : Program} {ρ ρ' : Rho} (h : Pins P ρ) (hr : Rle ρ ρ') : Pins P ρ' := fun g hg => let ⟨e, h1, h2⟩ := h g hg; ⟨e, hr _ _ h1, h2⟩

theorem ofS_rel (ρ : Rho) {v : Value} {x : V} (h : ofS v = some x) : VRel ρ x v := by
  unfold ofS at h
  split at h
  case h_1 => cases h; exact .bool _
  case h_2 => cases h; exact .int _ _
  case h_3 => cases h; exact .str _ _ rfl
  case h_4 => cases h; exact .nilp
  case h_5 => cases h; exact .nils
  case h_6 => cases h; exact .nilm
  case h_7 => cases h; exact .nilf
  case h_8 f a c =>
    split at h
    · rename_i hz
      cases h
      obtain ⟨h1, h2⟩ := hz
      have e1 : a = #[] := Array.eq_empty_of_size_eq_zero h1
      have e2 : c = #[] := Array.eq_empty_of_size_eq_zero h2
      subst e1; subst e2
      exact .fn f [] [] [] [] rfl rfl (fun i x y hx => by simp at hx) (fun i x y hx => by simp at hx)
    · cases h
  case h_9 => cases h; exact .nili
  case h_10 => cases h

theorem ofSs_rel (ρ : Rho) : ∀ {vs : List Value} {xs : List V}, ofSs vs = some xs → LRel ρ xs vs
  | [], xs, h => by cases h; exact .nil ρ
  | v :: vs, xs, h => by
    simp only [ofSs] at h
    cases h1 : ofS v with
    | none => simp [h1] at h
    | some x =>
      cases h2 : ofSs vs with
      | none => simp [h1, h2] at h
      | some ys => simp [h1, h2] at h; subst h; exact .cons (ofS_rel ρ h1) (ofSs_rel ρ h2)

theorem ofV_rel (ρ : Rho) {v : Value} {x : V} (h : ofV v = some x) : VRel ρ x v := by
  unfold ofV at h
  split at h
  · rename_i cs
    cases h1 : ofSs cs.toList with
    | none => simp [h1] at h
    | some ys => simp [h1] at h; subst h; exact .agg' (ofSs_rel ρ h1)
  · rename_i cs
    cases h1 : ofSs cs.toList with
    | none => simp [h1] at h
    | some ys => simp [h1] at h; subst h; exact .tup' (ofSs_rel ρ h1)
  · exact ofS_rel ρ h

/-- The state: the pinned blocks, the frame, the memory. -/
structure St (P : Program) (base : Nat) (ρ : Rho) (n : Nat) (e : Env) (h : H) (a : Act) (w : World) : Prop where
  pins : Pins P ρ
  env : EnvRel ρ n e a.tmps
  rel : Rel base ρ h w

section
variable {P : Program} {base : Nat} {ρ : Rho} {n : Nat} {e : Env} {h : H} {a : Act} {w : World}

theorem St.x (s : St P base ρ n e h a w) {x : Operand} {y : X} (hx : rX P x = some y) {v : V} (hv : y.ev e = some v) : VRel ρ v (a.eval x) := by
  cases x with
  | tmp t =>
    simp only [rX] at hx; cases hx
    obtain ⟨v', h1, h2⟩ := s.env.2 t v hv
    simp only [Act.eval, Array.getD_eq_getD_getElem?, h1, Option.getD_some]
    exact h2
  | const c =>
    simp only [rX] at hx
    cases h1 : ofV c with
    | none => simp [h1] at hx
    | some z =>
      simp [h1] at hx; subst hx
      simp only [X.ev] at hv; cases hv
      exact ofV_rel ρ h1
  | global g =>
    simp only [rX] at hx
    split at hx
    · rename_i hlt
      cases hx
      simp only [X.ev] at hv; cases hv
      obtain ⟨e', h1, h2, h3⟩ := s.pins g (Nat.le_of_lt hlt)
      have := VRel.ptr (ρ := ρ) g 0 e' h1
      rw [h2, h3] at this
      exact this
    · cases hx
  | func f =>
    simp only [rX] at hx; cases hx
    simp only [X.ev] at hv; cases hv
    exact .fn f [] [] [] [] rfl rfl (fun i x y hx => by simp at hx) (fun i x y hx => by simp at hx)

theorem St.xs (s : St P base ρ n e h a w) : ∀ {xs : List Operand} {ys : List X}, rXs P xs = some ys → ∀ {vs : List V}, evs e ys = some vs → LRel ρ vs (xs.map a.eval)
  | [], ys, hx, vs, hv => by cases hx; cases hv; exact .nil ρ
  | x :: xs, ys, hx, vs, hv => by
    simp only [rXs, Option.bind_eq_some_iff] at hx
    obtain ⟨y, h1, zs, h2, h3⟩ := hx
    cases h3
    simp only [evs, Option.bind_eq_some_iff] at hv
    obtain ⟨v, h4, us, h5, h6⟩ := hv
    cases h6
    exact .cons (s.x h1 h4) (s.xs h2 h5)

/-- What an operation has come to, behind the model's own dispatch. -/
def OpOk (P : Program) (o : Oper) (a : Act) (w : World) (K : Value → World → Prop) : Prop :=
  ∀ (next : Act → World → Prop) (Q : Exit → Act → World → Prop), (∀ v w', K v w' → next (a.put o.dst v) w') → o.upon P a next Q ((execOp a.eval o).run P w)

theorem OpOk.val {o : Oper} {K : Value → World → Prop} {v : Value} {w' : World} (hr : (execOp a.eval o).run P w = .ok (.value v) w') (hk : K v w') : OpOk P o a w K :=
  fun next Q h => by rw [hr]; exact h _ _ hk
theorem OpOk.skip {o : Oper} {K : Value → World → Prop} {w' : World} (hr : (execOp a.eval o).run P w = .ok .skip w') (hk : K undef w') : OpOk P o a w K :=
  fun next Q h => by rw [hr]; exact h _ _ hk

def ResOk (P : Program) (base : Nat) (ρ : Rho) (h : H) (o : Oper) (a : Act) (w : World) : Res → Prop
  | .val v => ∃ v', (execOp a.eval o).run P w = .ok (.value v') w ∧ VRel ρ v v'
  | .new b f => ∃ (ent : Ent) (obj : Obj), ent.rb = w.heap.size ∧ (∀ x, (w.alloc obj).frozen? x = w.frozen? x) ∧ ∀ i, ρ i = none →
      BRel base (ρ.add i ent) (w.alloc obj) ent b ∧ ∃ v', VRel (ρ.add i ent) (f i) v' ∧ (execOp a.eval o).run P w = .ok (.value v') (w.alloc obj)
  | .upd v h' => OpOk P o a w fun v' w' => ∃ ρ', Rel base ρ' h' w' ∧ Ext ρ h w ρ' h' w' ∧ VRel ρ' v v'
  | .call f args => ∃ args', LRel ρ args args' ∧ (execOp a.eval o).run P w = (callFunc f args'.toArray).run P w

theorem run_und {t : TypeId} {d : TypeDesc} (h : P.underlying t = some d) (w : World) : (underlying t).run P w = .ok d w := run_underlying h w
theorem run_tinfo {t : TypeId} {i : TypeInfo} (h : P.info? t = some i) (w : World) : (typeInfo t).run P w = .ok i w := by
  simp [typeInfo, h]
theorem run_size {t : TypeId} {n : Nat} (h : tSize P t = some n) (w : World) : (sizeOf t).run P w = .ok n w := by
  simp only [tSize, Option.map_eq_some_iff] at h
  obtain ⟨i, h1, rfl⟩ := h
  simp [Go.sizeOf, run_tinfo h1]
theorem run_agg {t : TypeId} {b : Bool} (h : tAgg P t = some b) (w : World) : (isAgg t).run P w = .ok b w := by
  simp only [tAgg, Option.map_eq_some_iff] at h
  obtain ⟨d, h1, h2⟩ := h
  subst h2
  simp only [isAgg, Sem.run_bind, run_und h1, Result.andThen_ok]
  cases d <;> rfl
theorem run_zero {t : TypeId} {z : V} (h : tZero P t = some z) (w : World) : ∃ z', (zeroValue t).run P w = .ok z' w ∧ (P.info? t).bind (·.zero) = some z' ∧ ∀ ρ, VRel ρ z z' := by
  simp only [tZero, Option.bind_eq_some_iff] at h
  obtain ⟨z', ⟨i, h1, h2⟩, h3⟩ := h
  refine ⟨z', ?_, by simp [h1, h2], fun ρ => ofV_rel ρ h3⟩
  simp [zeroValue, run_tinfo h1, h2]

/-! ### Loads and stores -/

theorem Rel.load1 (hR : Rel base ρ h w) {b o : Nat} {ent : Ent} (he : ρ b = some ent) {v : V} (hl : h.ld1 b o = some v) : ∃ v', w.cell? ⟨ent.rb, ent.ro + o, none⟩ = some v' ∧ VRel ρ v v' := by
  simp only [H.ld1, H.cells] at hl
  cases hb : h.get b with
  | none => simp [hb] at hl
  | some blk =>
    cases blk with
    | cells cs ro =>
      simp [hb] at hl
      obtain ⟨c, ty, fr, h1, h2, h3, h4⟩ := hR.blk b _ ent hb he
      obtain ⟨v', h5, h6⟩ := h3.get hl
      exact ⟨v', by simpa [World.cell?, h1] using h5, h6⟩
    | map es => simp [hb] at hl
    | dead => simp [hb] at hl

theorem Rel.loadA (hR : Rel base ρ h w) {b o k : Nat} {ent : Ent} (he : ρ b = some ent) {cs : List V} (hl : h.ldA b o k = some cs) :
    ∃ ds : List Value, (loadCells ⟨ent.rb, ent.ro + o, none⟩ k).run P w = .ok ds.toArray w ∧ LRel ρ cs ds := by
  simp only [H.ldA, H.cells] at hl
  cases hb : h.get b with
  | none => simp [hb] at hl
  | some blk =>
    cases blk with
    | cells c0 ro =>
      simp only [hb, Option.bind_some] at hl
      cases hle : Nat.ble (o + k) c0.length with
      | false => rw [hle] at hl; simp at hl
      | true =>
        rw [hle] at hl
        simp only [cond_true, Option.some.injEq] at hl
        have hle := nble hle
        obtain ⟨c, ty, fr, h1, h2, h3, h4⟩ := hR.blk b _ ent hb he
        have hlr := (h3.2.drop o).take k
        rw [hl] at hlr
        have hlen : (List.take k (List.drop o (List.take c0.length (List.drop ent.ro c.toList)))).length = k := by
          have := h3.1
          simp at this ⊢
          omega
        refine ⟨_, ?_, hlr⟩
        conv => lhs; rw [← hlen]
        refine run_loadCells_list w _ _ fun j v hj => ?_
        have hj' : j < k := by have := (List.getElem?_eq_some_iff.1 hj).1; omega
        rw [List.getElem?_take, if_pos hj', List.getElem?_drop, List.getElem?_take, if_pos (by omega), List.getElem?_drop] at hj
        have hadd : (⟨ent.rb, ent.ro + o, none⟩ : Addr).add j = ⟨ent.rb, ent.ro + (o + j), none⟩ := by unfold Addr.add; split <;> simp_all <;> omega
        rw [hadd]
        simpa [World.cell?, h1] using hj
    | map es => simp [hb] at hl
    | dead => simp [hb] at hl

theorem Rel.storeA (hR : Rel base ρ h w) {b o : Nat} {ent : Ent} (he : ρ b = some ent) {vs : List V} {vs' : List Value} (hv : LRel ρ vs vs') {h' : H} (hs : h.stA b o vs = some h') :
    ∃ w', (storeCells ⟨ent.rb, ent.ro + o, none⟩ vs').run P w = .ok () w' ∧ Rel base ρ h' w' ∧ Ext ρ h w ρ h' w' := by
  simp only [H.stA] at hs
  cases hb : h.get b with
  | none => simp [hb] at hs
  | some blk =>
    cases blk with
    | cells cs ro =>
      cases ro with
      | true => simp [hb] at hs
      | false =>
        simp only [hb] at hs
        cases hle : (Nat.ble (o + vs.length) cs.length && ones vs) with
        | false => rw [hle] at hs; simp at hs
        | true =>
          rw [hle] at hs
          simp only [cond_true, Option.some.injEq] at hs
          rw [Bool.and_eq_true] at hle
          obtain ⟨hle, hone⟩ := hle
          have hle := nble hle
          obtain ⟨c, ty, fr, h1, h2, h3, h4, _⟩ := hR.blk b _ ent hb he
          obtain ⟨h5, h6⟩ := h4 rfl
          subst h5
          have hl3 := h3.1
          simp only [Array.length_toList] at hl3
          have hvl := hv.1
          have hrun := run_storeCells_at (P := P) ent.rb (ent.ro + o) ty vs' 0 c w h1 (by omega) (hv.ones hone)
          refine ⟨_, hrun, ?_⟩
          rw [← hs]
          refine hR.setRow hb he h1 ?_ ⟨?_, ?_⟩
          · simp; omega
          · simp [splice]; omega
          · have hsp : (splice cs o vs).length = cs.length := by simp [splice]; omega
            rw [hsp]
            have := h3.2.splice hv o
            refine cast (congrArg (LRel ρ (splice cs o vs)) ?_) this
            apply List.ext_getElem?
            intro i
            simp only [Nat.add_zero, List.getElem?_append, List.getElem?_take, List.getElem?_drop, List.length_append, List.length_take, List.length_drop, Array.length_toList]
            grind
    | map es => simp [hb] at hs
    | dead => simp [hb] at hs
end
end Go.Ev
