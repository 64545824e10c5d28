import Derived.Test.YtolngjaihlggnaaGreatDoorEvOpB
import Derived.IntWalk
/-! The operations, one by one: literals, new slices, slices of slices, numbers. -/
namespace Go.Ev
set_option linter.unusedVariables false
set_option linter.unusedSimpArgs false
set_option linter.unusedSectionVars false
variable [Sig]
section
variable {P : Program} {base : Nat} {ρ : Rho} {n : Nat} {e : Env} {h : H} {a : Act} {w : World} {cx : Cx} {o : Oper} {r : RO} {res : Res}

/-! ### Literals -/

theorem foldl_setIfInBounds (off : Nat) : ∀ (vs : List Value) (j : Nat) (cs : Array Value), off + j + vs.length ≤ cs.size →
    ((vs.zipIdx j).foldl (fun cs (x : Value × Nat) => cs.setIfInBounds (off + x.2) x.1) cs).toList = cs.toList.take (off + j) ++ vs ++ cs.toList.drop (off + j + vs.length)
  | [], j, cs, _ => by simp
  | v :: vs, j, cs, hl => by
    simp only [List.zipIdx_cons, List.foldl_cons]
    rw [foldl_setIfInBounds off vs (j + 1) _ (by simp at hl ⊢; omega)]
    simp only [Array.toList_setIfInBounds]
    apply List.ext_getElem?
    intro i
    simp only [List.length_cons] at hl
    simp only [List.getElem?_append, List.getElem?_take, List.getElem?_drop, List.length_append, List.length_take, List.length_drop, List.length_set, Array.length_toList, List.getElem?_set, List.length_cons, List.getElem?_cons]
    grind

theorem fill_step (cells : Array Value) (off : Nat) (vs : Array Value) (hl : off + vs.size ≤ cells.size) :
    (vs.zipIdx.foldl (fun cs (x : Value × Nat) => cs.setIfInBounds (off + x.2) x.1) cells) = ⟨cells.toList.take off ++ vs.toList ++ cells.toList.drop (off + vs.toList.length)⟩ := by
  have := foldl_setIfInBounds off vs.toList 0 cells (by simpa using hl)
  apply Array.ext'
  rw [← Array.foldl_toList, Array.toList_zipIdx, this]
  simp

theorem fill_rel (s : St P base ρ n e h a w) {places : Nat → Option (Nat × Nat)} : ∀ {ps : List (Nat × Operand)} {l : List (Nat × Nat × X)}, rParts P places ps = some l → ∀ {m : List (Nat × Nat × V)}, evps e l = some m →
    ∀ {cs cs' : List V} {ds : List Value}, LRel ρ cs ds → fillP cs m = some cs' → ∃ ds', Instr.fill places ⟨ds⟩ (ps.map fun (i, x) => (i, a.eval x)) = some ⟨ds'⟩ ∧ LRel ρ cs' ds'
  | [], l, hp, m, hm, cs, cs', ds, hl, hf => by
    cases hp; cases hm
    simp only [fillP, Option.some.injEq] at hf
    subst hf
    exact ⟨ds, rfl, hl⟩
  | (i, x) :: ps, l, hp, m, hm, cs, cs', ds, hl, hf => by
    simp only [rParts, Option.bind_eq_some_iff] at hp
    obtain ⟨⟨off, sz⟩, h1, y, h2, r', h3, h4⟩ := hp
    cases h4
    simp only [evps, Option.bind_eq_some_iff] at hm
    obtain ⟨v, h5, vs, h6, h7⟩ := hm
    cases h7
    simp only [fillP] at hf
    cases hc : (Nat.beq v.cells.length sz && Nat.ble (off + v.cells.length) cs.length) with
    | false => rw [hc] at hf; simp at hf
    | true =>
      rw [hc] at hf
      simp only [cond_true] at hf
      rw [Bool.and_eq_true] at hc
      have hb1 := nbeq hc.1
      have hb2 := nble hc.2
      have hv := (s.x h2 h5).cells
      have hsp := hl.splice hv off
      obtain ⟨ds', h8, h9⟩ := fill_rel s h3 h6 hsp hf
      refine ⟨ds', ?_, h9⟩
      have e1 : (a.eval x).cells.size = sz := by rw [← hb1, hv.1]; simp
      have e2 : ¬ (off + (a.eval x).cells.size > (⟨ds⟩ : Array Value).size) := by
        have := hv.1
        have := hl.1
        simp at *
        omega
      have e3 : ((a.eval x).cells.size != sz || decide (off + (a.eval x).cells.size > (⟨ds⟩ : Array Value).size)) = false := by simp [e1] at e2 ⊢; exact e2
      simp only [List.map_cons, Instr.fill, h1]
      rw [fill_step _ _ _ (by omega), e1] 
      have e4 : ¬ (off + sz > (⟨ds⟩ : Array Value).size) := by rw [← e1]; exact e2
      rw [if_neg (by simp only [ne_eq, not_true_eq_false, decide_false, Bool.false_or, decide_eq_true_eq]; exact e4)]
      exact h8

theorem ok_build (s : St P base ρ n e h a w) {t : TypeId} {ps : Array (Nat × Operand)} (ho : o.op = .build t ps) (hr : rOp? P (.build t ps) = some r) (hev : evOp cx e h r = some res) : ResOk P base ρ h o a w res := by
  simp only [rOp?] at hr
  have key : ∀ {places : Nat → Option (Nat × Nat)} {z : V} {z' : Value} {l : List (Nat × Nat × X)}, (∀ ρ, VRel ρ z z') → rParts P places ps.toList = some l → r = .build z.cells l →
      (∀ cells, Instr.fill places z'.cells (ps.map fun (i, x) => (i, a.eval x)).toList = some cells → P.built t (ps.map fun (i, x) => (i, a.eval x)).toList = some cells) → ResOk P base ρ h o a w res := by
    intro places z z' l hz hl hrr hb
    subst hrr
    simp only [evOp, Option.bind_eq_some_iff, Option.map_eq_some_iff] at hev
    obtain ⟨m, h1, cs, h2, rfl⟩ := hev
    obtain ⟨ds', h3, h4⟩ := fill_rel s hl h1 (hz ρ).cells h2
    refine ⟨.agg ⟨ds'⟩, ?_, .agg' h4⟩
    have hb' := hb ⟨ds'⟩ (by rw [Array.toList_map]; exact h3)
    simp only [execOp, ho, Sem.run_bind, run_build w t _ _ hb', Result.andThen_ok, Sem.run_pure]
  cases hu : P.underlying t with
  | none => rw [hu] at hr; cases hr
  | some d =>
    rw [hu] at hr
    cases d <;> simp only [reduceCtorEq, Option.bind_eq_some_iff, Option.map_eq_some_iff] at hr
    case struct fs =>
      obtain ⟨z, h1, pl, h2, l, h3, h4⟩ := hr
      obtain ⟨z', _, h5, h6⟩ := run_zero h1 w
      simp only [Option.bind_eq_some_iff] at h5
      obtain ⟨it, h7, h8⟩ := h5
      refine key h6 h3 h4.symm fun cells hc => ?_
      simp only [Program.built, h7, hu, h8, h2]
      exact hc
    case array k el =>
      obtain ⟨z, h1, i, h2, l, h3, h4⟩ := hr
      obtain ⟨z', _, h5, h6⟩ := run_zero h1 w
      simp only [Option.bind_eq_some_iff] at h5
      obtain ⟨it, h7, h8⟩ := h5
      refine key h6 h3 h4.symm fun cells hc => ?_
      simp only [Program.built, h7, hu, h8, h2]
      exact hc

/-! ### Rows of zero values -/

theorem repZ_length (z : List V) : ∀ k, (repZ z k).length = k * z.length
  | 0 => by simp [repZ]
  | k + 1 => by simp [repZ, repZ_length z k, Nat.add_mul]; omega

theorem repZ_get (z : List V) : ∀ (k i : Nat), i < k * z.length → (repZ z k)[i]? = z[i % z.length]?
  | 0, i, hi => by simp at hi
  | k + 1, i, hi => by
    simp only [repZ]
    by_cases hl : i < z.length
    · rw [List.getElem?_append_left hl, Nat.mod_eq_of_lt hl]
    · rw [List.getElem?_append_right (by omega), repZ_get z k _ (by rw [Nat.add_mul] at hi; omega), ← Nat.mod_eq_sub_mod (by omega)]

theorem rep_rel {z : List V} {z' : Array Value} (hz : LRel ρ z z'.toList) (k : Nat) (m : Nat) (hm : m = k * z'.size) : LRel ρ (repZ z k) ((Array.range m).map fun i => z'[i % z'.size]!).toList := by
  subst hm
  have hsz : z.length = z'.size := by simpa using hz.1
  refine ⟨by rw [repZ_length, hsz]; simp, fun i x y hx hy => ?_⟩
  have hi : i < k * z.length := by have := (List.getElem?_eq_some_iff.1 hx).1; rwa [repZ_length] at this
  rw [repZ_get z k i hi] at hx
  have hi' : i < k * z'.size := hsz ▸ hi
  have hpos : 0 < z'.size := by
    rcases Nat.eq_zero_or_pos z'.size with h0 | h0
    · rw [h0] at hi'; simp at hi'
    · exact h0
  have hmod : i % z'.size < z'.size := Nat.mod_lt _ hpos
  rw [Array.getElem?_toList] at hy
  simp only [Array.getElem?_map, Array.getElem?_range, hi', if_true, Option.map_some, Option.some.injEq] at hy
  rw [hsz] at hx
  refine hz.2 _ x y hx ?_
  rw [Array.getElem?_toList, Array.getElem?_eq_getElem hmod, ← hy]
  congr 1
  rw [getElem!_pos z' _ hmod]

theorem ok_bsl (s : St P base ρ n e h a w) {t : TypeId} {len : Nat} {ps : Array (Nat × Operand)} (ho : o.op = .buildSlice t len ps) (hr : rOp? P (.buildSlice t len ps) = some r) (hev : evOp cx e h r = some res) : ResOk P base ρ h o a w res := by
  simp only [rOp?] at hr
  cases hu : P.underlying t with
  | none => rw [hu] at hr; cases hr
  | some d =>
    rw [hu] at hr
    cases d <;> simp only [reduceCtorEq, Option.bind_eq_some_iff] at hr
    rename_i el
    obtain ⟨i, h1, z, h2, h3⟩ := hr
    split at h3
    · rename_i hc
      obtain ⟨hc1, hc2, hc3, hc4⟩ := hc
      simp only [Option.map_eq_some_iff] at h3
      obtain ⟨l, h4, rfl⟩ := h3
      simp only [evOp, Option.bind_eq_some_iff] at hev
      obtain ⟨m, h5, cs, h6, h7⟩ := hev
      cases hone : ones cs with
      | false => rw [hone] at h7; simp at h7
      | true =>
        rw [hone] at h7
        simp only [cond_true, Option.some.injEq] at h7
        subst h7
        obtain ⟨z', _, h8, h9⟩ := run_zero h2 w
        simp only [h1, Option.bind_some] at h8
        by_cases hlen : len = 0
        · subst hlen
          have hps : ps = #[] := Array.eq_empty_of_size_eq_zero (hc4.resolve_left (by simp))
          subst hps
          simp only [rParts, Option.some.injEq] at h4
          subst h4
          simp only [evps, Option.some.injEq] at h5
          subst h5
          simp only [fillP, repZ, Option.some.injEq] at h6
          subst h6
          refine ⟨⟨w.heap.size, 0, 0⟩, .cells ⟨[]⟩ el, rfl, frozen_alloc_cells w _ _, fun j hj => ⟨brel_new base s.rel.sz (.nil ρ) el hj, _, .slc j 0 0 0 0 _ _ _ (Rho.add_same _ _ _) (.inl ⟨rfl, rfl, rfl⟩), ?_⟩⟩
          have hsz : tSize P el = some i.size := by simp [tSize, h1]
          simp [execOp, ho, Instr.buildSlice, run_und hu, run_size hsz, Instr.fill, newRow, show Array.range 0 = #[] from rfl]
        have hc4 := hlen
        have hzs : z'.cells.size = i.size := by have := (h9 ρ).cells.1; simp at this; omega
        have hrep := rep_rel (h9 ρ).cells len (len * i.size) (by rw [hzs])
        obtain ⟨ds', h10, h11⟩ := fill_rel s h4 h5 hrep h6
        refine ⟨⟨w.heap.size, 0, ds'.length⟩, .cells ⟨ds'⟩ el, rfl, frozen_alloc_cells w _ _, fun j hj => ⟨brel_new base s.rel.sz h11 el hj, _, .slc j 0 len len 0 _ _ _ (Rho.add_same _ _ _) (.inl ⟨rfl, rfl, rfl⟩), ?_⟩⟩
        have hb := run_buildSlice (P := P) w t el len (ps.map fun (i, x) => (i, a.eval x)) ⟨ds'⟩ i z' hu h1 h8 (by omega) (by
          intro h0
          rcases Nat.mul_eq_zero.1 h0 with h0 | h0
          · exact hc4 h0
          · exact hc3 h0) (by rw [Array.toList_map]; exact h10)
        simp only [execOp, ho, Sem.run_bind, hb, Result.andThen_ok, Sem.run_pure]
    · cases h3

theorem wrap_small {m : Nat} (hm : m ≤ 1000000000) : IntKind.i64.wrap (m : Int) = m := IntWalk.i64_in _ (by omega)

theorem ok_makeSlice (s : St P base ρ n e h a w) {t : TypeId} {x y : Operand} (ho : o.op = .makeSlice t x y) (hr : rOp? P (.makeSlice t x y) = some r) (hev : evOp cx e h r = some res) : ResOk P base ρ h o a w res := by
  simp only [rOp?] at hr
  cases hu : P.underlying t with
  | none => rw [hu] at hr; cases hr
  | some d =>
    rw [hu] at hr
    cases d <;> simp only [reduceCtorEq, Option.bind_eq_some_iff, Option.map_eq_some_iff] at hr
    rename_i el
    obtain ⟨z, h1, i, h2, x', h3, y', h4, rfl⟩ := hr
    simp only [evOp, Option.bind_eq_some_iff] at hev
    obtain ⟨lv, h5, cv, h6, l, h7, c, h8, h9⟩ := hev
    obtain ⟨lk, rfl⟩ := toNat?_some h7
    obtain ⟨ck, rfl⟩ := toNat?_some h8
    have hx := vrel_int (s.x h3 h5)
    have hy := vrel_int (s.x h4 h6)
    cases hc : (Nat.ble l c && Nat.ble c 1000000 && Nat.ble i.bytes 65536 && Nat.beq z.cells.length i.size && ones z.cells && Nat.ble 1 i.size) with
    | false => rw [hc] at h9; simp at h9
    | true =>
      rw [hc] at h9
      simp only [cond_true, Option.some.injEq] at h9
      subst h9
      simp only [Bool.and_eq_true] at hc
      obtain ⟨⟨⟨⟨⟨hc1, hc2⟩, hc3⟩, hc4⟩, hc5⟩, hc6⟩ := hc
      have hc1 := nble hc1
      have hc2 := nble hc2
      have hc3 := nble hc3
      have hc4 := nbeq hc4
      have hc6 := nble hc6
      obtain ⟨z', hz1, hz2, hz3⟩ := run_zero h1 w
      have hzs : z'.cells.size = i.size := by have := (hz3 ρ).cells.1; simp at this; omega
      have hsz : tSize P el = some i.size := by simp [tSize, h2]
      have hrep := rep_rel (hz3 ρ).cells c (c * i.size) (by rw [hzs])
      generalize hD : ((Array.range (c * i.size)).map fun j => z'.cells[j % z'.cells.size]!) = D at hrep
      refine ⟨⟨w.heap.size, 0, D.toList.length⟩, .cells ⟨D.toList⟩ el, rfl, frozen_alloc_cells w _ _, fun j hj => ⟨brel_new base s.rel.sz hrep el hj, _, .slc j 0 l c 0 _ _ _ (Rho.add_same _ _ _) (.inl ⟨rfl, rfl, rfl⟩), ?_⟩⟩
      have hb2 : (i.bytes : Int) * (c : Int) ≤ 65536000000 := by
        have h0 := Nat.mul_le_mul hc3 hc2
        rw [← Int.natCast_mul]
        generalize i.bytes * c = q at h0 ⊢
        omega
      have ht : (decide ((c : Int) < 0) || decide ((i.bytes : Int) * (c : Int) > 2 ^ 48) || decide ((l : Int) < 0) || decide ((l : Int) > (c : Int))) = false := by
        have t1 : ¬ ((c : Int) < 0) := by omega
        have t2 : ¬ ((i.bytes : Int) * (c : Int) > 2 ^ 48) := by
          have : (2 : Int) ^ 48 = 281474976710656 := by decide
          rw [this]; omega
        have t3 : ¬ ((l : Int) < 0) := by omega
        have t4 : ¬ ((l : Int) > (c : Int)) := by omega
        rw [decide_eq_false t1, decide_eq_false t2, decide_eq_false t3, decide_eq_false t4]
        rfl
      simp only [execOp, ho, Instr.makeSlice, hx, hy, Sem.run_bind, run_und hu, Result.andThen_ok, asInt, asIntOf, Sem.run_pure, run_tinfo h2, wrap_small (show l ≤ 1000000000 by omega), wrap_small (show c ≤ 1000000000 by omega), ht,
        Bool.false_eq_true, if_false, run_askRoom, run_size hsz, Int.toNat_natCast, newRow, run_newObj]
      by_cases hcz : c * i.size = 0
      · rw [if_pos hcz]
        have : D = #[] := by rw [← hD, hcz]; simp
        subst this
        have hz0 : ∀ f : Nat → Value, (Array.range 0).map f = #[] := fun f => by simp
        simp only [Sem.run_bind, Sem.run_pure, Result.andThen_ok, hcz, run_newObj, hz0]
        rfl
      · rw [if_neg hcz]
        simp only [Sem.run_bind, Sem.run_pure, Result.andThen_ok, hz1, run_newObj, hD]
        rfl
end
end Go.Ev
