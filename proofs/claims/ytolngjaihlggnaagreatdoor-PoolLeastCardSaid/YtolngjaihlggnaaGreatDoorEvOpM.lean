import Derived.Test.YtolngjaihlggnaaGreatDoorEvOpL
/-! The operations, one by one: appends, calls. -/
namespace Go.Ev
set_option linter.unusedVariables false
set_option linter.unusedSimpArgs false
set_option linter.unusedSectionVars false
variable [Sig]
section
variable {P : Program} {base : Nat} {ρ : Rho} {n : Nat} {e : Env} {h : H} {a : Act} {w : World} {cx : Cx} {o : Oper} {r : RO} {res : Res}

/-- What is appended: the elements of a slice, or zero values. -/
def AppArg (P : Program) (u el : TypeId) (k : Nat) (x' : Value) (m : Nat) (ds : List Value) (w : World) : Prop :=
  (∃ ul, P.underlying u = some (.slice ul) ∧ (Builtin.lenOf x').run P w = .ok m w ∧ (Builtin.firstCells k m x').run P w = .ok ⟨ds⟩ w ∧ (Builtin.firstCells k m x').run P w.drew = .ok ⟨ds⟩ w.drew) ∨
  (∃ uk q z', P.underlying u = some (.int uk) ∧ x' = .int q (m : Int) ∧ (∀ w, (zeroValue el).run P w = .ok z' w) ∧ ((m * k = 0 ∧ ds = []) ∨ (m * k ≠ 0 ∧ ds = (Builtin.zeroCells z'.cells m).toList)))

theorem append_run {t u el ty : TypeId} {i : TypeInfo} {z' : Value} (hu : P.underlying t = some (.slice el)) (hi : P.info? el = some i) (hz : ∀ w, (zeroValue el).run P w = .ok z' w) (hb : i.bytes ≤ 65536) (hzk : z'.cells.size = i.size)
    {bs : Option Addr} {sLen sCap : Nat} {x' : Value} {m : Nat} {ds : List Value} (hx : AppArg P u el i.size x' m ds w) (hm : sLen + m ≤ 1000000) :
    (sLen + m ≤ sCap → (Builtin.append_ #[t, u] ty #[.slice bs sLen sCap, x']).run P w =
      ((match bs with | some q => storeCells (q.add (sLen * i.size)) ds | none => pure ()).run P w).andThen fun _ w' => .ok (.slice bs (sLen + m) sCap) w') ∧
    (∀ old, ¬ sLen + m ≤ sCap → (Builtin.firstCells i.size sLen (.slice bs sLen sCap)).run P w.drew = .ok ⟨old⟩ w.drew → ∃ N rest, sLen + m ≤ N ∧ rest.length = (N - (sLen + m)) * i.size ∧
      (Builtin.append_ #[t, u] ty #[.slice bs sLen sCap, x']).run P w = .ok (.slice (some ⟨w.heap.size, 0, none⟩) (sLen + m) N) (w.drew.alloc (.cells ⟨old ++ ds ++ rest⟩ el))) := by
  have hsz : tSize P el = some i.size := by simp [tSize, hi]
  have h63 : IntKind.i64.max = 9223372036854775807 := by decide
  have hgt63 : ¬ ((sLen + m : Nat) : Int) > IntKind.i64.max := by rw [h63]; omega
  have hng : ∀ q : Prop, ¬ (((sLen + m : Nat) : Int) > IntKind.i64.max ∧ q) := fun q hq => hgt63 hq.1
  have hnc : ¬ sLen + m ≤ sCap → ¬ (Builtin.nextslicecap (sLen + m) sCap * i.bytes > 2 ^ 48) := by
    intro hgt
    have h1 := nextcap_le hm (Nat.lt_of_not_le hgt)
    have h2 := Nat.mul_le_mul h1 hb
    have h3 : (2 : Nat) ^ 48 = 281474976710656 := by decide
    rw [h3]
    generalize Builtin.nextslicecap (sLen + m) sCap * i.bytes = q at h2 ⊢
    omega
  have hcut : ∀ tt, sLen + m ≤ (Question.appendCap (sLen + m) sCap el).cut tt := fun tt => by simp only [Question.cut]; omega
  have hrest : ∀ N, (Builtin.zeroCells z'.cells (N - (sLen + m))).toList.length = (N - (sLen + m)) * i.size := fun N => by simp [Builtin.zeroCells, hzk]
  rcases hx with ⟨ul, hu', hl, hf1, hf2⟩ | ⟨uk, q, z2, hu', rfl, hz2, hds⟩
  · constructor
    · intro hle
      simp only [Builtin.append_, List.getElem?_toArray, List.getElem?_cons_zero, List.getElem?_cons_succ, Sem.run_bind, run_und hu, Result.andThen_ok, run_size hsz, run_und hu', Sem.run_pure, Bool.false_eq_true, if_false, hl, if_pos hle, Bool.not_false, if_true, hf1]
      cases bs <;> simp
    · intro old hgt hold
      refine ⟨(Question.appendCap (sLen + m) sCap el).cut (w.tape w.drawn (.appendCap (sLen + m) sCap el)), (Builtin.zeroCells z'.cells ((Question.appendCap (sLen + m) sCap el).cut (w.tape w.drawn (.appendCap (sLen + m) sCap el)) - (sLen + m))).toList, hcut _, hrest _, ?_⟩
      have hforce : (Question.appendCap (sLen + m) sCap el).forced = false := rfl
      simp only [Builtin.append_, List.getElem?_toArray, List.getElem?_cons_zero, List.getElem?_cons_succ, Sem.run_bind, run_und hu, Result.andThen_ok, run_size hsz, run_und hu', Sem.run_pure, Bool.false_eq_true, if_false, hl, if_neg hgt, if_neg (hng _), run_tinfo hi, if_neg (hnc hgt), run_choose, hforce, World.drew_eq, run_askRoom, hold, Bool.not_false, if_true, hf2, hz, newRow, run_newObj, World.alloc_eq, World.size_drew]
      congr 4
      apply Array.ext'
      simp
  · have hw : IntKind.i64.wrap (m : Int) = m := wrap_small (by omega)
    have hl0 : ¬ ((m : Int) < 0) := by omega
    have hl1 : ¬ ((m : Int) * (i.bytes : Int) > 2 ^ 48) := by
      have h0 := Nat.mul_le_mul (show m ≤ 1000000 by omega) hb
      have h3 : (2 : Int) ^ 48 = 281474976710656 := by decide
      rw [h3, ← Int.natCast_mul]
      generalize m * i.bytes = q at h0 ⊢
      omega
    have hz2' : ∀ w, (zeroValue el).run P w = .ok z2 w := hz2
    have hnew : ∀ w : World, ((if m * i.size = 0 then pure #[] else do pure (Builtin.zeroCells (← zeroValue el).cells m)) : Sem (Array Value)).run P w = .ok ⟨ds⟩ w := by
      intro w
      rcases hds with ⟨h1, rfl⟩ | ⟨h1, rfl⟩
      · rw [if_pos h1]; rfl
      · rw [if_neg h1]; simp [hz2]
    constructor
    · intro hle
      simp only [Builtin.append_, List.getElem?_toArray, List.getElem?_cons_zero, List.getElem?_cons_succ, Sem.run_bind, run_und hu, Result.andThen_ok, run_size hsz, run_und hu', Sem.run_pure, if_true, asInt, asIntOf, hw, if_neg hl0, run_tinfo hi, if_neg hl1, Int.toNat_natCast, if_pos hle, Bool.not_true, Bool.false_eq_true, if_false, hnew]
      cases bs <;> simp
    · intro old hgt hold
      refine ⟨(Question.appendCap (sLen + m) sCap el).cut (w.tape w.drawn (.appendCap (sLen + m) sCap el)), (Builtin.zeroCells z'.cells ((Question.appendCap (sLen + m) sCap el).cut (w.tape w.drawn (.appendCap (sLen + m) sCap el)) - (sLen + m))).toList, hcut _, hrest _, ?_⟩
      have hforce : (Question.appendCap (sLen + m) sCap el).forced = false := rfl
      simp only [Builtin.append_, List.getElem?_toArray, List.getElem?_cons_zero, List.getElem?_cons_succ, Sem.run_bind, run_und hu, Result.andThen_ok, run_size hsz, run_und hu', Sem.run_pure, if_true, asInt, asIntOf, hw, if_neg hl0, run_tinfo hi, if_neg hl1, Int.toNat_natCast, if_neg hgt, if_neg (hng _), if_neg (hnc hgt), run_choose, hforce, Bool.false_eq_true, if_false, World.drew_eq, run_askRoom, hold, Bool.not_true, hnew, hz, newRow, run_newObj, World.alloc_eq, World.size_drew]
      congr 4
      apply Array.ext'
      simp

/-- What an append comes to. -/
def AppOk (P : Program) (base : Nat) (ρ : Rho) (h : H) (w : World) (run : Result Value) : Res → Prop
  | .val v => ∃ v', run = .ok v' w ∧ VRel ρ v v'
  | .upd v h' => ∃ v' w' ρ', run = .ok v' w' ∧ Rel base ρ' h' w' ∧ Ext ρ h w ρ' h' w' ∧ VRel ρ' v v'
  | _ => False

theorem take_all {α : Type} {l : List α} {k : Nat} (h : l.length ≤ k) : l.take k = l := List.take_of_length_le h

theorem room_eq {α : Type} (c ds : List α) {e o' C X : Nat} (h1 : o' + X ≤ C) (h2 : e + C ≤ c.length) :
    List.take X (List.drop o' (List.take C (List.drop e c))) ++ ds = List.take (X + ds.length) (List.drop (e + o') (List.take (e + o' + X + 0) c ++ ds ++ List.drop (e + o' + X + 0 + ds.length) c)) := by
  apply List.ext_getElem?
  intro j
  simp only [Nat.add_zero, List.getElem?_append, List.getElem?_take, List.getElem?_drop, List.length_append, List.length_take, List.length_drop]
  grind

set_option maxHeartbeats 400000 in
theorem append_ok (hR : Rel base ρ h w) {t u el ty : TypeId} {i : TypeInfo} {z' : Value} (hu : P.underlying t = some (.slice el)) (hi : P.info? el = some i) (hz : ∀ w, (zeroValue el).run P w = .ok z' w) (hzk : z'.cells.size = i.size)
    {sv : V} {sv' x' : Value} (hs : VRel ρ sv sv') {m : Nat} {vs : List V} {ds : List Value} (hl : LRel ρ vs ds) (hlen : ds.length = m * i.size) (hx : AppArg P u el i.size x' m ds w) (hev : appendV h i.size i.bytes sv m vs = some res) :
    AppOk P base ρ h w ((Builtin.append_ #[t, u] ty #[sv', x']).run P w) res := by
  unfold appendV at hev
  cases hc : (!(Nat.ble i.bytes 65536 && Nat.ble m 1000000 && ones vs && Nat.ble 1 i.size)) with
  | true => rw [hc] at hev; simp at hev
  | false =>
    rw [hc] at hev
    simp only [cond_false] at hev
    have hc' : (Nat.ble i.bytes 65536 && Nat.ble m 1000000 && ones vs && Nat.ble 1 i.size) = true := by
      cases hq : (Nat.ble i.bytes 65536 && Nat.ble m 1000000 && ones vs && Nat.ble 1 i.size) with
      | true => rfl
      | false => rw [hq] at hc; cases hc
    simp only [Bool.and_eq_true] at hc'
    obtain ⟨⟨⟨c1, c2⟩, c3⟩, c4⟩ := hc'
    have c1 := nble c1
    have c2 := nble c2
    have c4 := nble c4
    have hdrew := hR.drew (h := h)
    -- the new row, in a world that is w with a draw made
    have grow : ∀ {h1 : H} {old : List Value} {cs : List V} {N : Nat} {rest : List Value} {len : Nat}, Rel base ρ h1 w.drew → h1.nx = h.nx → Ext ρ h w ρ h1 w.drew → LRel ρ cs old → old.length = len * i.size → len + m ≤ N → rest.length = (N - (len + m)) * i.size →
        ∃ ρ', Rel base ρ' ⟨h1.t.set h.nx (.cells (cs ++ vs) false), h.nx + 1⟩ (w.drew.alloc (.cells ⟨old ++ ds ++ rest⟩ el)) ∧
          Ext ρ h w ρ' ⟨h1.t.set h.nx (.cells (cs ++ vs) false), h.nx + 1⟩ (w.drew.alloc (.cells ⟨old ++ ds ++ rest⟩ el)) ∧
          VRel ρ' (.slc h.nx 0 (len + m) (len + m) i.size) (.slice (some ⟨w.heap.size, 0, none⟩) (len + m) N) := by
      intro h1 old cs N rest len r1 hnx x1 ho hol hN hrl
      have hi0 : ρ h.nx = none := by
        cases hq : ρ h.nx with
        | none => rfl
        | some e => exact absurd (hR.dom _ _ hq) (Nat.lt_irrefl _)
      have hlr := ho.app hl
      have hk1 : (len + m) * i.size = len * i.size + m * i.size := Nat.add_mul _ _ _
      have hk2 : (len + m) * i.size + (N - (len + m)) * i.size = N * i.size := by rw [← Nat.add_mul]; congr 1; omega
      have htot : (old ++ ds ++ rest).length = N * i.size := by simp only [List.length_append, hol, hlen, hrl]; omega
      obtain ⟨q1, q2⟩ := r1.alloc (i := h.nx) (nx' := h.nx + 1) hi0 (by omega) (by omega) (o := .cells ⟨old ++ ds ++ rest⟩ el) (blk := .cells (cs ++ vs) false) (e := ⟨w.heap.size, 0, N * i.size⟩) rfl (frozen_alloc_cells w.drew _ _)
        ⟨⟨old ++ ds ++ rest⟩, el, (0, 0), heap_alloc_same w.drew _, htot, ⟨by have := hlr.1; simp only [List.length_append] at this ⊢; simp only [hol, hlen, hrl] at this ⊢; omega, by
          simp only [List.drop_zero]
          have : (cs ++ vs).length = (old ++ ds).length := hlr.1
          rw [this, List.take_left]
          exact hlr.mono (Rho.add_le _ hi0)⟩, fun _ => ⟨rfl, hR.sz⟩, fun hh => by cases hh⟩
      refine ⟨_, q1, x1.trans (q2 (by omega)), ?_⟩
      refine .slc h.nx 0 _ _ _ ⟨w.heap.size, 0, N * i.size⟩ 0 N (Rho.add_same _ _ _) (.inr ⟨by omega, .inl ⟨Nat.le_refl _, hN, rfl, by simp⟩⟩)
    cases hs <;> simp only [reduceCtorEq] at hev
    case nils =>
      have hrun := append_run (ty := ty) (bs := none) (sLen := 0) (sCap := 0) hu hi hz c1 hzk hx (by omega)
      cases hm0 : Nat.beq m 0 with
      | true =>
        rw [hm0] at hev
        simp only [cond_true, Option.some.injEq] at hev
        subst hev
        have := nbeq hm0
        subst this
        refine ⟨_, ?_, .nils⟩
        rw [hrun.1 (Nat.le_refl _)]
        rfl
      | false =>
        rw [hm0] at hev
        simp only [cond_false, Option.some.injEq] at hev
        subst hev
        have hmne : m ≠ 0 := fun hh => by rw [nbt hh] at hm0; cases hm0
        obtain ⟨N, rest, g1, g2, g3⟩ := hrun.2 [] (by omega) rfl
        obtain ⟨ρ', q1, q2, q3⟩ := grow (h1 := h) (old := []) (cs := []) (len := 0) hdrew rfl (Ext.drew ρ h w) (.nil ρ) (by simp) g1 g2
        simp only [List.nil_append, Nat.zero_add] at q1 q2 q3 g3
        exact ⟨_, _, ρ', g3, q1, q2, q3⟩
    case slc b o' len cap sz ent ro' cap' he hso =>
      have hcc : cap ≤ cap' := by rcases hso with hh | ⟨_, hh | hh⟩ <;> omega
      cases hbig : Nat.ble (len + m) 1000000 with
      | false => rw [hbig] at hev; simp at hev
      | true =>
      rw [hbig] at hev
      simp only [Bool.not_true, cond_false] at hev
      have hbig := nble hbig
      have hrun := append_run (ty := ty) (bs := some ⟨ent.rb, ro', none⟩) (sLen := len) (sCap := cap') hu hi hz c1 hzk hx hbig
      cases hle : Nat.ble (len + m) cap with
      | true =>
        rw [hle] at hev
        simp only [cond_true] at hev
        have hle := nble hle
        cases hm0 : Nat.beq m 0 with
        | true =>
          rw [hm0] at hev
          simp only [cond_true, Option.some.injEq] at hev
          subst hev
          have := nbeq hm0
          subst this
          have hds : ds = [] := List.eq_nil_of_length_eq_zero (by simpa using hlen)
          subst hds
          refine ⟨_, by rw [hrun.1 (by omega)]; rfl, .slc b o' _ cap sz ent ro' cap' he ?_⟩
          simpa using hso
        | false =>
          rw [hm0] at hev
          simp only [cond_false, Option.map_eq_some_iff] at hev
          obtain ⟨h', h1, rfl⟩ := hev
          have hmne : m ≠ 0 := fun hh => by rw [nbt hh] at hm0; cases hm0
          have hro : ro' = ent.ro + o' := by
            rcases hso with hh | ⟨_, hh | hh⟩
            · exact hh.2.2
            · exact hh.2.2.1
            · omega
          obtain ⟨w', q3, q4, q5⟩ := hR.storeA (P := P) he hl h1
          refine ⟨_, w', ρ, ?_, q4, q5, .slc b o' (len + m) cap sz ent ro' cap' he ?_⟩
          · rw [hrun.1 (by omega)]
            simp only [addr_add, hro, Nat.add_assoc, q3, Result.andThen_ok]
          · rcases hso with hh | ⟨h0, hh | hh⟩
            · exact .inl hh
            · exact .inr ⟨h0, .inl ⟨hle, hh.2⟩⟩
            · omega
      | false =>
        rw [hle] at hev
        simp only [cond_false] at hev
        have hgt : ¬ len + m ≤ cap := fun hh => by rw [Nat.ble_eq_true_of_le hh] at hle; cases hle
        split at hev
        · rename_i cs ro hb
          cases hg : (!((Nat.beq sz 0 || (Nat.beq sz i.size && !ro)) && Nat.ble (o' + len * i.size) cs.length)) with
          | true => rw [hg] at hev; simp at hev
          | false =>
            rw [hg] at hev
            simp only [cond_false, Option.some.injEq] at hev
            have hg' : ((Nat.beq sz 0 || (Nat.beq sz i.size && !ro)) && Nat.ble (o' + len * i.size) cs.length) = true := by
              cases hq : ((Nat.beq sz 0 || (Nat.beq sz i.size && !ro)) && Nat.ble (o' + len * i.size) cs.length) with
              | true => rfl
              | false => rw [hq] at hg; cases hg
            rw [Bool.and_eq_true] at hg'
            obtain ⟨hg1, hg2⟩ := hg'
            have hg2 := nble hg2
            have hld : h.ldA b o' (len * i.size) = some ((cs.drop o').take (len * i.size)) := by
              simp only [H.ldA, H.cells, hb, Option.bind_some, Nat.ble_eq_true_of_le hg2, cond_true]
            have hclen : ((cs.drop o').take (len * i.size)).length = len * i.size := by simp; omega
            -- the old elements, as read in w with a draw made
            have hold : ∃ old, (Builtin.firstCells i.size len (.slice (some ⟨ent.rb, ro', none⟩) len cap')).run P w.drew = .ok ⟨old⟩ w.drew ∧ LRel ρ ((cs.drop o').take (len * i.size)) old := by
              by_cases hl0 : len = 0
              · subst hl0
                exact ⟨[], by simp [Builtin.firstCells, loadCells, loadCellsFrom], by simpa using LRel.nil ρ⟩
              · have hro : ro' = ent.ro + o' := by
                  rcases hso with hh | ⟨_, hh | hh⟩
                  · exact hh.2.2
                  · exact hh.2.2.1
                  · omega
                obtain ⟨ds0, h3, h4⟩ := hdrew.loadA (P := P) he hld
                exact ⟨ds0, by simp only [Builtin.firstCells, hro]; exact h3, h4⟩
            obtain ⟨old, ho1, ho2⟩ := hold
            have hol : old.length = len * i.size := by rw [← ho2.1, hclen]
            cases hsz : Nat.beq sz 0 with
            | true =>
              -- the capacity is known: a new array
              have := nbeq hsz
              subst this
              rw [hsz] at hev
              simp only [cond_true] at hev
              have hcap : cap' = cap := by
                rcases hso with hh | ⟨hh, _⟩
                · exact hh.2.1
                · exact absurd rfl hh
              obtain ⟨N, rest, g1, g2, g3⟩ := hrun.2 old (by omega) ho1
              obtain ⟨ρ', q1, q2, q3⟩ := grow (h1 := h) hdrew rfl (Ext.drew ρ h w) ho2 hol g1 g2
              subst hev
              exact ⟨_, _, ρ', g3, q1, q2, q3⟩
            | false =>
              have hsz0 : sz ≠ 0 := fun hh => by rw [nbt hh] at hsz; cases hsz
              rw [hsz] at hev hg1
              simp only [cond_false, Bool.false_or, Bool.and_eq_true] at hev hg1
              obtain ⟨hsk, hro0⟩ := hg1
              have hsk := nbeq hsk
              have hrf : ro = false := by simpa using hro0
              subst hrf
              subst hsk
              subst hev
              by_cases hreal : len + m ≤ cap'
              · -- the room behind
                have hfst : len ≤ cap ∧ cap ≤ cap' ∧ ro' = ent.ro + o' ∧ ro' + cap' * i.size ≤ ent.rsz := by
                  rcases hso with hh | ⟨_, hh | hh⟩
                  · exact absurd hh.1 hsz0
                  · exact hh
                  · exfalso; omega
                obtain ⟨f1, f2, f3, f4⟩ := hfst
                obtain ⟨c, ty0, fr, b1, b2, b3, b4, _⟩ := hR.blk b _ ent hb he
                obtain ⟨rfl, b5⟩ := b4 rfl
                have hroom : (len + m) * i.size ≤ cap' * i.size := Nat.mul_le_mul_right _ hreal
                have hk1 : (len + m) * i.size = len * i.size + m * i.size := Nat.add_mul _ _ _
                have hst := run_storeCells_at (P := P) ent.rb (ro' + len * i.size) ty0 ds 0 c w b1 (by omega) (hl.ones c3)
                have hi0 : ρ h.nx = none := by
                  cases hq : ρ h.nx with
                  | none => rfl
                  | some e => exact absurd (hR.dom _ _ hq) (Nat.lt_irrefl _)
                generalize hD : c.toList.take (ro' + len * i.size + 0) ++ ds ++ c.toList.drop (ro' + len * i.size + 0 + ds.length) = D at hst
                have hDl : D.length = ent.rsz := by rw [← hD]; simp; omega
                have hlat : LAt ρ ((cs.drop o').take (len * i.size) ++ vs) D ro' := by
                  refine ⟨?_, ?_⟩
                  · have := hl.1
                    simp only [List.length_append, hclen]
                    omega
                  · have hlr := (((b3.2.drop o').take (len * i.size)).app hl)
                    rw [List.length_append, hclen]
                    have hb31 := b3.1
                    have hre := room_eq c.toList ds (e := ent.ro) (o' := o') (C := cs.length) (X := len * i.size) hg2 hb31
                    rw [← f3, hD, ← hl.1] at hre
                    rw [hre] at hlr
                    exact hlr
                obtain ⟨m1, m2⟩ := hR.move (i := h.nx) (nx' := h.nx + 1) hi0 (by omega) (by omega) hb he b1 hDl hlat
                refine ⟨_, _, _, ?_, m1, m2 (Nat.le_refl _), .slc h.nx 0 _ _ _ ⟨ent.rb, ro', ent.rsz⟩ ro' cap' (Rho.add_same _ _ _) (.inr ⟨hsz0, .inl ⟨Nat.le_refl _, hreal, rfl, f4⟩⟩)⟩
                rw [hrun.1 hreal]
                simp only [addr_add, hst, Result.andThen_ok]
              · -- a new array
                obtain ⟨N, rest, g1, g2, g3⟩ := hrun.2 old hreal ho1
                obtain ⟨k1, k2⟩ := hR.kill b
                obtain ⟨ρ', q1, q2, q3⟩ := grow (h1 := h.set b .dead) k1.drew rfl (k2.trans (Ext.drew _ _ _)) ho2 hol g1 g2
                exact ⟨_, _, ρ', g3, q1, q2, q3⟩
        · cases hev
end
end Go.Ev
