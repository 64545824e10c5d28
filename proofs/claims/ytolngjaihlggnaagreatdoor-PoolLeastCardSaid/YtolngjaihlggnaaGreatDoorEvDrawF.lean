import Derived.Test.YtolngjaihlggnaaGreatDoorEvDrawE
/-! Regions that draw their order, part F: the whole region. -/
namespace Go.Ev
set_option linter.unusedVariables false
set_option linter.unusedSimpArgs false
set_option linter.unusedSectionVars false
variable [Sig]

theorem countP_less {p q : Nat → Bool} : ∀ (l : List Nat), (∀ x ∈ l, q x = true → p x = true) → (∃ x ∈ l, p x = true ∧ q x = false) → l.countP q < l.countP p := by
  intro l
  induction l with
  | nil => intro _ ⟨x, h, _⟩; simp at h
  | cons y l ih =>
    intro h ⟨x, hx, h1, h2⟩
    have hle : l.countP q ≤ l.countP p := List.countP_mono_left fun z hz hq => h z (List.mem_cons_of_mem _ hz) hq
    simp only [List.countP_cons]
    rcases List.mem_cons.1 hx with rfl | hx
    · rw [h1, h2]; simp; omega
    · have := ih (fun z hz => h z (List.mem_cons_of_mem _ hz)) ⟨x, hx, h1, h2⟩
      have hy := h y List.mem_cons_self
      cases hq : q y with
      | true => rw [hy hq]; simp; omega
      | false =>
        have : 0 ≤ (if p y = true then 1 else 0) := Nat.zero_le _
        simp only [Bool.false_eq_true, if_false]
        omega

theorem getD_set (listed : Array Bool) (j i : Nat) (hj : j < listed.size) : (listed.setIfInBounds j true).getD i false = addL (fun i => listed.getD i false) j i := by
  unfold addL
  by_cases hij : i = j
  · subst hij; simp [hj]
  · simp only [hij, if_false]
    by_cases hi : i < listed.size <;> simp [hi, Array.getElem_setIfInBounds, Ne.symm hij]

section
variable {cx : Cx} {call : CallF} {B : Nat} {rl : List ROp} {E : Nat → Env} {Hh : Nat → H} {vs : Nat → V} {ini : Nat → Option Blk}
variable {P : Program} {base nt : Nat} {ρ0 : Rho} {h0 : H} {w0 : World}

theorem Inv.congr {b : List Nat} {L L' : Nat → Bool} {ρ : Rho} {a : Act} {w : World} (h : ∀ i, L i = L' i) (I : Inv P base nt B b rl E Hh ini ρ0 h0 w0 L ρ a w) : Inv P base nt B b rl E Hh ini ρ0 h0 w0 L' ρ a w := by
  have : L = L' := funext h
  subst this; exact I

theorem Run.any {ops : Array Oper} (R : Run cx call B (befores ops.toList) rl E Hh vs ini) (hB : h0.nx = B) (hts : TsOk P cx.ts) (hcall : CallSound P base call) (hr : rOpers P ops ops.toList = some rl)
    (hdst : (rl.all fun o => match o.d with | none => true | some d => Nat.blt d nt) = true) {Q : Exit → Act → World → Prop}
    (hq : ∀ ρ' a' w', St P base ρ' nt (E rl.length) (Hh rl.length) a' w' → Ext ρ0 h0 w0 ρ' (Hh rl.length) w' → a'.defers = [] → Q .normal a' w') :
    ∀ (fuel : Nat) (listed : Array Bool) (ρ : Rho) (a : Act) (w : World), listed.size = ops.size → (List.range ops.size).countP (fun i => !listed.getD i false) ≤ fuel →
      Inv P base nt B (befores ops.toList) rl E Hh ini ρ0 h0 w0 (fun i => listed.getD i false) ρ a w → wpAny P .any ops Q fuel listed a w := by
  obtain ⟨hlen, hat⟩ := rOpers_at P ops ops.toList rl hr
  have hlen : rl.length = ops.size := by simpa using hlen
  -- the end
  have fin : ∀ (listed : Array Bool) (ρ : Rho) (a : Act) (w : World), (∀ i, i < ops.size → listed.getD i false = true) → Inv P base nt B (befores ops.toList) rl E Hh ini ρ0 h0 w0 (fun i => listed.getD i false) ρ a w → Q .normal a w := by
    intro listed ρ a w hall I
    have hc : Cut rl (fun i => listed.getD i false) rl.length := ⟨Nat.le_refl _, fun p hp => ⟨fun _ => hp.lt, fun _ => hall p (hlen ▸ hp.lt)⟩⟩
    obtain ⟨h1, h2, h3⟩ := I.rel rl.length hc
    have hx : XX B rl Hh ini (fun i => listed.getD i false) rl.length = Hh rl.length := by
      unfold XX
      have : ∀ n, n ≤ rl.length → over B (fun i => if (listed.getD i false) = true ∧ rl.length ≤ i then ini i else none) n (Hh rl.length) = Hh rl.length := by
        intro n
        induction n with
        | zero => intro _; rfl
        | succ n ih => intro hn; simp only [over]; rw [if_neg (by omega)]; exact ih (by omega)
      exact this _ (Nat.le_refl _)
    rw [hx] at h2 h3
    refine hq ρ a w ⟨I.pins, ⟨I.tz, fun t v hv => I.env t rl.length (Nat.le_refl _) (fun p o hp _ => ?_) v hv⟩, h2⟩ h3 I.df
    have := (List.getElem?_eq_some_iff.1 hp).1
    exact ⟨fun _ => this, fun _ => hall p (hlen ▸ this)⟩
  -- what is ready, if anything is left
  have rdy : ∀ (listed : Array Bool), listed.size = ops.size → (Region.ready .any ops listed = [] → ∀ i, i < ops.size → listed.getD i false = true) := by
    intro listed hsz hnil i
    induction i using Nat.strongRecOn with
    | _ i ih =>
      intro hi
      cases hl : listed.getD i false with
      | true => rfl
      | false =>
        exfalso
        have hp : ops[i]? = some ops[i] := by simp [hi]
        have : i ∈ Region.ready .any ops listed := by
          unfold Region.ready
          refine List.mem_filter.2 ⟨List.mem_range.2 hi, ?_⟩
          have h1 : listed.getD i true = false := by
            have : i < listed.size := by omega
            simp [this] at hl ⊢; exact hl
          rw [h1, hp]
          simp only [Bool.not_false, Option.map_some, Option.getD_some, Bool.true_and]
          rw [Array.all_eq_true']
          intro e he
          cases hb : Region.binds .any e with
          | false => rfl
          | true =>
            have hbit := befores_edge hp (by simpa using he) hb
            have hlt := R.fwd e.on i (by omega) hbit
            simp only [Bool.not_true, Bool.false_or]
            exact ih e.on hlt (by omega)
        rw [hnil] at this
        simp at this
  intro fuel
  induction fuel with
  | zero =>
    intro listed ρ a w hsz hcnt I
    have hall : ∀ i, i < ops.size → listed.getD i false = true := by
      intro i hi
      have h0 : (List.range ops.size).countP (fun i => !listed.getD i false) = 0 := by omega
      rw [List.countP_eq_zero] at h0
      have := h0 i (List.mem_range.2 hi)
      simpa using this
    refine ⟨?_, fin listed ρ a w hall I⟩
    unfold Region.ready
    rw [List.filter_eq_nil_iff]
    intro i hi
    have hi := List.mem_range.1 hi
    have := hall i hi
    have h2 : i < listed.size := by omega
    simp [h2] at this
    simp [h2, this]
  | succ fuel ih =>
    intro listed ρ a w hsz hcnt I
    refine ⟨fun hnil => fin listed ρ a w (rdy listed hsz hnil) I, fun i hi => ?_⟩
    unfold Region.ready at hi
    obtain ⟨hi, hrd⟩ := List.mem_filter.1 hi
    have hi := List.mem_range.1 hi
    have hp : ops[i]? = some ops[i] := by simp [hi]
    rw [hp] at hrd
    simp only [Option.map_some, Option.getD_some, Bool.and_eq_true, Bool.not_eq_true'] at hrd
    obtain ⟨hl, he⟩ := hrd
    have hil : i < listed.size := by omega
    have hl : listed.getD i false = false := by simp [hil] at hl ⊢; exact hl
    rw [Array.all_eq_true'] at he
    obtain ⟨g, hg, ho⟩ := hat i ops[i] (by simp [hi])
    have hcl : ∀ k, bit (befores ops.toList) k i → listed.getD k false = true := by
      intro k hk
      obtain ⟨e, he1, he2, he3⟩ := befores_bit hp hk
      have hon := he e (by simpa using he1)
      rw [he2] at hon
      simp only [Bool.not_true, Bool.false_or] at hon
      rcases he3 with rfl | he3
      · exact hon
      · exact I.cl e.on hon k he3
    have hd : DstOk nt (ops[i]).dst := by
      intro d hdd
      have := List.all_eq_true.1 hdst _ (List.mem_of_getElem? ho)
      simp only [hdd] at this
      exact nblt this
    refine R.step_ok hB hts hcall I hp hg ho hl hcl hd fun ρ' a' w' I' => ?_
    refine ih _ ρ' a' w' (by simpa using hsz) ?_ (I'.congr fun k => (getD_set listed i k hil).symm)
    have := countP_less (p := fun i => !listed.getD i false) (q := fun k => !(listed.setIfInBounds i true).getD k false) (List.range ops.size)
      (fun x _ hx => by
        rw [getD_set listed i x hil] at hx
        by_cases hxi : x = i
        · subst hxi; rw [addL_same] at hx; cases hx
        · rw [addL_ne _ hxi] at hx; exact hx)
      ⟨i, List.mem_range.2 hi, by simp [hl], by rw [getD_set listed i i hil, addL_same]; rfl⟩
    omega
end

theorem ordd_bit {b : List Nat} {i j : Nat} : ordd b i j = true ↔ bit b i j ∨ bit b j i := by
  simp [ordd, bit]

theorem mem_pairs {n i j : Nat} (hi : i < n) (hj : j < n) : (i, j) ∈ pairs n := by
  simp only [pairs, List.mem_flatMap, List.mem_map, List.mem_range]
  exact ⟨i, hi, j, hj, rfl⟩

theorem drw_ok {P : Program} {base : Nat} {cx : Cx} {call : CallF} (hm : P.follows .mixedOrders = true) (hts : TsOk P cx.ts) (hcall : CallSound P base call) : DrwSound P base cx call := by
  intro n id ops rl chk hrc hd e h e' h' l hev hchk ρ a w Q s hdef hq
  simp only [rCode] at hrc
  cases hr : rOpers P ops ops.toList with
  | none => rw [hr] at hrc; cases hrc
  | some rl' =>
    rw [hr] at hrc
    simp only [if_true] at hrc
    split at hrc
    · rename_i hok
      simp only [RCode.drw.injEq] at hrc
      obtain ⟨rfl, rfl⟩ := hrc
      obtain ⟨hlen, _⟩ := rOpers_at P ops ops.toList rl' hr
      have hlen : rl'.length = ops.size := by simpa using hlen
      obtain ⟨E, Hh, vs, ini, recs, q1, q2, q3, q4, q5, q6⟩ := evDrw_dat _ _ _ _ _ _ _ _ hev
      simp only [List.reverse_nil, List.nil_append] at q1
      subst q1
      simp only [drwOk, Bool.and_eq_true, List.all_eq_true] at hok
      obtain ⟨hf, hs⟩ := hok
      have hfwd : ∀ i j, j < rl'.length → bit (befores ops.toList) i j → i < j := by
        intro i j hj hb
        have := nblt (hf j (List.mem_range.2 hj))
        apply Nat.lt_of_not_le
        intro hle
        have h2 : (befores ops.toList).getD j 0 < 2 ^ i := Nat.lt_of_lt_of_le this (Nat.pow_le_pow_right (by omega) hle)
        unfold bit at hb
        rw [Nat.testBit_lt_two_pow h2] at hb; cases hb
      have hlt : ∀ {i : Nat} {p : ROp}, rl'[i]? = some p → i < rl'.length := fun hp => (List.getElem?_eq_some_iff.1 hp).1
      have R : Run cx call h.nx (befores ops.toList) rl' E Hh vs ini := by
        refine ⟨fun k o hk => ?_, hfwd, fun i j p q hp hq hij h1 h2 => ?_, fun i j p q hp hq h1 h2 h3 h4 => ?_⟩
        · obtain ⟨r1, r2, _⟩ := q6 k o hk
          rw [Nat.zero_add] at r1
          exact ⟨r1, r2⟩
        · have := hs _ (mem_pairs (hlt hp) (hlt hq))
          have hno : ordd (befores ops.toList) i j = false := by
            cases ho : ordd (befores ops.toList) i j with
            | false => rfl
            | true => rcases ordd_bit.1 ho with h | h <;> contradiction
          simp only [hno, Bool.or_false, nbf hij, Bool.false_or, hp, hq, Bool.and_eq_true, Bool.not_eq_true'] at this
          obtain ⟨t1, t2⟩ := this
          refine ⟨fun d hd0 => ?_, fun ⟨u1, u2⟩ => ?_⟩
          · rw [hd0] at t1
            simp only [Bool.and_eq_true, Bool.not_eq_true'] at t1
            refine ⟨fun hmem => ?_, fun heq => ?_⟩
            · rw [List.contains_iff_mem.2 hmem] at t1; cases t1.1
            · rw [heq] at t1; simp at t1
          · rw [nbt u1, nbt u2] at t2; cases t2
        · have hno : ordd (befores ops.toList) i j = false := by
            cases ho : ordd (befores ops.toList) i j with
            | false => rfl
            | true => rcases ordd_bit.1 ho with h | h <;> contradiction
          have hmem : (i, j) ∈ drwChk (befores ops.toList) rl' := by
            unfold drwChk
            refine List.mem_filter.2 ⟨mem_pairs (hlt hp) (hlt hq), ?_⟩
            simp only [hp, hq, hno, Bool.not_false, Bool.and_true, nbt h2]
            rcases h1 with h1 | h1
            · rw [nbt h1]; rfl
            · rw [nbt h1]; simp
          exact chkAll_at _ hchk i j hmem p _ _ hp (q6 i p hp).2.2 (q6 j q hq).2.2
      have hnone : ∀ i, ρ (h.nx + i) = none := by
        intro i
        cases hh : ρ (h.nx + i) with
        | none => rfl
        | some x => have := s.rel.dom _ _ hh; omega
      refine wp_region_any hm ?_
      have hrep : ∀ i, (Array.replicate ops.size false).getD i false = false := by
        intro i
        by_cases hi : i < ops.size <;> simp [hi]
      have I : Inv P base n h.nx (befores ops.toList) rl' E Hh ini ρ h w (fun i => (Array.replicate ops.size false).getD i false) ρ a { w with drawn := w.drawn + 1 } := by
        refine ⟨fun j hj => (by rw [hrep] at hj; cases hj), s.pins, hdef, s.env.1, fun t c hc hcut v hv => ?_, fun i _ _ => hnone i, fun c hc => ?_⟩
        · refine s.env.2 t v ?_
          have := R.env_same (t := t) (c := 0) c (by omega) fun p o h1 h2 h3 h4 => by
            have := (hcut p o h3 h4).2 (by omega)
            rw [hrep] at this; cases this
          rw [Nat.zero_add] at this
          rw [← q2, ← this]; exact hv
        · have hqu := R.quiet (c := 0) (c' := c) (Nat.zero_le _) hc.1 fun p _ h2 h3 => by
            have := (hrep p).symm.trans ((hc.2 p h3).2 h2)
            cases this
          have hnx : (Hh c).nx = h.nx + rl'.length := by rw [hqu.1, q3]
          have hX : ∀ x blk, (XX h.nx rl' Hh ini (fun i => (Array.replicate ops.size false).getD i false) c).get x = some blk → x < h.nx → h.get x = some blk := by
            intro x blk hg hx
            rcases XX_inv hg with hg | ⟨i, _, _, g3, _⟩
            · rw [hqu.2.1 x fun i _ _ => by omega, q3] at hg
              exact hg
            · have := (hrep i).symm.trans g3; cases this
          refine ⟨by omega, ⟨fun x blk ent h1 h2 => ?_, fun x ent h1 => ?_, fun x y ex ey ⟨b1, h1, h2⟩ ⟨b2, h3, h4⟩ hx hy => ?_, s.rel.sz⟩, ⟨.refl ρ, fun x ent h1 h2 => (by rw [h1] at h2; cases h2), by rw [XX_nx, hnx]; omega, Nat.le_refl _, rfl, rfl, fun _ => rfl, fun _ _ _ => rfl, fun x ent ⟨b1, h1, h2⟩ h3 => .inr ⟨x, ent, ⟨b1, hX x b1 h1 (s.rel.dom x ent h3), h2⟩, h3, rfl⟩⟩⟩
          · exact s.rel.blk x blk ent (hX x blk h1 (s.rel.dom x ent h2)) h2
          · rw [XX_nx, hnx]; have := s.rel.dom x ent h1; omega
          · exact s.rel.inj x y ex ey ⟨b1, hX x b1 h1 (s.rel.dom _ _ hx), h2⟩ ⟨b2, hX y b2 h3 (s.rel.dom _ _ hy), h4⟩ hx hy
      refine R.any (h0 := h) (ρ0 := ρ) (w0 := w) rfl hts hcall hr hd (fun ρ' a' w' s' hx hdf => ?_) ops.size _ ρ a _ (by simp) (by exact Nat.le_trans List.countP_le_length (by simp)) I
      rw [q4] at s'
      rw [q5] at s' hx
      exact hq ρ' a' w' s' hx hdf
    · cases hrc
end Go.Ev
