import Derived.Test.YtolngjaihlggnaaGreatDoorEvDrawC
/-! Regions that draw their order, part D: what holds at every prefix of every order. -/
namespace Go.Ev
set_option linter.unusedVariables false
set_option linter.unusedSimpArgs false
set_option linter.unusedSectionVars false
variable [Sig]

theorem Rel.sub {base : Nat} {ρ : Rho} {h h2 : H} {w : World} (hR : Rel base ρ h w) (hs : ∀ x blk, h2.get x = some blk → h.get x = some blk) (hn : h.nx ≤ h2.nx) : Rel base ρ h2 w where
  blk := fun x blk e h1 h2 => hR.blk x blk e (hs x blk h1) h2
  dom := fun x e h1 => Nat.lt_of_lt_of_le (hR.dom x e h1) hn
  inj := fun x y ex ey ⟨b1, h1, h2⟩ ⟨b2, h3, h4⟩ => hR.inj x y ex ey ⟨b1, hs _ _ h1, h2⟩ ⟨b2, hs _ _ h3, h4⟩
  sz := hR.sz

theorem Rel.own_base {base : Nat} {ρ : Rho} {h : H} {w : World} (hR : Rel base ρ h w) {x : Nat} {e : Ent} (ho : own h x) (he : ρ x = some e) : base ≤ e.rb := by
  obtain ⟨blk, h1, h2⟩ := ho
  have := hR.blk x blk e h1 he
  cases blk with
  | cells cs ro =>
    obtain ⟨_, _, _, _, _, _, h3, _⟩ := this
    cases ro with
    | false => exact (h3 rfl).2
    | true => cases h2
  | map es => obtain ⟨_, _, _, _, h3⟩ := this; exact h3
  | dead => cases h2

/-- A run that knows a part of the heap, among blocks that it does not know. -/
theorem Rel.join {base : Nat} {ρ ρ' : Rho} {h hX h' hX' : H} {w w' : World} (hR0 : Rel base ρ hX w) (hsub : ∀ x blk, h.get x = some blk → hX.get x = some blk) (hR' : Rel base ρ' h' w') (hE : Ext ρ h w ρ' h' w')
    (hnx : hX'.nx = h'.nx) (hnxX : hX.nx = h.nx) (hA : ∀ x blk e, ρ' x = some e → hX'.get x = some blk → h'.get x = some blk ∨ (hX.get x = some blk ∧ h.get x = none ∧ ρ x = some e)) :
    Rel base ρ' hX' w' ∧ Ext ρ hX w ρ' hX' w' := by
  have hown : ∀ x, own h x → own hX x := fun x ⟨b, h1, h2⟩ => ⟨b, hsub _ _ h1, h2⟩
  have hlt : ∀ x e blk, hX.get x = some blk → ρ x = some e → blk ≠ .dead → e.rb < w.heap.size := fun x e blk h1 h2 h3 => (hR0.blk x blk e h1 h2).lt h3
  have hfr : ∀ x e blk, hX.get x = some blk → h.get x = none → ρ x = some e → blk ≠ .dead → w'.heap[e.rb]? = w.heap[e.rb]? := by
    intro x e blk h1 h2 h3 h4
    refine hE.frame _ (hlt x e blk h1 h3 h4) fun y ey hy hye heq => ?_
    have hb := hR0.own_base (hown y hy) hye
    cases hbl : blk.owned with
    | true =>
      have := hR0.inj x y e ey ⟨blk, h1, hbl⟩ (hown y hy) h3 hye heq.symm
      subst this
      obtain ⟨b, hb1, _⟩ := hy
      rw [h2] at hb1; cases hb1
    | false =>
      have hbr := hR0.blk x blk e h1 h3
      cases blk with
      | dead => exact h4 rfl
      | map es => cases hbl
      | cells cs ro =>
        cases ro with
        | false => cases hbl
        | true => obtain ⟨_, _, _, _, _, _, _, g⟩ := hbr; have := g rfl; omega
  refine ⟨⟨?_, ?_, ?_, hR'.sz⟩, ⟨hE.le, ?_, by rw [hnx, hnxX]; exact hE.nx, hE.size, hE.os, hE.out, hE.frz, ?_, ?_⟩⟩
  · intro x blk e h1 h2
    rcases hA x blk e h2 h1 with h3 | ⟨h3, h4, h5⟩
    · exact hR'.blk x blk e h3 h2
    · exact ((hR0.blk x blk e h3 h5).mono hE.le).of_heap fun hd => hfr x e blk h3 h4 h5 hd
  · intro x e h1; rw [hnx]; exact hR'.dom x e h1
  · intro x y ex ey ⟨b1, h1, h2⟩ ⟨b2, h3, h4⟩ hx hy heq
    rcases hA x b1 ex hx h1 with g1 | ⟨g1, g2, g3⟩ <;> rcases hA y b2 ey hy h3 with k1 | ⟨k1, k2, k3⟩
    · exact hR'.inj x y ex ey ⟨b1, g1, h2⟩ ⟨b2, k1, h4⟩ hx hy heq
    · exfalso
      rcases hE.img x ex ⟨b1, g1, h2⟩ hx with q | ⟨z, ez, q1, q2, q3⟩
      · have := hlt y ey b2 k1 k3 (owned_ne h4); omega
      · have := hR0.inj z y ez ey (hown z q1) ⟨b2, k1, h4⟩ q2 k3 (by omega)
        subst this
        obtain ⟨b, hb1, _⟩ := q1
        rw [k2] at hb1; cases hb1
    · exfalso
      rcases hE.img y ey ⟨b2, k1, h4⟩ hy with q | ⟨z, ez, q1, q2, q3⟩
      · have := hlt x ex b1 g1 g3 (owned_ne h2); omega
      · have := hR0.inj z x ez ex (hown z q1) ⟨b1, g1, h2⟩ q2 g3 (by omega)
        subst this
        obtain ⟨b, hb1, _⟩ := q1
        rw [g2] at hb1; cases hb1
    · exact hR0.inj x y ex ey ⟨b1, g1, h2⟩ ⟨b2, k1, h4⟩ g3 k3 heq
  · intro x e h1 h2; rw [hnxX]; exact hE.new x e h1 h2
  · intro i hi hno; exact hE.frame i hi fun x e ho he => hno x e (hown x ho) he
  · intro x e ⟨bx, h1, h2⟩ he
    rcases hA x bx e he h1 with g1 | ⟨g1, g2, g3⟩
    · rcases hE.img x e ⟨bx, g1, h2⟩ he with q | ⟨z, ez, q1, q2, q3⟩
      · exact .inl q
      · exact .inr ⟨z, ez, hown z q1, q2, q3⟩
    · exact .inr ⟨x, e, ⟨bx, g1, h2⟩, g3, rfl⟩

theorem Ext.alloc {base : Nat} {ρ0 ρ : Rho} {h0 hS hS' : H} {w0 w : World} (hE : Ext ρ0 h0 w0 ρ hS w) {i : Nat} {e : Ent} {o : Obj} (hi : ρ i = none) (hge : h0.nx ≤ i) (he : e.rb = w.heap.size)
    (hfz : ∀ a, (w.alloc o).frozen? a = w.frozen? a) (hnx : hS.nx ≤ hS'.nx) (hsub : ∀ x blk, x ≠ i → hS'.get x = some blk → hS.get x = some blk) : Ext ρ0 h0 w0 (ρ.add i e) hS' (w.alloc o) where
  le := hE.le.trans (Rho.add_le e hi)
  new := fun x y h1 h2 => by
    by_cases hx : x = i
    · subst hx; exact hge
    · rw [Rho.add_ne _ _ hx] at h1; exact hE.new x y h1 h2
  nx := Nat.le_trans hE.nx hnx
  size := Nat.le_trans hE.size (by simp)
  os := hE.os
  out := hE.out
  frz := fun a => (hfz a).trans (hE.frz a)
  frame := fun k hk hno => by
    have := hE.size
    rw [heap_alloc_ne w o (by omega)]
    exact hE.frame k hk hno
  img := fun x y ⟨bx, h1, h2⟩ hy => by
    by_cases hx : x = i
    · subst hx
      rw [Rho.add_same] at hy
      cases hy
      have := hE.size
      exact .inl (by omega)
    · rw [Rho.add_ne _ _ hx] at hy
      exact hE.img x y ⟨bx, hsub x bx hx h1, h2⟩ hy

section
variable {cx : Cx} {call : CallF} {B : Nat} {b : List Nat} {rl : List ROp} {E : Nat → Env} {Hh : Nat → H} {vs : Nat → V} {ini : Nat → Option Blk} {L : Nat → Bool}

def XX (B : Nat) (rl : List ROp) (Hh : Nat → H) (ini : Nat → Option Blk) (L : Nat → Bool) (c : Nat) : H := over B (fun i => if L i = true ∧ c ≤ i then ini i else none) rl.length (Hh c)

theorem XX_nx {c : Nat} : (XX B rl Hh ini L c).nx = (Hh c).nx := over_nx _ _ _ _

theorem XX_inv {c x : Nat} {blk : Blk} (h : (XX B rl Hh ini L c).get x = some blk) : (Hh c).get x = some blk ∨ ∃ i, i < rl.length ∧ x = B + i ∧ L i = true ∧ c ≤ i ∧ ini i = some blk := by
  unfold XX at h
  by_cases h1 : x < B
  · rw [over_get_lt _ _ _ h1] at h; exact .inl h
  · have hx : x = B + (x - B) := by omega
    by_cases h2 : x - B < rl.length
    · rw [hx, over_get _ _ _ _ h2] at h
      split at h
      · rename_i bl hb
        split at hb
        · rename_i hh
          cases h
          exact .inr ⟨x - B, h2, hx, hh.1, hh.2, hb⟩
        · cases hb
      · rw [← hx] at h; exact .inl h
    · rw [hx, over_get_ge _ _ _ _ (by omega), ← hx] at h; exact .inl h

theorem XX_ext {c i : Nat} {blk : Blk} (hi : i < rl.length) (hl : L i = true) (hc : c ≤ i) (hb : ini i = some blk) : (XX B rl Hh ini L c).get (B + i) = some blk := by
  unfold XX
  rw [over_get _ _ _ _ hi, if_pos ⟨hl, hc⟩, hb]

theorem Run.XX_sub (R : Run cx call B b rl E Hh vs ini) (hL : Closed b L) {c : Nat} (hc : Cut rl L c) {x : Nat} {blk : Blk} (h : (Hh c).get x = some blk) : (XX B rl Hh ini L c).get x = some blk := by
  unfold XX
  by_cases h1 : x < B
  · rw [over_get_lt _ _ _ h1]; exact h
  · have hx : x = B + (x - B) := by omega
    by_cases h2 : x - B < rl.length
    · rw [hx, over_get _ _ _ _ h2]
      split
      · rename_i bl hb
        split at hb
        · rename_i hh
          have := R.clean hL hc h2 hh.1 hh.2 hb
          rw [← hx, h] at this; cases this
        · cases hb
      · rw [← hx]; exact h
    · rw [hx, over_get_ge _ _ _ _ (by omega), ← hx]; exact h

def addL (L : Nat → Bool) (j : Nat) : Nat → Bool := fun i => if i = j then true else L i
theorem addL_same (L : Nat → Bool) (j : Nat) : addL L j j = true := by simp [addL]
theorem addL_ne (L : Nat → Bool) {i j : Nat} (h : i ≠ j) : addL L j i = L i := by simp [addL, h]

structure Inv (P : Program) (base nt B : Nat) (b : List Nat) (rl : List ROp) (E : Nat → Env) (Hh : Nat → H) (ini : Nat → Option Blk) (ρ0 : Rho) (h0 : H) (w0 : World) (L : Nat → Bool) (ρ : Rho) (a : Act) (w : World) : Prop where
  cl : Closed b L
  pins : Pins P ρ
  df : a.defers = []
  tz : nt ≤ a.tmps.size
  env : ∀ t c, c ≤ rl.length → (∀ p o, rl[p]? = some o → o.d = some t → (L p = true ↔ p < c)) → ∀ v, (E c).get t = some v → ∃ v', a.tmps[t]? = some v' ∧ VRel ρ v v'
  dom : ∀ i, i < rl.length → L i = false → ρ (B + i) = none
  rel : ∀ c, Cut rl L c → B + rl.length ≤ (Hh c).nx ∧ Rel base ρ (XX B rl Hh ini L c) w ∧ Ext ρ0 h0 w0 ρ (XX B rl Hh ini L c) w

theorem Run.env_same (R : Run cx call B b rl E Hh vs ini) {t c : Nat} : ∀ k, c + k ≤ rl.length → (∀ p o, c ≤ p → p < c + k → rl[p]? = some o → o.d ≠ some t) → (E (c + k)).get t = (E c).get t := by
  intro k
  induction k with
  | zero => intro _ _; rfl
  | succ k ih =>
    intro hn hp
    have ho : rl[c + k]? = some (rl[c + k]'(by omega)) := by simp
    rw [show c + (k + 1) = c + k + 1 by omega, (R.op _ _ ho).2]
    have hd := hp (c + k) _ (by omega) (by omega) ho
    rw [← ih (by omega) fun p o h1 h2 => hp p o h1 (by omega)]
    generalize (rl[c + k]'(by omega)).d = d at hd
    cases d with
    | none => rfl
    | some d => simp only [Env.put]; exact T.get_set_ne _ _ fun h => hd (by rw [h])

variable {P : Program} {base nt : Nat} {ρ0 : Rho} {h0 : H} {w0 : World} {ρ : Rho} {a : Act} {w : World}

theorem put_tmps_size {d : Option Nat} {v : Value} : (a.put d v).tmps.size = a.tmps.size := by
  cases d <;> simp [Act.put]
theorem put_tmps_ne {d : Option Nat} {v : Value} {t : Nat} (h : d ≠ some t) : (a.put d v).tmps[t]? = a.tmps[t]? := by
  cases d with
  | none => rfl
  | some d => simp only [Act.put]; exact Array.getElem?_setIfInBounds_ne fun hh => h (by rw [hh])
theorem put_tmps_same {v : Value} {t : Nat} (h : t < a.tmps.size) : (a.put (some t) v).tmps[t]? = some v := by
  simp [Act.put, Array.getElem?_setIfInBounds, h]

/-- One more is done. -/
theorem Inv.next (R : Run cx call B b rl E Hh vs ini) (I : Inv P base nt B b rl E Hh ini ρ0 h0 w0 L ρ a w) {j : Nat} {o : ROp} (ho : rl[j]? = some o) (hl : L j = false) (hcl : ∀ i, bit b i j → L i = true) (hd : DstOk nt o.d)
    {ρ' : Rho} (hle : Rle ρ ρ') {v' : Value} (hv : VRel ρ' (vs j) v') {w' : World} (hdom : ∀ i, i < rl.length → L i = false → i ≠ j → ρ' (B + i) = none)
    (hrel : ∀ c, Cut rl (addL L j) c → B + rl.length ≤ (Hh c).nx ∧ Rel base ρ' (XX B rl Hh ini (addL L j) c) w' ∧ Ext ρ0 h0 w0 ρ' (XX B rl Hh ini (addL L j) c) w') :
    Inv P base nt B b rl E Hh ini ρ0 h0 w0 (addL L j) ρ' (a.put o.d v') w' where
  cl := fun k hk i hi => by
    by_cases hkj : k = j
    · subst hkj
      by_cases hik : i = k
      · rw [hik, addL_same]
      · rw [addL_ne L hik]; exact hcl i hi
    · rw [addL_ne L hkj] at hk
      by_cases hij : i = j
      · rw [hij, addL_same]
      · rw [addL_ne L hij]; exact I.cl k hk i hi
  pins := I.pins.mono hle
  df := by rw [put_defers]; exact I.df
  tz := by rw [put_tmps_size]; exact I.tz
  env := fun t c hc hcut v hv0 => by
    have hjn : j < rl.length := (List.getElem?_eq_some_iff.1 ho).1
    by_cases hdt : o.d = some t
    · have hjc : j < c := (hcut j o ho hdt).1 (addL_same L j)
      rw [hdt, put_tmps_same (Nat.lt_of_lt_of_le (hd t hdt) I.tz)]
      refine ⟨v', rfl, ?_⟩
      have hs := R.env_same (t := t) (c := j + 1) (c - (j + 1)) (by omega) fun p q h1 h2 h3 h4 => by
        have hp : L p = true := by
          have := (hcut p q h3 h4).2 (by omega)
          rwa [addL_ne L (by omega)] at this
        by_cases h5 : bit b j p
        · rw [I.cl p hp j h5] at hl; cases hl
        · exact ((R.sep j p o q ho h3 (by omega) h5 fun h => by have := R.fwd p j hjn h; omega).1 t hdt).2 h4
      rw [show j + 1 + (c - (j + 1)) = c by omega, (R.op j o ho).2, hdt] at hs
      rw [hs] at hv0
      simp only [Env.put, T.get_set_same, Option.some.injEq] at hv0
      rw [← hv0]; exact hv
    · rw [put_tmps_ne hdt]
      obtain ⟨v'', h1, h2⟩ := I.env t c hc (fun p q h1 h2 => by
        have hpj : p ≠ j := fun h => by subst h; rw [ho] at h1; cases h1; exact hdt h2
        rw [← addL_ne L hpj]; exact hcut p q h1 h2) v hv0
      exact ⟨v'', h1, h2.mono hle⟩
  dom := fun i hi h => by
    have hij : i ≠ j := fun hh => by rw [hh, addL_same] at h; cases h
    rw [addL_ne L hij] at h
    exact hdom i hi h hij
  rel := hrel

theorem cut_add {j c : Nat} (hnw : ¬ Wr rl j) : Cut rl (addL L j) c ↔ Cut rl L c := by
  unfold Cut
  refine and_congr_right fun _ => forall_congr' fun p => forall_congr' fun hp => ?_
  have : p ≠ j := fun h => by subst h; exact hnw hp
  rw [addL_ne L this]

theorem Run.cut_j (R : Run cx call B b rl E Hh vs ini) (hL : Closed b L) {j : Nat} (hw : Wr rl j) (hl : L j = false) (hcl : ∀ i, bit b i j → L i = true) : Cut rl L j := by
  refine ⟨Nat.le_of_lt hw.lt, fun p hp => ⟨fun h => ?_, fun h => hcl p (R.ord hp hw h)⟩⟩
  apply Nat.lt_of_not_le
  intro hge
  have hne : p ≠ j := fun hh => by subst hh; rw [h] at hl; cases hl
  rw [hL p h j (R.ord hw hp (by omega))] at hl; cases hl

/-- Nothing in memory has turned. -/
theorem Inv.still (R : Run cx call B b rl E Hh vs ini) (I : Inv P base nt B b rl E Hh ini ρ0 h0 w0 L ρ a w) {j : Nat} {o : ROp} (ho : rl[j]? = some o) (hl : L j = false) (hcl : ∀ i, bit b i j → L i = true) (hd : DstOk nt o.d)
    (hnw : ¬ Wr rl j) (hini : ini j = none) {v' : Value} (hv : VRel ρ (vs j) v') : Inv P base nt B b rl E Hh ini ρ0 h0 w0 (addL L j) ρ (a.put o.d v') w := by
  refine I.next R ho hl hcl hd (.refl ρ) hv (fun i hi h _ => I.dom i hi h) fun c hc => ?_
  have hc' := (cut_add hnw).1 hc
  have he : XX B rl Hh ini (addL L j) c = XX B rl Hh ini L c := by
    unfold XX
    congr 1
    funext i
    by_cases hij : i = j
    · subst hij; rw [hini]; split <;> split <;> rfl
    · rw [addL_ne L hij]
  rw [he]
  exact I.rel c hc'

/-- A new block. -/
theorem Inv.fresh (R : Run cx call B b rl E Hh vs ini) (hB : h0.nx = B) (I : Inv P base nt B b rl E Hh ini ρ0 h0 w0 L ρ a w) {j : Nat} {o : ROp} (ho : rl[j]? = some o) (hl : L j = false) (hcl : ∀ i, bit b i j → L i = true) (hd : DstOk nt o.d)
    {bl : Blk} (hini : ini j = some bl) {e : Ent} {obj : Obj} (he : e.rb = w.heap.size) (hfz : ∀ x, (w.alloc obj).frozen? x = w.frozen? x) (hbr : BRel base (ρ.add (B + j) e) (w.alloc obj) e bl)
    {v' : Value} (hv : VRel (ρ.add (B + j) e) (vs j) v') : Inv P base nt B b rl E Hh ini ρ0 h0 w0 (addL L j) (ρ.add (B + j) e) (a.put o.d v') (w.alloc obj) := by
  have hjn : j < rl.length := (List.getElem?_eq_some_iff.1 ho).1
  have hi0 : ρ (B + j) = none := I.dom j hjn hl
  have hnw : ¬ Wr rl j := by obtain ⟨_, _, _, _, _, _, _, _, _, h⟩ := R.laid hjn hini; exact h
  refine I.next R ho hl hcl hd (Rho.add_le e hi0) hv (fun i hi h hij => by rw [Rho.add_ne _ _ (by omega)]; exact I.dom i hi h) fun c hc => ?_
  have hc' := (cut_add hnw).1 hc
  obtain ⟨h1, h2, h3⟩ := I.rel c hc'
  have hsub : ∀ x blk, x ≠ B + j → (XX B rl Hh ini (addL L j) c).get x = some blk → (XX B rl Hh ini L c).get x = some blk := by
    intro x blk hx hg
    rcases XX_inv hg with hg | ⟨i, g1, g2, g3, g4, g5⟩
    · exact R.XX_sub I.cl hc' hg
    · subst g2
      rw [addL_ne L (by omega)] at g3
      exact XX_ext g1 g3 g4 g5
  have hat : (XX B rl Hh ini (addL L j) c).get (B + j) = some bl := by
    by_cases hcj : c ≤ j
    · exact XX_ext hjn (addL_same L j) hcj hini
    · have hs := R.stay I.cl hc' hl hcl (by omega) hini
      unfold XX
      rw [over_get _ _ _ _ hjn, if_neg (by omega)]
      exact hs
  have hal := (h2.alloc (i := B + j) (nx' := (XX B rl Hh ini L c).nx) (blk := bl) hi0 (by rw [XX_nx]; omega) (Nat.le_refl _) he hfz hbr).1
  refine ⟨h1, hal.sub (fun x blk hg => ?_) (by rw [XX_nx]; exact Nat.le_of_eq XX_nx.symm), Ext.alloc (base := base) h3 hi0 (by omega) he hfz (by rw [XX_nx, XX_nx]; exact Nat.le_refl _) hsub⟩
  by_cases hx : x = B + j
  · subst hx
    rw [hat] at hg
    cases hg
    exact T.get_set_same _ _ _
  · exact (T.get_set_ne _ _ (Ne.symm hx)).trans (hsub x blk hx hg)

/-- Memory has turned. -/
theorem Inv.turned (R : Run cx call B b rl E Hh vs ini) (I : Inv P base nt B b rl E Hh ini ρ0 h0 w0 L ρ a w) {j : Nat} {o : ROp} (ho : rl[j]? = some o) (hl : L j = false) (hcl : ∀ i, bit b i j → L i = true) (hd : DstOk nt o.d)
    (hw : Wr rl j) {ρ' : Rho} {w' : World} (hr : Rel base ρ' (Hh (j + 1)) w') (hx : Ext ρ (Hh j) w ρ' (Hh (j + 1)) w') {v' : Value} (hv : VRel ρ' (vs j) v') :
    Inv P base nt B b rl E Hh ini ρ0 h0 w0 (addL L j) ρ' (a.put o.d v') w' := by
  have hcj := R.cut_j I.cl hw hl hcl
  obtain ⟨h1, h2, h3⟩ := I.rel j hcj
  have hback : ∀ x e, ρ' x = some e → x < B + rl.length → ρ x = some e := by
    intro x e hx1 hx2
    cases hq : ρ x with
    | none => have := hx.new x e hx1 hq; omega
    | some e' => have := hx.le x e' hq; rw [hx1] at this; cases this; rfl
  refine I.next R ho hl hcl hd hx.le hv (fun i hi h hij => ?_) fun c hc => ?_
  · cases hq : ρ' (B + i) with
    | none => rfl
    | some e =>
      have := hback _ _ hq (by omega)
      rw [I.dom i hi h] at this; cases this
  · have hjc : j < c := (hc.2 j hw).1 (addL_same L j)
    have hq := R.quiet (c := j + 1) (c' := c) (by omega) hc.1 fun p g1 g2 g3 => by
      have := (hc.2 p g3).2 g2
      rw [addL_ne L (by omega)] at this
      have := (hcj.2 p g3).1 this
      omega
    have hnx : (Hh c).nx = (Hh (j + 1)).nx := hq.1
    have hj := h2.join (h := Hh j) (hX' := XX B rl Hh ini (addL L j) c) (fun x blk hg => R.XX_sub I.cl hcj hg) hr hx (by rw [XX_nx, hnx]) XX_nx fun x blk e he hg => by
      have ext : ∀ i, i < rl.length → x = B + i → j < i → L i = true → ini i = some blk → (Hh (j + 1)).get x = some blk ∨ ((XX B rl Hh ini L j).get x = some blk ∧ (Hh j).get x = none ∧ ρ x = some e) := by
        intro i g1 g2 g3 g4 g5
        subst g2
        exact .inr ⟨XX_ext g1 g4 (by omega) g5, R.clean I.cl hcj g1 g4 (by omega) g5, hback _ _ he (by omega)⟩
      rcases XX_inv hg with hg | ⟨i, g1, g2, g3, g4, g5⟩
      · by_cases hex : ∃ i, j + 1 ≤ i ∧ i < c ∧ x = B + i
        · obtain ⟨i, g1, g2, g3⟩ := hex
          subst g3
          have hin : i < rl.length := Nat.lt_of_lt_of_le g2 hc.1
          cases hi : ini i with
          | none => rw [hq.2.2.1 i g1 g2 hi] at hg; exact .inl hg
          | some b2 =>
            rw [hq.2.2.2 i b2 g1 g2 hi] at hg
            cases hg
            refine ext i hin rfl (by omega) ?_ hi
            cases hli : L i with
            | true => rfl
            | false =>
              have := hback _ _ he (by omega)
              rw [I.dom i hin hli] at this; cases this
        · rw [hq.2.1 x fun i g1 g2 g3 => hex ⟨i, g1, g2, g3⟩] at hg
          exact .inl hg
      · rw [addL_ne L (by omega)] at g3
        exact ext i g1 g2 (by omega) g3 g5
    refine ⟨?_, hj.1, h3.trans hj.2⟩
    have := hx.nx
    omega
end
end Go.Ev
