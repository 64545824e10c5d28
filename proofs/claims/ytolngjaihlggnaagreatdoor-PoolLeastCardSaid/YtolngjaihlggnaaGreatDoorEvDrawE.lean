import Derived.Test.YtolngjaihlggnaaGreatDoorEvDrawD
/-! Regions that draw their order, part E: every order comes to what the order of the text comes to. -/
namespace Go.Ev
set_option linter.unusedVariables false
set_option linter.unusedSimpArgs false
set_option linter.unusedSectionVars false
variable [Sig]

theorem cls_le (o : RO) : o.cls = 0 ∨ o.cls = 1 ∨ o.cls = 2 ∨ o.cls = 3 := by cases o <;> simp [RO.cls]

section
variable {cx : Cx} {call : CallF} {B : Nat} {b : List Nat} {rl : List ROp} {E : Nat → Env} {Hh : Nat → H} {vs : Nat → V} {ini : Nat → Option Blk} {L : Nat → Bool}
variable {P : Program} {base nt : Nat} {ρ0 : Rho} {h0 : H} {w0 : World} {ρ : Rho} {a : Act} {w : World}

theorem Run.step_ok (R : Run cx call B b rl E Hh vs ini) (hB : h0.nx = B) (hts : TsOk P cx.ts) (hcall : CallSound P base call) (I : Inv P base nt B b rl E Hh ini ρ0 h0 w0 L ρ a w) {j : Nat} {ops : Array Oper} {p : Oper} (hp : ops[j]? = some p)
    {g : Option (Nat × Bool)} (hg : rGuard ops p.guard = some g) (ho : rl[j]? = some ⟨p.dst, g, rOp P p.op⟩) (hl : L j = false) (hcl : ∀ i, bit b i j → L i = true) (hd : DstOk nt p.dst) {Q : Exit → Act → World → Prop} {K : Act → World → Prop}
    (hk : ∀ ρ' a' w', Inv P base nt B b rl E Hh ini ρ0 h0 w0 (addL L j) ρ' a' w' → K a' w') : wpOp P ops Q j K a w := by
  have hjn : j < rl.length := (List.getElem?_eq_some_iff.1 ho).1
  generalize hoo : (⟨p.dst, g, rOp P p.op⟩ : ROp) = o at ho
  have hod : o.d = p.dst := by subst hoo; rfl
  have hog : o.g = g := by subst hoo; rfl
  have hor : o.o = rOp P p.op := by subst hoo; rfl
  generalize he2 : restr (E j) o.reads = e2
  have hsame : ∀ t ∈ o.reads, (E j).get t = e2.get t := fun t ht => by rw [← he2, restr_get _ _ _ ht]
  have hgs : guardOk (E j) o.g = guardOk e2 o.g := guardOk_congr fun t ht => hsame t (by unfold ROp.reads; exact List.mem_append.2 (.inr (by cases hgg : o.g <;> simp [hgg] at ht ⊢; exact ht)))
  have hes : ∀ h, evOp cx (E j) h o.o = evOp cx e2 h o.o := fun h => evOp_congr cx h fun t ht => hsame t (by unfold ROp.reads; exact List.mem_append.2 (.inl ht))
  have henv : EnvRel ρ nt e2 a.tmps := by
    refine ⟨I.tz, fun t v hv => ?_⟩
    rw [← he2] at hv
    obtain ⟨ht, hv⟩ := restr_sub _ _ _ _ hv
    refine I.env t j (Nat.le_of_lt hjn) (fun q oq hq hdq => ?_) v hv
    by_cases hqj : q = j
    · subst hqj; rw [hl]; exact ⟨fun h => (by cases h), fun h => by omega⟩
    · have hqn : q < rl.length := (List.getElem?_eq_some_iff.1 hq).1
      by_cases h1 : bit b q j
      · exact ⟨fun _ => R.fwd q j hjn h1, fun _ => hcl q h1⟩
      · by_cases h2 : bit b j q
        · have h3 := R.fwd j q hqn h2
          refine ⟨fun h => ?_, fun h => by omega⟩
          rw [I.cl q h j h2] at hl; cases hl
        · exact absurd ht ((R.sep q j oq o hq ho hqj h1 h2).1 t hdq).1
  have hst : ∀ c, Cut rl L c → St P base ρ nt e2 (Hh c) a w := fun c hc => ⟨I.pins, henv, (I.rel c hc).2.1.sub (fun x blk hx => R.XX_sub I.cl hc hx) (by rw [XX_nx]; exact Nat.le_refl _)⟩
  obtain ⟨c0, hc0, _⟩ := R.cut_min (L := L) I.cl
  have hgu : ∀ {bb}, guardOk (E j) o.g = some bb → Region.wanted p (yielded ops a.tmps) = bb := fun hb => guard_wanted (hst c0 hc0) hg (by rw [← hog, ← hgs]; exact hb)
  have hd' : DstOk nt o.d := by rw [hod]; exact hd
  unfold wpOp
  simp only [hp]
  -- a value
  have value : ∀ {v' : Value}, VRel ρ (vs j) v' → Hh (j + 1) = Hh j → ini j = none → K (a.put p.dst v') w := by
    intro v' hv hh hi
    rw [← hod]
    by_cases hw : Wr rl j
    · have hcj := R.cut_j I.cl hw hl hcl
      refine hk _ _ _ (I.turned R ho hl hcl hd' hw (ρ' := ρ) (w' := w) ?_ ?_ hv)
      · rw [hh]; exact (hst j hcj).rel
      · rw [hh]; exact Ext.refl _ _ _
    · exact hk _ _ _ (I.still R ho hl hcl hd' hw hi hv)
  rcases (R.op j o ho).1 with ⟨h1, h2, h3, h4⟩ | ⟨h1, h2⟩
  · rw [if_neg (by rw [hgu h1]; simp)]
    refine value ?_ h2 h4
    rw [h3]
    exact VRel.tup' (.nil ρ)
  · rw [if_pos (by rw [hgu h1])]
    left
    rcases h2 with ⟨u, q1, q2, q3, q4⟩ | ⟨bl, f, q1, q2, q3, q4, q5, q6⟩ | ⟨r, q1, q2, q3, q4, q5⟩
    · have hcut : ∃ c, Cut rl L c ∧ evOp cx e2 (Hh c) (rOp P p.op) = some (.val (vs j)) := by
        rw [← hor]
        subst q2
        rcases cls_le o.o with hc | hc | hc | hc
        · exact ⟨c0, hc0, by rw [← hes, cls_heap (.inl hc) _ (Hh j)]; exact q1⟩
        · obtain ⟨c, hc1, hc2⟩ := R.read I.cl ho hl hcl hc h1 q1
          exact ⟨c, hc1, by rw [← hes]; exact hc2⟩
        · exact ⟨c0, hc0, by rw [← hes, cls_heap (.inr hc) _ (Hh j)]; exact q1⟩
        · exact ⟨j, R.cut_j I.cl ⟨o, ho, hc⟩ hl hcl, by rw [← hes]; exact q1⟩
      obtain ⟨c, hc, hev⟩ := hcut
      obtain ⟨v', r1, r2⟩ := evOp_ok (o := p) (hst c hc) hts hev
      unfold Oper.wp
      exact OpOk.val (K := fun v1 w1 => v1 = v' ∧ w1 = w) r1 ⟨rfl, rfl⟩ K Q fun v1 w1 ⟨k1, k2⟩ => by subst k1; subst k2; exact value r2 q3 q4
    · have hev : evOp cx e2 (Hh c0) (rOp P p.op) = some (.new bl f) := by rw [← hor, ← hes, cls_heap (.inr q6) _ (Hh j)]; exact q1
      obtain ⟨ent, obj, r1, r2, r3⟩ := evOp_ok (o := p) (hst c0 hc0) hts hev
      obtain ⟨r4, v', r5, r6⟩ := r3 (B + j) (I.dom j hjn hl)
      unfold Oper.wp
      refine OpOk.val (K := fun v1 w1 => v1 = v' ∧ w1 = w.alloc obj) r6 ⟨rfl, rfl⟩ K Q fun v1 w1 ⟨k1, k2⟩ => ?_
      subst k1; subst k2
      rw [← hod]
      exact hk _ _ _ (I.fresh R hB ho hl hcl hd' q4 r1 r2 r4 (by rw [q2]; exact r5))
    · have hw : Wr rl j := ⟨o, ho, q4⟩
      have hcj := R.cut_j I.cl hw hl hcl
      refine oper_ok (hst j hcj) hts hcall (ops := ops) hd (r := r) (by rw [← hor, ← hes]; exact q1) q2 fun ρ' v' w' s' hx hv => ?_
      rw [← hod]
      exact hk _ _ _ (I.turned R ho hl hcl hd' hw s'.rel hx hv)
end

theorem rOpers_at (P : Program) (ops : Array Oper) : ∀ (l : List Oper) (rl : List ROp), rOpers P ops l = some rl → rl.length = l.length ∧ ∀ (j : Nat) (p : Oper), l[j]? = some p → ∃ g, rGuard ops p.guard = some g ∧ rl[j]? = some ⟨p.dst, g, rOp P p.op⟩ := by
  intro l
  induction l with
  | nil => intro rl h; simp only [rOpers, Option.some.injEq] at h; subst h; exact ⟨rfl, fun j p h => by simp at h⟩
  | cons o l ih =>
    intro rl h
    simp only [rOpers, Option.bind_eq_some_iff, Option.map_eq_some_iff] at h
    obtain ⟨g, h1, rl', h2, rfl⟩ := h
    obtain ⟨h3, h4⟩ := ih rl' h2
    refine ⟨by simp [h3], fun j p hp => ?_⟩
    cases j with
    | zero => simp at hp; subst hp; exact ⟨g, h1, rfl⟩
    | succ j => simp at hp; exact h4 j p hp

/-- The edges before an operation, as bits. -/
def bef1 (acc : List Nat) (o : Oper) : Nat := o.after.toList.foldl (fun s e => if Region.binds .any e then s ||| 2 ^ e.on ||| acc.getD e.on 0 else s) 0

theorem befores_foldl : ∀ (l : List Oper) (acc : List Nat), ∃ r, l.foldl (fun acc o => acc ++ [bef1 acc o]) acc = acc ++ r ∧ r.length = l.length ∧ ∀ (j : Nat) (p : Oper), l[j]? = some p → r[j]? = some (bef1 ((acc ++ r).take (acc.length + j)) p) := by
  intro l
  induction l with
  | nil => intro acc; exact ⟨[], by simp, rfl, fun j p h => by simp at h⟩
  | cons o l ih =>
    intro acc
    obtain ⟨r, h1, h2, h3⟩ := ih (acc ++ [bef1 acc o])
    refine ⟨bef1 acc o :: r, by simp [h1], by simp [h2], fun j p hp => ?_⟩
    cases j with
    | zero => simp at hp; subst hp; simp
    | succ j =>
      simp at hp
      rw [List.getElem?_cons_succ, h3 j p hp]
      congr 2
      simp only [List.length_append, List.length_cons, List.length_nil, List.append_assoc, List.cons_append, List.nil_append]
      congr 1
      omega

theorem befores_eq (l : List Oper) : befores l = l.foldl (fun acc o => acc ++ [bef1 acc o]) [] := rfl

theorem bef1_bits (acc : List Nat) (i : Nat) : ∀ (l : List Edge) (s : Nat), (l.foldl (fun s e => if Region.binds .any e then s ||| 2 ^ e.on ||| acc.getD e.on 0 else s) s).testBit i = true → s.testBit i = true ∨ ∃ e ∈ l, Region.binds .any e = true ∧ (e.on = i ∨ (acc.getD e.on 0).testBit i = true) := by
  intro l
  induction l with
  | nil => intro s h; exact .inl h
  | cons e l ih =>
    intro s h
    simp only [List.foldl_cons] at h
    rcases ih _ h with h | ⟨x, h1, h2⟩
    · split at h
      · rename_i hb
        simp only [Nat.testBit_or, Bool.or_eq_true] at h
        rcases h with (h | h) | h
        · exact .inl h
        · refine .inr ⟨e, List.mem_cons_self, hb, .inl ?_⟩
          rw [Nat.testBit_two_pow] at h
          simpa using h
        · exact .inr ⟨e, List.mem_cons_self, hb, .inr h⟩
      · exact .inl h
    · exact .inr ⟨x, List.mem_cons_of_mem _ h1, h2⟩

/-- A bit of an operation's: an edge of its own, or a bit of one that an edge of its own names. -/
theorem befores_bit {ops : Array Oper} {i j : Nat} {p : Oper} (hp : ops[j]? = some p) (h : bit (befores ops.toList) i j) : ∃ e ∈ p.after.toList, Region.binds .any e = true ∧ (e.on = i ∨ bit (befores ops.toList) i e.on) := by
  obtain ⟨r, h1, h2, h3⟩ := befores_foldl ops.toList []
  rw [← befores_eq] at h1
  simp only [List.nil_append, List.length_nil, Nat.zero_add] at h1 h3
  have hj := h3 j p (by simpa using hp)
  unfold bit at h
  rw [h1, List.getD_eq_getElem?_getD, hj, Option.getD_some] at h
  rcases bef1_bits _ i _ _ h with h | ⟨e, h4, h5, h6⟩
  · simp at h
  · refine ⟨e, h4, h5, h6.imp id fun h6 => ?_⟩
    unfold bit
    rw [h1]
    rw [List.getD_eq_getElem?_getD, List.getElem?_take] at h6
    split at h6
    · rw [List.getD_eq_getElem?_getD]; exact h6
    · simp at h6

theorem befores_edge {ops : Array Oper} {j : Nat} {p : Oper} (hp : ops[j]? = some p) {e : Edge} (he : e ∈ p.after.toList) (hb : Region.binds .any e = true) : bit (befores ops.toList) e.on j := by
  obtain ⟨r, h1, h2, h3⟩ := befores_foldl ops.toList []
  rw [← befores_eq] at h1
  simp only [List.nil_append, List.length_nil, Nat.zero_add] at h1 h3
  have hj := h3 j p (by simpa using hp)
  unfold bit
  rw [h1, List.getD_eq_getElem?_getD, hj, Option.getD_some]
  unfold bef1
  have keep : ∀ (acc : List Nat) (i : Nat) (l : List Edge) (s : Nat), s.testBit i = true → (l.foldl (fun s e => if Region.binds .any e then s ||| 2 ^ e.on ||| acc.getD e.on 0 else s) s).testBit i = true := by
    intro acc i l
    induction l with
    | nil => intro s h; exact h
    | cons x l ih =>
      intro s h
      simp only [List.foldl_cons]
      refine ih _ ?_
      split
      · simp [Nat.testBit_or, h]
      · exact h
  have go : ∀ (acc : List Nat) (l : List Edge) (s : Nat), e ∈ l → (l.foldl (fun s e => if Region.binds .any e then s ||| 2 ^ e.on ||| acc.getD e.on 0 else s) s).testBit e.on = true := by
    intro acc l
    induction l with
    | nil => intro s h; simp at h
    | cons x l ih =>
      intro s h
      simp only [List.foldl_cons]
      rcases List.mem_cons.1 h with rfl | h
      · refine keep _ _ _ _ ?_
        rw [if_pos hb]
        simp [Nat.testBit_or, Nat.testBit_two_pow]
      · exact ih _ h
  exact go _ _ _ he
end Go.Ev
