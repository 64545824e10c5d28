import Derived.Test.YtolngjaihlggnaaGreatDoorEvTopF
/-! Open loops: rules over the resolved code; what of the world has stayed. -/
namespace Go.Ev
set_option linter.unusedVariables false
set_option linter.unusedSimpArgs false
set_option linter.unusedSectionVars false

/-! ### Rules -/
/-- From every state of 'S' the code comes to an exit and a state of 'Q'. -/
def WR (P : Program) (n : Nat) (rc : RCode) (S : Act → World → Prop) (Q : Ex → Act → World → Prop) : Prop :=
  ∀ c : Code, rCode P c = rc → rc.dstOk n = true → ∀ a w, S a w → c.wp P (fun x a' w' => ∃ ex : Ex, x = ex.exit' ∧ Q ex a' w') a w

section
variable {P : Program} {n : Nat} {S : Act → World → Prop} {Q : Ex → Act → World → Prop}

theorem WR.pre {rc : RCode} {S' : Act → World → Prop} (h : WR P n rc S Q) (hs : ∀ a w, S' a w → S a w) : WR P n rc S' Q :=
  fun c h1 h2 a w h3 => h c h1 h2 a w (hs a w h3)

theorem WR.ex {rc : RCode} {ι : Sort _} {S : ι → Act → World → Prop} (h : ∀ i, WR P n rc (S i) Q) : WR P n rc (fun a w => ∃ i, S i a w) Q :=
  fun c h1 h2 a w ⟨i, h3⟩ => h i c h1 h2 a w h3

theorem wp_mono {c : Code} {Q Q' : Exit → Act → World → Prop} {a : Act} {w : World} (h : c.wp P Q a w) (hq : ∀ x a' w', Q x a' w' → Q' x a' w') : c.wp P Q' a w := by
  intro b k cs
  obtain ⟨e, a', w', h1, h2⟩ := h b k cs
  exact ⟨e, a', w', hq _ _ _ h1, h2⟩

theorem WR.post {rc : RCode} {Q' : Ex → Act → World → Prop} (h : WR P n rc S Q) (hq : ∀ x a w, Q x a w → Q' x a w) : WR P n rc S Q' :=
  fun c h1 h2 a w h3 => wp_mono (h c h1 h2 a w h3) fun x a' w' ⟨ex, e1, e2⟩ => ⟨ex, e1, hq _ _ _ e2⟩

theorem rCode_region (id : Nat) (ops : Array Oper) (d : Bool) : (∃ rl, rCode P (.region id ops d) = .reg rl) ∨ (∃ rl chk, rCode P (.region id ops d) = .drw rl chk) ∨ rCode P (.region id ops d) = .bad := by
  simp only [rCode]
  split
  · exact .inr (.inr rfl)
  · split
    · split
      · exact .inr (.inl ⟨_, _, rfl⟩)
      · exact .inr (.inr rfl)
    · exact .inl ⟨_, rfl⟩

theorem rCode_cond (x : Operand) (u v : Code) : (∃ y, rX P x = some y ∧ rCode P (.cond x u v) = .cond y (rCode P u) (rCode P v)) ∨ rCode P (.cond x u v) = .bad := by
  simp only [rCode]
  split
  · rename_i y hy; exact .inl ⟨y, hy, rfl⟩
  · exact .inr rfl

theorem inv_seq {c : Code} {x y : RCode} (h : rCode P c = .seq x y) : ∃ c1 c2, c = .seq c1 c2 ∧ rCode P c1 = x ∧ rCode P c2 = y := by
  cases c with
  | seq c1 c2 => simp only [rCode, RCode.seq.injEq] at h; exact ⟨c1, c2, rfl, h.1, h.2⟩
  | region id ops d => rcases rCode_region (P := P) id ops d with ⟨_, h1⟩ | ⟨_, _, h1⟩ | h1 <;> rw [h1] at h <;> cases h
  | cond a u v => rcases rCode_cond (P := P) a u v with ⟨_, _, h1⟩ | h1 <;> rw [h1] at h <;> cases h
  | _ => simp [rCode] at h
theorem inv_block {c : Code} {id : Nat} {x : RCode} (h : rCode P c = .block id x) : ∃ c1, c = .block id c1 ∧ rCode P c1 = x := by
  cases c with
  | block i c1 => simp only [rCode, RCode.block.injEq] at h; exact ⟨c1, by rw [h.1], h.2⟩
  | region id ops d => rcases rCode_region (P := P) id ops d with ⟨_, h1⟩ | ⟨_, _, h1⟩ | h1 <;> rw [h1] at h <;> cases h
  | cond a u v => rcases rCode_cond (P := P) a u v with ⟨_, _, h1⟩ | h1 <;> rw [h1] at h <;> cases h
  | _ => simp [rCode] at h
theorem inv_loop {c : Code} {x : RCode} (h : rCode P c = .loop x) : ∃ c1, c = .loop c1 ∧ rCode P c1 = x := by
  cases c with
  | loop c1 => simp only [rCode, RCode.loop.injEq] at h; exact ⟨c1, rfl, h⟩
  | region id ops d => rcases rCode_region (P := P) id ops d with ⟨_, h1⟩ | ⟨_, _, h1⟩ | h1 <;> rw [h1] at h <;> cases h
  | cond a u v => rcases rCode_cond (P := P) a u v with ⟨_, _, h1⟩ | h1 <;> rw [h1] at h <;> cases h
  | _ => simp [rCode] at h

theorem exit'_normal {x : Ex} (h : x.exit' = .normal) : x = .nrm := by cases x <;> simp [Ex.exit'] at h ⊢

theorem WR.seq {x y : RCode} {S1 : Act → World → Prop} (h1 : WR P n x S (fun ex a w => match ex with | .nrm => S1 a w | _ => Q ex a w)) (h2 : WR P n y S1 Q) : WR P n (.seq x y) S Q := by
  intro c hc hd a w hs
  obtain ⟨c1, c2, rfl, k1, k2⟩ := inv_seq hc
  simp only [RCode.dstOk, Bool.and_eq_true] at hd
  refine wp_seq (wp_mono (h1 c1 k1 hd.1 a w hs) ?_)
  rintro e a' w' ⟨ex, rfl, hq⟩
  cases ex with
  | nrm => exact h2 c2 k2 hd.2 a' w' hq
  | exit id => exact ⟨_, rfl, hq⟩
  | ret => exact ⟨_, rfl, hq⟩

theorem WR.block {id : Nat} {x : RCode} (h : WR P n x S (fun ex a w => match ex with | .exit i => if i = id then Q .nrm a w else Q (.exit i) a w | _ => Q ex a w)) : WR P n (.block id x) S Q := by
  intro c hc hd a w hs
  obtain ⟨c1, rfl, k1⟩ := inv_block hc
  simp only [RCode.dstOk] at hd
  refine wp_block (wp_mono (h c1 k1 hd a w hs) ?_)
  rintro e a' w' ⟨ex, rfl, hq⟩
  cases ex with
  | nrm => exact ⟨_, rfl, hq⟩
  | ret => exact ⟨_, rfl, hq⟩
  | exit i =>
    simp only [Ex.exit', Exit.inBlock]
    simp only at hq
    by_cases hi : i = id
    · rw [if_pos hi] at hq ⊢
      exact ⟨.nrm, rfl, hq⟩
    · rw [if_neg hi] at hq ⊢
      exact ⟨.exit i, rfl, hq⟩

/-- A loop: 'I k': at most 'k' rounds are left. -/
theorem WR.loop {x : RCode} (I : Nat → Act → World → Prop) (N : Nat) (h : ∀ k, k ≤ N → WR P n x (I k) (fun ex a w => match ex with | .nrm => ∃ j, j < k ∧ I j a w | _ => Q ex a w)) : WR P n (.loop x) (fun a w => ∃ k, k ≤ N ∧ I k a w) Q := by
  intro c hc hd a w ⟨k, hk, hi⟩
  obtain ⟨c1, rfl, k1⟩ := inv_loop hc
  simp only [RCode.dstOk] at hd
  refine wp_loop_rounds (k + 1) ?_
  have key : ∀ (m k : Nat), k < m → k ≤ N → ∀ a w, I k a w → Code.rounds P c1 (fun x a' w' => ∃ ex : Ex, x = ex.exit' ∧ Q ex a' w') m a w := by
    intro m
    induction m with
    | zero => intro k hk; omega
    | succ m ih =>
      intro k hk hkN a w hi
      rw [rounds_succ]
      refine wp_mono (h k hkN c1 k1 hd a w hi) ?_
      rintro e a' w' ⟨ex, rfl, hq⟩
      cases ex with
      | nrm => obtain ⟨j, hj, hij⟩ := hq; exact ih j (by omega) (by omega) a' w' hij
      | exit id => exact ⟨_, rfl, hq⟩
      | ret => exact ⟨_, rfl, hq⟩
  exact key (k + 1) k (by omega) hk a w hi

end

/-! ### What has stayed -/
structure Fr (w0 w : World) : Prop where
  size : w0.heap.size ≤ w.heap.size
  os : w.os = w0.os
  out : w.output = w0.output
  frz : ∀ a, w.frozen? a = w0.frozen? a
  same : ∀ i, i < w0.heap.size → w.heap[i]? = w0.heap[i]?

theorem Fr.refl (w : World) : Fr w w := ⟨Nat.le_refl _, rfl, rfl, fun _ => rfl, fun _ _ => rfl⟩
theorem Fr.step [Sig] {w0 w w' : World} {ρ ρ' : Rho} {h h' : H} (hf : Fr w0 w) (hr : Rel w0.heap.size ρ h w) (hx : Ext ρ h w ρ' h' w') : Fr w0 w' :=
  ⟨Nat.le_trans hf.size hx.size, hx.os.trans hf.os, hx.out.trans hf.out, fun a => (hx.frz a).trans (hf.frz a), fun i hi => by
    rw [hx.frame i (Nat.lt_of_lt_of_le hi hf.size) ?_, hf.same i hi]
    rintro b e ⟨blk, h1, h2⟩ he heq
    have hb := hr.blk b blk e h1 he
    cases blk with
    | cells cs ro =>
      obtain ⟨c, ty, fr, _, _, _, h4, _⟩ := hb
      cases ro with
      | true => cases h2
      | false => have := (h4 rfl).2; omega
    | map es => obtain ⟨fs, ck, _, _, h3⟩ := hb; omega
    | dead => cases h2⟩
theorem Fr.kept {w0 w : World} (hf : Fr w0 w) (may : MemPlace → Prop) : World.keptBut w0 w may := by
  refine ⟨hf.os, hf.out, fun i hi => ?_⟩
  rw [hf.same i hi]
  cases w0.heap[i]? with
  | none => rfl
  | some o => cases o <;> first | exact ⟨rfl, rfl, rfl, fun _ _ => rfl⟩ | exact .inr ⟨rfl, rfl⟩ | rfl

/-! ### States -/
/-- A block that the caller handed in: its name, which block of the world, from which cell on, how many cells it has. -/
structure Inp where
  nm : Nat
  rb : Nat
  off : Nat
  rsz : Nat

/-- A state at a place of the law's own code. -/
structure LS (P : Program) (ips : List Inp) (w0 : World) (n : Nat) (inst : Sig) (e : Env) (h : H) (a : Act) (w : World) : Prop where
  st : ∃ ρ, @St inst P w0.heap.size ρ n e h a w ∧ ∀ x ∈ ips, ρ x.nm = some ⟨x.rb, x.off, x.rsz⟩
  fr : Fr w0 w
  df : a.defers = []

section
variable {P : Program} {ips : List Inp} {w0 : World} {n : Nat}

/-- A stretch of code that the evaluator runs. -/
theorem WR.ev (inst : Sig) {cx : Cx} (hm : P.follows .mixedOrders = true) (hts : TsOk P cx.ts) (hft : FtOk P cx.ft) (horc : @OrcSound inst P w0.heap.size cx) {fuel d : Nat} {rc : RCode} {e : Env} {h : H} {x : Ex} {e' : Env} {h' : H}
    (hev : @evCode inst.toTab cx (@evCall inst.toTab cx fuel d) fuel rc e h = some (x, e', h')) : WR P n rc (LS P ips w0 n inst e h) (fun ex a w => ex = x ∧ LS P ips w0 n inst e' h' a w) := by
  rintro c rfl hd a w ⟨⟨ρ, s, hip⟩, hfr, hdf⟩
  refine @code_ok inst P w0.heap.size n cx (@evCall inst.toTab cx fuel d) hts (@call_ok inst P w0.heap.size cx hm hts hft horc fuel d) (@drw_ok inst P w0.heap.size cx _ hm hts (@call_ok inst P w0.heap.size cx hm hts hft horc fuel d)) fuel c ρ e h a w x e' h' _ hd hev s hdf ?_
  intro ρ' a' w' s' hx hdef
  exact ⟨x, rfl, rfl, ⟨⟨ρ', s', fun y hy => hx.le _ _ (hip y hy)⟩, hfr.step s.rel hx, hdef⟩⟩
end
end Go.Ev
