import Derived.Test.YtolngjaihlggnaaGreatDoorEvOpE
import Derived.Laws.StructEq
/-! Comparisons. -/
namespace Go.Ev
set_option linter.unusedVariables false
set_option linter.unusedSimpArgs false
set_option linter.unusedSectionVars false
variable [Sig]

/-- How values of a dynamic type are compared: by the program's own types. -/
def TsOk (P : Program) (ts : TypeId → Option Sh) : Prop := ∀ t s, ts t = some s → scSh P t = some s ∧ s ≠ .ifc ∧ s ≠ .ifcS ∧ ∃ i, P.info? t = some i ∧ i.comparable = true

section
variable {P : Program} {base : Nat} {ρ : Rho} {n : Nat} {e : Env} {h : H} {a : Act} {w : World} {cx : Cx} {o : Oper} {r : RO} {res : Res}

/-- Pointers into two blocks of one's own are two. -/
theorem sameAddr_other (w : World) {a b : Addr} {c d : Array Value} {t u : TypeId} (ha : w.heap[a.block]? = some (.cells c t (0, 0))) (hb : w.heap[b.block]? = some (.cells d u (0, 0))) (hne : a.block ≠ b.block) :
    (sameAddr a b).run P w = .ok false w := by
  have hne' : (a.block == b.block) = false := by simpa using hne
  have f1 : ∀ k, w.frozen? ⟨a.block, k, none⟩ = false := fun k => by simp [World.frozen?, ha]
  have f2 : ∀ k, w.frozen? ⟨b.block, k, none⟩ = false := fun k => by simp [World.frozen?, hb]
  have f3 : w.frozen? a = false := by simp [World.frozen?, ha]
  have f4 : w.frozen? b = false := by simp [World.frozen?, hb]
  have s1 : w.shape? a.block = some (t, c.size) := by simp [World.shape?, ha]
  have s2 : w.shape? b.block = some (u, d.size) := by simp [World.shape?, hb]
  simp [sameAddr, hne', f3, f4, noView, viewAt, s1, s2, mayBeOne, stringish, f1, f2]

theorem own_of {b : Nat} (hh : h.own b = true) : own h b ∧ ∃ cs, h.get b = some (.cells cs false) := by
  unfold H.own at hh
  split at hh
  · rename_i cs hg
    exact ⟨⟨_, hg, rfl⟩, cs, hg⟩
  · cases hh

theorem ptr_cmp (hR : Rel base ρ h w) {b o' c p : Nat} {e1 e2 : Ent} (h1 : ρ b = some e1) (h2 : ρ c = some e2) {q : Bool}
    (hev : (bif Nat.beq b c then some (Nat.beq o' p) else bif h.own b && h.own c then some false else none) = some q) :
    (sameAddr ⟨e1.rb, e1.ro + o', none⟩ ⟨e2.rb, e2.ro + p, none⟩).run P w = .ok q w := by
  cases hbc : Nat.beq b c with
  | true =>
    rw [hbc] at hev
    simp only [cond_true, Option.some.injEq] at hev
    have := nbeq hbc
    subst this
    rw [h1] at h2
    cases h2
    subst hev
    have hq : ((⟨e1.rb, e1.ro + o', none⟩ : Addr) == ⟨e1.rb, e1.ro + p, none⟩) = Nat.beq o' p := by
      rw [Bool.eq_iff_iff]
      simp only [beq_iff_eq, Addr.mk.injEq, and_true, true_and, Nat.beq_eq]
      omega
    simp only [sameAddr, beq_self_eq_true, if_true, Sem.run_pure, hq]
  | false =>
    rw [hbc] at hev
    simp only [cond_false] at hev
    cases ho : (h.own b && h.own c) with
    | false => rw [ho] at hev; simp at hev
    | true =>
      rw [ho] at hev
      simp only [cond_true, Option.some.injEq] at hev
      subst hev
      rw [Bool.and_eq_true] at ho
      obtain ⟨o1, cs, g1⟩ := own_of ho.1
      obtain ⟨o2, ds, g2⟩ := own_of ho.2
      obtain ⟨c1, t1, f1, a1, a2, a3, a4, _⟩ := hR.blk b _ e1 g1 h1
      obtain ⟨c2, t2, f2, b1, b2, b3, b4, _⟩ := hR.blk c _ e2 g2 h2
      obtain ⟨rfl, _⟩ := a4 rfl
      obtain ⟨rfl, _⟩ := b4 rfl
      refine sameAddr_other w a1 b1 fun heq => ?_
      have := hR.inj b c e1 e2 o1 o2 h1 h2 heq
      subst this
      simp at hbc

theorem sc_int {x y : V} {x' y' : Value} (hx : VRel ρ x x') (hy : VRel ρ y y') {q : Bool} (hev : evSc h .int x y = some q) : ∃ k m n, x' = .int k m ∧ y' = .int k n ∧ q = (m == n) := by
  have tab : Tab.eqi x y = some q → ∃ k m n, x' = .int k m ∧ y' = .int k n ∧ q = (m == n) := by
    intro hq
    obtain ⟨k, m, n, h1, h2, h3⟩ := Sig.eqi_ok _ _ _ hq
    have hx := vrel_conc hx
    have hy := vrel_conc hy
    rw [h1] at hx
    rw [h2] at hy
    exact ⟨k, m, n, vrel_int hx, vrel_int hy, h3⟩
  unfold evSc at hev
  split at hev
  · split at hev
    · rename_i hk
      subst hk
      cases hev
      exact ⟨_, _, _, vrel_int hx, vrel_int hy, rfl⟩
    · cases hev
  all_goals first
    | exact tab hev
    | contradiction
    | cases hev

set_option maxHeartbeats 2000000 in
theorem sc_run (hR : Rel base ρ h w) {t : TypeId} {s : Sh} (hs : scSh P t = some s) {x y : V} {x' y' : Value} (hx : VRel ρ x x') (hy : VRel ρ y y') {q : Bool} (hev : evSc h s x y = some q) (d : Nat) :
    (Op.equalIn (d + 1) t x' y').run P w = .ok q w := by
  unfold scSh at hs
  split at hs
  · rename_i k hu
    cases hs
    obtain ⟨k', m, n', rfl, rfl, rfl⟩ := sc_int hx hy hev
    simp [Op.equalIn, run_und hu]
  · rename_i hu
    cases hs
    cases hx <;> cases hy <;> simp only [evSc, reduceCtorEq, Option.some.injEq] at hev
    subst hev
    simp [Op.equalIn, run_und hu]
  · rename_i hu
    cases hs
    cases hx <;> cases hy <;> simp only [evSc, reduceCtorEq, Option.some.injEq] at hev
    subst hev
    rename_i s1 l1 h1 s2 l2 h2
    subst h1; subst h2
    simp only [Op.equalIn, Sem.run_bind, run_und hu, Result.andThen_ok, Sem.run_pure, beq_toListBytes, str_eq]
  · rename_i el hu
    simp only [Option.bind_eq_some_iff] at hs
    obtain ⟨k, hk, hs⟩ := hs
    split at hs
    · cases hs
    · rename_i hk0
      cases hs
      cases hx <;> cases hy <;> simp only [evSc, reduceCtorEq, Option.some.injEq] at hev
      · subst hev; simp [Op.equalIn, run_und hu]
      · subst hev; simp [Op.equalIn, run_und hu]
      · subst hev; simp [Op.equalIn, run_und hu]
      · rename_i b o1 e1 h1 c p e2 h2
        have := ptr_cmp (P := P) hR h1 h2 hev
        simp only [Op.equalIn, Sem.run_bind, run_und hu, Result.andThen_ok, run_size hk, ne_eq, hk0, not_false_eq_true, if_true, this]
  · rename_i ms hu
    cases hs
    cases hms : ms.isEmpty with
    | true => rw [hms] at hev; simp [evSc] at hev
    | false => rw [hms] at hev; simp [evSc] at hev
  · rename_i el hu
    cases hs
    cases hx <;> cases hy <;> simp only [evSc, reduceCtorEq, Option.some.injEq] at hev <;> subst hev <;> simp [Op.equalIn, run_und hu]
  · rename_i k el hu
    cases hs
    cases hx <;> cases hy <;> simp only [evSc, reduceCtorEq, Option.some.injEq] at hev <;> subst hev <;> simp [Op.equalIn, run_und hu]
  · rename_i p q' v hu
    cases hs
    cases hx <;> cases hy <;> simp only [evSc, reduceCtorEq, Option.some.injEq] at hev <;> subst hev <;> simp [Op.equalIn, run_und hu]
  · cases hs

theorem ifc_und {t : TypeId} {s : Sh} (hs : scSh P t = some s) (hs2 : s = .ifc ∨ s = .ifcS) : ∃ ms, P.underlying t = some (.interface ms) := by
  unfold scSh at hs
  split at hs
  case h_5 ms hu => exact ⟨ms, hu⟩
  case h_4 el hu =>
    simp only [Option.bind_eq_some_iff] at hs
    obtain ⟨k, hk, hs⟩ := hs
    split at hs
    · cases hs
    · cases hs; simp at hs2
  case h_9 => cases hs
  all_goals (cases hs; simp at hs2)

theorem ifc_run (hR : Rel base ρ h w) {ts : TypeId → Option Sh} (hts : TsOk P ts) {t : TypeId} {ms : Array (String × TypeId)} (hu : P.underlying t = some (.interface ms)) {x y : V} {x' y' : Value} (hx : VRel ρ x x') (hy : VRel ρ y y') {q : Bool}
    (hev : evIfc h ts x y = some q) (d : Nat) : (Op.equalIn (d + 1 + 1) t x' y').run P w = .ok q w := by
  cases hx <;> cases hy <;> simp only [evIfc, reduceCtorEq, Option.some.injEq] at hev
  · subst hev
    generalize d + 1 = D
    simp only [Op.equalIn, Sem.run_bind, run_und hu, Result.andThen_ok, Sem.run_pure]
  · subst hev
    generalize d + 1 = D
    simp only [Op.equalIn, Sem.run_bind, run_und hu, Result.andThen_ok, Sem.run_pure]
  · subst hev
    generalize d + 1 = D
    simp only [Op.equalIn, Sem.run_bind, run_und hu, Result.andThen_ok, Sem.run_pure]
  · rename_i t1 v1 v1' r1 t2 v2 v2' r2
    cases hb : Nat.beq t1 t2 with
    | false =>
      rw [hb] at hev
      simp only [cond_false, Option.some.injEq] at hev
      subst hev
      have hne : t1 ≠ t2 := fun hh => by rw [nbt hh] at hb; cases hb
      generalize d + 1 = D
      simp only [Op.equalIn, Sem.run_bind, run_und hu, Result.andThen_ok, Sem.run_pure, ne_eq, hne, not_false_eq_true, if_true]
    | true =>
      rw [hb] at hev
      simp only [cond_true, Option.bind_eq_some_iff] at hev
      obtain ⟨s2, h3, h4⟩ := hev
      have := nbeq hb
      subst this
      obtain ⟨h5, h6, h7, i, h8, h9⟩ := hts _ _ h3
      have hr := sc_run hR h5 r1 r2 h4 d
      generalize d + 1 = D at hr ⊢
      simp only [Op.equalIn, Sem.run_bind, run_und hu, Result.andThen_ok, ne_eq, not_true_eq_false, if_false, run_tinfo h8, h9, Bool.not_true, Bool.false_eq_true, hr]

theorem sh_run (hR : Rel base ρ h w) {ts : TypeId → Option Sh} (hts : TsOk P ts) {t : TypeId} {s s' : Sh} (hs : scSh P t = some s) (hss : s' = s ∨ (s = .ifcS ∧ s' = .ifc)) {x y : V} {x' y' : Value} (hx : VRel ρ x x') (hy : VRel ρ y y') {q : Bool} (hev : evSh h ts s' x y = some q) (d : Nat) :
    (Op.equalIn (d + 1 + 1) t x' y').run P w = .ok q w := by
  by_cases hc : s' = .ifc ∨ s' = .ifcS
  · obtain ⟨ms, hu⟩ := ifc_und hs (by rcases hss with rfl | ⟨rfl, rfl⟩ <;> simp_all)
    refine ifc_run hR hts hu hx hy ?_ d
    rcases hc with rfl | rfl
    · exact hev
    · simp only [evSh] at hev
      cases hn : (x.isNili && y.isNili) with
      | true => rw [hn] at hev; simp at hev
      | false => rw [hn] at hev; simpa using hev
  · have hs' : s' = s := by
      rcases hss with h1 | ⟨h1, h2⟩
      · exact h1
      · exact absurd (.inl h2) hc
    subst hs'
    have : evSc h s' x y = some q := by
      unfold evSh at hev
      split at hev
      · exact absurd (.inl rfl) hc
      · exact absurd (.inr rfl) hc
      · exact hev
    exact sc_run hR hs hx hy this (d + 1)
end
end Go.Ev
