import Derived.Test.YtolngjaihlggnaaGreatDoorEvSymC
/-! Open loops: the law's own code, cut into pieces. -/
namespace Go.Ev
set_option linter.unusedVariables false
set_option linter.unusedSimpArgs false
set_option linter.unusedSectionVars false

/-- The first 'k' of a row of pieces; what is behind them. -/
def FCode.pre : Nat → FCode → FCode
  | 0, _ => .skip
  | k + 1, .seq a b => .seq a (FCode.pre k b)
  | _, _ => .bad
def FCode.suf : Nat → FCode → FCode
  | 0, c => c
  | k + 1, .seq _ b => FCode.suf k b
  | _, _ => .bad
def FCode.fst : FCode → FCode
  | .seq a _ => a
  | _ => .bad
def FCode.snd : FCode → FCode
  | .seq _ b => b
  | _ => .bad
def FCode.inn : FCode → FCode
  | .block _ b => b
  | .loop b => b
  | _ => .bad

section
variable {P : Program} {ips : List Inp} {w0 : World} {n : Nat} {cx : FCx} {fuel d : Nat}

theorem WR.evPre {inst : Sig} (X : Ctx P w0 cx inst) {Q : Ex → Act → World → Prop} : ∀ (k : Nat) (c : FCode) (e : Env) (h : H) (e' : Env) (h' : H),
    @evCode inst.toTab cx.toCx (@evCall inst.toTab cx.toCx fuel d) fuel (FCode.pre k c).toRC e h = some (.nrm, e', h') → WR P n (FCode.suf k c).toRC (LS P ips w0 n inst e' h') Q → WR P n c.toRC (LS P ips w0 n inst e h) Q := by
  intro k
  induction k with
  | zero =>
    intro c e h e' h' hev hw
    simp only [FCode.pre, FCode.toRC, evCode, Option.some.injEq, Prod.mk.injEq, true_and] at hev
    obtain ⟨rfl, rfl⟩ := hev
    exact hw
  | succ k ih =>
    intro c e h e' h' hev hw
    cases c with
    | seq a b =>
      simp only [FCode.pre, FCode.toRC, evCode] at hev
      cases ha : @evCode inst.toTab cx.toCx (@evCall inst.toTab cx.toCx fuel d) fuel a.toRC e h with
      | none => rw [ha] at hev; cases hev
      | some q =>
        obtain ⟨x, e1, h1⟩ := q
        rw [ha] at hev
        cases x with
        | nrm =>
          simp only at hev
          refine WR.seq ((WR.ev inst X.hm X.hts X.hft X.horc ha).post fun ex a w ⟨g1, g2⟩ => ?_) (ih b e1 h1 e' h' hev hw)
          subst g1
          exact g2
        | exit i => cases hev
        | ret => cases hev
    | _ => simp [FCode.pre, FCode.toRC, evCode] at hev

/-- The first pieces come to an instance of a pattern; the rest goes on from there. -/
theorem WR.patPre {i1 i2 : Sig} (X : Ctx P w0 cx i1) {σ : Nat → V} (hv : ∀ i, i2.val i = V.num i1.val (σ i)) {G : Nat} (hG : G = P.globals.size) {ipn : List Nat} (hip : ∀ x ∈ ips, x.nm ∈ ipn) {c : FCode} {p q : Pat} {Q : Ex → Act → World → Prop}
    (k : Nat) (hr : endPat G ipn σ .nrm q (runF i1.toTab cx fuel d (FCode.pre k c) p) = true) (hw : WR P n (FCode.suf k c).toRC (LS P ips w0 n i2 q.e q.h) Q) : WR P n c.toRC (LS P ips w0 n i1 p.e p.h) Q := by
  have hx := @codeF_ok i1.toTab cx.toCx _ _ (@fCall_ok i1.toTab cx fuel d) fuel (FCode.pre k c) p.fe p.e p.h (envE p.pe)
  change GoodX _ (runF i1.toTab cx fuel d (FCode.pre k c) p) at hx
  cases hk : runF i1.toTab cx fuel d (FCode.pre k c) p with
  | nrm fe h =>
    rw [hk] at hr hx
    obtain ⟨e', k1, k2⟩ := hx
    exact WR.evPre X k c _ _ _ _ k1 (hw.pre fun a w hs => isPat_ok hv hG hip k2 hr hs)
  | _ => rw [hk] at hr; cases hr

theorem WR.seqF {a b : FCode} {S S1 : Act → World → Prop} {Q : Ex → Act → World → Prop} (h1 : WR P n a.toRC S (fun ex a w => match ex with | .nrm => S1 a w | _ => Q ex a w)) (h2 : WR P n b.toRC S1 Q) : WR P n (FCode.seq a b).toRC S Q := WR.seq h1 h2
theorem WR.blockF {id : Nat} {b : FCode} {S : Act → World → Prop} {Q : Ex → Act → World → Prop} (h : WR P n b.toRC S (fun ex a w => match ex with | .exit i => if i = id then Q .nrm a w else Q (.exit i) a w | _ => Q ex a w)) : WR P n (FCode.block id b).toRC S Q := WR.block h
theorem WR.loopF {b : FCode} {Q : Ex → Act → World → Prop} (I : Nat → Act → World → Prop) (N : Nat) (h : ∀ k, k ≤ N → WR P n b.toRC (I k) (fun ex a w => match ex with | .nrm => ∃ j, j < k ∧ I j a w | _ => Q ex a w)) : WR P n (FCode.loop b).toRC (fun a w => ∃ k, k ≤ N ∧ I k a w) Q := WR.loop I N h
end

/-- A slice of the caller's, of numbers: where it lies. -/
structure SIn (W : World) (v : Value) (nm : Nat) (ips : List Inp) (L : Nat) (k : IntKind) (esz : Nat) (Z : Nat → Int) : Prop where
  val : (L = 0 ∧ ∃ p cap, v = .slice p 0 cap) ∨ ∃ rb off cap rsz c ty fr, v = .slice (some ⟨rb, off, none⟩) L cap ∧ ⟨nm, rb, off, rsz⟩ ∈ ips ∧ W.heap[rb]? = some (.cells c ty fr) ∧ c.size = rsz ∧ off + L * esz ≤ rsz ∧ ∀ i, i < L * esz → c[off + i]? = some (.int k (Z i))
/-- What the caller handed in for one slice. -/
def IpOk (W : World) (nm : Nat) (ips : List Inp) : Prop := (∀ x y, x ∈ ips → y ∈ ips → x = y) ∧ ∀ x ∈ ips, x.nm = nm ∧ ∃ c ty fr, W.heap[x.rb]? = some (.cells c ty fr) ∧ c.size = x.rsz ∧ x.off ≤ x.rsz
theorem rhoIn_find {W : World} {G : Nat} {ips : List Inp} (hG : ∀ x ∈ ips, G < x.nm) (hu : ∀ x y, x ∈ ips → y ∈ ips → x.nm = y.nm → x = y) : ∀ x ∈ ips, rhoIn W G ips x.nm = some ⟨x.rb, x.off, x.rsz⟩ := by
  intro x hx
  have := hG x hx
  unfold rhoIn
  rw [if_neg (by omega)]
  cases hf : ips.find? fun y => y.nm == x.nm with
  | none =>
    have := List.find?_eq_none.1 hf x hx
    simp at this
  | some y =>
    have h1 := List.mem_of_find?_eq_some hf
    have h2 : y.nm = x.nm := by simpa using List.find?_some hf
    rw [hu y x h1 hx h2]
    rfl

/-- More of a slice that the caller handed in is looked at: of patterns that name it first. -/
theorem LS.moreP {P : Program} {ips : List Inp} {w0 : World} {n : Nat} {inst : Sig} {x : Inp} (hx : x ∈ ips) {hh nn : Nib} {pe : List (Nib × Nib × V)} {pb : List (Nat × Blk)} {nx nm j lo lo' : Nat} {cs cs' : List V} (hnm : x.nm = nm)
    {c : Array Value} {ty : TypeId} {fr : Nat × Nat} (hw0 : w0.heap[x.rb]? = some (.cells c ty fr)) (hsz : c.size = x.rsz)
    (hL : (lo' : Int) ≤ inst.val j) (hlen : x.off + cs'.length ≤ c.size) (hcs : ∀ (q : Nat) v, cs'[q]? = some v → ∃ y, c[x.off + q]? = some y ∧ ∀ ρ, @VRel inst ρ v y)
    {a : Act} {w : World} (hs : LS P ips w0 n inst (Pat.mk ((hh, nn, .slv nm 0 j lo) :: pe) ((nm, .cells cs true) :: pb) nx).e (Pat.mk ((hh, nn, .slv nm 0 j lo) :: pe) ((nm, .cells cs true) :: pb) nx).h a w) :
    LS P ips w0 n inst (Pat.mk ((hh, nn, .slv nm 0 j lo') :: pe) ((nm, .cells cs' true) :: pb) nx).e (Pat.mk ((hh, nn, .slv nm 0 j lo') :: pe) ((nm, .cells cs' true) :: pb) nx).h a w := by
  refine LS.more (inst := inst) (e := (Pat.mk ((hh, nn, .slv nm 0 j lo) :: pe) ((nm, .cells cs true) :: pb) nx).e) (h := (Pat.mk ((hh, nn, .slv nm 0 j lo) :: pe) ((nm, .cells cs true) :: pb) nx).h) (e' := (Pat.mk ((hh, nn, .slv nm 0 j lo') :: pe) ((nm, .cells cs' true) :: pb) nx).e) (h' := (Pat.mk ((hh, nn, .slv nm 0 j lo') :: pe) ((nm, .cells cs' true) :: pb) nx).h) (t0 := tnat hh nn) (lo := lo) hx hnm (T.get_set_same _ _ _) (fun t u ht => ?_) (fun b q hb => ?_) (Nat.le_refl _) hw0 hsz hL hlen hcs hs
  · by_cases h0 : tnat hh nn = t
    · subst h0
      rw [show (Pat.mk ((hh, nn, .slv nm 0 j lo') :: pe) ((nm, .cells cs' true) :: pb) nx).e.get (tnat hh nn) = some (.slv nm 0 j lo') from T.get_set_same _ _ _] at ht
      exact .inr ⟨rfl, (Option.some.inj ht).symm⟩
    · exact .inl ((T.get_set_ne _ _ h0).trans ((T.get_set_ne _ _ h0).symm.trans ht))
  · by_cases h0 : nm = b
    · subst h0
      rw [show (Pat.mk ((hh, nn, .slv nm 0 j lo') :: pe) ((nm, .cells cs' true) :: pb) nx).h.get nm = some (.cells cs' true) from T.get_set_same _ _ _] at hb
      exact .inr ⟨rfl, (Option.some.inj hb).symm⟩
    · exact .inl ((T.get_set_ne _ _ h0).trans ((T.get_set_ne _ _ h0).symm.trans hb))

/-- Less is known. -/
theorem LS.less {P : Program} {ips : List Inp} {w0 : World} {n : Nat} {inst : Sig} {e e' : Env} {h h' : H} (he : ∀ t v, e'.get t = some v → e.get t = some v) (hh : ∀ b k, h'.get b = some k → h.get b = some k) (hnx : h.nx ≤ h'.nx)
    {a : Act} {w : World} (hs : LS P ips w0 n inst e h a w) : LS P ips w0 n inst e' h' a w := by
  obtain ⟨⟨ρ, ⟨spins, ⟨senv1, senv2⟩, ⟨sblk, sdom, sinj, ssz⟩⟩, hρ⟩, hfr, hdf⟩ := hs
  exact ⟨⟨ρ, ⟨spins, ⟨senv1, fun t v ht => senv2 t v (he t v ht)⟩, ⟨fun b k e1 h1 h2 => sblk b k e1 (hh b k h1) h2, fun b e1 h1 => Nat.lt_of_lt_of_le (sdom b e1 h1) hnx,
    fun b b' e1 e2 ⟨k1, g1, o1⟩ ⟨k2, g2, o2⟩ => sinj b b' e1 e2 ⟨k1, hh _ _ g1, o1⟩ ⟨k2, hh _ _ g2, o2⟩, ssz⟩⟩, hρ⟩, hfr, hdf⟩
end Go.Ev
