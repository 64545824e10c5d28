import Derived.Test.YtolngjaihlggnaaGreatDoorEvSymB
/-! Open loops: pieces run by the fast evaluator; the law's beginning and its end; more of the caller's slices. -/
namespace Go.Ev
set_option linter.unusedVariables false
set_option linter.unusedSimpArgs false
set_option linter.unusedSectionVars false

/-- A piece of code, run from a pattern. -/
noncomputable def runF (t : Tab) (cx : FCx) (fuel d : Nat) (c : FCode) (p : Pat) : FEx := fCode t cx.ts (fCall t cx fuel d) fuel c p.fe p.h

/-- The run ends so, in an instance of the pattern. -/
noncomputable def endPat (G : Nat) (ipn : List Nat) (σ : Nat → V) (x : Ex) (q : Pat) (r : FEx) : Bool :=
  match x, r with
  | .nrm, .nrm fe h => isPat G ipn σ q fe h
  | .exit i, .exit j fe h => Nat.beq i j && isPat G ipn σ q fe h
  | .ret, .ret fe h => isPat G ipn σ q fe h
  | _, _ => false

def isT1 (o : OL) : Bool :=
  match o with
  | .is [.bool true] => true
  | _ => false
/-- The run ends in 'return true'. -/
noncomputable def endTrue (rs : List FRR) (r : FEx) : Bool :=
  match r with
  | .ret fe h => isT1 (fRess rs fe h)
  | .nrm fe h => isT1 (fRess rs fe h)
  | _ => false

/-- The law has come to 'true'. -/
def LT (P : Program) (ips : List Inp) (w0 : World) (n : Nat) (rs : List RRes) (a : Act) (w : World) : Prop :=
  ∃ (inst : Sig) (e : Env) (h : H), LS P ips w0 n inst e h a w ∧ evRess e h rs = some [.bool true]

theorem isT1_ok {o : OL} (h : isT1 o = true) : o = .is [.bool true] := by
  unfold isT1 at h
  split at h
  · rfl
  · cases h

/-- What is used of the program, at every piece. -/
structure Ctx (P : Program) (w0 : World) (cx : FCx) (inst : Sig) : Prop where
  hm : P.follows .mixedOrders = true
  hts : TsOk P cx.ts
  hft : FtOk P (cx.ft.map FFunc.toRF)
  horc : @OrcSound inst P w0.heap.size cx.toCx

section
variable {P : Program} {ips : List Inp} {w0 : World} {n : Nat} {cx : FCx} {fuel d : Nat}

theorem WR.pat {i1 i2 : Sig} (X : Ctx P w0 cx i1) {σ : Nat → V} (hv : ∀ i, i2.val i = V.num i1.val (σ i)) {G : Nat} (hG : G = P.globals.size) {ipn : List Nat} (hip : ∀ x ∈ ips, x.nm ∈ ipn) {c : FCode} {p q : Pat} {x : Ex}
    (hr : endPat G ipn σ x q (runF i1.toTab cx fuel d c p) = true) : WR P n c.toRC (LS P ips w0 n i1 p.e p.h) (fun ex a w => ex = x ∧ LS P ips w0 n i2 q.e q.h a w) := by
  have hx := @codeF_ok i1.toTab cx.toCx _ _ (@fCall_ok i1.toTab cx fuel d) fuel c p.fe p.e p.h (envE p.pe)
  change GoodX _ (runF i1.toTab cx fuel d c p) at hx
  cases hk : runF i1.toTab cx fuel d c p with
  | no => rw [hk] at hr; cases x <;> cases hr
  | nrm fe h =>
    rw [hk] at hr hx
    cases x with
    | nrm =>
      obtain ⟨e', k1, k2⟩ := hx
      exact (WR.ev i1 X.hm X.hts X.hft X.horc k1).post fun ex a w ⟨h1, h2⟩ => ⟨h1, isPat_ok hv hG hip k2 hr h2⟩
    | exit i => cases hr
    | ret => cases hr
  | exit j fe h =>
    rw [hk] at hr hx
    cases x with
    | exit i =>
      simp only [endPat, Bool.and_eq_true] at hr
      have hij := nbeq hr.1
      subst hij
      obtain ⟨e', k1, k2⟩ := hx
      exact (WR.ev i1 X.hm X.hts X.hft X.horc k1).post fun ex a w ⟨h1, h2⟩ => ⟨h1, isPat_ok hv hG hip k2 hr.2 h2⟩
    | nrm => cases hr
    | ret => cases hr
  | ret fe h =>
    rw [hk] at hr hx
    cases x with
    | ret =>
      obtain ⟨e', k1, k2⟩ := hx
      exact (WR.ev i1 X.hm X.hts X.hft X.horc k1).post fun ex a w ⟨h1, h2⟩ => ⟨h1, isPat_ok hv hG hip k2 hr h2⟩
    | exit i => cases hr
    | nrm => cases hr

theorem WR.fin {i1 : Sig} (X : Ctx P w0 cx i1) {c : FCode} {p : Pat} {rs : List FRR}
    (hr : endTrue rs (runF i1.toTab cx fuel d c p) = true) : WR P n c.toRC (LS P ips w0 n i1 p.e p.h) (fun ex a w => (ex = .nrm ∨ ex = .ret) ∧ LT P ips w0 n (rs.map FRR.toRR) a w) := by
  have hx := @codeF_ok i1.toTab cx.toCx _ _ (@fCall_ok i1.toTab cx fuel d) fuel c p.fe p.e p.h (envE p.pe)
  change GoodX _ (runF i1.toTab cx fuel d c p) at hx
  cases hk : runF i1.toTab cx fuel d c p with
  | no => rw [hk] at hr; cases hr
  | exit j fe h => rw [hk] at hr; cases hr
  | nrm fe h =>
    rw [hk] at hr hx
    obtain ⟨e', k1, k2⟩ := hx
    refine (WR.ev i1 X.hm X.hts X.hft X.horc k1).post fun ex a w ⟨h1, h2⟩ => ⟨.inl h1, i1, e', h, h2, ?_⟩
    rw [@ress_ok i1.toTab fe e' h k2 rs, isT1_ok hr]; rfl
  | ret fe h =>
    rw [hk] at hr hx
    obtain ⟨e', k1, k2⟩ := hx
    refine (WR.ev i1 X.hm X.hts X.hft X.horc k1).post fun ex a w ⟨h1, h2⟩ => ⟨.inr h1, i1, e', h, h2, ?_⟩
    rw [@ress_ok i1.toTab fe e' h k2 rs, isT1_ok hr]; rfl

/-- Other tables, the same numbers. -/
theorem LS.same {i1 i2 : Sig} (hv : ∀ i, i2.val i = i1.val i) {e : Env} {h : H} {a : Act} {w : World} (hs : LS P ips w0 n i1 e h a w) : LS P ips w0 n i2 e h a w := by
  have vr : ∀ {ρ : Rho} {v : V} {x : Value}, @VRel i1 ρ v x → @VRel i2 ρ v x := by
    intro ρ v x hx
    induction hx with
    | bool b => exact @VRel.bool i2 _ _
    | int k m => exact @VRel.int i2 _ _ _
    | sym k i => have := @VRel.sym i2 ρ k i; rw [hv i] at this; exact this
    | str s l hl => exact @VRel.str i2 _ s l hl
    | nilp => exact @VRel.nilp i2 _
    | ptr b o e he => exact @VRel.ptr i2 _ _ _ e he
    | nils => exact @VRel.nils i2 _
    | slc b o len cap sz e ro' cap' he hs => exact @VRel.slc i2 _ _ _ _ _ _ e ro' cap' he hs
    | nilm => exact @VRel.nilm i2 _
    | map r e he => exact @VRel.map i2 _ _ e he
    | nilf => exact @VRel.nilf i2 _
    | fn f aa c a' c' la lc _ _ ih1 ih2 => exact @VRel.fn i2 _ f aa c a' c' la lc ih1 ih2
    | nili => exact @VRel.nili i2 _
    | ifc t v v' _ ih => exact @VRel.ifc i2 _ t v v' ih
    | agg aa a' la _ ih => exact @VRel.agg i2 _ aa a' la ih
    | tup aa a' la _ ih => exact @VRel.tup i2 _ aa a' la ih
    | top v' hh => exact @VRel.top i2 _ v' hh
    | slv b o i lo e len cap' he hl hlo => exact @VRel.slv i2 _ b o i lo e len cap' he ((hv i).trans hl) hlo
    | slvn b o i pp cp hl => exact @VRel.slvn i2 _ b o i pp cp ((hv i).trans hl)
  have lr : ∀ {ρ : Rho} {l : List V} {xs : List Value}, @LRel i1 ρ l xs → @LRel i2 ρ l xs := fun hl => ⟨hl.1, fun i x y hx hy => vr (hl.2 i x y hx hy)⟩
  obtain ⟨⟨ρ, ⟨spins, ⟨senv1, senv2⟩, ⟨sblk, sdom, sinj, ssz⟩⟩, hρ⟩, hfr, hdf⟩ := hs
  refine ⟨⟨ρ, ⟨spins, ⟨senv1, fun t v ht => ?_⟩, ⟨fun b k e' h1 h2 => ?_, sdom, sinj, ssz⟩⟩, hρ⟩, hfr, hdf⟩
  · obtain ⟨v', k1, k2⟩ := senv2 t v ht
    exact ⟨v', k1, vr k2⟩
  · have hb := sblk b k e' h1 h2
    cases k with
    | cells cs ro =>
      obtain ⟨c, ty, fr, g1, g2, ⟨g31, g32⟩, g4⟩ := hb
      exact ⟨c, ty, fr, g1, g2, ⟨g31, lr g32⟩, g4⟩
    | map es =>
      obtain ⟨fs, ck, g1, ⟨m1, m2, m3⟩, g3⟩ := hb
      exact ⟨fs, ck, g1, @MapRel.mk i2 _ _ _ m1 (lr m2) (lr m3), g3⟩
    | dead => trivial

/-- More of a slice that the caller handed in is looked at. -/
theorem LS.more {inst : Sig} {e e' : Env} {h h' : H} {t0 nm j lo lo' : Nat} {cs : List V} {x : Inp} (hx : x ∈ ips) (hnm : x.nm = nm)
    (he0 : e.get t0 = some (.slv nm 0 j lo)) (he : ∀ t v, e'.get t = some v → e.get t = some v ∨ (t = t0 ∧ v = .slv nm 0 j lo'))
    (hh : ∀ b k, h'.get b = some k → h.get b = some k ∨ (b = nm ∧ k = .cells cs true)) (hnx : h.nx ≤ h'.nx)
    {c : Array Value} {ty : TypeId} {fr : Nat × Nat} (hw0 : w0.heap[x.rb]? = some (.cells c ty fr)) (hsz : c.size = x.rsz)
    (hL : (lo' : Int) ≤ inst.val j) (hlen : x.off + cs.length ≤ c.size) (hcs : ∀ (q : Nat) v, cs[q]? = some v → ∃ y, c[x.off + q]? = some y ∧ ∀ ρ, @VRel inst ρ v y)
    {a : Act} {w : World} (hs : LS P ips w0 n inst e h a w) : LS P ips w0 n inst e' h' a w := by
  obtain ⟨⟨ρ, ⟨spins, ⟨senv1, senv2⟩, ⟨sblk, sdom, sinj, ssz⟩⟩, hρ⟩, hfr, hdf⟩ := hs
  have hρx := hρ x hx
  rw [hnm] at hρx
  have hlt : x.rb < w0.heap.size := (Array.getElem?_eq_some_iff.1 hw0).1
  refine ⟨⟨ρ, ⟨spins, ⟨senv1, fun t v ht => ?_⟩, ⟨fun b k e1 h1 h2 => ?_, fun b e1 h1 => Nat.lt_of_lt_of_le (sdom b e1 h1) hnx, ?_, ssz⟩⟩, hρ⟩, hfr, hdf⟩
  · rcases he t v ht with h1 | ⟨rfl, rfl⟩
    · exact senv2 t v h1
    · obtain ⟨v', k1, k2⟩ := senv2 _ _ he0
      refine ⟨v', k1, ?_⟩
      cases k2 with
      | slv _ _ _ _ e1 len cap' h1 hl hlo =>
        rw [hρx] at h1
        cases h1
        exact @VRel.slv inst _ _ _ _ _ _ len cap' hρx hl (by rw [hl] at hL; omega)
      | slvn _ _ _ pp cp hl =>
        have : lo' = 0 := by rw [hl] at hL; omega
        subst this
        exact @VRel.slvn inst _ _ _ _ pp cp hl
  · rcases hh b k h1 with h3 | ⟨rfl, rfl⟩
    · exact sblk b k e1 h3 h2
    · rw [hρx] at h2
      cases h2
      refine ⟨c, ty, fr, (hfr.same _ hlt).trans hw0, hsz, ⟨by simpa using hlen, ⟨?_, ?_⟩⟩, fun hh => (by cases hh), fun _ => hlt⟩
      · simp only [List.length_take, List.length_drop, Array.length_toList]
        omega
      · intro q v y hq hy
        obtain ⟨y', k1, k2⟩ := hcs q v hq
        have hql : q < cs.length := (List.getElem?_eq_some_iff.1 hq).1
        rw [List.getElem?_take, if_pos hql, List.getElem?_drop] at hy
        have : c.toList[x.off + q]? = some y' := by rw [Array.getElem?_toList]; exact k1
        rw [this] at hy
        cases hy
        exact k2 ρ
  · rintro b b' e1 e2 ⟨k1, g1, o1⟩ ⟨k2, g2, o2⟩ r1 r2 heq
    have own : ∀ {b : Nat} {k : Blk}, h'.get b = some k → k.owned = true → Ev.own h b := by
      intro b k g o
      rcases hh b k g with h3 | ⟨_, rfl⟩
      · exact ⟨k, h3, o⟩
      · cases o
    exact sinj b b' e1 e2 (own g1 o1) (own g2 o2) r1 r2 heq

end

/-! ### The beginning and the end -/
/-- The law's own call. -/
theorem calls_of_wr {P : Program} {ips : List Inp} {W : World} {f : FuncId} {ff : FFunc} (hf : rFunc P f = some ff.toRF) (inst : Sig) {ρ : Rho} {h : H} (hp : Pins P ρ) (hr : @Rel inst W.heap.size ρ h W)
    (hi : ∀ x ∈ ips, ρ x.nm = some ⟨x.rb, x.off, x.rsz⟩) {az : List V} {az' : List Value} (ha : @LRel inst ρ az az')
    (hw : ∀ n, WR P n ff.body.toRC (LS P ips W n inst (envOf az 0 .nil) h) (fun ex a w => (ex = .nrm ∨ ex = .ret) ∧ LT P ips W n (ff.res.map FRR.toRR) a w)) :
    Calls P f az'.toArray W fun r w' => r = .returned (.bool true) ∧ Fr W w' := by
  unfold rFunc at hf
  split at hf
  · cases hf
  · rename_i hg
    simp only [Option.bind_eq_some_iff] at hf
    obtain ⟨fn, h1, c, h2, h3⟩ := hf
    split at h3
    · rename_i hd
      simp only [Option.map_eq_some_iff] at h3
      obtain ⟨rs, h4, h5⟩ := h3
      have hb : rCode P c = ff.body.toRC := congrArg RFunc.body h5
      have hrs : rs = ff.res.map FRR.toRR := congrArg RFunc.res h5
      subst hrs
      refine calls_of_wp h1 h2 ?_
      have s : @St inst P W.heap.size ρ fn.ntmps (envOf az 0 .nil) h { tmps := az'.toArray ++ Array.replicate (fn.ntmps - az'.toArray.size) undef, defers := [] } W := by
        refine ⟨hp, ⟨by simp; omega, fun t v hv => ?_⟩, hr⟩
        rcases envOf_get az 0 .nil t v hv with ⟨_, h5⟩ | ⟨_, h5⟩
        · rw [Nat.sub_zero] at h5
          obtain ⟨y, h6, h7⟩ := @LRel.get inst _ _ _ ha _ _ h5
          refine ⟨y, ?_, h7⟩
          have hlt : t < az'.length := (List.getElem?_eq_some_iff.1 h6).1
          rw [Array.getElem?_append_left (by simpa using hlt)]
          simpa using h6
        · simp [T.get] at h5
      have hS : LS P ips W fn.ntmps inst (envOf az 0 .nil) h { tmps := az'.toArray ++ Array.replicate (fn.ntmps - az'.toArray.size) undef, defers := [] } W := ⟨⟨ρ, s, hi⟩, Fr.refl W, rfl⟩
      rw [hb] at hd
      refine wp_mono (hw fn.ntmps c hb hd _ W hS) ?_
      rintro x a' w' ⟨ex, rfl, hex, inst', e', h', hls, hres⟩
      obtain ⟨⟨ρ', s', _⟩, hfr, hdf⟩ := hls
      obtain ⟨v', h8, h9⟩ := @results_run inst' P W.heap.size ρ' fn.ntmps e' h' a' w' s' fn _ h4 _ hres
      have hv' : v' = .bool true := by
        have : @VRel inst' ρ' (.bool true) v' := h9
        cases this
        rfl
      subst hv'
      have : a'.defers = [] ∧ ∃ v, (results fn a'.tmps).run P w' = .ok v w' ∧ (Ending.returned v) = .returned (.bool true) ∧ Fr W w' := ⟨hdf, _, h8, rfl, hfr⟩
      rcases hex with rfl | rfl
      · exact this
      · exact this
    · cases h3

/-- The world at the call's beginning: the listed variable, and the blocks that the caller handed in (not looked into yet). -/
def pbIn (g G rt errT : Nat) (nms : List Nat) : List (Nat × Blk) := (g, .cells [.ifc rt (.agg [.ptr G errT])] true) :: nms.map fun b => (b, .cells [] true)
def rhoIn (W : World) (G : Nat) (ips : List Inp) : Rho := fun b => if b ≤ G then rhoMin W G b else (ips.find? fun x => x.nm == b).map fun x => ⟨x.rb, x.off, x.rsz⟩

theorem pinsIn {P : Program} (W : World) {G : Nat} (ips : List Inp) (hG : G = P.globals.size) : Pins P (rhoIn W G ips) := fun g hg => by
  obtain ⟨e, h1, h2⟩ := @pinsMin (sigK (fun _ => 0) [] [] (fun x hx => by cases hx) (fun x hx => by cases hx)) P W G hG g hg
  exact ⟨e, by unfold rhoIn; rw [if_pos (by omega)]; exact h1, h2⟩

theorem relIn {inst : Sig} {W : World} {g G rt errT : Nat} (hg : g ≤ G) (hc : W.cell? ⟨g, 0, none⟩ = some (.iface rt (.agg #[.pointer (some ⟨G, errT, none⟩)]))) {ips : List Inp} {nms : List Nat} {nx : Nat}
    (hn : ∀ b ∈ nms, G < b ∧ b < nx) (hGn : G < nx) (hin : ∀ x ∈ ips, x.nm ∈ nms ∧ ∃ c ty fr, W.heap[x.rb]? = some (.cells c ty fr) ∧ c.size = x.rsz ∧ x.off ≤ x.rsz) :
    @Rel inst W.heap.size (rhoIn W G ips) (hOf (pbIn g G rt errT nms) nx) W := by
  have hmin := @relMin inst W g G rt errT hg hc
  have mono : ∀ b e, rhoMin W G b = some e → rhoIn W G ips b = some e := by
    intro b e h
    unfold rhoIn
    by_cases hb : b ≤ G
    · rw [if_pos hb]; exact h
    · unfold rhoMin at h; rw [if_neg hb] at h; cases h
  have hfind : ∀ b e, ¬ b ≤ G → rhoIn W G ips b = some e → ∃ x ∈ ips, x.nm = b ∧ e = ⟨x.rb, x.off, x.rsz⟩ := by
    intro b e hb h
    unfold rhoIn at h
    rw [if_neg hb, Option.map_eq_some_iff] at h
    obtain ⟨x, h1, h2⟩ := h
    exact ⟨x, List.mem_of_find?_eq_some h1, by simpa using List.find?_some h1, h2.symm⟩
  refine @Rel.mk inst _ _ _ _ ?_ ?_ ?_ (Nat.le_refl _)
  · intro b k e h1 h2
    have hm := hOf_mem h1
    simp only [pbIn, List.mem_cons, List.mem_map] at hm
    rcases hm with hm | ⟨b', hb', hm⟩
    · obtain ⟨rfl, rfl⟩ := Prod.mk.inj hm
      have h2' : rhoMin W G b = some e := by unfold rhoIn at h2; rw [if_pos hg] at h2; exact h2
      have hb := @Rel.blk inst _ _ _ _ hmin b _ e (T.get_set_same _ _ _) h2'
      exact @BRel.mono inst _ _ _ mono _ _ _ hb
    · obtain ⟨rfl, rfl⟩ := Prod.mk.inj hm
      have hbn := hn b' hb'
      obtain ⟨x, hx, hxn, rfl⟩ := hfind b' e (by omega) h2
      obtain ⟨_, c, ty, fr, k1, k2, k3⟩ := hin x hx
      refine ⟨c, ty, fr, k1, k2, ⟨by simp; omega, ?_⟩, fun hh => (by cases hh), fun _ => (Array.getElem?_eq_some_iff.1 k1).1⟩
      simpa using @LRel.nil inst _
  · intro b e h
    show b < nx
    by_cases hb : b ≤ G
    · omega
    · obtain ⟨x, hx, hxn, _⟩ := hfind b e hb h
      have := hn _ (hin x hx).1
      omega
  · rintro b b' e1 e2 ⟨k1, g1, o1⟩
    have hm := hOf_mem g1
    simp only [pbIn, List.mem_cons, List.mem_map] at hm
    rcases hm with hm | ⟨_, _, hm⟩ <;> cases hm <;> cases o1
end Go.Ev
