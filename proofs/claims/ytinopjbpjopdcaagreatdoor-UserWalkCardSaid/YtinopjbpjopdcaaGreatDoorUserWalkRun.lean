import Derived.Test.YtinopjbpjopdcaaGreatDoorUserWalkA
import Derived.Test.YtinopjbpjopdcaaGreatDoorUserWalkB0
import Derived.Test.YtinopjbpjopdcaaGreatDoorUserWalkB1
import Derived.Test.YtinopjbpjopdcaaGreatDoorUserWalkB2
import Derived.Test.YtinopjbpjopdcaaGreatDoorUserWalkLaw
/-! UserWalk: the loops by their states. -/
namespace Go.Proofs.YtinopjbpjopdcaaGreatDoor.UW
open Go.Ev Go.Ev.Pg Go.Ev.UW
set_option linter.unusedVariables false
set_option linter.unusedSimpArgs false

theorem rnds_ok {i : Nat} (hi : i < 12) : (∀ c, c < 8 → rndB i c = true) ∧ ∀ p m, p < 8 → m < 19 → rndG i p m = true := by
  have h : ∀ c, c < 8 → rndB i c = true ∧ ∀ m, m < 19 → rndG i c m = true := by
    intro c hc
    have h := ra_all (8 * i + c) (by omega)
    have e1 : Nat.div (8 * i + c) 8 = i := by show (8 * i + c) / 8 = i; omega
    have e2 : Nat.mod (8 * i + c) 8 = c := by show (8 * i + c) % 8 = c; omega
    unfold rnds1 at h
    rw [e1, e2, Bool.and_eq_true] at h
    exact ⟨h.1, fun m hm => List.all_eq_true.1 h.2 m (List.mem_range.2 hm)⟩
  exact ⟨fun c hc => (h c hc).1, fun p m hp hm => (h p hp).2 m hm⟩
theorem rndT_ok {i c : Nat} (hi : i < 8) (hc : c < 25) : rndT i c = true := List.all_eq_true.1 (rt_all i hi) c (List.mem_range.2 hc)
theorem lv1_ok {i : Nat} {b : Bool} (hi : i < 13) (hb : b = false ∨ i = 12) : lv1 i b = true := by
  have h := lva_all i hi
  unfold lvs1 at h
  rw [Bool.and_eq_true] at h
  cases b with
  | false => exact h.1
  | true =>
    rcases hb with hb | rfl
    · cases hb
    · exact h.2
theorem lv2_ok {i : Nat} {b : Bool} (hi : i < 9) (hb : b = false ∨ i = 8) : lv2 i b = true := by
  have h := lvb_all i hi
  unfold lvs2 at h
  rw [Bool.and_eq_true] at h
  cases b with
  | false => exact h.1
  | true =>
    rcases hb with hb | rfl
    · cases hb
    · exact h.2
theorem fins_ok (q : Nat) (hq : q < 160) : fins q = true := by
  by_cases h0 : q < 54
  · have := fa0_all q h0
    unfold fs0 at this
    rwa [show 0 + q = q by omega] at this
  by_cases h1 : q < 108
  · have := fa1_all (q - 54) (by omega)
    unfold fs1 at this
    rwa [show 54 + (q - 54) = q by omega] at this
  · have := fa2_all (q - 108) (by omega)
    unfold fs2 at this
    rwa [show 108 + (q - 108) = q by omega] at this
theorem fin_ok {p k tr m r : Nat} (hp : p < 8) (hk : k < 5) (htr : tr < 4) (hm : m < 20) (hr : if m < 4 then r = 1 ∨ r = 2 ∨ r = 3 else r = 1) : fin p k tr m r = true := by
  have h := fins_ok (20 * p + 4 * k + tr) (by omega)
  have e1 : Nat.div (20 * p + 4 * k + tr) 20 = p := by show (20 * p + 4 * k + tr) / 20 = p; omega
  have e2 : Nat.div (Nat.mod (20 * p + 4 * k + tr) 20) 4 = k := by show (20 * p + 4 * k + tr) % 20 / 4 = k; omega
  have e3 : Nat.mod (20 * p + 4 * k + tr) 4 = tr := by show (20 * p + 4 * k + tr) % 4 = tr; omega
  unfold fins at h
  rw [e1, e2, e3] at h
  have h := List.all_eq_true.1 h m (List.mem_range.2 hm)
  unfold finM at h
  by_cases h4 : m < 4
  · rw [show Nat.blt m 4 = true from Nat.ble_eq_true_of_le h4, if_pos h4] at *
    simp only [cond_true, Bool.and_eq_true] at h
    rcases hr with rfl | rfl | rfl
    · exact h.1.1
    · exact h.1.2
    · exact h.2
  · rw [show Nat.blt m 4 = false from by cases hb : Nat.blt m 4 with | false => rfl | true => exact absurd (nblt' hb) h4] at h
    rw [if_neg h4] at hr
    subst hr
    exact h

section
variable {W : World} {ips : List Inp} {n : Nat} {v0 v1 : Value} {L0 L1 : Nat} {X2 X3 X4 : Int} {Z0 Z1 : Nat → Int}

@[reducible] noncomputable def S (val : Nat → Int) (l : List Ans) (c : List (IntKind × V × V)) (h : ∀ x ∈ l, AnsOk val x) (h' : ∀ x ∈ c, CvOk val x) : Sig := sigK val l c h h'
theorem none_ok {val : Nat → Int} : ∀ x ∈ ([] : List Ans), AnsOk val x := fun x hx => by cases hx
theorem nocv {val : Nat → Int} : ∀ x ∈ ([] : List (IntKind × V × V)), CvOk val x := fun x hx => by cases hx
@[reducible] noncomputable def S0 (val : Nat → Int) : Sig := S val [] [] none_ok nocv
theorem ctx (W : World) (inst : Sig) : Ctx Tryz.prog W cx1 inst := ⟨follows, ts_ok, ft_ok, @cx1_ok inst _⟩
theorem vs (i1 i2 : Sig) (h : ∀ i, i2.val i = i1.val i) : ∀ i, i2.val i = V.num i1.val (sg i) := fun i => h i

/-- The states at the loops' heads, and behind them. -/
def St1 (L0 L1 : Nat) (X2 X3 X4 : Int) (Z0 Z1 : Nat → Int) (W : World) (ips : List Inp) (n i : Nat) (a : Act) (w : World) : Prop :=
  ∃ val, Inv L0 L1 X2 X3 X4 Z0 Z1 val ∧ LS Tryz.prog ips W n (S0 val) (pat1 i 0 []).e (pat1 i 0 []).h a w
def St1X (L0 L1 : Nat) (X2 X3 X4 : Int) (Z0 Z1 : Nat → Int) (W : World) (ips : List Inp) (n : Nat) (a : Act) (w : World) : Prop :=
  ∃ val, Inv L0 L1 X2 X3 X4 Z0 Z1 val ∧ LS Tryz.prog ips W n (S0 val) pat1X.e pat1X.h a w
def St2 (L0 L1 : Nat) (X2 X3 X4 : Int) (Z0 Z1 : Nat → Int) (W : World) (ips : List Inp) (n i : Nat) (a : Act) (w : World) : Prop :=
  ∃ val, Inv L0 L1 X2 X3 X4 Z0 Z1 val ∧ LS Tryz.prog ips W n (S0 val) (pat2 i 0 []).e (pat2 i 0 []).h a w
def St2X (L0 L1 : Nat) (X2 X3 X4 : Int) (Z0 Z1 : Nat → Int) (W : World) (ips : List Inp) (n : Nat) (a : Act) (w : World) : Prop :=
  ∃ val, Inv L0 L1 X2 X3 X4 Z0 Z1 val ∧ LS Tryz.prog ips W n (S0 val) pat2X.e pat2X.h a w

theorem ansL_ok {val : Nat → Int} {i j : Nat} {b : Bool} (h : b = true ↔ (i : Int) < val j) : ∀ x ∈ ansL i j b, AnsOk val x := by
  refine ok_cons ?_ ok_nil
  have e : b = decide ((i : Int) < val j) := by
    cases b with
    | true => simpa using h.1 rfl
    | false => simpa using h
  subst e
  simp [AnsOk, a, y, I, V.conc, evBin0]

theorem row4_len (v0 v1 v2 v3 : V) : ∀ i, (row4 v0 v1 v2 v3 i).length = 4 * i + 4
  | 0 => rfl
  | i + 1 => by simp [row4, row4_len v0 v1 v2 v3 i]; omega
theorem row4_get (v0 v1 v2 v3 : V) : ∀ i (q : Nat) u, (row4 v0 v1 v2 v3 i)[q]? = some u → (q = 4 * i ∧ u = v0) ∨ (q = 4 * i + 1 ∧ u = v1) ∨ (q = 4 * i + 2 ∧ u = v2) ∨ (q = 4 * i + 3 ∧ u = v3) ∨ (q < 4 * i ∧ u = .top)
  | 0, q, u, h => by
    match q with
    | 0 => simp [row4] at h; exact .inl ⟨rfl, h.symm⟩
    | 1 => simp [row4] at h; exact .inr (.inl ⟨rfl, h.symm⟩)
    | 2 => simp [row4] at h; exact .inr (.inr (.inl ⟨rfl, h.symm⟩))
    | 3 => simp [row4] at h; exact .inr (.inr (.inr (.inl ⟨rfl, h.symm⟩)))
    | q + 4 => simp [row4] at h
  | i + 1, q, u, h => by
    match q with
    | 0 => simp [row4] at h; exact .inr (.inr (.inr (.inr ⟨by omega, h.symm⟩)))
    | 1 => simp [row4] at h; exact .inr (.inr (.inr (.inr ⟨by omega, h.symm⟩)))
    | 2 => simp [row4] at h; exact .inr (.inr (.inr (.inr ⟨by omega, h.symm⟩)))
    | 3 => simp [row4] at h; exact .inr (.inr (.inr (.inr ⟨by omega, h.symm⟩)))
    | q + 4 =>
      have h : (row4 v0 v1 v2 v3 i)[q]? = some u := h
      rcases row4_get v0 v1 v2 v3 i q u h with ⟨h1, h2⟩ | ⟨h1, h2⟩ | ⟨h1, h2⟩ | ⟨h1, h2⟩ | ⟨h1, h2⟩
      · exact .inl ⟨by omega, h2⟩
      · exact .inr (.inl ⟨by omega, h2⟩)
      · exact .inr (.inr (.inl ⟨by omega, h2⟩))
      · exact .inr (.inr (.inr (.inl ⟨by omega, h2⟩)))
      · exact .inr (.inr (.inr (.inr ⟨by omega, h2⟩)))
theorem row3_len (v0 v1 v2 : V) : ∀ i, (row3 v0 v1 v2 i).length = 3 * i + 3
  | 0 => rfl
  | i + 1 => by simp [row3, row3_len v0 v1 v2 i]; omega
theorem row3_get (v0 v1 v2 : V) : ∀ i (q : Nat) u, (row3 v0 v1 v2 i)[q]? = some u → (q = 3 * i ∧ u = v0) ∨ (q = 3 * i + 1 ∧ u = v1) ∨ (q = 3 * i + 2 ∧ u = v2) ∨ (q < 3 * i ∧ u = .top)
  | 0, q, u, h => by
    match q with
    | 0 => simp [row3] at h; exact .inl ⟨rfl, h.symm⟩
    | 1 => simp [row3] at h; exact .inr (.inl ⟨rfl, h.symm⟩)
    | 2 => simp [row3] at h; exact .inr (.inr (.inl ⟨rfl, h.symm⟩))
    | q + 3 => simp [row3] at h
  | i + 1, q, u, h => by
    match q with
    | 0 => simp [row3] at h; exact .inr (.inr (.inr ⟨by omega, h.symm⟩))
    | 1 => simp [row3] at h; exact .inr (.inr (.inr ⟨by omega, h.symm⟩))
    | 2 => simp [row3] at h; exact .inr (.inr (.inr ⟨by omega, h.symm⟩))
    | q + 3 =>
      have h : (row3 v0 v1 v2 i)[q]? = some u := h
      rcases row3_get v0 v1 v2 i q u h with ⟨h1, h2⟩ | ⟨h1, h2⟩ | ⟨h1, h2⟩ | ⟨h1, h2⟩
      · exact .inl ⟨by omega, h2⟩
      · exact .inr (.inl ⟨by omega, h2⟩)
      · exact .inr (.inr (.inl ⟨by omega, h2⟩))
      · exact .inr (.inr (.inr ⟨by omega, h2⟩))

theorem sym_rel {inst : Sig} {ρ : Rho} {i : Nat} {z : Int} (h : inst.val i = z) : @VRel inst ρ (y i) (.int .i64 z) := by
  have := @VRel.sym inst ρ .i64 i
  rw [h] at this
  exact this

theorem round1 (hv : SIn W v0 NM0 ips L0 .i64 4 Z0) (hn : ∀ x ∈ ips, x.nm ∈ ipn) {i : Nat} (hi : i ≤ 12) : WR Tryz.prog n lp1.toRC (St1 L0 L1 X2 X3 X4 Z0 Z1 W ips n i) (fun ex a w => match ex with | .nrm => i < 12 ∧ St1 L0 L1 X2 X3 X4 Z0 Z1 W ips n (i + 1) a w | .exit x => x = 0 ∧ St1X L0 L1 X2 X3 X4 Z0 Z1 W ips n a w | .ret => False) := by
  refine WR.ex fun val => ?_
  rintro c hcc hd a w ⟨hI, hs⟩
  have h0 : val 0 = L0 := hI.fixed 0 (by omega)
  by_cases hgo : (i : Int) < L0 ∧ i < 12
  · obtain ⟨hL, hi12⟩ := hgo
    rcases hv.val with ⟨hz, _⟩ | ⟨rb, off, cap, rsz, cc, ty, fr, rfl, hmem, hw0, hsz, hfit, hget⟩
    · omega
    · have hz : ∀ q, q < 48 → val (1000 + q) = Z0 q := fun q hq => ln_val hI (by omega)
      have cell : ∀ (v1 : V), (∀ ρ, @VRel (S0 val) ρ v1 (.int .i64 (Z0 (4 * i + 1)))) → ∀ (q : Nat) u, (row4 (ln i 0) v1 (ln i 2) (ln i 3) i)[q]? = some u → ∃ x, cc[off + q]? = some x ∧ ∀ ρ, @VRel (S0 val) ρ u x := by
        intro v1 hv1 q u hq
        rcases row4_get _ _ _ _ i q u hq with ⟨rfl, rfl⟩ | ⟨rfl, rfl⟩ | ⟨rfl, rfl⟩ | ⟨rfl, rfl⟩ | ⟨hlt, rfl⟩
        · exact ⟨_, hget _ (by omega), fun ρ => sym_rel (by show val (1000 + 4 * i + 0) = _; rw [show 1000 + 4 * i + 0 = 1000 + 4 * i by omega]; exact hz _ (by omega))⟩
        · exact ⟨_, hget _ (by omega), hv1⟩
        · exact ⟨_, hget _ (by omega), fun ρ => sym_rel (by show val (1000 + 4 * i + 2) = _; rw [show 1000 + 4 * i + 2 = 1000 + (4 * i + 2) by omega]; exact hz _ (by omega))⟩
        · exact ⟨_, hget _ (by omega), fun ρ => sym_rel (by show val (1000 + 4 * i + 3) = _; rw [show 1000 + 4 * i + 3 = 1000 + (4 * i + 3) by omega]; exact hz _ (by omega))⟩
        · exact ⟨_, hget _ (by omega), fun ρ => @VRel.top (S0 val) ρ _ rfl⟩
      have hz1 : val (1000 + 4 * i + 1) = Z0 (4 * i + 1) := by rw [show 1000 + 4 * i + 1 = 1000 + (4 * i + 1) by omega]; exact hz _ (by omega)
      have hlo : ((i + 1 : Nat) : Int) ≤ (S0 val).val 0 := by show ((i + 1 : Nat) : Int) ≤ val 0; omega
      rcases fill_ok hI hL with ⟨k, hk, hans⟩ | ⟨p, m, hp, hm, hpv, hans, hI'⟩
      · have hs1 := LS.moreP (lo' := i + 1) (cs' := rowB i) hmem rfl hw0 hsz hlo (by unfold rowB; rw [row4_len]; show off + (4 * i + 4) ≤ cc.size; omega)
          (cell (ln i 1) fun ρ => sym_rel hz1) hs
        have hs2 := LS.same (hs := hs1) (i1 := S0 val) (i2 := S val (ansB i k) [] hans nocv) (fun _ => rfl)
        have hr : endPat 4 ipn sg .nrm (pat1 (i + 1) 0 []) (runF (S val (ansB i k) [] hans nocv).toTab cx1 100000 50 lp1 (pat1 i (i + 1) (rowB i))) = true := (rnds_ok hi12).1 k hk
        have hwr := WR.pat (n := n) (ips := ips) (ctx W (S val (ansB i k) [] hans nocv)) (i2 := S0 val) (vs _ _ fun _ => rfl) gsize hn hr
        refine wp_mono (hwr c hcc hd a w hs2) ?_
        rintro x a' w' ⟨ex, rfl, rfl, hl⟩
        exact ⟨.nrm, rfl, hi12, val, hI, hl⟩
      · have hs1 := LS.moreP (lo' := i + 1) (cs' := rowG i p) hmem rfl hw0 hsz hlo (by unfold rowG; rw [row4_len]; show off + (4 * i + 4) ≤ cc.size; omega)
          (cell (I p) fun ρ => by rw [← hz1, hpv]; exact @VRel.int (S0 val) _ _ _) hs
        have hs2 := LS.same (hs := hs1) (i1 := S0 val) (i2 := S val (ansG i p m) [] hans nocv) (fun _ => rfl)
        have hr : endPat 4 ipn (sgG i p m) .nrm (pat1 (i + 1) 0 []) (runF (S val (ansG i p m) [] hans nocv).toTab cx1 100000 50 lp1 (pat1 i (i + 1) (rowG i p))) = true := (rnds_ok hi12).2 p m hp hm
        have hwr := WR.pat (n := n) (ips := ips) (ctx W (S val (ansG i p m) [] hans nocv)) (i2 := S0 (fun q => V.num val (sgG i p m q))) (fun _ => rfl) gsize hn hr
        refine wp_mono (hwr c hcc hd a w hs2) ?_
        rintro x a' w' ⟨ex, rfl, rfl, hl⟩
        exact ⟨.nrm, rfl, hi12, _, hI', hl⟩
  · have hans : ∀ x ∈ ansL i 0 (decide ((i : Int) < L0)), AnsOk val x := ansL_ok (by rw [h0]; simp)
    have hs2 := LS.same (hs := hs) (i1 := S0 val) (i2 := S val (ansL i 0 (decide ((i : Int) < L0))) [] hans nocv) (fun _ => rfl)
    have hr : endPat 4 ipn sg (.exit 0) pat1X (runF (S val (ansL i 0 (decide ((i : Int) < L0))) [] hans nocv).toTab cx1 100000 50 lp1 (pat1 i 0 [])) = true := by
      refine lv1_ok (by omega) ?_
      by_cases hL : (i : Int) < L0
      · exact .inr (by have : ¬ i < 12 := fun h => hgo ⟨hL, h⟩; omega)
      · exact .inl (by simp [hL])
    have hwr := WR.pat (n := n) (ips := ips) (ctx W (S val (ansL i 0 (decide ((i : Int) < L0))) [] hans nocv)) (i2 := S0 val) (vs _ _ fun _ => rfl) gsize hn hr
    refine wp_mono (hwr c hcc hd a w hs2) ?_
    rintro x a' w' ⟨ex, rfl, rfl, hl⟩
    exact ⟨.exit 0, rfl, rfl, val, hI, hl⟩

theorem round2 (hv : SIn W v1 NM1 ips L1 .i64 3 Z1) (hn : ∀ x ∈ ips, x.nm ∈ ipn) {i : Nat} (hi : i ≤ 8) : WR Tryz.prog n lp2.toRC (St2 L0 L1 X2 X3 X4 Z0 Z1 W ips n i) (fun ex a w => match ex with | .nrm => i < 8 ∧ St2 L0 L1 X2 X3 X4 Z0 Z1 W ips n (i + 1) a w | .exit x => x = 2 ∧ St2X L0 L1 X2 X3 X4 Z0 Z1 W ips n a w | .ret => False) := by
  refine WR.ex fun val => ?_
  rintro c hcc hd a w ⟨hI, hs⟩
  have h0 : val 5 = L1 := hI.fixed 5 (by omega)
  by_cases hgo : (i : Int) < L1 ∧ i < 8
  · obtain ⟨hL, hi12⟩ := hgo
    rcases hv.val with ⟨hz, _⟩ | ⟨rb, off, cap, rsz, cc, ty, fr, rfl, hmem, hw0, hsz, hfit, hget⟩
    · omega
    · obtain ⟨k, hk, hans, hI'⟩ := tab_ok hI hi12 hL
      have hlo : ((i + 1 : Nat) : Int) ≤ (S0 val).val 5 := by show ((i + 1 : Nat) : Int) ≤ val 5; omega
      have hs1 := LS.moreP (lo' := i + 1) (cs' := rowT i) hmem rfl hw0 hsz hlo (by unfold rowT; rw [row3_len]; show off + (3 * i + 3) ≤ cc.size; omega)
          (by
            intro q u hq
            rcases row3_get _ _ _ i q u hq with ⟨rfl, rfl⟩ | ⟨rfl, rfl⟩ | ⟨rfl, rfl⟩ | ⟨hlt, rfl⟩
            · exact ⟨_, hget _ (by omega), fun ρ => sym_rel (@pt_val L0 L1 X2 X3 X4 Z0 Z1 val hI i 0 hi12 (by omega))⟩
            · exact ⟨_, hget _ (by omega), fun ρ => sym_rel (@pt_val L0 L1 X2 X3 X4 Z0 Z1 val hI i 1 hi12 (by omega))⟩
            · exact ⟨_, hget _ (by omega), fun ρ => sym_rel (@pt_val L0 L1 X2 X3 X4 Z0 Z1 val hI i 2 hi12 (by omega))⟩
            · exact ⟨_, hget _ (by omega), fun ρ => @VRel.top (S0 val) ρ _ rfl⟩) hs
      have hcv := (word_ok hI hi12).2
      have hs2 := LS.same (hs := hs1) (i1 := S0 val) (i2 := S val (ansT i k) (cvW i) hans hcv) (fun _ => rfl)
      have hr : endPat 4 ipn (sgT' i k) .nrm (pat2 (i + 1) 0 []) (runF (S val (ansT i k) (cvW i) hans hcv).toTab cx1 100000 50 lp2 (pat2 i (i + 1) (rowT i))) = true := rndT_ok hi12 hk
      have hwr := WR.pat (n := n) (ips := ips) (ctx W (S val (ansT i k) (cvW i) hans hcv)) (i2 := S0 (fun q => V.num val (sgT' i k q))) (fun _ => rfl) gsize hn hr
      refine wp_mono (hwr c hcc hd a w hs2) ?_
      rintro x a' w' ⟨ex, rfl, rfl, hl⟩
      exact ⟨.nrm, rfl, hi12, _, hI', hl⟩
  · have hans : ∀ x ∈ ansL i 5 (decide ((i : Int) < L1)), AnsOk val x := ansL_ok (by rw [h0]; simp)
    have hs2 := LS.same (hs := hs) (i1 := S0 val) (i2 := S val (ansL i 5 (decide ((i : Int) < L1))) [] hans nocv) (fun _ => rfl)
    have hr : endPat 4 ipn sg (.exit 2) pat2X (runF (S val (ansL i 5 (decide ((i : Int) < L1))) [] hans nocv).toTab cx1 100000 50 lp2 (pat2 i 0 [])) = true := by
      refine lv2_ok (by omega) ?_
      by_cases hL : (i : Int) < L1
      · exact .inr (by have : ¬ i < 8 := fun h => hgo ⟨hL, h⟩; omega)
      · exact .inl (by simp [hL])
    have hwr := WR.pat (n := n) (ips := ips) (ctx W (S val (ansL i 5 (decide ((i : Int) < L1))) [] hans nocv)) (i2 := S0 val) (vs _ _ fun _ => rfl) gsize hn hr
    refine wp_mono (hwr c hcc hd a w hs2) ?_
    rintro x a' w' ⟨ex, rfl, rfl, hl⟩
    exact ⟨.exit 2, rfl, rfl, val, hI, hl⟩

theorem whole (hv0 : SIn W v0 NM0 ips L0 .i64 4 Z0) (hv1 : SIn W v1 NM1 ips L1 .i64 3 Z1) (hn : ∀ x ∈ ips, x.nm ∈ ipn) : WR Tryz.prog n body.toRC (LS Tryz.prog ips W n (S0 (val0 L0 L1 X2 X3 X4 Z0 Z1)) patI.e patI.h) (fun ex a w => (ex = .nrm ∨ ex = .ret) ∧ LT Tryz.prog ips W n (ff3.res.map FRR.toRR) a w) := by
  refine WR.patPre (ctx W (S0 (val0 L0 L1 X2 X3 X4 Z0 Z1))) (i2 := S0 (val0 L0 L1 X2 X3 X4 Z0 Z1)) start_ok gsize hn 4 run0 ?_
  rw [cut1]
  refine WR.seqF (S1 := St1X L0 L1 X2 X3 X4 Z0 Z1 W ips n) ?_ ?_
  · refine WR.seqF (S1 := fun a w => ∃ k, k ≤ 12 ∧ St1 L0 L1 X2 X3 X4 Z0 Z1 W ips n (12 - k) a w) ?_ ?_
    · refine (WR.pat (ctx W (S0 (val0 L0 L1 X2 X3 X4 Z0 Z1))) (i2 := S0 (val0 L0 L1 X2 X3 X4 Z0 Z1)) (vs _ _ fun _ => rfl) gsize hn run1).post ?_
      rintro ex a w ⟨rfl, h⟩
      exact ⟨12, Nat.le_refl _, _, inv0, h⟩
    · refine WR.blockF (WR.loopF (fun k => St1 L0 L1 X2 X3 X4 Z0 Z1 W ips n (12 - k)) 12 fun k hk => ?_)
      refine (round1 hv0 hn (by omega)).post ?_
      intro ex a w h
      cases ex with
      | nrm =>
        obtain ⟨h1, h2⟩ := h
        refine ⟨k - 1, by omega, ?_⟩
        have : 12 - (k - 1) = 12 - k + 1 := by omega
        rw [this]
        exact h2
      | exit x =>
        obtain ⟨rfl, h2⟩ := h
        exact h2
      | ret => exact h.elim
  · rw [cut2]
    refine WR.seqF (S1 := St2X L0 L1 X2 X3 X4 Z0 Z1 W ips n) ?_ ?_
    · refine WR.seqF (S1 := fun a w => ∃ k, k ≤ 8 ∧ St2 L0 L1 X2 X3 X4 Z0 Z1 W ips n (8 - k) a w) ?_ ?_
      · refine WR.ex fun val => ?_
        rintro c hcc hd a w ⟨hI, hs⟩
        have hwr := WR.pat (n := n) (ips := ips) (ctx W (S0 val)) (i2 := S0 val) (vs _ _ fun _ => rfl) gsize hn run2
        refine wp_mono (hwr c hcc hd a w hs) ?_
        rintro x a' w' ⟨ex, rfl, rfl, hl⟩
        exact ⟨.nrm, rfl, 8, Nat.le_refl _, val, hI, hl⟩
      · refine WR.blockF (WR.loopF (fun k => St2 L0 L1 X2 X3 X4 Z0 Z1 W ips n (8 - k)) 8 fun k hk => ?_)
        refine (round2 hv1 hn (by omega)).post ?_
        intro ex a w h
        cases ex with
        | nrm =>
          obtain ⟨h1, h2⟩ := h
          refine ⟨k - 1, by omega, ?_⟩
          have : 8 - (k - 1) = 8 - k + 1 := by omega
          rw [this]
          exact h2
        | exit x =>
          obtain ⟨rfl, h2⟩ := h
          exact h2
        | ret => exact h.elim
    · refine WR.ex fun val => ?_
      rintro c hcc hd a w ⟨hI, hs⟩
      obtain ⟨p, k, tr, m, r, hp, hk, htr, hm, hr, hans, hκ⟩ := last_ok hI
      have hf := fin_ok hp hk htr hm hr
      unfold fin at hf
      rw [Bool.and_eq_true] at hf
      have hs1 := LS.inst (inst := S0 val) hκ hf.1 hs
      have hs2 := LS.same (hs := hs1) (i1 := S0 val) (i2 := S val (ansF p k tr m) [] hans nocv) (fun _ => rfl)
      have hr : endTrue ff3.res (runF (S val (ansF p k tr m) [] hans nocv).toTab cx1 100000 50 (body.suf 6) (patF p k tr m r)) = true := hf.2
      exact WR.fin (ctx W (S val (ansF p k tr m) [] hans nocv)) hr c hcc hd a w hs2
end
end Go.Proofs.YtinopjbpjopdcaaGreatDoor.UW

namespace Go.Proofs.YtinopjbpjopdcaaGreatDoor
open Go.Ev Go.Ev.Pg
theorem userWalk_calls (v0 v1 : Value) (X2 X3 X4 : Int) {L0 L1 : Nat} {Z0 Z1 : Nat → Int} (W : World)
    (hc : W.cell? ⟨0, 0, none⟩ = some (.iface 174 (.agg #[.pointer (some ⟨4, 67, none⟩)]))) {ips0 ips1 : List Inp} (hip0 : IpOk W Ev.UW.NM0 ips0) (hs0 : SIn W v0 Ev.UW.NM0 ips0 L0 .i64 4 Z0) (hip1 : IpOk W Ev.UW.NM1 ips1) (hs1 : SIn W v1 Ev.UW.NM1 ips1 L1 .i64 3 Z1) :
    Calls Tryz.prog 3 #[v0, v1, .int .i64 X2, .int .i64 X3, .int .i64 X4] W fun e W' => e = .returned (.bool true) ∧ Fr W W' := by
  have hnm : ∀ x ∈ ips0 ++ ips1, (x.nm = Ev.UW.NM0 ∧ x ∈ ips0) ∨ (x.nm = Ev.UW.NM1 ∧ x ∈ ips1) := fun x hx => by
    rcases List.mem_append.1 hx with hx | hx
    · exact .inl ⟨(hip0.2 x hx).1, hx⟩
    · exact .inr ⟨(hip1.2 x hx).1, hx⟩
  have hn : ∀ x ∈ ips0 ++ ips1, x.nm ∈ UW.ipn := fun x hx => by
    rcases hnm x hx with ⟨h, _⟩ | ⟨h, _⟩ <;> rw [h] <;> decide
  have hfind := rhoIn_find (W := W) (G := 4) (ips := ips0 ++ ips1) (fun x hx => by rcases hnm x hx with ⟨h, _⟩ | ⟨h, _⟩ <;> rw [h] <;> decide) (fun x z hx hz hxz => by
    rcases hnm x hx with ⟨h, g⟩ | ⟨h, g⟩ <;> rcases hnm z hz with ⟨h', g'⟩ | ⟨h', g'⟩
    · exact hip0.1 x z g g'
    · rw [h, h'] at hxz; cases hxz
    · rw [h, h'] at hxz; cases hxz
    · exact hip1.1 x z g g')
  have hin : ∀ x ∈ ips0 ++ ips1, x.nm ∈ UW.ipn ∧ ∃ c ty fr, W.heap[x.rb]? = some (.cells c ty fr) ∧ c.size = x.rsz ∧ x.off ≤ x.rsz := fun x hx => by
    refine ⟨hn x hx, ?_⟩
    rcases hnm x hx with ⟨_, g⟩ | ⟨_, g⟩
    · exact (hip0.2 x g).2
    · exact (hip1.2 x g).2
  have hr := @relIn (UW.S0 (UW.val0 L0 L1 X2 X3 X4 Z0 Z1)) W 0 4 174 67 (by decide) hc (ips0 ++ ips1) UW.ipn 7 (by decide) (by decide) hin
  have up0 : SIn W v0 Ev.UW.NM0 (ips0 ++ ips1) L0 .i64 4 Z0 := ⟨by
    rcases hs0.val with h | ⟨rb, off, cap, rsz, c, ty, fr, h1, h2, h3⟩
    · exact .inl h
    · exact .inr ⟨rb, off, cap, rsz, c, ty, fr, h1, List.mem_append_left _ h2, h3⟩⟩
  have up1 : SIn W v1 Ev.UW.NM1 (ips0 ++ ips1) L1 .i64 3 Z1 := ⟨by
    rcases hs1.val with h | ⟨rb, off, cap, rsz, c, ty, fr, h1, h2, h3⟩
    · exact .inl h
    · exact .inr ⟨rb, off, cap, rsz, c, ty, fr, h1, List.mem_append_right _ h2, h3⟩⟩
  have slv : ∀ {v : Value} {nm j L esz : Nat} {Z : Nat → Int}, SIn W v nm (ips0 ++ ips1) L .i64 esz Z → UW.val0 L0 L1 X2 X3 X4 Z0 Z1 j = L → @VRel (UW.S0 (UW.val0 L0 L1 X2 X3 X4 Z0 Z1)) (rhoIn W 4 (ips0 ++ ips1)) (.slv nm 0 j 0) v := by
    intro v nm j L esz Z hv hj
    rcases hv.val with ⟨h0, pp, cp, rfl⟩ | ⟨rb, off, cap, rsz, cc, ty, fr, rfl, hmem, _⟩
    · exact @VRel.slvn (UW.S0 (UW.val0 L0 L1 X2 X3 X4 Z0 Z1)) _ _ _ _ pp cp (by show UW.val0 L0 L1 X2 X3 X4 Z0 Z1 j = 0; omega)
    · have := @VRel.slv (UW.S0 (UW.val0 L0 L1 X2 X3 X4 Z0 Z1)) (rhoIn W 4 (ips0 ++ ips1)) nm 0 j 0 ⟨rb, off, rsz⟩ L cap (hfind _ hmem) hj (Nat.zero_le _)
      simpa using this
  have sy : ∀ (j : Nat) (X : Int), UW.val0 L0 L1 X2 X3 X4 Z0 Z1 j = X → @VRel (UW.S0 (UW.val0 L0 L1 X2 X3 X4 Z0 Z1)) (rhoIn W 4 (ips0 ++ ips1)) (Ev.UW.y j) (.int .i64 X) := fun j X h => UW.sym_rel h
  have ha : @LRel (UW.S0 (UW.val0 L0 L1 X2 X3 X4 Z0 Z1)) (rhoIn W 4 (ips0 ++ ips1)) [.slv Ev.UW.NM0 0 0 0, .slv Ev.UW.NM1 0 5 0, Ev.UW.y 6, Ev.UW.y 7, Ev.UW.y 8] [v0, v1, .int .i64 X2, .int .i64 X3, .int .i64 X4] :=
    @LRel.cons (UW.S0 (UW.val0 L0 L1 X2 X3 X4 Z0 Z1)) _ _ _ _ _ (slv up0 rfl) (@LRel.cons (UW.S0 (UW.val0 L0 L1 X2 X3 X4 Z0 Z1)) _ _ _ _ _ (slv up1 rfl) (@LRel.cons (UW.S0 (UW.val0 L0 L1 X2 X3 X4 Z0 Z1)) _ _ _ _ _ (sy 6 _ rfl) (@LRel.cons (UW.S0 (UW.val0 L0 L1 X2 X3 X4 Z0 Z1)) _ _ _ _ _ (sy 7 _ rfl) (@LRel.cons (UW.S0 (UW.val0 L0 L1 X2 X3 X4 Z0 Z1)) _ _ _ _ _ (sy 8 _ rfl) (@LRel.nil (UW.S0 (UW.val0 L0 L1 X2 X3 X4 Z0 Z1)) _)))))
  exact calls_of_wr (ff := ff3) r3 (UW.S0 (UW.val0 L0 L1 X2 X3 X4 Z0 Z1)) (pinsIn W (ips0 ++ ips1) gsize) hr hfind ha fun n => UW.whole up0 up1 hn
end Go.Proofs.YtinopjbpjopdcaaGreatDoor
