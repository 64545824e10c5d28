import Derived.Test.YtolngjaihlggnaaGreatDoorPoolLeastA
import Derived.Test.YtolngjaihlggnaaGreatDoorPoolLeastB
import Derived.Test.YtolngjaihlggnaaGreatDoorPoolLeastC
import Derived.Test.YtolngjaihlggnaaGreatDoorPoolLeastLaw
/-! PoolLeast: the loops by their states. -/
namespace Go.Proofs.YtolngjaihlggnaaGreatDoor.PL
open Go.Ev Go.Ev.Pg Go.Ev.PL
set_option linter.unusedVariables false
set_option linter.unusedSimpArgs false

section
variable {F m : Nat}
theorem ins_ok (h1 : 1 ≤ F) (h2 : F ≤ 16) : r0 F = true ∧ r1 F = true ∧ rE F = true := by
  have h := ia_all (F - 1) (by omega)
  unfold ins at h
  rw [show F - 1 + 1 = F by omega] at h
  simp only [Bool.and_eq_true] at h
  exact ⟨h.1.1, h.1.2, h.2⟩
theorem as_ok (h1 : 1 ≤ F) (h2 : F ≤ 16) (hm : m ≤ F) : cond' F m = true ∧ lv F m 1 = true ∧ lv F m 2 = true ∧ inc F m = true ∧ initB F m = true ∧ lvB F m = true ∧ ∀ i, i < 20 → pre' F m i = true := by
  have h := alls_ok (fun q hq => aa_all q hq) h1 h2 hm
  simp only [Bool.and_eq_true] at h
  obtain ⟨⟨⟨⟨⟨⟨g1, g2⟩, g3⟩, g4⟩, g5⟩, g6⟩, g7⟩ := h
  exact ⟨g1, g2, g3, g4, g5, g6, fun i hi => List.all_eq_true.1 g7 i (List.mem_range.2 hi)⟩
theorem ex_ok {j : Nat} {b : Bool} (hj : j = m → m < F) (h : (bif Nat.beq j m && Nat.beq m F then true else b) = true) : b = true := by
  cases hb : (Nat.beq j m && Nat.beq m F) with
  | false => rw [hb] at h; exact h
  | true =>
    rw [Bool.and_eq_true] at hb
    have := hj (nbeq hb.1)
    have := nbeq hb.2
    omega
theorem bs_ok (h1 : 1 ≤ F) (h2 : F ≤ 16) (hm : m ≤ F) {c j : Nat} (hc : c < F) (hj : j ≤ m) (hjm : j = m → m < F) : rest F m c j = true := by
  have h := alls_ok (fun q hq => ba_all q hq) h1 h2 hm
  exact ex_ok hjm (List.all_eq_true.1 (List.all_eq_true.1 h c (List.mem_range.2 hc)) j (List.mem_range.2 (by omega)))
theorem cs_ok (h1 : 1 ≤ F) (h2 : F ≤ 16) (hm : m ≤ F) {c j : Nat} (hc : c < F) (hj : j ≤ m) (hjm : j = m → m < F) : stepB F m c j = true := by
  have h := alls_ok (fun q hq => ca_all q hq) h1 h2 hm
  exact ex_ok hjm (List.all_eq_true.1 (List.all_eq_true.1 h c (List.mem_range.2 hc)) j (List.mem_range.2 (by omega)))
end

section
variable {W : World} {ips : List Inp} {n : Nat} {v : Value} {L : Nat} {X : Int} {F : Nat} {Z : Nat → Int}

@[reducible] noncomputable def S (val : Nat → Int) (l : List Ans) (h : ∀ x ∈ l, AnsOk val x) : Sig := sigK val l [] h (fun x hx => by cases hx)
@[reducible] noncomputable def S0 (val : Nat → Int) : Sig := S val [] ok_nil
theorem ctx (W : World) (inst : Sig) : Ctx Tryz.prog W cx1 inst := ⟨follows, ts_ok, ft_ok, @cx1_ok inst _⟩
theorem vs (i1 i2 : Sig) (h : ∀ i, i2.val i = i1.val i) : ∀ i, i2.val i = V.num i1.val (sg i) := fun i => h i

def StA (L : Nat) (X : Int) (F : Nat) (Z : Nat → Int) (W : World) (ips : List Inp) (n i : Nat) (a : Act) (w : World) : Prop :=
  ∃ val m, m ≤ F ∧ Inv L X F Z m i val ∧ LS Tryz.prog ips W n (S0 val) (patH F m (y 5000) 0 []).e (patH F m (y 5000) 0 []).h a w
def StX (L : Nat) (X : Int) (F : Nat) (Z : Nat → Int) (W : World) (ips : List Inp) (n : Nat) (a : Act) (w : World) : Prop :=
  ∃ val m i, m ≤ F ∧ Inv L X F Z m i val ∧ LS Tryz.prog ips W n (S0 val) (patX F m).e (patX F m).h a w
def StB (L : Nat) (X : Int) (F : Nat) (Z : Nat → Int) (W : World) (ips : List Inp) (n f : Nat) (a : Act) (w : World) : Prop :=
  ∃ val m i, m ≤ F ∧ Inv L X F Z m i val ∧ LS Tryz.prog ips W n (S0 val) (patB F m f).e (patB F m f).h a w
def StZ (F : Nat) (W : World) (ips : List Inp) (n : Nat) (a : Act) (w : World) : Prop :=
  ∃ val, LS Tryz.prog ips W n (S0 val) (patZ F).e (patZ F).h a w

theorem row_len (v : V) : ∀ i, (row v i).length = i + 1
  | 0 => rfl
  | i + 1 => by simp [row, row_len v i]
theorem row_get (v : V) : ∀ i (q : Nat) u, (row v i)[q]? = some u → (q = i ∧ u = v) ∨ (q < i ∧ u = .top)
  | 0, q, u, h => by
    cases q with
    | zero => simp [row] at h; exact .inl ⟨rfl, h.symm⟩
    | succ q => simp [row] at h
  | i + 1, q, u, h => by
    cases q with
    | zero => simp [row] at h; exact .inr ⟨by omega, h.symm⟩
    | succ q =>
      simp only [row, List.getElem?_cons_succ] at h
      rcases row_get v i q u h with ⟨h1, h2⟩ | ⟨h1, h2⟩
      · exact .inl ⟨by omega, h2⟩
      · exact .inr ⟨by omega, h2⟩
theorem sym_rel {inst : Sig} {ρ : Rho} {i : Nat} {z : Int} (h : inst.val i = z) : @VRel inst ρ (y i) (.int .i64 z) := by
  have := @VRel.sym inst ρ .i64 i
  rw [h] at this
  exact this

/-- The loop is left. -/
theorem leaveA (hn : ∀ x ∈ ips, x.nm ∈ ipn) (h1 : 1 ≤ F) (h2 : F ≤ 16) {i : Nat} (hi : i ≤ 20) (hgo : ¬ ((i : Int) < L ∧ i < 20)) {val : Nat → Int} {m : Nat} (hm : m ≤ F) (hI : Inv L X F Z m i val) :
    WR Tryz.prog n lpA.toRC (LS Tryz.prog ips W n (S0 val) (patH F m (y 5000) 0 []).e (patH F m (y 5000) 0 []).h) (fun ex a w => ex = .exit 2 ∧ StX L X F Z W ips n a w) := by
  obtain ⟨k, hk, hr⟩ : ∃ k, (∀ x ∈ ansL k, AnsOk val x) ∧ lv F m k = true := by
    by_cases hL : (i : Int) < L
    · exact ⟨2, ansL_ok hI hi 2 (fun h => by omega) (fun h => by omega) (fun _ => ⟨hL, by have : ¬ i < 20 := fun h => hgo ⟨hL, h⟩; omega⟩), (as_ok h1 h2 hm).2.2.1⟩
    · exact ⟨1, ansL_ok hI hi 1 (fun h => by omega) (fun _ => hL) (fun h => by omega), (as_ok h1 h2 hm).2.1⟩
  refine WR.pre (S := LS Tryz.prog ips W n (S val (ansL k) hk) (patH F m (y 5000) 0 []).e (patH F m (y 5000) 0 []).h) ?_ (fun a w hs => LS.same (i1 := S0 val) (i2 := S val (ansL k) hk) (fun _ => rfl) hs)
  refine (WR.pat (ctx W (S val (ansL k) hk)) (i2 := S0 val) (vs _ _ fun _ => rfl) gsize hn hr).post ?_
  rintro ex a w ⟨rfl, h⟩
  exact ⟨rfl, val, m, i, hm, hI, h⟩

/-- A round. -/
theorem roundA (hv : SIn W v NM0 ips L .i64 1 Z) (hn : ∀ x ∈ ips, x.nm ∈ ipn) (h1 : 1 ≤ F) (h2 : F ≤ 16) {i : Nat} (hL : (i : Int) < L) (hi : i < 20) {val : Nat → Int} {m : Nat} (hm : m ≤ F) (hI : Inv L X F Z m i val) :
    WR Tryz.prog n lpA.toRC (LS Tryz.prog ips W n (S0 val) (patH F m (y 5000) 0 []).e (patH F m (y 5000) 0 []).h) (fun ex a w => ex = .nrm ∧ StA L X F Z W ips n (i + 1) a w) := by
  obtain ⟨a1, a2, a3, a4, a5, a6, a7⟩ := as_ok h1 h2 hm
  have a7 := a7 i hi
  simp only [pre', Bool.and_eq_true] at a7
  have hk := ansL_ok hI (by omega) 0 (fun _ => ⟨hL, hi⟩) (fun h => by omega) (fun h => by omega)
  rw [cutA]
  refine WR.seqF (S1 := LS Tryz.prog ips W n (S0 val) (patH F m (y 5000) 0 []).e (patH F m (y 5000) 0 []).h) ?_ ?_
  · refine WR.pre (S := LS Tryz.prog ips W n (S val (ansL 0) hk) (patH F m (y 5000) 0 []).e (patH F m (y 5000) 0 []).h) ?_ (fun a w hs => LS.same (i1 := S0 val) (i2 := S val (ansL 0) hk) (fun _ => rfl) hs)
    refine (WR.pat (ctx W (S val (ansL 0) hk)) (i2 := S0 val) (vs _ _ fun _ => rfl) gsize hn a1).post ?_
    rintro ex a w ⟨rfl, h⟩
    exact h
  · obtain ⟨hI1, e61⟩ := inv_I hI
    have hans := ansI_ok hI hi h2 h1
    obtain ⟨c, hc⟩ := Int.eq_ofNat_of_zero_le (Int.emod_nonneg (Z i) (show (F : Int) ≠ 0 by omega))
    have hcF : c < F := by
      have := Int.emod_lt_of_pos (Z i) (show (0 : Int) < F by omega)
      omega
    have e61' : V.num val (sgI i 61) = (c : Int) := by rw [e61, val4 hI hi]; exact hc
    obtain ⟨j, hj, hjm, hj1, hj2, hansC, hheld⟩ := case_ok hI1 hcF
    have hIC := inv_C hI1 h2 hcF hj hj1 hj2 hm
    have hmup : upM m j ≤ F := by
      unfold upM
      by_cases hjm' : j = m
      · rw [nbt hjm']; exact hjm hjm'
      · rw [nbf hjm']; exact hm
    have hr := bs_ok h1 h2 hm hcF hj hjm
    simp only [rest, Bool.and_eq_true] at hr
    refine WR.seqF (S1 := LS Tryz.prog ips W n (S0 (fun q => V.num (fun q => V.num val (sgI i q)) (sgC c j q))) (patH F (upM m j) (y 5000) 0 []).e (patH F (upM m j) (y 5000) 0 []).h) ?_ ?_
    · refine WR.blockF ?_
      rcases hv.val with ⟨hz, _⟩ | ⟨rb, off, cap, rsz, cc, ty, fr, rfl, hmem, hw0, hsz, hfit, hget⟩
      · omega
      · have hv0 : val 0 = L := hI.fixed 0 (by omega)
        refine WR.pre (S := LS Tryz.prog ips W n (S val (ansI F i) hans) (patH F m (I i) (i + 1) (row (y (1000 + i)) i)).e (patH F m (I i) (i + 1) (row (y (1000 + i)) i)).h) ?_ (fun a w hs => ?_)
        · refine WR.patPre (ctx W (S val (ansI F i) hans)) (i2 := S0 (fun q => V.num val (sgI i q))) (fun _ => rfl) gsize hn 1 a7.2 ?_
          refine WR.pre (S := LS Tryz.prog ips W n (S (fun q => V.num val (sgI i q)) (ansC c j) hansC) (Pat.sub (kapC m c j) (patQ F m)).e (Pat.sub (kapC m c j) (patQ F m)).h) ?_ (fun a w hs => ?_)
          · refine (WR.pat (ctx W (S (fun q => V.num val (sgI i q)) (ansC c j) hansC)) (i2 := S0 (fun q => V.num (fun q => V.num val (sgI i q)) (sgC c j q))) (fun _ => rfl) gsize hn hr.2).post ?_
            rintro ex a w ⟨rfl, h⟩
            exact h
          · have hs1 := LS.instM (inst := S0 (fun q => V.num val (sgI i q))) (kapC_ok hj e61' hj1 hheld) hr.1 hs
            exact LS.same (i1 := S0 (fun q => V.num val (sgI i q))) (i2 := S (fun q => V.num val (sgI i q)) (ansC c j) hansC) (fun _ => rfl) hs1
        · have hs1 := LS.instM (inst := S0 val) (kapI_ok hI) a7.1 hs
          have hs2 := LS.moreP (lo' := i + 1) (cs' := row (y (1000 + i)) i) hmem rfl hw0 hsz (by show ((i + 1 : Nat) : Int) ≤ val 0; omega) (by rw [row_len]; show off + (i + 1) ≤ cc.size; omega)
            (fun q u hq => by
              rcases row_get _ i q u hq with ⟨rfl, rfl⟩ | ⟨hlt, rfl⟩
              · exact ⟨_, hget q (by omega), fun ρ => sym_rel (val1 hI hi)⟩
              · exact ⟨_, hget q (by omega), fun ρ => @VRel.top (S0 val) ρ _ rfl⟩) hs1
          exact LS.same (i1 := S0 val) (i2 := S val (ansI F i) hans) (fun _ => rfl) hs2
    · have a4' := (as_ok h1 h2 hmup).2.2.2.1
      have hansN := ansN_ok hIC
      refine WR.pre (S := LS Tryz.prog ips W n (S (fun q => V.num (fun q => V.num val (sgI i q)) (sgC c j q)) ansN hansN) (patH F (upM m j) (y 5000) 0 []).e (patH F (upM m j) (y 5000) 0 []).h) ?_
        (fun a w hs => LS.same (i1 := S0 (fun q => V.num (fun q => V.num val (sgI i q)) (sgC c j q))) (i2 := S (fun q => V.num (fun q => V.num val (sgI i q)) (sgC c j q)) ansN hansN) (fun _ => rfl) hs)
      refine (WR.pat (ctx W (S (fun q => V.num (fun q => V.num val (sgI i q)) (sgC c j q)) ansN hansN)) (i2 := S0 (fun q => V.num (fun q => V.num (fun q => V.num val (sgI i q)) (sgC c j q)) (sgN q))) (fun _ => rfl) gsize hn a4').post ?_
      rintro ex a w ⟨rfl, h⟩
      exact ⟨rfl, _, upM m j, hmup, inv_N hIC hi h2 hmup, h⟩

theorem stepBs (hn : ∀ x ∈ ips, x.nm ∈ ipn) (h1 : 1 ≤ F) (h2 : F ≤ 16) {f : Nat} (hf : f ≤ F) : WR Tryz.prog n lpB.toRC (StB L X F Z W ips n f) (fun ex a w => match ex with | .nrm => f < F ∧ StB L X F Z W ips n (f + 1) a w | .exit x => x = 4 ∧ StZ F W ips n a w | .ret => False) := by
  refine WR.ex fun val => WR.ex fun m => WR.ex fun i => ?_
  rintro cd hcc hd a w ⟨hm, hI, hs⟩
  by_cases hfF : f < F
  · obtain ⟨j, hj, hjm, hj1, hj2, hansC, hheld⟩ := case_ok hI hfF
    have hr := cs_ok h1 h2 hm hfF hj hjm
    simp only [stepB, Bool.and_eq_true] at hr
    have hs1 := LS.instM (inst := S0 val) (kapB_ok hj hj1 hheld) hr.1 hs
    have hs2 := LS.same (hs := hs1) (i1 := S0 val) (i2 := S val (ansC f j) hansC) (fun _ => rfl)
    have hwr := WR.pat (n := n) (ips := ips) (ctx W (S val (ansC f j) hansC)) (i2 := S0 val) (sgB_ok hj1) gsize hn hr.2
    refine wp_mono (hwr cd hcc hd a w hs2) ?_
    rintro x a' w' ⟨ex, rfl, rfl, hl⟩
    exact ⟨.nrm, rfl, hfF, val, m, i, hm, hI, hl⟩
  · have : f = F := by omega
    subst this
    have hwr := WR.pat (n := n) (ips := ips) (ctx W (S0 val)) (i2 := S0 val) (vs _ _ fun _ => rfl) gsize hn (as_ok h1 h2 hm).2.2.2.2.2.1
    refine wp_mono (hwr cd hcc hd a w hs) ?_
    rintro x a' w' ⟨ex, rfl, rfl, hl⟩
    exact ⟨.exit 4, rfl, rfl, val, hl⟩

theorem whole (hv : SIn W v NM0 ips L .i64 1 Z) (hn : ∀ x ∈ ips, x.nm ∈ ipn) (hF : (F : Int) = 1 + X % 16) : WR Tryz.prog n body.toRC (LS Tryz.prog ips W n (S0 (val0 L X F Z)) patI.e patI.h) (fun ex a w => (ex = .nrm ∨ ex = .ret) ∧ LT Tryz.prog ips W n (ff6.res.map FRR.toRR) a w) := by
  have h1 : 1 ≤ F := by omega
  have h2 : F ≤ 16 := by omega
  obtain ⟨i0, i1, iE⟩ := ins_ok h1 h2
  have hans := @ansF_ok L X F Z hF
  refine WR.pre (S := LS Tryz.prog ips W n (S (val0 L X F Z) (ansF F) hans) patI.e patI.h) ?_ (fun a w hs => LS.same (i1 := S0 (val0 L X F Z)) (i2 := S (val0 L X F Z) (ansF F) hans) (fun _ => rfl) hs)
  refine WR.patPre (ctx W (S (val0 L X F Z) (ansF F) hans)) (i2 := S0 (val0 L X F Z)) start_ok gsize hn 8 i0 ?_
  rw [cut1]
  refine WR.seqF (S1 := StX L X F Z W ips n) ?_ ?_
  · refine WR.seqF (S1 := fun a w => ∃ k, k ≤ 20 ∧ StA L X F Z W ips n (20 - k) a w) ?_ ?_
    · refine (WR.pat (ctx W (S0 (val0 L X F Z))) (i2 := S0 (val0 L X F Z)) start1_ok gsize hn i1).post ?_
      rintro ex a w ⟨rfl, h⟩
      exact ⟨20, Nat.le_refl _, _, 0, Nat.zero_le _, inv0 h2, h⟩
    · refine WR.blockF (WR.loopF (fun k => StA L X F Z W ips n (20 - k)) 20 fun k hk => ?_)
      refine WR.ex fun val => WR.ex fun m => ?_
      rintro cd hcc hd a w ⟨hm, hI, hs⟩
      by_cases hgo : ((20 - k : Nat) : Int) < L ∧ 20 - k < 20
      · refine wp_mono (roundA hv hn h1 h2 hgo.1 hgo.2 hm hI cd hcc hd a w hs) ?_
        rintro x a' w' ⟨ex, rfl, rfl, hl⟩
        refine ⟨.nrm, rfl, k - 1, by omega, ?_⟩
        rw [show 20 - (k - 1) = 20 - k + 1 by omega]
        exact hl
      · refine wp_mono (leaveA hn h1 h2 (by omega) hgo hm hI cd hcc hd a w hs) ?_
        rintro x a' w' ⟨ex, rfl, rfl, hl⟩
        exact ⟨.exit 2, rfl, hl⟩
  · rw [cut2]
    refine WR.seqF (S1 := StZ F W ips n) ?_ ?_
    · refine WR.seqF (S1 := fun a w => ∃ k, k ≤ F ∧ StB L X F Z W ips n (F - k) a w) ?_ ?_
      · refine WR.ex fun val => WR.ex fun m => WR.ex fun i => ?_
        rintro cd hcc hd a w ⟨hm, hI, hs⟩
        have hwr := WR.pat (n := n) (ips := ips) (ctx W (S0 val)) (i2 := S0 val) (vs _ _ fun _ => rfl) gsize hn (as_ok h1 h2 hm).2.2.2.2.1
        refine wp_mono (hwr cd hcc hd a w hs) ?_
        rintro x a' w' ⟨ex, rfl, rfl, hl⟩
        exact ⟨.nrm, rfl, F, Nat.le_refl _, val, m, i, hm, hI, by rw [Nat.sub_self]; exact hl⟩
      · refine WR.blockF (WR.loopF (fun k => StB L X F Z W ips n (F - k)) F fun k hk => ?_)
        refine (stepBs hn h1 h2 (by omega)).post ?_
        intro ex a w h
        cases ex with
        | nrm =>
          obtain ⟨g1, g2⟩ := h
          refine ⟨k - 1, by omega, ?_⟩
          rw [show F - (k - 1) = F - k + 1 by omega]
          exact g2
        | exit x =>
          obtain ⟨rfl, g2⟩ := h
          exact g2
        | ret => exact h.elim
    · refine WR.ex fun val => ?_
      exact WR.fin (ctx W (S0 val)) iE
end
end Go.Proofs.YtolngjaihlggnaaGreatDoor.PL

namespace Go.Proofs.YtolngjaihlggnaaGreatDoor
open Go.Ev Go.Ev.Pg
theorem poolLeast_calls (X : Int) (v : Value) {L : Nat} {Z : Nat → Int} (W : World)
    (hc : W.cell? ⟨0, 0, none⟩ = some (.iface 153 (.agg #[.pointer (some ⟨4, 123, none⟩)]))) {ips : List Inp} (hip : IpOk W Ev.PL.NM0 ips) (hv : SIn W v Ev.PL.NM0 ips L .i64 1 Z) :
    Calls Tryz.prog 6 #[.int .i64 X, v] W fun e W' => e = .returned (.bool true) ∧ Fr W W' := by
  obtain ⟨F, hF⟩ := Int.eq_ofNat_of_zero_le (show 0 ≤ 1 + X % 16 by omega)
  have hn : ∀ x ∈ ips, x.nm ∈ PL.ipn := fun x hx => by rw [(hip.2 x hx).1]; exact List.mem_singleton.2 rfl
  have hfind := rhoIn_find (W := W) (G := 4) (ips := ips) (fun x hx => by rw [(hip.2 x hx).1]; decide) (fun x y hx hy _ => hip.1 x y hx hy)
  have hr := @relIn (PL.S0 (PL.val0 L X F Z)) W 0 4 153 123 (by decide) hc ips PL.ipn 6 (by decide) (by decide) (fun x hx => ⟨hn x hx, (hip.2 x hx).2⟩)
  have slv : @VRel (PL.S0 (PL.val0 L X F Z)) (rhoIn W 4 ips) (.slv Ev.PL.NM0 0 0 0) v := by
    rcases hv.val with ⟨h0, pp, cp, rfl⟩ | ⟨rb, off, cap, rsz, cc, ty, fr, rfl, hmem, _⟩
    · exact @VRel.slvn (PL.S0 (PL.val0 L X F Z)) _ _ _ _ pp cp (by show (L : Int) = 0; omega)
    · have := @VRel.slv (PL.S0 (PL.val0 L X F Z)) (rhoIn W 4 ips) Ev.PL.NM0 0 0 0 ⟨rb, off, rsz⟩ L cap (hfind _ hmem) rfl (Nat.zero_le _)
      simpa using this
  have ha : @LRel (PL.S0 (PL.val0 L X F Z)) (rhoIn W 4 ips) [Ev.PL.y 6, .slv Ev.PL.NM0 0 0 0] [.int .i64 X, v] :=
    @LRel.cons (PL.S0 (PL.val0 L X F Z)) _ _ _ _ _ (PL.sym_rel rfl) (@LRel.cons (PL.S0 (PL.val0 L X F Z)) _ _ _ _ _ slv (@LRel.nil (PL.S0 (PL.val0 L X F Z)) _))
  exact calls_of_wr (ff := ff6) r6 (PL.S0 (PL.val0 L X F Z)) (pinsIn W ips gsize) hr hfind ha fun n => PL.whole hv hn (by omega)
end Go.Proofs.YtolngjaihlggnaaGreatDoor
