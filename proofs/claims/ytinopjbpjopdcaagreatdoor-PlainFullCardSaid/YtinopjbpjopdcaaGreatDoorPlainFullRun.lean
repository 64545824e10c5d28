import Derived.Test.YtinopjbpjopdcaaGreatDoorPlainFullT0
import Derived.Test.YtinopjbpjopdcaaGreatDoorPlainFullT1
import Derived.Test.YtinopjbpjopdcaaGreatDoorPlainFullT2
import Derived.Test.YtinopjbpjopdcaaGreatDoorPlainFullT3
/-! PlainFull: the loop by its states. -/
namespace Go.Proofs.YtinopjbpjopdcaaGreatDoor.PF
open Go.Ev Go.Ev.Pg
theorem full_ok (t : Nat) (ht : t < 720) : full t = true := by
  by_cases h0 : t < 180
  · have := fu0_all (t - 0) (by omega)
    unfold full0 at this
    rwa [show 0 + (t - 0) = t by omega] at this
  by_cases h1 : t < 360
  · have := fu1_all (t - 180) (by omega)
    unfold full1 at this
    rwa [show 180 + (t - 180) = t by omega] at this
  by_cases h2 : t < 540
  · have := fu2_all (t - 360) (by omega)
    unfold full2 at this
    rwa [show 360 + (t - 360) = t by omega] at this
  by_cases h3 : t < 720
  · have := fu3_all (t - 540) (by omega)
    unfold full3 at this
    rwa [show 540 + (t - 540) = t by omega] at this
  omega

theorem run0 : endPat 4 [NM0] sg .nrm pat0 (runF t0 cx1 100000 50 (body.pre 6) patI) = true := by kernel_rfl
theorem run1 : endPat 4 [NM0] sg .nrm (pat (I 0) 1 0 []) (runF t0 cx1 100000 50 (body.suf 6 |>.fst |>.fst) pat0) = true := by kernel_rfl

def row : Nat → V → List V
  | 0, v => [v]
  | i + 1, v => .top :: row i v
def ansL (i : Nat) (b : Bool) : List Ans := [⟨.lss, I i, .sym .i64 0, .bool b⟩]
def ansC (i n c : Nat) : List Ans := ansL i true ++ ansMod (i + 1) (100 + 2 * i) (101 + 2 * i) n c
@[reducible] noncomputable def tabC (i n c : Nat) : Tab := tabK (ansC i n c) []
@[reducible] noncomputable def tabN (i : Nat) : Tab := tabK (ansL i false) []
/-- Rounds 0 to 5: from each source; from none. -/
noncomputable def rnd (i c : Nat) : Bool := endPat 4 [NM0] (sgU (21 + i) (I c)) .nrm (pat (I (i + 1)) (i + 2) 0 []) (runF (tabC i (i + 1) c) cx1 100000 50 lp (pat (I i) (i + 1) (i + 1) (row i (.sym .i64 (i + 1)))))
noncomputable def rndN (i : Nat) : Bool := endPat 4 [NM0] (sgU (21 + i) (I 0)) .nrm (pat (I (i + 1)) (i + 2) 0 []) (runF (tabN i) cx1 100000 50 lp (pat (I i) (i + 1) 0 []))
noncomputable def rnds (i : Nat) : Bool := rndN i && (List.range (i + 1)).all fun c => rnd i c
theorem rn_0 : ((List.range 1).all fun d => rnds (0 + d)) = true := by kernel_rfl
theorem rn_1 : ((List.range 1).all fun d => rnds (1 + d)) = true := by kernel_rfl
theorem rn_2 : ((List.range 1).all fun d => rnds (2 + d)) = true := by kernel_rfl
theorem rn_3 : ((List.range 1).all fun d => rnds (3 + d)) = true := by kernel_rfl
theorem rn_4 : ((List.range 1).all fun d => rnds (4 + d)) = true := by kernel_rfl
theorem rn_5 : ((List.range 1).all fun d => rnds (5 + d)) = true := by kernel_rfl
theorem rn_all : ∀ i, i < 6 → rnds i = true := by
  intro i hi
  have hq : i = 1 * (i / 1) + i % 1 := (Nat.div_add_mod i 1).symm
  have hr : i % 1 < 1 := Nat.mod_lt _ (by decide)
  have hd : i / 1 < 6 := by omega
  generalize i / 1 = q at hq hd
  generalize i % 1 = r at hq hr
  subst hq
  match q, hd with
  | 0, _ => exact List.all_eq_true.1 rn_0 r (List.mem_range.2 (by omega))
  | 1, _ => exact List.all_eq_true.1 rn_1 r (List.mem_range.2 (by omega))
  | 2, _ => exact List.all_eq_true.1 rn_2 r (List.mem_range.2 (by omega))
  | 3, _ => exact List.all_eq_true.1 rn_3 r (List.mem_range.2 (by omega))
  | 4, _ => exact List.all_eq_true.1 rn_4 r (List.mem_range.2 (by omega))
  | 5, _ => exact List.all_eq_true.1 rn_5 r (List.mem_range.2 (by omega))
  | q + 6, h => exact absurd h (by omega)

/-- Rounds 6 to 8: the condition, the choice of the source, the next number. -/
noncomputable def cond' (i : Nat) : Bool := endPat 4 [NM0] sg .nrm (pat (I i) 7 0 []) (runF t0 cx1 100000 50 cd (pat (I i) 7 0 []))
noncomputable def src (i c : Nat) : Bool := endPat 4 [NM0] (sgU 60 (I i)) .nrm (patQ psym c) (runF (tabC i 7 c) cx1 100000 50 (blkC.pre 2) (pat (I i) 7 (i + 1) (row i (.sym .i64 (i + 1)))))
noncomputable def srcN (i : Nat) : Bool := endPat 4 [NM0] (sgU 60 (I i)) .nrm (patQ psym 0) (runF (tabN i) cx1 100000 50 (blkC.pre 2) (pat (I i) 7 0 []))
noncomputable def incs (i : Nat) : Bool := endPat 4 [NM0] sg .nrm (pat (I (i + 1)) 7 0 []) (runF t0 cx1 100000 50 inc (pat (I i) 7 0 []))
def kapI (i : Nat) (s : Nat) : Option Int := bif Nat.beq s 60 then some (i : Int) else none
noncomputable def late (i : Nat) : Bool := cond' (6 + i) && srcN (6 + i) && incs (6 + i) && Pat.inst (kapI (6 + i)) (pat (I (6 + i)) 7 0 []) (pat (.sym .i64 60) 7 0 []) && (List.range 7).all fun c => src (6 + i) c
theorem la_0 : ((List.range 1).all fun d => late (0 + d)) = true := by kernel_rfl
theorem la_1 : ((List.range 1).all fun d => late (1 + d)) = true := by kernel_rfl
theorem la_2 : ((List.range 1).all fun d => late (2 + d)) = true := by kernel_rfl
theorem la_all : ∀ i, i < 3 → late i = true := by
  intro i hi
  have hq : i = 1 * (i / 1) + i % 1 := (Nat.div_add_mod i 1).symm
  have hr : i % 1 < 1 := Nat.mod_lt _ (by decide)
  have hd : i / 1 < 3 := by omega
  generalize i / 1 = q at hq hd
  generalize i % 1 = r at hq hr
  subst hq
  match q, hd with
  | 0, _ => exact List.all_eq_true.1 la_0 r (List.mem_range.2 (by omega))
  | 1, _ => exact List.all_eq_true.1 la_1 r (List.mem_range.2 (by omega))
  | 2, _ => exact List.all_eq_true.1 la_2 r (List.mem_range.2 (by omega))
  | q + 3, h => exact absurd h (by omega)

theorem leave : endPat 4 [NM0] sg (.exit 0) (patX psym) (runF t0 cx1 100000 50 lp (pat (I 9) 7 0 [])) = true := by kernel_rfl

section
variable {W : World} {ips : List Inp} {n : Nat} {v : Value} {L : Nat} {Z : Nat → Int} {pr : Nat → Int} {q : Int}

/-- The numbers: the length; the caller's; the parents; the round. -/
def val (L : Nat) (Z pr : Nat → Int) (q : Int) (s : Nat) : Int :=
  if s = 0 then L else if s < 20 then Z (s - 1) else if s < 60 then pr (s - 20) else if s = 60 then q else if s % 2 = 0 then (Z ((s - 100) / 2)).tmod (min ((s - 100) / 2 + 1) 7 : Nat) else wr .i64 ((Z ((s - 101) / 2)).tmod (min ((s - 101) / 2 + 1) 7 : Nat) + (min ((s - 101) / 2 + 1) 7 : Nat))
@[reducible] noncomputable def S (L : Nat) (Z pr : Nat → Int) (q : Int) (l : List Ans) (h : ∀ x ∈ l, AnsOk (val L Z pr q) x) : Sig := sigK (val L Z pr q) l [] h (fun x hx => by cases hx)
theorem none_ok : ∀ x ∈ ([] : List Ans), AnsOk (val L Z pr q) x := fun x hx => by cases hx
theorem ctx (W : World) (inst : Sig) : Ctx Tryz.prog W cx1 inst := ⟨follows, ts_ok, ft_ok, @cx1_ok inst _⟩
theorem vs (i1 i2 : Sig) (h : ∀ i, i2.val i = i1.val i) : ∀ i, i2.val i = V.num i1.val (sg i) := fun i => h i

theorem ansL_ok (i : Nat) (b : Bool) (hb : b = decide ((i : Int) < L)) : ∀ x ∈ ansL i b, AnsOk (val L Z pr q) x := by
  intro x hx
  simp only [ansL, List.mem_cons, List.not_mem_nil, or_false] at hx
  subst hx; subst hb
  simp [AnsOk, I, V.conc, evBin0, val]
theorem ansC_ok {i n c : Nat} (hi : i < 9) (hL : (i : Int) < L) (hn : n = min (i + 1) 7) (hc : c = (Z i % n).toNat) : ∀ x ∈ ansC i n c, AnsOk (val L Z pr q) x := by
  intro x hx
  have h1 : val L Z pr q (i + 1) = Z i := by unfold val; rw [if_neg (by omega), if_pos (by omega)]; rfl
  have h2 : val L Z pr q (100 + 2 * i) = (Z i).tmod n := by
    unfold val
    rw [if_neg (by omega), if_neg (by omega), if_neg (by omega), if_neg (by omega), if_pos (by omega), show (100 + 2 * i - 100) / 2 = i by omega, hn]
  have h3 : val L Z pr q (101 + 2 * i) = wr .i64 ((Z i).tmod n + n) := by
    unfold val
    rw [if_neg (by omega), if_neg (by omega), if_neg (by omega), if_neg (by omega), if_neg (by omega), show (101 + 2 * i - 101) / 2 = i by omega, hn]
  rcases List.mem_append.1 hx with hx | hx
  · exact ansL_ok i true (by simp [hL]) x hx
  · subst hc
    have := @ansMod_ok (val L Z pr q) (i + 1) (100 + 2 * i) (101 + 2 * i) n (by omega) (by omega) (by rw [h1, h2]) (by rw [h2, h3])
    rw [h1] at this
    exact this x hx

/-- The parents that are there lie ahead. -/
def Pr (pr : Nat → Int) (n : Nat) : Prop := ∀ j, 1 ≤ j → j < n → 0 ≤ pr j ∧ pr j < j
def St (W : World) (ips : List Inp) (n : Nat) (L : Nat) (Z : Nat → Int) (i : Nat) (a : Act) (w : World) : Prop :=
  ∃ pr q, Pr pr (min (i + 1) 7) ∧ LS Tryz.prog ips W n (S L Z pr q [] none_ok) (pat (I i) (min (i + 1) 7) 0 []).e (pat (I i) (min (i + 1) 7) 0 []).h a w
def StX (W : World) (ips : List Inp) (n : Nat) (L : Nat) (Z : Nat → Int) (a : Act) (w : World) : Prop :=
  ∃ pr q, Pr pr 7 ∧ LS Tryz.prog ips W n (S L Z pr q [] none_ok) (patX psym).e (patX psym).h a w

theorem row_len : ∀ i (v : V), (row i v).length = i + 1
  | 0, v => rfl
  | i + 1, v => by simp [row, row_len i v]
theorem row_get : ∀ i (v : V) (q : Nat) u, (row i v)[q]? = some u → (q = i ∧ u = v) ∨ (q < i ∧ u = .top)
  | 0, v, q, u, h => by
    cases q with
    | zero => simp [row] at h; exact .inl ⟨rfl, h.symm⟩
    | succ q => simp [row] at h
  | i + 1, v, q, u, h => by
    cases q with
    | zero => simp [row] at h; exact .inr ⟨by omega, h.symm⟩
    | succ q =>
      simp only [row, List.getElem?_cons_succ] at h
      rcases row_get i v q u h with ⟨h1, h2⟩ | ⟨h1, h2⟩
      · exact .inl ⟨by omega, h2⟩
      · exact .inr ⟨by omega, h2⟩

/-- A piece that starts at a state of one kind. -/
theorem piece {c : FCode} {Q : Ex → Act → World → Prop} {X : Act → World → Prop} {Y : Act → World → Prop} (hX : ∀ a w, X a w → Y a w) (h : WR Tryz.prog n c.toRC Y Q) : WR Tryz.prog n c.toRC X Q := h.pre hX

theorem see (hv : SIn W v NM0 ips L .i64 1 Z) {i m : Nat} {iv : V} {l : List Ans} {hl : ∀ x ∈ l, AnsOk (val L Z pr q) x} (hi : i < 9) (hL : (i : Int) < L) {a : Act} {w : World} (hs : LS Tryz.prog ips W n (S L Z pr q l hl) (pat iv m 0 []).e (pat iv m 0 []).h a w) :
    LS Tryz.prog ips W n (S L Z pr q l hl) (pat iv m (i + 1) (row i (.sym .i64 (i + 1)))).e (pat iv m (i + 1) (row i (.sym .i64 (i + 1)))).h a w := by
  rcases hv.val with ⟨h0, _⟩ | ⟨rb, off, cap, rsz, cc, ty, fr, rfl, hmem, hw0, hsz, hfit, hget⟩
  · omega
  · refine LS.moreP (lo' := i + 1) (cs' := row i (.sym .i64 (i + 1))) hmem rfl hw0 hsz (by show ((i + 1 : Nat) : Int) ≤ val L Z pr q 0; simp [val]; omega) (by rw [row_len]; show off + (i + 1) ≤ cc.size; omega) (fun q' u hq => ?_) hs
    rcases row_get i _ q' u hq with ⟨rfl, rfl⟩ | ⟨hlt, rfl⟩
    · refine ⟨_, hget q' (by omega), fun ρ => ?_⟩
      have h1 : val L Z pr q (q' + 1) = Z q' := by unfold val; rw [if_neg (by omega), if_pos (by omega)]; rfl
      have := @VRel.sym (S L Z pr q l hl) ρ .i64 (q' + 1)
      rw [show (S L Z pr q l hl).val (q' + 1) = Z q' from h1] at this
      exact this
    · exact ⟨_, hget q' (by omega), fun ρ => @VRel.top (S L Z pr q l hl) ρ _ rfl⟩

theorem mods (i n : Nat) (hn : 0 < n) : (Z i % n).toNat < n ∧ ((Z i % n).toNat : Int) = Z i % n := by
  have h0 := Int.emod_nonneg (Z i) (show (n : Int) ≠ 0 by omega)
  have h1 := Int.emod_lt_of_pos (Z i) (show (0 : Int) < n by omega)
  omega

/-- The next parent. -/
def upd (pr : Nat → Int) (j : Nat) (c : Nat) (s : Nat) : Int := if s = j then c else pr s
theorem upd_val {i c : Nat} (hi : i < 6) {l1 l2 : List Ans} {h1 : ∀ x ∈ l1, AnsOk (val L Z pr q) x} {h2 : ∀ x ∈ l2, AnsOk (val L Z (upd pr (i + 1) c) q) x} : ∀ s, (S L Z (upd pr (i + 1) c) q l2 h2).val s = V.num (S L Z pr q l1 h1).val (sgU (21 + i) (I c) s) := by
  intro s
  show val L Z (upd pr (i + 1) c) q s = V.num (val L Z pr q) (sgU (21 + i) (I c) s)
  unfold sgU
  by_cases hs : s = 21 + i
  · subst hs
    rw [nbt rfl]
    show _ = (c : Int)
    unfold val upd
    rw [if_neg (by omega), if_neg (by omega), if_pos (by omega), if_pos (by omega)]
  · rw [nbf hs]
    show _ = val L Z pr q s
    unfold val upd
    by_cases h20 : s < 20
    · simp [h20]
    · rw [if_neg (show s - 20 ≠ i + 1 by omega)]

theorem early (hv : SIn W v NM0 ips L .i64 1 Z) (hn : ∀ x ∈ ips, x.nm ∈ [NM0]) {i : Nat} (hi : i < 6) : WR Tryz.prog n lp.toRC (St W ips n L Z i) (fun ex a w => ex = .nrm ∧ St W ips n L Z (i + 1) a w) := by
  refine WR.ex fun pr => WR.ex fun q => ?_
  rintro c hcc hd a w ⟨hp, hs⟩
  have hm : min (i + 1) 7 = i + 1 := by omega
  have hm2 : min (i + 1 + 1) 7 = i + 2 := by omega
  rw [hm] at hs hp
  have hr0 := rn_all i hi
  simp only [rnds, Bool.and_eq_true, List.all_eq_true] at hr0
  have fin : ∀ k, k < i + 1 → ∀ a' w', LS Tryz.prog ips W n (S L Z (upd pr (i + 1) k) q [] none_ok) (pat (I (i + 1)) (i + 2) 0 []).e (pat (I (i + 1)) (i + 2) 0 []).h a' w' → St W ips n L Z (i + 1) a' w' := by
    intro k hk a' w' hl
    refine ⟨upd pr (i + 1) k, q, ?_, by rw [hm2]; exact hl⟩
    rw [hm2]
    intro j h1 h2
    unfold upd
    by_cases hj : j = i + 1
    · rw [if_pos hj]; omega
    · rw [if_neg hj]; exact hp j h1 (by omega)
  by_cases hL : (i : Int) < L
  · obtain ⟨k1, k2⟩ := mods (Z := Z) i (i + 1) (by omega)
    have hans := @ansC_ok L Z pr q i (i + 1) _ (by omega) hL (by omega) rfl
    have hs1 := LS.same (i1 := S L Z pr q [] none_ok) (i2 := S L Z pr q _ hans) (fun _ => rfl) hs
    have hs2 := see hv (by omega) hL hs1
    have hr : endPat 4 [NM0] (sgU (21 + i) (I (Z i % ((i + 1 : Nat) : Int)).toNat)) .nrm (pat (I (i + 1)) (i + 2) 0 []) (runF (S L Z pr q _ hans).toTab cx1 100000 50 lp (pat (I i) (i + 1) (i + 1) (row i (.sym .i64 (i + 1))))) = true := hr0.2 _ (List.mem_range.2 k1)
    have hwr := WR.pat (n := n) (ips := ips) (ctx W (S L Z pr q _ hans)) (i2 := S L Z (upd pr (i + 1) (Z i % ((i + 1 : Nat) : Int)).toNat) q [] none_ok) (upd_val hi) gsize hn hr
    refine wp_mono (hwr c hcc hd a w hs2) ?_
    rintro x a' w' ⟨ex, rfl, rfl, hl⟩
    exact ⟨.nrm, rfl, rfl, fin _ k1 _ _ hl⟩
  · have hans := @ansL_ok L Z pr q i false (by simp [hL])
    have hs1 := LS.same (i1 := S L Z pr q [] none_ok) (i2 := S L Z pr q _ hans) (fun _ => rfl) hs
    have hr : endPat 4 [NM0] (sgU (21 + i) (I 0)) .nrm (pat (I (i + 1)) (i + 2) 0 []) (runF (S L Z pr q _ hans).toTab cx1 100000 50 lp (pat (I i) (i + 1) 0 [])) = true := hr0.1
    have hwr := WR.pat (n := n) (ips := ips) (ctx W (S L Z pr q _ hans)) (i2 := S L Z (upd pr (i + 1) 0) q [] none_ok) (upd_val hi) gsize hn hr
    refine wp_mono (hwr c hcc hd a w hs1) ?_
    rintro x a' w' ⟨ex, rfl, rfl, hl⟩
    exact ⟨.nrm, rfl, rfl, fin 0 (by omega) _ _ hl⟩

/-- The tree's number. -/
theorem tree (hp : Pr pr 7) : ∃ t, t < 720 ∧ ∀ j, 1 ≤ j → j < 7 → pr j = (dig t j : Nat) := by
  have p1 := hp 1 (by omega) (by omega); have p2 := hp 2 (by omega) (by omega); have p3 := hp 3 (by omega) (by omega)
  have p4 := hp 4 (by omega) (by omega); have p5 := hp 5 (by omega) (by omega); have p6 := hp 6 (by omega) (by omega)
  obtain ⟨a2, h2⟩ := Int.eq_ofNat_of_zero_le p2.1; obtain ⟨a3, h3⟩ := Int.eq_ofNat_of_zero_le p3.1
  obtain ⟨a4, h4⟩ := Int.eq_ofNat_of_zero_le p4.1; obtain ⟨a5, h5⟩ := Int.eq_ofNat_of_zero_le p5.1; obtain ⟨a6, h6⟩ := Int.eq_ofNat_of_zero_le p6.1
  refine ⟨a2 + 2 * a3 + 6 * a4 + 24 * a5 + 120 * a6, by omega, fun j j1 j2 => ?_⟩
  have : j = 1 ∨ j = 2 ∨ j = 3 ∨ j = 4 ∨ j = 5 ∨ j = 6 := by omega
  rcases this with rfl | rfl | rfl | rfl | rfl | rfl <;> simp only [dig] <;> omega
theorem kap_ok {t : Nat} (ht : ∀ j, 1 ≤ j → j < 7 → pr j = (dig t j : Nat)) {l : List Ans} {h : ∀ x ∈ l, AnsOk (val L Z pr q) x} : ∀ i z, kap t i = some z → (S L Z pr q l h).val i = z := by
  intro i z hk
  show val L Z pr q i = z
  unfold kap at hk
  by_cases h1 : 20 < i ∧ i < 27
  · have e : (Nat.blt 20 i && Nat.blt i 27) = true := by
      rw [Bool.and_eq_true]; exact ⟨Nat.ble_eq_true_of_le h1.1, Nat.ble_eq_true_of_le h1.2⟩
    rw [e] at hk
    simp only [cond_true, Option.some.injEq] at hk
    subst hk
    unfold val
    rw [if_neg (by omega), if_neg (by omega), if_pos (by omega), ht (i - 20) (by omega) (by omega)]
  · have e : (Nat.blt 20 i && Nat.blt i 27) = false := by
      cases hb : (Nat.blt 20 i && Nat.blt i 27) with
      | false => rfl
      | true => rw [Bool.and_eq_true] at hb; exact absurd ⟨nblt' hb.1, nblt' hb.2⟩ h1
    rw [e] at hk
    cases hk
theorem sgT_ok {t : Nat} (ht : ∀ j, 1 ≤ j → j < 7 → pr j = (dig t j : Nat)) {l1 l2 : List Ans} {h1 : ∀ x ∈ l1, AnsOk (val L Z pr q) x} {h2 : ∀ x ∈ l2, AnsOk (val L Z pr q) x} : ∀ s, (S L Z pr q l2 h2).val s = V.num (S L Z pr q l1 h1).val (sgT t s) := by
  intro s
  show val L Z pr q s = V.num (val L Z pr q) (sgT t s)
  unfold sgT
  cases hb : (Nat.blt 20 s && Nat.blt s 27) with
  | false => rfl
  | true =>
    have hb' := hb
    rw [Bool.and_eq_true] at hb'
    have := kap_ok (q := q) (L := L) (Z := Z) ht (l := []) (h := none_ok) s (dig t (s - 20) : Nat) (by unfold kap; rw [hb]; rfl)
    exact this

theorem cutB : lp = .seq cd (.seq (.block 1 blkC) inc) := by kernel_rfl

theorem lateR (hv : SIn W v NM0 ips L .i64 1 Z) (hn : ∀ x ∈ ips, x.nm ∈ [NM0]) {i : Nat} (h6 : 6 ≤ i) (h9 : i < 9) : WR Tryz.prog n lp.toRC (St W ips n L Z i) (fun ex a w => ex = .nrm ∧ St W ips n L Z (i + 1) a w) := by
  refine WR.ex fun pr => WR.ex fun q => ?_
  have hm : min (i + 1) 7 = 7 := by omega
  have hm2 : min (i + 1 + 1) 7 = 7 := by omega
  rw [hm]
  have hla := la_all (i - 6) (by omega)
  simp only [late, Bool.and_eq_true, List.all_eq_true, show 6 + (i - 6) = i by omega] at hla
  obtain ⟨⟨⟨⟨l1, l2⟩, l3⟩, l4⟩, l5⟩ := hla
  rintro c hcc hd a w ⟨hp, hs⟩
  obtain ⟨t, ht, htd⟩ := tree hp
  have hfull := full_ok t ht
  simp only [full, Bool.and_eq_true, List.all_eq_true] at hfull
  suffices h : WR Tryz.prog n lp.toRC (LS Tryz.prog ips W n (S L Z pr q [] none_ok) (pat (I i) 7 0 []).e (pat (I i) 7 0 []).h) (fun ex a w => ex = .nrm ∧ St W ips n L Z (i + 1) a w) from h c hcc hd a w hs
  clear hs hd hcc c a w
  rw [cutB]
  refine WR.seqF (S1 := LS Tryz.prog ips W n (S L Z pr q [] none_ok) (pat (I i) 7 0 []).e (pat (I i) 7 0 []).h) ?_ ?_
  · refine (WR.pat (ctx W (S L Z pr q [] none_ok)) (i2 := S L Z pr q [] none_ok) (vs _ _ fun _ => rfl) gsize hn l1).post ?_
    rintro ex a w ⟨rfl, h⟩
    exact h
  · refine WR.seqF (S1 := LS Tryz.prog ips W n (S L Z pr i [] none_ok) (pat (I i) 7 0 []).e (pat (I i) 7 0 []).h) ?_ ?_
    · refine WR.blockF ?_
      -- behind the choice
      have hq : ∀ s, (S L Z pr i [] none_ok).val s = V.num (S L Z pr q [] none_ok).val (sgU 60 (I i) s) := by
        intro s
        show val L Z pr i s = V.num (val L Z pr q) (sgU 60 (I i) s)
        unfold sgU
        by_cases hs : s = 60
        · subst hs
          rw [nbt rfl]
          show _ = (i : Int)
          simp [val]
        · rw [nbf hs]
          show _ = val L Z pr q s
          unfold val
          simp only [if_neg hs]
      have go : ∀ k, k < 7 → WR Tryz.prog n (FCode.suf 2 blkC).toRC (LS Tryz.prog ips W n (S L Z pr i [] none_ok) (patQ psym k).e (patQ psym k).h) (fun ex a w => match ex with | .exit x => if x = 1 then LS Tryz.prog ips W n (S L Z pr i [] none_ok) (pat (I i) 7 0 []).e (pat (I i) 7 0 []).h a w else (Ex.exit x = .nrm ∧ St W ips n L Z (i + 1) a w) | .nrm => LS Tryz.prog ips W n (S L Z pr i [] none_ok) (pat (I i) 7 0 []).e (pat (I i) 7 0 []).h a w | .ret => (Ex.ret = .nrm ∧ St W ips n L Z (i + 1) a w)) := by
        intro k hk
        have hfk := hfull.2 k (List.mem_range.2 hk)
        refine WR.pre (S := LS Tryz.prog ips W n (S L Z pr i [] none_ok) (patQ (par t) k).e (patQ (par t) k).h) ?_ (fun a w hs => LS.inst (kap_ok htd) hfk.1 hs)
        refine (WR.pat (ctx W (S L Z pr i [] none_ok)) (i2 := S L Z pr i [] none_ok) (sgT_ok htd) gsize hn hfk.2).post ?_
        rintro ex a w ⟨rfl, h⟩
        refine LS.inst (κ := kapI i) (fun s z hk => ?_) l4 h
        unfold kapI at hk
        by_cases hs : s = 60
        · subst hs
          rw [nbt rfl] at hk
          simp only [cond_true, Option.some.injEq] at hk
          subst hk
          show val L Z pr i 60 = i
          simp [val]
        · rw [nbf hs] at hk; cases hk
      have post : ∀ {ex : Ex} {a : Act} {w : World}, (match ex with | .exit x => if x = 1 then LS Tryz.prog ips W n (S L Z pr i [] none_ok) (pat (I i) 7 0 []).e (pat (I i) 7 0 []).h a w else (Ex.exit x = .nrm ∧ St W ips n L Z (i + 1) a w) | .nrm => LS Tryz.prog ips W n (S L Z pr i [] none_ok) (pat (I i) 7 0 []).e (pat (I i) 7 0 []).h a w | .ret => (Ex.ret = .nrm ∧ St W ips n L Z (i + 1) a w)) →
          (match ex with | .exit x => if x = 1 then (match Ex.nrm with | .nrm => LS Tryz.prog ips W n (S L Z pr i [] none_ok) (pat (I i) 7 0 []).e (pat (I i) 7 0 []).h a w | _ => Ex.nrm = .nrm ∧ St W ips n L Z (i + 1) a w) else (match Ex.exit x with | .nrm => LS Tryz.prog ips W n (S L Z pr i [] none_ok) (pat (I i) 7 0 []).e (pat (I i) 7 0 []).h a w | _ => Ex.exit x = .nrm ∧ St W ips n L Z (i + 1) a w) | _ => (match ex with | .nrm => LS Tryz.prog ips W n (S L Z pr i [] none_ok) (pat (I i) 7 0 []).e (pat (I i) 7 0 []).h a w | _ => ex = .nrm ∧ St W ips n L Z (i + 1) a w)) := by
        intro ex a w h
        cases ex <;> exact h
      by_cases hL : (i : Int) < L
      · obtain ⟨k1, k2⟩ := mods (Z := Z) i 7 (by omega)
        have hans := @ansC_ok L Z pr q i 7 _ (by omega) hL (by omega) rfl
        refine WR.pre (S := LS Tryz.prog ips W n (S L Z pr q _ hans) (pat (I i) 7 (i + 1) (row i (.sym .i64 (i + 1)))).e (pat (I i) 7 (i + 1) (row i (.sym .i64 (i + 1)))).h) ?_
          (fun a w hs => see hv (by omega) hL (LS.same (i1 := S L Z pr q [] none_ok) (i2 := S L Z pr q _ hans) (fun _ => rfl) hs))
        exact WR.patPre (ctx W (S L Z pr q _ hans)) (i2 := S L Z pr i [] none_ok) hq gsize hn 2 (l5 _ (List.mem_range.2 k1)) ((go _ k1).post fun ex a w h => post h)
      · have hans := @ansL_ok L Z pr q i false (by simp [hL])
        refine WR.pre (S := LS Tryz.prog ips W n (S L Z pr q _ hans) (pat (I i) 7 0 []).e (pat (I i) 7 0 []).h) ?_
          (fun a w hs => LS.same (i1 := S L Z pr q [] none_ok) (i2 := S L Z pr q _ hans) (fun _ => rfl) hs)
        exact WR.patPre (ctx W (S L Z pr q _ hans)) (i2 := S L Z pr i [] none_ok) hq gsize hn 2 l2 ((go 0 (by omega)).post fun ex a w h => post h)
    · refine (WR.pat (ctx W (S L Z pr i [] none_ok)) (i2 := S L Z pr i [] none_ok) (vs _ _ fun _ => rfl) gsize hn l3).post ?_
      rintro ex a w ⟨rfl, h⟩
      exact ⟨rfl, pr, i, by rw [hm2]; exact hp, by rw [hm2]; exact h⟩

theorem cut : FCode.suf 6 body = .seq (.seq (body.suf 6).fst.fst (.block 0 (.loop lp))) (body.suf 7) := by kernel_rfl

theorem whole (hv : SIn W v NM0 ips L .i64 1 Z) (hn : ∀ x ∈ ips, x.nm ∈ [NM0]) : WR Tryz.prog n body.toRC (LS Tryz.prog ips W n (S L Z (fun _ => 0) 0 [] none_ok) patI.e patI.h) (fun ex a w => (ex = .nrm ∨ ex = .ret) ∧ LT Tryz.prog ips W n (ff5.res.map FRR.toRR) a w) := by
  refine WR.patPre (ctx W (S L Z (fun _ => 0) 0 [] none_ok)) (i2 := S L Z (fun _ => 0) 0 [] none_ok) (vs _ _ fun _ => rfl) gsize hn 6 run0 ?_
  rw [cut]
  refine WR.seqF (S1 := StX W ips n L Z) ?_ ?_
  · refine WR.seqF (S1 := fun a w => ∃ k, k ≤ 9 ∧ St W ips n L Z (9 - k) a w) ?_ ?_
    · refine (WR.pat (ctx W (S L Z (fun _ => 0) 0 [] none_ok)) (i2 := S L Z (fun _ => 0) 0 [] none_ok) (vs _ _ fun _ => rfl) gsize hn run1).post ?_
      rintro ex a w ⟨rfl, h⟩
      exact ⟨9, Nat.le_refl _, fun _ => 0, 0, fun j h1 h2 => by omega, h⟩
    · refine WR.blockF (WR.loopF (fun k => St W ips n L Z (9 - k)) 9 fun k hk => ?_)
      have step : ∀ a w, St W ips n L Z (9 - k + 1) a w → 0 < k → ∃ j, j < k ∧ St W ips n L Z (9 - j) a w := by
        intro a w h hk0
        refine ⟨k - 1, by omega, ?_⟩
        rwa [show 9 - (k - 1) = 9 - k + 1 by omega]
      rcases Nat.lt_or_ge 3 k with h3 | h3
      · exact (early hv hn (by omega)).post (by rintro ex a w ⟨rfl, h⟩; exact step a w h (by omega))
      · rcases Nat.eq_zero_or_pos k with rfl | hk0
        · refine WR.ex fun pr => WR.ex fun q => ?_
          rintro c hcc hd a w ⟨hp, hs⟩
          have hwr := WR.pat (n := n) (ips := ips) (ctx W (S L Z pr q [] none_ok)) (i2 := S L Z pr q [] none_ok) (vs _ _ fun _ => rfl) gsize hn leave
          refine wp_mono (hwr c hcc hd a w hs) ?_
          rintro x a' w' ⟨ex, rfl, rfl, hl⟩
          exact ⟨.exit 0, rfl, pr, q, hp, hl⟩
        · exact (lateR hv hn (by omega) (by omega)).post (by rintro ex a w ⟨rfl, h⟩; exact step a w h hk0)
  · refine WR.ex fun pr => WR.ex fun q => ?_
    rintro c hcc hd a w ⟨hp, hs⟩
    obtain ⟨t, ht, htd⟩ := tree hp
    have hfull := full_ok t ht
    simp only [full, Bool.and_eq_true] at hfull
    exact WR.fin (ctx W (S L Z pr q [] none_ok)) hfull.1.2 c hcc hd a w (LS.inst (kap_ok htd) hfull.1.1 hs)
end
end Go.Proofs.YtinopjbpjopdcaaGreatDoor.PF

namespace Go.Proofs.YtinopjbpjopdcaaGreatDoor
open Go.Ev Go.Ev.Pg
theorem plainFull_calls (v : Value) {L : Nat} {Z : Nat → Int} (W : World)
    (hc : W.cell? ⟨0, 0, none⟩ = some (.iface 174 (.agg #[.pointer (some ⟨4, 67, none⟩)]))) {ips : List Inp} (hip : IpOk W PF.NM0 ips) (hv : SIn W v PF.NM0 ips L .i64 1 Z) :
    Calls Tryz.prog 5 #[v] W fun e W' => e = .returned (.bool true) ∧ Fr W W' := by
  have hn : ∀ x ∈ ips, x.nm ∈ [PF.NM0] := fun x hx => by rw [(hip.2 x hx).1]; exact List.mem_singleton.2 rfl
  have hfind := rhoIn_find (W := W) (G := 4) (ips := ips) (fun x hx => by rw [(hip.2 x hx).1]; decide) (fun x y hx hy _ => hip.1 x y hx hy)
  have hr := @relIn (PF.S L Z (fun _ => 0) 0 [] PF.none_ok) W 0 4 174 67 (by decide) hc ips [PF.NM0] 6 (by decide) (by decide) (fun x hx => ⟨hn x hx, (hip.2 x hx).2⟩)
  have ha : @LRel (PF.S L Z (fun _ => 0) 0 [] PF.none_ok) (rhoIn W 4 ips) [.slv PF.NM0 0 0 0] [v] := by
    refine @LRel.one (PF.S L Z (fun _ => 0) 0 [] PF.none_ok) _ _ _ ?_
    rcases hv.val with ⟨h0, pp, cp, rfl⟩ | ⟨rb, off, cap, rsz, cc, ty, fr, rfl, hmem, _⟩
    · exact @VRel.slvn (PF.S L Z (fun _ => 0) 0 [] PF.none_ok) _ _ _ _ pp cp (by show PF.val L Z _ _ 0 = 0; simp [PF.val]; omega)
    · have := @VRel.slv (PF.S L Z (fun _ => 0) 0 [] PF.none_ok) (rhoIn W 4 ips) PF.NM0 0 0 0 ⟨rb, off, rsz⟩ L cap (hfind _ hmem) (by show PF.val L Z _ _ 0 = L; simp [PF.val]) (Nat.zero_le _)
      simpa using this
  exact calls_of_wr (ff := ff5) r5 (PF.S L Z (fun _ => 0) 0 [] PF.none_ok) (pinsIn W ips gsize) hr hfind ha fun n => PF.whole hv hn
end Go.Proofs.YtinopjbpjopdcaaGreatDoor
