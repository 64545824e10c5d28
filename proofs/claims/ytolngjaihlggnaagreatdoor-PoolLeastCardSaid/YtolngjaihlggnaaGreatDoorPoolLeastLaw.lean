import Derived.Test.YtolngjaihlggnaaGreatDoorPoolLeastBase
/-! PoolLeast: the law of the numbers. -/
namespace Go.Proofs.YtolngjaihlggnaaGreatDoor.PL
open Go.Ev Go.Ev.Pg Go.Ev.PL
set_option linter.unusedVariables false
set_option linter.unusedSimpArgs false
theorem ok_nil {val : Nat → Int} : ∀ x ∈ ([] : List Ans), AnsOk val x := fun x hx => by cases hx
theorem ok_cons {val : Nat → Int} {z : Ans} {l : List Ans} (h : AnsOk val z) (hl : ∀ x ∈ l, AnsOk val x) : ∀ x ∈ z :: l, AnsOk val x := fun x hx => by
  rcases List.mem_cons.1 hx with rfl | hx
  · exact h
  · exact hl x hx

section
variable (L : Nat) (X : Int) (F : Nat) (Z : Nat → Int)
def chn : Nat → Int
  | 0 => 0
  | k + 1 => wr .i64 (chn k + 1)
def val0 (q : Nat) : Int := if q < 60 then (if q = 0 then (L : Int) else if q = 6 then X else if q = 30 then X.tmod 16 else if q = 31 then wr .i64 (X.tmod 16 + 16) else 0)
  else if q < 1000 then (if 100 ≤ q ∧ q < 116 then 1 else 0) else if q < 2000 then Z (q - 1000) else if q < 3000 then (Z (q - 2000)).tmod F
  else if q < 4000 then wr .i64 ((Z (q - 3000)).tmod F + F) else if q < 5000 then Z (q - 4000) % F else chn (q - 5000)

/-- What holds at the second loop's head: round i, m frames let go. -/
structure Inv (m i : Nat) (val : Nat → Int) : Prop where
  fixed : ∀ q, (q < 60 ∨ (1000 ≤ q ∧ q < 5000)) → val q = val0 L X F Z q
  now : val 5000 = (i : Int)
  chain : ∀ k, val (5000 + k + 1) = wr .i64 (val (5000 + k) + 1)
  keys : ∀ j, j < m → 0 ≤ val (200 + j) ∧ val (200 + j) < F
  inj : ∀ j k, j < m → k < m → val (200 + j) = val (200 + k) → j = k
  held : ∀ c, c < F → (∀ j, j < m → val (200 + j) ≠ (c : Int)) → val (100 + c) = 1
  gone : ∀ c j, c < F → j < m → val (200 + j) = (c : Int) → val (100 + c) = 0
end

theorem pig : ∀ (F m : Nat) (f : Nat → Int), (∀ j, j < m → 0 ≤ f j ∧ f j < F) → (∀ j k, j < m → k < m → f j = f k → j = k) → m ≤ F
  | 0, m, f, h, _ => by
    rcases Nat.eq_zero_or_pos m with rfl | hm
    · exact Nat.le_refl _
    · have := h 0 hm; omega
  | F + 1, m, f, h, hi => by
    by_cases hx : ∃ j, j < m ∧ f j = F
    · obtain ⟨j0, hj, hf⟩ := hx
      have := pig F (m - 1) (fun j => f (if j < j0 then j else j + 1)) (fun j hjm => by
        have hlt : (if j < j0 then j else j + 1) < m := by split <;> omega
        have h1 := h _ hlt
        refine ⟨h1.1, ?_⟩
        have hne : f (if j < j0 then j else j + 1) ≠ F := fun he => by
          have := hi _ _ hlt hj (he.trans hf.symm)
          split at this <;> omega
        have := h1.2
        show f (if j < j0 then j else j + 1) < F
        omega) (fun j k hjm hkm he => by
        have h1 : (if j < j0 then j else j + 1) < m := by split <;> omega
        have h2 : (if k < j0 then k else k + 1) < m := by split <;> omega
        have := hi _ _ h1 h2 he
        split at this <;> split at this <;> omega)
      omega
    · have := pig F m f (fun j hj => by
        have h1 := h j hj
        have : f j ≠ F := fun he => hx ⟨j, hj, he⟩
        omega) hi
      omega

section
variable {L : Nat} {X : Int} {F : Nat} {Z : Nat → Int}

theorem start_ok (q : Nat) : val0 L X F Z q = V.num (val0 L X F Z) (sg0 q) := by
  unfold sg0
  by_cases h : 100 ≤ q ∧ q < 116
  · rw [show (Nat.ble 100 q && Nat.blt q 116) = true from by rw [Bool.and_eq_true]; exact ⟨Nat.ble_eq_true_of_le h.1, Nat.ble_eq_true_of_le h.2⟩]
    show val0 L X F Z q = 1
    unfold val0
    rw [if_neg (by omega), if_pos (by omega), if_pos h]
  · rw [show (Nat.ble 100 q && Nat.blt q 116) = false from by
      cases hb : (Nat.ble 100 q && Nat.blt q 116) with
      | false => rfl
      | true => rw [Bool.and_eq_true] at hb; exact absurd ⟨nble hb.1, nblt' hb.2⟩ h]
    rfl
theorem start1_ok (q : Nat) : val0 L X F Z q = V.num (val0 L X F Z) (sg1 q) := by
  unfold sg1
  by_cases h : q = 5000
  · subst h; rw [nbt rfl]; rfl
  · rw [nbf h]; rfl
theorem inv0 (hF : F ≤ 16) : Inv L X F Z 0 0 (val0 L X F Z) := by
  refine ⟨fun q _ => rfl, rfl, fun k => ?_, fun j h => by omega, fun j k h => by omega, fun c hc _ => ?_, fun c j _ h => by omega⟩
  · unfold val0
    simp only [if_neg (show ¬ 5000 + k + 1 < 60 by omega), if_neg (show ¬ 5000 + k + 1 < 1000 by omega), if_neg (show ¬ 5000 + k + 1 < 2000 by omega), if_neg (show ¬ 5000 + k + 1 < 3000 by omega), if_neg (show ¬ 5000 + k + 1 < 4000 by omega), if_neg (show ¬ 5000 + k + 1 < 5000 by omega),
      if_neg (show ¬ 5000 + k < 60 by omega), if_neg (show ¬ 5000 + k < 1000 by omega), if_neg (show ¬ 5000 + k < 2000 by omega), if_neg (show ¬ 5000 + k < 3000 by omega), if_neg (show ¬ 5000 + k < 4000 by omega), if_neg (show ¬ 5000 + k < 5000 by omega)]
    rw [show 5000 + k + 1 - 5000 = k + 1 by omega, show 5000 + k - 5000 = k by omega]
    rfl
  · unfold val0
    rw [if_neg (by omega), if_pos (by omega), if_pos (by omega)]

theorem bigs {q : Nat} (h : ¬ 5000 ≤ q) : Nat.ble 5000 q = false := by cases hb : Nat.ble 5000 q with | false => rfl | true => exact absurd (nble hb) h

/-- The choice of the frame. -/
theorem inv_I {m i : Nat} {val : Nat → Int} (hI : Inv L X F Z m i val) : Inv L X F Z m i (fun q => V.num val (sgI i q)) ∧ V.num val (sgI i 61) = val (4000 + i) := by
  have ne : ∀ q, q ≠ 61 → V.num val (sgI i q) = val q := by
    intro q h61
    unfold sgI
    by_cases h : q = 5000
    · subst h; rw [nbt rfl]; exact hI.now.symm
    · rw [nbf h, nbf h61]; rfl
  refine ⟨⟨fun q hq => ?_, ?_, fun k => ?_, fun j hj => ?_, fun j k hj hk h => ?_, fun c hc h => ?_, fun c j hc hj h => ?_⟩, ?_⟩
  · exact (ne q (by omega)).trans (hI.fixed q hq)
  · exact (ne 5000 (by omega)).trans hI.now
  · show V.num val (sgI i (5000 + k + 1)) = wr .i64 (V.num val (sgI i (5000 + k)) + 1)
    rw [ne _ (by omega), ne _ (by omega)]; exact hI.chain k
  · show 0 ≤ V.num val (sgI i (200 + j)) ∧ V.num val (sgI i (200 + j)) < F
    rw [ne _ (by omega)]; exact hI.keys j hj
  · have h : V.num val (sgI i (200 + j)) = V.num val (sgI i (200 + k)) := h
    rw [ne _ (by omega), ne _ (by omega)] at h; exact hI.inj j k hj hk h
  · show V.num val (sgI i (100 + c)) = 1
    by_cases h1 : c < F
    · rw [show V.num val (sgI i (100 + c)) = val (100 + c) from ne _ (by omega)]
      exact hI.held c hc fun j hj => by have := h j hj; rwa [ne _ (by omega)] at this
    · exact absurd hc h1
  · show V.num val (sgI i (100 + c)) = 0
    have h : V.num val (sgI i (200 + j)) = (c : Int) := h
    rw [ne _ (by omega)] at h
    rw [ne _ (by omega)]; exact hI.gone c j hc hj h
  · rfl

/-- A frame, by the keys. -/
theorem find (val : Nat → Int) (c : Int) : ∀ m, (∃ j, j < m ∧ val (200 + j) = c) ∨ ∀ j, j < m → val (200 + j) ≠ c
  | 0 => .inr fun j h => by omega
  | m + 1 => by
    rcases find val c m with ⟨j, h1, h2⟩ | h
    · exact .inl ⟨j, by omega, h2⟩
    · by_cases hm : val (200 + m) = c
      · exact .inl ⟨m, by omega, hm⟩
      · exact .inr fun j hj => by
          rcases Nat.lt_or_ge j m with h1 | h1
          · exact h j h1
          · rw [show j = m by omega]; exact hm
theorem unl_ok {val : Nat → Int} {c : Nat} : ∀ n i, (∀ j, i ≤ j → j < i + n → val (200 + j) ≠ (c : Int)) → ∀ x ∈ unl c n i, AnsOk val x
  | 0, i, _ => ok_nil
  | n + 1, i, h => by
    refine ok_cons ?_ (unl_ok n (i + 1) fun j h1 h2 => h j (by omega) (by omega))
    have := h i (Nat.le_refl _) (by omega)
    simp [AnsOk, PL.a, ky, y, I, V.conc, evBin0]
    omega
/-- The case of a frame c: which key it is. -/
theorem case_ok {m i : Nat} {val : Nat → Int} (hI : Inv L X F Z m i val) {c : Nat} (hc : c < F) : ∃ j, j ≤ m ∧ (j = m → m < F) ∧ (j < m → val (200 + j) = (c : Int)) ∧ (j = m → ∀ k, k < m → val (200 + k) ≠ (c : Int)) ∧ (∀ x ∈ ansC c j, AnsOk val x) ∧ val (100 + c) = (if j = m then 1 else 0) := by
  rcases find val c m with ⟨j, h1, h2⟩ | h
  · refine ⟨j, by omega, fun h => by omega, fun _ => h2, fun h => by omega, unl_ok j 0 fun k _ hk he => ?_, ?_⟩
    · have := hI.inj k j (by omega) h1 (he.trans h2.symm); omega
    · rw [if_neg (by omega)]; exact hI.gone c j hc h1 h2
  · refine ⟨m, Nat.le_refl _, fun _ => ?_, fun h => by omega, fun _ => h, unl_ok m 0 fun k _ hk => h k (by omega), ?_⟩
    · have := pig F (m + 1) (fun j => if j = m then (c : Int) else val (200 + j)) (fun j hj => by
        show 0 ≤ (if j = m then (c : Int) else val (200 + j)) ∧ (if j = m then (c : Int) else val (200 + j)) < F
        by_cases hjm : j = m
        · rw [if_pos hjm]; omega
        · rw [if_neg hjm]; exact hI.keys j (by omega)) (fun j k hj hk he => by
        have he : (if j = m then (c : Int) else val (200 + j)) = (if k = m then (c : Int) else val (200 + k)) := he
        by_cases hjm : j = m
        · by_cases hkm : k = m
          · omega
          · rw [if_pos hjm, if_neg hkm] at he; exact absurd he.symm (h k (by omega))
        · by_cases hkm : k = m
          · rw [if_neg hjm, if_pos hkm] at he; exact absurd he (h j (by omega))
          · rw [if_neg hjm, if_neg hkm] at he; exact hI.inj j k (by omega) (by omega) he)
      omega
    · rw [if_pos rfl]; exact hI.held c hc h

theorem kapB_ok {m c j : Nat} {val : Nat → Int} (hj : j ≤ m) (h1 : j < m → val (200 + j) = (c : Int)) (h2 : val (100 + c) = (if j = m then 1 else 0)) : ∀ q z, kapB m c j q = some z → val q = z := by
  intro q z hz
  unfold kapB at hz
  by_cases hq : q = 100 + c
  · subst hq
    rw [nbt rfl] at hz
    simp only [cond_true, Option.some.injEq] at hz
    rw [h2]
    by_cases hjm : j = m
    · rw [nbt hjm] at hz; rw [if_pos hjm]; exact hz
    · rw [nbf hjm] at hz; rw [if_neg hjm]; exact hz
  · rw [nbf hq] at hz
    simp only [cond_false] at hz
    cases hb : (Nat.blt j m && Nat.beq q (200 + j)) with
    | false => rw [hb] at hz; cases hz
    | true =>
      rw [hb] at hz
      cases hz
      rw [Bool.and_eq_true] at hb
      rw [nbeq hb.2]
      exact h1 (nblt' hb.1)
theorem kapC_ok {m c j : Nat} {val : Nat → Int} (hj : j ≤ m) (h0 : val 61 = (c : Int)) (h1 : j < m → val (200 + j) = (c : Int)) (h2 : val (100 + c) = (if j = m then 1 else 0)) : ∀ q z, kapC m c j q = some z → val q = z := by
  intro q z hz
  unfold kapC at hz
  by_cases hq : q = 61
  · subst hq
    rw [nbt rfl] at hz
    cases hz
    exact h0
  · rw [nbf hq] at hz
    exact kapB_ok hj h1 h2 q z hz
theorem sgB_ok {m c j : Nat} {val : Nat → Int} (h1 : j < m → val (200 + j) = (c : Int)) (q : Nat) : val q = V.num val (sgB c m j q) := by
  unfold sgB
  cases hb : (Nat.blt j m && Nat.beq q (200 + j)) with
  | false => rfl
  | true =>
    rw [Bool.and_eq_true] at hb
    rw [nbeq hb.2]
    exact h1 (nblt' hb.1)

/-- A frame is let go. -/
theorem inv_C {m i : Nat} {val : Nat → Int} (hI : Inv L X F Z m i val) {c j : Nat} (hF : F ≤ 16) (hc : c < F) (hj : j ≤ m) (h1 : j < m → val (200 + j) = (c : Int)) (h2 : j = m → ∀ k, k < m → val (200 + k) ≠ (c : Int)) (hm : m ≤ F) :
    Inv L X F Z (upM m j) i (fun q => V.num val (sgC c j q)) := by
  have eC : V.num val (sgC c j (100 + c)) = 0 := by unfold sgC; rw [nbt rfl]; rfl
  have eJ : V.num val (sgC c j (200 + j)) = (c : Int) := by unfold sgC; rw [nbf (by omega), nbt rfl]; rfl
  have ne : ∀ q, q ≠ 100 + c → q ≠ 200 + j → V.num val (sgC c j q) = val q := by
    intro q g1 g2
    unfold sgC
    rw [nbf g1, nbf g2]; rfl
  have key : ∀ k, k < m → V.num val (sgC c j (200 + k)) = val (200 + k) := by
    intro k hk
    by_cases hkj : k = j
    · subst hkj; rw [eJ, h1 hk]
    · exact ne _ (by omega) (by omega)
  have hup : upM m j = if j = m then m + 1 else m := by
    unfold upM
    by_cases hjm : j = m
    · rw [nbt hjm, if_pos hjm]; rfl
    · rw [nbf hjm, if_neg hjm]; rfl
  rw [hup]
  refine ⟨fun q hq => ?_, ?_, fun k => ?_, fun k hk => ?_, fun k k' hk hk' h => ?_, fun d hd h => ?_, fun d k hd hk h => ?_⟩
  · exact (ne q (by omega) (by omega)).trans (hI.fixed q hq)
  · exact (ne 5000 (by omega) (by omega)).trans hI.now
  · show V.num val (sgC c j (5000 + k + 1)) = wr .i64 (V.num val (sgC c j (5000 + k)) + 1)
    rw [ne _ (by omega) (by omega), ne _ (by omega) (by omega)]; exact hI.chain k
  · show 0 ≤ V.num val (sgC c j (200 + k)) ∧ V.num val (sgC c j (200 + k)) < F
    by_cases hkm : k < m
    · rw [key k hkm]; exact hI.keys k hkm
    · have : k = j := by split at hk <;> omega
      rw [this, eJ]; omega
  · have h : V.num val (sgC c j (200 + k)) = V.num val (sgC c j (200 + k')) := h
    by_cases hkm : k < m
    · by_cases hkm' : k' < m
      · rw [key k hkm, key k' hkm'] at h; exact hI.inj k k' hkm hkm' h
      · have hk2 : k' = j ∧ j = m := by split at hk' <;> omega
        rw [key k hkm, hk2.1, eJ] at h
        exact absurd h (h2 hk2.2 k hkm)
    · have hk1 : k = j ∧ j = m := by split at hk <;> omega
      by_cases hkm' : k' < m
      · rw [key k' hkm', hk1.1, eJ] at h
        exact absurd h.symm (h2 hk1.2 k' hkm')
      · have hk2 : k' = j ∧ j = m := by split at hk' <;> omega
        omega
  · show V.num val (sgC c j (100 + d)) = 1
    have hdc : d ≠ c := fun he => by
      subst he
      by_cases hjm : j = m
      · exact h j (by rw [if_pos hjm]; omega) eJ
      · exact h j (by rw [if_neg hjm]; omega) eJ
    rw [ne _ (by omega) (by omega)]
    refine hI.held d hd fun k hk => ?_
    have := h k (by split <;> omega)
    rwa [show V.num val (sgC c j (200 + k)) = _ from key k hk] at this
  · show V.num val (sgC c j (100 + d)) = 0
    have h : V.num val (sgC c j (200 + k)) = (d : Int) := h
    by_cases hdc : d = c
    · subst hdc; exact eC
    · rw [ne _ (by omega) (by omega)]
      by_cases hkm : k < m
      · rw [key k hkm] at h; exact hI.gone d k hd hkm h
      · have : k = j := by split at hk <;> omega
        rw [this, eJ] at h
        omega

/-- The next round. -/
theorem inv_N {m i : Nat} {val : Nat → Int} (hI : Inv L X F Z m i val) (hi : i < 20) (hF : F ≤ 16) (hm : m ≤ F) : Inv L X F Z m (i + 1) (fun q => V.num val (sgN q)) := by
  have lo : ∀ q, q < 5000 → V.num val (sgN q) = val q := by
    intro q h
    unfold sgN
    rw [bigs (by omega)]; rfl
  have hi' : ∀ q, 5000 ≤ q → V.num val (sgN q) = val (q + 1) := by
    intro q h
    unfold sgN
    rw [show Nat.ble 5000 q = true from Nat.ble_eq_true_of_le h]; rfl
  refine ⟨fun q hq => ?_, ?_, fun k => ?_, fun j hj => ?_, fun j k hj hk h => ?_, fun c hc h => ?_, fun c j hc hj h => ?_⟩
  · exact (lo q (by omega)).trans (hI.fixed q hq)
  · show V.num val (sgN 5000) = _
    rw [hi' _ (by omega), show val (5000 + 1) = _ from hI.chain 0, show val (5000 + 0) = _ from hI.now]
    rw [wr_in _ _ (by simp only [IntKind.signed, IntKind.bits, if_true]; omega)]
    omega
  · show V.num val (sgN (5000 + k + 1)) = wr .i64 (V.num val (sgN (5000 + k)) + 1)
    rw [hi' _ (by omega), hi' _ (by omega)]; exact hI.chain (k + 1)
  · show 0 ≤ V.num val (sgN (200 + j)) ∧ V.num val (sgN (200 + j)) < F
    rw [lo _ (by omega)]; exact hI.keys j hj
  · have h : V.num val (sgN (200 + j)) = V.num val (sgN (200 + k)) := h
    rw [lo _ (by omega), lo _ (by omega)] at h; exact hI.inj j k hj hk h
  · show V.num val (sgN (100 + c)) = 1
    rw [lo _ (by omega)]
    exact hI.held c hc fun j hj => by have := h j hj; rwa [show V.num val (sgN (200 + j)) = _ from lo _ (by omega)] at this
  · show V.num val (sgN (100 + c)) = 0
    have h : V.num val (sgN (200 + j)) = (c : Int) := h
    rw [lo _ (by omega)] at h
    rw [lo _ (by omega)]; exact hI.gone c j hc hj h

/-! Answers. -/
theorem ansF_ok (hF : (F : Int) = 1 + X % 16) : ∀ x ∈ ansF F, AnsOk (val0 L X F Z) x := by
  have v6 : val0 L X F Z 6 = X := rfl
  have v30 : val0 L X F Z 30 = X.tmod 16 := rfl
  have v31 : val0 L X F Z 31 = wr .i64 (X.tmod 16 + 16) := rfl
  refine ok_cons ?_ (ok_cons ?_ (ok_cons ?_ ok_nil))
  · simp [AnsOk, evBin0, V.conc, y, I, v6, v30]
  · simp [AnsOk, evBin0, V.conc, y, I, v30, v31]
  · have := norm_mod X 16 (by omega) (by omega)
    simp [AnsOk, evBin0, V.conc, y, I, v31, this]
    omega
theorem ansI_ok {m i : Nat} {val : Nat → Int} (hI : Inv L X F Z m i val) (hi : i < 20) (hF : F ≤ 16) (hF1 : 1 ≤ F) : ∀ x ∈ ansI F i, AnsOk val x := by
  have e : ∀ q, 1000 ≤ q → q < 5000 → val q = val0 L X F Z q := fun q h1 h2 => hI.fixed q (by omega)
  have v1 : val (1000 + i) = Z i := by
    rw [e _ (by omega) (by omega)]; unfold val0
    rw [if_neg (by omega), if_neg (by omega), if_pos (by omega), show 1000 + i - 1000 = i by omega]
  have v2 : val (2000 + i) = (Z i).tmod F := by
    rw [e _ (by omega) (by omega)]; unfold val0
    rw [if_neg (by omega), if_neg (by omega), if_neg (by omega), if_pos (by omega), show 2000 + i - 2000 = i by omega]
  have v3 : val (3000 + i) = wr .i64 ((Z i).tmod F + F) := by
    rw [e _ (by omega) (by omega)]; unfold val0
    rw [if_neg (by omega), if_neg (by omega), if_neg (by omega), if_neg (by omega), if_pos (by omega), show 3000 + i - 3000 = i by omega]
  have v4 : val (4000 + i) = Z i % F := by
    rw [e _ (by omega) (by omega)]; unfold val0
    rw [if_neg (by omega), if_neg (by omega), if_neg (by omega), if_neg (by omega), if_neg (by omega), if_pos (by omega), show 4000 + i - 4000 = i by omega]
  have hF0 : F ≠ 0 := by omega
  refine ok_cons ?_ (ok_cons ?_ (ok_cons ?_ ok_nil))
  · simp [AnsOk, evBin0, V.conc, y, I, v1, v2, hF0]
  · simp [AnsOk, evBin0, V.conc, y, I, v2, v3]
  · have := norm_mod (Z i) F (by omega) (by omega)
    simp [AnsOk, evBin0, V.conc, y, I, v3, v4, this, hF0]
theorem val4 {m i : Nat} {val : Nat → Int} (hI : Inv L X F Z m i val) (hi : i < 20) : val (4000 + i) = Z i % F := by
  rw [hI.fixed _ (by omega)]; unfold val0
  rw [if_neg (by omega), if_neg (by omega), if_neg (by omega), if_neg (by omega), if_neg (by omega), if_pos (by omega), show 4000 + i - 4000 = i by omega]
theorem val1 {m i : Nat} {val : Nat → Int} (hI : Inv L X F Z m i val) (hi : i < 20) : val (1000 + i) = Z i := by
  rw [hI.fixed _ (by omega)]; unfold val0
  rw [if_neg (by omega), if_neg (by omega), if_pos (by omega), show 1000 + i - 1000 = i by omega]
theorem ansL_ok {m i : Nat} {val : Nat → Int} (hI : Inv L X F Z m i val) (hi : i ≤ 20) : ∀ k, (k = 0 → (i : Int) < L ∧ i < 20) → (k = 1 → ¬ (i : Int) < L) → (2 ≤ k → (i : Int) < L ∧ i = 20) → ∀ x ∈ ansL k, AnsOk val x := by
  have v0 : val 0 = L := hI.fixed 0 (by omega)
  have v5 := hI.now
  intro k h0 h1 h2
  match k with
  | 0 =>
    obtain ⟨g1, g2⟩ := h0 rfl
    refine ok_cons ?_ (ok_cons ?_ ok_nil)
    · simp [AnsOk, PL.a, y, I, V.conc, evBin0, v0, v5]; omega
    · simp [AnsOk, PL.a, y, I, V.conc, evBin0, v0, v5]; omega
  | 1 =>
    have g1 := h1 rfl
    refine ok_cons ?_ ok_nil
    simp [AnsOk, PL.a, y, I, V.conc, evBin0, v0, v5]; omega
  | k + 2 =>
    obtain ⟨g1, g2⟩ := h2 (by omega)
    refine ok_cons ?_ (ok_cons ?_ ok_nil)
    · simp [AnsOk, PL.a, y, I, V.conc, evBin0, v0, v5]; omega
    · simp [AnsOk, PL.a, y, I, V.conc, evBin0, v0, v5]; omega
theorem ansN_ok {m i : Nat} {val : Nat → Int} (hI : Inv L X F Z m i val) : ∀ x ∈ ansN, AnsOk val x := by
  refine ok_cons ?_ ok_nil
  show some (V.int .i64 (wr .i64 (val 5000 + Int.ofNat 1))) = some (V.int .i64 (val 5001))
  rw [show val 5001 = _ from hI.chain 0]
  rfl
theorem kapI_ok {m i : Nat} {val : Nat → Int} (hI : Inv L X F Z m i val) : ∀ q z, kapI i q = some z → val q = z := by
  intro q z hz
  unfold kapI at hz
  by_cases hq : q = 5000
  · subst hq
    rw [nbt rfl] at hz
    cases hz
    exact hI.now
  · rw [nbf hq] at hz; cases hz
end
end Go.Proofs.YtolngjaihlggnaaGreatDoor.PL
