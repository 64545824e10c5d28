import Derived.Test.YtinopjbpjopdcaaGreatDoorUserWalkBase
/-! UserWalk: the law of the numbers: what is known of them, and what a round makes of it. -/
namespace Go.Proofs.YtinopjbpjopdcaaGreatDoor.UW
open Go.Ev Go.Ev.Pg Go.Ev.UW
set_option linter.unusedVariables false
set_option linter.unusedSimpArgs false
theorem lss_t {val : Nat → Int} {i k : Nat} (h : (val i < (k : Int))) : AnsOk val (a .lss (y i) (I k) true) := by
  have h : (val i < Int.ofNat k) := h
  simp [AnsOk, a, y, I, V.conc, evBin0] at h ⊢
  omega
theorem lssy_t {val : Nat → Int} {i k : Nat} (h : (val i < val k)) : AnsOk val (a .lss (y i) (y k) true) := by
  simp [AnsOk, a, y, I, V.conc, evBin0] at h ⊢
  omega
theorem lss_f {val : Nat → Int} {i k : Nat} (h : ¬ (val i < (k : Int))) : AnsOk val (a .lss (y i) (I k) false) := by
  have h : ¬ (val i < Int.ofNat k) := h
  simp [AnsOk, a, y, I, V.conc, evBin0] at h ⊢
  omega
theorem lssy_f {val : Nat → Int} {i k : Nat} (h : ¬ (val i < val k)) : AnsOk val (a .lss (y i) (y k) false) := by
  simp [AnsOk, a, y, I, V.conc, evBin0] at h ⊢
  omega
theorem geq_t {val : Nat → Int} {i k : Nat} (h : (val i ≥ (k : Int))) : AnsOk val (a .geq (y i) (I k) true) := by
  have h : (val i ≥ Int.ofNat k) := h
  simp [AnsOk, a, y, I, V.conc, evBin0] at h ⊢
  omega
theorem geqy_t {val : Nat → Int} {i k : Nat} (h : (val i ≥ val k)) : AnsOk val (a .geq (y i) (y k) true) := by
  simp [AnsOk, a, y, I, V.conc, evBin0] at h ⊢
  omega
theorem geq_f {val : Nat → Int} {i k : Nat} (h : ¬ (val i ≥ (k : Int))) : AnsOk val (a .geq (y i) (I k) false) := by
  have h : ¬ (val i ≥ Int.ofNat k) := h
  simp [AnsOk, a, y, I, V.conc, evBin0] at h ⊢
  omega
theorem geqy_f {val : Nat → Int} {i k : Nat} (h : ¬ (val i ≥ val k)) : AnsOk val (a .geq (y i) (y k) false) := by
  simp [AnsOk, a, y, I, V.conc, evBin0] at h ⊢
  omega
theorem leq_t {val : Nat → Int} {i k : Nat} (h : (val i ≤ (k : Int))) : AnsOk val (a .leq (y i) (I k) true) := by
  have h : (val i ≤ Int.ofNat k) := h
  simp [AnsOk, a, y, I, V.conc, evBin0] at h ⊢
  omega
theorem leqy_t {val : Nat → Int} {i k : Nat} (h : (val i ≤ val k)) : AnsOk val (a .leq (y i) (y k) true) := by
  simp [AnsOk, a, y, I, V.conc, evBin0] at h ⊢
  omega
theorem leq_f {val : Nat → Int} {i k : Nat} (h : ¬ (val i ≤ (k : Int))) : AnsOk val (a .leq (y i) (I k) false) := by
  have h : ¬ (val i ≤ Int.ofNat k) := h
  simp [AnsOk, a, y, I, V.conc, evBin0] at h ⊢
  omega
theorem leqy_f {val : Nat → Int} {i k : Nat} (h : ¬ (val i ≤ val k)) : AnsOk val (a .leq (y i) (y k) false) := by
  simp [AnsOk, a, y, I, V.conc, evBin0] at h ⊢
  omega
theorem eql_t {val : Nat → Int} {i k : Nat} (h : (val i = (k : Int))) : AnsOk val (a .eql (y i) (I k) true) := by
  have h : (val i = Int.ofNat k) := h
  simp [AnsOk, a, y, I, V.conc, evBin0] at h ⊢
  omega
theorem eqly_t {val : Nat → Int} {i k : Nat} (h : (val i = val k)) : AnsOk val (a .eql (y i) (y k) true) := by
  simp [AnsOk, a, y, I, V.conc, evBin0] at h ⊢
  omega
theorem eql_f {val : Nat → Int} {i k : Nat} (h : ¬ (val i = (k : Int))) : AnsOk val (a .eql (y i) (I k) false) := by
  have h : ¬ (val i = Int.ofNat k) := h
  simp [AnsOk, a, y, I, V.conc, evBin0] at h ⊢
  omega
theorem eqly_f {val : Nat → Int} {i k : Nat} (h : ¬ (val i = val k)) : AnsOk val (a .eql (y i) (y k) false) := by
  simp [AnsOk, a, y, I, V.conc, evBin0] at h ⊢
  omega
theorem neq_t {val : Nat → Int} {i k : Nat} (h : (val i ≠ (k : Int))) : AnsOk val (a .neq (y i) (I k) true) := by
  have h : (val i ≠ Int.ofNat k) := h
  simp [AnsOk, a, y, I, V.conc, evBin0] at h ⊢
  omega
theorem neqy_t {val : Nat → Int} {i k : Nat} (h : (val i ≠ val k)) : AnsOk val (a .neq (y i) (y k) true) := by
  simp [AnsOk, a, y, I, V.conc, evBin0] at h ⊢
  omega
theorem neq_f {val : Nat → Int} {i k : Nat} (h : ¬ (val i ≠ (k : Int))) : AnsOk val (a .neq (y i) (I k) false) := by
  have h : ¬ (val i ≠ Int.ofNat k) := h
  simp [AnsOk, a, y, I, V.conc, evBin0] at h ⊢
  omega
theorem neqy_f {val : Nat → Int} {i k : Nat} (h : ¬ (val i ≠ val k)) : AnsOk val (a .neq (y i) (y k) false) := by
  simp [AnsOk, a, y, I, V.conc, evBin0] at h ⊢
  omega
theorem ok_nil {val : Nat → Int} : ∀ x ∈ ([] : List Ans), AnsOk val x := fun x hx => by cases hx
theorem ok_cons {val : Nat → Int} {z : Ans} {l : List Ans} (h : AnsOk val z) (hl : ∀ x ∈ l, AnsOk val x) : ∀ x ∈ z :: l, AnsOk val x := fun x hx => by
  rcases List.mem_cons.1 hx with rfl | hx
  · exact h
  · exact hl x hx
theorem ok_app {val : Nat → Int} {l m : List Ans} (h : ∀ x ∈ l, AnsOk val x) (hl : ∀ x ∈ m, AnsOk val x) : ∀ x ∈ l ++ m, AnsOk val x := fun x hx => by
  rcases List.mem_append.1 hx with hx | hx
  · exact h x hx
  · exact hl x hx

/-! The numbers. -/
section
variable (L0 L1 : Nat) (X2 X3 X4 : Int) (Z0 Z1 : Nat → Int)
def w0 (i : Nat) : Int := wr .i64 (256 * Z1 (3 * i))
def w1 (i : Nat) : Int := wr .i64 (32768 + w0 Z1 i)
def w2 (i : Nat) : Int := wr .i64 (16 * Z1 (3 * i + 1))
def w3 (i : Nat) : Int := wr .i64 (w1 Z1 i + w2 Z1 i)
def w4 (i : Nat) : Int := wr .i64 (w3 Z1 i + Z1 (3 * i + 2))
def wdv (i j : Nat) : Int := if j = 0 then w0 Z1 i else if j = 1 then w1 Z1 i else if j = 2 then w2 Z1 i else if j = 3 then w3 Z1 i else if j = 4 then w4 Z1 i else wr .u64 (w4 Z1 i)
def small (q : Nat) : Int := if q = 0 then L0 else if q = 5 then L1 else if q = 6 then X2 else if q = 7 then X3 else if q = 8 then X4
  else if q = 30 then X2.tmod 4 else if q = 31 then wr .i64 (X2.tmod 4 + 4) else if q = 32 then X2 % 4 else if q = 33 then X3.tmod 8 else if q = 34 then wr .i64 (X3.tmod 8 + 8) else 0
def chn : Nat → Int
  | 0 => 0
  | k + 1 => wr .i64 (chn k + 1)
def val0 (q : Nat) : Int := if q < 100 then small L0 L1 X2 X3 X4 q else if q < 1000 then (if q < 140 ∧ (q - 100) % 5 = 0 then -1 else 0)
  else if q < 2000 then Z0 (q - 1000) else if q < 3000 then Z1 (q - 2000) else if q < 5000 then wdv Z1 ((q - 3000) / 8) ((q - 3000) % 8) else chn (q - 5000)

/-- What holds at the loops' heads. -/
structure Inv (val : Nat → Int) : Prop where
  fixed : ∀ q, (q < 100 ∨ (1000 ≤ q ∧ q < 5000)) → val q = val0 L0 L1 X2 X3 X4 Z0 Z1 q
  chain : ∀ k, val (5000 + k + 1) = wr .i64 (val (5000 + k) + 1)
  rights : ∀ s w, s < 4 → w < 2 → 0 ≤ val (100 + at' s w 0) → 1 ≤ val (100 + at' s w 3) ∧ val (100 + at' s w 3) ≤ 3
  diff : ∀ s, s < 4 → 0 ≤ val (100 + at' s 0 0) → val (100 + at' s 0 0) = val (100 + at' s 1 0) → val (100 + at' s 0 1) = val (100 + at' s 1 1) → False
  tabl : ∀ j, j < 8 → val (200 + (3 * j + 2)) = 0 ∨ (1 ≤ val (200 + (3 * j + 2)) ∧ val (200 + (3 * j + 2)) ≤ 3 ∧ 0 ≤ val (200 + 3 * j) ∧ val (200 + 3 * j) < 16)
end
section
variable {L0 L1 : Nat} {X2 X3 X4 : Int} {Z0 Z1 : Nat → Int}

theorem start_ok (q : Nat) : val0 L0 L1 X2 X3 X4 Z0 Z1 q = V.num (val0 L0 L1 X2 X3 X4 Z0 Z1) (sg0 q) := by
  unfold sg0
  by_cases h1 : q < 100
  · rw [show Nat.blt q 100 = true from Nat.ble_eq_true_of_le h1]
    rfl
  · rw [show Nat.blt q 100 = false from by cases hb : Nat.blt q 100 with | false => rfl | true => exact absurd (nblt' hb) h1]
    simp only [cond_false]
    by_cases h2 : q < 1000
    · rw [show Nat.blt q 1000 = true from Nat.ble_eq_true_of_le h2]
      simp only [cond_true]
      unfold val0
      rw [if_neg h1, if_pos h2]
      by_cases h3 : q < 140 ∧ (q - 100) % 5 = 0
      · rw [if_pos h3, show (Nat.blt q 140 && Nat.beq ((q - 100) % 5) 0) = true from by rw [Bool.and_eq_true]; exact ⟨Nat.ble_eq_true_of_le h3.1, nbt h3.2⟩]
        rfl
      · rw [if_neg h3, show (Nat.blt q 140 && Nat.beq ((q - 100) % 5) 0) = false from by
          cases hb : (Nat.blt q 140 && Nat.beq ((q - 100) % 5) 0) with
          | false => rfl
          | true => rw [Bool.and_eq_true] at hb; exact absurd ⟨nblt' hb.1, nbeq hb.2⟩ h3]
        rfl
    · rw [show Nat.blt q 1000 = false from by cases hb : Nat.blt q 1000 with | false => rfl | true => exact absurd (nblt' hb) h2]
      simp only [cond_false]
      by_cases h3 : q = 5000
      · subst h3
        rw [nbt rfl]
        rfl
      · rw [nbf h3]
        rfl

theorem val0_at {s w k : Nat} (hs : s < 4) (hw : w < 2) (hk : k < 5) : val0 L0 L1 X2 X3 X4 Z0 Z1 (100 + at' s w k) = if k = 0 then -1 else 0 := by
  unfold val0 at'
  rw [if_neg (by omega), if_pos (by omega)]
  by_cases h : k = 0
  · rw [if_pos (by omega), if_pos h]
  · rw [if_neg (by omega), if_neg h]

theorem inv0 : Inv L0 L1 X2 X3 X4 Z0 Z1 (val0 L0 L1 X2 X3 X4 Z0 Z1) := by
  refine ⟨fun q _ => rfl, fun k => ?_, fun s w hs hw h => ?_, fun s hs h _ _ => ?_, fun j hj => .inl ?_⟩
  · unfold val0
    simp only [if_neg (show ¬ 5000 + k + 1 < 100 by omega), if_neg (show ¬ 5000 + k + 1 < 1000 by omega), if_neg (show ¬ 5000 + k + 1 < 2000 by omega), if_neg (show ¬ 5000 + k + 1 < 3000 by omega), if_neg (show ¬ 5000 + k + 1 < 5000 by omega),
      if_neg (show ¬ 5000 + k < 100 by omega), if_neg (show ¬ 5000 + k < 1000 by omega), if_neg (show ¬ 5000 + k < 2000 by omega), if_neg (show ¬ 5000 + k < 3000 by omega), if_neg (show ¬ 5000 + k < 5000 by omega)]
    rw [show 5000 + k + 1 - 5000 = k + 1 by omega, show 5000 + k - 5000 = k by omega]
    rfl
  · rw [val0_at hs hw (by omega)] at h; simp at h
  · rw [val0_at hs (by omega) (by omega)] at h; simp at h
  · unfold val0
    rw [if_neg (by omega), if_pos (by omega), if_neg (by omega)]

/-! A place, filled. -/
theorem sgF_lo {e pv f r : V} {s w q : Nat} (hs : s < 4) (hw : w < 2) (h : q < 100 ∨ 140 ≤ q) (h5 : q < 5000) : sgF e pv f r s w q = y q := by
  unfold sgF at'
  rw [nbf (by omega), nbf (by omega), nbf (by omega), nbf (by omega), nbf (by omega)]
  rw [show Nat.ble 5000 q = false from by cases hb : Nat.ble 5000 q with | false => rfl | true => exact absurd (nble hb) (by omega)]
  rfl
theorem sgF_hi {e pv f r : V} {s w q : Nat} (hs : s < 4) (hw : w < 2) (h5 : 5000 ≤ q) : sgF e pv f r s w q = y (q + 1) := by
  unfold sgF at'
  rw [nbf (by omega), nbf (by omega), nbf (by omega), nbf (by omega), nbf (by omega)]
  rw [show Nat.ble 5000 q = true from Nat.ble_eq_true_of_le h5]
  rfl
theorem sgF_ne {e pv f r : V} {s w s' w' k : Nat} (hs : s < 4) (hw : w < 2) (hs' : s' < 4) (hw' : w' < 2) (hk : k < 5) (h : ¬ (s' = s ∧ w' = w)) : sgF e pv f r s w (100 + at' s' w' k) = y (100 + at' s' w' k) := by
  have h' : ∀ j, j < 5 → ¬ (100 + at' s' w' k = 100 + at' s w j) := by
    intro j hj hh
    unfold at' at hh
    exact h (by omega)
  unfold sgF
  rw [nbf (h' 0 (by omega)), nbf (h' 1 (by omega)), nbf (h' 2 (by omega)), nbf (h' 3 (by omega)), nbf (h' 4 (by omega))]
  rw [show Nat.ble 5000 (100 + at' s' w' k) = false from by cases hb : Nat.ble 5000 (100 + at' s' w' k) with | false => rfl | true => (have := nble hb; unfold at' at this; omega)]
  rfl
theorem sgF_0 {e pv f r : V} {s w : Nat} : sgF e pv f r s w (100 + at' s w 0) = e := by
  unfold sgF
  rw [nbt rfl]
  rfl
theorem sgF_1 {e pv f r : V} {s w : Nat} : sgF e pv f r s w (100 + at' s w 1) = pv := by
  unfold sgF at'
  rw [nbf (by omega), nbt rfl]
  rfl
theorem sgF_3 {e pv f r : V} {s w : Nat} : sgF e pv f r s w (100 + at' s w 3) = r := by
  unfold sgF at'
  rw [nbf (by omega), nbf (by omega), nbf (by omega), nbt rfl]
  rfl

/-- A place against an environment and a page. -/
theorem way_ok (val : Nat → Int) (j p s w : Nat) : ∃ c, c < 3 ∧ (∀ x ∈ way (y j) p s w c, AnsOk val x) ∧ (c = 2 ↔ val (100 + at' s w 0) = val j ∧ val (100 + at' s w 1) = (p : Int)) := by
  by_cases h0 : val (100 + at' s w 0) = val j
  · by_cases h1 : val (100 + at' s w 1) = (p : Int)
    · exact ⟨2, by omega, ok_cons (eqly_t h0) (ok_cons (eql_t h1) ok_nil), ⟨fun _ => ⟨h0, h1⟩, fun _ => rfl⟩⟩
    · exact ⟨1, by omega, ok_cons (eqly_t h0) (ok_cons (eql_f h1) ok_nil), ⟨fun h => (by omega), fun h => absurd h.2 h1⟩⟩
  · exact ⟨0, by omega, ok_cons (eqly_f h0) ok_nil, ⟨fun h => (by omega), fun h => absurd h.1 h0⟩⟩
theorem room_ok (val : Nat → Int) (s : Nat) : ∃ c, c < 4 ∧ ∀ x ∈ room s c, AnsOk val x := by
  by_cases h0 : val (100 + at' s 0 0) < ((0 : Nat) : Int)
  · exact ⟨0, by omega, ok_cons (lss_t h0) ok_nil⟩
  · by_cases h1 : val (100 + at' s 1 0) < ((0 : Nat) : Int)
    · exact ⟨1, by omega, ok_cons (lss_f h0) (ok_cons (lss_t h1) ok_nil)⟩
    · by_cases h2 : val (100 + at' s 1 4) < val (100 + at' s 0 4)
      · exact ⟨2, by omega, ok_cons (lss_f h0) (ok_cons (lss_f h1) (ok_cons (lssy_t h2) ok_nil))⟩
      · exact ⟨3, by omega, ok_cons (lss_f h0) (ok_cons (lss_f h1) (ok_cons (lssy_f h2) ok_nil))⟩

/-- The ways of a set. -/
theorem ways_ok (val : Nat → Int) (j p s : Nat) : ∃ m, m < 19 ∧ (∀ x ∈ Go.Ev.UW.ways (y j) p s m, AnsOk val x) ∧ which m < 2 ∧
    ((val (100 + at' s (which m) 0) = val j ∧ val (100 + at' s (which m) 1) = (p : Int)) ∨ ¬ (val (100 + at' s (1 - which m) 0) = val j ∧ val (100 + at' s (1 - which m) 1) = (p : Int))) := by
  obtain ⟨c0, h0, k0, e0⟩ := way_ok val j p s 0
  obtain ⟨c1, h1, k1, e1⟩ := way_ok val j p s 1
  obtain ⟨c, h2, k2⟩ := room_ok val s
  by_cases g0 : c0 = 2
  · subst g0
    exact ⟨0, by omega, k0, by decide, .inl (e0.1 rfl)⟩
  · by_cases g1 : c1 = 2
    · subst g1
      refine ⟨1 + c0, by omega, ?_, ?_, .inl ?_⟩
      · have : c0 = 0 ∨ c0 = 1 := by omega
        rcases this with rfl | rfl <;> exact ok_app k0 k1
      · have : c0 = 0 ∨ c0 = 1 := by omega
        rcases this with rfl | rfl <;> decide
      · have : c0 = 0 ∨ c0 = 1 := by omega
        rcases this with rfl | rfl <;> exact e1.1 rfl
    · have n0 : ¬ (val (100 + at' s 0 0) = val j ∧ val (100 + at' s 0 1) = (p : Int)) := fun h => g0 (e0.2 h)
      have n1 : ¬ (val (100 + at' s 1 0) = val j ∧ val (100 + at' s 1 1) = (p : Int)) := fun h => g1 (e1.2 h)
      have c0' : c0 = 0 ∨ c0 = 1 := by omega
      have c1' : c1 = 0 ∨ c1 = 1 := by omega
      have c' : c = 0 ∨ c = 1 ∨ c = 2 ∨ c = 3 := by omega
      refine ⟨3 + 8 * c0 + 4 * c1 + c, by omega, ?_, ?_, .inr ?_⟩
      · rcases c0' with rfl | rfl <;> rcases c1' with rfl | rfl <;> rcases c' with rfl | rfl | rfl | rfl <;> exact ok_app (ok_app k0 k1) k2
      · rcases c0' with rfl | rfl <;> rcases c1' with rfl | rfl <;> rcases c' with rfl | rfl | rfl | rfl <;> decide
      · rcases c0' with rfl | rfl <;> rcases c1' with rfl | rfl <;> rcases c' with rfl | rfl | rfl | rfl <;> first | exact n1 | exact n0

/-- A line, by what it fails. -/
theorem line_ok (val : Nat → Int) (i : Nat) : (∃ c, c < 8 ∧ ∀ x ∈ bads i c, AnsOk val x) ∨
    ((∀ x ∈ goods i, AnsOk val x) ∧ 0 ≤ val (1000 + 4 * i + 0) ∧ 0 ≤ val (1000 + 4 * i + 1) ∧ val (1000 + 4 * i + 1) < 8 ∧ 1 ≤ val (1000 + 4 * i + 3) ∧ val (1000 + 4 * i + 3) ≤ 3) := by
  by_cases h0 : val (1000 + 4 * i + 0) < ((0 : Nat) : Int)
  · exact .inl ⟨0, by omega, ok_cons (lss_t h0) ok_nil⟩
  by_cases h1 : val (1000 + 4 * i + 0) ≥ ((4 : Nat) : Int)
  · exact .inl ⟨1, by omega, ok_cons (lss_f h0) (ok_cons (geq_t h1) ok_nil)⟩
  by_cases h2 : val (1000 + 4 * i + 1) < ((0 : Nat) : Int)
  · exact .inl ⟨2, by omega, ok_cons (lss_f h0) (ok_cons (geq_f h1) (ok_cons (lss_t h2) ok_nil))⟩
  by_cases h3 : val (1000 + 4 * i + 1) ≥ ((8 : Nat) : Int)
  · exact .inl ⟨3, by omega, ok_cons (lss_f h0) (ok_cons (geq_f h1) (ok_cons (lss_f h2) (ok_cons (geq_t h3) ok_nil)))⟩
  by_cases h4 : val (1000 + 4 * i + 2) < ((0 : Nat) : Int)
  · exact .inl ⟨4, by omega, ok_cons (lss_f h0) (ok_cons (geq_f h1) (ok_cons (lss_f h2) (ok_cons (geq_f h3) (ok_cons (lss_t h4) ok_nil))))⟩
  by_cases h5 : val (1000 + 4 * i + 2) ≥ ((16 : Nat) : Int)
  · exact .inl ⟨5, by omega, ok_cons (lss_f h0) (ok_cons (geq_f h1) (ok_cons (lss_f h2) (ok_cons (geq_f h3) (ok_cons (lss_f h4) (ok_cons (geq_t h5) ok_nil)))))⟩
  by_cases h6 : val (1000 + 4 * i + 3) ≥ ((1 : Nat) : Int)
  · by_cases h7 : val (1000 + 4 * i + 3) ≤ ((3 : Nat) : Int)
    · exact .inr ⟨ok_cons (lss_f h0) (ok_cons (geq_f h1) (ok_cons (lss_f h4) (ok_cons (geq_f h5) (ok_cons (geq_t h6) (ok_cons (leq_t h7) ok_nil))))), by omega, by omega, by omega, by omega, by omega⟩
    · exact .inl ⟨7, by omega, ok_cons (lss_f h0) (ok_cons (geq_f h1) (ok_cons (lss_f h2) (ok_cons (geq_f h3) (ok_cons (lss_f h4) (ok_cons (geq_f h5) (ok_cons (geq_t h6) (ok_cons (leq_f h7) ok_nil)))))))⟩
  · exact .inl ⟨6, by omega, ok_cons (lss_f h0) (ok_cons (geq_f h1) (ok_cons (lss_f h2) (ok_cons (geq_f h3) (ok_cons (lss_f h4) (ok_cons (geq_f h5) (ok_cons (geq_f h6) ok_nil))))))⟩

/-- .. what a fill makes of what holds. -/
theorem inv_fill {val : Nat → Int} (hI : Inv L0 L1 X2 X3 X4 Z0 Z1 val) {i p m : Nat} (hp : p < 8) (hw : which m < 2) (h0 : 0 ≤ val (1000 + 4 * i + 0)) (h3 : 1 ≤ val (1000 + 4 * i + 3) ∧ val (1000 + 4 * i + 3) ≤ 3)
    (hm : (val (100 + at' (p % 4) (which m) 0) = val (1000 + 4 * i + 0) ∧ val (100 + at' (p % 4) (which m) 1) = (p : Int)) ∨ ¬ (val (100 + at' (p % 4) (1 - which m) 0) = val (1000 + 4 * i + 0) ∧ val (100 + at' (p % 4) (1 - which m) 1) = (p : Int))) :
    Inv L0 L1 X2 X3 X4 Z0 Z1 (fun q => V.num val (sgG i p m q)) := by
  have hs : p % 4 < 4 := Nat.mod_lt _ (by decide)
  have lo : ∀ q, (q < 100 ∨ 140 ≤ q) → q < 5000 → V.num val (sgG i p m q) = val q := fun q h1 h2 => by unfold sgG; rw [sgF_lo hs hw h1 h2]; rfl
  have ne : ∀ s w k, s < 4 → w < 2 → k < 5 → ¬ (s = p % 4 ∧ w = which m) → V.num val (sgG i p m (100 + at' s w k)) = val (100 + at' s w k) := fun s w k h1 h2 h3 h4 => by unfold sgG; rw [sgF_ne hs hw h1 h2 h3 h4]; rfl
  have e0 : V.num val (sgG i p m (100 + at' (p % 4) (which m) 0)) = val (1000 + 4 * i + 0) := by unfold sgG; rw [sgF_0]; rfl
  have e1 : V.num val (sgG i p m (100 + at' (p % 4) (which m) 1)) = (p : Int) := by unfold sgG; rw [sgF_1]; rfl
  have e3 : V.num val (sgG i p m (100 + at' (p % 4) (which m) 3)) = val (1000 + 4 * i + 3) := by unfold sgG; rw [sgF_3]; rfl
  refine ⟨fun q hq => ?_, fun k => ?_, fun s w h1 h2 h => ?_, fun s h1 g1 g2 g3 => ?_, fun j hj => ?_⟩
  · show V.num val (sgG i p m q) = _
    rw [lo q (by omega) (by omega)]
    exact hI.fixed q hq
  · show V.num val (sgG i p m (5000 + k + 1)) = wr .i64 (V.num val (sgG i p m (5000 + k)) + 1)
    unfold sgG
    rw [sgF_hi hs hw (by omega), sgF_hi hs hw (by omega)]
    exact hI.chain (k + 1)
  · show 1 ≤ V.num val (sgG i p m (100 + at' s w 3)) ∧ V.num val (sgG i p m (100 + at' s w 3)) ≤ 3
    have h : 0 ≤ V.num val (sgG i p m (100 + at' s w 0)) := h
    by_cases hh : s = p % 4 ∧ w = which m
    · obtain ⟨rfl, rfl⟩ := hh
      rw [e3]; exact h3
    · rw [ne s w 3 h1 h2 (by omega) hh]
      rw [ne s w 0 h1 h2 (by omega) hh] at h
      exact hI.rights s w h1 h2 h
  · have g1 : 0 ≤ V.num val (sgG i p m (100 + at' s 0 0)) := g1
    have g2 : V.num val (sgG i p m (100 + at' s 0 0)) = V.num val (sgG i p m (100 + at' s 1 0)) := g2
    have g3 : V.num val (sgG i p m (100 + at' s 0 1)) = V.num val (sgG i p m (100 + at' s 1 1)) := g3
    by_cases hh : s = p % 4
    · subst hh
      have hw' : which m = 0 ∨ which m = 1 := by omega
      rcases hw' with hw' | hw' <;> rw [hw'] at e0 e1 hm
      · rw [e0, ne _ 1 0 h1 (by omega) (by omega) (by omega)] at g2
        rw [e1, ne _ 1 1 h1 (by omega) (by omega) (by omega)] at g3
        rcases hm with ⟨m1, m2⟩ | hm
        · exact hI.diff _ h1 (by omega) (by omega) (by omega)
        · exact hm ⟨g2.symm, g3.symm⟩
      · rw [e0, ne _ 0 0 h1 (by omega) (by omega) (by omega)] at g2
        rw [e1, ne _ 0 1 h1 (by omega) (by omega) (by omega)] at g3
        rcases hm with ⟨m1, m2⟩ | hm
        · exact hI.diff _ h1 (by omega) (by omega) (by omega)
        · exact hm ⟨g2, g3⟩
    · rw [ne _ 0 0 h1 (by omega) (by omega) (by omega)] at g1 g2
      rw [ne _ 1 0 h1 (by omega) (by omega) (by omega)] at g2
      rw [ne _ 0 1 h1 (by omega) (by omega) (by omega), ne _ 1 1 h1 (by omega) (by omega) (by omega)] at g3
      exact hI.diff s h1 g1 g2 g3
  · have := hI.tabl j hj
    show V.num val (sgG i p m (200 + (3 * j + 2))) = 0 ∨ (1 ≤ V.num val (sgG i p m (200 + (3 * j + 2))) ∧ V.num val (sgG i p m (200 + (3 * j + 2))) ≤ 3 ∧ 0 ≤ V.num val (sgG i p m (200 + 3 * j)) ∧ V.num val (sgG i p m (200 + 3 * j)) < 16)
    rw [lo (200 + (3 * j + 2)) (by omega) (by omega), lo (200 + 3 * j) (by omega) (by omega)]
    exact this

/-! The second loop. -/
theorem sgT_lo {i q : Nat} (h : q < 200 ∨ 224 ≤ q) (hi : i < 8) : sgT i q = y q := by
  unfold sgT
  rw [nbf (by omega), nbf (by omega), nbf (by omega)]
  rfl
theorem sgT_ne {i j k : Nat} (h : j ≠ i) (hk : k < 3) : sgT i (200 + (3 * j + k)) = y (200 + (3 * j + k)) := by
  unfold sgT
  rw [nbf (by omega), nbf (by omega), nbf (by omega)]
  rfl
theorem sgT_0 {i : Nat} : sgT i (200 + 3 * i) = pt i 0 := by unfold sgT; rw [nbt rfl]; rfl
theorem sgT_2 {i : Nat} : sgT i (200 + (3 * i + 2)) = pt i 2 := by unfold sgT; rw [nbf (by omega), nbf (by omega), nbt (by omega)]; rfl

theorem inv_tab {val : Nat → Int} (hI : Inv L0 L1 X2 X3 X4 Z0 Z1 val) {i : Nat} (hi : i < 8) (h : 1 ≤ val (2000 + 3 * i + 2) ∧ val (2000 + 3 * i + 2) ≤ 3 ∧ 0 ≤ val (2000 + 3 * i + 0) ∧ val (2000 + 3 * i + 0) < 16) :
    Inv L0 L1 X2 X3 X4 Z0 Z1 (fun q => V.num val (sgT i q)) := by
  have lo : ∀ q, (q < 200 ∨ 224 ≤ q) → V.num val (sgT i q) = val q := fun q h1 => by rw [sgT_lo h1 hi]; rfl
  have at_lt : ∀ {s w k}, s < 4 → w < 2 → k < 5 → 100 + at' s w k < 200 := by intro s w k h1 h2 h3; unfold at'; omega
  refine ⟨fun q hq => ?_, fun k => ?_, fun s w h1 h2 h => ?_, fun s h1 g1 g2 g3 => ?_, fun j hj => ?_⟩
  · show V.num val (sgT i q) = _
    rw [lo q (by omega)]
    exact hI.fixed q hq
  · show V.num val (sgT i (5000 + k + 1)) = wr .i64 (V.num val (sgT i (5000 + k)) + 1)
    rw [lo _ (by omega), lo _ (by omega)]
    exact hI.chain k
  · show 1 ≤ V.num val (sgT i (100 + at' s w 3)) ∧ V.num val (sgT i (100 + at' s w 3)) ≤ 3
    have h : 0 ≤ V.num val (sgT i (100 + at' s w 0)) := h
    rw [lo _ (.inl (at_lt h1 h2 (by omega)))] at h ⊢
    exact hI.rights s w h1 h2 h
  · have g1 : 0 ≤ V.num val (sgT i (100 + at' s 0 0)) := g1
    have g2 : V.num val (sgT i (100 + at' s 0 0)) = V.num val (sgT i (100 + at' s 1 0)) := g2
    have g3 : V.num val (sgT i (100 + at' s 0 1)) = V.num val (sgT i (100 + at' s 1 1)) := g3
    rw [lo _ (.inl (at_lt h1 (by omega) (by omega)))] at g1 g2 g3
    rw [lo _ (.inl (at_lt h1 (by omega) (by omega)))] at g2 g3
    exact hI.diff s h1 g1 g2 g3
  · show V.num val (sgT i (200 + (3 * j + 2))) = 0 ∨ (1 ≤ V.num val (sgT i (200 + (3 * j + 2))) ∧ V.num val (sgT i (200 + (3 * j + 2))) ≤ 3 ∧ 0 ≤ V.num val (sgT i (200 + 3 * j)) ∧ V.num val (sgT i (200 + 3 * j)) < 16)
    by_cases hh : j = i
    · subst hh
      rw [sgT_0, sgT_2]
      exact .inr h
    · have h2 := @sgT_ne i j 2 hh (by omega)
      have h0 : sgT i (200 + 3 * j) = y (200 + 3 * j) := @sgT_ne i j 0 hh (by omega)
      rw [h2, h0]
      exact hI.tabl j hj

theorem fit_ok (val : Nat → Int) (i : Nat) : (∃ c, c < 6 ∧ ∀ x ∈ fit i c, AnsOk val x) ∨
    ((∀ x ∈ fit i 6, AnsOk val x) ∧ 1 ≤ val (2000 + 3 * i + 2) ∧ val (2000 + 3 * i + 2) ≤ 3 ∧ 0 ≤ val (2000 + 3 * i + 0) ∧ val (2000 + 3 * i + 0) < 16) := by
  by_cases h0 : val (2000 + 3 * i + 0) < ((0 : Nat) : Int)
  · exact .inl ⟨0, by omega, ok_cons (lss_t h0) ok_nil⟩
  by_cases h1 : val (2000 + 3 * i + 0) ≥ ((16 : Nat) : Int)
  · exact .inl ⟨1, by omega, ok_cons (lss_f h0) (ok_cons (geq_t h1) ok_nil)⟩
  by_cases h2 : val (2000 + 3 * i + 1) < ((0 : Nat) : Int)
  · exact .inl ⟨2, by omega, ok_cons (lss_f h0) (ok_cons (geq_f h1) (ok_cons (lss_t h2) ok_nil))⟩
  by_cases h3 : val (2000 + 3 * i + 1) ≥ ((8 : Nat) : Int)
  · exact .inl ⟨3, by omega, ok_cons (lss_f h0) (ok_cons (geq_f h1) (ok_cons (lss_f h2) (ok_cons (geq_t h3) ok_nil)))⟩
  by_cases h4 : val (2000 + 3 * i + 2) ≥ ((1 : Nat) : Int)
  · by_cases h5 : val (2000 + 3 * i + 2) ≤ ((3 : Nat) : Int)
    · exact .inr ⟨ok_cons (lss_f h0) (ok_cons (geq_f h1) (ok_cons (lss_f h2) (ok_cons (geq_f h3) (ok_cons (geq_t h4) (ok_cons (leq_t h5) ok_nil))))), by omega, by omega, by omega, by omega⟩
    · exact .inl ⟨5, by omega, ok_cons (lss_f h0) (ok_cons (geq_f h1) (ok_cons (lss_f h2) (ok_cons (geq_f h3) (ok_cons (geq_t h4) (ok_cons (leq_f h5) ok_nil)))))⟩
  · exact .inl ⟨4, by omega, ok_cons (lss_f h0) (ok_cons (geq_f h1) (ok_cons (lss_f h2) (ok_cons (geq_f h3) (ok_cons (geq_f h4) ok_nil))))⟩

theorem un_ok (val : Nat → Int) (i : Nat) : (∀ x ∈ zero i, AnsOk val x) ∨ ∃ u, u < 3 ∧ ∀ x ∈ un i u, AnsOk val x := by
  by_cases h0 : val (2000 + 3 * i + 0) = ((0 : Nat) : Int)
  · by_cases h1 : val (2000 + 3 * i + 1) = ((0 : Nat) : Int)
    · by_cases h2 : val (2000 + 3 * i + 2) = ((0 : Nat) : Int)
      · exact .inl (ok_cons (eql_t h0) (ok_cons (eql_t h1) (ok_cons (eql_t h2) ok_nil)))
      · exact .inr ⟨2, by omega, ok_cons (eql_t h0) (ok_cons (eql_t h1) (ok_cons (eql_f h2) ok_nil))⟩
    · exact .inr ⟨1, by omega, ok_cons (eql_t h0) (ok_cons (eql_f h1) ok_nil)⟩
  · exact .inr ⟨0, by omega, ok_cons (eql_f h0) ok_nil⟩

theorem wd_val {val : Nat → Int} (hI : Inv L0 L1 X2 X3 X4 Z0 Z1 val) {i j : Nat} (hi : i < 8) (hj : j < 8) : val (3000 + 8 * i + j) = wdv Z1 i j := by
  rw [hI.fixed _ (by omega)]
  unfold val0
  rw [if_neg (by omega), if_neg (by omega), if_neg (by omega), if_neg (by omega), if_pos (by omega)]
  rw [show (3000 + 8 * i + j - 3000) / 8 = i by omega, show (3000 + 8 * i + j - 3000) % 8 = j by omega]
theorem pt_val {val : Nat → Int} (hI : Inv L0 L1 X2 X3 X4 Z0 Z1 val) {i j : Nat} (hi : i < 8) (hj : j < 3) : val (2000 + 3 * i + j) = Z1 (3 * i + j) := by
  rw [hI.fixed _ (by omega)]
  unfold val0
  rw [if_neg (by omega), if_neg (by omega), if_neg (by omega), if_pos (by omega)]
  rw [show 2000 + 3 * i + j - 2000 = 3 * i + j by omega]
theorem ln_val {val : Nat → Int} (hI : Inv L0 L1 X2 X3 X4 Z0 Z1 val) {q : Nat} (hq : q < 1000) : val (1000 + q) = Z0 q := by
  rw [hI.fixed _ (by omega)]
  unfold val0
  rw [if_neg (by omega), if_neg (by omega), if_pos (by omega)]
  rw [show 1000 + q - 1000 = q by omega]

theorem word_ok {val : Nat → Int} (hI : Inv L0 L1 X2 X3 X4 Z0 Z1 val) {i : Nat} (hi : i < 8) : (∀ x ∈ word i, AnsOk val x) ∧ ∀ x ∈ cvW i, CvOk val x := by
  have k0 := wd_val hI hi (j := 0) (by omega); have k1 := wd_val hI hi (j := 1) (by omega); have k2 := wd_val hI hi (j := 2) (by omega)
  have k3 := wd_val hI hi (j := 3) (by omega); have k4 := wd_val hI hi (j := 4) (by omega); have k5 := wd_val hI hi (j := 5) (by omega)
  have p0 := pt_val hI hi (j := 0) (by omega); have p1 := pt_val hI hi (j := 1) (by omega); have p2 := pt_val hI hi (j := 2) (by omega)
  have z0 : wdv Z1 i 0 = w0 Z1 i := rfl
  have z1 : wdv Z1 i 1 = w1 Z1 i := rfl
  have z2 : wdv Z1 i 2 = w2 Z1 i := rfl
  have z3 : wdv Z1 i 3 = w3 Z1 i := rfl
  have z4 : wdv Z1 i 4 = w4 Z1 i := rfl
  have z5 : wdv Z1 i 5 = wr .u64 (w4 Z1 i) := rfl
  rw [z0] at k0; rw [z1] at k1; rw [z2] at k2; rw [z3] at k3; rw [z4] at k4; rw [z5] at k5
  refine ⟨ok_cons ?_ (ok_cons ?_ (ok_cons ?_ (ok_cons ?_ (ok_cons ?_ ok_nil)))), ?_⟩
  · show some (V.int .i64 (wr .i64 (Int.ofNat 256 * val (2000 + 3 * i + 0)))) = some (V.int .i64 (val (3000 + 8 * i + 0)))
    rw [k0, p0]; rfl
  · show some (V.int .i64 (wr .i64 (Int.ofNat 32768 + val (3000 + 8 * i + 0)))) = some (V.int .i64 (val (3000 + 8 * i + 1)))
    rw [k0, k1]; rfl
  · show some (V.int .i64 (wr .i64 (Int.ofNat 16 * val (2000 + 3 * i + 1)))) = some (V.int .i64 (val (3000 + 8 * i + 2)))
    rw [k2, p1]; rfl
  · show some (V.int .i64 (wr .i64 (val (3000 + 8 * i + 1) + val (3000 + 8 * i + 2)))) = some (V.int .i64 (val (3000 + 8 * i + 3)))
    rw [k1, k2, k3]; rfl
  · show some (V.int .i64 (wr .i64 (val (3000 + 8 * i + 3) + val (2000 + 3 * i + 2)))) = some (V.int .i64 (val (3000 + 8 * i + 4)))
    rw [k3, k4, p2]; rfl
  · intro x hx
    rcases List.mem_cons.1 hx with rfl | hx
    · exact ⟨.i64, val (3000 + 8 * i + 4), rfl, by show V.int .u64 (val (3000 + 8 * i + 5)) = V.int .u64 (wr .u64 (val (3000 + 8 * i + 4))); rw [k4, k5]⟩
    · cases hx

/-- A round of the second loop. -/
theorem tab_ok {val : Nat → Int} (hI : Inv L0 L1 X2 X3 X4 Z0 Z1 val) {i : Nat} (hi : i < 8) (hL : (i : Int) < L1) : ∃ c, c < 25 ∧ (∀ x ∈ ansT i c, AnsOk val x) ∧ Inv L0 L1 X2 X3 X4 Z0 Z1 (fun q => V.num val (sgT' i c q)) := by
  have h5 : val 5 = L1 := hI.fixed 5 (by omega)
  have hl : ∀ x ∈ UW.ansL i 5 true, AnsOk val x := ok_cons (by simp [AnsOk, UW.a, y, I, V.conc, evBin0, h5]; omega) ok_nil
  have same : ∀ f : Nat → V, f = sg → Inv L0 L1 X2 X3 X4 Z0 Z1 (fun q => V.num val (f q)) := by rintro f rfl; exact hI
  rcases un_ok val i with hz | ⟨u, hu, hua⟩
  · exact ⟨0, by omega, ok_app hl hz, hI⟩
  · have hu' : u = 0 ∨ u = 1 ∨ u = 2 := by omega
    rcases fit_ok val i with ⟨c, hc, hca⟩ | ⟨hf, h1, h2, h3, h4⟩
    · have hc' : c = 0 ∨ c = 1 ∨ c = 2 ∨ c = 3 ∨ c = 4 ∨ c = 5 := by omega
      refine ⟨1 + 8 * u + c, by omega, ?_, same _ ?_⟩
      · rcases hu' with rfl | rfl | rfl <;> rcases hc' with rfl | rfl | rfl | rfl | rfl | rfl <;> exact ok_app hl (ok_app hua hca)
      · rcases hu' with rfl | rfl | rfl <;> rcases hc' with rfl | rfl | rfl | rfl | rfl | rfl <;> rfl
    · have hr : AnsOk val (UW.a .eql (pt i 2) (I 0) false) := eql_f (i := 2000 + 3 * i + 2) (by omega)
      have hw := (word_ok hI hi).1
      by_cases hh : val (200 + (3 * i + 2)) ≠ ((0 : Nat) : Int)
      · refine ⟨1 + 8 * u + 6, by omega, ?_, same _ ?_⟩
        · rcases hu' with rfl | rfl | rfl <;> exact ok_app hl (ok_app hua (ok_app (ok_app hf hw) (ok_cons hr (ok_cons (neq_t hh) ok_nil))))
        · rcases hu' with rfl | rfl | rfl <;> rfl
      · refine ⟨1 + 8 * u + 7, by omega, ?_, ?_⟩
        · rcases hu' with rfl | rfl | rfl <;> exact ok_app hl (ok_app hua (ok_app (ok_app hf hw) (ok_cons hr (ok_cons (neq_f hh) ok_nil))))
        · have : sgT' i (1 + 8 * u + 7) = sgT i := by rcases hu' with rfl | rfl | rfl <;> rfl
          rw [this]
          exact inv_tab hI hi ⟨h1, h2, h3, h4⟩

/-- A round of the first loop. -/
theorem fill_ok {val : Nat → Int} (hI : Inv L0 L1 X2 X3 X4 Z0 Z1 val) {i : Nat} (hL : (i : Int) < L0) : (∃ c, c < 8 ∧ ∀ x ∈ ansB i c, AnsOk val x) ∨
    ∃ (p m : Nat), p < 8 ∧ m < 19 ∧ val (1000 + 4 * i + 1) = (p : Int) ∧ (∀ x ∈ ansG i p m, AnsOk val x) ∧ Inv L0 L1 X2 X3 X4 Z0 Z1 (fun q => V.num val (sgG i p m q)) := by
  have h0 : val 0 = L0 := hI.fixed 0 (by omega)
  have hl : ∀ x ∈ UW.ansL i 0 true, AnsOk val x := ok_cons (by simp [AnsOk, UW.a, y, I, V.conc, evBin0, h0]; omega) ok_nil
  rcases line_ok val i with ⟨c, hc, hca⟩ | ⟨hg, g0, g1, g2, g3, g4⟩
  · exact .inl ⟨c, hc, ok_app hl hca⟩
  · obtain ⟨p, hp⟩ := Int.eq_ofNat_of_zero_le g1
    obtain ⟨m, hm, hma, hw, hd⟩ := ways_ok val (1000 + 4 * i + 0) p (p % 4)
    refine .inr ⟨p, m, by omega, hm, hp, ok_app (ok_app (ok_app hl hg) hma) (ok_cons ?_ ok_nil), inv_fill hI (by omega) hw g0 ⟨g3, g4⟩ hd⟩
    show some (V.int .i64 (wr .i64 (val 5000 + Int.ofNat 1))) = some (V.int .i64 (val 5001))
    rw [show val 5001 = _ from hI.chain 0]
    rfl

/-- Behind the loops. -/
theorem last_ok {val : Nat → Int} (hI : Inv L0 L1 X2 X3 X4 Z0 Z1 val) : ∃ (p k tr m r : Nat), p < 8 ∧ k < 5 ∧ tr < 4 ∧ m < 20 ∧ (if m < 4 then r = 1 ∨ r = 2 ∨ r = 3 else r = 1) ∧ (∀ x ∈ ansF p k tr m, AnsOk val x) ∧ ∀ i z, kap p k tr m r i = some z → val i = z := by
  have v6 : val 6 = X2 := hI.fixed 6 (by omega)
  have v7 : val 7 = X3 := hI.fixed 7 (by omega)
  have v8 : val 8 = X4 := hI.fixed 8 (by omega)
  have v30 : val 30 = X2.tmod 4 := hI.fixed 30 (by omega)
  have v31 : val 31 = wr .i64 (X2.tmod 4 + 4) := hI.fixed 31 (by omega)
  have v32 : val 32 = X2 % 4 := hI.fixed 32 (by omega)
  have v33 : val 33 = X3.tmod 8 := hI.fixed 33 (by omega)
  have v34 : val 34 = wr .i64 (X3.tmod 8 + 8) := hI.fixed 34 (by omega)
  have e0 : 0 ≤ val 32 := by omega
  have e1 : val 32 < 4 := by omega
  obtain ⟨p, hp⟩ := Int.eq_ofNat_of_zero_le (show 0 ≤ X3 % 8 by omega)
  have hp8 : p < 8 := by omega
  have hE : ∀ x ∈ ansE, AnsOk val x := by
    refine ok_cons ?_ (ok_cons ?_ (ok_cons ?_ (ok_cons (lss_f (i := 32) (k := 0) (by omega)) (ok_cons (geq_f (i := 32) (k := 4) (by omega)) (ok_cons (eqly_t (i := 32) (k := 32) rfl) (ok_cons ?_ ok_nil))))))
    · simp [AnsOk, evBin0, V.conc, y, I, v6, v30]
    · simp [AnsOk, evBin0, V.conc, y, I, v30, v31]
    · have := norm_mod X2 4 (by omega) (by omega)
      simp [AnsOk, evBin0, V.conc, y, I, v31, v32, this]
    · simp [AnsOk, evBin0, V.conc, y, UW.a]
      omega
  have hP : ∀ x ∈ ansP p, AnsOk val x := by
    refine ok_cons ?_ (ok_cons ?_ (ok_cons ?_ ok_nil))
    · simp [AnsOk, evBin0, V.conc, y, I, v7, v33]
    · simp [AnsOk, evBin0, V.conc, y, I, v33, v34]
    · have := norm_mod X3 8 (by omega) (by omega)
      simp [AnsOk, evBin0, V.conc, y, I, v34, this, hp]
  have hK : ∃ k, k < 5 ∧ (∀ x ∈ ansK k, AnsOk val x) ∧ (k < 4 → val 8 = ((20 + k : Nat) : Int)) := by
    by_cases k0 : X4 = 20
    · exact ⟨0, by omega, ok_nil, fun _ => by omega⟩
    by_cases k1 : X4 = 21
    · exact ⟨1, by omega, ok_nil, fun _ => by omega⟩
    by_cases k2 : X4 = 22
    · exact ⟨2, by omega, ok_nil, fun _ => by omega⟩
    by_cases k3 : X4 = 23
    · exact ⟨3, by omega, ok_nil, fun _ => by omega⟩
    exact ⟨4, by omega, ok_cons (eql_f (i := 8) (k := 20) (by omega)) (ok_cons (eql_f (i := 8) (k := 21) (by omega)) (ok_cons (eql_f (i := 8) (k := 22) (by omega)) (ok_cons (eql_f (i := 8) (k := 23) (by omega)) ok_nil))), fun h => by omega⟩
  obtain ⟨k, hk, hKa, hkv⟩ := hK
  have hT := hI.tabl p hp8
  have hR : ∃ tr, tr < 4 ∧ (∀ x ∈ ansR p tr, AnsOk val x) ∧ val (200 + (3 * p + 2)) = ((tr : Nat) : Int) := by
    rcases hT with h | ⟨h1, h2, h3, h4⟩
    · exact ⟨0, by omega, ok_nil, by omega⟩
    · have : ∀ x ∈ [UW.a .lss (tb (3 * p)) (I 0) false, UW.a .geq (tb (3 * p)) (I 16) false], AnsOk val x := ok_cons (lss_f (i := 200 + 3 * p) (k := 0) (by omega)) (ok_cons (geq_f (i := 200 + 3 * p) (k := 16) (by omega)) ok_nil)
      have hh : val (200 + (3 * p + 2)) = 1 ∨ val (200 + (3 * p + 2)) = 2 ∨ val (200 + (3 * p + 2)) = 3 := by omega
      rcases hh with hh | hh | hh
      · exact ⟨1, by omega, this, hh⟩
      · exact ⟨2, by omega, this, hh⟩
      · exact ⟨3, by omega, this, hh⟩
  obtain ⟨tr, htr, hRa, hrv⟩ := hR
  have hs : p % 4 < 4 := Nat.mod_lt _ (by decide)
  have hM : ∃ m r, m < 20 ∧ (if m < 4 then r = 1 ∨ r = 2 ∨ r = 3 else r = 1) ∧ (∀ x ∈ ansM p m, AnsOk val x) ∧ (m < 4 → val (100 + at' (p % 4) (m / 2) 3) = ((r : Nat) : Int)) := by
    obtain ⟨c0, h0, k0, f0⟩ := way_ok val 32 p (p % 4) 0
    obtain ⟨c1, h1, k1, f1⟩ := way_ok val 32 p (p % 4) 1
    obtain ⟨c, h2, k2⟩ := room_ok val (p % 4)
    by_cases g0 : c0 = 2
    · have g1 : c1 ≠ 2 := fun g1 => hI.diff (p % 4) hs (by have := (f0.1 g0).1; omega) (by have := (f0.1 g0).1; have := (f1.1 g1).1; omega) (by have := (f0.1 g0).2; have := (f1.1 g1).2; omega)
      subst g0
      have hr := hI.rights (p % 4) 0 hs (by omega) (by have := (f0.1 rfl).1; omega)
      obtain ⟨r, hrr⟩ := Int.eq_ofNat_of_zero_le (show 0 ≤ val (100 + at' (p % 4) 0 3) by omega)
      have c1' : c1 = 0 ∨ c1 = 1 := by omega
      refine ⟨c1, r, by omega, ?_, ?_, fun _ => ?_⟩
      · rw [if_pos (by omega)]; omega
      · rcases c1' with rfl | rfl <;> exact ok_app k0 k1
      · rcases c1' with rfl | rfl <;> exact hrr
    · by_cases g1 : c1 = 2
      · subst g1
        have hr := hI.rights (p % 4) 1 hs (by omega) (by have := (f1.1 rfl).1; omega)
        obtain ⟨r, hrr⟩ := Int.eq_ofNat_of_zero_le (show 0 ≤ val (100 + at' (p % 4) 1 3) by omega)
        have c0' : c0 = 0 ∨ c0 = 1 := by omega
        refine ⟨2 + c0, r, by omega, ?_, ?_, fun _ => ?_⟩
        · rw [if_pos (by omega)]; omega
        · rcases c0' with rfl | rfl <;> exact ok_app k0 k1
        · rcases c0' with rfl | rfl <;> exact hrr
      · have c0' : c0 = 0 ∨ c0 = 1 := by omega
        have c1' : c1 = 0 ∨ c1 = 1 := by omega
        have c' : c = 0 ∨ c = 1 ∨ c = 2 ∨ c = 3 := by omega
        refine ⟨4 + 8 * c0 + 4 * c1 + c, 1, by omega, ?_, ?_, fun h => ?_⟩
        · rw [if_neg (by omega)]
        · rcases c0' with rfl | rfl <;> rcases c1' with rfl | rfl <;> rcases c' with rfl | rfl | rfl | rfl <;> exact ok_app (ok_app k0 k1) k2
        · omega
  obtain ⟨m, r, hm, hr, hMa, hmv⟩ := hM
  refine ⟨p, k, tr, m, r, hp8, hk, htr, hm, hr, ok_app (ok_app (ok_app (ok_app (ok_app (ok_app hE hP) hKa) hRa) hMa) ?_) (ok_cons ?_ ok_nil), ?_⟩
  · exact ok_cons (eqly_t rfl) (ok_cons (eqly_t rfl) (ok_cons (eqly_t rfl) (ok_cons (eqly_t rfl) ok_nil)))
  · show some (V.int .i64 (wr .i64 (val 5000 + Int.ofNat 1))) = some (V.int .i64 (val 5001))
    rw [show val 5001 = _ from hI.chain 0]
    rfl
  · intro i z hz
    unfold kap at hz
    by_cases h8 : i = 8
    · subst h8
      rw [nbt rfl] at hz
      simp only [cond_true] at hz
      by_cases h4 : k = 4
      · rw [nbt h4] at hz; cases hz
      · rw [nbf h4] at hz
        cases hz
        exact hkv (by omega)
    · rw [nbf h8] at hz
      simp only [cond_false] at hz
      by_cases ht : i = 202 + 3 * p
      · subst ht
        rw [nbt rfl] at hz
        cases hz
        rw [show 202 + 3 * p = 200 + (3 * p + 2) by omega]
        exact hrv
      · rw [nbf ht] at hz
        simp only [cond_false] at hz
        cases hb : (Nat.blt m 4 && Nat.beq i (100 + at' (p % 4) (m / 2) 3)) with
        | false => rw [hb] at hz; cases hz
        | true =>
          rw [hb] at hz
          cases hz
          rw [Bool.and_eq_true] at hb
          rw [nbeq hb.2]
          exact hmv (nblt' hb.1)
end

theorem run0 : endPat 4 ipn sg0 .nrm pat0 (runF t0 cx1 100000 50 (body.pre 4) patI) = true := by kernel_rfl
theorem run1 : endPat 4 ipn sg .nrm (pat1 0 0 []) (runF t0 cx1 100000 50 (body.suf 4 |>.fst |>.fst) pat0) = true := by kernel_rfl
theorem run2 : endPat 4 ipn sg .nrm (pat2 0 0 []) (runF t0 cx1 100000 50 (body.suf 5 |>.fst |>.fst) pat1X) = true := by kernel_rfl
theorem cut1 : FCode.suf 4 body = .seq (.seq (body.suf 4).fst.fst (.block 0 (.loop lp1))) (body.suf 5) := by kernel_rfl
theorem cut2 : FCode.suf 5 body = .seq (.seq (body.suf 5).fst.fst (.block 2 (.loop lp2))) (body.suf 6) := by kernel_rfl
noncomputable def lvs1 (i : Nat) : Bool := lv1 i false && (bif Nat.beq i 12 then lv1 i true else true)
noncomputable def lvs2 (i : Nat) : Bool := lv2 i false && (bif Nat.beq i 8 then lv2 i true else true)
theorem rt_0 : ((List.range 1).all fun d => rnds2 (0 + d)) = true := by kernel_rfl
theorem rt_1 : ((List.range 1).all fun d => rnds2 (1 + d)) = true := by kernel_rfl
theorem rt_2 : ((List.range 1).all fun d => rnds2 (2 + d)) = true := by kernel_rfl
theorem rt_3 : ((List.range 1).all fun d => rnds2 (3 + d)) = true := by kernel_rfl
theorem rt_4 : ((List.range 1).all fun d => rnds2 (4 + d)) = true := by kernel_rfl
theorem rt_5 : ((List.range 1).all fun d => rnds2 (5 + d)) = true := by kernel_rfl
theorem rt_6 : ((List.range 1).all fun d => rnds2 (6 + d)) = true := by kernel_rfl
theorem rt_7 : ((List.range 1).all fun d => rnds2 (7 + d)) = true := by kernel_rfl
theorem rt_all : ∀ i, i < 8 → rnds2 i = true := by
  intro i hi
  have hq : i = 1 * (i / 1) + i % 1 := (Nat.div_add_mod i 1).symm
  have hr : i % 1 < 1 := Nat.mod_lt _ (by decide)
  have hd : i / 1 < 8 := by omega
  generalize i / 1 = q at hq hd
  generalize i % 1 = r at hq hr
  subst hq
  match q, hd with
  | 0, _ => exact List.all_eq_true.1 rt_0 r (List.mem_range.2 (by omega))
  | 1, _ => exact List.all_eq_true.1 rt_1 r (List.mem_range.2 (by omega))
  | 2, _ => exact List.all_eq_true.1 rt_2 r (List.mem_range.2 (by omega))
  | 3, _ => exact List.all_eq_true.1 rt_3 r (List.mem_range.2 (by omega))
  | 4, _ => exact List.all_eq_true.1 rt_4 r (List.mem_range.2 (by omega))
  | 5, _ => exact List.all_eq_true.1 rt_5 r (List.mem_range.2 (by omega))
  | 6, _ => exact List.all_eq_true.1 rt_6 r (List.mem_range.2 (by omega))
  | 7, _ => exact List.all_eq_true.1 rt_7 r (List.mem_range.2 (by omega))
  | q + 8, h => exact absurd h (by omega)
theorem lva_0 : ((List.range 4).all fun d => lvs1 (0 + d)) = true := by kernel_rfl
theorem lva_1 : ((List.range 4).all fun d => lvs1 (4 + d)) = true := by kernel_rfl
theorem lva_2 : ((List.range 4).all fun d => lvs1 (8 + d)) = true := by kernel_rfl
theorem lva_3 : ((List.range 1).all fun d => lvs1 (12 + d)) = true := by kernel_rfl
theorem lva_all : ∀ i, i < 13 → lvs1 i = true := by
  intro i hi
  have hq : i = 4 * (i / 4) + i % 4 := (Nat.div_add_mod i 4).symm
  have hr : i % 4 < 4 := Nat.mod_lt _ (by decide)
  have hd : i / 4 < 4 := by omega
  generalize i / 4 = q at hq hd
  generalize i % 4 = r at hq hr
  subst hq
  match q, hd with
  | 0, _ => exact List.all_eq_true.1 lva_0 r (List.mem_range.2 (by omega))
  | 1, _ => exact List.all_eq_true.1 lva_1 r (List.mem_range.2 (by omega))
  | 2, _ => exact List.all_eq_true.1 lva_2 r (List.mem_range.2 (by omega))
  | 3, _ => exact List.all_eq_true.1 lva_3 r (List.mem_range.2 (by omega))
  | q + 4, h => exact absurd h (by omega)
theorem lvb_0 : ((List.range 4).all fun d => lvs2 (0 + d)) = true := by kernel_rfl
theorem lvb_1 : ((List.range 4).all fun d => lvs2 (4 + d)) = true := by kernel_rfl
theorem lvb_2 : ((List.range 1).all fun d => lvs2 (8 + d)) = true := by kernel_rfl
theorem lvb_all : ∀ i, i < 9 → lvs2 i = true := by
  intro i hi
  have hq : i = 4 * (i / 4) + i % 4 := (Nat.div_add_mod i 4).symm
  have hr : i % 4 < 4 := Nat.mod_lt _ (by decide)
  have hd : i / 4 < 3 := by omega
  generalize i / 4 = q at hq hd
  generalize i % 4 = r at hq hr
  subst hq
  match q, hd with
  | 0, _ => exact List.all_eq_true.1 lvb_0 r (List.mem_range.2 (by omega))
  | 1, _ => exact List.all_eq_true.1 lvb_1 r (List.mem_range.2 (by omega))
  | 2, _ => exact List.all_eq_true.1 lvb_2 r (List.mem_range.2 (by omega))
  | q + 3, h => exact absurd h (by omega)
end Go.Proofs.YtinopjbpjopdcaaGreatDoor.UW
