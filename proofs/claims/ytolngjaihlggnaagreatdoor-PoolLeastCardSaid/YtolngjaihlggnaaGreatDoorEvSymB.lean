import Derived.Test.YtolngjaihlggnaaGreatDoorEvSymA
/-! Open loops: a state is an instance of a pattern: other names of blocks, other numbers. -/
namespace Go.Ev
set_option linter.unusedVariables false
set_option linter.unusedSimpArgs false
set_option linter.unusedSectionVars false

/-- A number of the run, told. -/
def V.num (val : Nat → Int) : V → Int
  | .int _ n => n
  | .sym _ i => val i
  | _ => 0

/-- Which block of the run a block of the pattern stands for: up to 'G' itself. -/
def bLook (b : Nat) : List (Nat × Nat) → Option Nat
  | [] => none
  | p :: l => bif Nat.beq p.1 b then some p.2 else bLook b l
def bMap (G : Nat) (β : List (Nat × Nat)) (b : Nat) : Option Nat := bif Nat.ble b G then some b else bLook b β
def isB (o : Option Nat) (b : Nat) : Bool :=
  match o with
  | some x => Nat.beq x b
  | none => false
def mSym (k : IntKind) (s v : V) : Bool :=
  match s, v with
  | .int _ m, .int k' m' => decide (k = k') && decide (m = m')
  | .sym _ i, .sym k' i' => decide (k = k') && Nat.beq i i'
  | _, _ => false
def isSym (s : V) (i : Nat) : Bool :=
  match s with
  | .sym _ j => Nat.beq j i
  | _ => false

/-- One flat value is an instance of another. -/
def m1 (G : Nat) (β : List (Nat × Nat)) (σ : Nat → V) : V → V → Bool
  | .top, v => v.one
  | .sym k i, v => mSym k (σ i) v
  | .bool a, .bool b => a == b
  | .int k a, .int j b => decide (k = j) && decide (a = b)
  | .str a, .str b => a == b
  | .nilp, .nilp => true
  | .nils, .nils => true
  | .nilm, .nilm => true
  | .nilf, .nilf => true
  | .nili, .nili => true
  | .ptr b o, .ptr b' o' => isB (bMap G β b) b' && Nat.beq o o'
  | .slc b o len cap sz, .slc b' o' len' cap' sz' => isB (bMap G β b) b' && Nat.beq o o' && Nat.beq len len' && Nat.beq sz sz' && (Nat.beq cap cap' || (!(Nat.beq sz 0) && Nat.ble len cap && Nat.ble cap cap' && !(Nat.beq cap' 0)))
  | .map r, .map r' => isB (bMap G β r) r'
  | .slv b o i lo, .slv b' o' i' lo' => isB (bMap G β b) b' && Nat.beq o o' && isSym (σ i) i' && Nat.ble lo lo'
  | _, _ => false
def m1L (G : Nat) (β : List (Nat × Nat)) (σ : Nat → V) : List V → List V → Bool
  | [], [] => true
  | p :: ps, v :: vs => m1 G β σ p v && m1L G β σ ps vs
  | _, _ => false
def m2 (G : Nat) (β : List (Nat × Nat)) (σ : Nat → V) : V → V → Bool
  | .agg ps, .agg vs => m1L G β σ ps vs
  | .tup ps, .tup vs => m1L G β σ ps vs
  | .ifc t p, .ifc u v => Nat.beq t u && m1 G β σ p v
  | .fn f a c, .fn f' a' c' => Nat.beq f f' && m1L G β σ a a' && m1L G β σ c c'
  | p, v => m1 G β σ p v
/-- .. a row, of which the pattern may hold the beginning alone. -/
def m2P (G : Nat) (β : List (Nat × Nat)) (σ : Nat → V) : List V → List V → Bool
  | [], _ => true
  | p :: ps, v :: vs => m2 G β σ p v && m2P G β σ ps vs
  | _ :: _, [] => false
def m2L (G : Nat) (β : List (Nat × Nat)) (σ : Nat → V) : List (V × V) → List (V × V) → Bool
  | [], [] => true
  | p :: ps, v :: vs => m2 G β σ p.1 v.1 && m2 G β σ p.2 v.2 && m2L G β σ ps vs
  | _, _ => false
def mBlk (G : Nat) (β : List (Nat × Nat)) (σ : Nat → V) : Blk → Option Blk → Bool
  | .cells ps ro, some (.cells cs ro') => (ro == ro') && m2P G β σ ps cs
  | .map es, some (.map es') => m2L G β σ es es'
  | .dead, _ => true
  | _, _ => false

theorem isB_ok {o : Option Nat} {b : Nat} (h : isB o b = true) : o = some b := by
  unfold isB at h
  split at h
  · rw [nbeq h]
  · cases h

theorem nblt' {a b : Nat} (h : Nat.blt a b = true) : a < b := Nat.le_of_ble_eq_true h
section
variable {i1 i2 : Sig} {G : Nat} {β : List (Nat × Nat)} {σ : Nat → V} {ρ : Rho}

/-- The pattern's names. -/
def rI (G : Nat) (β : List (Nat × Nat)) (ρ : Rho) : Rho := fun b => (bMap G β b).bind ρ

theorem m1_ok (hv : ∀ i, i2.val i = V.num i1.val (σ i)) {p v : V} {x : Value} (hm : m1 G β σ p v = true) (h : @VRel i1 ρ v x) : @VRel i2 (rI G β ρ) p x := by
  have hb : ∀ {b b' : Nat} {e : Ent}, isB (bMap G β b) b' = true → ρ b' = some e → rI G β ρ b = some e := by
    intro b b' e h1 h2
    unfold rI
    rw [isB_ok h1]
    exact h2
  cases p with
  | top =>
    refine @VRel.top i2 _ _ ?_
    rw [@VRel.oneCell i1 _ _ _ h]
    cases v <;> first | exact hm | rfl
  | sym k i =>
    have hm : mSym k (σ i) v = true := by cases v <;> exact hm
    have hi := hv i
    have goal := @VRel.sym i2 (rI G β ρ) k i
    cases hs : σ i <;> rw [hs] at hm hi <;> cases v <;> simp only [mSym, Bool.and_eq_true, decide_eq_true_eq, Bool.false_eq_true] at hm
    · obtain ⟨rfl, rfl⟩ := hm
      cases h
      rw [hi] at goal
      exact goal
    · obtain ⟨rfl, hq⟩ := hm
      have hq := nbeq hq
      subst hq
      cases h
      rw [hi] at goal
      exact goal
  | bool a =>
    cases v with
    | bool b =>
      have : a = b := by simpa [m1] using hm
      subst this
      cases h
      exact @VRel.bool i2 _ _
    | _ => cases hm
  | int k a =>
    cases v with
    | int j b =>
      simp only [m1, Bool.and_eq_true, decide_eq_true_eq] at hm
      obtain ⟨rfl, rfl⟩ := hm
      cases h
      exact @VRel.int i2 _ _ _
    | _ => cases hm
  | str a =>
    cases v with
    | str b =>
      have : a = b := by simpa [m1] using hm
      subst this
      cases h with
      | str s l hl => exact @VRel.str i2 _ s _ hl
    | _ => cases hm
  | nilp => cases v <;> first | (cases h; exact @VRel.nilp i2 _) | cases hm
  | nils => cases v <;> first | (cases h; exact @VRel.nils i2 _) | cases hm
  | nilm => cases v <;> first | (cases h; exact @VRel.nilm i2 _) | cases hm
  | nilf => cases v <;> first | (cases h; exact @VRel.nilf i2 _) | cases hm
  | nili => cases v <;> first | (cases h; exact @VRel.nili i2 _) | cases hm
  | ptr b o =>
    cases v with
    | ptr b' o' =>
      simp only [m1, Bool.and_eq_true] at hm
      have ho := nbeq hm.2
      subst ho
      cases h with
      | ptr _ _ e he => exact @VRel.ptr i2 _ _ _ e (hb hm.1 he)
    | _ => cases hm
  | slc b o len cap sz =>
    cases v with
    | slc b' o' len' cap' sz' =>
      simp only [m1, Bool.and_eq_true, Bool.or_eq_true, Bool.not_eq_true'] at hm
      obtain ⟨⟨⟨⟨h1, h2⟩, h3⟩, h4⟩, h5⟩ := hm
      have h2 := nbeq h2; have h3 := nbeq h3; have h4 := nbeq h4
      subst h2; subst h3; subst h4
      cases h with
      | slc _ _ _ _ _ e ro' c' he hs =>
        refine @VRel.slc i2 _ _ _ _ _ _ e ro' c' (hb h1 he) ?_
        rcases h5 with h5 | ⟨⟨⟨h5, h6⟩, h7⟩, h8⟩
        · have h5 := nbeq h5
          subst h5
          exact hs
        · have h6 := nble h6
          have h7 := nble h7
          have h9 : cap' ≠ 0 := fun hh => by rw [nbt hh] at h8; cases h8
          rcases hs with ⟨k1, _⟩ | ⟨k1, k2 | k2⟩
          · subst k1; cases h5
          · exact .inr ⟨k1, .inl ⟨h6, Nat.le_trans h7 k2.2.1, k2.2.2⟩⟩
          · exact absurd k2.2.1 h9
    | _ => cases hm
  | map r =>
    cases v with
    | map r' =>
      cases h with
      | map _ e he => exact @VRel.map i2 _ _ e (hb hm he)
    | _ => cases hm
  | slv b o i lo =>
    cases v with
    | slv b' o' i' lo' =>
      simp only [m1, Bool.and_eq_true] at hm
      obtain ⟨⟨⟨h1, h2⟩, h3⟩, h4⟩ := hm
      have h2 := nbeq h2; have h4 := nble h4
      subst h2
      have hi : i2.val i = i1.val i' := by
        rw [hv i]
        unfold isSym at h3
        split at h3
        · rename_i hs; rw [hs, nbeq h3]; rfl
        · cases h3
      cases h with
      | slv _ _ _ _ e len c' he hl hlo => exact @VRel.slv i2 _ _ _ _ _ e len c' (hb h1 he) (hi.trans hl) (Nat.le_trans h4 hlo)
      | slvn _ _ _ pp cp hl =>
        have : lo = 0 := by omega
        subst this
        exact @VRel.slvn i2 _ _ _ _ pp cp (hi.trans hl)
    | _ => cases hm
  | fn f a c => cases v <;> cases hm
  | ifc t u => cases v <;> cases hm
  | agg a => cases v <;> cases hm
  | tup a => cases v <;> cases hm

theorem m1L_ok (hv : ∀ i, i2.val i = V.num i1.val (σ i)) : ∀ {ps vs : List V} {xs : List Value}, m1L G β σ ps vs = true → @LRel i1 ρ vs xs → @LRel i2 (rI G β ρ) ps xs
  | [], [], xs, _, h => by
    have : xs = [] := List.length_eq_zero_iff.1 h.1.symm
    subst this
    exact @LRel.nil i2 _
  | p :: ps, v :: vs, xs, hm, h => by
    simp only [m1L, Bool.and_eq_true] at hm
    match xs, h.1 with
    | x :: xs, hl =>
      have h0 := h.2 0 v x rfl rfl
      have hr : @LRel i1 ρ vs xs := ⟨by simpa using hl, fun i a b ha hb => h.2 (i + 1) a b (by simpa using ha) (by simpa using hb)⟩
      exact @LRel.cons i2 _ _ _ _ _ (m1_ok hv hm.1 h0) (m1L_ok hv hm.2 hr)
  | [], _ :: _, _, hm, _ => by cases hm
  | _ :: _, [], _, hm, _ => by cases hm

theorem m2_ok (hv : ∀ i, i2.val i = V.num i1.val (σ i)) {p v : V} {x : Value} (hm : m2 G β σ p v = true) (h : @VRel i1 ρ v x) : @VRel i2 (rI G β ρ) p x := by
  have flat : m1 G β σ p v = true → @VRel i2 (rI G β ρ) p x := fun hm => m1_ok hv hm h
  cases p with
  | agg ps =>
    cases v with
    | agg vs =>
      cases h with
      | agg _ a' la ha => exact @VRel.agg' i2 _ _ _ (m1L_ok hv hm ⟨la, ha⟩)
    | _ => exact flat hm
  | tup ps =>
    cases v with
    | tup vs =>
      cases h with
      | tup _ a' la ha => exact @VRel.tup' i2 _ _ _ (m1L_ok hv hm ⟨la, ha⟩)
    | _ => exact flat hm
  | ifc t q =>
    cases v with
    | ifc u w =>
      simp only [m2, Bool.and_eq_true] at hm
      have := nbeq hm.1
      subst this
      cases h with
      | ifc _ _ x' hx => exact @VRel.ifc i2 _ _ _ _ (m1_ok hv hm.2 hx)
    | _ => exact flat hm
  | fn f a c =>
    cases v with
    | fn f' a' c' =>
      simp only [m2, Bool.and_eq_true] at hm
      obtain ⟨⟨h1, h2⟩, h3⟩ := hm
      have := nbeq h1
      subst this
      cases h with
      | fn _ _ _ a2 c2 la lc ha hc =>
        have k1 := m1L_ok hv h2 (xs := a2) ⟨la, ha⟩
        have k2 := m1L_ok hv h3 (xs := c2) ⟨lc, hc⟩
        exact @VRel.fn i2 _ _ _ _ a2 c2 k1.1 k2.1 k1.2 k2.2
    | _ => exact flat hm
  | _ => exact flat (by cases v <;> exact hm)

theorem m2P_ok (hv : ∀ i, i2.val i = V.num i1.val (σ i)) : ∀ {ps vs : List V} {xs : List Value}, m2P G β σ ps vs = true → @LRel i1 ρ vs xs → ps.length ≤ vs.length ∧ @LRel i2 (rI G β ρ) ps (xs.take ps.length)
  | [], vs, xs, _, _ => ⟨by simp, by simpa using @LRel.nil i2 (rI G β ρ)⟩
  | p :: ps, v :: vs, xs, hm, h => by
    simp only [m2P, Bool.and_eq_true] at hm
    match xs, h.1 with
    | x :: xs, hl =>
      have h0 := h.2 0 v x rfl rfl
      have hr : @LRel i1 ρ vs xs := ⟨by simpa using hl, fun i a b ha hb => h.2 (i + 1) a b (by simpa using ha) (by simpa using hb)⟩
      obtain ⟨k1, k2⟩ := m2P_ok hv hm.2 hr
      refine ⟨by simpa using k1, ?_⟩
      simp only [List.length_cons, List.take_succ_cons]
      exact @LRel.cons i2 _ _ _ _ _ (m2_ok hv hm.1 h0) k2
  | _ :: _, [], _, hm, _ => by cases hm

theorem m2L_ok (hv : ∀ i, i2.val i = V.num i1.val (σ i)) : ∀ {ps vs : List (V × V)} {fs : List MapEntry}, m2L G β σ ps vs = true → @MapRel i1 ρ vs fs → @MapRel i2 (rI G β ρ) ps fs
  | [], [], fs, _, h => by
    obtain ⟨hlen, _, _⟩ := h
    have : fs = [] := List.length_eq_zero_iff.1 hlen.symm
    subst this
    exact ⟨rfl, @LRel.nil i2 _, @LRel.nil i2 _⟩
  | p :: ps, v :: vs, fs, hm, h => by
    simp only [m2L, Bool.and_eq_true] at hm
    obtain ⟨hlen, ⟨_, hkey⟩, ⟨_, hval⟩⟩ := h
    match fs, hlen with
    | f :: fs, hl =>
      have k0 := hkey 0 v.1 f.key rfl rfl
      have v0 := hval 0 v.2 f.val rfl rfl
      have hr : @MapRel i1 ρ vs fs := @MapRel.mk i1 _ _ _ (by simpa using hl)
        ⟨by simpa using hl, fun i a b ha hb => hkey (i + 1) a b (by simpa using ha) (by simpa using hb)⟩
        ⟨by simpa using hl, fun i a b ha hb => hval (i + 1) a b (by simpa using ha) (by simpa using hb)⟩
      obtain ⟨r1, r2, r3⟩ := m2L_ok hv hm.2 hr
      exact ⟨by simp [r1], @LRel.cons i2 _ _ _ _ _ (m2_ok hv hm.1.1 k0) r2, @LRel.cons i2 _ _ _ _ _ (m2_ok hv hm.1.2 v0) r3⟩
  | [], _ :: _, _, hm, _ => by cases hm
  | _ :: _, [], _, hm, _ => by cases hm

theorem mBlk_ok (hv : ∀ i, i2.val i = V.num i1.val (σ i)) {base : Nat} {w : World} {e : Ent} {p b : Blk} (hm : mBlk G β σ p (some b) = true) (h : @BRel i1 base ρ w e b) : @BRel i2 base (rI G β ρ) w e p ∧ (p.owned = true → b.owned = true) := by
  cases p with
  | dead => exact ⟨trivial, fun hh => by cases hh⟩
  | cells ps ro =>
    cases b with
    | cells cs ro' =>
      simp only [mBlk, Bool.and_eq_true, beq_iff_eq] at hm
      obtain ⟨rfl, hm⟩ := hm
      obtain ⟨c, ty, fr, h1, h2, ⟨h31, h32⟩, h4⟩ := h
      obtain ⟨k1, k2⟩ := m2P_ok hv hm h32
      refine ⟨⟨c, ty, fr, h1, h2, ⟨?_, ?_⟩, h4⟩, fun hh => hh⟩
      · omega
      · rw [List.take_take, Nat.min_eq_left k1] at k2
        exact k2
    | _ => cases hm
  | map es =>
    cases b with
    | map es' =>
      obtain ⟨fs, ck, h1, h2, h3⟩ := h
      exact ⟨⟨fs, ck, h1, m2L_ok hv hm h2, h3⟩, fun _ => rfl⟩
    | _ => cases hm
end

/-! ### Patterns -/
/-- A frame, by the places that are known. -/
def envS : List (Nib × Nib × V) → Env
  | [] => .nil
  | p :: l => (envS l).set (tnat p.1 p.2.1) p.2.2
def envF : List (Nib × Nib × V) → FEnv
  | [] => .nil
  | p :: l => FEnv.set p.1 p.2.1 (.is p.2.2) (envF l)
theorem envE : ∀ l, ERel (envF l) (envS l)
  | [] => ERel.nil
  | p :: l => put_ok (envE l) (.at p.1 p.2.1 (fun v e => FEnv.set p.1 p.2.1 v e) fun _ _ => rfl) p.2.2
theorem envS_mem : ∀ {l : List (Nib × Nib × V)} {t : Nat} {v : V}, (envS l).get t = some v → ∃ p ∈ l, t = tnat p.1 p.2.1 ∧ v = p.2.2
  | [], t, v, h => by simp [envS, T.get] at h
  | p :: l, t, v, h => by
    simp only [envS] at h
    by_cases ht : tnat p.1 p.2.1 = t
    · subst ht
      rw [T.get_set_same] at h
      cases h
      exact ⟨p, List.mem_cons_self, rfl, rfl⟩
    · rw [T.get_set_ne _ _ ht] at h
      obtain ⟨q, h1, h2⟩ := envS_mem h
      exact ⟨q, List.mem_cons_of_mem _ h1, h2⟩

def hT : List (Nat × Blk) → T Blk
  | [] => .nil
  | p :: l => (hT l).set p.1 p.2
def hOf (l : List (Nat × Blk)) (nx : Nat) : H := ⟨hT l, nx⟩
theorem hOf_mem : ∀ {l : List (Nat × Blk)} {nx b : Nat} {k : Blk}, (hOf l nx).get b = some k → (b, k) ∈ l
  | [], nx, b, k, h => by simp [hOf, H.get, hT, T.get] at h
  | p :: l, nx, b, k, h => by
    have h : ((hT l).set p.1 p.2).get b = some k := h
    by_cases hb : p.1 = b
    · subst hb
      rw [T.get_set_same] at h
      cases h
      exact List.mem_cons_self
    · rw [T.get_set_ne _ _ hb] at h
      exact List.mem_cons_of_mem _ (hOf_mem (nx := nx) h)

/-- A pattern: a frame, a heap. -/
structure Pat where
  pe : List (Nib × Nib × V)
  pb : List (Nat × Blk)
  nx : Nat
def Pat.e (p : Pat) : Env := envS p.pe
def Pat.h (p : Pat) : H := hOf p.pb p.nx
def Pat.fe (p : Pat) : FEnv := envF p.pe

/-! Which block is which: found out, not trusted. -/
def bAdd (G b b' : Nat) (β : List (Nat × Nat)) : List (Nat × Nat) := bif Nat.ble b G then β else match bLook b β with | some _ => β | none => (b, b') :: β
def u1 (G : Nat) : V → V → List (Nat × Nat) → List (Nat × Nat)
  | .ptr b _, .ptr b' _, β => bAdd G b b' β
  | .slc b _ _ _ _, .slc b' _ _ _ _, β => bAdd G b b' β
  | .map b, .map b', β => bAdd G b b' β
  | .slv b _ _ _, .slv b' _ _ _, β => bAdd G b b' β
  | _, _, β => β
def u1L (G : Nat) : List V → List V → List (Nat × Nat) → List (Nat × Nat)
  | p :: ps, v :: vs, β => u1L G ps vs (u1 G p v β)
  | _, _, β => β
def u2 (G : Nat) : V → V → List (Nat × Nat) → List (Nat × Nat)
  | .agg ps, .agg vs, β => u1L G ps vs β
  | .tup ps, .tup vs, β => u1L G ps vs β
  | .ifc _ p, .ifc _ v, β => u1 G p v β
  | .fn _ a c, .fn _ a' c', β => u1L G c c' (u1L G a a' β)
  | p, v, β => u1 G p v β
def u2L (G : Nat) : List V → List V → List (Nat × Nat) → List (Nat × Nat)
  | p :: ps, v :: vs, β => u2L G ps vs (u2 G p v β)
  | _, _, β => β
def uE (G : Nat) (fe : FEnv) : List (Nib × Nib × V) → List (Nat × Nat) → List (Nat × Nat)
  | [], β => β
  | p :: l, β => uE G fe l (match FEnv.get p.1 p.2.1 fe with | .is v => u2 G p.2.2 v β | .no => β)
def uB (G : Nat) (h : H) : List (Nat × Blk) → List (Nat × Nat) → List (Nat × Nat)
  | [], β => β
  | p :: l, β => uB G h l (match p.2, (bMap G β p.1).bind h.get with | .cells ps _, some (.cells cs _) => u2L G ps cs β | _, _ => β)

/-! The check. -/
def cE (G : Nat) (β : List (Nat × Nat)) (σ : Nat → V) (fe : FEnv) (pe : List (Nib × Nib × V)) : Bool :=
  pe.all fun p => match FEnv.get p.1 p.2.1 fe with | .is v => m2 G β σ p.2.2 v | .no => false
def cB (G : Nat) (β : List (Nat × Nat)) (σ : Nat → V) (h : H) (pb : List (Nat × Blk)) : Bool :=
  pb.all fun p => match bMap G β p.1 with | some b => mBlk G β σ p.2 (h.get b) | none => false
def nodupB : List Nat → Bool
  | [] => true
  | a :: l => (l.all fun b => !(Nat.beq a b)) && nodupB l
def cN (G nx : Nat) (ipn : List Nat) (β : List (Nat × Nat)) : Bool :=
  Nat.blt G nx && (β.all fun p => Nat.blt G p.2 && Nat.blt p.1 nx) && nodupB (β.map (·.2)) && ipn.all fun b => isB (bMap G β b) b
def cAll (G : Nat) (ipn : List Nat) (σ : Nat → V) (p : Pat) (fe : FEnv) (h : H) (β : List (Nat × Nat)) : Bool :=
  cN G p.nx ipn β && cE G β σ fe p.pe && cB G β σ h p.pb
/-- The state is an instance of the pattern. -/
def isPat (G : Nat) (ipn : List Nat) (σ : Nat → V) (p : Pat) (fe : FEnv) (h : H) : Bool :=
  cAll G ipn σ p fe h (uB G h p.pb (uE G fe p.pe (ipn.map fun b => (b, b))))

theorem bLook_mem {b b' : Nat} : ∀ {β : List (Nat × Nat)}, bLook b β = some b' → (b, b') ∈ β
  | [], h => by cases h
  | p :: l, h => by
    simp only [bLook] at h
    cases hb : Nat.beq p.1 b with
    | true =>
      rw [hb] at h
      simp only [cond_true, Option.some.injEq] at h
      obtain ⟨p1, p2⟩ := p
      have := nbeq hb
      simp only at this h
      subst this; subst h
      exact List.mem_cons_self
    | false =>
      rw [hb] at h
      exact List.mem_cons_of_mem _ (bLook_mem h)

theorem nodup_inj : ∀ {β : List (Nat × Nat)}, nodupB (β.map (·.2)) = true → ∀ {a b c : Nat}, (a, c) ∈ β → (b, c) ∈ β → a = b
  | [], _, a, b, c, h, _ => by cases h
  | p :: l, hn, a, b, c, h1, h2 => by
    simp only [List.map_cons, nodupB, Bool.and_eq_true, List.all_eq_true] at hn
    have hne : ∀ q, (q, p.2) ∈ l → False := by
      intro q hq
      have := hn.1 p.2 (List.mem_map.2 ⟨(q, p.2), hq, rfl⟩)
      rw [Nat.beq_refl] at this
      cases this
    rcases List.mem_cons.1 h1 with e1 | m1'
    · rcases List.mem_cons.1 h2 with e2 | m2'
      · rw [← e2] at e1; cases e1; rfl
      · subst e1; exact absurd m2' (hne b)
    · rcases List.mem_cons.1 h2 with e2 | m2'
      · subst e2; exact absurd m1' (hne a)
      · exact nodup_inj hn.2 m1' m2'

theorem bMap_inj {G nx : Nat} {ipn : List Nat} {β : List (Nat × Nat)} (hn : cN G nx ipn β = true) {a b c : Nat} (h1 : bMap G β a = some c) (h2 : bMap G β b = some c) : a = b := by
  simp only [cN, Bool.and_eq_true, List.all_eq_true] at hn
  obtain ⟨⟨⟨_, hn1⟩, hn2⟩, _⟩ := hn
  have big : ∀ {x : Nat}, bLook x β = some c → G < c := fun hx => nblt' (hn1 _ (bLook_mem hx)).1
  unfold bMap at h1 h2
  cases ha : Nat.ble a G with
  | true =>
    rw [ha] at h1
    simp only [cond_true, Option.some.injEq] at h1
    have ha := nble ha
    cases hb : Nat.ble b G with
    | true => rw [hb] at h2; simp only [cond_true, Option.some.injEq] at h2; omega
    | false => rw [hb] at h2; have := big h2; omega
  | false =>
    rw [ha] at h1
    cases hb : Nat.ble b G with
    | true =>
      rw [hb] at h2
      simp only [cond_true, Option.some.injEq] at h2
      have hb := nble hb
      have := big h1
      omega
    | false =>
      rw [hb] at h2
      exact nodup_inj hn2 (bLook_mem h1) (bLook_mem h2)

/-- ████ A state that is an instance of a pattern is a state of the pattern, under the numbers that fit. -/
theorem isPat_ok {P : Program} {ips : List Inp} {w0 : World} {n : Nat} {i1 i2 : Sig} {σ : Nat → V} (hv : ∀ i, i2.val i = V.num i1.val (σ i)) {G : Nat} (hG : G = P.globals.size) {ipn : List Nat} (hip : ∀ x ∈ ips, x.nm ∈ ipn)
    {p : Pat} {fe : FEnv} {e : Env} {h : H} (hE : ERel fe e) (hm : isPat G ipn σ p fe h = true) {a : Act} {w : World} (hs : LS P ips w0 n i1 e h a w) : LS P ips w0 n i2 p.e p.h a w := by
  unfold isPat at hm
  generalize uB G h p.pb (uE G fe p.pe (ipn.map fun b => (b, b))) = β at hm
  simp only [cAll, Bool.and_eq_true] at hm
  obtain ⟨⟨hn, hce⟩, hcb⟩ := hm
  have hn' := hn
  simp only [cN, Bool.and_eq_true, List.all_eq_true] at hn
  obtain ⟨⟨⟨hgx, hn1⟩, hn2⟩, hn3⟩ := hn
  obtain ⟨⟨ρ, ⟨spins, ⟨senv1, senv2⟩, ⟨sblk, sdom, sinj, ssz⟩⟩, hρ⟩, hfr, hdf⟩ := hs
  have blk : ∀ b k e', p.h.get b = some k → rI G β ρ b = some e' → @BRel i2 w0.heap.size (rI G β ρ) w e' k ∧ (k.owned = true → ∃ b' k', bMap G β b = some b' ∧ h.get b' = some k' ∧ ρ b' = some e' ∧ k'.owned = true) := by
    intro b k e' h1 h2
    have hmem := hOf_mem h1
    have hc := List.all_eq_true.1 hcb _ hmem
    simp only at hc
    cases hb : bMap G β b with
    | none => rw [hb] at hc; cases hc
    | some b' =>
      rw [hb] at hc
      have h2 : ρ b' = some e' := by unfold rI at h2; rw [hb] at h2; exact h2
      cases hk : h.get b' with
      | none =>
        simp only [hk] at hc
        cases k with
        | dead => exact ⟨trivial, fun hh => by cases hh⟩
        | cells _ _ => cases hc
        | map _ => cases hc
      | some k' =>
        simp only [hk] at hc
        have hb0 := sblk b' k' e' hk h2
        obtain ⟨r1, r2⟩ := mBlk_ok (ρ := ρ) hv hc hb0
        exact ⟨r1, fun ho => ⟨b', k', rfl, hk, h2, r2 ho⟩⟩
  refine ⟨⟨rI G β ρ, ⟨?_, ?_, ⟨?_, ?_, ?_, ssz⟩⟩, ?_⟩, hfr, hdf⟩
  · intro g hg
    obtain ⟨e', h1, h2⟩ := spins g hg
    refine ⟨e', ?_, h2⟩
    unfold rI bMap
    have : Nat.ble g G = true := Nat.ble_eq_true_of_le (by omega)
    rw [this]
    exact h1
  · refine ⟨senv1, fun t v ht => ?_⟩
    obtain ⟨q, hq, rfl, rfl⟩ := envS_mem ht
    have hc := List.all_eq_true.1 hce _ hq
    have hg := hE q.1 q.2.1
    cases hx : FEnv.get q.1 q.2.1 fe with
    | no => rw [hx] at hc; cases hc
    | is v =>
      rw [hx] at hc hg
      obtain ⟨v', k1, k2⟩ := senv2 _ v hg
      exact ⟨v', k1, m2_ok hv hc k2⟩
  · intro b k e' h1 h2
    exact (blk b k e' h1 h2).1
  · intro b e' hb
    unfold rI at hb
    rw [Option.bind_eq_some_iff] at hb
    obtain ⟨b', hb1, _⟩ := hb
    show b < p.nx
    unfold bMap at hb1
    cases hble : Nat.ble b G with
    | true => have := nble hble; have := nblt' hgx; omega
    | false =>
      rw [hble] at hb1
      exact nblt' (hn1 _ (bLook_mem hb1)).2
  · rintro b b' e1 e2 ⟨k1, g1, o1⟩ ⟨k2, g2, o2⟩ r1 r2 heq
    obtain ⟨c1, q1, m1', hh1, hr1, ow1⟩ := (blk b k1 e1 g1 r1).2 o1
    obtain ⟨c2, q2, m2', hh2, hr2, ow2⟩ := (blk b' k2 e2 g2 r2).2 o2
    have hc : c1 = c2 := sinj c1 c2 e1 e2 ⟨q1, hh1, ow1⟩ ⟨q2, hh2, ow2⟩ hr1 hr2 heq
    subst hc
    exact bMap_inj hn' m1' m2'
  · intro x hx
    have := isB_ok (hn3 _ (hip x hx))
    unfold rI
    rw [this]
    exact hρ x hx
end Go.Ev
