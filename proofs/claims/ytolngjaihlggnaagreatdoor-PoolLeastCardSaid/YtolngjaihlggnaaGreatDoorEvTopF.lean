import Derived.Test.YtolngjaihlggnaaGreatDoorEvTop
import Derived.Test.YtolngjaihlggnaaGreatDoorEvFastC
/-! At the top, by the fast evaluator; tables of answers. -/
namespace Go.Ev
set_option linter.unusedVariables false
set_option linter.unusedSimpArgs false
set_option linter.unusedSectionVars false

/-- The run came to 'true'. -/
noncomputable def isTF : CR → Bool := fun r => CR.rec (motive := fun _ => Bool) false (fun v _ => match v with | .bool b => b | _ => false) r
theorem isTF_ok {r : CR} (h : isTF r = true) : ∃ h', r = .ok (.bool true) h' := by
  cases r with
  | no => cases h
  | ok v h' =>
    cases v with
    | bool b =>
      have : b = true := h
      subst this
      exact ⟨h', rfl⟩
    | _ => cases h

theorem isTF_evCall [inst : Tab] {c : FCx} {fuel n f : Nat} {az : List V} {h : H} (hr : isTF (fCall inst c fuel n f az h) = true) : ∃ h', evCall c.toCx fuel n f az h = some (.bool true, h') := by
  obtain ⟨h', hk⟩ := isTF_ok hr
  exact ⟨h', fCall_ok c fuel n f az h _ _ hk⟩

/-! ### Answers that are known -/
structure Ans where
  op : BinOp
  a : V
  b : V
  r : V

noncomputable def opIx : BinOp → Nat := fun op => BinOp.rec (motive := fun _ => Nat) (nat_lit 0) (nat_lit 1) (nat_lit 2) (nat_lit 3) (nat_lit 4) (nat_lit 5) (nat_lit 6) (nat_lit 7) (nat_lit 8) (nat_lit 9) (nat_lit 10) (nat_lit 11) (nat_lit 12) (nat_lit 13) (nat_lit 14) (nat_lit 15) (nat_lit 16) op
theorem opIx_inj {a b : BinOp} (h : Nat.beq (opIx a) (opIx b) = true) : a = b := by
  cases a <;> cases b <;> first | rfl | cases h

/-- Compare two numbers' names. -/
noncomputable def V.same : V → V → Bool
  | .int k n, .int j m => kEq k j && iEq n m
  | .sym k i, .sym j m => kEq k j && Nat.beq i m
  | _, _ => false
theorem V.same_ok {a b : V} (h : V.same a b = true) : a = b := by
  cases a <;> cases b <;> simp only [V.same, Bool.and_eq_true, kEq_iff, iEq_eq, decide_eq_true_eq, Bool.false_eq_true] at h
  · rw [h.1, h.2]
  · rw [h.1, nbeq h.2]

noncomputable def lookA (op : BinOp) (a b : V) : List Ans → Option V := fun l => List.rec (motive := fun _ => Option V) none
  (fun x _ ih => Bool.rec (motive := fun _ => Option V) ih (Bool.rec (motive := fun _ => Option V) ih (Bool.rec (motive := fun _ => Option V) ih (some x.r) (V.same b x.b)) (V.same a x.a)) (Nat.beq (opIx op) (opIx x.op))) l
noncomputable def lookC (k : IntKind) (a : V) : List (IntKind × V × V) → Option V := fun l => List.rec (motive := fun _ => Option V) none
  (fun x _ ih => Bool.rec (motive := fun _ => Option V) ih (Bool.rec (motive := fun _ => Option V) ih (some x.2.2) (V.same a x.2.1)) (kEq k x.1)) l
def boolOf : Option V → Option Bool
  | some (.bool b) => some b
  | _ => none

/-- An answer is right of some numbers. -/
def AnsOk (val : Nat → Int) (x : Ans) : Prop := evBin0 x.op (x.a.conc val) (x.b.conc val) = some (x.r.conc val)
def CvOk (val : Nat → Int) (x : IntKind × V × V) : Prop := ∃ j n, x.2.1.conc val = .int j n ∧ x.2.2.conc val = .int x.1 (wr x.1 n)

theorem lookA_ok {val : Nat → Int} {op : BinOp} {a b v : V} : ∀ {l : List Ans}, (∀ x ∈ l, AnsOk val x) → lookA op a b l = some v → evBin0 op (a.conc val) (b.conc val) = some (v.conc val)
  | [], _, h => by cases h
  | x :: l, hl, h => by
    have h : (Bool.rec (motive := fun _ => Option V) (lookA op a b l) (Bool.rec (motive := fun _ => Option V) (lookA op a b l) (Bool.rec (motive := fun _ => Option V) (lookA op a b l) (some x.r) (V.same b x.b)) (V.same a x.a)) (Nat.beq (opIx op) (opIx x.op)) : Option V) = some v := h
    have rest : lookA op a b l = some v → evBin0 op (a.conc val) (b.conc val) = some (v.conc val) := fun hh => lookA_ok (l := l) (fun y hy => hl y (List.mem_cons_of_mem _ hy)) hh
    cases h1 : Nat.beq (opIx op) (opIx x.op) with
    | false => rw [h1] at h; exact rest h
    | true =>
      rw [h1] at h
      cases h2 : V.same a x.a with
      | false => rw [h2] at h; exact rest h
      | true =>
        rw [h2] at h
        cases h3 : V.same b x.b with
        | false => rw [h3] at h; exact rest h
        | true =>
          rw [h3] at h
          have h : some x.r = some v := h
          cases h
          rw [opIx_inj h1, V.same_ok h2, V.same_ok h3]
          exact hl x List.mem_cons_self
theorem lookC_ok {val : Nat → Int} {k : IntKind} {a v : V} : ∀ {l : List (IntKind × V × V)}, (∀ x ∈ l, CvOk val x) → lookC k a l = some v → ∃ j n, a.conc val = .int j n ∧ v.conc val = .int k (wr k n)
  | [], _, h => by cases h
  | x :: l, hl, h => by
    have h : (Bool.rec (motive := fun _ => Option V) (lookC k a l) (Bool.rec (motive := fun _ => Option V) (lookC k a l) (some x.2.2) (V.same a x.2.1)) (kEq k x.1) : Option V) = some v := h
    have rest : lookC k a l = some v → ∃ j n, a.conc val = .int j n ∧ v.conc val = .int k (wr k n) := fun hh => lookC_ok (l := l) (fun y hy => hl y (List.mem_cons_of_mem _ hy)) hh
    cases h1 : kEq k x.1 with
    | false => rw [h1] at h; exact rest h
    | true =>
      rw [h1] at h
      cases h2 : V.same a x.2.1 with
      | false => rw [h2] at h; exact rest h
      | true =>
        rw [h2] at h
        have h : some x.2.2 = some v := h
        cases h
        rw [kEq_iff, decide_eq_true_eq] at h1
        rw [h1, V.same_ok h2]
        exact hl x List.mem_cons_self

def V.isNm : V → Bool
  | .int _ _ | .sym _ _ => true
  | _ => false

@[reducible] noncomputable def tabK (l : List Ans) (c : List (IntKind × V × V)) : Tab :=
  ⟨fun op a b => lookA op a b l, fun k a => lookC k a c, fun a b => bif V.isNm a then boolOf (lookA .eql a b l) else none⟩

theorem conc_num {val : Nat → Int} {a : V} (h : V.isNm a = true) : ∃ k n, a.conc val = .int k n := by
  cases a <;> first | exact ⟨_, _, rfl⟩ | cases h

/-- The table's numbers, told. -/
@[reducible] noncomputable def sigK (val : Nat → Int) (l : List Ans) (c : List (IntKind × V × V)) (hl : ∀ x ∈ l, AnsOk val x) (hc : ∀ x ∈ c, CvOk val x) : Sig where
  toTab := tabK l c
  val := val
  bin_ok := fun op a b v hv => lookA_ok hl hv
  cvi_ok := fun k a v hv => lookC_ok hc hv
  eqi_ok := fun a b q hv => by
    have hv : (bif V.isNm a then boolOf (lookA .eql a b l) else none) = some q := hv
    cases ha : V.isNm a with
    | false => rw [ha] at hv; cases hv
    | true =>
      rw [ha] at hv
      simp only [cond_true] at hv
      unfold boolOf at hv
      split at hv
      · rename_i t ht
        cases hv
        have h1 := lookA_ok hl ht
        obtain ⟨k, m, hm⟩ := conc_num (val := val) ha
        rw [hm] at h1 ⊢
        cases hb : b.conc val with
        | int j n =>
          rw [hb] at h1
          simp only [evBin0] at h1
          split at h1
          · rename_i hk
            subst hk
            simp only [V.conc, Option.some.injEq, V.bool.injEq] at h1
            exact ⟨k, m, n, rfl, rfl, h1.symm⟩
          · cases h1
        | _ => rw [hb] at h1; simp [evBin0] at h1
      · cases hv
end Go.Ev
