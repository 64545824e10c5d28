import Derived.Test.YtolngjaihlggnaaGreatDoorEvCode
import Derived.Orders
/-! Regions that draw their order, part A: what an operation's result hangs on. -/
namespace Go.Ev
set_option linter.unusedVariables false
set_option linter.unusedSimpArgs false
set_option linter.unusedSectionVars false
variable [Sig]

section
variable {e e2 : Env}

theorem X.ev_congr {x : X} (h : ∀ t ∈ x.tmps, e.get t = e2.get t) : x.ev e = x.ev e2 := by
  cases x with
  | t i => exact h i (by simp [X.tmps])
  | c v => rfl
theorem evs_congr : ∀ (l : List X), (∀ t ∈ l.flatMap X.tmps, e.get t = e2.get t) → evs e l = evs e2 l := by
  intro l
  induction l with
  | nil => intro _; rfl
  | cons x l ih =>
    intro h
    simp only [evs]
    rw [X.ev_congr (x := x) fun t ht => h t (by simp only [List.flatMap_cons, List.mem_append]; exact .inl ht), ih fun t ht => h t (by simp only [List.flatMap_cons, List.mem_append]; exact .inr ht)]
theorem evo_congr {x : Option X} (h : ∀ t ∈ oTmps x, e.get t = e2.get t) : evo e x = evo e2 x := by
  cases x with
  | none => rfl
  | some x => simp only [evo]; rw [X.ev_congr (x := x) h]
theorem evps_congr : ∀ (l : List (Nat × Nat × X)), (∀ t ∈ l.flatMap (fun p => p.2.2.tmps), e.get t = e2.get t) → evps e l = evps e2 l := by
  intro l
  induction l with
  | nil => intro _; rfl
  | cons x l ih =>
    intro h
    obtain ⟨o, s, x⟩ := x
    simp only [evps]
    rw [X.ev_congr (x := x) fun t ht => h t (by simp only [List.flatMap_cons, List.mem_append]; exact .inl ht), ih fun t ht => h t (by simp only [List.flatMap_cons, List.mem_append]; exact .inr ht)]


theorem evOp_congr (cx : Cx) (h : H) {o : RO} (hc : ∀ t ∈ o.tmps, e.get t = e2.get t) : evOp cx e h o = evOp cx e2 h o := by
  cases o with
  | mv a0 =>
    have h1 := X.ev_congr (x := a0) fun t ht => hc t (by simp only [RO.tmps, List.mem_append]; simp [ht])
    simp only [evOp, h1]
  | cvs a0 =>
    have h1 := X.ev_congr (x := a0) fun t ht => hc t (by simp only [RO.tmps, List.mem_append]; simp [ht])
    simp only [evOp, h1]
  | box a0 a1 =>
    have h1 := X.ev_congr (x := a1) fun t ht => hc t (by simp only [RO.tmps, List.mem_append]; simp [ht])
    simp only [evOp, h1]
  | ld1 a0 =>
    have h1 := X.ev_congr (x := a0) fun t ht => hc t (by simp only [RO.tmps, List.mem_append]; simp [ht])
    simp only [evOp, h1]
  | ldA a0 a1 =>
    have h1 := X.ev_congr (x := a1) fun t ht => hc t (by simp only [RO.tmps, List.mem_append]; simp [ht])
    simp only [evOp, h1]
  | nilck a0 =>
    have h1 := X.ev_congr (x := a0) fun t ht => hc t (by simp only [RO.tmps, List.mem_append]; simp [ht])
    simp only [evOp, h1]
  | un a0 a1 =>
    have h1 := X.ev_congr (x := a1) fun t ht => hc t (by simp only [RO.tmps, List.mem_append]; simp [ht])
    simp only [evOp, h1]
  | cvi a0 a1 =>
    have h1 := X.ev_congr (x := a1) fun t ht => hc t (by simp only [RO.tmps, List.mem_append]; simp [ht])
    simp only [evOp, h1]
  | mkifc a0 a1 =>
    have h1 := X.ev_congr (x := a1) fun t ht => hc t (by simp only [RO.tmps, List.mem_append]; simp [ht])
    simp only [evOp, h1]
  | fadd a0 a1 =>
    have h1 := X.ev_congr (x := a1) fun t ht => hc t (by simp only [RO.tmps, List.mem_append]; simp [ht])
    simp only [evOp, h1]
  | fld1 a0 a1 =>
    have h1 := X.ev_congr (x := a1) fun t ht => hc t (by simp only [RO.tmps, List.mem_append]; simp [ht])
    simp only [evOp, h1]
  | fldA a0 a1 a2 =>
    have h1 := X.ev_congr (x := a2) fun t ht => hc t (by simp only [RO.tmps, List.mem_append]; simp [ht])
    simp only [evOp, h1]
  | ex a0 a1 =>
    have h1 := X.ev_congr (x := a1) fun t ht => hc t (by simp only [RO.tmps, List.mem_append]; simp [ht])
    simp only [evOp, h1]
  | lenS a0 =>
    have h1 := X.ev_congr (x := a0) fun t ht => hc t (by simp only [RO.tmps, List.mem_append]; simp [ht])
    simp only [evOp, h1]
  | lenL a0 =>
    have h1 := X.ev_congr (x := a0) fun t ht => hc t (by simp only [RO.tmps, List.mem_append]; simp [ht])
    simp only [evOp, h1]
  | lenM a0 =>
    have h1 := X.ev_congr (x := a0) fun t ht => hc t (by simp only [RO.tmps, List.mem_append]; simp [ht])
    simp only [evOp, h1]
  | cap a0 =>
    have h1 := X.ev_congr (x := a0) fun t ht => hc t (by simp only [RO.tmps, List.mem_append]; simp [ht])
    simp only [evOp, h1]
  | clr a0 a1 =>
    have h1 := X.ev_congr (x := a1) fun t ht => hc t (by simp only [RO.tmps, List.mem_append]; simp [ht])
    simp only [evOp, h1]
  | asI a0 a1 a2 a3 =>
    have h1 := X.ev_congr (x := a3) fun t ht => hc t (by simp only [RO.tmps, List.mem_append]; simp [ht])
    simp only [evOp, h1]
  | asC a0 a1 a2 a3 =>
    have h1 := X.ev_congr (x := a3) fun t ht => hc t (by simp only [RO.tmps, List.mem_append]; simp [ht])
    simp only [evOp, h1]
  | pick a0 a1 a2 =>
    have h1 := X.ev_congr (x := a0) fun t ht => hc t (by simp only [RO.tmps, List.mem_append]; simp [ht])
    have h2 := X.ev_congr (x := a1) fun t ht => hc t (by simp only [RO.tmps, List.mem_append]; simp [ht])
    have h3 := X.ev_congr (x := a2) fun t ht => hc t (by simp only [RO.tmps, List.mem_append]; simp [ht])
    simp only [evOp, h1]
    cases a0.ev e2 with
    | none => rfl
    | some c =>
      cases c with
      | bool b => cases b <;> simp only [Option.bind_some, cond_true, cond_false, h2, h3]
      | _ => rfl
  | new a0 => rfl
  | mkmap => rfl
  | lenA a0 => rfl
  | bad => rfl
  | build a0 a1 =>
    have h1 := evps_congr a1 fun t ht => hc t (by simp only [RO.tmps, List.mem_append]; simp [ht])
    simp only [evOp, h1]
  | bsl a0 a1 a2 a3 =>
    have h1 := evps_congr a3 fun t ht => hc t (by simp only [RO.tmps, List.mem_append]; simp [ht])
    simp only [evOp, h1]
  | st a0 a1 a2 =>
    have h1 := X.ev_congr (x := a1) fun t ht => hc t (by simp only [RO.tmps, List.mem_append]; simp [ht])
    have h2 := X.ev_congr (x := a2) fun t ht => hc t (by simp only [RO.tmps, List.mem_append]; simp [ht])
    simp only [evOp, h1, h2]
  | bin a0 a1 a2 =>
    have h1 := X.ev_congr (x := a1) fun t ht => hc t (by simp only [RO.tmps, List.mem_append]; simp [ht])
    have h2 := X.ev_congr (x := a2) fun t ht => hc t (by simp only [RO.tmps, List.mem_append]; simp [ht])
    simp only [evOp, h1, h2]
  | eq a0 a1 a2 a3 =>
    have h1 := X.ev_congr (x := a2) fun t ht => hc t (by simp only [RO.tmps, List.mem_append]; simp [ht])
    have h2 := X.ev_congr (x := a3) fun t ht => hc t (by simp only [RO.tmps, List.mem_append]; simp [ht])
    simp only [evOp, h1, h2]
  | ixaA a0 a1 a2 a3 =>
    have h1 := X.ev_congr (x := a2) fun t ht => hc t (by simp only [RO.tmps, List.mem_append]; simp [ht])
    have h2 := X.ev_congr (x := a3) fun t ht => hc t (by simp only [RO.tmps, List.mem_append]; simp [ht])
    simp only [evOp, h1, h2]
  | ixaS a0 a1 a2 =>
    have h1 := X.ev_congr (x := a1) fun t ht => hc t (by simp only [RO.tmps, List.mem_append]; simp [ht])
    have h2 := X.ev_congr (x := a2) fun t ht => hc t (by simp only [RO.tmps, List.mem_append]; simp [ht])
    simp only [evOp, h1, h2]
  | ixA1 a0 a1 a2 =>
    have h1 := X.ev_congr (x := a1) fun t ht => hc t (by simp only [RO.tmps, List.mem_append]; simp [ht])
    have h2 := X.ev_congr (x := a2) fun t ht => hc t (by simp only [RO.tmps, List.mem_append]; simp [ht])
    simp only [evOp, h1, h2]
  | ixAA a0 a1 a2 a3 =>
    have h1 := X.ev_congr (x := a2) fun t ht => hc t (by simp only [RO.tmps, List.mem_append]; simp [ht])
    have h2 := X.ev_congr (x := a3) fun t ht => hc t (by simp only [RO.tmps, List.mem_append]; simp [ht])
    simp only [evOp, h1, h2]
  | ixS a0 a1 =>
    have h1 := X.ev_congr (x := a0) fun t ht => hc t (by simp only [RO.tmps, List.mem_append]; simp [ht])
    have h2 := X.ev_congr (x := a1) fun t ht => hc t (by simp only [RO.tmps, List.mem_append]; simp [ht])
    simp only [evOp, h1, h2]
  | look a0 a1 a2 a3 a4 a5 =>
    have h1 := X.ev_congr (x := a4) fun t ht => hc t (by simp only [RO.tmps, List.mem_append]; simp [ht])
    have h2 := X.ev_congr (x := a5) fun t ht => hc t (by simp only [RO.tmps, List.mem_append]; simp [ht])
    simp only [evOp, h1, h2]
  | app a0 a1 a2 a3 =>
    have h1 := X.ev_congr (x := a2) fun t ht => hc t (by simp only [RO.tmps, List.mem_append]; simp [ht])
    have h2 := X.ev_congr (x := a3) fun t ht => hc t (by simp only [RO.tmps, List.mem_append]; simp [ht])
    simp only [evOp, h1, h2]
  | appZ a0 a1 a2 a3 a4 =>
    have h1 := X.ev_congr (x := a3) fun t ht => hc t (by simp only [RO.tmps, List.mem_append]; simp [ht])
    have h2 := X.ev_congr (x := a4) fun t ht => hc t (by simp only [RO.tmps, List.mem_append]; simp [ht])
    simp only [evOp, h1, h2]
  | copy a0 a1 a2 =>
    have h1 := X.ev_congr (x := a1) fun t ht => hc t (by simp only [RO.tmps, List.mem_append]; simp [ht])
    have h2 := X.ev_congr (x := a2) fun t ht => hc t (by simp only [RO.tmps, List.mem_append]; simp [ht])
    simp only [evOp, h1, h2]
  | mksl a0 a1 a2 a3 a4 =>
    have h1 := X.ev_congr (x := a3) fun t ht => hc t (by simp only [RO.tmps, List.mem_append]; simp [ht])
    have h2 := X.ev_congr (x := a4) fun t ht => hc t (by simp only [RO.tmps, List.mem_append]; simp [ht])
    simp only [evOp, h1, h2]
  | mkfn a0 a1 a2 =>
    have h1 := evs_congr a1 fun t ht => hc t (by simp only [RO.tmps, List.mem_append]; simp [ht])
    have h2 := evs_congr a2 fun t ht => hc t (by simp only [RO.tmps, List.mem_append]; simp [ht])
    simp only [evOp, h1, h2]
  | slStr a0 a1 a2 =>
    have h1 := X.ev_congr (x := a0) fun t ht => hc t (by simp only [RO.tmps, List.mem_append]; simp [ht])
    have h2 := evo_congr (x := a1) fun t ht => hc t (by simp only [RO.tmps, List.mem_append]; simp [ht])
    have h3 := evo_congr (x := a2) fun t ht => hc t (by simp only [RO.tmps, List.mem_append]; simp [ht])
    simp only [evOp, h1, h2, h3]
  | slSlc a0 a1 a2 a3 a4 =>
    have h1 := X.ev_congr (x := a1) fun t ht => hc t (by simp only [RO.tmps, List.mem_append]; simp [ht])
    have h2 := evo_congr (x := a2) fun t ht => hc t (by simp only [RO.tmps, List.mem_append]; simp [ht])
    have h3 := evo_congr (x := a3) fun t ht => hc t (by simp only [RO.tmps, List.mem_append]; simp [ht])
    have h4 := evo_congr (x := a4) fun t ht => hc t (by simp only [RO.tmps, List.mem_append]; simp [ht])
    simp only [evOp, h1, h2, h3, h4]
  | slArr a0 a1 a2 a3 a4 a5 =>
    have h1 := X.ev_congr (x := a2) fun t ht => hc t (by simp only [RO.tmps, List.mem_append]; simp [ht])
    have h2 := evo_congr (x := a3) fun t ht => hc t (by simp only [RO.tmps, List.mem_append]; simp [ht])
    have h3 := evo_congr (x := a4) fun t ht => hc t (by simp only [RO.tmps, List.mem_append]; simp [ht])
    have h4 := evo_congr (x := a5) fun t ht => hc t (by simp only [RO.tmps, List.mem_append]; simp [ht])
    simp only [evOp, h1, h2, h3, h4]
  | mput a0 a1 a2 a3 a4 =>
    have h1 := X.ev_congr (x := a2) fun t ht => hc t (by simp only [RO.tmps, List.mem_append]; simp [ht])
    have h2 := X.ev_congr (x := a3) fun t ht => hc t (by simp only [RO.tmps, List.mem_append]; simp [ht])
    have h3 := X.ev_congr (x := a4) fun t ht => hc t (by simp only [RO.tmps, List.mem_append]; simp [ht])
    simp only [evOp, h1, h2, h3]
  | call a0 a1 =>
    have h1 := evs_congr a1 fun t ht => hc t (by simp only [RO.tmps, List.mem_append]; simp [ht])
    simp only [evOp, h1]
  | mxx a0 =>
    have h1 := evs_congr a0 fun t ht => hc t (by simp only [RO.tmps, List.mem_append]; simp [ht])
    simp only [evOp, h1]
  | mnn a0 =>
    have h1 := evs_congr a0 fun t ht => hc t (by simp only [RO.tmps, List.mem_append]; simp [ht])
    simp only [evOp, h1]
  | callv a0 a1 =>
    have h1 := X.ev_congr (x := a0) fun t ht => hc t (by simp only [RO.tmps, List.mem_append]; simp [ht])
    have h2 := evs_congr a1 fun t ht => hc t (by simp only [RO.tmps, List.mem_append]; simp [ht])
    simp only [evOp, h1, h2]
  | inv a0 a1 a2 =>
    have h1 := X.ev_congr (x := a1) fun t ht => hc t (by simp only [RO.tmps, List.mem_append]; simp [ht])
    have h2 := evs_congr a2 fun t ht => hc t (by simp only [RO.tmps, List.mem_append]; simp [ht])
    simp only [evOp, h1, h2]

theorem guardOk_congr {g : Option (Nat × Bool)} (hc : ∀ t ∈ (match g with | none => [] | some (j, _) => [j] : List Nat), e.get t = e2.get t) : guardOk e g = guardOk e2 g := by
  cases g with
  | none => rfl
  | some p =>
    obtain ⟨j, w⟩ := p
    simp only [guardOk]
    rw [hc j (by simp)]


def Res.isVal : Res → Bool
  | .val _ => true
  | _ => false
def Res.isNew : Res → Bool
  | .new _ _ => true
  | _ => false

end
end Go.Ev
