import Derived.Test.YtolngjaihlggnaaGreatDoorEvFastB
/-! The fast evaluator says what the evaluator says: regions, code, calls. -/
namespace Go.Ev
set_option linter.unusedVariables false
set_option linter.unusedSimpArgs false
set_option linter.unusedSectionVars false

def FOp.toROp : FOp → ROp
  | .op d o => ⟨d.toD, none, o.toRO⟩
  | .gop h n _ _ w d o => ⟨d.toD, some (tnat h n, w), o.toRO⟩

def T.map {α β : Type} (f : α → β) : T α → T β
  | .nil => .nil
  | .node v l r => .node (v.map f) (l.map f) (r.map f)
theorem T.get_map {α β : Type} (f : α → β) : ∀ (t : T α) (i : Nat), (t.map f).get i = (t.get i).map f
  | .nil, i => by simp [T.map, T.get]
  | .node v l r, i => by
    simp only [T.map, T.get, T.get_map f l, T.get_map f r]
    cases Nat.beq i 0 <;> cases Nat.beq (i % 2) 1 <;> rfl

section
variable [inst : Tab] {cx : Cx} {fc : FCall} {call : CallF}

def CRel (fc : FCall) (call : CallF) : Prop := ∀ f az h v h', fc f az h = .ok v h' → call f az h = some (v, h')

def GoodOut (cx : Cx) (call : CallF) (l : List ROp) (e : Env) (h : H) : FOut → Prop
  | .no => True
  | .ok fe' h' => ∃ e', evOps cx call l e h = some (e', h') ∧ ERel fe' e'

theorem v_guard (v : V) (w : Bool) (r s : FOut) : guardF (.is v) w r s = (match v with | .bool b => if b = w then r else s | .top => .no | _ => s) := by
  cases v <;> first | rfl | skip
  rename_i b
  cases b <;> cases w <;> rfl

theorem opKF_ok (hc : CRel fc call) {fe : FEnv} {e : Env} {h : H} (hE : ERel fe e) (d : FD) (o : FO) (l : List ROp) (g : Option (Nat × Bool)) (hg : guardOk e g = some true) (ih : FEnv → H → FOut)
    (hih : ∀ fe e h, ERel fe e → GoodOut cx call l e h (ih fe h)) : GoodOut cx call (⟨d.toD, g, o.toRO⟩ :: l) e h (opKF fc d ih fe h (FO.run o inst cx.ts fe h)) := by
  have hr := run_ok (inst := inst) (cx := cx) (h := h) hE o
  have go : ∀ (x : FOut) (e1 : Env) (h1 : H), GoodOut cx call l e1 h1 x → (∀ e' h', evOps cx call l e1 h1 = some (e', h') → evOps cx call (⟨d.toD, g, o.toRO⟩ :: l) e h = some (e', h')) → GoodOut cx call (⟨d.toD, g, o.toRO⟩ :: l) e h x := by
    intro x e1 h1 hx hh
    cases x with
    | no => trivial
    | ok fe' h' => obtain ⟨e', k1, k2⟩ := hx; exact ⟨e', hh _ _ k1, k2⟩
  cases hq : FO.run o inst cx.ts fe h with
  | no => trivial
  | val v =>
    rw [hq] at hr
    refine go _ _ _ (hih _ _ h (put_ok hE d v)) fun e' h' hh => ?_
    simp only [evOps, hg, ← hr, FRes.toO]
    exact hh
  | new b f =>
    rw [hq] at hr
    refine go _ _ _ (hih _ _ _ (put_ok hE d (f h.nx))) fun e' h' hh => ?_
    simp only [evOps, hg, ← hr, FRes.toO]
    rw [tbSet_ok] at hh
    exact hh
  | upd v h1 =>
    rw [hq] at hr
    refine go _ _ _ (hih _ _ h1 (put_ok hE d v)) fun e' h' hh => ?_
    simp only [evOps, hg, ← hr, FRes.toO]
    exact hh
  | call f az =>
    rw [hq] at hr
    show GoodOut cx call (⟨d.toD, g, o.toRO⟩ :: l) e h (CR.rec (motive := fun _ => FOut) .no (fun v h' => ih (FD.put d v fe) h') (fc f az h))
    cases hcall : fc f az h with
    | no => trivial
    | ok v h1 =>
      have hcc := hc _ _ _ _ _ hcall
      refine go _ _ _ (hih _ _ h1 (put_ok hE d v)) fun e' h' hh => ?_
      simp only [evOps, hg, ← hr, FRes.toO, hcc]
      exact hh

theorem ops_ok (hc : CRel fc call) : ∀ (l : List FOp) (fe : FEnv) (e : Env) (h : H), ERel fe e → GoodOut cx call (l.map FOp.toROp) e h (fOps inst cx.ts fc l fe h) := by
  intro l
  induction l with
  | nil => intro fe e h hE; exact ⟨e, rfl, hE⟩
  | cons o l ih =>
    intro fe e h hE
    cases o with
    | op d o => exact opKF_ok hc hE d o _ none rfl _ fun fe e h hE => ih fe e h hE
    | gop hh nn g ok w d o =>
      show GoodOut cx call (⟨d.toD, some (tnat hh nn, w), o.toRO⟩ :: l.map FOp.toROp) e h (guardF (g fe) w (opKF fc d (fOps inst cx.ts fc l) fe h (FO.run o inst cx.ts fe h)) (fOps inst cx.ts fc l (FD.put d unit fe) h))
      have hg : e.get (tnat hh nn) = (g fe).toO := (hE hh nn).trans (congrArg OV.toO (ok fe).symm)
      have skip : guardOk e (some (tnat hh nn, w)) = some false → GoodOut cx call (⟨d.toD, some (tnat hh nn, w), o.toRO⟩ :: l.map FOp.toROp) e h (fOps inst cx.ts fc l (FD.put d unit fe) h) := by
        intro hk
        have := ih _ _ h (put_ok hE d unit)
        cases hx : fOps inst cx.ts fc l (FD.put d unit fe) h with
        | no => trivial
        | ok fe' h' =>
          rw [hx] at this
          obtain ⟨e', k1, k2⟩ := this
          refine ⟨e', ?_, k2⟩
          simp only [evOps, hk]
          exact k1
      cases hv : g fe with
      | no => trivial
      | is v =>
        rw [hv] at hg
        rw [v_guard]
        cases v with
        | bool b =>
          simp only
          by_cases hbw : b = w
          · rw [if_pos hbw]
            exact opKF_ok hc hE d o _ _ (by simp [guardOk, hg, OV.toO, hbw]) _ fun fe e h hE => ih fe e h hE
          · rw [if_neg hbw]
            exact skip (by simp [guardOk, hg, OV.toO, hbw])
        | top => trivial
        | _ => exact skip (by simp [guardOk, hg, OV.toO])

/-! Regions that draw their order. -/
def RRel (a : FRec) (b : Rec) : Prop := ERel a.e b.e ∧ a.hb = b.hb ∧ a.ha = b.ha ∧ a.v = b.v
def LR (l : List FRec) (l' : List Rec) : Prop := ∃ ps : List (FRec × Rec), l = ps.map (·.1) ∧ l' = ps.map (·.2) ∧ ∀ p ∈ ps, RRel p.1 p.2
theorem LR.nil : LR [] [] := ⟨[], rfl, rfl, fun p hp => by cases hp⟩
theorem LR.cons {a : FRec} {b : Rec} {l : List FRec} {l' : List Rec} (h : RRel a b) (hl : LR l l') : LR (a :: l) (b :: l') := by
  obtain ⟨ps, rfl, rfl, h3⟩ := hl
  refine ⟨(a, b) :: ps, rfl, rfl, fun p hp => ?_⟩
  rcases List.mem_cons.1 hp with rfl | hp
  · exact h
  · exact h3 p hp
theorem LR.rev {l : List FRec} {l' : List Rec} (hl : LR l l') : LR l.reverse l'.reverse := by
  obtain ⟨ps, rfl, rfl, h3⟩ := hl
  exact ⟨ps.reverse, by simp, by simp, fun p hp => h3 p (List.mem_reverse.1 hp)⟩
theorem LR.get {l : List FRec} {l' : List Rec} (hl : LR l l') {i : Nat} {a : FRec} (ha : l[i]? = some a) : ∃ b, l'[i]? = some b ∧ RRel a b := by
  obtain ⟨ps, rfl, rfl, h3⟩ := hl
  rw [List.getElem?_map, Option.map_eq_some_iff] at ha
  obtain ⟨p, h1, rfl⟩ := ha
  exact ⟨p.2, by rw [List.getElem?_map, h1]; rfl, h3 p (List.mem_of_getElem? h1)⟩

def GoodD (cx : Cx) (call : CallF) (base : Nat) (l : List ROp) (i : Nat) (e : Env) (h : H) (rs : List Rec) : FDO → Prop
  | .no => True
  | .ok fe' h' frs => ∃ e' rs', evDrw cx call base l i e h rs = some (e', h', rs') ∧ ERel fe' e' ∧ LR frs rs'

theorem v_guardD (v : V) (w : Bool) (r s : FDO) : guardD (.is v) w r s = (match v with | .bool b => if b = w then r else s | .top => .no | _ => s) := by
  cases v <;> first | rfl | skip
  rename_i b
  cases b <;> cases w <;> rfl

theorem bD_ite (b : Bool) (t f : FDO) : bD b t f = if b = true then t else f := by cases b <;> rfl

theorem opD_ok (hc : CRel fc call) {base : Nat} {fe : FEnv} {e : Env} {h : H} {frs : List FRec} {rs : List Rec} (hE : ERel fe e) (hl : LR frs rs) (d : FD) (o : FO) (l : List ROp) (i : Nat) (g : Option (Nat × Bool)) (hg : guardOk e g = some true) (ih : FEnv → H → List FRec → FDO)
    (hih : ∀ fe e h frs rs, ERel fe e → LR frs rs → GoodD cx call base l (i + 1) e h rs (ih fe h frs)) : GoodD cx call base (⟨d.toD, g, o.toRO⟩ :: l) i e h rs (opD fc d o (Nat.add base i) ih fe h frs (FO.run o inst cx.ts fe h)) := by
  have hr := run_ok (inst := inst) (cx := cx) (h := h) hE o
  have hcls := cls_ok o
  have go : ∀ (x : FDO) (e1 : Env) (h1 : H) (rs1 : List Rec), GoodD cx call base l (i + 1) e1 h1 rs1 x → (∀ q, evDrw cx call base l (i + 1) e1 h1 rs1 = some q → evDrw cx call base (⟨d.toD, g, o.toRO⟩ :: l) i e h rs = some q) → GoodD cx call base (⟨d.toD, g, o.toRO⟩ :: l) i e h rs x := by
    intro x e1 h1 rs1 hx hh
    cases x with
    | no => trivial
    | ok fe' h' frs' => obtain ⟨e', rs', k1, k2, k3⟩ := hx; exact ⟨e', rs', hh _ k1, k2, k3⟩
  cases hq : FO.run o inst cx.ts fe h with
  | no => trivial
  | val v =>
    rw [hq] at hr
    refine go _ _ _ (⟨e, h, h, v⟩ :: rs) (hih _ _ h _ _ (put_ok hE d v) (LR.cons ⟨hE, rfl, rfl, rfl⟩ hl)) fun q hh => ?_
    simp only [evDrw, hg, ← hr, FRes.toO]
    exact hh
  | new b f =>
    rw [hq] at hr
    show GoodD cx call base (⟨d.toD, g, o.toRO⟩ :: l) i e h rs (bD (isN (tbGet h.t (base + i))) (bD (Nat.beq (FO.cls o) 2) (ih (FD.put d (f (base + i)) fe) ⟨tbSet h.t (base + i) b, h.nx⟩ (⟨fe, h, ⟨tbSet h.t (base + i) b, h.nx⟩, f (base + i)⟩ :: frs)) .no) .no)
    rw [bD_ite, bD_ite, hcls, tbGet_ok, tbSet_ok]
    split
    · split
      · rename_i hn h2
        have hn' : h.get (base + i) = none := by
          show h.t.get (base + i) = none
          cases hx : h.t.get (base + i) with
          | none => rfl
          | some q => rw [hx] at hn; cases hn
        refine go _ _ (h.set (base + i) b) (⟨e, h, h.set (base + i) b, f (base + i)⟩ :: rs) (hih _ _ _ _ _ (put_ok hE d _) (LR.cons ⟨hE, rfl, rfl, rfl⟩ hl)) fun q hh => ?_
        simp only [evDrw, hg, ← hr, FRes.toO, hn', h2]
        exact hh
      · trivial
    · trivial
  | upd v h1 =>
    rw [hq] at hr
    show GoodD cx call base (⟨d.toD, g, o.toRO⟩ :: l) i e h rs (bD (Nat.beq (FO.cls o) 3) (ih (FD.put d v fe) h1 (⟨fe, h, h1, v⟩ :: frs)) .no)
    rw [bD_ite, hcls]
    split
    · rename_i h2
      refine go _ _ h1 (⟨e, h, h1, v⟩ :: rs) (hih _ _ _ _ _ (put_ok hE d _) (LR.cons ⟨hE, rfl, rfl, rfl⟩ hl)) fun q hh => ?_
      simp only [evDrw, hg, ← hr, FRes.toO, h2, cond_true]
      exact hh
    · trivial
  | call f az =>
    rw [hq] at hr
    show GoodD cx call base (⟨d.toD, g, o.toRO⟩ :: l) i e h rs (CR.rec (motive := fun _ => FDO) .no (fun v h' => bD (Nat.beq (FO.cls o) 3) (ih (FD.put d v fe) h' (⟨fe, h, h', v⟩ :: frs)) .no) (fc f az h))
    cases hcall : fc f az h with
    | no => trivial
    | ok v h1 =>
      have hcc := hc _ _ _ _ _ hcall
      show GoodD cx call base (⟨d.toD, g, o.toRO⟩ :: l) i e h rs (bD (Nat.beq (FO.cls o) 3) (ih (FD.put d v fe) h1 (⟨fe, h, h1, v⟩ :: frs)) .no)
      rw [bD_ite, hcls]
      split
      · rename_i h2
        refine go _ _ h1 (⟨e, h, h1, v⟩ :: rs) (hih _ _ _ _ _ (put_ok hE d _) (LR.cons ⟨hE, rfl, rfl, rfl⟩ hl)) fun q hh => ?_
        simp only [evDrw, hg, ← hr, FRes.toO, hcc, h2]
        exact hh
      · trivial

theorem drwF_ok (hc : CRel fc call) (base : Nat) : ∀ (l : List FOp) (i : Nat) (fe : FEnv) (e : Env) (h : H) (frs : List FRec) (rs : List Rec), ERel fe e → LR frs rs → GoodD cx call base (l.map FOp.toROp) i e h rs (fDrw inst cx.ts fc base l i fe h frs) := by
  intro l
  induction l with
  | nil => intro i fe e h frs rs hE hl; exact ⟨e, rs.reverse, rfl, hE, hl.rev⟩
  | cons o l ih =>
    intro i fe e h frs rs hE hl
    cases o with
    | op d o => exact opD_ok hc hE hl d o _ i none rfl _ fun fe e h frs rs hE hl => ih (i + 1) fe e h frs rs hE hl
    | gop hh nn g ok w d o =>
      show GoodD cx call base (⟨d.toD, some (tnat hh nn, w), o.toRO⟩ :: l.map FOp.toROp) i e h rs (guardD (g fe) w (opD fc d o (Nat.add base i) (fDrw inst cx.ts fc base l (i + 1)) fe h frs (FO.run o inst cx.ts fe h)) (fDrw inst cx.ts fc base l (i + 1) (FD.put d unit fe) h (⟨fe, h, h, unit⟩ :: frs)))
      have hg : e.get (tnat hh nn) = (g fe).toO := (hE hh nn).trans (congrArg OV.toO (ok fe).symm)
      have skip : guardOk e (some (tnat hh nn, w)) = some false → GoodD cx call base (⟨d.toD, some (tnat hh nn, w), o.toRO⟩ :: l.map FOp.toROp) i e h rs (fDrw inst cx.ts fc base l (i + 1) (FD.put d unit fe) h (⟨fe, h, h, unit⟩ :: frs)) := by
        intro hk
        have := ih (i + 1) _ _ h (⟨fe, h, h, unit⟩ :: frs) (⟨e, h, h, unit⟩ :: rs) (put_ok hE d unit) (LR.cons ⟨hE, rfl, rfl, rfl⟩ hl)
        cases hx : fDrw inst cx.ts fc base l (i + 1) (FD.put d unit fe) h (⟨fe, h, h, unit⟩ :: frs) with
        | no => trivial
        | ok fe' h' frs' =>
          rw [hx] at this
          obtain ⟨e', rs', k1, k2, k3⟩ := this
          refine ⟨e', rs', ?_, k2, k3⟩
          simp only [evDrw, hk]
          exact k1
      cases hv : g fe with
      | no => trivial
      | is v =>
        rw [hv] at hg
        rw [v_guardD]
        cases v with
        | bool b =>
          simp only
          by_cases hbw : b = w
          · rw [if_pos hbw]
            exact opD_ok hc hE hl d o _ i _ (by simp [guardOk, hg, OV.toO, hbw]) _ fun fe e h frs rs hE hl => ih (i + 1) fe e h frs rs hE hl
          · rw [if_neg hbw]
            exact skip (by simp [guardOk, hg, OV.toO, hbw])
        | top => trivial
        | _ => exact skip (by simp [guardOk, hg, OV.toO])

theorem sameO_ok {o : FO} {g : Option (Nat × Bool)} {d : Option Nat} {r : FRec} {r' : Rec} (hr : RRel r r') (id : Nat) (early : Bool) (h : H) (hg : guardOk r'.e g = some true) (hs : fSameO inst cx.ts o r id early h = true) : sameIn cx ⟨d, g, o.toRO⟩ r' id early h = true := by
  obtain ⟨hE, h1, h2, h3⟩ := hr
  have k1 := run_ok (inst := inst) (cx := cx) (h := r.hb) hE o
  have k2 := run_ok (inst := inst) (cx := cx) (h := h) hE o
  unfold fSameO at hs
  unfold sameIn
  rw [hg]
  simp only
  rw [← h1]
  split at hs
  · rename_i v hv
    rw [hv] at k1
    rw [← k1]
    simp only [FRes.toO]
    split at hs
    · rename_i u hu
      rw [hu] at k2
      rw [← k2]
      simp only [FRes.toO]
      rw [← h3]
      exact hs
    · cases hs
  · rename_i b f hv
    rw [hv] at k1
    rw [← k1]
    simp only [FRes.toO]
    rw [tbGet_ok] at hs
    exact hs
  · cases hs

theorem same_ok {o : FOp} {r : FRec} {r' : Rec} (hr : RRel r r') (id : Nat) (early : Bool) (h : H) (hs : fSame inst cx.ts o r id early h = true) : sameIn cx o.toROp r' id early h = true := by
  cases o with
  | op d o => exact sameO_ok hr id early h rfl hs
  | gop hh nn g ok w d o =>
    have hg : r'.e.get (tnat hh nn) = (g r.e).toO := (hr.1 hh nn).trans (congrArg OV.toO (ok r.e).symm)
    have hk : guardOk r'.e (some (tnat hh nn, w)) = guardO (g r.e) w := by
      simp only [guardOk, guardO, hg]
      cases g r.e with
      | no => rfl
      | is v => cases v <;> rfl
    simp only [fSame] at hs
    cases hq : guardO (g r.e) w with
    | none => rw [hq] at hs; cases hs
    | some b =>
      rw [hq] at hs hk
      cases b with
      | true => exact sameO_ok hr id early h hk hs
      | false => simp only [FOp.toROp, sameIn, hk]

theorem chk_ok {base : Nat} {ops : List FOp} {frs : List FRec} {rs : List Rec} (hl : LR frs rs) : ∀ chk : List (Nat × Nat), fChk inst cx.ts base ops frs chk = true → chkAll cx base (ops.map FOp.toROp) rs chk = true := by
  intro chk
  induction chk with
  | nil => intro _; rfl
  | cons p chk ih =>
    obtain ⟨i, j⟩ := p
    intro hs
    simp only [fChk] at hs
    split at hs
    · rename_i o ri rj h1 h2 h3
      obtain ⟨ri', k2, r2⟩ := hl.get h2
      obtain ⟨rj', k3, r3⟩ := hl.get h3
      have k1 : (ops.map FOp.toROp)[i]? = some o.toROp := by rw [List.getElem?_map, h1]; rfl
      simp only [Bool.and_eq_true] at hs
      simp only [chkAll, k1, k2, k3, Bool.and_eq_true]
      rw [← r3.2.1, ← r3.2.2.1]
      exact ⟨⟨same_ok r2 _ _ _ hs.1.1, same_ok r2 _ _ _ hs.1.2⟩, ih hs.2⟩
    · cases hs

/-! Code. -/
def FCode.toRC : FCode → RCode
  | .skip => .skip
  | .reg ops => .reg (ops.map FOp.toROp)
  | .drw ops chk => .drw (ops.map FOp.toROp) chk
  | .seq a b => .seq a.toRC b.toRC
  | .cond c a b => .cond c.toX a.toRC b.toRC
  | .block id b => .block id b.toRC
  | .loop b => .loop b.toRC
  | .exit id => .exit id
  | .ret => .ret
  | .bad => .bad

def GoodX (r : Option (Ex × Env × H)) : FEx → Prop
  | .no => True
  | .nrm fe' h' => ∃ e', r = some (.nrm, e', h') ∧ ERel fe' e'
  | .exit id fe' h' => ∃ e', r = some (.exit id, e', h') ∧ ERel fe' e'
  | .ret fe' h' => ∃ e', r = some (.ret, e', h') ∧ ERel fe' e'

theorem codeF_ok (hc : CRel fc call) (fuel : Nat) : ∀ (c : FCode) (fe : FEnv) (e : Env) (h : H), ERel fe e → GoodX (evCode cx call fuel c.toRC e h) (fCode inst cx.ts fc fuel c fe h) := by
  intro c
  induction c with
  | skip => intro fe e h hE; exact ⟨e, rfl, hE⟩
  | reg ops =>
    intro fe e h hE
    have := ops_ok (cx := cx) hc ops fe e h hE
    show GoodX _ (FOut.rec (motive := fun _ => FEx) .no FEx.nrm (fOps inst cx.ts fc ops fe h))
    cases hx : fOps inst cx.ts fc ops fe h with
    | no => trivial
    | ok fe' h' =>
      rw [hx] at this
      obtain ⟨e', k1, k2⟩ := this
      exact ⟨e', by simp only [FCode.toRC, evCode, k1], k2⟩
  | drw ops chk =>
    intro fe e h hE
    have := drwF_ok (cx := cx) hc h.nx ops 0 fe e ⟨h.t, h.nx + ops.length⟩ [] [] hE LR.nil
    show GoodX _ (FDO.rec (motive := fun _ => FEx) .no (fun e' h' l => Bool.rec (motive := fun _ => FEx) .no (.nrm e' h') (fChk inst cx.ts h.nx ops l chk)) (fDrw inst cx.ts fc h.nx ops 0 fe ⟨h.t, h.nx + ops.length⟩ []))
    cases hx : fDrw inst cx.ts fc h.nx ops 0 fe ⟨h.t, h.nx + ops.length⟩ [] with
    | no => trivial
    | ok fe' h' frs =>
      rw [hx] at this
      obtain ⟨e', rs', k1, k2, k3⟩ := this
      show GoodX _ (Bool.rec (motive := fun _ => FEx) .no (.nrm fe' h') (fChk inst cx.ts h.nx ops frs chk))
      cases hk : fChk inst cx.ts h.nx ops frs chk with
      | false => trivial
      | true =>
        have k4 := chk_ok (cx := cx) k3 chk hk
        refine ⟨e', ?_, k2⟩
        simp only [FCode.toRC, evCode, List.length_map, k1, k4, cond_true]
  | seq a b iha ihb =>
    intro fe e h hE
    have ha := iha fe e h hE
    show GoodX _ (FEx.rec (motive := fun _ => FEx) .no (fCode inst cx.ts fc fuel b) FEx.exit FEx.ret (fCode inst cx.ts fc fuel a fe h))
    cases hx : fCode inst cx.ts fc fuel a fe h with
    | no => trivial
    | nrm fe1 h1 =>
      rw [hx] at ha
      obtain ⟨e1, k1, k2⟩ := ha
      have hb := ihb fe1 e1 h1 k2
      simp only [FCode.toRC, evCode, k1]
      exact hb
    | exit id fe1 h1 =>
      rw [hx] at ha
      obtain ⟨e1, k1, k2⟩ := ha
      exact ⟨e1, by simp only [FCode.toRC, evCode, k1], k2⟩
    | ret fe1 h1 =>
      rw [hx] at ha
      obtain ⟨e1, k1, k2⟩ := ha
      exact ⟨e1, by simp only [FCode.toRC, evCode, k1], k2⟩
  | cond c a b iha ihb =>
    intro fe e h hE
    have hv := ev_ok hE c
    show GoodX _ (OV.rec (motive := fun _ => FEx) .no (fun v => _) (FX.ev c fe) : FEx)
    cases hx : FX.ev c fe with
    | no => trivial
    | is v =>
      rw [hx] at hv
      cases v with
      | bool q =>
        cases q with
        | true =>
          have := iha fe e h hE
          simp only [FCode.toRC, evCode, hv, OV.toO]
          exact this
        | false =>
          have := ihb fe e h hE
          simp only [FCode.toRC, evCode, hv, OV.toO]
          exact this
      | _ => trivial
  | block id b ih =>
    intro fe e h hE
    have hb := ih fe e h hE
    show GoodX _ (xBlk id (fCode inst cx.ts fc fuel b fe h))
    cases hx : fCode inst cx.ts fc fuel b fe h with
    | no => trivial
    | nrm fe1 h1 =>
      rw [hx] at hb
      obtain ⟨e1, k1, k2⟩ := hb
      exact ⟨e1, by simp only [FCode.toRC, evCode, k1], k2⟩
    | ret fe1 h1 =>
      rw [hx] at hb
      obtain ⟨e1, k1, k2⟩ := hb
      exact ⟨e1, by simp only [FCode.toRC, evCode, k1], k2⟩
    | exit i fe1 h1 =>
      rw [hx] at hb
      obtain ⟨e1, k1, k2⟩ := hb
      show GoodX _ (Bool.rec (motive := fun _ => FEx) (.exit i fe1 h1) (.nrm fe1 h1) (Nat.beq id i))
      cases hi : Nat.beq id i with
      | true => exact ⟨e1, by simp only [FCode.toRC, evCode, k1, hi, cond_true], k2⟩
      | false => exact ⟨e1, by simp only [FCode.toRC, evCode, k1, hi, cond_false], k2⟩
  | loop b ih =>
    intro fe e h hE
    show GoodX _ (fLoop (fCode inst cx.ts fc fuel b) fuel fe h)
    simp only [FCode.toRC, evCode]
    have key : ∀ (m : Nat) (fe : FEnv) (e : Env) (h : H), ERel fe e → GoodX (loopN (evCode cx call fuel b.toRC) m e h) (fLoop (fCode inst cx.ts fc fuel b) m fe h) := by
      intro m
      induction m with
      | zero => intro fe e h _; trivial
      | succ m ihm =>
        intro fe e h hE
        have hb := ih fe e h hE
        show GoodX _ (FEx.rec (motive := fun _ => FEx) .no (fLoop (fCode inst cx.ts fc fuel b) m) FEx.exit FEx.ret (fCode inst cx.ts fc fuel b fe h))
        cases hx : fCode inst cx.ts fc fuel b fe h with
        | no => trivial
        | nrm fe1 h1 =>
          rw [hx] at hb
          obtain ⟨e1, k1, k2⟩ := hb
          have := ihm fe1 e1 h1 k2
          simp only [loopN, k1]
          exact this
        | ret fe1 h1 =>
          rw [hx] at hb
          obtain ⟨e1, k1, k2⟩ := hb
          exact ⟨e1, by simp only [loopN, k1], k2⟩
        | exit i fe1 h1 =>
          rw [hx] at hb
          obtain ⟨e1, k1, k2⟩ := hb
          exact ⟨e1, by simp only [loopN, k1], k2⟩
    exact key fuel fe e h hE
  | exit id => intro fe e h hE; exact ⟨e, rfl, hE⟩
  | ret => intro fe e h hE; exact ⟨e, rfl, hE⟩
  | bad => intro fe e h hE; trivial

/-! Calls. -/
def FRR.toRR : FRR → RRes
  | .t h n _ _ => .t (tnat h n)
  | .cell1 h n _ _ => .cell1 (tnat h n)
  | .cellA h n _ _ sz => .cellA (tnat h n) sz
def FFunc.toRF (f : FFunc) : RFunc := ⟨f.body.toRC, f.res.map FRR.toRR⟩

theorem rr_ok {fe : FEnv} {e : Env} {h : H} (hE : ERel fe e) (r : FRR) : evRes e h r.toRR = (FRR.ev r fe h).toO := by
  cases r with
  | t hh nn g ok => exact (hE hh nn).trans (congrArg OV.toO (ok fe).symm)
  | cell1 hh nn g ok =>
    have hg : e.get (tnat hh nn) = (g fe).toO := (hE hh nn).trans (congrArg OV.toO (ok fe).symm)
    show (match e.get (tnat hh nn) with | some (.ptr b o) => h.ld1 b o | _ => none) = (OV.rec (motive := fun _ => OV) .no (fun v => v_rr1 v h) (g fe) : OV).toO
    rw [hg]
    cases g fe with
    | no => rfl
    | is v =>
      cases v with
      | ptr b o => exact (hNth_ok h b o).symm
      | _ => rfl
  | cellA hh nn g ok sz =>
    have hg : e.get (tnat hh nn) = (g fe).toO := (hE hh nn).trans (congrArg OV.toO (ok fe).symm)
    show (match e.get (tnat hh nn) with | some (.ptr b o) => (h.ldA b o sz).map .agg | _ => none) = (OV.rec (motive := fun _ => OV) .no (fun v => v_rrA v sz h) (g fe) : OV).toO
    rw [hg]
    cases g fe with
    | no => rfl
    | is v =>
      cases v with
      | ptr b o =>
        show (h.ldA b o sz).map .agg = (OL.rec (motive := fun _ => OV) .no (fun cs => .is (.agg cs)) (hSub h b o sz) : OV).toO
        rw [← hSub_ok]
        cases hSub h b o sz <;> rfl
      | _ => rfl

theorem ress_ok {fe : FEnv} {e : Env} {h : H} (hE : ERel fe e) : ∀ l : List FRR, evRess e h (l.map FRR.toRR) = (fRess l fe h).toO
  | [] => rfl
  | r :: l => by
    show ((evRes e h r.toRR).bind fun v => (evRess e h (l.map FRR.toRR)).map (v :: ·)) = (olc (FRR.ev r fe h) (fRess l fe h)).toO
    rw [olc_ok, rr_ok hE, ress_ok hE l]

theorem pack_ok (l : List V) : fPack l = packRes l := by
  cases l with
  | nil => rfl
  | cons a t => cases t <;> rfl

theorem keys_ok (i : Nat) (d : FD) (h : keys[i]? = some d) : d.toD = some i := by
  have hm : (keys.map FD.toD)[i]? = some d.toD := by rw [List.getElem?_map, h]; rfl
  have hk : keys.map FD.toD = (List.range 40).map some := rfl
  rw [hk, List.getElem?_map, List.getElem?_range] at hm
  · simp only [Option.map_some, Option.some.injEq] at hm
    exact hm.symm
  · have := (List.getElem?_eq_some_iff.1 h).1
    exact this

theorem envOf_ok (k : FEnv → CR) : ∀ (vs : List V) (i : Nat) (fe : FEnv) (e : Env), ERel fe e → ∀ v h, fEnvOf k vs (keys.drop i) fe = .ok v h → ∃ fe', ERel fe' (envOf vs i e) ∧ k fe' = .ok v h := by
  intro vs
  induction vs with
  | nil => intro i fe e hE v h hk; exact ⟨fe, hE, hk⟩
  | cons x vs ih =>
    intro i fe e hE v h hk
    cases hd : keys[i]? with
    | none =>
      have : keys.drop i = [] := List.drop_eq_nil_iff.2 (List.getElem?_eq_none_iff.1 hd)
      rw [this] at hk
      cases hk
    | some d =>
      have hi := (List.getElem?_eq_some_iff.1 hd).1
      have hdr : keys.drop i = d :: keys.drop (i + 1) := by
        rw [List.drop_eq_getElem_cons hi]
        congr 1
        exact (List.getElem?_eq_some_iff.1 hd).2
      rw [hdr] at hk
      have hp := put_ok hE d x
      rw [keys_ok i d hd] at hp
      exact ih (i + 1) _ _ hp v h hk

def FCx.toCx (c : FCx) : Cx := ⟨c.ft.map FFunc.toRF, c.ts, c.orc⟩

/-- ████ Calls. -/
theorem fCall_ok (c : FCx) (fuel : Nat) : ∀ n, CRel (fCall inst c fuel n) (evCall c.toCx fuel n) := by
  intro n
  induction n with
  | zero => intro f az h v h' hk; cases hk
  | succ n ih =>
    intro f az h v h' hk
    have hk : (Option.rec (motive := fun _ => CR) (Option.rec (motive := fun _ => CR) .no (fun ff => fEnvOf (fun e => fEnd ff.res (fCode inst c.ts (fCall inst c fuel n) fuel ff.body e h)) az keys .nil) (tfGet c.ft f)) (fun g => CR.of (g az h)) (c.orc f) : CR) = .ok v h' := hk
    simp only [evCall]
    have ho : c.toCx.orc f = c.orc f := rfl
    rw [ho]
    cases hq : c.orc f with
    | some g =>
      rw [hq] at hk
      have hk : CR.of (g az h) = .ok v h' := hk
      show g az h = some (v, h')
      cases hg : g az h with
      | none => rw [hg] at hk; cases hk
      | some p => rw [hg] at hk; cases hk; rfl
    | none =>
      rw [hq] at hk
      have hk : (Option.rec (motive := fun _ => CR) .no (fun ff => fEnvOf (fun e => fEnd ff.res (fCode inst c.ts (fCall inst c fuel n) fuel ff.body e h)) az keys .nil) (tfGet c.ft f) : CR) = .ok v h' := hk
      rw [tfGet_ok] at hk
      have hft : c.toCx.ft.get f = (c.ft.get f).map FFunc.toRF := T.get_map _ _ _
      simp only [hft]
      cases hf : c.ft.get f with
      | none => rw [hf] at hk; cases hk
      | some ff =>
        rw [hf] at hk
        have hk : fEnvOf (fun e => fEnd ff.res (fCode inst c.ts (fCall inst c fuel n) fuel ff.body e h)) az keys .nil = .ok v h' := hk
        obtain ⟨fe, hE, hend⟩ := envOf_ok _ az 0 .nil .nil ERel.nil v h' (by simpa using hk)
        have hx := codeF_ok (cx := c.toCx) ih fuel ff.body fe _ h hE
        simp only [Option.map_some, FFunc.toRF]
        have fin : ∀ (fe1 : FEnv) (e1 : Env) (h1 : H), ERel fe1 e1 → (OL.rec (motive := fun _ => CR) .no (fun vs => .ok (fPack vs) h1) (fRess ff.res fe1 h1) : CR) = .ok v h' → (match evRess e1 h1 (ff.res.map FRR.toRR) with | some vs => some (packRes vs, h1) | none => none) = some (v, h') := by
          intro fe1 e1 h1 hE1 hr
          rw [ress_ok hE1]
          cases hl : fRess ff.res fe1 h1 with
          | no => rw [hl] at hr; cases hr
          | is vs =>
            rw [hl] at hr
            cases hr
            simp only [OL.toO, pack_ok]
        cases hcode : fCode inst c.ts (fCall inst c fuel n) fuel ff.body fe h with
        | no => rw [hcode] at hend; cases hend
        | exit id fe1 h1 => rw [hcode] at hend; cases hend
        | nrm fe1 h1 =>
          have hcode' : fCode inst c.toCx.ts (fCall inst c fuel n) fuel ff.body fe h = .nrm fe1 h1 := hcode
          rw [hcode'] at hx
          rw [hcode] at hend
          obtain ⟨e1, k1, k2⟩ := hx
          rw [k1]
          exact fin fe1 e1 h1 k2 hend
        | ret fe1 h1 =>
          have hcode' : fCode inst c.toCx.ts (fCall inst c fuel n) fuel ff.body fe h = .ret fe1 h1 := hcode
          rw [hcode'] at hx
          rw [hcode] at hend
          obtain ⟨e1, k1, k2⟩ := hx
          rw [k1]
          exact fin fe1 e1 h1 k2 hend
end
end Go.Ev
