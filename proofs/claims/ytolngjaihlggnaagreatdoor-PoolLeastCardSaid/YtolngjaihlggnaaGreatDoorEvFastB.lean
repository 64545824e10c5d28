import Derived.Test.YtolngjaihlggnaaGreatDoorEvFastA
/-! The fast evaluator says what the evaluator says: operations. -/
namespace Go.Ev
set_option linter.unusedVariables false
set_option linter.unusedSimpArgs false
set_option linter.unusedSectionVars false

def FO.toRO : FO → RO
  | .mv a0 => .mv a0.toX
  | .pick a0 a1 a2 => .pick a0.toX a1.toX a2.toX
  | .new a0 => .new a0
  | .box a0 a1 => .box a0 a1.toX
  | .build a0 a1 => .build a0 (toParts a1)
  | .bsl a0 a1 a2 a3 => .bsl a0 a1 a2 (toParts a3)
  | .ld1 a0 => .ld1 a0.toX
  | .ldA a0 a1 => .ldA a0 a1.toX
  | .st a0 a1 a2 => .st a0 a1.toX a2.toX
  | .nilck a0 => .nilck a0.toX
  | .bin a0 a1 a2 => .bin a0 a1.toX a2.toX
  | .eq a0 a1 a2 a3 => .eq a0 a1 a2.toX a3.toX
  | .un a0 a1 => .un a0 a1.toX
  | .cvi a0 a1 => .cvi a0 a1.toX
  | .cvs a0 => .cvs a0.toX
  | .mkifc a0 a1 => .mkifc a0 a1.toX
  | .mkfn a0 a1 a2 => .mkfn a0 (a1.map FX.toX) (a2.map FX.toX)
  | .mkmap => .mkmap
  | .mksl a0 a1 a2 a3 a4 => .mksl a0 a1 a2 a3.toX a4.toX
  | .slStr a0 a1 a2 => .slStr a0.toX a1.toX a2.toX
  | .slSlc a0 a1 a2 a3 a4 => .slSlc a0 a1.toX a2.toX a3.toX a4.toX
  | .slArr a0 a1 a2 a3 a4 a5 => .slArr a0 a1 a2.toX a3.toX a4.toX a5.toX
  | .fadd a0 a1 => .fadd a0 a1.toX
  | .fld1 a0 a1 => .fld1 a0 a1.toX
  | .fldA a0 a1 a2 => .fldA a0 a1 a2.toX
  | .ixaA a0 a1 a2 a3 => .ixaA a0 a1 a2.toX a3.toX
  | .ixaS a0 a1 a2 => .ixaS a0 a1.toX a2.toX
  | .ixA1 a0 a1 a2 => .ixA1 a0 a1.toX a2.toX
  | .ixAA a0 a1 a2 a3 => .ixAA a0 a1 a2.toX a3.toX
  | .ixS a0 a1 => .ixS a0.toX a1.toX
  | .look a0 a1 a2 a3 a4 a5 => .look a0 a1 a2 a3 a4.toX a5.toX
  | .mput a0 a1 a2 a3 a4 => .mput a0 a1 a2.toX a3.toX a4.toX
  | .asI a0 a1 a2 a3 => .asI a0 a1 a2 a3.toX
  | .asC a0 a1 a2 a3 => .asC a0 a1 a2 a3.toX
  | .ex a0 a1 => .ex a0 a1.toX
  | .call a0 a1 => .call a0 (a1.map FX.toX)
  | .callv a0 a1 => .callv a0.toX (a1.map FX.toX)
  | .inv a0 a1 a2 => .inv a0 a1.toX (a2.map FX.toX)
  | .lenS a0 => .lenS a0.toX
  | .lenL a0 => .lenL a0.toX
  | .lenM a0 => .lenM a0.toX
  | .lenA a0 => .lenA a0
  | .cap a0 => .cap a0.toX
  | .app a0 a1 a2 a3 => .app a0 a1 a2.toX a3.toX
  | .appZ a0 a1 a2 a3 a4 => .appZ a0 a1 a2 a3.toX a4.toX
  | .copy a0 a1 a2 => .copy a0 a1.toX a2.toX
  | .clr a0 a1 => .clr a0 a1.toX
  | .mxx a0 => .mxx (a0.map FX.toX)
  | .mnn a0 => .mnn (a0.map FX.toX)
  | .bad => .bad

section
variable [inst : Tab] {cx : Cx} {fe : FEnv} {e : Env} {h : H}

theorem run_mv (hE : ERel fe e) (x : FX) : (FO.run (.mv x) inst cx.ts fe h).toO = evOp cx e h (.mv x.toX) := by
  simp only [evOp, ev_ok hE]
  change (OV.rec (motive := fun _ => FRes) FRes.no FRes.val (FX.ev x fe) : FRes).toO = _
  cases FX.ev x fe <;> rfl

theorem run_pick (hE : ERel fe e) (x : FX) (y : FX) (z : FX) : (FO.run (.pick x y z) inst cx.ts fe h).toO = evOp cx e h (.pick x.toX y.toX z.toX) := by
  simp only [evOp, ev_ok hE]
  change (OV.rec (motive := fun _ => FRes) FRes.no (fun v => _) (FX.ev x fe) : FRes).toO = _
  cases FX.ev x fe with
  | no => rfl
  | is v =>
    cases v with
    | bool b =>
      cases b with
      | true => change (OV.rec (motive := fun _ => FRes) FRes.no FRes.val (FX.ev y fe) : FRes).toO = ((bif true then y.toX else z.toX).ev e).map Res.val; rw [cond_true, ev_ok hE]; cases FX.ev y fe <;> rfl
      | false => change (OV.rec (motive := fun _ => FRes) FRes.no FRes.val (FX.ev z fe) : FRes).toO = ((bif false then y.toX else z.toX).ev e).map Res.val; rw [cond_false, ev_ok hE]; cases FX.ev z fe <;> rfl
    | _ => rfl

theorem run_new (hE : ERel fe e) (cs : List V) : (FO.run (.new cs) inst cx.ts fe h).toO = evOp cx e h (.new cs) := by
  rfl

theorem run_box (hE : ERel fe e) (esz : Nat) (x : FX) : (FO.run (.box esz x) inst cx.ts fe h).toO = evOp cx e h (.box esz x.toX) := by
  simp only [evOp, ev_ok hE]
  change (OV.rec (motive := fun _ => FRes) FRes.no (fun v => _) (FX.ev x fe) : FRes).toO = _
  cases FX.ev x fe with
  | no => rfl
  | is v =>
    change (Bool.rec (motive := fun _ => FRes) FRes.no (Bool.rec (motive := fun _ => FRes) FRes.no (FRes.new (.cells (vCells v) false) (fun i => .ptr i 0)) (lOnes (vCells v))) (lLen (vCells v) esz) : FRes).toO = bif Nat.beq v.cells.length esz && ones v.cells then some (.new (.cells v.cells false) fun i => .ptr i 0) else none
    rw [vCells_ok, lOnes_ok, lLen_ok]
    cases Nat.beq v.cells.length esz <;> cases ones v.cells <;> rfl

theorem run_build (hE : ERel fe e) (zero : List V) (parts : List (Nat × Nat × FX)) : (FO.run (.build zero parts) inst cx.ts fe h).toO = evOp cx e h (.build zero (toParts parts)) := by
  change (OL.rec (motive := fun _ => FRes) FRes.no (fun cs => FRes.val (.agg cs)) (fParts parts fe zero) : FRes).toO = (evps e (toParts parts)).bind fun l => (fillP zero l).map fun cs => .val (.agg cs)
  have hk := parts_ok hE parts zero
  cases he : evps e (toParts parts) with
  | none =>
    rw [he] at hk
    cases hq : fParts parts fe zero with
    | no => rfl
    | is l => rw [hq] at hk; cases hk
  | some l =>
    rw [he] at hk
    simp only [Option.bind_some] at hk ⊢
    cases hq : fParts parts fe zero <;> rw [hq] at hk <;> rw [← hk] <;> rfl

theorem run_bsl (hE : ERel fe e) (esz : Nat) (zero : List V) (len : Nat) (parts : List (Nat × Nat × FX)) : (FO.run (.bsl esz zero len parts) inst cx.ts fe h).toO = evOp cx e h (.bsl esz zero len (toParts parts)) := by
  change (OL.rec (motive := fun _ => FRes) FRes.no (fun cs => Bool.rec (motive := fun _ => FRes) FRes.no (FRes.new (.cells cs false) (fun i => .slc i 0 len len 0)) (lOnes cs)) (fParts parts fe zero) : FRes).toO = (evps e (toParts parts)).bind fun l => (fillP zero l).bind fun cs => bif ones cs then some (.new (.cells cs false) fun i => .slc i 0 len len 0) else none
  have hk := parts_ok hE parts zero
  cases he : evps e (toParts parts) with
  | none =>
    rw [he] at hk
    cases hq : fParts parts fe zero with
    | no => rfl
    | is l => rw [hq] at hk; cases hk
  | some l =>
    rw [he] at hk
    simp only [Option.bind_some] at hk ⊢
    cases hq : fParts parts fe zero with
    | no => rw [hq] at hk; rw [← hk]; rfl
    | is cs =>
      rw [hq] at hk
      rw [← hk]
      change (Bool.rec (motive := fun _ => FRes) FRes.no (FRes.new (.cells cs false) (fun i => .slc i 0 len len 0)) (lOnes cs) : FRes).toO = bif ones cs then some (.new (.cells cs false) fun i => .slc i 0 len len 0) else none
      rw [lOnes_ok]
      cases ones cs <;> rfl

theorem ovVal (q : OV) : (OV.rec (motive := fun _ => FRes) FRes.no FRes.val q : FRes).toO = q.toO.map Res.val := by cases q <;> rfl
theorem olAgg (q : OL) : (OL.rec (motive := fun _ => FRes) FRes.no (fun cs => FRes.val (.agg cs)) q : FRes).toO = (q.toO.map V.agg).map Res.val := by cases q <;> rfl
theorem olAgg2 (q : OL) : (OL.rec (motive := fun _ => FRes) FRes.no (fun cs => FRes.val (.agg cs)) q : FRes).toO = q.toO.map (fun cs => Res.val (.agg cs)) := by cases q <;> rfl

theorem run_ld1 (hE : ERel fe e) (x : FX) : (FO.run (.ld1 x) inst cx.ts fe h).toO = evOp cx e h (.ld1 x.toX) := by
  simp only [evOp, ev_ok hE]
  change (OV.rec (motive := fun _ => FRes) FRes.no (fun v => _) (FX.ev x fe) : FRes).toO = _
  cases FX.ev x fe with
  | no => rfl
  | is v =>
    cases v with
    | ptr b o =>
      exact (ovVal _).trans (by rw [hNth_ok]; rfl)
    | _ => rfl

theorem run_ldA (hE : ERel fe e) (sz : Nat) (x : FX) : (FO.run (.ldA sz x) inst cx.ts fe h).toO = evOp cx e h (.ldA sz x.toX) := by
  simp only [evOp, ev_ok hE]
  change (OV.rec (motive := fun _ => FRes) FRes.no (fun v => _) (FX.ev x fe) : FRes).toO = _
  cases FX.ev x fe with
  | no => rfl
  | is v =>
    cases v with
    | ptr b o =>
      exact (olAgg2 _).trans (by rw [hSub_ok]; rfl)
    | _ => rfl

theorem run_st (hE : ERel fe e) (sz : Nat) (a : FX) (v : FX) : (FO.run (.st sz a v) inst cx.ts fe h).toO = evOp cx e h (.st sz a.toX v.toX) := by
  simp only [evOp, ev_ok hE]
  change (OV.rec (motive := fun _ => FRes) FRes.no (fun p => _) (FX.ev a fe) : FRes).toO = _
  cases FX.ev a fe with
  | no => rfl
  | is p =>
    change (OV.rec (motive := fun _ => FRes) FRes.no (fun x => _) (FX.ev v fe) : FRes).toO = _
    cases FX.ev v fe with
    | no => first | rfl | (cases p <;> rfl)
    | is x =>
      cases p with
      | ptr b o =>
        change (Bool.rec (motive := fun _ => FRes) FRes.no (hSt h b o (vCells x) (fun h' => .upd unit h')) (lLen (vCells x) sz) : FRes).toO = bif Nat.beq x.cells.length sz then (h.stA b o x.cells).map fun h' => .upd unit h' else none
        rw [vCells_ok, lLen_ok]
        cases Nat.beq x.cells.length sz with
        | false => rfl
        | true =>
          change (hSt h b o x.cells (fun h' => .upd unit h')).toO = (h.stA b o x.cells).map fun h' => .upd unit h'
          rw [hSt_ok]
          cases h.stA b o x.cells <;> rfl
      | _ => rfl

theorem run_nilck (hE : ERel fe e) (x : FX) : (FO.run (.nilck x) inst cx.ts fe h).toO = evOp cx e h (.nilck x.toX) := by
  simp only [evOp, ev_ok hE]
  change (OV.rec (motive := fun _ => FRes) FRes.no (fun v => _) (FX.ev x fe) : FRes).toO = _
  cases FX.ev x fe with
  | no => rfl
  | is v =>
    cases v <;> rfl

theorem b_int_ok (f : IntKind → Int → Int → OV) (op : BinOp) (hf : ∀ k m n, (f k m n).toO = evBin0 op (.int k m) (.int k n)) (hs : ∀ k m n, (evBin0 op (.int k m) (.int k n)).isSome = true) (a b : V) : (b_int a f inst op a b).toO = evBin op a b := by
  have hsp : (b_spec inst op a b).toO = evBin op a b := OV.of_toO _
  cases a with
  | int k m =>
    cases b with
    | int j n =>
      change (Bool.rec (motive := fun _ => OV) (b_spec inst op (.int k m) (.int j n)) (f k m n) (kEq k j) : OV).toO = _
      rw [kEq_iff]
      by_cases hkj : k = j
      · subst hkj
        simp only [decide_true]
        rw [hf, evBin]
        have := hs k m n
        cases hq : evBin0 op (.int k m) (.int k n) with
        | none => rw [hq] at this; cases this
        | some v => rfl
      · simp only [hkj, decide_false]
        exact hsp
    | _ => exact hsp
  | _ => exact hsp

theorem fBin_ok (op : BinOp) (a b : V) : (fBin op inst a b).toO = evBin op a b := by
  have spec : ∀ op, (b_spec inst op a b).toO = evBin op a b := fun op => OV.of_toO _
  cases op with
  | add => exact b_int_ok _ _ (fun k m n => by simp [evBin0, OV.toO, iAdd_eq, iWr_eq]) (fun k m n => by simp [evBin0]) a b
  | sub => exact b_int_ok _ _ (fun k m n => by simp [evBin0, OV.toO, iSub_eq, iWr_eq]) (fun k m n => by simp [evBin0]) a b
  | mul => exact b_int_ok _ _ (fun k m n => by simp [evBin0, OV.toO, iMul_eq, iWr_eq]) (fun k m n => by simp [evBin0]) a b
  | eql => exact b_int_ok _ _ (fun k m n => by simp only [evBin0, OV.toO, iEq_eq, if_true]; congr 2) (fun k m n => by simp [evBin0]) a b
  | neq => exact b_int_ok _ _ (fun k m n => by simp only [evBin0, OV.toO, iEq_eq, if_true]; congr 2; by_cases hh : m = n <;> simp [hh]) (fun k m n => by simp [evBin0]) a b
  | lss => exact b_int_ok _ _ (fun k m n => by simp only [evBin0, OV.toO, iLt_eq, if_true]) (fun k m n => by simp [evBin0]) a b
  | leq => exact b_int_ok _ _ (fun k m n => by simp only [evBin0, OV.toO, iLe_eq, if_true]) (fun k m n => by simp [evBin0]) a b
  | gtr => exact b_int_ok _ _ (fun k m n => by simp only [evBin0, OV.toO, iLt_eq, if_true]) (fun k m n => by simp [evBin0]) a b
  | geq => exact b_int_ok _ _ (fun k m n => by simp only [evBin0, OV.toO, iLe_eq, if_true]) (fun k m n => by simp [evBin0]) a b
  | _ => exact spec _

theorem fEq_ok (s : Shape) (neg : Bool) (a b : V) : (fEq s inst cx.ts h neg a b).toO = (evEq h cx.ts s a b).map fun r => Res.val (.bool (bif neg then !r else r)) := by
  have spec : ∀ s, (e_spec inst cx.ts h s neg a b).toO = (evEq h cx.ts s a b).map fun r => Res.val (.bool (bif neg then !r else r)) := fun s => FRes.of_toO _
  cases s with
  | flat ls => exact spec _
  | sc sh =>
    cases sh with
    | int =>
      cases a with
      | int k m =>
        cases b with
        | int j n =>
          change (Bool.rec (motive := fun _ => FRes) (e_spec inst cx.ts h (.sc .int) neg (.int k m) (.int j n)) (FRes.val (.bool (Bool.rec (motive := fun _ => Bool) (iEq m n) (Bool.rec (motive := fun _ => Bool) true false (iEq m n)) neg))) (kEq k j) : FRes).toO = _
          rw [kEq_iff]
          by_cases hkj : k = j
          · subst hkj
            simp only [decide_true, iEq_eq, evEq, evSh, evSc, if_true, Option.map_some, FRes.toO]
            by_cases hh : m = n <;> cases neg <;> simp [hh]
          · simp only [hkj, decide_false]
            exact spec _
        | _ => exact spec (.sc .int)
      | _ => exact spec (.sc .int)
    | _ => exact spec _

theorem run_bin (hE : ERel fe e) (op : BinOp) (x : FX) (y : FX) : (FO.run (.bin op x y) inst cx.ts fe h).toO = evOp cx e h (.bin op x.toX y.toX) := by
  simp only [evOp, ev_ok hE]
  change (OV.rec (motive := fun _ => FRes) FRes.no (fun a => _) (FX.ev x fe) : FRes).toO = _
  cases FX.ev x fe with
  | no => rfl
  | is a =>
    change (OV.rec (motive := fun _ => FRes) FRes.no (fun b => _) (FX.ev y fe) : FRes).toO = _
    cases FX.ev y fe with
    | no => first | rfl | (cases a <;> rfl)
    | is b =>
      have hb := fBin_ok (inst := inst) op a b
      change (OV.rec (motive := fun _ => FRes) FRes.no FRes.val (fBin op inst a b) : FRes).toO = (evBin op a b).map Res.val
      cases hq : fBin op inst a b <;> rw [hq] at hb <;> rw [← hb] <;> rfl

theorem run_eq (hE : ERel fe e) (neg : Bool) (s : Shape) (x : FX) (y : FX) : (FO.run (.eq neg s x y) inst cx.ts fe h).toO = evOp cx e h (.eq neg s x.toX y.toX) := by
  simp only [evOp, ev_ok hE]
  change (OV.rec (motive := fun _ => FRes) FRes.no (fun a => _) (FX.ev x fe) : FRes).toO = _
  cases FX.ev x fe with
  | no => rfl
  | is a =>
    change (OV.rec (motive := fun _ => FRes) FRes.no (fun b => _) (FX.ev y fe) : FRes).toO = _
    cases FX.ev y fe with
    | no => first | rfl | (cases a <;> rfl)
    | is b =>
      exact fEq_ok s neg a b

theorem run_un (hE : ERel fe e) (op : UnOp) (x : FX) : (FO.run (.un op x) inst cx.ts fe h).toO = evOp cx e h (.un op x.toX) := by
  simp only [evOp, ev_ok hE]
  change (OV.rec (motive := fun _ => FRes) FRes.no (fun v => _) (FX.ev x fe) : FRes).toO = _
  cases FX.ev x fe with
  | no => rfl
  | is v =>
    cases op with
    | not => cases v with
      | bool b => cases b <;> rfl
      | _ => exact FRes.of_toO _
    | _ => exact FRes.of_toO _

theorem run_cvi (hE : ERel fe e) (k : IntKind) (x : FX) : (FO.run (.cvi k x) inst cx.ts fe h).toO = evOp cx e h (.cvi k x.toX) := by
  simp only [evOp, ev_ok hE]
  change (OV.rec (motive := fun _ => FRes) FRes.no (fun v => _) (FX.ev x fe) : FRes).toO = _
  cases FX.ev x fe with
  | no => rfl
  | is v =>
    cases v with
    | int j n => change some (Res.val (.int k (iWr k n))) = some (Res.val (.int k (wr k n))); rw [iWr_eq]
    | sym j i =>
      change (OV.rec (motive := fun _ => FRes) FRes.no FRes.val (OV.of (Tab.cvi k (.sym j i))) : FRes).toO = (Tab.cvi k (.sym j i)).map Res.val
      cases Tab.cvi k (.sym j i) <;> rfl
    | _ => rfl

theorem run_cvs (hE : ERel fe e) (x : FX) : (FO.run (.cvs x) inst cx.ts fe h).toO = evOp cx e h (.cvs x.toX) := by
  simp only [evOp, ev_ok hE]
  change (OV.rec (motive := fun _ => FRes) FRes.no (fun v => _) (FX.ev x fe) : FRes).toO = _
  cases FX.ev x fe with
  | no => rfl
  | is v =>
    exact (FRes.of_toO _).trans (by first | rfl | (cases v <;> rfl))

theorem run_mkifc (hE : ERel fe e) (t : TypeId) (x : FX) : (FO.run (.mkifc t x) inst cx.ts fe h).toO = evOp cx e h (.mkifc t x.toX) := by
  simp only [evOp, ev_ok hE]
  change (OV.rec (motive := fun _ => FRes) FRes.no (fun v => _) (FX.ev x fe) : FRes).toO = _
  cases FX.ev x fe with
  | no => rfl
  | is v =>
    rfl

theorem run_mkfn (hE : ERel fe e) (f : FuncId) (first : List FX) (cap : List FX) : (FO.run (.mkfn f first cap) inst cx.ts fe h).toO = evOp cx e h (.mkfn f (first.map FX.toX) (cap.map FX.toX)) := by
  simp only [evOp, ev_ok hE, evs_ok hE]
  change (OL.rec (motive := fun _ => FRes) FRes.no (fun a => _) (fEvs first fe) : FRes).toO = _
  cases fEvs first fe with
  | no => rfl
  | is a =>
    change (OL.rec (motive := fun _ => FRes) FRes.no (fun c => _) (fEvs cap fe) : FRes).toO = _
    cases fEvs cap fe with
    | no => rfl
    | is c =>
      rfl

theorem run_mkmap (hE : ERel fe e) : (FO.run (.mkmap) inst cx.ts fe h).toO = evOp cx e h (.mkmap) := by
  rfl

theorem run_mksl (hE : ERel fe e) (esz : Nat) (bytes : Nat) (zero : List V) (l : FX) (c : FX) : (FO.run (.mksl esz bytes zero l c) inst cx.ts fe h).toO = evOp cx e h (.mksl esz bytes zero l.toX c.toX) := by
  simp only [evOp, ev_ok hE]
  change (OV.rec (motive := fun _ => FRes) FRes.no (fun a => _) (FX.ev l fe) : FRes).toO = _
  cases FX.ev l fe with
  | no => rfl
  | is a =>
    change (OV.rec (motive := fun _ => FRes) FRes.no (fun b => _) (FX.ev c fe) : FRes).toO = _
    cases FX.ev c fe with
    | no => first | rfl | (cases a <;> rfl)
    | is b =>
      exact (FRes.of_toO _).trans rfl

theorem bind_none' {α β : Type} (o : Option α) : (o.bind fun _ => (none : Option β)) = none := by cases o <;> rfl
theorem evo3 {e : Env} (x y z : Option X) (F : Option V → Option V → Option V → Option Res) (hF : ∀ a b c, F a b c = none) : (evo e x).bind (fun a => (evo e y).bind fun b => (evo e z).bind fun c => F a b c) = none := by
  cases evo e x with
  | none => rfl
  | some a => cases evo e y with
    | none => rfl
    | some b => cases evo e z with
      | none => rfl
      | some c => exact hF a b c
theorem fevo3 (hE : ERel fe e) (x y z : FXo) (F : Option V → Option V → Option V → Option Res) : (fEvo fe x fun a => fEvo fe y fun b => fEvo fe z fun c => FRes.of (F a b c)).toO = (evo e x.toX).bind (fun a => (evo e y.toX).bind fun b => (evo e z.toX).bind fun c => F a b c) := by
  rw [evo_ok hE]
  cases evo e x.toX with
  | none => rfl
  | some a =>
    simp only [Option.bind_some]
    rw [evo_ok hE]
    cases evo e y.toX with
    | none => rfl
    | some b =>
      simp only [Option.bind_some]
      rw [evo_ok hE]
      cases evo e z.toX with
      | none => rfl
      | some c => exact FRes.of_toO _
theorem fevo2 (hE : ERel fe e) (x y : FXo) (F : Option V → Option V → Option Res) : (fEvo fe x fun a => fEvo fe y fun b => FRes.of (F a b)).toO = (evo e x.toX).bind (fun a => (evo e y.toX).bind fun b => F a b) := by
  rw [evo_ok hE]
  cases evo e x.toX with
  | none => rfl
  | some a =>
    simp only [Option.bind_some]
    rw [evo_ok hE]
    cases evo e y.toX with
    | none => rfl
    | some b => exact FRes.of_toO _
theorem evo2 {e : Env} (x y : Option X) (F : Option V → Option V → Option Res) (hF : ∀ a b, F a b = none) : (evo e x).bind (fun a => (evo e y).bind fun b => F a b) = none := by
  cases evo e x with
  | none => rfl
  | some a => cases evo e y with
    | none => rfl
    | some b => exact hF a b

theorem run_slStr (hE : ERel fe e) (x : FX) (lo : FXo) (hi : FXo) : (FO.run (.slStr x lo hi) inst cx.ts fe h).toO = evOp cx e h (.slStr x.toX lo.toX hi.toX) := by
  simp only [evOp, ev_ok hE]
  change (OV.rec (motive := fun _ => FRes) FRes.no (fun a => _) (FX.ev x fe) : FRes).toO = _
  cases FX.ev x fe with
  | no => rfl
  | is a =>
    refine (fevo2 hE lo hi (slStrV a)).trans ?_
    cases a <;> first | rfl | exact evo2 _ _ _ fun _ _ => rfl

theorem run_slSlc (hE : ERel fe e) (esz : Nat) (x : FX) (lo : FXo) (hi : FXo) (mx : FXo) : (FO.run (.slSlc esz x lo hi mx) inst cx.ts fe h).toO = evOp cx e h (.slSlc esz x.toX lo.toX hi.toX mx.toX) := by
  simp only [evOp, ev_ok hE]
  change (OV.rec (motive := fun _ => FRes) FRes.no (fun a => _) (FX.ev x fe) : FRes).toO = _
  cases FX.ev x fe with
  | no => rfl
  | is a =>
    refine (fevo3 hE lo hi mx (slSlcV esz a)).trans ?_
    cases a <;> first | rfl | exact evo3 _ _ _ _ fun _ _ _ => rfl

theorem run_slArr (hE : ERel fe e) (n : Nat) (esz : Nat) (x : FX) (lo : FXo) (hi : FXo) (mx : FXo) : (FO.run (.slArr n esz x lo hi mx) inst cx.ts fe h).toO = evOp cx e h (.slArr n esz x.toX lo.toX hi.toX mx.toX) := by
  simp only [evOp, ev_ok hE]
  change (OV.rec (motive := fun _ => FRes) FRes.no (fun a => _) (FX.ev x fe) : FRes).toO = _
  cases FX.ev x fe with
  | no => rfl
  | is a =>
    refine (fevo3 hE lo hi mx (slArrV n esz a)).trans ?_
    cases a <;> first | rfl | exact evo3 _ _ _ _ fun _ _ _ => rfl

theorem run_fadd (hE : ERel fe e) (off : Nat) (x : FX) : (FO.run (.fadd off x) inst cx.ts fe h).toO = evOp cx e h (.fadd off x.toX) := by
  simp only [evOp, ev_ok hE]
  change (OV.rec (motive := fun _ => FRes) FRes.no (fun v => _) (FX.ev x fe) : FRes).toO = _
  cases FX.ev x fe with
  | no => rfl
  | is v =>
    cases v <;> rfl

theorem run_fld1 (hE : ERel fe e) (off : Nat) (x : FX) : (FO.run (.fld1 off x) inst cx.ts fe h).toO = evOp cx e h (.fld1 off x.toX) := by
  simp only [evOp, ev_ok hE]
  change (OV.rec (motive := fun _ => FRes) FRes.no (fun v => _) (FX.ev x fe) : FRes).toO = _
  cases FX.ev x fe with
  | no => rfl
  | is v =>
    cases v with
    | agg cs =>
      exact (ovVal _).trans (by rw [lNth_ok]; rfl)
    | _ => rfl

theorem lSub_part (cs : List V) (o n : Nat) : (lSub cs o n).toO.map V.agg = partA cs o n := by
  rw [lSub_ok, partA, ble_iff]
  by_cases hh : o + n ≤ cs.length <;> simp [hh]

theorem run_fldA (hE : ERel fe e) (off : Nat) (sz : Nat) (x : FX) : (FO.run (.fldA off sz x) inst cx.ts fe h).toO = evOp cx e h (.fldA off sz x.toX) := by
  simp only [evOp, ev_ok hE]
  change (OV.rec (motive := fun _ => FRes) FRes.no (fun v => _) (FX.ev x fe) : FRes).toO = _
  cases FX.ev x fe with
  | no => rfl
  | is v =>
    cases v with
    | agg cs => change (OL.rec (motive := fun _ => FRes) FRes.no (fun cs => FRes.val (.agg cs)) (lSub cs off sz) : FRes).toO = (partA cs off sz).map Res.val; rw [olAgg, lSub_part]
    | _ => rfl

theorem run_ixaA (hE : ERel fe e) (n : Nat) (esz : Nat) (x : FX) (i : FX) : (FO.run (.ixaA n esz x i) inst cx.ts fe h).toO = evOp cx e h (.ixaA n esz x.toX i.toX) := by
  simp only [evOp, ev_ok hE]
  change (OV.rec (motive := fun _ => FRes) FRes.no (fun a => _) (FX.ev x fe) : FRes).toO = _
  cases FX.ev x fe with
  | no => rfl
  | is a =>
    change (OV.rec (motive := fun _ => FRes) FRes.no (fun b => _) (FX.ev i fe) : FRes).toO = _
    cases FX.ev i fe with
    | no => first | rfl | (cases a <;> rfl)
    | is b =>
      cases a with
      | ptr p o =>
        cases b with
        | int k z =>
          cases z with
          | ofNat i =>
            change (Bool.rec (motive := fun _ => FRes) FRes.no (FRes.val (.ptr p (Nat.add o (Nat.mul i esz)))) (Nat.ble (Nat.succ i) n) : FRes).toO = bif Nat.blt i n then some (Res.val (.ptr p (o + i * esz))) else none
            cases hb : Nat.blt i n with
            | false => rw [show Nat.ble (Nat.succ i) n = false from hb]; rfl
            | true => rw [show Nat.ble (Nat.succ i) n = true from hb]; rfl
          | negSucc i => rfl
        | _ => rfl
      | _ => rfl

theorem run_ixaS (hE : ERel fe e) (esz : Nat) (x : FX) (i : FX) : (FO.run (.ixaS esz x i) inst cx.ts fe h).toO = evOp cx e h (.ixaS esz x.toX i.toX) := by
  simp only [evOp, ev_ok hE]
  change (OV.rec (motive := fun _ => FRes) FRes.no (fun a => _) (FX.ev x fe) : FRes).toO = _
  cases FX.ev x fe with
  | no => rfl
  | is a =>
    change (OV.rec (motive := fun _ => FRes) FRes.no (fun b => _) (FX.ev i fe) : FRes).toO = _
    cases FX.ev i fe with
    | no => first | rfl | (cases a <;> rfl)
    | is b =>
      cases a with
      | slc p o len _ _ =>
        cases b with
        | int k z =>
          cases z with
          | ofNat i =>
            change (Bool.rec (motive := fun _ => FRes) FRes.no (FRes.val (.ptr p (Nat.add o (Nat.mul i esz)))) (Nat.ble (Nat.succ i) len) : FRes).toO = bif Nat.blt i len then some (Res.val (.ptr p (o + i * esz))) else none
            cases hb : Nat.blt i len with
            | false => rw [show Nat.ble (Nat.succ i) len = false from hb]; rfl
            | true => rw [show Nat.ble (Nat.succ i) len = true from hb]; rfl
          | negSucc i => rfl
        | _ => rfl
      | slv p o _ lo =>
        cases b with
        | int k z =>
          cases z with
          | ofNat i =>
            change (Bool.rec (motive := fun _ => FRes) FRes.no (FRes.val (.ptr p (Nat.add o (Nat.mul i esz)))) (Nat.ble (Nat.succ i) lo) : FRes).toO = bif Nat.blt i lo then some (Res.val (.ptr p (o + i * esz))) else none
            cases hb : Nat.blt i lo with
            | false => rw [show Nat.ble (Nat.succ i) lo = false from hb]; rfl
            | true => rw [show Nat.ble (Nat.succ i) lo = true from hb]; rfl
          | negSucc i => rfl
        | _ => rfl
      | _ => rfl

theorem run_ixA1 (hE : ERel fe e) (n : Nat) (x : FX) (i : FX) : (FO.run (.ixA1 n x i) inst cx.ts fe h).toO = evOp cx e h (.ixA1 n x.toX i.toX) := by
  simp only [evOp, ev_ok hE]
  change (OV.rec (motive := fun _ => FRes) FRes.no (fun a => _) (FX.ev x fe) : FRes).toO = _
  cases FX.ev x fe with
  | no => rfl
  | is a =>
    change (OV.rec (motive := fun _ => FRes) FRes.no (fun b => _) (FX.ev i fe) : FRes).toO = _
    cases FX.ev i fe with
    | no => first | rfl | (cases a <;> rfl)
    | is b =>
      cases a with
      | agg cs =>
        cases b with
        | int k z =>
          cases z with
          | ofNat i =>
            change (Bool.rec (motive := fun _ => FRes) FRes.no (OV.rec (motive := fun _ => FRes) FRes.no FRes.val (lNth cs i)) (Nat.ble (Nat.succ i) n) : FRes).toO = bif Nat.blt i n then (part1 cs i).map Res.val else none
            cases hb : Nat.blt i n with
            | false => rw [show Nat.ble (Nat.succ i) n = false from hb]; rfl
            | true => rw [show Nat.ble (Nat.succ i) n = true from hb]; exact (ovVal _).trans (by rw [lNth_ok]; rfl)
          | negSucc i => rfl
        | _ => rfl
      | _ => rfl

theorem run_ixAA (hE : ERel fe e) (n : Nat) (esz : Nat) (x : FX) (i : FX) : (FO.run (.ixAA n esz x i) inst cx.ts fe h).toO = evOp cx e h (.ixAA n esz x.toX i.toX) := by
  simp only [evOp, ev_ok hE]
  change (OV.rec (motive := fun _ => FRes) FRes.no (fun a => _) (FX.ev x fe) : FRes).toO = _
  cases FX.ev x fe with
  | no => rfl
  | is a =>
    change (OV.rec (motive := fun _ => FRes) FRes.no (fun b => _) (FX.ev i fe) : FRes).toO = _
    cases FX.ev i fe with
    | no => first | rfl | (cases a <;> rfl)
    | is b =>
      cases a with
      | agg cs =>
        cases b with
        | int k z =>
          cases z with
          | ofNat i =>
            change (Bool.rec (motive := fun _ => FRes) FRes.no (OL.rec (motive := fun _ => FRes) FRes.no (fun cs => FRes.val (.agg cs)) (lSub cs (Nat.mul i esz) esz)) (Nat.ble (Nat.succ i) n) : FRes).toO = bif Nat.blt i n then (partA cs (i * esz) esz).map Res.val else none
            cases hb : Nat.blt i n with
            | false => rw [show Nat.ble (Nat.succ i) n = false from hb]; rfl
            | true => rw [show Nat.ble (Nat.succ i) n = true from hb]; exact (olAgg _).trans (by rw [lSub_part]; rfl)
          | negSucc i => rfl
        | _ => rfl
      | _ => rfl

theorem run_ixS (hE : ERel fe e) (x : FX) (y : FX) : (FO.run (.ixS x y) inst cx.ts fe h).toO = evOp cx e h (.ixS x.toX y.toX) := by
  simp only [evOp, ev_ok hE]
  change (OV.rec (motive := fun _ => FRes) FRes.no (fun a => _) (FX.ev x fe) : FRes).toO = _
  cases FX.ev x fe with
  | no => rfl
  | is a =>
    change (OV.rec (motive := fun _ => FRes) FRes.no (fun b => _) (FX.ev y fe) : FRes).toO = _
    cases FX.ev y fe with
    | no => first | rfl | (cases a <;> rfl)
    | is b =>
      exact (FRes.of_toO _).trans (by cases a <;> rfl)

theorem run_look (hE : ERel fe e) (s : Shape) (kn : Nat) (zero : V) (ok : Bool) (m : FX) (k : FX) : (FO.run (.look s kn zero ok m k) inst cx.ts fe h).toO = evOp cx e h (.look s kn zero ok m.toX k.toX) := by
  simp only [evOp, ev_ok hE]
  change (OV.rec (motive := fun _ => FRes) FRes.no (fun a => _) (FX.ev m fe) : FRes).toO = _
  cases FX.ev m fe with
  | no => rfl
  | is a =>
    change (OV.rec (motive := fun _ => FRes) FRes.no (fun b => _) (FX.ev k fe) : FRes).toO = _
    cases FX.ev k fe with
    | no => first | rfl | (cases a <;> rfl)
    | is b =>
      exact (FRes.of_toO _).trans rfl

theorem run_mput (hE : ERel fe e) (s : Shape) (kn : Nat) (m : FX) (k : FX) (v : FX) : (FO.run (.mput s kn m k v) inst cx.ts fe h).toO = evOp cx e h (.mput s kn m.toX k.toX v.toX) := by
  simp only [evOp, ev_ok hE]
  change (OV.rec (motive := fun _ => FRes) FRes.no (fun a => _) (FX.ev m fe) : FRes).toO = _
  cases FX.ev m fe with
  | no => rfl
  | is a =>
    change (OV.rec (motive := fun _ => FRes) FRes.no (fun b => _) (FX.ev k fe) : FRes).toO = _
    cases FX.ev k fe with
    | no => cases a <;> rfl
    | is b =>
      change (OV.rec (motive := fun _ => FRes) FRes.no (fun c => _) (FX.ev v fe) : FRes).toO = _
      cases FX.ev v fe with
      | no => cases a <;> rfl
      | is c =>
        exact (FRes.of_toO _).trans (by cases a <;> rfl)

theorem run_asI (hE : ERel fe e) (tys : List TypeId) (zero : V) (ok : Bool) (x : FX) : (FO.run (.asI tys zero ok x) inst cx.ts fe h).toO = evOp cx e h (.asI tys zero ok x.toX) := by
  simp only [evOp, ev_ok hE]
  change (OV.rec (motive := fun _ => FRes) FRes.no (fun v => _) (FX.ev x fe) : FRes).toO = _
  cases FX.ev x fe with
  | no => rfl
  | is v =>
    exact (FRes.of_toO _).trans (by first | rfl | (cases v <;> rfl))

theorem run_asC (hE : ERel fe e) (t : TypeId) (zero : V) (ok : Bool) (x : FX) : (FO.run (.asC t zero ok x) inst cx.ts fe h).toO = evOp cx e h (.asC t zero ok x.toX) := by
  simp only [evOp, ev_ok hE]
  change (OV.rec (motive := fun _ => FRes) FRes.no (fun v => _) (FX.ev x fe) : FRes).toO = _
  cases FX.ev x fe with
  | no => rfl
  | is v =>
    exact (FRes.of_toO _).trans (by first | rfl | (cases v <;> rfl))

theorem run_ex (hE : ERel fe e) (i : Nat) (x : FX) : (FO.run (.ex i x) inst cx.ts fe h).toO = evOp cx e h (.ex i x.toX) := by
  simp only [evOp, ev_ok hE]
  change (OV.rec (motive := fun _ => FRes) FRes.no (fun v => _) (FX.ev x fe) : FRes).toO = _
  cases FX.ev x fe with
  | no => rfl
  | is v =>
    cases v with
    | tup vs => change (OV.rec (motive := fun _ => FRes) FRes.no FRes.val (lNth vs i) : FRes).toO = (vs[i]?).map Res.val; rw [ovVal, lNth_ok]
    | _ => rfl

theorem run_call (hE : ERel fe e) (f : FuncId) (args : List FX) : (FO.run (.call f args) inst cx.ts fe h).toO = evOp cx e h (.call f (args.map FX.toX)) := by
  simp only [evOp, ev_ok hE, evs_ok hE]
  change (OL.rec (motive := fun _ => FRes) FRes.no (fun vs => _) (fEvs args fe) : FRes).toO = _
  cases fEvs args fe with
  | no => rfl
  | is vs =>
    rfl

theorem run_callv (hE : ERel fe e) (f : FX) (args : List FX) : (FO.run (.callv f args) inst cx.ts fe h).toO = evOp cx e h (.callv f.toX (args.map FX.toX)) := by
  simp only [evOp, ev_ok hE, evs_ok hE]
  change (OV.rec (motive := fun _ => FRes) FRes.no (fun v => _) (FX.ev f fe) : FRes).toO = _
  cases FX.ev f fe with
  | no => rfl
  | is v =>
    change (OL.rec (motive := fun _ => FRes) FRes.no (fun vs => _) (fEvs args fe) : FRes).toO = _
    cases fEvs args fe with
    | no => cases v <;> rfl
    | is vs =>
      exact (FRes.of_toO _).trans (by cases v <;> rfl)

theorem run_inv (hE : ERel fe e) (tbl : List (TypeId × FuncId)) (x : FX) (args : List FX) : (FO.run (.inv tbl x args) inst cx.ts fe h).toO = evOp cx e h (.inv tbl x.toX (args.map FX.toX)) := by
  simp only [evOp, ev_ok hE, evs_ok hE]
  change (OV.rec (motive := fun _ => FRes) FRes.no (fun v => _) (FX.ev x fe) : FRes).toO = _
  cases FX.ev x fe with
  | no => rfl
  | is v =>
    change (OL.rec (motive := fun _ => FRes) FRes.no (fun vs => _) (fEvs args fe) : FRes).toO = _
    cases fEvs args fe with
    | no =>
      cases v with
      | ifc t u =>
        show none = (look? t tbl).bind fun f => none
        cases look? t tbl <;> rfl
      | _ => rfl
    | is vs =>
      refine (FRes.of_toO _).trans ?_
      cases v with
      | ifc t u =>
        show ((look? t tbl).map fun f => Res.call f (u :: vs)) = (look? t tbl).bind fun f => some (Res.call f (u :: vs))
        cases look? t tbl <;> rfl
      | _ => rfl

theorem run_lenS (hE : ERel fe e) (x : FX) : (FO.run (.lenS x) inst cx.ts fe h).toO = evOp cx e h (.lenS x.toX) := by
  simp only [evOp, ev_ok hE]
  change (OV.rec (motive := fun _ => FRes) FRes.no (fun v => _) (FX.ev x fe) : FRes).toO = _
  cases FX.ev x fe with
  | no => rfl
  | is v =>
    exact (FRes.of_toO _).trans (by first | rfl | (cases v <;> rfl))

theorem run_lenL (hE : ERel fe e) (x : FX) : (FO.run (.lenL x) inst cx.ts fe h).toO = evOp cx e h (.lenL x.toX) := by
  simp only [evOp, ev_ok hE]
  change (OV.rec (motive := fun _ => FRes) FRes.no (fun v => _) (FX.ev x fe) : FRes).toO = _
  cases FX.ev x fe with
  | no => rfl
  | is v =>
    cases v <;> rfl

theorem run_lenM (hE : ERel fe e) (x : FX) : (FO.run (.lenM x) inst cx.ts fe h).toO = evOp cx e h (.lenM x.toX) := by
  simp only [evOp, ev_ok hE]
  change (OV.rec (motive := fun _ => FRes) FRes.no (fun v => _) (FX.ev x fe) : FRes).toO = _
  cases FX.ev x fe with
  | no => rfl
  | is v =>
    exact (FRes.of_toO _).trans (by first | rfl | (cases v <;> rfl))

theorem run_lenA (hE : ERel fe e) (n : Nat) : (FO.run (.lenA n) inst cx.ts fe h).toO = evOp cx e h (.lenA n) := by
  rfl

theorem run_cap (hE : ERel fe e) (x : FX) : (FO.run (.cap x) inst cx.ts fe h).toO = evOp cx e h (.cap x.toX) := by
  simp only [evOp, ev_ok hE]
  change (OV.rec (motive := fun _ => FRes) FRes.no (fun v => _) (FX.ev x fe) : FRes).toO = _
  cases FX.ev x fe with
  | no => rfl
  | is v =>
    exact (FRes.of_toO _).trans (by first | rfl | (cases v <;> rfl))

theorem run_app (hE : ERel fe e) (esz : Nat) (bytes : Nat) (s : FX) (x : FX) : (FO.run (.app esz bytes s x) inst cx.ts fe h).toO = evOp cx e h (.app esz bytes s.toX x.toX) := by
  simp only [evOp, ev_ok hE]
  change (OV.rec (motive := fun _ => FRes) FRes.no (fun a => _) (FX.ev s fe) : FRes).toO = _
  cases FX.ev s fe with
  | no => rfl
  | is a =>
    change (OV.rec (motive := fun _ => FRes) FRes.no (fun b => _) (FX.ev x fe) : FRes).toO = _
    cases FX.ev x fe with
    | no => first | rfl | (cases a <;> rfl)
    | is b =>
      exact (FRes.of_toO _).trans rfl

theorem run_appZ (hE : ERel fe e) (esz : Nat) (bytes : Nat) (zero : List V) (s : FX) (n : FX) : (FO.run (.appZ esz bytes zero s n) inst cx.ts fe h).toO = evOp cx e h (.appZ esz bytes zero s.toX n.toX) := by
  simp only [evOp, ev_ok hE]
  change (OV.rec (motive := fun _ => FRes) FRes.no (fun a => _) (FX.ev s fe) : FRes).toO = _
  cases FX.ev s fe with
  | no => rfl
  | is a =>
    change (OV.rec (motive := fun _ => FRes) FRes.no (fun b => _) (FX.ev n fe) : FRes).toO = _
    cases FX.ev n fe with
    | no => first | rfl | (cases a <;> rfl)
    | is b =>
      exact (FRes.of_toO _).trans rfl

theorem run_copy (hE : ERel fe e) (esz : Nat) (d : FX) (s : FX) : (FO.run (.copy esz d s) inst cx.ts fe h).toO = evOp cx e h (.copy esz d.toX s.toX) := by
  simp only [evOp, ev_ok hE]
  change (OV.rec (motive := fun _ => FRes) FRes.no (fun a => _) (FX.ev d fe) : FRes).toO = _
  cases FX.ev d fe with
  | no => rfl
  | is a =>
    change (OV.rec (motive := fun _ => FRes) FRes.no (fun b => _) (FX.ev s fe) : FRes).toO = _
    cases FX.ev s fe with
    | no => first | rfl | (cases a <;> rfl)
    | is b =>
      exact (FRes.of_toO _).trans rfl

theorem run_clr (hE : ERel fe e) (zero : List V) (x : FX) : (FO.run (.clr zero x) inst cx.ts fe h).toO = evOp cx e h (.clr zero x.toX) := by
  simp only [evOp, ev_ok hE]
  change (OV.rec (motive := fun _ => FRes) FRes.no (fun v => _) (FX.ev x fe) : FRes).toO = _
  cases FX.ev x fe with
  | no => rfl
  | is v =>
    exact (FRes.of_toO _).trans (by first | rfl | (cases v <;> rfl))

theorem run_mxx (hE : ERel fe e) (xs : List FX) : (FO.run (.mxx xs) inst cx.ts fe h).toO = evOp cx e h (.mxx (xs.map FX.toX)) := by
  simp only [evOp, ev_ok hE, evs_ok hE]
  change (OL.rec (motive := fun _ => FRes) FRes.no (fun vs => _) (fEvs xs fe) : FRes).toO = _
  cases fEvs xs fe with
  | no => rfl
  | is vs =>
    exact (FRes.of_toO _).trans (by
      rcases vs with _ | ⟨v, r⟩
      · rfl
      · cases v <;> rfl)

theorem run_mnn (hE : ERel fe e) (xs : List FX) : (FO.run (.mnn xs) inst cx.ts fe h).toO = evOp cx e h (.mnn (xs.map FX.toX)) := by
  simp only [evOp, ev_ok hE, evs_ok hE]
  change (OL.rec (motive := fun _ => FRes) FRes.no (fun vs => _) (fEvs xs fe) : FRes).toO = _
  cases fEvs xs fe with
  | no => rfl
  | is vs =>
    exact (FRes.of_toO _).trans (by
      rcases vs with _ | ⟨v, r⟩
      · rfl
      · cases v <;> rfl)

theorem run_bad (hE : ERel fe e) : (FO.run (.bad) inst cx.ts fe h).toO = evOp cx e h (.bad) := by
  rfl

/-- ████ Each operation. -/
theorem run_ok (hE : ERel fe e) (o : FO) : (FO.run o inst cx.ts fe h).toO = evOp cx e h o.toRO := by
  cases o with
  | mv x => exact run_mv hE x
  | pick x y z => exact run_pick hE x y z
  | new cs => exact run_new hE cs
  | box esz x => exact run_box hE esz x
  | build zero parts => exact run_build hE zero parts
  | bsl esz zero len parts => exact run_bsl hE esz zero len parts
  | ld1 x => exact run_ld1 hE x
  | ldA sz x => exact run_ldA hE sz x
  | st sz a v => exact run_st hE sz a v
  | nilck x => exact run_nilck hE x
  | bin op x y => exact run_bin hE op x y
  | eq neg s x y => exact run_eq hE neg s x y
  | un op x => exact run_un hE op x
  | cvi k x => exact run_cvi hE k x
  | cvs x => exact run_cvs hE x
  | mkifc t x => exact run_mkifc hE t x
  | mkfn f first cap => exact run_mkfn hE f first cap
  | mkmap => exact run_mkmap hE
  | mksl esz bytes zero l c => exact run_mksl hE esz bytes zero l c
  | slStr x lo hi => exact run_slStr hE x lo hi
  | slSlc esz x lo hi mx => exact run_slSlc hE esz x lo hi mx
  | slArr n esz x lo hi mx => exact run_slArr hE n esz x lo hi mx
  | fadd off x => exact run_fadd hE off x
  | fld1 off x => exact run_fld1 hE off x
  | fldA off sz x => exact run_fldA hE off sz x
  | ixaA n esz x i => exact run_ixaA hE n esz x i
  | ixaS esz x i => exact run_ixaS hE esz x i
  | ixA1 n x i => exact run_ixA1 hE n x i
  | ixAA n esz x i => exact run_ixAA hE n esz x i
  | ixS x y => exact run_ixS hE x y
  | look s kn zero ok m k => exact run_look hE s kn zero ok m k
  | mput s kn m k v => exact run_mput hE s kn m k v
  | asI tys zero ok x => exact run_asI hE tys zero ok x
  | asC t zero ok x => exact run_asC hE t zero ok x
  | ex i x => exact run_ex hE i x
  | call f args => exact run_call hE f args
  | callv f args => exact run_callv hE f args
  | inv tbl x args => exact run_inv hE tbl x args
  | lenS x => exact run_lenS hE x
  | lenL x => exact run_lenL hE x
  | lenM x => exact run_lenM hE x
  | lenA n => exact run_lenA hE n
  | cap x => exact run_cap hE x
  | app esz bytes s x => exact run_app hE esz bytes s x
  | appZ esz bytes zero s n => exact run_appZ hE esz bytes zero s n
  | copy esz d s => exact run_copy hE esz d s
  | clr zero x => exact run_clr hE zero x
  | mxx xs => exact run_mxx hE xs
  | mnn xs => exact run_mnn hE xs
  | bad => exact run_bad hE

theorem cls_ok (o : FO) : FO.cls o = o.toRO.cls := by cases o <;> rfl
end
end Go.Ev
