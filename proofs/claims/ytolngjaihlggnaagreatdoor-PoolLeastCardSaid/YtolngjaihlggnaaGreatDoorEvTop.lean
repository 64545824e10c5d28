import Derived.Test.YtolngjaihlggnaaGreatDoorEvCall
import GoSem.ClaimChange
import Derived.Laws.World
import Derived.KernelRfl
/-! At the top: what stays as it was; oracles for package errors; a closed call that leaves nothing behind. -/
namespace Go.Ev
set_option linter.unusedVariables false
set_option linter.unusedSimpArgs false
set_option linter.unusedSectionVars false
variable [Sig]

section
variable {P : Program} {base : Nat} {ρ ρ' : Rho} {h h' : H} {w w' : World} {cx : Cx}

theorem kept_of_ext (hx : Ext ρ h w ρ' h' w') (hno : ∀ b, ¬ own h b) (may : MemPlace → Prop) : World.keptBut w w' may := by
  refine ⟨hx.os, hx.out, fun i hi => ?_⟩
  rw [hx.frame i hi fun b e ho _ => absurd ho (hno b)]
  cases w.heap[i]? with
  | none => rfl
  | some o => cases o <;> first | exact ⟨rfl, rfl, rfl, fun _ _ => rfl⟩ | exact .inr ⟨rfl, rfl⟩ | rfl

/-- A block of the world that has no name. -/
theorem Rel.anon (hR : Rel base ρ h w) (c : Array Value) (t : TypeId) : Rel base ρ h (w.alloc (.cells c t)) ∧ Ext ρ h w ρ h (w.alloc (.cells c t)) := by
  refine ⟨⟨fun x blk e h1 h2 => ?_, hR.dom, hR.inj, Nat.le_trans hR.sz (by simp)⟩, ⟨.refl ρ, fun x e h1 h2 => (by rw [h1] at h2; cases h2), Nat.le_refl _, by simp, rfl, rfl, frozen_alloc_cells w c t, fun i hi _ => heap_alloc_ne w _ (by omega), fun x e ho he => .inr ⟨x, e, ho, he, rfl⟩⟩⟩
  have hb := hR.blk x blk e h1 h2
  exact hb.of_heap fun hd => heap_alloc_ne w _ (Nat.ne_of_lt (hb.lt hd))

/-- The call of errors.As. -/
structure AsOk (P : Program) (asId g G rt errT tp tpp : Nat) : Prop where
  good : goodFn P asId = true
  nilCase : ∀ t w, Calls P asId #[.nilIface, t] w fun e w' => e = .returned (.bool false) ∧ w' = w
  hit : ∀ e t old w, w.cell? ⟨g, 0, none⟩ = some (.iface rt (.agg #[.pointer (some ⟨G, errT, none⟩)])) → w.cell? t = some old → w.frozen? t = false →
    Calls P asId #[.iface tp (.pointer (some e)), .iface tpp (.pointer (some t))] w fun ev w' => ev = .returned (.bool true) ∧
      ∃ c1 t1 c2 t2 c3 t3 c4 t4, w' = ((((w.alloc (.cells c1 t1)).alloc (.cells c2 t2)).alloc (.cells c3 t3)).alloc (.cells c4 t4)).setCell t (.pointer (some e))

def errCell (h : H) (g G rt errT : Nat) : Bool :=
  match h.get g with
  | some (.cells [.ifc r (.agg [.ptr G' e'])] true) => Nat.beq r rt && Nat.beq G' G && Nat.beq e' errT
  | _ => false

def asO (g G rt errT tp tpp : Nat) (az : List V) (h : H) : Option (V × H) :=
  match az with
  | [.nili, _] => some (.bool false, h)
  | [.ifc t (.ptr be oe), .ifc u (.ptr b o)] =>
    bif Nat.beq t tp && Nat.beq u tpp && errCell h g G rt errT then (h.stA b o [.ptr be oe]).map fun h' => (.bool true, h') else none
  | _ => none

/-- What stands for a call, soundly. -/
def OrcOk (P : Program) (base : Nat) (f : FuncId) (g : List V → H → Option (V × H)) : Prop :=
  ∀ az h v h', g az h = some (v, h') → ∀ ρ w az', Pins P ρ → Rel base ρ h w → LRel ρ az az' →
    Does P f az'.toArray w fun v' w' => ∃ ρ', Rel base ρ' h' w' ∧ Ext ρ h w ρ' h' w' ∧ VRel ρ' v v'

theorem orcs_of (hall : ∀ f g, cx.orc f = some g → OrcOk P base f g) : OrcSound P base cx := fun f g h => hall f g h

theorem does_of_calls {f : FuncId} (hg : goodFn P f = true) {args : Array Value} {K : Value → World → Prop} (hc : Calls P f args w fun e w' => ∃ v, e = .returned v ∧ K v w') : Does P f args w K := by
  intro o a next Q hn
  rw [run_enter hg, Oper.upon_enter]
  exact hc.mono fun r w' ⟨v, h1, h2⟩ => by subst h1; exact hn v w' h2

theorem does_of_run {f : FuncId} {args : Array Value} {K : Value → World → Prop} {v : Value} (hr : (callFunc f args).run P w = .ok (.value v) w) (hk : K v w) : Does P f args w K := by
  intro o a next Q hn
  rw [hr]
  exact hn v w hk

theorem lrel_two {a b : V} {l : List Value} (h : LRel ρ [a, b] l) : ∃ x y, l = [x, y] ∧ VRel ρ a x ∧ VRel ρ b y := by
  obtain ⟨h1, h2⟩ := h
  match l, h1 with
  | [x, y], _ => exact ⟨x, y, rfl, h2 0 a x rfl rfl, h2 1 b y rfl rfl⟩

theorem lrel_one {a : V} {l : List Value} (h : LRel ρ [a] l) : ∃ x, l = [x] ∧ VRel ρ a x := by
  obtain ⟨h1, h2⟩ := h
  match l, h1 with
  | [x], _ => exact ⟨x, rfl, h2 0 a x rfl rfl⟩

theorem lrel_nil {l : List Value} (h : LRel ρ [] l) : l = [] := List.length_eq_zero_iff.1 h.1.symm

theorem vrel_agg1 {v : V} {x : Value} (h : VRel ρ (.agg [v]) x) : ∃ y, x = .agg #[y] ∧ VRel ρ v y := by
  cases h with
  | agg _ a' la ha =>
    obtain ⟨y, rfl, hy⟩ := lrel_one (ρ := ρ) (a := v) ⟨la, ha⟩
    exact ⟨y, rfl, hy⟩

theorem errCell_cell {g G rt errT : Nat} (hp : Pins P ρ) (hG : G = P.globals.size) (hgG : g ≤ P.globals.size) (hR : Rel base ρ h w) (he : errCell h g G rt errT = true) :
    w.cell? ⟨g, 0, none⟩ = some (.iface rt (.agg #[.pointer (some ⟨G, errT, none⟩)])) := by
  unfold errCell at he
  split at he
  · rename_i r G' e' hb
    simp only [Bool.and_eq_true] at he
    obtain ⟨⟨h1, h2⟩, h3⟩ := he
    have h1 := nbeq h1; have h2 := nbeq h2; have h3 := nbeq h3
    subst h1; subst h2; subst h3
    obtain ⟨eg, k1, k2, k3⟩ := hp g hgG
    obtain ⟨eG, k4, k5, k6⟩ := hp G' (by omega)
    obtain ⟨v', k7, k8⟩ := hR.load1 k1 (o := 0) (v := .ifc r (.agg [.ptr G' e'])) (by simp [H.ld1, H.cells, hb])
    rw [k2, k3] at k7
    rw [k7]
    cases k8 with
    | ifc _ _ x hx =>
      obtain ⟨y, rfl, hy⟩ := vrel_agg1 hx
      cases hy with
      | ptr _ _ e2 he2 =>
        rw [k4] at he2
        cases he2
        rw [k5, k6, Nat.zero_add]
  · cases he

theorem own_unfrozen {b o : Nat} {e : Ent} (hR : Rel base ρ h w) {cs : List V} (hb : h.get b = some (.cells cs false)) (he : ρ b = some e) : w.frozen? ⟨e.rb, e.ro + o, none⟩ = false := by
  obtain ⟨c, ty, fr, h1, h2, h3, h4, _⟩ := hR.blk b _ e hb he
  obtain ⟨h5, _⟩ := h4 rfl
  subst h5
  simp [World.frozen?, h1]

theorem as_ok {asId g G rt errT tp tpp : Nat} (A : AsOk P asId g G rt errT tp tpp) (hG : G = P.globals.size) (hg : g ≤ P.globals.size) : OrcOk P base asId (asO g G rt errT tp tpp) := by
  intro az h v h' hev ρ w az' hp hR ha
  refine does_of_calls A.good ?_
  unfold asO at hev
  split at hev
  · simp only [Option.some.injEq, Prod.mk.injEq] at hev
    obtain ⟨rfl, rfl⟩ := hev
    obtain ⟨x, y, rfl, hx, hy⟩ := lrel_two ha
    cases hx
    exact (A.nilCase y w).mono fun e w' ⟨h1, h2⟩ => ⟨_, h1, ρ, by rw [h2]; exact hR, by rw [h2]; exact Ext.refl _ _ _, .bool _⟩
  · rename_i t be oe u b o
    cases hc : (Nat.beq t tp && Nat.beq u tpp && errCell h g G rt errT) with
    | false => rw [hc] at hev; simp at hev
    | true =>
      rw [hc] at hev
      simp only [cond_true, Option.map_eq_some_iff, Prod.mk.injEq] at hev
      obtain ⟨h2, hst, rfl, rfl⟩ := hev
      simp only [Bool.and_eq_true] at hc
      obtain ⟨⟨c1, c2⟩, c3⟩ := hc
      have c1 := nbeq c1; have c2 := nbeq c2
      subst c1; subst c2
      obtain ⟨x, y, rfl, hx, hy⟩ := lrel_two ha
      cases hx with
      | ifc _ _ x hx =>
        cases hx with
        | ptr _ _ ee hee =>
          cases hy with
          | ifc _ _ y hy =>
            cases hy with
            | ptr _ _ et het =>
              have hcell := errCell_cell hp hG hg hR c3
              have hblk : ∃ cs old, h.get b = some (.cells cs false) ∧ h.ld1 b o = some old := by
                unfold H.stA at hst
                split at hst
                · rename_i cs hb
                  cases hle : (Nat.ble (o + [V.ptr be oe].length) cs.length && ones [V.ptr be oe]) with
                  | false => rw [hle] at hst; simp at hst
                  | true =>
                    simp only [Bool.and_eq_true] at hle
                    have hlt := nble hle.1
                    simp only [List.length_cons, List.length_nil, Nat.zero_add] at hlt
                    exact ⟨cs, cs[o], hb, by simp [H.ld1, H.cells, hb]⟩
                · cases hst
              obtain ⟨cs, old, hb, hld⟩ := hblk
              obtain ⟨old', k1, _⟩ := hR.load1 het hld
              have k2 := own_unfrozen (o := o) hR hb het
              refine (A.hit ⟨ee.rb, ee.ro + oe, none⟩ ⟨et.rb, et.ro + o, none⟩ old' w hcell k1 k2).mono fun ev w' ⟨g1, d1, t1, d2, t2, d3, t3, d4, t4, g2⟩ => ⟨_, g1, ?_⟩
              obtain ⟨r1, x1⟩ := hR.anon d1 t1
              obtain ⟨r2, x2⟩ := r1.anon d2 t2
              obtain ⟨r3, x3⟩ := r2.anon d3 t3
              obtain ⟨r4, x4⟩ := r3.anon d4 t4
              obtain ⟨w5, hrun, r5, x5⟩ := r4.storeA (P := P) het (vs := [.ptr be oe]) (vs' := [.pointer (some ⟨ee.rb, ee.ro + oe, none⟩)]) (.one (.ptr _ _ _ hee)) hst
              have hw5 : w5 = w' := by
                obtain ⟨old4, k3, _⟩ := r4.load1 het hld
                have k4 := own_unfrozen (o := o) r4 hb het
                have hadd : (⟨et.rb, et.ro + o, none⟩ : Addr).add 0 = ⟨et.rb, et.ro + o, none⟩ := by unfold Addr.add; split <;> simp_all
                have : (storeCells ⟨et.rb, et.ro + o, none⟩ [.pointer (some ⟨ee.rb, ee.ro + oe, none⟩)]).run P ((((w.alloc (.cells d1 t1)).alloc (.cells d2 t2)).alloc (.cells d3 t3)).alloc (.cells d4 t4)) = .ok () w' := by
                  simp only [storeCells, Sem.run_bind, hadd]
                  rw [run_store P _ _ _ _ (by rfl), k3, g2]
                  simp [k4]
                rw [hrun] at this
                cases this
                rfl
              subst hw5
              exact ⟨ρ, r5, (((x1.trans x2).trans x3).trans x4).trans x5, .bool _⟩
  · cases hev

/-- reflectlite.TypeOf, of an error of the one type or of none. -/
def tyO (G rt tp : Nat) (az : List V) (h : H) : Option (V × H) :=
  match az with
  | [.nili] => some (.nili, h)
  | [.ifc t v] => bif Nat.beq t tp then some (.ifc rt (.agg [.ptr G t]), h) else none
  | _ => none

theorem ty_ok {tyId G rt tp : Nat} (hG : G = P.globals.size) (h0 : ∀ w, (callFunc tyId #[.nilIface]).run P w = .ok (.value .nilIface) w)
    (h1 : ∀ v w, (callFunc tyId #[.iface tp v]).run P w = .ok (.value (.iface rt (.agg #[.pointer (some ⟨G, tp, none⟩)]))) w) : OrcOk P base tyId (tyO G rt tp) := by
  intro az h v h' hev ρ w az' hp hR ha
  unfold tyO at hev
  split at hev
  · simp only [Option.some.injEq, Prod.mk.injEq] at hev
    obtain ⟨rfl, rfl⟩ := hev
    obtain ⟨x, rfl, hx⟩ := lrel_one ha
    cases hx
    exact does_of_run (h0 w) ⟨ρ, hR, Ext.refl _ _ _, .nili⟩
  · rename_i t u
    cases hc : Nat.beq t tp with
    | false => rw [hc] at hev; simp at hev
    | true =>
      rw [hc] at hev
      simp only [cond_true, Option.some.injEq, Prod.mk.injEq] at hev
      obtain ⟨rfl, rfl⟩ := hev
      have hc := nbeq hc
      subst hc
      obtain ⟨x, rfl, hx⟩ := lrel_one ha
      cases hx with
      | ifc _ _ x hx =>
        obtain ⟨eG, k4, k5, k6⟩ := hp G (by omega)
        refine does_of_run (h1 x w) ⟨ρ, hR, Ext.refl _ _ _, .ifc _ _ _ (.agg' (.one ?_))⟩
        have := VRel.ptr G t eG k4
        rw [k5, k6, Nat.zero_add] at this
        exact this
  · cases hev

/-- (rtype).Comparable, of the one type. -/
def cmpO (G tp : Nat) (az : List V) (h : H) : Option (V × H) :=
  match az with
  | [.agg [.ptr g t]] => bif Nat.beq t tp && Nat.beq g G then some (.bool true, h) else none
  | _ => none

theorem cmp_ok {cmpId G tp : Nat} (hG : G = P.globals.size) (h1 : ∀ w, (callFunc cmpId #[.agg #[.pointer (some ⟨G, tp, none⟩)]]).run P w = .ok (.value (.bool true)) w) : OrcOk P base cmpId (cmpO G tp) := by
  intro az h v h' hev ρ w az' hp hR ha
  unfold cmpO at hev
  split at hev
  · rename_i g t
    cases hc : (Nat.beq t tp && Nat.beq g G) with
    | false => rw [hc] at hev; simp at hev
    | true =>
      rw [hc] at hev
      simp only [cond_true, Option.some.injEq, Prod.mk.injEq] at hev
      obtain ⟨rfl, rfl⟩ := hev
      simp only [Bool.and_eq_true] at hc
      have c1 := nbeq hc.1; have c2 := nbeq hc.2
      subst c1; subst c2
      obtain ⟨x, rfl, hx⟩ := lrel_one ha
      obtain ⟨y, rfl, hy⟩ := vrel_agg1 hx
      obtain ⟨eG, k4, k5, k6⟩ := hp g (by omega)
      cases hy with
      | ptr _ _ e2 he2 =>
        rw [k4] at he2
        cases he2
        rw [k5, k6, Nat.zero_add]
        exact does_of_run (h1 w) ⟨ρ, hR, Ext.refl _ _ _, .bool _⟩
  · cases hev

/-- The law itself. -/
theorem top_calls (hm : P.follows .mixedOrders = true) (hts : TsOk P cx.ts) (hft : FtOk P cx.ft) (horc : OrcSound P base cx) {fuel n f : Nat} (ho : cx.orc f = none) {az : List V} {v : V}
    (hev : evCall cx fuel (n + 1) f az h = some (v, h')) (hp : Pins P ρ) (hr : Rel base ρ h w) {az' : List Value} (ha : LRel ρ az az') :
    Calls P f az'.toArray w fun r w' => ∃ v', r = .returned v' ∧ ∃ ρ', Rel base ρ' h' w' ∧ Ext ρ h w ρ' h' w' ∧ VRel ρ' v v' := by
  simp only [evCall, ho] at hev
  cases hg : cx.ft.get f with
  | none => rw [hg] at hev; simp at hev
  | some rf =>
    rw [hg] at hev
    simp only at hev
    cases hc : evCode cx (evCall cx fuel n) fuel rf.body (envOf az 0 .nil) h with
    | none => rw [hc] at hev; simp at hev
    | some p =>
      obtain ⟨x, e1, h1⟩ := p
      rw [hc] at hev
      have hx : ∀ i, x ≠ .exit i := fun i hi => by subst hi; simp at hev
      have hev : (match evRess e1 h1 rf.res with | some vs => some (packRes vs, h1) | none => none) = some (v, h') := by
        cases x with
        | exit i => exact absurd rfl (hx i)
        | nrm => exact hev
        | ret => exact hev
      cases hrs : evRess e1 h1 rf.res with
      | none => rw [hrs] at hev; cases hev
      | some vs =>
        rw [hrs] at hev
        simp only [Option.some.injEq, Prod.mk.injEq] at hev
        obtain ⟨rfl, rfl⟩ := hev
        exact func_calls hm hts (hft f rf hg) (call_ok hm hts hft horc fuel n) hc hx hrs hp hr ha

/-- The run came to 'true'. -/
def isT : Option (V × H) → Bool
  | some (.bool true, _) => true
  | _ => false
theorem isT_some {r : Option (V × H)} (hr : isT r = true) : ∃ h', r = some (.bool true, h') := by
  unfold isT at hr
  split at hr
  · exact ⟨_, rfl⟩
  · cases hr

/-- The least heap: the one listed variable. -/
def hMin (g G rt errT : Nat) : H := ⟨T.set .nil g (.cells [.ifc rt (.agg [.ptr G errT])] true), G + 1⟩

theorem hMin_get {g G rt errT x : Nat} {blk : Blk} (hx : (hMin g G rt errT).get x = some blk) : x = g ∧ blk = .cells [.ifc rt (.agg [.ptr G errT])] true := by
  unfold hMin H.get at hx
  by_cases hxg : g = x
  · subst hxg
    rw [T.get_set_same] at hx
    cases hx
    exact ⟨rfl, rfl⟩
  · rw [T.get_set_ne _ _ hxg] at hx
    simp [T.get] at hx

theorem hMin_own {g G rt errT : Nat} (b : Nat) : ¬ own (hMin g G rt errT) b := by
  rintro ⟨blk, h1, h2⟩
  obtain ⟨_, rfl⟩ := hMin_get h1
  cases h2

/-- The world at the call's beginning, held by the least heap. -/
def rhoMin (w : World) (G : Nat) : Rho := fun b => if b ≤ G then some ⟨b, 0, match w.heap[b]? with | some (.cells c _ _) => c.size | _ => 0⟩ else none

theorem rhoMin_at (w : World) {G b : Nat} (hb : b ≤ G) : rhoMin w G b = some ⟨b, 0, match w.heap[b]? with | some (.cells c _ _) => c.size | _ => 0⟩ := if_pos hb

theorem pinsMin (w : World) {G : Nat} (hG : G = P.globals.size) : Pins P (rhoMin w G) := fun g hg => ⟨_, rhoMin_at w (by omega), rfl, rfl⟩

theorem relMin {g G rt errT : Nat} (hg : g ≤ G) (hc : w.cell? ⟨g, 0, none⟩ = some (.iface rt (.agg #[.pointer (some ⟨G, errT, none⟩)]))) : Rel w.heap.size (rhoMin w G) (hMin g G rt errT) w := by
  refine ⟨fun x blk e h1 h2 => ?_, fun x e h1 => ?_, fun x y ex ey hx => absurd hx (hMin_own x), Nat.le_refl _⟩
  · obtain ⟨rfl, rfl⟩ := hMin_get h1
    rw [rhoMin_at w hg] at h2
    cases h2
    unfold World.cell? at hc
    cases hw : w.heap[x]? with
    | none => rw [hw] at hc; simp at hc
    | some o =>
      rw [hw] at hc
      cases o with
      | cells c ty fr =>
        simp only at hc
        have hlt : x < w.heap.size := (Array.getElem?_eq_some_iff.1 hw).1
        have h0 : 0 < c.size := by
          apply Nat.lt_of_not_le
          intro hle
          rw [Array.getElem?_eq_none (by omega)] at hc
          cases hc
        refine ⟨c, ty, fr, hw, by simp [hw], ⟨by simp; omega, ?_⟩, fun hh => (by cases hh), fun _ => hlt⟩
        have hl : ((c.toList.drop 0).take 1) = [.iface rt (.agg #[.pointer (some ⟨G, errT, none⟩)])] := by
          have h00 : c[0] = .iface rt (.agg #[.pointer (some ⟨G, errT, none⟩)]) := by simpa [h0] using hc
          apply List.ext_getElem?
          intro i
          rcases i with _ | i
          · simp [List.getElem?_take, h0, h00]
          · simp [List.getElem?_take]
        have hone : [V.ifc rt (.agg [.ptr G errT])].length = 1 := rfl
        rw [hone, hl]
        refine .one (.ifc _ _ _ (.agg' (.one ?_)))
        have := VRel.ptr (ρ := rhoMin w G) G errT _ (rhoMin_at w (Nat.le_refl G))
        simpa using this
      | _ => simp at hc
  · unfold rhoMin at h1
    split at h1
    · exact Nat.lt_succ_of_le (by assumption)
    · cases h1

/-- A call without arguments that comes to 'true' and leaves nothing behind. -/
def trueO (g G rt errT : Nat) (az : List V) (h : H) : Option (V × H) :=
  match az with
  | [] => bif errCell h g G rt errT then some (.bool true, h) else none
  | _ => none

theorem errCell_get {g G rt errT : Nat} (he : errCell h g G rt errT = true) : h.get g = some (.cells [.ifc rt (.agg [.ptr G errT])] true) := by
  unfold errCell at he
  split at he
  · rename_i r G' e' hb
    simp only [Bool.and_eq_true] at he
    obtain ⟨⟨h1, h2⟩, h3⟩ := he
    have h1 := nbeq h1; have h2 := nbeq h2; have h3 := nbeq h3
    subst h1; subst h2; subst h3
    exact hb
  · cases he

theorem true_ok {g G rt errT : Nat} (hG : G = P.globals.size) (hg : g ≤ G) (hm : P.follows .mixedOrders = true) (hts : TsOk P cx.ts) (hft : FtOk P cx.ft) (horc : OrcSound P base cx) {fuel n f : Nat} {hend : H}
    (hev : evCall cx fuel n f [] (hMin g G rt errT) = some (.bool true, hend)) : OrcOk P base f (trueO g G rt errT) := by
  intro az h v h' ho ρ w az' hp hR ha
  unfold trueO at ho
  split at ho
  · cases hc : errCell h g G rt errT with
    | false => rw [hc] at ho; simp at ho
    | true =>
      rw [hc] at ho
      simp only [cond_true, Option.some.injEq, Prod.mk.injEq] at ho
      obtain ⟨rfl, rfl⟩ := ho
      have hget := errCell_get hc
      have hpm : Pins P (fun b => if b ≤ G then ρ b else none) := fun x hx => by
        obtain ⟨e, h1, h2⟩ := hp x hx
        exact ⟨e, by simp only; rw [if_pos (by omega)]; exact h1, h2⟩
      have hRm : Rel base (fun b => if b ≤ G then ρ b else none) (hMin g G rt errT) w := by
        refine ⟨fun x blk e h1 h2 => ?_, fun x e h1 => ?_, fun x y ex ey hx => absurd hx (hMin_own x), hR.sz⟩
        · obtain ⟨rfl, rfl⟩ := hMin_get h1
          simp only [if_pos hg] at h2
          obtain ⟨c, ty, fr, k1, k2, k3, k4, k5⟩ := hR.blk x _ e hget h2
          obtain ⟨k6, k7⟩ := k3
          refine ⟨c, ty, fr, k1, k2, ⟨k6, k7.1, fun i a b hia hib => ?_⟩, k4, k5⟩
          have hab := k7.2 i a b hia hib
          rcases i with _ | i
          · simp at hia
            subst hia
            cases hab with
            | ifc _ _ z hz =>
              obtain ⟨y, rfl, hy⟩ := vrel_agg1 hz
              cases hy with
              | ptr _ _ e2 he2 => exact .ifc _ _ _ (.agg' (.one (.ptr _ _ _ (by show (if G ≤ G then ρ G else none) = some e2; rw [if_pos (Nat.le_refl _)]; exact he2))))
          · simp at hia
        · by_cases hx : x ≤ G
          · exact Nat.lt_succ_of_le hx
          · simp only [if_neg hx] at h1; cases h1
      have hdoes := call_ok hm hts hft horc fuel n f [] _ _ _ hev _ w az' hpm hRm (by rw [lrel_nil ha]; exact .nil _)
      refine hdoes.mono fun v' w' ⟨ρ1, r1, x1, hv⟩ => ?_
      cases hv
      have hsame : ∀ i, i < w.heap.size → w'.heap[i]? = w.heap[i]? := fun i hi => x1.frame i hi fun b e hb _ => absurd hb (hMin_own b)
      refine ⟨ρ, ⟨fun x blk e h1 h2 => ?_, hR.dom, hR.inj, Nat.le_trans hR.sz x1.size⟩, ⟨.refl ρ, fun x e h1 h2 => (by rw [h1] at h2; cases h2), Nat.le_refl _, x1.size, x1.os, x1.out, x1.frz, fun i hi _ => hsame i hi, fun x e ho he => .inr ⟨x, e, ho, he, rfl⟩⟩, .bool _⟩
      have hb := hR.blk x blk e h1 h2
      exact hb.of_heap fun hd => hsame _ (hb.lt hd)
  · cases ho
end
end Go.Ev
