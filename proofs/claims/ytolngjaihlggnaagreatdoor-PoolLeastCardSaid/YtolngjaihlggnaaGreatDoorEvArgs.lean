import Derived.Test.YtolngjaihlggnaaGreatDoorEvSymD
import Derived.OpenShut
import Derived.ReadAgain
import Derived.ChangeStays
import Derived.Deep.Fields
import Derived.WideShapes
/-! The caller's slices: what a reading says of the memory; that they read again as they did. -/
namespace Go.Ev
set_option linter.unusedVariables false
set_option linter.unusedSimpArgs false
set_option linter.unusedSectionVars false
open Go.ChangeShapes Go.WideShapes
variable {H : Type} {enc : TypeId × Value → H} {P : Program} {W W' : World}

theorem trodAll_fr (hl : laidOutB P = true) (hm : mapsRowed P = true) (hz : ∀ t e, t < P.types.size → P.underlying t = some (.slice e) → 0 < P.cellsOf e) (hf : Fr W W') {sp : Nat → Bool} :
    ∀ {ts : List TypeId} {vs : List Value} {ds : List (DataW H)} {ps : List MemPlace}, (∀ t ∈ ts, t < P.types.size) → DataW.TrodAll enc P W 0 (fun _ => true) true ts vs ds ps → (∀ p ∈ ps, sp p.block = true) → DataW.TrodAll enc P W' 0 sp true ts vs ds ps := by
  intro ts
  induction ts with
  | nil =>
    intro vs ds ps _ h _
    cases vs <;> cases ds <;> first | exact h | exact h.elim
  | cons t ts ih =>
    intro vs ds ps ht h hs
    cases vs with
    | nil => cases ds <;> exact h.elim
    | cons v vs =>
      cases ds with
      | nil => exact h.elim
      | cons d ds =>
        have hlt := DataW.TrodAll.lt h
        obtain ⟨p, q, ⟨fuel, h1⟩, h2, rfl⟩ := h
        refine ⟨p, q, ⟨fuel, DataW.trod_stays (kids_rows hl hm) (fun {t e} h1 h2 => hz t e h1 h2) (fun hh => by cases hh) (ht t List.mem_cons_self) h1 ?_ fun x hx => hs x (List.mem_append_left _ hx)⟩, ih (fun t' h' => ht t' (List.mem_cons_of_mem _ h')) h2 fun x hx => hs x (List.mem_append_right _ hx), rfl⟩
        intro x hx
        have hb := hlt x (List.mem_append_left _ hx)
        cases x with
        | cell b off =>
          show W'.cell? ⟨b, off, none⟩ = W.cell? ⟨b, off, none⟩
          unfold World.cell?
          rw [hf.same b hb]
        | map b => exact hf.same b hb

/-- A row of cells that are numbers, at an address. -/
theorem sin_of {a : Addr} {len cap : Nat} {k : IntKind} {esz : Nat} (hesz : 0 < esz) {Z : Nat → Int} (nm : Nat) (h : ∀ i, i < len * esz → W.cell? (a.add i) = some (.int k (Z i))) :
    ∃ ips, SIn W (.slice (some a) len cap) nm ips len k esz Z ∧ IpOk W nm ips := by
  rcases Nat.eq_zero_or_pos len with rfl | hpos
  · exact ⟨[], ⟨.inl ⟨rfl, _, _, rfl⟩⟩, ⟨fun x y hx => (by cases hx), fun x hx => by cases hx⟩⟩
  · obtain ⟨b, off, spot⟩ := a
    have hlz : 0 < len * esz := Nat.mul_pos hpos hesz
    have h0 := h 0 hlz
    have hspot : spot = none := by simpa [Addr.add] using World.cell?_spot h0
    subst hspot
    have hadd : ∀ i, (⟨b, off, none⟩ : Addr).add i = ⟨b, off + i, none⟩ := fun i => by unfold Addr.add; split <;> simp_all
    rw [hadd] at h0
    unfold World.cell? at h0
    cases hw : W.heap[b]? with
    | none => rw [hw] at h0; cases h0
    | some o =>
      cases o with
      | cells c ty fr =>
        have hget : ∀ i, i < len * esz → c[off + i]? = some (.int k (Z i)) := by
          intro i hi
          have hc := h i hi
          rw [hadd] at hc
          unfold World.cell? at hc
          rw [hw] at hc
          simpa using hc
        have hfit : off + len * esz ≤ c.size := by
          have := (Array.getElem?_eq_some_iff.1 (hget (len * esz - 1) (by omega))).1
          omega
        refine ⟨[⟨nm, b, off, c.size⟩], ⟨.inr ⟨b, off, cap, c.size, c, ty, fr, rfl, List.mem_singleton.2 rfl, hw, rfl, hfit, hget⟩⟩, fun x y hx hy => (List.mem_singleton.1 hx).trans (List.mem_singleton.1 hy).symm, fun x hx => ?_⟩
        obtain rfl := List.mem_singleton.1 hx
        exact ⟨rfl, c, ty, fr, hw, rfl, by show off ≤ c.size; omega⟩
      | _ => rw [hw] at h0; cases h0

/-- A slice of integers. -/
theorem in_ints {t e : TypeId} {k : IntKind} {v : Value} {d : DataW H} {p : List MemPlace} (ht : P.underlying t = some (.slice e)) (he : P.underlying e = some (.int k)) (hc : P.cellsOf e = 1)
    {r : Reach} {b0 : Nat} (hval : Value.okWide P W r b0 t v) (h : DataW.Trod enc P W 0 (fun _ => true) true t v d p) (nm : Nat) :
    ∃ L Z ips, SIn W v nm ips L k 1 Z ∧ IpOk W nm ips := by
  obtain ⟨a, len, cap, rfl⟩ := okWide_slice ht hval
  obtain ⟨fuel, h⟩ := h
  have hcells : (Value.slice a len cap).cells.toList = [.slice a len cap] := rfl
  rw [hcells] at h
  rcases open_ints ht he hc h with ⟨h1, _⟩ | ⟨a', len', cap', zs, h1, _, hle, _, hlen, _, hcell, _⟩
  · cases h1
    exact ⟨0, fun _ => 0, [], ⟨.inl ⟨rfl, _, _, rfl⟩⟩, ⟨fun x y hx => (by cases hx), fun x hx => by cases hx⟩⟩
  · cases h1
    simp only [if_true] at hlen
    obtain ⟨ips, h2, h3⟩ := sin_of (W := W) (a := a') (len := len) (cap := cap) (k := k) (esz := 1) (by decide) (Z := fun i => zs.getD i 0) nm (fun i hi => hcell i (by omega))
    exact ⟨len, _, ips, h2, h3⟩

/-- A slice of structs of integers alone. -/
theorem in_structs {t e ti : TypeId} {k : IntKind} {fs : Array Field} {v : Value} {d : DataW H} {p : List MemPlace} (ht : P.underlying t = some (.slice e)) (he : P.underlying e = some (.struct fs)) (hone : ∀ (i : Nat) (f : Field), fs[i]? = some f → f.offset = i ∧ P.cellsOf f.type = 1)
    (hint : ∀ (i : Nat) (f : Field), fs[i]? = some f → P.underlying f.type = some (.int k)) (hc : P.cellsOf e = fs.size) (hpos : 0 < fs.size)
    {r : Reach} {b0 : Nat} (hval : Value.okWide P W r b0 t v) (h : DataW.Trod enc P W 0 (fun _ => true) true t v d p) (nm : Nat) :
    ∃ L Z ips, SIn W v nm ips L k fs.size Z ∧ IpOk W nm ips := by
  obtain ⟨a, len, cap, rfl⟩ := okWide_slice ht hval
  obtain ⟨fuel, h⟩ := h
  have hcells : (Value.slice a len cap).cells.toList = [.slice a len cap] := rfl
  rw [hcells] at h
  rcases Go.Deep.open_slice ht h with ⟨h1, _⟩ | ⟨a', len', cap', m, n, D, Pl, h1, _, hle, _, hm, _, hx⟩
  · cases h1
    exact ⟨0, fun _ => 0, [], ⟨.inl ⟨rfl, _, _, rfl⟩⟩, ⟨fun x y hx => (by cases hx), fun x hx => by cases hx⟩⟩
  · cases h1
    simp only [if_true] at hm
    subst hm
    rw [hc] at hx
    have cell : ∀ i, i < len * fs.size → ∃ z, W.cell? (a'.add i) = some (.int k z) := by
      intro i hi
      have hq : i / fs.size < len := by rw [Nat.div_lt_iff_lt_mul hpos]; exact hi
      obtain ⟨cs', h1, h2⟩ := hx (i / fs.size) (by omega)
      obtain ⟨_, hlen, hcell⟩ := World.cells?_some h1
      obtain ⟨xs, m', _, _, _, hxl, hf⟩ := DataW.trod_struct he h2
      have hr : i % fs.size < fs.size := Nat.mod_lt _ hpos
      have hfi : fs[i % fs.size]? = some fs[i % fs.size] := by simp [hr]
      obtain ⟨ho, hc1⟩ := hone _ _ hfi
      have g := hf _ _ hfi
      rw [ho, hc1] at g
      have hlt : i % fs.size < cs'.length := by omega
      rw [Go.Deep.take1_drop cs' (i % fs.size) undef hlt] at g
      have hxs : i % fs.size < xs.length := by omega
      rw [List.getElem?_eq_getElem hxs] at g
      obtain ⟨z, hz, _, _⟩ := DataW.trod_int (hint _ _ hfi) g
      simp only [List.cons.injEq, and_true] at hz
      have hcc := hcell (i % fs.size) hr
      rw [Go.Deep.add_add] at hcc
      have hsum : i / fs.size * fs.size + i % fs.size = i := by rw [Nat.mul_comm]; exact Nat.div_add_mod i fs.size
      rw [hsum] at hcc
      refine ⟨z, ?_⟩
      rw [hcc, List.getElem?_eq_getElem hlt]
      rw [List.getD_eq_getElem?_getD, List.getElem?_eq_getElem hlt] at hz
      simpa using hz
    have hch : ∀ i, ∃ z : Int, i < len * fs.size → W.cell? (a'.add i) = some (.int k z) := by
      intro i
      by_cases hi : i < len * fs.size
      · obtain ⟨z, hz⟩ := cell i hi
        exact ⟨z, fun _ => hz⟩
      · exact ⟨0, fun hh => absurd hh hi⟩
    have hZ := fun i => Classical.choose_spec (hch i)
    obtain ⟨ips, h2, h3⟩ := sin_of (W := W) (a := a') (len := len) (cap := _) (k := k) (esz := fs.size) hpos (Z := fun i => Classical.choose (hch i)) nm hZ
    exact ⟨len, _, ips, h2, h3⟩
end Go.Ev
