import Derived.Test.YtolngjaihlggnaaGreatDoorEvCore
import Derived.Laws.CopyRow
import Derived.Laws.Rows
/-! The abstract heap held against the world: which block stands for which. -/
namespace Go.Ev
set_option linter.unusedVariables false
set_option linter.unusedSimpArgs false
set_option linter.unusedSectionVars false

/-- What an abstract block stands for: the world's block, from which cell on, how many cells that block has. -/
structure Ent where
  rb : Nat
  ro : Nat
  rsz : Nat

abbrev Rho := Nat → Option Ent
def Rle (ρ ρ' : Rho) : Prop := ∀ b e, ρ b = some e → ρ' b = some e
theorem Rle.refl (ρ : Rho) : Rle ρ ρ := fun _ _ h => h
theorem Rle.trans {a b c : Rho} (h : Rle a b) (h' : Rle b c) : Rle a c := fun _ _ x => h' _ _ (h _ _ x)
def Rho.add (ρ : Rho) (b : Nat) (e : Ent) : Rho := fun i => if i = b then some e else ρ i

def SlcOk (e : Ent) (o len cap sz ro' cap' : Nat) : Prop :=
  (sz = 0 ∧ cap' = cap ∧ ro' = e.ro + o) ∨ (sz ≠ 0 ∧ ((len ≤ cap ∧ cap ≤ cap' ∧ ro' = e.ro + o ∧ ro' + cap' * sz ≤ e.rsz) ∨ (len = 0 ∧ cap = 0 ∧ cap' = 0)))

variable [Sig]

inductive VRel (ρ : Rho) : V → Value → Prop
  | bool (b : Bool) : VRel ρ (.bool b) (.bool b)
  | int (k : IntKind) (n : Int) : VRel ρ (.int k n) (.int k n)
  | sym (k : IntKind) (i : Nat) : VRel ρ (.sym k i) (.int k (Sig.val i))
  | str (s : ByteArray) (l : List Nat) (h : s.data.toList.map UInt8.toNat = l) : VRel ρ (.str l) (.string s)
  | nilp : VRel ρ .nilp (.pointer none)
  | ptr (b o : Nat) (e : Ent) (h : ρ b = some e) : VRel ρ (.ptr b o) (.pointer (some ⟨e.rb, e.ro + o, none⟩))
  | nils : VRel ρ .nils (.slice none 0 0)
  | slc (b o len cap sz : Nat) (e : Ent) (ro' cap' : Nat) (h : ρ b = some e) (hs : SlcOk e o len cap sz ro' cap') :
      VRel ρ (.slc b o len cap sz) (.slice (some ⟨e.rb, ro', none⟩) len cap')
  | nilm : VRel ρ .nilm (.map none)
  | map (r : Nat) (e : Ent) (h : ρ r = some e) : VRel ρ (.map r) (.map (some e.rb))
  | nilf : VRel ρ .nilf .nilFunc
  | fn (f : FuncId) (a c : List V) (a' c' : List Value) (la : a.length = a'.length) (lc : c.length = c'.length)
      (ha : ∀ (i : Nat) x y, a[i]? = some x → a'[i]? = some y → VRel ρ x y) (hc : ∀ (i : Nat) x y, c[i]? = some x → c'[i]? = some y → VRel ρ x y) :
      VRel ρ (.fn f a c) (.func (.func f) ⟨a'⟩ ⟨c'⟩)
  | nili : VRel ρ .nili .nilIface
  | ifc (t : TypeId) (v : V) (v' : Value) (h : VRel ρ v v') : VRel ρ (.ifc t v) (.iface t v')
  | agg (a : List V) (a' : List Value) (la : a.length = a'.length) (ha : ∀ (i : Nat) x y, a[i]? = some x → a'[i]? = some y → VRel ρ x y) : VRel ρ (.agg a) (.agg ⟨a'⟩)
  | tup (a : List V) (a' : List Value) (la : a.length = a'.length) (ha : ∀ (i : Nat) x y, a[i]? = some x → a'[i]? = some y → VRel ρ x y) : VRel ρ (.tup a) (.tuple ⟨a'⟩)
  | top (v' : Value) (h : v'.oneCell' = true) : VRel ρ .top v'
  | slv (b o i lo : Nat) (e : Ent) (len cap' : Nat) (h : ρ b = some e) (hl : Sig.val i = (len : Int)) (hlo : lo ≤ len) :
      VRel ρ (.slv b o i lo) (.slice (some ⟨e.rb, e.ro + o, none⟩) len cap')
  | slvn (b o i : Nat) (p : Option Addr) (cap : Nat) (hl : Sig.val i = 0) : VRel ρ (.slv b o i 0) (.slice p 0 cap)

theorem VRel.mono {ρ ρ' : Rho} (hr : Rle ρ ρ') {v : V} {v' : Value} (h : VRel ρ v v') : VRel ρ' v v' := by
  induction h with
  | bool b => exact .bool b
  | int k n => exact .int k n
  | sym k i => exact .sym k i
  | str s l h => exact .str s l h
  | nilp => exact .nilp
  | ptr b o e h => exact .ptr b o e (hr _ _ h)
  | nils => exact .nils
  | slc b o len cap sz e ro' cap' h hs => exact .slc b o len cap sz e ro' cap' (hr _ _ h) hs
  | nilm => exact .nilm
  | map r e h => exact .map r e (hr _ _ h)
  | nilf => exact .nilf
  | fn f a c a' c' la lc _ _ ih1 ih2 => exact .fn f a c a' c' la lc ih1 ih2
  | nili => exact .nili
  | ifc t v v' _ ih => exact .ifc t v v' ih
  | agg a a' la _ ih => exact .agg a a' la ih
  | tup a a' la _ ih => exact .tup a a' la ih
  | top v' h => exact .top v' h
  | slv b o i lo e len cap' h hl hlo => exact .slv b o i lo e len cap' (hr _ _ h) hl hlo
  | slvn b o i p cap hl => exact .slvn b o i p cap hl

/-- Two rows of values. -/
def LRel (ρ : Rho) (a : List V) (a' : List Value) : Prop := a.length = a'.length ∧ ∀ (i : Nat) x y, a[i]? = some x → a'[i]? = some y → VRel ρ x y

theorem LRel.mono {ρ ρ' : Rho} (hr : Rle ρ ρ') {a : List V} {a' : List Value} (h : LRel ρ a a') : LRel ρ' a a' :=
  ⟨h.1, fun i x y hx hy => (h.2 i x y hx hy).mono hr⟩
theorem LRel.nil (ρ : Rho) : LRel ρ [] [] := ⟨rfl, fun i x y h => by simp at h⟩
theorem LRel.cons {ρ : Rho} {v : V} {v' : Value} {a : List V} {a' : List Value} (h : VRel ρ v v') (h' : LRel ρ a a') : LRel ρ (v :: a) (v' :: a') := by
  refine ⟨by simp [h'.1], fun i x y hx hy => ?_⟩
  cases i with
  | zero => simp at hx hy; subst hx; subst hy; exact h
  | succ i => simp at hx hy; exact h'.2 i x y hx hy
theorem LRel.get {ρ : Rho} {a : List V} {a' : List Value} (h : LRel ρ a a') {i : Nat} {x : V} (hx : a[i]? = some x) : ∃ y, a'[i]? = some y ∧ VRel ρ x y := by
  have hi : i < a.length := (List.getElem?_eq_some_iff.1 hx).1
  have hi' : i < a'.length := h.1 ▸ hi
  exact ⟨a'[i], by simp [hi'], h.2 i x _ hx (by simp [hi'])⟩
theorem LRel.app {ρ : Rho} {a b : List V} {a' b' : List Value} (h : LRel ρ a a') (h' : LRel ρ b b') : LRel ρ (a ++ b) (a' ++ b') := by
  refine ⟨by simp [h.1, h'.1], fun i x y hx hy => ?_⟩
  by_cases hi : i < a.length
  · rw [List.getElem?_append_left hi] at hx
    rw [List.getElem?_append_left (h.1 ▸ hi)] at hy
    exact h.2 i x y hx hy
  · rw [List.getElem?_append_right (by omega)] at hx
    rw [List.getElem?_append_right (by have := h.1; omega)] at hy
    rw [← h.1] at hy
    exact h'.2 _ x y hx hy
theorem LRel.take {ρ : Rho} {a : List V} {a' : List Value} (h : LRel ρ a a') (n : Nat) : LRel ρ (a.take n) (a'.take n) := by
  refine ⟨by simp [h.1], fun i x y hx hy => ?_⟩
  rw [List.getElem?_take] at hx hy
  split at hx
  · rename_i hlt
    rw [if_pos hlt] at hy
    exact h.2 i x y hx hy
  · cases hx
theorem LRel.drop {ρ : Rho} {a : List V} {a' : List Value} (h : LRel ρ a a') (n : Nat) : LRel ρ (a.drop n) (a'.drop n) := by
  refine ⟨by simp [h.1], fun i x y hx hy => ?_⟩
  rw [List.getElem?_drop] at hx hy
  exact h.2 _ x y hx hy
theorem LRel.set {ρ : Rho} {a : List V} {a' : List Value} (h : LRel ρ a a') {v : V} {v' : Value} (hv : VRel ρ v v') (n : Nat) : LRel ρ (a.set n v) (a'.set n v') := by
  refine ⟨by simp [h.1], fun i x y hx hy => ?_⟩
  rw [List.getElem?_set] at hx hy
  split at hx
  · rename_i he
    split at hx
    · rename_i hlt
      rw [if_pos he, if_pos (h.1 ▸ hlt)] at hy
      cases hx; cases hy; exact hv
    · cases hx
  · rename_i he
    rw [if_neg he] at hy
    exact h.2 i x y hx hy
theorem LRel.splice {ρ : Rho} {a b : List V} {a' b' : List Value} (h : LRel ρ a a') (h' : LRel ρ b b') (o : Nat) : LRel ρ (splice a o b) (a'.take o ++ b' ++ a'.drop (o + b'.length)) := by
  unfold Ev.splice
  rw [← h'.1]
  exact ((h.take o).app h').app (h.drop _)
theorem LRel.one {ρ : Rho} {v : V} {v' : Value} (h : VRel ρ v v') : LRel ρ [v] [v'] := LRel.cons h (LRel.nil ρ)
theorem VRel.agg' {ρ : Rho} {a : List V} {a' : List Value} (h : LRel ρ a a') : VRel ρ (.agg a) (.agg ⟨a'⟩) := .agg a a' h.1 h.2
theorem VRel.tup' {ρ : Rho} {a : List V} {a' : List Value} (h : LRel ρ a a') : VRel ρ (.tup a) (.tuple ⟨a'⟩) := .tup a a' h.1 h.2

theorem VRel.cells {ρ : Rho} {v : V} {v' : Value} (h : VRel ρ v v') : LRel ρ v.cells v'.cells.toList := by
  cases h with
  | agg a a' la ha => exact ⟨la, ha⟩
  | bool b => exact .one (.bool b)
  | int k n => exact .one (.int k n)
  | sym k i => exact .one (.sym k i)
  | str s l h => exact .one (.str s l h)
  | nilp => exact .one .nilp
  | ptr b o e h => exact .one (.ptr b o e h)
  | nils => exact .one .nils
  | slc b o len cap sz e ro' cap' h hs => exact .one (.slc b o len cap sz e ro' cap' h hs)
  | nilm => exact .one .nilm
  | map r e h => exact .one (.map r e h)
  | nilf => exact .one .nilf
  | fn f a c a' c' la lc h1 h2 => exact .one (.fn f a c a' c' la lc h1 h2)
  | nili => exact .one .nili
  | ifc t v v' h => exact .one (.ifc t v v' h)
  | tup a a' la ha => exact .one (.tup a a' la ha)
  | top v' h =>
    have : v'.cells.toList = [v'] := by cases v' <;> first | rfl | cases h
    rw [this]
    exact .one (.top v' h)
  | slv b o i lo e len cap' h hl hlo => exact .one (.slv b o i lo e len cap' h hl hlo)
  | slvn b o i p cap hl => exact .one (.slvn b o i p cap hl)

theorem VRel.oneCell {ρ : Rho} {v : V} {v' : Value} (h : VRel ρ v v') : v'.oneCell' = v.one := by cases h <;> first | rfl | assumption

theorem LRel.ones {ρ : Rho} {a : List V} {a' : List Value} (h : LRel ρ a a') (ho : ones a = true) : ∀ v ∈ a', v.oneCell' = true := by
  intro v hv
  obtain ⟨i, hi, rfl⟩ := List.getElem_of_mem hv
  have hi' : i < a.length := h.1 ▸ hi
  have := h.2 i a[i] a'[i] (by simp [hi']) (by simp [hi])
  rw [this.oneCell]
  exact List.all_eq_true.1 ho _ (List.getElem_mem hi')

def Blk.owned : Blk → Bool
  | .cells _ ro => !ro
  | .map _ => true
  | .dead => false

/-- A row of cells, somewhere in a longer one. -/
def LAt (ρ : Rho) (cs : List V) (ds : List Value) (off : Nat) : Prop :=
  off + cs.length ≤ ds.length ∧ LRel ρ cs ((ds.drop off).take cs.length)

theorem LAt.get {ρ : Rho} {cs : List V} {ds : List Value} {off : Nat} (h : LAt ρ cs ds off) {i : Nat} {v : V} (hv : cs[i]? = some v) : ∃ v', ds[off + i]? = some v' ∧ VRel ρ v v' := by
  obtain ⟨y, hy, hr⟩ := h.2.get hv
  rw [List.getElem?_take] at hy
  split at hy
  · rw [List.getElem?_drop] at hy; exact ⟨y, hy, hr⟩
  · cases hy

structure MapRel (ρ : Rho) (es : List (V × V)) (fs : List MapEntry) : Prop where
  len : es.length = fs.length
  key : LRel ρ (es.map (·.1)) (fs.map (·.key))
  val : LRel ρ (es.map (·.2)) (fs.map (·.val))

/-- One block held against the world. -/
def BRel (base : Nat) (ρ : Rho) (w : World) (e : Ent) : Blk → Prop
  | .cells cs ro => ∃ c ty fr, w.heap[e.rb]? = some (.cells c ty fr) ∧ c.size = e.rsz ∧ LAt ρ cs c.toList e.ro ∧ (ro = false → fr = (0, 0) ∧ base ≤ e.rb) ∧ (ro = true → e.rb < base)
  | .map es => ∃ fs clock, w.heap[e.rb]? = some (.map fs clock) ∧ MapRel ρ es fs.toList ∧ base ≤ e.rb
  | .dead => True

def own (h : H) (b : Nat) : Prop := ∃ blk, h.get b = some blk ∧ blk.owned = true

structure Rel (base : Nat) (ρ : Rho) (h : H) (w : World) : Prop where
  blk : ∀ b blk e, h.get b = some blk → ρ b = some e → BRel base ρ w e blk
  dom : ∀ b e, ρ b = some e → b < h.nx
  inj : ∀ b b' e e', own h b → own h b' → ρ b = some e → ρ b' = some e' → e.rb = e'.rb → b = b'
  sz : base ≤ w.heap.size

/-- What a stretch of the run may have done. -/
structure Ext (ρ : Rho) (h : H) (w : World) (ρ' : Rho) (h' : H) (w' : World) : Prop where
  le : Rle ρ ρ'
  new : ∀ b e, ρ' b = some e → ρ b = none → h.nx ≤ b
  nx : h.nx ≤ h'.nx
  size : w.heap.size ≤ w'.heap.size
  os : w'.os = w.os
  out : w'.output = w.output
  frz : ∀ a, w'.frozen? a = w.frozen? a
  frame : ∀ i, i < w.heap.size → (∀ b e, own h b → ρ b = some e → e.rb ≠ i) → w'.heap[i]? = w.heap[i]?
  img : ∀ b e, own h' b → ρ' b = some e → w.heap.size ≤ e.rb ∨ ∃ b0 e0, own h b0 ∧ ρ b0 = some e0 ∧ e0.rb = e.rb

theorem Ext.refl (ρ : Rho) (h : H) (w : World) : Ext ρ h w ρ h w :=
  ⟨.refl ρ, fun b e h1 h2 => by simp [h1] at h2, Nat.le_refl _, Nat.le_refl _, rfl, rfl, fun _ => rfl, fun _ _ _ => rfl, fun b e ho he => .inr ⟨b, e, ho, he, rfl⟩⟩

theorem Ext.trans {ρ ρ' ρ'' : Rho} {h h' h'' : H} {w w' w'' : World} (a : Ext ρ h w ρ' h' w') (b : Ext ρ' h' w' ρ'' h'' w'') : Ext ρ h w ρ'' h'' w'' where
  le := a.le.trans b.le
  new := fun x e h1 h2 => by
    cases hx : ρ' x with
    | none => exact Nat.le_trans a.nx (b.new x e h1 hx)
    | some e' => exact a.new x e' hx h2
  nx := Nat.le_trans a.nx b.nx
  size := Nat.le_trans a.size b.size
  os := b.os.trans a.os
  out := b.out.trans a.out
  frz := fun x => (b.frz x).trans (a.frz x)
  frame := fun i hi hno => by
    rw [b.frame i (Nat.lt_of_lt_of_le hi a.size) ?_, a.frame i hi hno]
    intro x e ho he heq
    rcases a.img x e ho he with h1 | ⟨b0, e0, h1, h2, h3⟩
    · omega
    · exact hno b0 e0 h1 h2 (h3.trans heq)
  img := fun x e ho he => by
    rcases b.img x e ho he with h1 | ⟨b0, e0, h1, h2, h3⟩
    · exact .inl (Nat.le_trans a.size h1)
    · rcases a.img b0 e0 h1 h2 with h4 | ⟨b1, e1, h5, h6, h7⟩
      · exact .inl (by omega)
      · exact .inr ⟨b1, e1, h5, h6, h7.trans h3⟩

def EnvRel (ρ : Rho) (n : Nat) (e : Env) (tmps : Array Value) : Prop := n ≤ tmps.size ∧ ∀ t v, e.get t = some v → ∃ v', tmps[t]? = some v' ∧ VRel ρ v v'

theorem EnvRel.mono {ρ ρ' : Rho} (hr : Rle ρ ρ') {n : Nat} {e : Env} {tmps : Array Value} (h : EnvRel ρ n e tmps) : EnvRel ρ' n e tmps :=
  ⟨h.1, fun t v hv => let ⟨v', h1, h2⟩ := h.2 t v hv; ⟨v', h1, h2.mono hr⟩⟩

theorem EnvRel.put {ρ : Rho} {n : Nat} {e : Env} {a : Act} (h : EnvRel ρ n e a.tmps) {d : Option Nat} (hd : ∀ i, d = some i → i < n) {v : V} {v' : Value} (hv : VRel ρ v v') :
    EnvRel ρ n (Env.put e d v) (a.put d v').tmps := by
  cases d with
  | none => exact h
  | some d =>
    have hd := hd d rfl
    refine ⟨by simpa [Act.put] using h.1, fun t x hx => ?_⟩
    simp only [Env.put] at hx
    simp only [Act.put]
    by_cases he : d = t
    · subst he
      rw [T.get_set_same] at hx
      cases hx
      refine ⟨v', ?_, hv⟩
      have := h.1
      simp [Array.getElem?_setIfInBounds]
      omega
    · rw [T.get_set_ne _ _ he] at hx
      obtain ⟨y, h1, h2⟩ := h.2 t x hx
      refine ⟨y, ?_, h2⟩
      rw [Array.getElem?_setIfInBounds_ne (by simpa using he)]
      exact h1

theorem H.get_set_same (h : H) (i : Nat) (b : Blk) : (h.set i b).get i = some b := T.get_set_same _ _ _
theorem H.get_set_ne (h : H) {i j : Nat} (b : Blk) (hij : i ≠ j) : (h.set i b).get j = h.get j := T.get_set_ne _ _ hij

/-! ### The world's part: rows of cells -/

theorem heap_setRow_ne (w : World) (g i : Nat) (cs : Array Value) (h : i ≠ g) : (w.setRow g cs).heap[i]? = w.heap[i]? := by
  simp [World.setRow, Array.getElem?_modify, Ne.symm h]

theorem frozen_setRow (w : World) (g : Nat) (cs : Array Value) (a : Addr) : (w.setRow g cs).frozen? a = w.frozen? a := by
  unfold World.frozen?
  by_cases h : a.block = g
  · subst h
    simp only [World.setRow, Array.getElem?_modify, if_true]
    cases hx : w.heap[a.block]? with
    | none => simp
    | some o => cases o <;> simp
  · rw [heap_setRow_ne w g _ cs h]

/-- A store into a block of one's own. -/
theorem Rel.setRow {base : Nat} {ρ : Rho} {h : H} {w : World} (hR : Rel base ρ h w) {b : Nat} {cs : List V} {e : Ent} {c : Array Value} {ty : TypeId} {fr : Nat × Nat}
    (hb : h.get b = some (.cells cs false)) (he : ρ b = some e) (hc : w.heap[e.rb]? = some (.cells c ty fr)) {cs' : List V} {ds' : List Value}
    (hsz : ds'.length = e.rsz) (hl : LAt ρ cs' ds' e.ro) :
    Rel base ρ (h.set b (.cells cs' false)) (w.setRow e.rb ds'.toArray) ∧ Ext ρ h w ρ (h.set b (.cells cs' false)) (w.setRow e.rb ds'.toArray) := by
  have hown : own h b := ⟨_, hb, rfl⟩
  have howns : ∀ x, own (h.set b (.cells cs' false)) x → own h x := by
    rintro x ⟨blk, h1, h2⟩
    by_cases hx : b = x
    · subst hx; exact hown
    · rw [H.get_set_ne h _ hx] at h1; exact ⟨blk, h1, h2⟩
  have hbr := hR.blk b _ e hb he
  obtain ⟨c0, ty0, fr0, h1, h2, h3, h4, _⟩ := hbr
  rw [hc] at h1
  cases h1
  obtain ⟨h5, h6⟩ := h4 rfl
  refine ⟨⟨?_, ?_, ?_, ?_⟩, ⟨.refl ρ, fun x y h1 h2 => by simp [h1] at h2, Nat.le_refl _, by simp, rfl, rfl, fun a => frozen_setRow w _ _ a, ?_, ?_⟩⟩
  · intro x blk y hx hy
    by_cases hxb : b = x
    · subst hxb
      rw [H.get_set_same] at hx
      cases hx
      rw [he] at hy
      cases hy
      exact ⟨ds'.toArray, ty, fr, setRow_heap w e.rb c _ ty fr hc, by simpa using hsz, by simpa using hl, fun _ => ⟨h5, h6⟩, fun h => by cases h⟩
    · rw [H.get_set_ne h _ hxb] at hx
      have hbx := hR.blk x blk y hx hy
      have hne : blk.owned = true → y.rb ≠ e.rb := fun ho heq => hxb (hR.inj b x e y hown ⟨blk, hx, ho⟩ he hy heq.symm)
      cases blk with
      | cells cs2 ro =>
        obtain ⟨c2, ty2, fr2, g1, g2, g3, g4⟩ := hbx
        cases ro with
        | false =>
          exact ⟨c2, ty2, fr2, by rw [heap_setRow_ne _ _ _ _ (hne rfl)]; exact g1, g2, g3, g4⟩
        | true =>
          have hq : y.rb ≠ e.rb := fun hq => by have := g4.2 rfl; omega
          exact ⟨c2, ty2, fr2, by rw [heap_setRow_ne _ _ _ _ hq]; exact g1, g2, g3, g4⟩
      | map es =>
        obtain ⟨fs, ck, g1, g2, g3⟩ := hbx
        exact ⟨fs, ck, by rw [heap_setRow_ne _ _ _ _ (hne rfl)]; exact g1, g2, g3⟩
      | dead => trivial
  · exact hR.dom
  · intro x y ex ey hx hy
    exact hR.inj x y ex ey (howns x hx) (howns y hy)
  · simpa using hR.sz
  · intro i _ hno
    exact heap_setRow_ne w _ _ _ (fun hi => hno b e hown he hi.symm)
  · intro x y hx hy
    exact .inr ⟨x, y, howns x hx, hy, rfl⟩

theorem Rho.add_same (ρ : Rho) (i : Nat) (e : Ent) : ρ.add i e i = some e := by simp [Rho.add]
theorem Rho.add_ne (ρ : Rho) {i j : Nat} (e : Ent) (h : j ≠ i) : ρ.add i e j = ρ j := by simp [Rho.add, h]
theorem Rho.add_le {ρ : Rho} {i : Nat} (e : Ent) (h : ρ i = none) : Rle ρ (ρ.add i e) := fun b x hx => by
  rw [Rho.add_ne]
  · exact hx
  · intro hb; subst hb; rw [h] at hx; cases hx

theorem heap_alloc_same (w : World) (o : Obj) : (w.alloc o).heap[w.heap.size]? = some o := heap_alloc_new w o
theorem heap_alloc_ne (w : World) (o : Obj) {i : Nat} (h : i ≠ w.heap.size) : (w.alloc o).heap[i]? = w.heap[i]? := by
  simp only [World.alloc, Array.getElem?_push, if_neg h]

theorem frozen_alloc_map (w : World) (fs : Array MapEntry) (ck : Nat) (a : Addr) : (w.alloc (.map fs ck)).frozen? a = w.frozen? a := by
  by_cases h : a.block = w.heap.size
  · have e1 : (w.alloc (.map fs ck)).heap[a.block]? = some (.map fs ck) := by rw [h]; exact heap_alloc_new w _
    have e2 : w.heap[a.block]? = none := by rw [h]; simp
    simp [World.frozen?, e1, e2]
  · exact World.frozen?_alloc_old _ _ _ h

theorem frozen_alloc_cells (w : World) (c : Array Value) (t : TypeId) (a : Addr) : (w.alloc (.cells c t)).frozen? a = w.frozen? a := by
  by_cases h : a.block = w.heap.size
  · have e1 : (w.alloc (.cells c t)).heap[a.block]? = some (.cells c t) := by rw [h]; exact heap_alloc_new w _
    have e2 : w.heap[a.block]? = none := by rw [h]; simp
    simp [World.frozen?, e1, e2]
  · exact World.frozen?_alloc_old _ _ _ h

theorem BRel.mono {base : Nat} {ρ ρ' : Rho} (hr : Rle ρ ρ') {w : World} {e : Ent} {b : Blk} (h : BRel base ρ w e b) : BRel base ρ' w e b := by
  cases b with
  | cells cs ro =>
    obtain ⟨c, ty, fr, h1, h2, h3, h4⟩ := h
    exact ⟨c, ty, fr, h1, h2, ⟨h3.1, h3.2.mono hr⟩, h4⟩
  | map es =>
    obtain ⟨fs, ck, h1, h2, h3⟩ := h
    exact ⟨fs, ck, h1, ⟨h2.len, h2.key.mono hr, h2.val.mono hr⟩, h3⟩
  | dead => trivial

/-- A block's facts hang on its own block of the world alone. -/
theorem BRel.of_heap {base : Nat} {ρ : Rho} {w w' : World} {e : Ent} {b : Blk} (hw : b ≠ .dead → w'.heap[e.rb]? = w.heap[e.rb]?) (h : BRel base ρ w e b) : BRel base ρ w' e b := by
  cases b with
  | cells cs ro =>
    obtain ⟨c, ty, fr, h1, h2, h3, h4⟩ := h
    exact ⟨c, ty, fr, (hw (by simp)).trans h1, h2, h3, h4⟩
  | map es =>
    obtain ⟨fs, ck, h1, h2, h3⟩ := h
    exact ⟨fs, ck, (hw (by simp)).trans h1, h2, h3⟩
  | dead => trivial

theorem BRel.lt {base : Nat} {ρ : Rho} {w : World} {e : Ent} {b : Blk} (hb : b ≠ .dead) (h : BRel base ρ w e b) : e.rb < w.heap.size := by
  cases b with
  | cells cs ro =>
    obtain ⟨c, ty, fr, h1, h2, h3, h4⟩ := h
    exact (Array.getElem?_eq_some_iff.1 h1).1
  | map es =>
    obtain ⟨fs, ck, h1, h2, h3⟩ := h
    exact (Array.getElem?_eq_some_iff.1 h1).1
  | dead => exact absurd rfl hb

theorem owned_ne {b : Blk} (h : b.owned = true) : b ≠ .dead := by rintro rfl; cases h

/-- A new block of the world under a new name. -/
theorem Rel.alloc {base : Nat} {ρ : Rho} {h : H} {w : World} (hR : Rel base ρ h w) {i nx' : Nat} (hi : ρ i = none) (hlt : i < nx') (hnx : h.nx ≤ nx')
    {o : Obj} {blk : Blk} {e : Ent} (he : e.rb = w.heap.size) (hfz : ∀ a, (w.alloc o).frozen? a = w.frozen? a) (hb : BRel base (ρ.add i e) (w.alloc o) e blk) :
    Rel base (ρ.add i e) ⟨h.t.set i blk, nx'⟩ (w.alloc o) ∧ (h.nx ≤ i → Ext ρ h w (ρ.add i e) ⟨h.t.set i blk, nx'⟩ (w.alloc o)) := by
  have hget : ∀ x, x ≠ i → (⟨h.t.set i blk, nx'⟩ : H).get x = h.get x := fun x hx => T.get_set_ne _ _ (Ne.symm hx)
  have hsame : (⟨h.t.set i blk, nx'⟩ : H).get i = some blk := T.get_set_same _ _ _
  have howns : ∀ x, own (⟨h.t.set i blk, nx'⟩ : H) x → x ≠ i → own h x := by
    rintro x ⟨b', h1, h2⟩ hx
    rw [hget x hx] at h1
    exact ⟨b', h1, h2⟩
  have hold : ∀ x y, ρ x = some y → own h x → y.rb < w.heap.size := by
    rintro x y hx ⟨b', h1, h2⟩
    exact (hR.blk x b' y h1 hx).lt (owned_ne h2)
  have hle := Rho.add_le e hi
  refine ⟨⟨?_, ?_, ?_, ?_⟩, fun hge => ⟨hle, ?_, hnx, by simp, rfl, rfl, hfz, ?_, ?_⟩⟩
  · intro x b' y hx hy
    by_cases hxi : x = i
    · subst hxi
      rw [hsame] at hx
      cases hx
      rw [Rho.add_same] at hy
      cases hy
      exact hb
    · rw [hget x hxi] at hx
      rw [Rho.add_ne _ _ hxi] at hy
      have hbx := hR.blk x b' y hx hy
      refine (hbx.mono hle).of_heap fun hd => heap_alloc_ne w o (Nat.ne_of_lt (hbx.lt hd))
  · intro x y hx
    by_cases hxi : x = i
    · subst hxi; exact hlt
    · rw [Rho.add_ne _ _ hxi] at hx
      exact Nat.lt_of_lt_of_le (hR.dom x y hx) hnx
  · intro x y ex ey hx hy hex hey heq
    by_cases hxi : x = i
    · by_cases hyi : y = i
      · rw [hxi, hyi]
      · exfalso
        subst hxi
        rw [Rho.add_same] at hex
        cases hex
        rw [Rho.add_ne _ _ hyi] at hey
        have := hold y ey hey (howns y hy hyi)
        omega
    · by_cases hyi : y = i
      · exfalso
        subst hyi
        rw [Rho.add_same] at hey
        cases hey
        rw [Rho.add_ne _ _ hxi] at hex
        have := hold x ex hex (howns x hx hxi)
        omega
      · rw [Rho.add_ne _ _ hxi] at hex
        rw [Rho.add_ne _ _ hyi] at hey
        exact hR.inj x y ex ey (howns x hx hxi) (howns y hy hyi) hex hey heq
  · simpa using Nat.le_succ_of_le hR.sz
  · intro x y hx hn
    by_cases hxi : x = i
    · subst hxi; exact hge
    · rw [Rho.add_ne _ _ hxi, hn] at hx; cases hx
  · intro j hj _
    exact heap_alloc_ne w o (Nat.ne_of_lt hj)
  · intro x y hx hy
    by_cases hxi : x = i
    · subst hxi
      rw [Rho.add_same] at hy
      cases hy
      exact .inl (by omega)
    · rw [Rho.add_ne _ _ hxi] at hy
      exact .inr ⟨x, y, howns x hx hxi, hy, rfl⟩

/-- A block of one's own is given up; its block of the world goes under a new name, with other cells. -/
theorem Rel.move {base : Nat} {ρ : Rho} {h : H} {w : World} (hR : Rel base ρ h w) {b i nx' : Nat} (hi : ρ i = none) (hlt : i < nx') (hnx : h.nx ≤ nx')
    {cs : List V} {e : Ent} {c : Array Value} {ty : TypeId} {fr : Nat × Nat}
    (hb : h.get b = some (.cells cs false)) (he : ρ b = some e) (hc : w.heap[e.rb]? = some (.cells c ty fr)) {cs' : List V} {ds' : List Value} {ro' : Nat}
    (hsz : ds'.length = e.rsz) (hl : LAt ρ cs' ds' ro') :
    Rel base (ρ.add i ⟨e.rb, ro', e.rsz⟩) ⟨(h.set b .dead).t.set i (.cells cs' false), nx'⟩ (w.setRow e.rb ds'.toArray) ∧
      (h.nx ≤ i → Ext ρ h w (ρ.add i ⟨e.rb, ro', e.rsz⟩) ⟨(h.set b .dead).t.set i (.cells cs' false), nx'⟩ (w.setRow e.rb ds'.toArray)) := by
  have hbi : b ≠ i := fun x => by subst x; rw [he] at hi; cases hi
  generalize hH : (⟨(h.set b .dead).t.set i (.cells cs' false), nx'⟩ : H) = h'
  have hsame : h'.get i = some (.cells cs' false) := by subst hH; exact T.get_set_same _ _ _
  have hdead : h'.get b = some .dead := by subst hH; exact (T.get_set_ne _ _ (Ne.symm hbi)).trans (T.get_set_same _ _ _)
  have hget : ∀ x, x ≠ i → x ≠ b → h'.get x = h.get x := fun x h1 h2 => by subst hH; exact (T.get_set_ne _ _ (Ne.symm h1)).trans (T.get_set_ne _ _ (Ne.symm h2))
  have hnx' : h'.nx = nx' := by subst hH; rfl
  have hown : own h b := ⟨_, hb, rfl⟩
  have howns : ∀ x, own h' x → x ≠ i → own h x ∧ x ≠ b := by
    rintro x ⟨b', h1, h2⟩ hx
    by_cases hxb : x = b
    · subst hxb; rw [hdead] at h1; cases h1; cases h2
    · rw [hget x hx hxb] at h1; exact ⟨⟨b', h1, h2⟩, hxb⟩
  have hle : Rle ρ (ρ.add i ⟨e.rb, ro', e.rsz⟩) := Rho.add_le _ hi
  obtain ⟨c0, ty0, fr0, h1, h2, h3, h4, _⟩ := hR.blk b _ e hb he
  rw [hc] at h1
  cases h1
  obtain ⟨h5, h6⟩ := h4 rfl
  have hrow := setRow_heap w e.rb c ds'.toArray ty fr hc
  refine ⟨⟨?_, ?_, ?_, ?_⟩, fun hge => ⟨hle, ?_, by omega, by simp, rfl, rfl, fun a => frozen_setRow w _ _ a, ?_, ?_⟩⟩
  · intro x b' y hx hy
    by_cases hxi : x = i
    · subst hxi
      rw [hsame] at hx
      cases hx
      rw [Rho.add_same] at hy
      cases hy
      exact ⟨ds'.toArray, ty, fr, hrow, by simpa using hsz, ⟨by simpa using hl.1, by simpa using hl.2.mono hle⟩, fun _ => ⟨h5, h6⟩, fun hh => by cases hh⟩
    · rw [Rho.add_ne _ _ hxi] at hy
      by_cases hxb : x = b
      · subst hxb
        rw [hdead] at hx
        cases hx
        trivial
      · rw [hget x hxi hxb] at hx
        have hbx := hR.blk x b' y hx hy
        refine (hbx.mono hle).of_heap fun hd => heap_setRow_ne w _ _ _ fun heq => ?_
        cases ho : b'.owned with
        | true => exact hxb (hR.inj x b y e ⟨b', hx, ho⟩ hown hy he heq)
        | false =>
          cases b' with
          | dead => exact hd rfl
          | map es => cases ho
          | cells cs2 ro =>
            cases ro with
            | false => cases ho
            | true =>
              obtain ⟨_, _, _, _, _, _, _, g⟩ := hbx
              have := g rfl
              omega
  · intro x y hx
    rw [hnx']
    by_cases hxi : x = i
    · subst hxi; exact hlt
    · rw [Rho.add_ne _ _ hxi] at hx
      exact Nat.lt_of_lt_of_le (hR.dom x y hx) hnx
  · intro x y ex ey hx hy hex hey heq
    by_cases hxi : x = i
    · by_cases hyi : y = i
      · rw [hxi, hyi]
      · exfalso
        subst hxi
        rw [Rho.add_same] at hex
        cases hex
        rw [Rho.add_ne _ _ hyi] at hey
        obtain ⟨hy1, hy2⟩ := howns y hy hyi
        exact hy2 (hR.inj y b ey e hy1 hown hey he heq.symm)
    · by_cases hyi : y = i
      · exfalso
        subst hyi
        rw [Rho.add_same] at hey
        cases hey
        rw [Rho.add_ne _ _ hxi] at hex
        obtain ⟨hx1, hx2⟩ := howns x hx hxi
        exact hx2 (hR.inj x b ex e hx1 hown hex he heq)
      · rw [Rho.add_ne _ _ hxi] at hex
        rw [Rho.add_ne _ _ hyi] at hey
        exact hR.inj x y ex ey (howns x hx hxi).1 (howns y hy hyi).1 hex hey heq
  · simpa using hR.sz
  · intro x y hx hn
    by_cases hxi : x = i
    · subst hxi; exact hge
    · rw [Rho.add_ne _ _ hxi, hn] at hx; cases hx
  · intro j _ hno
    exact heap_setRow_ne w _ _ _ (fun hj => hno b e hown he hj.symm)
  · intro x y hx hy
    by_cases hxi : x = i
    · subst hxi
      rw [Rho.add_same] at hy
      cases hy
      exact .inr ⟨b, e, hown, he, rfl⟩
    · rw [Rho.add_ne _ _ hxi] at hy
      exact .inr ⟨x, y, (howns x hx hxi).1, hy, rfl⟩

/-- A block is given up. -/
theorem Rel.kill {base : Nat} {ρ : Rho} {h : H} {w : World} (hR : Rel base ρ h w) (b : Nat) : Rel base ρ (h.set b .dead) w ∧ Ext ρ h w ρ (h.set b .dead) w := by
  have howns : ∀ x, own (h.set b .dead) x → own h x := by
    rintro x ⟨b', h1, h2⟩
    by_cases hx : b = x
    · subst hx; rw [H.get_set_same] at h1; cases h1; cases h2
    · rw [H.get_set_ne h _ hx] at h1; exact ⟨b', h1, h2⟩
  refine ⟨⟨?_, hR.dom, fun x y ex ey hx hy => hR.inj x y ex ey (howns x hx) (howns y hy), hR.sz⟩,
    ⟨.refl ρ, fun x e h1 h2 => by simp [h1] at h2, Nat.le_refl _, Nat.le_refl _, rfl, rfl, fun _ => rfl, fun _ _ _ => rfl, fun x e hx he => .inr ⟨x, e, howns x hx, he, rfl⟩⟩⟩
  intro x b' y hx hy
  by_cases hxb : b = x
  · subst hxb; rw [H.get_set_same] at hx; cases hx; trivial
  · rw [H.get_set_ne h _ hxb] at hx; exact hR.blk x b' y hx hy

/-- An object of one's own (a map) is turned. -/
theorem Rel.setMap {base : Nat} {ρ : Rho} {h : H} {w : World} (hR : Rel base ρ h w) {b : Nat} {es es' : List (V × V)} {e : Ent} {fs fs' : Array MapEntry} {ck ck' : Nat}
    (hb : h.get b = some (.map es)) (he : ρ b = some e) (hc : w.heap[e.rb]? = some (.map fs ck)) (hm : MapRel ρ es' fs'.toList) :
    Rel base ρ (h.set b (.map es')) { w with heap := w.heap.setIfInBounds e.rb (.map fs' ck') } ∧ Ext ρ h w ρ (h.set b (.map es')) { w with heap := w.heap.setIfInBounds e.rb (.map fs' ck') } := by
  have hown : own h b := ⟨_, hb, rfl⟩
  have howns : ∀ x, own (h.set b (.map es')) x → own h x := by
    rintro x ⟨blk, h1, h2⟩
    by_cases hx : b = x
    · subst hx; exact hown
    · rw [H.get_set_ne h _ hx] at h1; exact ⟨blk, h1, h2⟩
  obtain ⟨f0, c0, h1, h2, h3⟩ := hR.blk b _ e hb he
  have hlt : e.rb < w.heap.size := (Array.getElem?_eq_some_iff.1 hc).1
  have hs : (w.heap.setIfInBounds e.rb (.map fs' ck'))[e.rb]? = some (.map fs' ck') := by simp [Array.getElem?_setIfInBounds, hlt]
  have hne : ∀ i, i ≠ e.rb → (w.heap.setIfInBounds e.rb (.map fs' ck'))[i]? = w.heap[i]? := fun i hi => Array.getElem?_setIfInBounds_ne (Ne.symm hi)
  refine ⟨⟨?_, hR.dom, fun x y ex ey hx hy => hR.inj x y ex ey (howns x hx) (howns y hy), by simpa using hR.sz⟩,
    ⟨.refl ρ, fun x e h1 h2 => by simp [h1] at h2, Nat.le_refl _, by simp, rfl, rfl, ?_, fun i _ hno => hne i (fun hi => hno b e hown he hi.symm), fun x e hx he => .inr ⟨x, e, howns x hx, he, rfl⟩⟩⟩
  · intro x b' y hx hy
    by_cases hxb : b = x
    · subst hxb
      rw [H.get_set_same] at hx
      cases hx
      rw [he] at hy
      cases hy
      exact ⟨fs', ck', hs, hm, h3⟩
    · rw [H.get_set_ne h _ hxb] at hx
      have hbx := hR.blk x b' y hx hy
      refine hbx.of_heap fun hd => hne _ fun heq => ?_
      cases ho : b'.owned with
      | true => exact hxb (hR.inj x b y e ⟨b', hx, ho⟩ hown hy he heq).symm
      | false =>
        cases b' with
        | dead => exact hd rfl
        | map es => cases ho
        | cells cs2 ro =>
          cases ro with
          | false => cases ho
          | true =>
            obtain ⟨_, _, _, _, _, _, _, g⟩ := hbx
            have := g rfl
            omega
  · intro a
    unfold World.frozen?
    by_cases ha : a.block = e.rb
    · rw [ha, hs, hc]
    · rw [hne _ ha]
end Go.Ev
