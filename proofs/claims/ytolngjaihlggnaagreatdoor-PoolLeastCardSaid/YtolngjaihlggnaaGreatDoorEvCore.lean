import Derived.Calls
/-! The evaluator over an abstract heap: values, heap, operations. No program in sight. -/
namespace Go.Ev
set_option linter.unusedVariables false

/-- A trie keyed by numbers. -/
inductive T (α : Type) where
  | nil
  | node (v : Option α) (l r : T α)

def T.get {α : Type} : T α → Nat → Option α
  | .nil, _ => none
  | .node v l r, i => bif Nat.beq i 0 then v else bif Nat.beq (i % 2) 1 then l.get (i / 2) else r.get (i / 2 - 1)

def T.put {α : Type} : Nat → T α → Nat → α → T α
  | 0, t, _, _ => t
  | f + 1, .nil, i, a => bif Nat.beq i 0 then .node (some a) .nil .nil
      else bif Nat.beq (i % 2) 1 then .node none (T.put f .nil (i / 2) a) .nil else .node none .nil (T.put f .nil (i / 2 - 1) a)
  | f + 1, .node v l r, i, a => bif Nat.beq i 0 then .node (some a) l r
      else bif Nat.beq (i % 2) 1 then .node v (T.put f l (i / 2) a) r else .node v l (T.put f r (i / 2 - 1) a)

def T.set {α : Type} (t : T α) (i : Nat) (a : α) : T α := T.put (i + 1) t i a

theorem nbf {a b : Nat} (h : a ≠ b) : Nat.beq a b = false := by
  cases hb : Nat.beq a b
  · rfl
  · exact absurd (Nat.eq_of_beq_eq_true hb) h
theorem nbt {a b : Nat} (h : a = b) : Nat.beq a b = true := by subst h; exact Nat.beq_refl a
theorem nbeq {a b : Nat} (h : Nat.beq a b = true) : a = b := Nat.eq_of_beq_eq_true h
theorem nble {a b : Nat} (h : Nat.ble a b = true) : a ≤ b := Nat.le_of_ble_eq_true h

theorem T.get_put_same {α : Type} (a : α) : ∀ (f : Nat) (t : T α) (i : Nat), i < f → (T.put f t i a).get i = some a := by
  intro f
  induction f with
  | zero => intro t i h; omega
  | succ f ih =>
    intro t i h
    have h1 := Nat.div_add_mod i 2
    cases t with
    | nil =>
      simp only [T.put]
      by_cases h0 : i = 0
      · subst h0; simp [T.get]
      · have hb : Nat.beq i 0 = false := nbf h0
        by_cases hm : i % 2 = 1
        · have hb2 : Nat.beq (i % 2) 1 = true := nbt hm
          simp only [hb, hb2, cond_false, cond_true, T.get]
          exact ih _ _ (by omega)
        · have hb2 : Nat.beq (i % 2) 1 = false := nbf hm
          simp only [hb, hb2, cond_false, T.get]
          exact ih _ _ (by omega)
    | node v l r =>
      simp only [T.put]
      by_cases h0 : i = 0
      · subst h0; simp [T.get]
      · have hb : Nat.beq i 0 = false := nbf h0
        by_cases hm : i % 2 = 1
        · have hb2 : Nat.beq (i % 2) 1 = true := nbt hm
          simp only [hb, hb2, cond_false, cond_true, T.get]
          exact ih _ _ (by omega)
        · have hb2 : Nat.beq (i % 2) 1 = false := nbf hm
          simp only [hb, hb2, cond_false, T.get]
          exact ih _ _ (by omega)

theorem T.get_put_ne {α : Type} (a : α) : ∀ (f : Nat) (t : T α) (i j : Nat), i ≠ j → (T.put f t i a).get j = t.get j := by
  intro f
  induction f with
  | zero => intro t i j _; simp [T.put]
  | succ f ih =>
    intro t i j hij
    have hi := Nat.div_add_mod i 2
    have hj := Nat.div_add_mod j 2
    have hn : ∀ k, (T.nil : T α).get k = none := fun _ => by simp [T.get]
    cases t with
    | nil =>
      simp only [T.put, hn]
      by_cases h0 : i = 0
      · subst h0
        have hb : Nat.beq j 0 = false := nbf fun h => hij h.symm
        simp [T.get, hb]
      · have hb : Nat.beq i 0 = false := nbf h0
        by_cases hm : i % 2 = 1
        · have hb2 : Nat.beq (i % 2) 1 = true := nbt hm
          simp only [hb, hb2, cond_false, cond_true, T.get]
          by_cases hj0 : j = 0
          · simp [hj0]
          · have hjb : Nat.beq j 0 = false := nbf hj0
            by_cases hjm : j % 2 = 1
            · have hjb2 : Nat.beq (j % 2) 1 = true := nbt hjm
              simp only [hjb, hjb2, cond_false, cond_true]
              rw [ih _ _ _ (by omega), hn]
            · have hjb2 : Nat.beq (j % 2) 1 = false := nbf hjm
              simp [hjb, hjb2]
        · have hb2 : Nat.beq (i % 2) 1 = false := nbf hm
          simp only [hb, hb2, cond_false, T.get]
          by_cases hj0 : j = 0
          · simp [hj0]
          · have hjb : Nat.beq j 0 = false := nbf hj0
            by_cases hjm : j % 2 = 1
            · have hjb2 : Nat.beq (j % 2) 1 = true := nbt hjm
              simp [hjb, hjb2]
            · have hjb2 : Nat.beq (j % 2) 1 = false := nbf hjm
              simp only [hjb, hjb2, cond_false]
              rw [ih _ _ _ (by omega), hn]
    | node v l r =>
      simp only [T.put]
      by_cases h0 : i = 0
      · subst h0
        have hb : Nat.beq j 0 = false := nbf fun h => hij h.symm
        simp [T.get, hb]
      · have hb : Nat.beq i 0 = false := nbf h0
        by_cases hm : i % 2 = 1
        · have hb2 : Nat.beq (i % 2) 1 = true := nbt hm
          simp only [hb, hb2, cond_false, cond_true, T.get]
          by_cases hj0 : j = 0
          · simp [hj0]
          · have hjb : Nat.beq j 0 = false := nbf hj0
            by_cases hjm : j % 2 = 1
            · have hjb2 : Nat.beq (j % 2) 1 = true := nbt hjm
              simp only [hjb, hjb2, cond_false, cond_true]
              rw [ih _ _ _ (by omega)]
            · have hjb2 : Nat.beq (j % 2) 1 = false := nbf hjm
              simp [hjb, hjb2]
        · have hb2 : Nat.beq (i % 2) 1 = false := nbf hm
          simp only [hb, hb2, cond_false, T.get]
          by_cases hj0 : j = 0
          · simp [hj0]
          · have hjb : Nat.beq j 0 = false := nbf hj0
            by_cases hjm : j % 2 = 1
            · have hjb2 : Nat.beq (j % 2) 1 = true := nbt hjm
              simp [hjb, hjb2]
            · have hjb2 : Nat.beq (j % 2) 1 = false := nbf hjm
              simp only [hjb, hjb2, cond_false]
              rw [ih _ _ _ (by omega)]

theorem T.get_set_same {α : Type} (t : T α) (i : Nat) (a : α) : (t.set i a).get i = some a := T.get_put_same a _ t i (by omega)
theorem T.get_set_ne {α : Type} (t : T α) {i j : Nat} (a : α) (h : i ≠ j) : (t.set i a).get j = t.get j := T.get_put_ne a _ t i j h

inductive V where
  | bool (b : Bool)
  | int (k : IntKind) (n : Int)
  | sym (k : IntKind) (i : Nat)     -- a number that is not known: the i-th of 'Sig.val'
  | str (s : List Nat)
  | nilp
  | ptr (b o : Nat)
  | nils
  | slc (b o len cap sz : Nat)      -- sz: 0: the capacity is known; else: it is at least 'cap', the room behind belongs to the slice, an element has 'sz' cells
  | nilm
  | map (r : Nat)
  | nilf
  | fn (f : FuncId) (first cap : List V)
  | nili
  | ifc (t : TypeId) (v : V)
  | agg (cs : List V)
  | tup (vs : List V)
  | top                             -- some value of one cell
  | slv (b o i lo : Nat)            -- a slice of which the length is the number 'i', at least 'lo'; its first 'lo' elements may be asked for
  deriving Inhabited, Repr

def V.cells : V → List V
  | .agg cs => cs
  | v => [v]

def V.one : V → Bool
  | .agg _ | .tup _ => false
  | _ => true

inductive Blk where
  | cells (cs : List V) (ro : Bool)
  | map (es : List (V × V))
  | dead
  deriving Repr

structure H where
  t : T Blk
  nx : Nat

def H.get (h : H) (i : Nat) : Option Blk := h.t.get i
def H.set (h : H) (i : Nat) (b : Blk) : H := ⟨h.t.set i b, h.nx⟩

/-- Operands. -/
inductive X where
  | t (i : Nat)
  | c (v : V)
  deriving Repr

/-- How two values of a type of one cell are compared. -/
inductive Sh where
  | int | bool | str | ptr | ifc | ifcS | slcN | mapN | fnN
  deriving Repr, DecidableEq

/-- How two values of a type are compared: one cell, or the cells of a struct or an array, each at its place. -/
inductive Shape where
  | sc (s : Sh)
  | flat (ls : List (Nat × Sh))
  deriving Repr

inductive RO where
  | mv (x : X)
  | pick (c a b : X)
  | new (cs : List V)
  | box (esz : Nat) (x : X)
  | build (zero : List V) (parts : List (Nat × Nat × X))
  | bsl (esz : Nat) (zero : List V) (len : Nat) (parts : List (Nat × Nat × X))
  | ld1 (x : X)
  | ldA (sz : Nat) (x : X)
  | st (sz : Nat) (a v : X)
  | nilck (x : X)
  | bin (op : BinOp) (x y : X)
  | eq (neg : Bool) (s : Shape) (x y : X)
  | un (op : UnOp) (x : X)
  | cvi (k : IntKind) (x : X)
  | cvs (x : X)
  | mkifc (t : TypeId) (x : X)
  | mkfn (f : FuncId) (first cap : List X)
  | mkmap
  | mksl (esz bytes : Nat) (zero : List V) (l c : X)
  | slStr (x : X) (lo hi : Option X)
  | slSlc (esz : Nat) (x : X) (lo hi mx : Option X)
  | slArr (n esz : Nat) (x : X) (lo hi mx : Option X)
  | fadd (off : Nat) (x : X)
  | fld1 (off : Nat) (x : X)
  | fldA (off sz : Nat) (x : X)
  | ixaA (n esz : Nat) (x i : X)
  | ixaS (esz : Nat) (x i : X)
  | ixA1 (n : Nat) (x i : X)
  | ixAA (n esz : Nat) (x i : X)
  | ixS (x i : X)
  | look (s : Shape) (kn : Nat) (zero : V) (ok : Bool) (m k : X)       -- kn: 0: the key is one cell; else an array of so many numbers
  | mput (s : Shape) (kn : Nat) (m k v : X)
  | asI (tys : List TypeId) (zero : V) (ok : Bool) (x : X)
  | asC (t : TypeId) (zero : V) (ok : Bool) (x : X)
  | ex (i : Nat) (x : X)
  | call (f : FuncId) (args : List X)
  | callv (f : X) (args : List X)
  | inv (tbl : List (TypeId × FuncId)) (x : X) (args : List X)
  | lenS (x : X)
  | lenL (x : X)
  | lenM (x : X)
  | lenA (n : Nat)
  | cap (x : X)
  | app (esz bytes : Nat) (s x : X)
  | appZ (esz bytes : Nat) (zero : List V) (s n : X)
  | copy (esz : Nat) (d s : X)
  | clr (zero : List V) (x : X)
  | mxx (xs : List X)
  | mnn (xs : List X)
  | bad
  deriving Repr

structure ROp where
  d : Option Nat
  g : Option (Nat × Bool)
  o : RO
  deriving Repr

inductive RCode where
  | skip
  | reg (ops : List ROp)
  | drw (ops : List ROp) (chk : List (Nat × Nat))
  | seq (a b : RCode)
  | cond (c : X) (a b : RCode)
  | block (id : Nat) (b : RCode)
  | loop (b : RCode)
  | exit (id : Nat)
  | ret
  | bad
  deriving Repr

inductive RRes where
  | t (i : Nat)
  | cell1 (i : Nat)
  | cellA (i sz : Nat)
  deriving Repr

structure RFunc where
  body : RCode
  res : List RRes
  deriving Repr

abbrev Env := T V

def X.ev (e : Env) : X → Option V
  | .t i => e.get i
  | .c v => some v

def evs (e : Env) : List X → Option (List V)
  | [] => some []
  | x :: xs => (x.ev e).bind fun v => (evs e xs).bind fun vs => some (v :: vs)

def evo (e : Env) : Option X → Option (Option V)
  | none => some none
  | some x => (x.ev e).bind fun v => some (some v)

def evps (e : Env) : List (Nat × Nat × X) → Option (List (Nat × Nat × V))
  | [] => some []
  | (o, s, x) :: r => (x.ev e).bind fun v => (evps e r).bind fun vs => some ((o, s, v) :: vs)

/-- Put a row of cells into a row, from a place on. -/
def splice (cs : List V) (o : Nat) (vs : List V) : List V := cs.take o ++ vs ++ cs.drop (o + vs.length)

def fillP (cs : List V) : List (Nat × Nat × V) → Option (List V)
  | [] => some cs
  | (o, s, v) :: r =>
    bif Nat.beq v.cells.length s && Nat.ble (o + v.cells.length) cs.length then fillP (splice cs o v.cells) r else none

def H.cells (h : H) (b : Nat) : Option (List V) :=
  match h.get b with
  | some (.cells cs _) => some cs
  | _ => none

def H.ld1 (h : H) (b o : Nat) : Option V := (h.cells b).bind (·[o]?)

def H.ldA (h : H) (b o n : Nat) : Option (List V) :=
  (h.cells b).bind fun cs => bif Nat.ble (o + n) cs.length then some ((cs.drop o).take n) else none

def ones (vs : List V) : Bool := vs.all V.one

/-- Store a row of cells. -/
def H.stA (h : H) (b o : Nat) (vs : List V) : Option H :=
  match h.get b with
  | some (.cells cs false) => bif Nat.ble (o + vs.length) cs.length && ones vs then some (h.set b (.cells (splice cs o vs) false)) else none
  | _ => none

def wr (k : IntKind) (n : Int) : Int := k.wrap n

def evBin0 (op : BinOp) (x y : V) : Option V :=
  match x, y with
  | .int k a, .int k' b =>
    match op with
    | .shl => bif decide (0 ≤ b) then some (.int k (k.wrap (a * 2 ^ (min b.toNat k.bits)))) else none
    | .shr => bif decide (0 ≤ b) then some (.int k (a.fdiv (2 ^ (min b.toNat k.bits)))) else none
    | _ =>
    if k = k' then
      match op with
      | .add => some (.int k (wr k (a + b)))
      | .sub => some (.int k (wr k (a - b)))
      | .mul => some (.int k (wr k (a * b)))
      | .quo => if b = 0 then none else some (.int k (wr k (a.tdiv b)))
      | .rem => if b = 0 then none else some (.int k (a.tmod b))
      | .and => some (.int k (wr k (BitVec.ofInt k.bits a &&& BitVec.ofInt k.bits b).toNat))
      | .or => some (.int k (wr k (BitVec.ofInt k.bits a ||| BitVec.ofInt k.bits b).toNat))
      | .xor => some (.int k (wr k (BitVec.ofInt k.bits a ^^^ BitVec.ofInt k.bits b).toNat))
      | .andNot => some (.int k (wr k (BitVec.ofInt k.bits a &&& ~~~BitVec.ofInt k.bits b).toNat))
      | .eql => some (.bool (a == b))
      | .neq => some (.bool (a != b))
      | .lss => some (.bool (decide (a < b)))
      | .leq => some (.bool (decide (a ≤ b)))
      | .gtr => some (.bool (decide (a > b)))
      | .geq => some (.bool (decide (a ≥ b)))
      | _ => none
    else none
  | .str a, .str b =>
    match op with
    | .add => bif Nat.ble (a.length + b.length) 1000000 then some (.str (a ++ b)) else none
    | .eql => some (.bool (a == b))
    | .neq => some (.bool (!(a == b)))
    | _ => none
  | _, _ => none

/-- A number that is not known, told. -/
def V.conc (val : Nat → Int) : V → V
  | .sym k i => .int k (val i)
  | v => v

/-- Of numbers that are not known: tables of results. -/
class Tab where
  bin : BinOp → V → V → Option V
  cvi : IntKind → V → Option V
  eqi : V → V → Option Bool

/-- Numbers that are not known, and tables that are right of them. -/
class Sig extends Tab where
  val : Nat → Int
  bin_ok : ∀ op a b v, bin op a b = some v → evBin0 op (a.conc val) (b.conc val) = some (v.conc val)
  cvi_ok : ∀ k a v, cvi k a = some v → ∃ j n, a.conc val = .int j n ∧ v.conc val = .int k (wr k n)
  eqi_ok : ∀ a b q, eqi a b = some q → ∃ k m n, a.conc val = .int k m ∧ b.conc val = .int k n ∧ q = (m == n)

/-- Nothing is known. -/
@[reducible] def Tab.none : Tab := ⟨fun _ _ _ => .none, fun _ _ => .none, fun _ _ => .none⟩

def evBin [Tab] (op : BinOp) (x y : V) : Option V :=
  match evBin0 op x y with
  | some v => some v
  | none => Tab.bin op x y

def evUn (op : UnOp) (x : V) : Option V :=
  match op, x with
  | .neg, .int k n => some (.int k (wr k (0 - n)))
  | .xor, .int k n => some (.int k (wr k (BitVec.ofInt k.bits (if k.signed then -1 else k.max) ^^^ BitVec.ofInt k.bits n).toNat))
  | .not, .bool b => some (.bool !b)
  | _, _ => none

def part1 (cs : List V) (o : Nat) : Option V := cs[o]?
def partA (cs : List V) (o n : Nat) : Option V := bif Nat.ble (o + n) cs.length then some (.agg ((cs.drop o).take n)) else none

/-- A block that the run itself made, and that is still its own. -/
def H.own (h : H) (b : Nat) : Bool :=
  match h.get b with
  | some (.cells _ false) => true
  | _ => false

/-- Compare two one-cell values (no interface values). -/
def evSc [Tab] (h : H) : Sh → V → V → Option Bool
  | .int, .int k a, .int k' b => if k = k' then some (a == b) else none
  | .int, .sym k i, y => Tab.eqi (.sym k i) y
  | .int, x, .sym k i => Tab.eqi x (.sym k i)
  | .bool, .bool a, .bool b => some (a == b)
  | .str, .str a, .str b => some (a == b)
  | .ptr, .nilp, .nilp => some true
  | .ptr, .nilp, .ptr _ _ => some false
  | .ptr, .ptr _ _, .nilp => some false
  | .ptr, .ptr b o, .ptr c p => bif Nat.beq b c then some (Nat.beq o p) else bif h.own b && h.own c then some false else none
  | .slcN, .nils, .nils => some true
  | .slcN, .nils, .slc .. => some false
  | .slcN, .slc .., .nils => some false
  | .mapN, .nilm, .nilm => some true
  | .mapN, .nilm, .map _ => some false
  | .mapN, .map _, .nilm => some false
  | .fnN, .nilf, .nilf => some true
  | .fnN, .nilf, .fn .. => some false
  | .fnN, .fn .., .nilf => some false
  | _, _, _ => none

/-- Compare two interface values; 'ts' says how values of a dynamic type are compared. -/
def evIfc [Tab] (h : H) (ts : TypeId → Option Sh) : V → V → Option Bool
  | .nili, .nili => some true
  | .nili, .ifc _ _ => some false
  | .ifc _ _, .nili => some false
  | .ifc t v, .ifc u w => bif Nat.beq t u then (ts t).bind fun s => evSc h s v w else some false
  | _, _ => none

def V.isNili : V → Bool
  | .nili => true
  | _ => false

/-- Compare two one-cell values. -/
def evSh [Tab] (h : H) (ts : TypeId → Option Sh) (s : Sh) (x y : V) : Option Bool :=
  match s with
  | .ifc => evIfc h ts x y
  | .ifcS => bif x.isNili && y.isNili then none else evIfc h ts x y
  | s => evSc h s x y

def evEqL [Tab] (h : H) (ts : TypeId → Option Sh) : List (Nat × Sh) → List V → List V → Option Bool
  | [], _, _ => some true
  | (o, s) :: r, xs, ys =>
    match xs[o]?, ys[o]? with
    | some a, some b =>
      match evSh h ts s a b with
      | some true => evEqL h ts r xs ys
      | some false => some false
      | none => none
    | _, _ => none

def evEq [Tab] (h : H) (ts : TypeId → Option Sh) : Shape → V → V → Option Bool
  | .sc s, x, y => evSh h ts s x y
  | .flat ls, .agg xs, .agg ys => evEqL h ts ls xs ys
  | _, _, _ => none

/-! ### Operations -/

structure Cx where
  ft : T RFunc
  ts : TypeId → Option Sh
  orc : FuncId → Option (List V → H → Option (V × H))

/-- What an operation comes to: a value · a new block, and the value that names it · a value and another heap · a call. -/
inductive Res where
  | val (v : V)
  | new (b : Blk) (f : Nat → V)
  | upd (v : V) (h : H)
  | call (f : FuncId) (args : List V)

def unit : V := .tup []

def V.toNat? : V → Option Nat
  | .int _ n => bif decide (0 ≤ n) then some n.toNat else none
  | _ => none

/-- A bound of a slice expression: not above 'm'. -/
def bnd (x : Option V) (dflt m : Nat) : Option Nat :=
  match x with
  | none => some dflt
  | some v => v.toNat?.bind fun n => bif Nat.ble n m then some n else none

/-- A slice of a slice. -/
def addO (b o l esz sz h m : Nat) : V :=
  .slc b (bif Nat.beq sz 0 && Nat.beq m l then o else o + l * esz) (h - l) (m - l) sz

/-- The elements of a slice, as a row of cells. -/
def sliceCells (h : H) (esz : Nat) : V → Option (Nat × List V)
  | .nils => some (0, [])
  | .slc b o len _ _ => (h.ldA b o (len * esz)).map fun cs => (len, cs)
  | _ => none

def repZ (zero : List V) : Nat → List V
  | 0 => []
  | n + 1 => zero ++ repZ zero n

/-- append(s, the n elements 'vs'). -/
def appendV (h : H) (esz bytes : Nat) (s : V) (n : Nat) (vs : List V) : Option Res :=
  bif !(Nat.ble bytes 65536 && Nat.ble n 1000000 && ones vs && Nat.ble 1 esz) then none else
  match s with
  | .nils => bif Nat.beq n 0 then some (.val .nils) else some (.upd (.slc h.nx 0 n n esz) ⟨h.t.set h.nx (.cells vs false), h.nx + 1⟩)
  | .slc b o len cap sz =>
    bif !(Nat.ble (len + n) 1000000) then none else
    bif Nat.ble (len + n) cap then
      bif Nat.beq n 0 then some (.val (.slc b o (len + n) cap sz)) else
      (h.stA b (o + len * esz) vs).map fun h' => .upd (.slc b o (len + n) cap sz) h'
    else
      match h.get b with
      | some (.cells cs ro) =>
        bif !((Nat.beq sz 0 || (Nat.beq sz esz && !ro)) && Nat.ble (o + len * esz) cs.length) then none else
        some (.upd (.slc h.nx 0 (len + n) (len + n) esz) ⟨(bif Nat.beq sz 0 then h else h.set b .dead).t.set h.nx (.cells ((cs.drop o).take (len * esz) ++ vs) false), h.nx + 1⟩)
      | _ => none
  | _ => none

def findK [Tab] (h : H) (ts : TypeId → Option Sh) (s : Shape) (k : V) : List (V × V) → Nat → Option (Option (Nat × V))
  | [], _ => some none
  | (k', v) :: r, i =>
    match evEq h ts s k k' with
    | some true => some (some (i, v))
    | some false => findK h ts s k r (i + 1)
    | none => none

def maxL : IntKind → Int → List V → Option V
  | k, m, [] => some (.int k m)
  | k, m, .int k' x :: r => if k = k' then maxL k (if x > m then x else m) r else none
  | _, _, _ => none

def minL : IntKind → Int → List V → Option V
  | k, m, [] => some (.int k m)
  | k, m, .int k' x :: r => if k = k' then minL k (if x < m then x else m) r else none
  | _, _, _ => none

def look? (t : TypeId) : List (TypeId × FuncId) → Option FuncId
  | [] => none
  | (u, f) :: r => bif Nat.beq t u then some f else look? t r

def mem? (t : TypeId) : List TypeId → Bool
  | [] => false
  | u :: r => bif Nat.beq t u then true else mem? t r

mutual
def V.beq : V → V → Bool
  | .bool a, .bool b => a == b
  | .int k a, .int j b => k == j && a == b
  | .sym k a, .sym j b => k == j && Nat.beq a b
  | .str a, .str b => a == b
  | .nilp, .nilp => true
  | .ptr a b, .ptr c d => Nat.beq a c && Nat.beq b d
  | .nils, .nils => true
  | .slc a b c d e, .slc a' b' c' d' e' => Nat.beq a a' && Nat.beq b b' && Nat.beq c c' && Nat.beq d d' && Nat.beq e e'
  | .nilm, .nilm => true
  | .map a, .map b => Nat.beq a b
  | .nilf, .nilf => true
  | .fn f a c, .fn f' a' c' => Nat.beq f f' && V.beqL a a' && V.beqL c c'
  | .nili, .nili => true
  | .ifc t v, .ifc t' v' => Nat.beq t t' && V.beq v v'
  | .agg a, .agg b => V.beqL a b
  | .tup a, .tup b => V.beqL a b
  | _, _ => false
def V.beqL : List V → List V → Bool
  | [], [] => true
  | a :: r, b :: s => V.beq a b && V.beqL r s
  | _, _ => false
end

/-- The key that is there already is the very same. -/
def oldOk (es : List (V × V)) (k : V) : Option (Nat × V) → Bool
  | some (i, _) => match es[i]? with
    | some (k', _) => V.beq k' k
    | none => false
  | none => true

def V.isInt : V → Bool
  | .int _ _ => true
  | _ => false

def keyOk (kn : Nat) (k : V) : Bool :=
  bif Nat.beq kn 0 then
    match k with
    | .int _ _ | .bool _ | .str _ => true
    | _ => false
  else match k with
    | .agg cs => Nat.beq cs.length kn && cs.all V.isInt
    | _ => false

def putK (es : List (V × V)) (k v : V) : Option (Nat × V) → List (V × V)
  | some (i, _) => es.set i (k, v)
  | none => es ++ [(k, v)]

def mapOf (h : H) : V → Option (List (V × V))
  | .nilm => some []
  | .map r => match h.get r with
    | some (.map es) => some es
    | _ => none
  | _ => none

def lookV (z : V) (ok : Bool) : Option (Nat × V) → V
  | some (_, v) => bif ok then .tup [v, .bool true] else v
  | none => bif ok then .tup [z, .bool false] else z

def evOp [Tab] (cx : Cx) (e : Env) (h : H) : RO → Option Res
  | .mv x => (x.ev e).map .val
  | .pick c a b => (c.ev e).bind fun
    | .bool t => ((bif t then a else b).ev e).map .val
    | _ => none
  | .new cs => some (.new (.cells cs false) fun i => .ptr i 0)
  | .box esz x => (x.ev e).bind fun v => bif Nat.beq v.cells.length esz && ones v.cells then some (.new (.cells v.cells false) fun i => .ptr i 0) else none
  | .build z ps => (evps e ps).bind fun l => (fillP z l).map fun cs => .val (.agg cs)
  | .bsl esz z n ps => (evps e ps).bind fun l => (fillP z l).bind fun cs =>
      bif ones cs then some (.new (.cells cs false) fun i => .slc i 0 n n 0) else none
  | .ld1 x => (x.ev e).bind fun
    | .ptr b o => (h.ld1 b o).map .val
    | _ => none
  | .ldA n x => (x.ev e).bind fun
    | .ptr b o => (h.ldA b o n).map fun cs => .val (.agg cs)
    | _ => none
  | .st n a x => (a.ev e).bind fun
    | .ptr b o => (x.ev e).bind fun v => bif Nat.beq v.cells.length n then (h.stA b o v.cells).map fun h' => .upd unit h' else none
    | _ => none
  | .nilck x => (x.ev e).bind fun
    | .ptr b o => some (.val (.ptr b o))
    | .ifc t v => some (.val (.ifc t v))
    | .fn f a c => some (.val (.fn f a c))
    | _ => none
  | .bin op x y => (x.ev e).bind fun a => (y.ev e).bind fun b => (evBin op a b).map .val
  | .eq neg s x y => (x.ev e).bind fun a => (y.ev e).bind fun b => (evEq h cx.ts s a b).map fun r => .val (.bool (bif neg then !r else r))
  | .un op x => (x.ev e).bind fun a => (evUn op a).map .val
  | .cvi k x => (x.ev e).bind fun
    | .int _ n => some (.val (.int k (wr k n)))
    | .sym j i => (Tab.cvi k (.sym j i)).map .val
    | _ => none
  | .cvs x => (x.ev e).bind fun
    | .str s => some (.val (.str s))
    | _ => none
  | .mkifc t x => (x.ev e).map fun v => .val (.ifc t v)
  | .mkfn f a c => (evs e a).bind fun a => (evs e c).map fun c => .val (.fn f a c)
  | .mkmap => some (.new (.map []) .map)
  | .mksl esz bytes z l c => (l.ev e).bind fun lv => (c.ev e).bind fun cv => lv.toNat?.bind fun l => cv.toNat?.bind fun c =>
      bif Nat.ble l c && Nat.ble c 1000000 && Nat.ble bytes 65536 && Nat.beq z.length esz && ones z && Nat.ble 1 esz then
        some (.new (.cells (repZ z c) false) fun i => .slc i 0 l c 0) else none
  | .slStr x lo hi => (x.ev e).bind fun
    | .str s => (evo e lo).bind fun lo => (evo e hi).bind fun hi => (bnd hi s.length s.length).bind fun hh => (bnd lo 0 hh).map fun l => .val (.str ((s.drop l).take (hh - l)))
    | _ => none
  | .slSlc esz x lo hi mx => (x.ev e).bind fun
    | .nils => (evo e lo).bind fun lo => (evo e hi).bind fun hi => (evo e mx).bind fun mx => bif mx.isSome && !hi.isSome then none else (bnd mx 0 0).bind fun m => (bnd hi 0 m).bind fun hh => (bnd lo 0 hh).map fun _ => .val .nils
    | .slc b o len cap sz => (evo e lo).bind fun lo => (evo e hi).bind fun hi => (evo e mx).bind fun mx =>
        bif (mx.isSome && (!hi.isSome || (!(Nat.beq sz 0) && Nat.beq cap 0))) || !(Nat.beq sz 0 || Nat.beq sz esz) then none else
        (bnd mx cap cap).bind fun m => (bnd hi len m).bind fun hh => (bnd lo 0 hh).map fun l => .val (addO b o l esz (bif mx.isSome then 0 else sz) hh m)
    | _ => none
  | .slArr n esz x lo hi mx => (x.ev e).bind fun
    | .ptr b o => (evo e lo).bind fun lo => (evo e hi).bind fun hi => (evo e mx).bind fun mx =>
        bif mx.isSome && !hi.isSome then none else
        (bnd mx n n).bind fun m => (bnd hi n m).bind fun hh => (bnd lo 0 hh).map fun l => .val (addO b o l esz 0 hh m)
    | _ => none
  | .fadd off x => (x.ev e).bind fun
    | .ptr b o => some (.val (.ptr b (o + off)))
    | _ => none
  | .fld1 off x => (x.ev e).bind fun
    | .agg cs => (part1 cs off).map .val
    | _ => none
  | .fldA off n x => (x.ev e).bind fun
    | .agg cs => (partA cs off n).map .val
    | _ => none
  | .ixaA n esz x i => (x.ev e).bind fun
    | .ptr b o => (i.ev e).bind fun iv => iv.toNat?.bind fun i => bif Nat.blt i n then some (.val (.ptr b (o + i * esz))) else none
    | _ => none
  | .ixaS esz x i => (x.ev e).bind fun
    | .slc b o len _ _ => (i.ev e).bind fun iv => iv.toNat?.bind fun i => bif Nat.blt i len then some (.val (.ptr b (o + i * esz))) else none
    | .slv b o _ lo => (i.ev e).bind fun iv => iv.toNat?.bind fun i => bif Nat.blt i lo then some (.val (.ptr b (o + i * esz))) else none
    | _ => none
  | .ixA1 n x i => (x.ev e).bind fun
    | .agg cs => (i.ev e).bind fun iv => iv.toNat?.bind fun i => bif Nat.blt i n then (part1 cs i).map .val else none
    | _ => none
  | .ixAA n esz x i => (x.ev e).bind fun
    | .agg cs => (i.ev e).bind fun iv => iv.toNat?.bind fun i => bif Nat.blt i n then (partA cs (i * esz) esz).map .val else none
    | _ => none
  | .ixS x i => (x.ev e).bind fun
    | .str s => (i.ev e).bind fun iv => iv.toNat?.bind fun i => (s[i]?).bind fun (b : Nat) => some (.val (.int .u8 (Int.ofNat b)))
    | _ => none
  | .look s kn z ok m k => (m.ev e).bind fun mv => (k.ev e).bind fun kv => bif keyOk kn kv then (mapOf h mv).bind fun es => (findK h cx.ts s kv es 0).map fun r => .val (lookV z ok r) else none
  | .mput s kn m k v => (m.ev e).bind fun
    | .map r => (k.ev e).bind fun kv => (v.ev e).bind fun vv => bif keyOk kn kv then
      match h.get r with
      | some (.map es) => (findK h cx.ts s kv es 0).bind fun q => bif oldOk es kv q then some (.upd unit (h.set r (.map (putK es kv vv q)))) else none
      | _ => none else none
    | _ => none
  | .asI tys z ok x => (x.ev e).bind fun
    | .nili => bif ok then some (.val (.tup [z, .bool false])) else none
    | .ifc t v => bif mem? t tys then some (.val (bif ok then .tup [.ifc t v, .bool true] else .ifc t v)) else none
    | _ => none
  | .asC u z ok x => (x.ev e).bind fun
    | .nili => bif ok then some (.val (.tup [z, .bool false])) else none
    | .ifc t v => bif Nat.beq t u then some (.val (bif ok then .tup [v, .bool true] else v)) else bif ok then some (.val (.tup [z, .bool false])) else none
    | _ => none
  | .ex i x => (x.ev e).bind fun
    | .tup vs => (vs[i]?).map .val
    | _ => none
  | .call f az => (evs e az).map fun vs => .call f vs
  | .callv f az => (f.ev e).bind fun
    | .fn f a c => (evs e az).map fun vs => .call f (a ++ vs ++ c)
    | _ => none
  | .inv tbl x az => (x.ev e).bind fun
    | .ifc t v => (look? t tbl).bind fun f => (evs e az).map fun vs => .call f (v :: vs)
    | _ => none
  | .lenS x => (x.ev e).bind fun
    | .str s => some (.val (.int .i64 (s.length : Nat)))
    | _ => none
  | .lenL x => (x.ev e).bind fun
    | .nils => some (.val (.int .i64 (0 : Nat)))
    | .slc _ _ len _ _ => some (.val (.int .i64 len))
    | .slv _ _ i _ => some (.val (.sym .i64 i))
    | _ => none
  | .lenM x => (x.ev e).bind fun
    | .nilm => some (.val (.int .i64 (0 : Nat)))
    | .map r => (match h.get r with | some (.map es) => some (.val (.int .i64 (es.length : Nat))) | _ => none)
    | _ => none
  | .lenA n => some (.val (.int .i64 n))
  | .cap x => (x.ev e).bind fun
    | .nils => some (.val (.int .i64 0))
    | .slc _ _ _ cap sz => bif Nat.beq sz 0 then some (.val (.int .i64 cap)) else none
    | _ => none
  | .app esz bytes s x => (s.ev e).bind fun sv => (x.ev e).bind fun xv => (sliceCells h esz xv).bind fun (n, vs) => appendV h esz bytes sv n vs
  | .appZ esz bytes z s n => (s.ev e).bind fun sv => (n.ev e).bind fun nv => nv.toNat?.bind fun n => bif Nat.ble n 1000000 then appendV h esz bytes sv n (repZ z n) else none
  | .copy esz d s => (d.ev e).bind fun dv => (s.ev e).bind fun sv => (sliceCells h esz sv).bind fun (n, vs) =>
      match dv with
      | .nils => some (.val (.int .i64 0))
      | .slc b o len _ _ =>
        let m := min n len
        bif Nat.beq m 0 then some (.val (.int .i64 0)) else
        (h.stA b o (vs.take (m * esz))).map fun h' => .upd (.int .i64 m) h'
      | _ => none
  | .clr z x => (x.ev e).bind fun
    | .nils => some (.val unit)
    | .slc b o len _ _ => bif Nat.beq len 0 then some (.val unit) else (h.stA b o (repZ z len)).map fun h' => .upd unit h'
    | _ => none
  | .mxx xs => (evs e xs).bind fun
    | .int k m :: r => (maxL k m r).map .val
    | _ => none
  | .mnn xs => (evs e xs).bind fun
    | .int k m :: r => (minL k m r).map .val
    | _ => none
  | .bad => none

/-! ### Regions, code, calls -/

def Env.put (e : Env) (d : Option Nat) (v : V) : Env :=
  match d with
  | none => e
  | some d => e.set d v

/-- Is the operation to be carried out? -/
def guardOk (e : Env) : Option (Nat × Bool) → Option Bool
  | none => some true
  | some (j, w) =>
    match e.get j with
    | some (.bool b) => some (b == w)
    | some .top => none
    | some _ => some false
    | none => none

abbrev CallF := FuncId → List V → H → Option (V × H)

def evOps [Tab] (cx : Cx) (call : CallF) : List ROp → Env → H → Option (Env × H)
  | [], e, h => some (e, h)
  | o :: r, e, h =>
    match guardOk e o.g with
    | some true =>
      match evOp cx e h o.o with
      | some (.val v) => evOps cx call r (Env.put e o.d v) h
      | some (.new b f) => evOps cx call r (Env.put e o.d (f h.nx)) ⟨h.t.set h.nx b, h.nx + 1⟩
      | some (.upd v h') => evOps cx call r (Env.put e o.d v) h'
      | some (.call f az) =>
        match call f az h with
        | some (v, h') => evOps cx call r (Env.put e o.d v) h'
        | none => none
      | none => none
    | some false => evOps cx call r (Env.put e o.d unit) h
    | none => none

/-- 0: neither reads nor turns memory · 1: reads · 2: a new block · 3: turns memory. -/
def RO.cls : RO → Nat
  | .ld1 _ | .ldA .. | .eq .. | .look .. | .lenM _ => 1
  | .new .. | .box .. | .bsl .. | .mkmap | .mksl .. => 2
  | .st .. | .mput .. | .app .. | .appZ .. | .copy .. | .clr .. | .call .. | .callv .. | .inv .. => 3
  | _ => 0

/-- One operation's record in a region that draws its order. -/
structure Rec where
  e : Env
  hb : H
  ha : H
  v : V

/-- A region that draws its order, in the order of the text: 'i': the operation's place; new blocks get the names that were set aside. -/
def evDrw [Tab] (cx : Cx) (call : CallF) (base : Nat) : List ROp → Nat → Env → H → List Rec → Option (Env × H × List Rec)
  | [], _, e, h, l => some (e, h, l.reverse)
  | o :: r, i, e, h, l =>
    match guardOk e o.g with
    | some true =>
      match evOp cx e h o.o with
      | some (.val v) => evDrw cx call base r (i + 1) (Env.put e o.d v) h (⟨e, h, h, v⟩ :: l)
      | some (.new b f) =>
        match h.get (base + i), Nat.beq o.o.cls 2 with
        | none, true => evDrw cx call base r (i + 1) (Env.put e o.d (f (base + i))) (h.set (base + i) b) (⟨e, h, h.set (base + i) b, f (base + i)⟩ :: l)
        | _, _ => none
      | some (.upd v h') => bif Nat.beq o.o.cls 3 then evDrw cx call base r (i + 1) (Env.put e o.d v) h' (⟨e, h, h', v⟩ :: l) else none
      | some (.call f az) =>
        match call f az h, Nat.beq o.o.cls 3 with
        | some (v, h'), true => evDrw cx call base r (i + 1) (Env.put e o.d v) h' (⟨e, h, h', v⟩ :: l)
        | _, _ => none
      | none => none
    | some false => evDrw cx call base r (i + 1) (Env.put e o.d unit) h (⟨e, h, h, unit⟩ :: l)
    | none => none

def Blk.beq : Blk → Blk → Bool
  | .cells a r, .cells a' r' => V.beqL a a' && r == r'
  | .map a, .map b => Nat.beq a.length b.length && V.beqL (a.map (·.1)) (b.map (·.1)) && V.beqL (a.map (·.2)) (b.map (·.2))
  | _, _ => false

/-- Operation 'o' of record 'r' comes to the same in another heap: a read tells the same value; a new block is still as it was laid, or is not there yet. -/
def sameIn [Tab] (cx : Cx) (o : ROp) (r : Rec) (id : Nat) (early : Bool) (h : H) : Bool :=
  match guardOk r.e o.g with
  | some true =>
    match evOp cx r.e r.hb o.o with
    | some (.val _) =>
      match evOp cx r.e h o.o with
      | some (.val v) => V.beq v r.v
      | _ => false
    | some (.new b _) =>
      match h.get id with
      | some b' => early && Blk.beq b b'
      | none => !early
    | _ => false
  | some false => true
  | none => false

def chkAll [Tab] (cx : Cx) (base : Nat) (ops : List ROp) (l : List Rec) : List (Nat × Nat) → Bool
  | [] => true
  | (i, j) :: r =>
    match ops[i]?, l[i]?, l[j]? with
    | some o, some ri, some rj => sameIn cx o ri (base + i) (Nat.blt i j) rj.hb && sameIn cx o ri (base + i) (Nat.blt i j) rj.ha && chkAll cx base ops l r
    | _, _, _ => false

/-- How a piece of code ends. -/
inductive Ex where
  | nrm
  | exit (id : Nat)
  | ret

def loopN (body : Env → H → Option (Ex × Env × H)) : Nat → Env → H → Option (Ex × Env × H)
  | 0, _, _ => none
  | n + 1, e, h =>
    match body e h with
    | some (.nrm, e', h') => loopN body n e' h'
    | r => r

def evCode [Tab] (cx : Cx) (call : CallF) (fuel : Nat) : RCode → Env → H → Option (Ex × Env × H)
  | .skip, e, h => some (.nrm, e, h)
  | .reg ops, e, h =>
    match evOps cx call ops e h with
    | some (e', h') => some (.nrm, e', h')
    | none => none
  | .drw ops chk, e, h =>
    match evDrw cx call h.nx ops 0 e ⟨h.t, h.nx + ops.length⟩ [] with
    | some (e', h', l) => bif chkAll cx h.nx ops l chk then some (.nrm, e', h') else none
    | none => none
  | .seq a b, e, h =>
    match evCode cx call fuel a e h with
    | some (.nrm, e', h') => evCode cx call fuel b e' h'
    | r => r
  | .cond c a b, e, h =>
    match c.ev e with
    | some (.bool true) => evCode cx call fuel a e h
    | some (.bool false) => evCode cx call fuel b e h
    | _ => none
  | .block id b, e, h =>
    match evCode cx call fuel b e h with
    | some (.exit id', e', h') => bif Nat.beq id id' then some (.nrm, e', h') else some (.exit id', e', h')
    | r => r
  | .loop b, e, h => loopN (evCode cx call fuel b) fuel e h
  | .exit id, e, h => some (.exit id, e, h)
  | .ret, e, h => some (.ret, e, h)
  | .bad, _, _ => none

def evRes (e : Env) (h : H) : RRes → Option V
  | .t i => e.get i
  | .cell1 i => match e.get i with | some (.ptr b o) => h.ld1 b o | _ => none
  | .cellA i n => match e.get i with | some (.ptr b o) => (h.ldA b o n).map .agg | _ => none

def evRess (e : Env) (h : H) : List RRes → Option (List V)
  | [] => some []
  | r :: rs => (evRes e h r).bind fun v => (evRess e h rs).map (v :: ·)

def packRes : List V → V
  | [v] => v
  | vs => .tup vs

def envOf : List V → Nat → Env → Env
  | [], _, e => e
  | v :: vs, i, e => envOf vs (i + 1) (e.set i v)

def evCall [Tab] (cx : Cx) (fuel : Nat) : Nat → CallF
  | 0, _, _, _ => none
  | n + 1, f, az, h =>
    match cx.orc f with
    | some g => g az h
    | none =>
      match cx.ft.get f with
      | none => none
      | some rf =>
        match evCode cx (evCall cx fuel n) fuel rf.body (envOf az 0 .nil) h with
        | some (.exit _, _, _) => none
        | some (_, e, h') =>
          match evRess e h' rf.res with
          | some vs => some (packRes vs, h')
          | none => none
        | none => none
end Go.Ev
