import Derived.Test.YtolngjaihlggnaaGreatDoorEvCore
/-! From the model's code to the evaluator's. -/
namespace Go.Ev
set_option linter.unusedVariables false

def ofS : Value → Option V
  | .bool b => some (.bool b)
  | .int k n => some (.int k n)
  | .string s => some (.str (s.data.toList.map UInt8.toNat))
  | .pointer none => some .nilp
  | .slice none 0 0 => some .nils
  | .map none => some .nilm
  | .nilFunc => some .nilf
  | .func (.func f) a c => if a.size = 0 ∧ c.size = 0 then some (.fn f [] []) else none
  | .nilIface => some .nili
  | _ => none

def ofSs : List Value → Option (List V)
  | [] => some []
  | v :: vs => (ofS v).bind fun x => (ofSs vs).bind fun xs => some (x :: xs)

def ofV : Value → Option V
  | .agg cs => (ofSs cs.toList).map .agg
  | .tuple cs => (ofSs cs.toList).map .tup
  | v => ofS v

variable (P : Program)

def rX (P : Program) : Operand → Option X
  | .tmp t => some (.t t)
  | .const v => (ofV v).map .c
  | .global g => if g < P.globals.size then some (.c (.ptr g 0)) else none
  | .func f => some (.c (.fn f [] []))

def rXs (P : Program) : List Operand → Option (List X)
  | [] => some []
  | x :: xs => (rX P x).bind fun v => (rXs P xs).bind fun vs => some (v :: vs)

def rXo (P : Program) : Option Operand → Option (Option X)
  | none => some none
  | some x => (rX P x).map some

def tSize (t : TypeId) : Option Nat := (P.info? t).map (·.size)
def tAgg (t : TypeId) : Option Bool := (P.underlying t).map fun | .struct _ | .array _ _ => true | _ => false
def tZero (t : TypeId) : Option V := ((P.info? t).bind (·.zero)).bind ofV

def scSh (P : Program) (t : TypeId) : Option Sh :=
  match P.underlying t with
  | some (.int _) => some .int
  | some .bool => some .bool
  | some .string => some .str
  | some (.pointer e) => (tSize P e).bind fun n => if n = 0 then none else some .ptr
  | some (.interface ms) => some (if ms.isEmpty then .ifc else .ifcS)
  | some (.slice _) => some .slcN
  | some (.map _ _) => some .mapN
  | some (.func _ _ _) => some .fnN
  | _ => none

def flatFs (P : Program) (rec : TypeId → Nat → Option (List (Nat × Sh))) (st off : Nat) : List Field → Option (List (Nat × Sh))
  | [] => some []
  | f :: fs =>
    if f.name = "_" then flatFs P rec st off fs else
    (tSize P f.type).bind fun sf => if f.offset + sf ≤ st then (rec f.type (off + f.offset)).bind fun a => (flatFs P rec st off fs).map (a ++ ·) else none

def flatEs (rec : Nat → Option (List (Nat × Sh))) (s off : Nat) : (n i : Nat) → Option (List (Nat × Sh))
  | 0, _ => some []
  | n + 1, i => (rec (off + i * s)).bind fun a => (flatEs rec s off n (i + 1)).map (a ++ ·)

/-- The cells of a struct or an array, each with how it is compared. -/
def flatSh (P : Program) : Nat → TypeId → Nat → Option (List (Nat × Sh))
  | 0, _, _ => none
  | d + 1, t, off => (tSize P t).bind fun st =>
    match P.underlying t with
    | some (.struct fs) => if P.stoodInHeld t then none else flatFs P (flatSh P d) st off fs.toList
    | some (.array n e) => (tSize P e).bind fun s => if n * s ≤ st then flatEs (flatSh P d e) s off n 0 else none
    | some (.int _) | some .bool | some .string | some (.pointer _) => if st = 1 then (scSh P t).map fun s => [(off, s)] else none
    | _ => none

def rShape (t : TypeId) : Option Shape :=
  match P.underlying t with
  | some (.struct _) | some (.array _ _) => if P.eqGuardType P.depth t then none else (flatSh P 8 t 0).map .flat
  | _ => (scSh P t).map .sc

def isC : Operand → Bool
  | .const _ => true
  | _ => false

/-- The shape of a comparison of two operands: 'nil' written out lets two nil interface values be compared. -/
def rEqSh (t : TypeId) (x y : Operand) : Option Shape :=
  (rShape P t).map fun
    | .sc .ifcS => .sc (if isC x || isC y then .ifc else .ifcS)
    | s => s

/-- How a map's keys are compared; 0: one cell; else an array of so many numbers. -/
def keySh (P : Program) (t : TypeId) : Option (Shape × Nat) :=
  match P.underlying t with
  | some (.int _) | some .bool | some .string => (rShape P t).map fun s => (s, 0)
  | some (.array n e) => match P.underlying e with
    | some (.int _) => if tSize P e = some 1 ∧ n ≠ 0 then (rShape P t).map fun s => (s, n) else none
    | _ => none
  | _ => none

/-- Which types have a method whose receiver is the value itself. -/
def methTbl (name : String) : List (TypeId × FuncId) :=
  (List.range P.types.size).filterMap fun t =>
    (P.info? t).bind fun i => (i.methods.find? (·.name == name)).bind fun m =>
      if m.path.size = 0 then
        match m.func, P.underlying t with
        | some (f, true), some (.pointer _) => some (t, f)
        | some (f, false), some (.struct _) => some (t, f)
        | some (f, false), some (.int _) => some (t, f)
        | _, _ => none
      else none

def asITbl (want : Array (String × TypeId)) : List TypeId :=
  (List.range P.types.size).filter fun t => match P.info? t with
    | some i => (want.toList.filter fun (name, sig) => !i.methods.any fun m => m.name == name && m.sig == sig).isEmpty
    | none => false

def rParts (P : Program) (places : Nat → Option (Nat × Nat)) : List (Nat × Operand) → Option (List (Nat × Nat × X))
  | [] => some []
  | (i, x) :: r => (places i).bind fun (o, s) => (rX P x).bind fun x => (rParts P places r).bind fun r => some ((o, s, x) :: r)

def goodFn (f : FuncId) : Bool :=
  match P.funcs[f]? with
  | some fn => !(fn.name == "runtime.NumGoroutine") && fn.body.isSome
  | none => false

def knownFn (f : FuncId) : Bool :=
  match P.funcs[f]? with
  | some fn => !(fn.name == "runtime.NumGoroutine")
  | none => false

def rBuiltin (b : Builtin) (ats : Array TypeId) (args : Array Operand) : Option RO :=
  match b, args.toList, ats.toList with
  | .len, [x], [t] => match P.underlying t with
    | some .string => (rX P x).map .lenS
    | some (.slice _) => (rX P x).map .lenL
    | some (.map _ _) => (rX P x).map .lenM
    | some (.array n _) => some (.lenA n)
    | some (.pointer a) => match P.underlying a with
      | some (.array n _) => some (.lenA n)
      | _ => none
    | _ => none
  | .cap, [x], [t] => match P.underlying t with
    | some (.slice _) => (rX P x).map .cap
    | _ => none
  | .append, [s, x], [t, u] => match P.underlying t with
    | some (.slice e) => (rX P s).bind fun s => (rX P x).bind fun x => (P.info? e).bind fun i => (tZero P e).bind fun z =>
      if z.cells.length = i.size then
        match P.underlying u with
        | some (.slice _) => some (.app i.size i.bytes s x)
        | some (.int _) => some (.appZ i.size i.bytes z.cells s x)
        | _ => none
      else none
    | _ => none
  | .copy, [d, s], [t, u] => match P.underlying t, P.underlying u with
    | some (.slice e), some (.slice _) => (rX P d).bind fun d => (rX P s).bind fun s => (tSize P e).map fun n => .copy n d s
    | _, _ => none
  | .clear, [x], [t] => match P.underlying t with
    | some (.slice e) => (rX P x).bind fun x => (tZero P e).map fun z => .clr z.cells x
    | _ => none
  | .max, xs, _ => (rXs P xs).map .mxx
  | .min, xs, _ => (rXs P xs).map .mnn
  | _, _, _ => none

def rOp? (o : Op) : Option RO :=
  match o with
  | .move x | .assign x => (rX P x).map .mv
  | .pick c a b => (rX P c).bind fun c => (rX P a).bind fun a => (rX P b).map fun b => .pick c a b
  | .alloc e => (tZero P e).map fun z => .new z.cells
  | .box e x => (tSize P e).bind fun n => (rX P x).map fun x => .box n x
  | .build t ps =>
    match P.underlying t with
    | some (.struct fs) => (tZero P t).bind fun z => (fs.toList.mapM fun f => (P.info? f.type).map fun i => (f.offset, i.size)).bind fun pl =>
      (rParts P (pl.toArray[·]?) ps.toList).map fun l => .build z.cells l
    | some (.array _ e) => (tZero P t).bind fun z => (P.info? e).bind fun i =>
      (rParts P (fun j => some (j * i.size, i.size)) ps.toList).map fun l => .build z.cells l
    | _ => none
  | .buildSlice t len ps =>
    match P.underlying t with
    | some (.slice e) => (P.info? e).bind fun i => (tZero P e).bind fun z =>
      if len * i.size ≤ 2 ^ 24 ∧ z.cells.length = i.size ∧ i.size ≠ 0 ∧ (len ≠ 0 ∨ ps.size = 0) then (rParts P (fun j => some (j * i.size, i.size)) ps.toList).map fun l => .bsl i.size (repZ z.cells len) len l else none
    | _ => none
  | .load t a => (tAgg P t).bind fun b => (rX P a).bind fun a => if b then (tSize P t).map fun n => .ldA n a else some (.ld1 a)
  | .store t a x => (tSize P t).bind fun n => (rX P a).bind fun a => (rX P x).map fun x => .st n a x
  | .nilCheck x => (rX P x).map .nilck
  | .binOp op t x y _ =>
    match P.underlying t with
    | some (.int _) | some .string => (rX P x).bind fun x => (rX P y).map fun y => .bin op x y
    | _ =>
      match op with
      | .eql => (rEqSh P t x y).bind fun s => (rX P x).bind fun x => (rX P y).map fun y => .eq false s x y
      | .neq => (rEqSh P t x y).bind fun s => (rX P x).bind fun x => (rX P y).map fun y => .eq true s x y
      | _ => none
  | .unOp op _ x => (rX P x).map (.un op)
  | .convert s d x =>
    match P.underlying s, P.underlying d with
    | some (.int _), some (.int k) => (rX P x).map (.cvi k)
    | some .string, some .string => (rX P x).map .cvs
    | _, _ => none
  | .makeInterface t x =>
    match P.underlying t with
    | some (.interface _) | none => none
    | _ => (rX P x).map (.mkifc t)
  | .makeFunc (.func f) a c => if knownFn P f then (rXs P a.toList).bind fun a => (rXs P c.toList).map fun c => .mkfn f a c else none
  | .makeMap t r =>
    match r with
    | none => some .mkmap
    | some (.const (.int _ _)) => match P.underlying t with
      | some (.map _ _) => some .mkmap
      | _ => none
    | _ => none
  | .makeSlice t l c =>
    match P.underlying t with
    | some (.slice e) => (tZero P e).bind fun z => (P.info? e).bind fun i => (rX P l).bind fun l => (rX P c).map fun c => .mksl i.size i.bytes z.cells l c
    | _ => none
  | .slice t x lo hi mx =>
    (rX P x).bind fun x => (rXo P lo).bind fun lo => (rXo P hi).bind fun hi => (rXo P mx).bind fun mx =>
    match P.underlying t with
    | some .string => if mx.isSome then none else some (.slStr x lo hi)
    | some (.slice e) => (tSize P e).map fun n => .slSlc n x lo hi mx
    | some (.array n e) => (tSize P e).map fun s => .slArr n s x lo hi mx
    | some (.pointer a) => match P.underlying a with
      | some (.array n e) => (tSize P e).map fun s => .slArr n s x lo hi mx
      | _ => none
    | _ => none
  | .fieldAddr s x f =>
    match P.underlying s with
    | some (.struct fs) => (fs[f]?).bind fun fd => (tSize P fd.type).bind fun n => if n = 0 then none else (rX P x).map (.fadd fd.offset)
    | _ => none
  | .field s x f =>
    match P.underlying s with
    | some (.struct fs) => (fs[f]?).bind fun fd => (tAgg P fd.type).bind fun b => (rX P x).bind fun x =>
      if b then (tSize P fd.type).map fun n => .fldA fd.offset n x else some (.fld1 fd.offset x)
    | _ => none
  | .indexAddr t x i => (rX P x).bind fun x => (rX P i).bind fun i =>
    match P.underlying t with
    | some (.array n e) => (tSize P e).map fun s => .ixaA n s x i
    | some (.slice e) => (tSize P e).map fun s => .ixaS s x i
    | _ => none
  | .index t x i => (rX P x).bind fun x => (rX P i).bind fun i =>
    match P.underlying t with
    | some (.array n e) => (tAgg P e).bind fun b => (tSize P e).bind fun s => if b then some (.ixAA n s x i) else if s = 1 then some (.ixA1 n x i) else none
    | some .string => some (.ixS x i)
    | _ => none
  | .lookup t m k ok =>
    match P.underlying t with
    | some (.map kt e) => (keySh P kt).bind fun s => (tZero P e).bind fun z => (rX P m).bind fun m => (rX P k).map fun k => .look s.1 s.2 z ok m k
    | _ => none
  | .mapUpdate t m k v | .insert t m k v =>
    match P.underlying t with
    | some (.map kt _) => (keySh P kt).bind fun s => (rX P m).bind fun m => (rX P k).bind fun k => (rX P v).map fun v => .mput s.1 s.2 m k v
    | _ => none
  | .typeAssert x _ u ok =>
    (tZero P u).bind fun z => (rX P x).bind fun x =>
    match P.underlying u with
    | some (.interface want) => some (.asI (asITbl P want) z ok x)
    | some _ => some (.asC u z ok x)
    | none => none
  | .extract x i => (rX P x).map (.ex i)
  | .call c =>
    match c.callee with
    | .builtin b => rBuiltin P b c.argTypes c.args
    | .invoke r name => (rX P r).bind fun r => (rXs P c.args.toList).map fun az => .inv ((methTbl P name).filter fun (_, f) => knownFn P f) r az
    | .value (.func f) => if knownFn P f then (rXs P c.args.toList).map fun az => .call f az else none
    | .value f => (rX P f).bind fun f => (rXs P c.args.toList).map fun az => .callv f az
  | _ => none

def rOp (o : Op) : RO := (rOp? P o).getD .bad

/-- The temporary that a guard asks. -/
def rGuard (ops : Array Oper) (g : Option (Nat × Bool)) : Option (Option (Nat × Bool)) :=
  match g with
  | none => some none
  | some (j, w) => ((ops[j]?).bind (·.dst)).map fun d => some (d, w)

def rOpers (ops : Array Oper) : List Oper → Option (List ROp)
  | [] => some []
  | o :: r => (rGuard ops o.guard).bind fun g => (rOpers ops r).map fun r => ⟨o.dst, g, rOp P o.op⟩ :: r

def X.tmps : X → List Nat
  | .t i => [i]
  | .c _ => []

def oTmps : Option X → List Nat
  | none => []
  | some x => x.tmps

def RO.tmps : RO → List Nat
  | .mv x | .cvs x | .box _ x | .ld1 x | .ldA _ x | .nilck x | .un _ x | .cvi _ x | .mkifc _ x | .fadd _ x | .fld1 _ x | .fldA _ _ x | .ex _ x | .lenS x | .lenL x | .lenM x | .cap x | .clr _ x => x.tmps
  | .asI _ _ _ x | .asC _ _ _ x => x.tmps
  | .pick c a b => c.tmps ++ a.tmps ++ b.tmps
  | .new .. | .mkmap | .lenA _ | .bad => []
  | .build _ ps | .bsl _ _ _ ps => ps.flatMap fun (_, _, x) => x.tmps
  | .st _ a v => a.tmps ++ v.tmps
  | .bin _ x y | .eq _ _ x y | .ixaA _ _ x y | .ixaS _ x y | .ixA1 _ x y | .ixAA _ _ x y | .ixS x y | .look _ _ _ _ x y | .app _ _ x y | .appZ _ _ _ x y | .copy _ x y => x.tmps ++ y.tmps
  | .mksl _ _ _ l c => l.tmps ++ c.tmps
  | .mkfn _ a c => a.flatMap X.tmps ++ c.flatMap X.tmps
  | .slStr x lo hi => x.tmps ++ oTmps lo ++ oTmps hi
  | .slSlc _ x lo hi mx => x.tmps ++ oTmps lo ++ oTmps hi ++ oTmps mx
  | .slArr _ _ x lo hi mx => x.tmps ++ oTmps lo ++ oTmps hi ++ oTmps mx
  | .mput _ _ m k v => m.tmps ++ k.tmps ++ v.tmps
  | .call _ az | .mxx az | .mnn az => az.flatMap X.tmps
  | .callv f az | .inv _ f az => f.tmps ++ az.flatMap X.tmps

def ROp.reads (o : ROp) : List Nat := o.o.tmps ++ (match o.g with | none => [] | some (j, _) => [j])

/-- For each operation the operations that must have run before it (az bits). -/
def befores (ops : List Oper) : List Nat :=
  ops.foldl (fun acc o => acc ++ [o.after.toList.foldl (fun s e => if Region.binds .any e then s ||| 2 ^ e.on ||| acc.getD e.on 0 else s) 0]) []

def pairs (n : Nat) : List (Nat × Nat) := (List.range n).flatMap fun i => (List.range n).map fun j => (i, j)

/-- Are two operations of a region ordered by the edges? -/
def ordd (b : List Nat) (i j : Nat) : Bool := (b.getD j 0).testBit i || (b.getD i 0).testBit j

/-- May the orders of a region be left to the draw: no name is written and read, or written twice, but in a known order; what turns memory is in one order. -/
def drwOk (b : List Nat) (ops : List ROp) : Bool :=
  ((List.range ops.length).all fun j => Nat.blt (b.getD j 0) (2 ^ j)) &&
  (pairs ops.length).all fun (i, j) =>
    Nat.beq i j || ordd b i j ||
    match ops[i]?, ops[j]? with
    | some p, some q =>
      (match p.d with | none => true | some d => !(q.reads.contains d) && !(q.d == some d)) && !(Nat.beq p.o.cls 3 && Nat.beq q.o.cls 3)
    | _, _ => false

def drwChk (b : List Nat) (ops : List ROp) : List (Nat × Nat) :=
  (pairs ops.length).filter fun (i, j) =>
    match ops[i]?, ops[j]? with
    | some p, some q => (Nat.beq p.o.cls 1 || Nat.beq p.o.cls 2) && Nat.beq q.o.cls 3 && !ordd b i j
    | _, _ => false

def rCode : Code → RCode
  | .skip => .skip
  | .region _ ops draw =>
    match rOpers P ops ops.toList with
    | none => .bad
    | some l =>
      if draw then
        let b := befores ops.toList
        if drwOk b l then .drw l (drwChk b l) else .bad
      else .reg l
  | .seq a b => .seq (rCode a) (rCode b)
  | .cond c a b => match rX P c with
    | some x => .cond x (rCode a) (rCode b)
    | none => .bad
  | .block id b => .block id (rCode b)
  | .loop b => .loop (rCode b)
  | .exit id => .exit id
  | .ret => .ret
  | .label _ => .skip
  | _ => .bad

def rRes : ResultVar → Option RRes
  | .tmp t => some (.t t)
  | .cell a t => (tAgg P t).bind fun b => if b then (tSize P t).map fun n => .cellA a n else some (.cell1 a)

def rRess : List ResultVar → Option (List RRes)
  | [] => some []
  | r :: rs => (rRes P r).bind fun r => (rRess rs).map (r :: ·)

/-- Every name that the code writes lies in the frame. -/
def RCode.dstOk (n : Nat) : RCode → Bool
  | .reg ops | .drw ops _ => ops.all fun o => match o.d with | none => true | some d => Nat.blt d n
  | .seq a b | .cond _ a b => a.dstOk n && b.dstOk n
  | .block _ b | .loop b => b.dstOk n
  | _ => true

def rFunc (f : FuncId) : Option RFunc :=
  if !goodFn P f then none else
  (P.funcs[f]?).bind fun fn => fn.body.bind fun c => if (rCode P c).dstOk fn.ntmps then (rRess P fn.results.toList).map fun rs => ⟨rCode P c, rs⟩ else none
end Go.Ev
