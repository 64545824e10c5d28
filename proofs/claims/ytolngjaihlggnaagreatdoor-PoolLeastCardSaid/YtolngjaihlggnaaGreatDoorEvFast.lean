import Derived.Test.YtolngjaihlggnaaGreatDoorEvFEnv
/-! The fast evaluator: the evaluator once more, by recursors with closed arms, so that the kernel runs it quickly. That it says what 'evCall' says: EvFastOk. -/
namespace Go.Ev
set_option linter.unusedVariables false
set_option linter.unusedSimpArgs false

inductive OL where
  | no
  | is (l : List V)
inductive FRes where
  | no
  | val (v : V)
  | new (b : Blk) (f : Nat → V)
  | upd (v : V) (h : H)
  | call (f : FuncId) (args : List V)
inductive FXo where
  | no
  | is (x : FX)

def OV.toO : OV → Option V
  | .no => none
  | .is v => some v
def OL.toO : OL → Option (List V)
  | .no => none
  | .is v => some v
def FRes.toO : FRes → Option Res
  | .no => none
  | .val v => some (.val v)
  | .new b f => some (.new b f)
  | .upd v h => some (.upd v h)
  | .call f az => some (.call f az)
noncomputable def OV.of : Option V → OV := fun o => Option.rec (motive := fun _ => OV) .no OV.is o
noncomputable def FRes.of : Option Res → FRes := fun o => Option.rec (motive := fun _ => FRes) .no (fun r => Res.rec (motive := fun _ => FRes) FRes.val FRes.new FRes.upd FRes.call r) o
noncomputable def olc (o : OV) (l : OL) : OL := OV.rec (motive := fun _ => OL) .no (fun v => OL.rec (motive := fun _ => OL) .no (fun l => .is (v :: l)) l) o
noncomputable def ols (v : V) (l : OL) : OL := OL.rec (motive := fun _ => OL) .no (fun l => .is (v :: l)) l

/-! ### Numbers -/
noncomputable def iAdd : Int → Int → Int := fun a b => Int.rec (motive := fun _ => Int → Int) (fun m b => Int.rec (motive := fun _ => Nat → Int) (fun n m => .ofNat (Nat.add m n)) (fun n m => Int.add (.ofNat m) (.negSucc n)) b m) (fun m b => Int.add (.negSucc m) b) a b
noncomputable def iSub : Int → Int → Int := fun a b => Int.rec (motive := fun _ => Int → Int) (fun m b => Int.rec (motive := fun _ => Nat → Int) (fun n m => Bool.rec (motive := fun _ => Int) (Int.sub (.ofNat m) (.ofNat n)) (.ofNat (Nat.sub m n)) (Nat.ble n m)) (fun n m => Int.sub (.ofNat m) (.negSucc n)) b m) (fun m b => Int.sub (.negSucc m) b) a b
noncomputable def iMul : Int → Int → Int := fun a b => Int.rec (motive := fun _ => Int → Int) (fun m b => Int.rec (motive := fun _ => Nat → Int) (fun n m => .ofNat (Nat.mul m n)) (fun n m => Int.mul (.ofNat m) (.negSucc n)) b m) (fun m b => Int.mul (.negSucc m) b) a b
noncomputable def iLt : Int → Int → Bool := fun a b => Int.rec (motive := fun _ => Int → Bool) (fun m b => Int.rec (motive := fun _ => Nat → Bool) (fun n m => Nat.ble (Nat.succ m) n) (fun n m => false) b m) (fun m b => Int.rec (motive := fun _ => Nat → Bool) (fun n m => true) (fun n m => Nat.ble (Nat.succ n) m) b m) a b
noncomputable def iLe : Int → Int → Bool := fun a b => Int.rec (motive := fun _ => Int → Bool) (fun m b => Int.rec (motive := fun _ => Nat → Bool) (fun n m => Nat.ble m n) (fun n m => false) b m) (fun m b => Int.rec (motive := fun _ => Nat → Bool) (fun n m => true) (fun n m => Nat.ble n m) b m) a b
noncomputable def iEq : Int → Int → Bool := fun a b => Int.rec (motive := fun _ => Int → Bool) (fun m b => Int.rec (motive := fun _ => Nat → Bool) (fun n m => Nat.beq m n) (fun n m => false) b m) (fun m b => Int.rec (motive := fun _ => Nat → Bool) (fun n m => false) (fun n m => Nat.beq m n) b m) a b
noncomputable def kIdx : IntKind → Nat := fun k => IntKind.rec (motive := fun _ => Nat) (nat_lit 0) (nat_lit 1) (nat_lit 2) (nat_lit 3) (nat_lit 4) (nat_lit 5) (nat_lit 6) (nat_lit 7) k
noncomputable def kMax : IntKind → Nat := fun k => IntKind.rec (motive := fun _ => Nat) (nat_lit 127) (nat_lit 32767) (nat_lit 2147483647) (nat_lit 9223372036854775807) (nat_lit 255) (nat_lit 65535) (nat_lit 4294967295) (nat_lit 18446744073709551615) k
/-- How many negative numbers there are. -/
noncomputable def kNeg : IntKind → Nat := fun k => IntKind.rec (motive := fun _ => Nat) (nat_lit 128) (nat_lit 32768) (nat_lit 2147483648) (nat_lit 9223372036854775808) (nat_lit 0) (nat_lit 0) (nat_lit 0) (nat_lit 0) k
noncomputable def kEq (k j : IntKind) : Bool := Nat.beq (kIdx k) (kIdx j)
noncomputable def iWr : IntKind → Int → Int := fun k z => Int.rec (motive := fun _ => IntKind → Int) (fun m k => Bool.rec (motive := fun _ => Int) (wr k (.ofNat m)) (.ofNat m) (Nat.ble m (kMax k))) (fun m k => Bool.rec (motive := fun _ => Int) (wr k (.negSucc m)) (.negSucc m) (Nat.ble (Nat.succ m) (kNeg k))) z k

/-! ### Rows of cells -/
noncomputable def lNth : List V → Nat → OV := fun l => List.rec (motive := fun _ => Nat → OV) (fun _ => .no) (fun a _ ih i => Nat.rec (motive := fun _ => OV) (.is a) (fun j _ => ih j) i) l
noncomputable def lTake : List V → Nat → OL := fun l => List.rec (motive := fun _ => Nat → OL) (fun n => Nat.rec (motive := fun _ => OL) (.is []) (fun _ _ => .no) n) (fun a _ ih n => Nat.rec (motive := fun _ => OL) (.is []) (fun j _ => ols a (ih j)) n) l
/-- 'n' cells from place 'o' on. -/
noncomputable def lSub : List V → Nat → Nat → OL := fun l => List.rec (motive := fun _ => Nat → Nat → OL) (fun o n => Nat.rec (motive := fun _ => OL) (lTake [] n) (fun _ _ => .no) o) (fun a l ih o n => Nat.rec (motive := fun _ => OL) (lTake (a :: l) n) (fun j _ => ih j n) o) l
/-- The first cells are replaced. -/
noncomputable def lRep : List V → List V → OL := fun vs => List.rec (motive := fun _ => List V → OL) (fun cs => .is cs) (fun v _ ih cs => List.rec (motive := fun _ => OL) .no (fun _ t _ => ols v (ih t)) cs) vs
noncomputable def lSpl : List V → Nat → List V → OL := fun cs => List.rec (motive := fun _ => Nat → List V → OL) (fun o vs => Nat.rec (motive := fun _ => OL) (lRep vs []) (fun _ _ => .no) o) (fun a l ih o vs => Nat.rec (motive := fun _ => OL) (lRep vs (a :: l)) (fun j _ => ols a (ih j vs)) o) cs
noncomputable def lLen : List V → Nat → Bool := fun l => List.rec (motive := fun _ => Nat → Bool) (fun n => Nat.beq n (nat_lit 0)) (fun _ _ ih n => Nat.rec (motive := fun _ => Bool) false (fun j _ => ih j) n) l

noncomputable def vOne : V → Bool := fun v => (V.rec (motive_1 := fun _ => Bool) (motive_2 := fun _ => Unit) (fun _ => true) (fun _ _ => true) (fun _ _ => true) (fun _ => true) (true) (fun _ _ => true) (true) (fun _ _ _ _ _ => true) (true) (fun _ => true) (true) (fun _ _ _ _ _ => true) (true) (fun _ _ _ => true) (fun _ _ => false) (fun _ _ => false) (true) (fun _ _ _ _ => true) () (fun _ _ _ _ => ()) v)
noncomputable def vCells : V → List V := fun v => (V.rec (motive_1 := fun _ => V → List V) (motive_2 := fun _ => Unit) (fun _ w => [w]) (fun _ _ w => [w]) (fun _ _ w => [w]) (fun _ w => [w]) (fun w => [w]) (fun _ _ w => [w]) (fun w => [w]) (fun _ _ _ _ _ w => [w]) (fun w => [w]) (fun _ w => [w]) (fun w => [w]) (fun _ _ _ _ _ w => [w]) (fun w => [w]) (fun _ _ _ w => [w]) (fun cs _ => fun _ => cs) (fun _ _ w => [w]) (fun w => [w]) (fun _ _ _ _ w => [w]) () (fun _ _ _ _ => ()) v) v
noncomputable def lOnes : List V → Bool := fun l => List.rec (motive := fun _ => Bool) true (fun v _ ih => Bool.rec (motive := fun _ => Bool) false ih (vOne v)) l

/-! ### The heap -/
noncomputable def tbGet : T Blk → Nat → Option Blk := fun t => T.rec (motive := fun _ => Nat → Option Blk) (fun _ => none)
  (fun v _ _ gl gr i => Bool.rec (motive := fun _ => Option Blk) (Bool.rec (motive := fun _ => Option Blk) (gr (Nat.sub (Nat.div i (nat_lit 2)) (nat_lit 1))) (gl (Nat.div i (nat_lit 2))) (Nat.beq (Nat.mod i (nat_lit 2)) (nat_lit 1))) v (Nat.beq i (nat_lit 0))) t
noncomputable def tbPut : Nat → T Blk → Nat → Blk → T Blk := fun f => Nat.rec (motive := fun _ => T Blk → Nat → Blk → T Blk) (fun t _ _ => t)
  (fun f ih t => T.rec (motive := fun _ => Nat → Blk → T Blk)
    (fun i a => Bool.rec (motive := fun _ => T Blk) (Bool.rec (motive := fun _ => T Blk) (.node none .nil (ih .nil (Nat.sub (Nat.div i (nat_lit 2)) (nat_lit 1)) a)) (.node none (ih .nil (Nat.div i (nat_lit 2)) a) .nil) (Nat.beq (Nat.mod i (nat_lit 2)) (nat_lit 1))) (.node (some a) .nil .nil) (Nat.beq i (nat_lit 0)))
    (fun v l r _ _ i a => Bool.rec (motive := fun _ => T Blk) (Bool.rec (motive := fun _ => T Blk) (.node v l (ih r (Nat.sub (Nat.div i (nat_lit 2)) (nat_lit 1)) a)) (.node v (ih l (Nat.div i (nat_lit 2)) a) r) (Nat.beq (Nat.mod i (nat_lit 2)) (nat_lit 1))) (.node (some a) l r) (Nat.beq i (nat_lit 0))) t) f
noncomputable def tbSet (t : T Blk) (i : Nat) (a : Blk) : T Blk := tbPut (Nat.succ i) t i a
noncomputable def hNth (h : H) (b o : Nat) : OV := Option.rec (motive := fun _ => Nat → OV) (fun _ => .no) (fun k o => Blk.rec (motive := fun _ => Nat → OV) (fun cs _ o => lNth cs o) (fun _ _ => .no) (fun _ => .no) k o) (tbGet h.t b) o
noncomputable def hSub (h : H) (b o n : Nat) : OL := Option.rec (motive := fun _ => Nat → Nat → OL) (fun _ _ => .no) (fun k o n => Blk.rec (motive := fun _ => Nat → Nat → OL) (fun cs _ o n => lSub cs o n) (fun _ _ _ => .no) (fun _ _ => .no) k o n) (tbGet h.t b) o n
/-- Store a row. -/
noncomputable def hSt (h : H) (b o : Nat) (vs : List V) (k : H → FRes) : FRes :=
  Bool.rec (motive := fun _ => FRes) .no (Option.rec (motive := fun _ => FRes) .no (fun blk => Blk.rec (motive := fun _ => FRes)
    (fun cs ro => Bool.rec (motive := fun _ => FRes) (OL.rec (motive := fun _ => FRes) .no (fun cs' => k ⟨tbSet h.t b (.cells cs' false), h.nx⟩) (lSpl cs o vs)) .no ro) (fun _ => .no) .no blk) (tbGet h.t b)) (lOnes vs)

/-! ### Rarer operations, on values -/
def mkslV (esz bytes : Nat) (z : List V) (lv cv : V) : Option Res :=
  lv.toNat?.bind fun l => cv.toNat?.bind fun c =>
      bif Nat.ble l c && Nat.ble c 1000000 && Nat.ble bytes 65536 && Nat.beq z.length esz && ones z && Nat.ble 1 esz then
        some (.new (.cells (repZ z c) false) fun i => .slc i 0 l c 0) else none
def slStrV (x : V) (lo hi : Option V) : Option Res :=
  match x with
  | .str s => (bnd hi s.length s.length).bind fun hh => (bnd lo 0 hh).map fun l => .val (.str ((s.drop l).take (hh - l)))
  | _ => none
def slSlcV (esz : Nat) (x : V) (lo hi mx : Option V) : Option Res :=
  match x with
  | .nils => bif mx.isSome && !hi.isSome then none else (bnd mx 0 0).bind fun m => (bnd hi 0 m).bind fun hh => (bnd lo 0 hh).map fun _ => .val .nils
  | .slc b o len cap sz =>
        bif (mx.isSome && (!hi.isSome || (!(Nat.beq sz 0) && Nat.beq cap 0))) || !(Nat.beq sz 0 || Nat.beq sz esz) then none else
        (bnd mx cap cap).bind fun m => (bnd hi len m).bind fun hh => (bnd lo 0 hh).map fun l => .val (addO b o l esz (bif mx.isSome then 0 else sz) hh m)
  | _ => none
def slArrV (n esz : Nat) (x : V) (lo hi mx : Option V) : Option Res :=
  match x with
  | .ptr b o =>
        bif mx.isSome && !hi.isSome then none else
        (bnd mx n n).bind fun m => (bnd hi n m).bind fun hh => (bnd lo 0 hh).map fun l => .val (addO b o l esz 0 hh m)
  | _ => none
def ixSV (x i : V) : Option Res :=
  match x with
  | .str s => i.toNat?.bind fun i => (s[i]?).bind fun (b : Nat) => some (.val (.int .u8 (Int.ofNat b)))
  | _ => none
def lookUpV [Tab] (h : H) (ts : TypeId → Option Sh) (s : Shape) (kn : Nat) (z : V) (ok : Bool) (mv kv : V) : Option Res :=
  bif keyOk kn kv then (mapOf h mv).bind fun es => (findK h ts s kv es 0).map fun r => .val (lookV z ok r) else none
def mputV [Tab] (h : H) (ts : TypeId → Option Sh) (s : Shape) (kn : Nat) (mv kv vv : V) : Option Res :=
  match mv with
  | .map r => bif keyOk kn kv then
      match h.get r with
      | some (.map es) => (findK h ts s kv es 0).bind fun q => bif oldOk es kv q then some (.upd unit (h.set r (.map (putK es kv vv q)))) else none
      | _ => none else none
  | _ => none
def asIV (tys : List TypeId) (z : V) (ok : Bool) (x : V) : Option Res :=
  match x with
  | .nili => bif ok then some (.val (.tup [z, .bool false])) else none
  | .ifc t v => bif mem? t tys then some (.val (bif ok then .tup [.ifc t v, .bool true] else .ifc t v)) else none
  | _ => none
def asCV (u : TypeId) (z : V) (ok : Bool) (x : V) : Option Res :=
  match x with
  | .nili => bif ok then some (.val (.tup [z, .bool false])) else none
  | .ifc t v => bif Nat.beq t u then some (.val (bif ok then .tup [v, .bool true] else v)) else bif ok then some (.val (.tup [z, .bool false])) else none
  | _ => none
def callvV (x : V) (vs : List V) : Option Res :=
  match x with
  | .fn f a c => some (.call f (a ++ vs ++ c))
  | _ => none
def invV (tbl : List (TypeId × FuncId)) (x : V) (vs : List V) : Option Res :=
  match x with
  | .ifc t v => (look? t tbl).map fun f => .call f (v :: vs)
  | _ => none
def lenSV (x : V) : Option Res :=
  match x with
  | .str s => some (.val (.int .i64 (s.length : Nat)))
  | _ => none
def lenMV (h : H) (x : V) : Option Res :=
  match x with
  | .nilm => some (.val (.int .i64 (0 : Nat)))
  | .map r => (match h.get r with | some (.map es) => some (.val (.int .i64 (es.length : Nat))) | _ => none)
  | _ => none
def capV (x : V) : Option Res :=
  match x with
  | .nils => some (.val (.int .i64 0))
  | .slc _ _ _ cap sz => bif Nat.beq sz 0 then some (.val (.int .i64 cap)) else none
  | _ => none
def copyV (h : H) (esz : Nat) (dv sv : V) : Option Res :=
  (sliceCells h esz sv).bind fun (n, vs) =>
      match dv with
      | .nils => some (.val (.int .i64 0))
      | .slc b o len _ _ =>
        let m := min n len
        bif Nat.beq m 0 then some (.val (.int .i64 0)) else
        (h.stA b o (vs.take (m * esz))).map fun h' => .upd (.int .i64 m) h'
      | _ => none
def clrV (h : H) (z : List V) (x : V) : Option Res :=
  match x with
  | .nils => some (.val unit)
  | .slc b o len _ _ => bif Nat.beq len 0 then some (.val unit) else (h.stA b o (repZ z len)).map fun h' => .upd unit h'
  | _ => none

def cvsV (v : V) : Option Res := match v with | .str s => some (.val (.str s)) | _ => none
def appSV (h : H) (esz bytes : Nat) (a b : V) : Option Res := (sliceCells h esz b).bind fun (n, vs) => appendV h esz bytes a n vs
def appZV (h : H) (esz bytes : Nat) (zero : List V) (a b : V) : Option Res := b.toNat?.bind fun n => bif Nat.ble n 1000000 then appendV h esz bytes a n (repZ zero n) else none
def mxxV (vs : List V) : Option Res := match vs with | .int k m :: r => (maxL k m r).map .val | _ => none
def mnnV (vs : List V) : Option Res := match vs with | .int k m :: r => (minL k m r).map .val | _ => none

inductive FO where
  | mv (x : FX)
  | pick (x : FX) (y : FX) (z : FX)
  | new (cs : List V)
  | box (esz : Nat) (x : FX)
  | build (zero : List V) (parts : List (Nat × Nat × FX))
  | bsl (esz : Nat) (zero : List V) (len : Nat) (parts : List (Nat × Nat × FX))
  | ld1 (x : FX)
  | ldA (sz : Nat) (x : FX)
  | st (sz : Nat) (a : FX) (v : FX)
  | nilck (x : FX)
  | bin (op : BinOp) (x : FX) (y : FX)
  | eq (neg : Bool) (s : Shape) (x : FX) (y : FX)
  | un (op : UnOp) (x : FX)
  | cvi (k : IntKind) (x : FX)
  | cvs (x : FX)
  | mkifc (t : TypeId) (x : FX)
  | mkfn (f : FuncId) (first : List FX) (cap : List FX)
  | mkmap
  | mksl (esz : Nat) (bytes : Nat) (zero : List V) (l : FX) (c : FX)
  | slStr (x : FX) (lo : FXo) (hi : FXo)
  | slSlc (esz : Nat) (x : FX) (lo : FXo) (hi : FXo) (mx : FXo)
  | slArr (n : Nat) (esz : Nat) (x : FX) (lo : FXo) (hi : FXo) (mx : FXo)
  | fadd (off : Nat) (x : FX)
  | fld1 (off : Nat) (x : FX)
  | fldA (off : Nat) (sz : Nat) (x : FX)
  | ixaA (n : Nat) (esz : Nat) (x : FX) (i : FX)
  | ixaS (esz : Nat) (x : FX) (i : FX)
  | ixA1 (n : Nat) (x : FX) (i : FX)
  | ixAA (n : Nat) (esz : Nat) (x : FX) (i : FX)
  | ixS (x : FX) (y : FX)
  | look (s : Shape) (kn : Nat) (zero : V) (ok : Bool) (m : FX) (k : FX)
  | mput (s : Shape) (kn : Nat) (m : FX) (k : FX) (v : FX)
  | asI (tys : List TypeId) (zero : V) (ok : Bool) (x : FX)
  | asC (t : TypeId) (zero : V) (ok : Bool) (x : FX)
  | ex (i : Nat) (x : FX)
  | call (f : FuncId) (args : List FX)
  | callv (f : FX) (args : List FX)
  | inv (tbl : List (TypeId × FuncId)) (x : FX) (args : List FX)
  | lenS (x : FX)
  | lenL (x : FX)
  | lenM (x : FX)
  | lenA (n : Nat)
  | cap (x : FX)
  | app (esz : Nat) (bytes : Nat) (s : FX) (x : FX)
  | appZ (esz : Nat) (bytes : Nat) (zero : List V) (s : FX) (n : FX)
  | copy (esz : Nat) (d : FX) (s : FX)
  | clr (zero : List V) (x : FX)
  | mxx (xs : List FX)
  | mnn (xs : List FX)
  | bad

noncomputable def FX.ev : FX → FEnv → OV := fun x e => (FX.rec (motive := fun _ => FEnv → OV) (fun _ _ g _ => g) (fun v _ => OV.is v) x e)
noncomputable def fEvs : List FX → FEnv → OL := fun l => List.rec (motive := fun _ => FEnv → OL) (fun _ => .is []) (fun x _ ih e => olc (FX.rec (motive := fun _ => FEnv → OV) (fun _ _ g _ => g) (fun v _ => OV.is v) x e) (ih e)) l
/-- An operand that may be missing. -/
noncomputable def fEvo (e : FEnv) (x : FXo) (k : Option V → FRes) : FRes := FXo.rec (motive := fun _ => FRes) (k none) (fun x => OV.rec (motive := fun _ => FRes) .no (fun v => k (some v)) (FX.ev x e)) x
noncomputable def fParts : List (Nat × Nat × FX) → FEnv → List V → OL := fun l => List.rec (motive := fun _ => FEnv → List V → OL) (fun _ cs => .is cs)
  (fun p _ ih e cs => OV.rec (motive := fun _ => OL) .no (fun v => Bool.rec (motive := fun _ => OL) .no (OL.rec (motive := fun _ => OL) .no (fun cs' => ih e cs') (lSpl cs p.1 (vCells v))) (lLen (vCells v) p.2.1)) (FX.ev p.2.2 e)) l
noncomputable def b_spec (inst : Tab) (op : BinOp) (a b : V) : OV := OV.of (@evBin inst op a b)
noncomputable def e_spec (inst : Tab) (ts : TypeId → Option Sh) (h : H) (s : Shape) (neg : Bool) (a b : V) : FRes := FRes.of ((@evEq inst h ts s a b).map fun r => .val (.bool (bif neg then !r else r)))

noncomputable def b_int : V → (IntKind → Int → Int → OV) → Tab → BinOp → V → V → OV := fun a => (V.rec (motive_1 := fun _ => (IntKind → Int → Int → OV) → Tab → BinOp → V → V → OV) (motive_2 := fun _ => Unit) (fun _ _ inst op a b => b_spec inst op a b) (fun k m => fun f inst op a b => (V.rec (motive_1 := fun _ => IntKind → Int → (IntKind → Int → Int → OV) → Tab → BinOp → V → V → OV) (motive_2 := fun _ => Unit) (fun _ _ _ _ inst op a b => b_spec inst op a b) (fun j n => fun k m f inst op a b => Bool.rec (motive := fun _ => OV) (b_spec inst op a b) (f k m n) (kEq k j)) (fun _ _ _ _ _ inst op a b => b_spec inst op a b) (fun _ _ _ _ inst op a b => b_spec inst op a b) (fun _ _ _ inst op a b => b_spec inst op a b) (fun _ _ _ _ _ inst op a b => b_spec inst op a b) (fun _ _ _ inst op a b => b_spec inst op a b) (fun _ _ _ _ _ _ _ _ inst op a b => b_spec inst op a b) (fun _ _ _ inst op a b => b_spec inst op a b) (fun _ _ _ _ inst op a b => b_spec inst op a b) (fun _ _ _ inst op a b => b_spec inst op a b) (fun _ _ _ _ _ _ _ _ inst op a b => b_spec inst op a b) (fun _ _ _ inst op a b => b_spec inst op a b) (fun _ _ _ _ _ _ inst op a b => b_spec inst op a b) (fun _ _ _ _ _ inst op a b => b_spec inst op a b) (fun _ _ _ _ _ inst op a b => b_spec inst op a b) (fun _ _ _ inst op a b => b_spec inst op a b) (fun _ _ _ _ _ _ _ inst op a b => b_spec inst op a b) () (fun _ _ _ _ => ()) b k m f inst op a b)) (fun _ _ _ inst op a b => b_spec inst op a b) (fun _ _ inst op a b => b_spec inst op a b) (fun _ inst op a b => b_spec inst op a b) (fun _ _ _ inst op a b => b_spec inst op a b) (fun _ inst op a b => b_spec inst op a b) (fun _ _ _ _ _ _ inst op a b => b_spec inst op a b) (fun _ inst op a b => b_spec inst op a b) (fun _ _ inst op a b => b_spec inst op a b) (fun _ inst op a b => b_spec inst op a b) (fun _ _ _ _ _ _ inst op a b => b_spec inst op a b) (fun _ inst op a b => b_spec inst op a b) (fun _ _ _ _ inst op a b => b_spec inst op a b) (fun _ _ _ inst op a b => b_spec inst op a b) (fun _ _ _ inst op a b => b_spec inst op a b) (fun _ inst op a b => b_spec inst op a b) (fun _ _ _ _ _ inst op a b => b_spec inst op a b) () (fun _ _ _ _ => ()) a)
noncomputable def fBin : BinOp → Tab → V → V → OV := fun op => BinOp.rec (motive := fun _ => Tab → V → V → OV) (fun inst a b => b_int a (fun k m n => .is (.int k (iWr k (iAdd m n)))) inst .add a b) (fun inst a b => b_int a (fun k m n => .is (.int k (iWr k (iSub m n)))) inst .sub a b) (fun inst a b => b_int a (fun k m n => .is (.int k (iWr k (iMul m n)))) inst .mul a b) (fun inst a b => b_spec inst .quo a b) (fun inst a b => b_spec inst .rem a b) (fun inst a b => b_spec inst .and a b) (fun inst a b => b_spec inst .or a b) (fun inst a b => b_spec inst .xor a b) (fun inst a b => b_spec inst .shl a b) (fun inst a b => b_spec inst .shr a b) (fun inst a b => b_spec inst .andNot a b) (fun inst a b => b_int a (fun _ m n => .is (.bool (iEq m n))) inst .eql a b) (fun inst a b => b_int a (fun _ m n => .is (.bool (Bool.rec (motive := fun _ => Bool) true false (iEq m n)))) inst .neq a b) (fun inst a b => b_int a (fun _ m n => .is (.bool (iLt m n))) inst .lss a b) (fun inst a b => b_int a (fun _ m n => .is (.bool (iLe m n))) inst .leq a b) (fun inst a b => b_int a (fun _ m n => .is (.bool (iLt n m))) inst .gtr a b) (fun inst a b => b_int a (fun _ m n => .is (.bool (iLe n m))) inst .geq a b) op
noncomputable def e_int : V → Tab → (TypeId → Option Sh) → H → Bool → V → V → FRes := fun a => (V.rec (motive_1 := fun _ => Tab → (TypeId → Option Sh) → H → Bool → V → V → FRes) (motive_2 := fun _ => Unit) (fun _ inst ts h neg a b => e_spec inst ts h (.sc .int) neg a b) (fun k m => fun inst ts h neg a b => (V.rec (motive_1 := fun _ => Int → IntKind → Tab → (TypeId → Option Sh) → H → Bool → V → V → FRes) (motive_2 := fun _ => Unit) (fun _ _ _ inst ts h neg a b => e_spec inst ts h (.sc .int) neg a b) (fun j n => fun m k inst ts h neg a b => (Bool.rec (motive := fun _ => FRes) (e_spec inst ts h (.sc .int) neg a b) (FRes.val (.bool (Bool.rec (motive := fun _ => Bool) (iEq m n) (Bool.rec (motive := fun _ => Bool) true false (iEq m n)) neg))) (kEq k j))) (fun _ _ _ _ inst ts h neg a b => e_spec inst ts h (.sc .int) neg a b) (fun _ _ _ inst ts h neg a b => e_spec inst ts h (.sc .int) neg a b) (fun _ _ inst ts h neg a b => e_spec inst ts h (.sc .int) neg a b) (fun _ _ _ _ inst ts h neg a b => e_spec inst ts h (.sc .int) neg a b) (fun _ _ inst ts h neg a b => e_spec inst ts h (.sc .int) neg a b) (fun _ _ _ _ _ _ _ inst ts h neg a b => e_spec inst ts h (.sc .int) neg a b) (fun _ _ inst ts h neg a b => e_spec inst ts h (.sc .int) neg a b) (fun _ _ _ inst ts h neg a b => e_spec inst ts h (.sc .int) neg a b) (fun _ _ inst ts h neg a b => e_spec inst ts h (.sc .int) neg a b) (fun _ _ _ _ _ _ _ inst ts h neg a b => e_spec inst ts h (.sc .int) neg a b) (fun _ _ inst ts h neg a b => e_spec inst ts h (.sc .int) neg a b) (fun _ _ _ _ _ inst ts h neg a b => e_spec inst ts h (.sc .int) neg a b) (fun _ _ _ _ inst ts h neg a b => e_spec inst ts h (.sc .int) neg a b) (fun _ _ _ _ inst ts h neg a b => e_spec inst ts h (.sc .int) neg a b) (fun _ _ inst ts h neg a b => e_spec inst ts h (.sc .int) neg a b) (fun _ _ _ _ _ _ inst ts h neg a b => e_spec inst ts h (.sc .int) neg a b) () (fun _ _ _ _ => ()) b m k inst ts h neg a b)) (fun _ _ inst ts h neg a b => e_spec inst ts h (.sc .int) neg a b) (fun _ inst ts h neg a b => e_spec inst ts h (.sc .int) neg a b) (fun inst ts h neg a b => e_spec inst ts h (.sc .int) neg a b) (fun _ _ inst ts h neg a b => e_spec inst ts h (.sc .int) neg a b) (fun inst ts h neg a b => e_spec inst ts h (.sc .int) neg a b) (fun _ _ _ _ _ inst ts h neg a b => e_spec inst ts h (.sc .int) neg a b) (fun inst ts h neg a b => e_spec inst ts h (.sc .int) neg a b) (fun _ inst ts h neg a b => e_spec inst ts h (.sc .int) neg a b) (fun inst ts h neg a b => e_spec inst ts h (.sc .int) neg a b) (fun _ _ _ _ _ inst ts h neg a b => e_spec inst ts h (.sc .int) neg a b) (fun inst ts h neg a b => e_spec inst ts h (.sc .int) neg a b) (fun _ _ _ inst ts h neg a b => e_spec inst ts h (.sc .int) neg a b) (fun _ _ inst ts h neg a b => e_spec inst ts h (.sc .int) neg a b) (fun _ _ inst ts h neg a b => e_spec inst ts h (.sc .int) neg a b) (fun inst ts h neg a b => e_spec inst ts h (.sc .int) neg a b) (fun _ _ _ _ inst ts h neg a b => e_spec inst ts h (.sc .int) neg a b) () (fun _ _ _ _ => ()) a)
noncomputable def fEq : Shape → Tab → (TypeId → Option Sh) → H → Bool → V → V → FRes := fun s => Shape.rec (motive := fun _ => Tab → (TypeId → Option Sh) → H → Bool → V → V → FRes)
  (fun sh => Sh.rec (motive := fun _ => Tab → (TypeId → Option Sh) → H → Bool → V → V → FRes) (fun inst ts h neg a b => e_int a inst ts h neg a b) (fun inst ts h neg a b => e_spec inst ts h (.sc .bool) neg a b) (fun inst ts h neg a b => e_spec inst ts h (.sc .str) neg a b) (fun inst ts h neg a b => e_spec inst ts h (.sc .ptr) neg a b) (fun inst ts h neg a b => e_spec inst ts h (.sc .ifc) neg a b) (fun inst ts h neg a b => e_spec inst ts h (.sc .ifcS) neg a b) (fun inst ts h neg a b => e_spec inst ts h (.sc .slcN) neg a b) (fun inst ts h neg a b => e_spec inst ts h (.sc .mapN) neg a b) (fun inst ts h neg a b => e_spec inst ts h (.sc .fnN) neg a b) sh)
  (fun ls inst ts h neg a b => e_spec inst ts h (.flat ls) neg a b) s
noncomputable def FO.run : FO → Tab → (TypeId → Option Sh) → FEnv → H → FRes := fun o => FO.rec (motive := fun _ => Tab → (TypeId → Option Sh) → FEnv → H → FRes)
    (fun x inst ts e h => (OV.rec (motive := fun _ => FRes) FRes.no FRes.val (FX.rec (motive := fun _ => FEnv → OV) (fun _ _ g _ => g) (fun v _ => OV.is v) x e)))
    (fun x y z inst ts e h => (OV.rec (motive := fun _ => FRes) FRes.no (fun c => (V.rec (motive_1 := fun _ => FX → FX → FEnv → FRes) (motive_2 := fun _ => Unit) (fun b => fun x y e => (OV.rec (motive := fun _ => FRes) FRes.no FRes.val (FX.rec (motive := fun _ => FEnv → OV) (fun _ _ g _ => g) (fun v _ => OV.is v) (Bool.rec (motive := fun _ => FX) y x b) e))) (fun _ _ _ _ _ => FRes.no) (fun _ _ _ _ _ => FRes.no) (fun _ _ _ _ => FRes.no) (fun _ _ _ => FRes.no) (fun _ _ _ _ _ => FRes.no) (fun _ _ _ => FRes.no) (fun _ _ _ _ _ _ _ _ => FRes.no) (fun _ _ _ => FRes.no) (fun _ _ _ _ => FRes.no) (fun _ _ _ => FRes.no) (fun _ _ _ _ _ _ _ _ => FRes.no) (fun _ _ _ => FRes.no) (fun _ _ _ _ _ _ => FRes.no) (fun _ _ _ _ _ => FRes.no) (fun _ _ _ _ _ => FRes.no) (fun _ _ _ => FRes.no) (fun _ _ _ _ _ _ _ => FRes.no) () (fun _ _ _ _ => ()) c y z e)) (FX.rec (motive := fun _ => FEnv → OV) (fun _ _ g _ => g) (fun v _ => OV.is v) x e)))
    (fun cs inst ts e h => FRes.new (.cells cs false) (fun i => .ptr i (nat_lit 0)))
    (fun esz x inst ts e h => (OV.rec (motive := fun _ => FRes) FRes.no (fun v => (Bool.rec (motive := fun _ => FRes) FRes.no (Bool.rec (motive := fun _ => FRes) FRes.no (FRes.new (.cells (vCells v) false) (fun i => .ptr i (nat_lit 0))) (lOnes (vCells v))) (lLen (vCells v) esz))) (FX.rec (motive := fun _ => FEnv → OV) (fun _ _ g _ => g) (fun v _ => OV.is v) x e)))
    (fun zero parts inst ts e h => (OL.rec (motive := fun _ => FRes) FRes.no (fun cs => FRes.val (.agg cs)) (fParts parts e zero)))
    (fun esz zero len parts inst ts e h => (OL.rec (motive := fun _ => FRes) FRes.no (fun cs => (Bool.rec (motive := fun _ => FRes) FRes.no (FRes.new (.cells cs false) (fun i => .slc i (nat_lit 0) len len (nat_lit 0))) (lOnes cs))) (fParts parts e zero)))
    (fun x inst ts e h => (OV.rec (motive := fun _ => FRes) FRes.no (fun v => (V.rec (motive_1 := fun _ => H → FRes) (motive_2 := fun _ => Unit) (fun _ _ => FRes.no) (fun _ _ _ => FRes.no) (fun _ _ _ => FRes.no) (fun _ _ => FRes.no) (fun _ => FRes.no) (fun b o => fun h => (OV.rec (motive := fun _ => FRes) FRes.no FRes.val (hNth h b o))) (fun _ => FRes.no) (fun _ _ _ _ _ _ => FRes.no) (fun _ => FRes.no) (fun _ _ => FRes.no) (fun _ => FRes.no) (fun _ _ _ _ _ _ => FRes.no) (fun _ => FRes.no) (fun _ _ _ _ => FRes.no) (fun _ _ _ => FRes.no) (fun _ _ _ => FRes.no) (fun _ => FRes.no) (fun _ _ _ _ _ => FRes.no) () (fun _ _ _ _ => ()) v h)) (FX.rec (motive := fun _ => FEnv → OV) (fun _ _ g _ => g) (fun v _ => OV.is v) x e)))
    (fun sz x inst ts e h => (OV.rec (motive := fun _ => FRes) FRes.no (fun v => (V.rec (motive_1 := fun _ => Nat → H → FRes) (motive_2 := fun _ => Unit) (fun _ _ _ => FRes.no) (fun _ _ _ _ => FRes.no) (fun _ _ _ _ => FRes.no) (fun _ _ _ => FRes.no) (fun _ _ => FRes.no) (fun b o => fun n h => (OL.rec (motive := fun _ => FRes) FRes.no (fun cs => FRes.val (.agg cs)) (hSub h b o n))) (fun _ _ => FRes.no) (fun _ _ _ _ _ _ _ => FRes.no) (fun _ _ => FRes.no) (fun _ _ _ => FRes.no) (fun _ _ => FRes.no) (fun _ _ _ _ _ _ _ => FRes.no) (fun _ _ => FRes.no) (fun _ _ _ _ _ => FRes.no) (fun _ _ _ _ => FRes.no) (fun _ _ _ _ => FRes.no) (fun _ _ => FRes.no) (fun _ _ _ _ _ _ => FRes.no) () (fun _ _ _ _ => ()) v sz h)) (FX.rec (motive := fun _ => FEnv → OV) (fun _ _ g _ => g) (fun v _ => OV.is v) x e)))
    (fun sz a v inst ts e h => (OV.rec (motive := fun _ => FRes) FRes.no (fun p => (OV.rec (motive := fun _ => FRes) FRes.no (fun x => (V.rec (motive_1 := fun _ => Nat → V → H → FRes) (motive_2 := fun _ => Unit) (fun _ _ _ _ => FRes.no) (fun _ _ _ _ _ => FRes.no) (fun _ _ _ _ _ => FRes.no) (fun _ _ _ _ => FRes.no) (fun _ _ _ => FRes.no) (fun b o => fun n x h => (Bool.rec (motive := fun _ => FRes) FRes.no (hSt h b o (vCells x) (fun h' => .upd unit h')) (lLen (vCells x) n))) (fun _ _ _ => FRes.no) (fun _ _ _ _ _ _ _ _ => FRes.no) (fun _ _ _ => FRes.no) (fun _ _ _ _ => FRes.no) (fun _ _ _ => FRes.no) (fun _ _ _ _ _ _ _ _ => FRes.no) (fun _ _ _ => FRes.no) (fun _ _ _ _ _ _ => FRes.no) (fun _ _ _ _ _ => FRes.no) (fun _ _ _ _ _ => FRes.no) (fun _ _ _ => FRes.no) (fun _ _ _ _ _ _ _ => FRes.no) () (fun _ _ _ _ => ()) p sz x h)) (FX.rec (motive := fun _ => FEnv → OV) (fun _ _ g _ => g) (fun v _ => OV.is v) v e))) (FX.rec (motive := fun _ => FEnv → OV) (fun _ _ g _ => g) (fun v _ => OV.is v) a e)))
    (fun x inst ts e h => (OV.rec (motive := fun _ => FRes) FRes.no (fun v => (V.rec (motive_1 := fun _ => V → FRes) (motive_2 := fun _ => Unit) (fun _ _ => FRes.no) (fun _ _ _ => FRes.no) (fun _ _ _ => FRes.no) (fun _ _ => FRes.no) (fun _ => FRes.no) (fun _ _ => FRes.val) (fun _ => FRes.no) (fun _ _ _ _ _ _ => FRes.no) (fun _ => FRes.no) (fun _ _ => FRes.no) (fun _ => FRes.no) (fun _ _ _ _ _ => FRes.val) (fun _ => FRes.no) (fun _ _ _ => FRes.val) (fun _ _ _ => FRes.no) (fun _ _ _ => FRes.no) (fun _ => FRes.no) (fun _ _ _ _ _ => FRes.no) () (fun _ _ _ _ => ()) v v)) (FX.rec (motive := fun _ => FEnv → OV) (fun _ _ g _ => g) (fun v _ => OV.is v) x e)))
    (fun op x y inst ts e h => (OV.rec (motive := fun _ => FRes) FRes.no (fun a => (OV.rec (motive := fun _ => FRes) FRes.no (fun b => (OV.rec (motive := fun _ => FRes) FRes.no FRes.val (BinOp.rec (motive := fun _ => Tab → V → V → OV) (fun inst a b => b_int a (fun k m n => .is (.int k (iWr k (iAdd m n)))) inst .add a b) (fun inst a b => b_int a (fun k m n => .is (.int k (iWr k (iSub m n)))) inst .sub a b) (fun inst a b => b_int a (fun k m n => .is (.int k (iWr k (iMul m n)))) inst .mul a b) (fun inst a b => b_spec inst .quo a b) (fun inst a b => b_spec inst .rem a b) (fun inst a b => b_spec inst .and a b) (fun inst a b => b_spec inst .or a b) (fun inst a b => b_spec inst .xor a b) (fun inst a b => b_spec inst .shl a b) (fun inst a b => b_spec inst .shr a b) (fun inst a b => b_spec inst .andNot a b) (fun inst a b => b_int a (fun _ m n => .is (.bool (iEq m n))) inst .eql a b) (fun inst a b => b_int a (fun _ m n => .is (.bool (Bool.rec (motive := fun _ => Bool) true false (iEq m n)))) inst .neq a b) (fun inst a b => b_int a (fun _ m n => .is (.bool (iLt m n))) inst .lss a b) (fun inst a b => b_int a (fun _ m n => .is (.bool (iLe m n))) inst .leq a b) (fun inst a b => b_int a (fun _ m n => .is (.bool (iLt n m))) inst .gtr a b) (fun inst a b => b_int a (fun _ m n => .is (.bool (iLe n m))) inst .geq a b) op inst a b))) (FX.rec (motive := fun _ => FEnv → OV) (fun _ _ g _ => g) (fun v _ => OV.is v) y e))) (FX.rec (motive := fun _ => FEnv → OV) (fun _ _ g _ => g) (fun v _ => OV.is v) x e)))
    (fun neg s x y inst ts e h => (OV.rec (motive := fun _ => FRes) FRes.no (fun a => (OV.rec (motive := fun _ => FRes) FRes.no (fun b => fEq s inst ts h neg a b) (FX.rec (motive := fun _ => FEnv → OV) (fun _ _ g _ => g) (fun v _ => OV.is v) y e))) (FX.rec (motive := fun _ => FEnv → OV) (fun _ _ g _ => g) (fun v _ => OV.is v) x e)))
    (fun op x inst ts e h => (OV.rec (motive := fun _ => FRes) FRes.no (fun v => UnOp.rec (motive := fun _ => V → FRes) (fun v => FRes.of ((evUn .neg v).map .val)) (fun v => FRes.of ((evUn .xor v).map .val)) (fun v => (V.rec (motive_1 := fun _ => V → FRes) (motive_2 := fun _ => Unit) (fun b => fun _ => .val (.bool (Bool.rec (motive := fun _ => Bool) true false b))) (fun _ _ v => FRes.of ((evUn .not v).map .val)) (fun _ _ v => FRes.of ((evUn .not v).map .val)) (fun _ v => FRes.of ((evUn .not v).map .val)) (fun v => FRes.of ((evUn .not v).map .val)) (fun _ _ v => FRes.of ((evUn .not v).map .val)) (fun v => FRes.of ((evUn .not v).map .val)) (fun _ _ _ _ _ v => FRes.of ((evUn .not v).map .val)) (fun v => FRes.of ((evUn .not v).map .val)) (fun _ v => FRes.of ((evUn .not v).map .val)) (fun v => FRes.of ((evUn .not v).map .val)) (fun _ _ _ _ _ v => FRes.of ((evUn .not v).map .val)) (fun v => FRes.of ((evUn .not v).map .val)) (fun _ _ _ v => FRes.of ((evUn .not v).map .val)) (fun _ _ v => FRes.of ((evUn .not v).map .val)) (fun _ _ v => FRes.of ((evUn .not v).map .val)) (fun v => FRes.of ((evUn .not v).map .val)) (fun _ _ _ _ v => FRes.of ((evUn .not v).map .val)) () (fun _ _ _ _ => ()) v v)) (fun v => FRes.of ((evUn .plus v).map .val)) op v) (FX.rec (motive := fun _ => FEnv → OV) (fun _ _ g _ => g) (fun v _ => OV.is v) x e)))
    (fun k x inst ts e h => (OV.rec (motive := fun _ => FRes) FRes.no (fun v => (V.rec (motive_1 := fun _ => IntKind → Tab → V → FRes) (motive_2 := fun _ => Unit) (fun _ _ _ _ => .no) (fun _ n => fun k _ _ => .val (.int k (iWr k n))) (fun _ _ => fun k inst v => (OV.rec (motive := fun _ => FRes) FRes.no FRes.val (OV.of (@Tab.cvi inst k v)))) (fun _ _ _ _ => .no) (fun _ _ _ => .no) (fun _ _ _ _ _ => .no) (fun _ _ _ => .no) (fun _ _ _ _ _ _ _ _ => .no) (fun _ _ _ => .no) (fun _ _ _ _ => .no) (fun _ _ _ => .no) (fun _ _ _ _ _ _ _ _ => .no) (fun _ _ _ => .no) (fun _ _ _ _ _ _ => .no) (fun _ _ _ _ _ => .no) (fun _ _ _ _ _ => .no) (fun _ _ _ => .no) (fun _ _ _ _ _ _ _ => .no) () (fun _ _ _ _ => ()) v k inst v)) (FX.rec (motive := fun _ => FEnv → OV) (fun _ _ g _ => g) (fun v _ => OV.is v) x e)))
    (fun x inst ts e h => (OV.rec (motive := fun _ => FRes) FRes.no (fun v => FRes.of (cvsV v)) (FX.rec (motive := fun _ => FEnv → OV) (fun _ _ g _ => g) (fun v _ => OV.is v) x e)))
    (fun t x inst ts e h => (OV.rec (motive := fun _ => FRes) FRes.no (fun v => FRes.val (.ifc t v)) (FX.rec (motive := fun _ => FEnv → OV) (fun _ _ g _ => g) (fun v _ => OV.is v) x e)))
    (fun f first cap inst ts e h => (OL.rec (motive := fun _ => FRes) FRes.no (fun a => (OL.rec (motive := fun _ => FRes) FRes.no (fun c => FRes.val (.fn f a c)) (fEvs cap e))) (fEvs first e)))
    (fun inst ts e h => FRes.new (.map []) .map)
    (fun esz bytes zero l c inst ts e h => (OV.rec (motive := fun _ => FRes) FRes.no (fun a => (OV.rec (motive := fun _ => FRes) FRes.no (fun b => FRes.of (mkslV esz bytes zero a b)) (FX.rec (motive := fun _ => FEnv → OV) (fun _ _ g _ => g) (fun v _ => OV.is v) c e))) (FX.rec (motive := fun _ => FEnv → OV) (fun _ _ g _ => g) (fun v _ => OV.is v) l e)))
    (fun x lo hi inst ts e h => (OV.rec (motive := fun _ => FRes) FRes.no (fun a => fEvo e lo fun l => fEvo e hi fun r => FRes.of (slStrV a l r)) (FX.rec (motive := fun _ => FEnv → OV) (fun _ _ g _ => g) (fun v _ => OV.is v) x e)))
    (fun esz x lo hi mx inst ts e h => (OV.rec (motive := fun _ => FRes) FRes.no (fun a => fEvo e lo fun l => fEvo e hi fun r => fEvo e mx fun m => FRes.of (slSlcV esz a l r m)) (FX.rec (motive := fun _ => FEnv → OV) (fun _ _ g _ => g) (fun v _ => OV.is v) x e)))
    (fun n esz x lo hi mx inst ts e h => (OV.rec (motive := fun _ => FRes) FRes.no (fun a => fEvo e lo fun l => fEvo e hi fun r => fEvo e mx fun m => FRes.of (slArrV n esz a l r m)) (FX.rec (motive := fun _ => FEnv → OV) (fun _ _ g _ => g) (fun v _ => OV.is v) x e)))
    (fun off x inst ts e h => (OV.rec (motive := fun _ => FRes) FRes.no (fun v => (V.rec (motive_1 := fun _ => Nat → FRes) (motive_2 := fun _ => Unit) (fun _ _ => .no) (fun _ _ _ => .no) (fun _ _ _ => .no) (fun _ _ => .no) (fun _ => .no) (fun b o => fun off => .val (.ptr b (Nat.add o off))) (fun _ => .no) (fun _ _ _ _ _ _ => .no) (fun _ => .no) (fun _ _ => .no) (fun _ => .no) (fun _ _ _ _ _ _ => .no) (fun _ => .no) (fun _ _ _ _ => .no) (fun _ _ _ => .no) (fun _ _ _ => .no) (fun _ => .no) (fun _ _ _ _ _ => .no) () (fun _ _ _ _ => ()) v off)) (FX.rec (motive := fun _ => FEnv → OV) (fun _ _ g _ => g) (fun v _ => OV.is v) x e)))
    (fun off x inst ts e h => (OV.rec (motive := fun _ => FRes) FRes.no (fun v => (V.rec (motive_1 := fun _ => Nat → FRes) (motive_2 := fun _ => Unit) (fun _ _ => .no) (fun _ _ _ => .no) (fun _ _ _ => .no) (fun _ _ => .no) (fun _ => .no) (fun _ _ _ => .no) (fun _ => .no) (fun _ _ _ _ _ _ => .no) (fun _ => .no) (fun _ _ => .no) (fun _ => .no) (fun _ _ _ _ _ _ => .no) (fun _ => .no) (fun _ _ _ _ => .no) (fun cs _ => fun off => (OV.rec (motive := fun _ => FRes) FRes.no FRes.val (lNth cs off))) (fun _ _ _ => .no) (fun _ => .no) (fun _ _ _ _ _ => .no) () (fun _ _ _ _ => ()) v off)) (FX.rec (motive := fun _ => FEnv → OV) (fun _ _ g _ => g) (fun v _ => OV.is v) x e)))
    (fun off sz x inst ts e h => (OV.rec (motive := fun _ => FRes) FRes.no (fun v => (V.rec (motive_1 := fun _ => Nat → Nat → FRes) (motive_2 := fun _ => Unit) (fun _ _ _ => .no) (fun _ _ _ _ => .no) (fun _ _ _ _ => .no) (fun _ _ _ => .no) (fun _ _ => .no) (fun _ _ _ _ => .no) (fun _ _ => .no) (fun _ _ _ _ _ _ _ => .no) (fun _ _ => .no) (fun _ _ _ => .no) (fun _ _ => .no) (fun _ _ _ _ _ _ _ => .no) (fun _ _ => .no) (fun _ _ _ _ _ => .no) (fun cs _ => fun off n => (OL.rec (motive := fun _ => FRes) FRes.no (fun cs => FRes.val (.agg cs)) (lSub cs off n))) (fun _ _ _ _ => .no) (fun _ _ => .no) (fun _ _ _ _ _ _ => .no) () (fun _ _ _ _ => ()) v off sz)) (FX.rec (motive := fun _ => FEnv → OV) (fun _ _ g _ => g) (fun v _ => OV.is v) x e)))
    (fun n esz x i inst ts e h => (OV.rec (motive := fun _ => FRes) FRes.no (fun a => (OV.rec (motive := fun _ => FRes) FRes.no (fun b => (V.rec (motive_1 := fun _ => Nat → Nat → V → FRes) (motive_2 := fun _ => Unit) (fun _ _ _ _ => .no) (fun _ _ _ _ _ => .no) (fun _ _ _ _ _ => .no) (fun _ _ _ _ => .no) (fun _ _ _ => .no) (fun b o => fun n esz i => (V.rec (motive_1 := fun _ => Nat → Nat → Nat → Nat → FRes) (motive_2 := fun _ => Unit) (fun _ _ _ _ _ => FRes.no) (fun _ z => fun n esz b o => Int.rec (motive := fun _ => Nat → Nat → Nat → Nat → FRes) (fun i n esz b o => (Bool.rec (motive := fun _ => FRes) FRes.no (FRes.val (.ptr b (Nat.add o (Nat.mul i esz)))) (Nat.ble (Nat.succ i) n))) (fun _ _ _ _ _ => FRes.no) z n esz b o) (fun _ _ _ _ _ _ => FRes.no) (fun _ _ _ _ _ => FRes.no) (fun _ _ _ _ => FRes.no) (fun _ _ _ _ _ _ => FRes.no) (fun _ _ _ _ => FRes.no) (fun _ _ _ _ _ _ _ _ _ => FRes.no) (fun _ _ _ _ => FRes.no) (fun _ _ _ _ _ => FRes.no) (fun _ _ _ _ => FRes.no) (fun _ _ _ _ _ _ _ _ _ => FRes.no) (fun _ _ _ _ => FRes.no) (fun _ _ _ _ _ _ _ => FRes.no) (fun _ _ _ _ _ _ => FRes.no) (fun _ _ _ _ _ _ => FRes.no) (fun _ _ _ _ => FRes.no) (fun _ _ _ _ _ _ _ _ => FRes.no) () (fun _ _ _ _ => ()) i n esz b o)) (fun _ _ _ => .no) (fun _ _ _ _ _ _ _ _ => .no) (fun _ _ _ => .no) (fun _ _ _ _ => .no) (fun _ _ _ => .no) (fun _ _ _ _ _ _ _ _ => .no) (fun _ _ _ => .no) (fun _ _ _ _ _ _ => .no) (fun _ _ _ _ _ => .no) (fun _ _ _ _ _ => .no) (fun _ _ _ => .no) (fun _ _ _ _ _ _ _ => .no) () (fun _ _ _ _ => ()) a n esz b)) (FX.rec (motive := fun _ => FEnv → OV) (fun _ _ g _ => g) (fun v _ => OV.is v) i e))) (FX.rec (motive := fun _ => FEnv → OV) (fun _ _ g _ => g) (fun v _ => OV.is v) x e)))
    (fun esz x i inst ts e h => (OV.rec (motive := fun _ => FRes) FRes.no (fun a => (OV.rec (motive := fun _ => FRes) FRes.no (fun b => (V.rec (motive_1 := fun _ => Nat → V → FRes) (motive_2 := fun _ => Unit) (fun _ _ _ => .no) (fun _ _ _ _ => .no) (fun _ _ _ _ => .no) (fun _ _ _ => .no) (fun _ _ => .no) (fun _ _ _ _ => .no) (fun _ _ => .no) (fun b o len _ _ => fun esz i => (V.rec (motive_1 := fun _ => Nat → Nat → Nat → Nat → FRes) (motive_2 := fun _ => Unit) (fun _ _ _ _ _ => FRes.no) (fun _ z => fun len esz b o => Int.rec (motive := fun _ => Nat → Nat → Nat → Nat → FRes) (fun i len esz b o => (Bool.rec (motive := fun _ => FRes) FRes.no (FRes.val (.ptr b (Nat.add o (Nat.mul i esz)))) (Nat.ble (Nat.succ i) len))) (fun _ _ _ _ _ => FRes.no) z len esz b o) (fun _ _ _ _ _ _ => FRes.no) (fun _ _ _ _ _ => FRes.no) (fun _ _ _ _ => FRes.no) (fun _ _ _ _ _ _ => FRes.no) (fun _ _ _ _ => FRes.no) (fun _ _ _ _ _ _ _ _ _ => FRes.no) (fun _ _ _ _ => FRes.no) (fun _ _ _ _ _ => FRes.no) (fun _ _ _ _ => FRes.no) (fun _ _ _ _ _ _ _ _ _ => FRes.no) (fun _ _ _ _ => FRes.no) (fun _ _ _ _ _ _ _ => FRes.no) (fun _ _ _ _ _ _ => FRes.no) (fun _ _ _ _ _ _ => FRes.no) (fun _ _ _ _ => FRes.no) (fun _ _ _ _ _ _ _ _ => FRes.no) () (fun _ _ _ _ => ()) i len esz b o)) (fun _ _ => .no) (fun _ _ _ => .no) (fun _ _ => .no) (fun _ _ _ _ _ _ _ => .no) (fun _ _ => .no) (fun _ _ _ _ _ => .no) (fun _ _ _ _ => .no) (fun _ _ _ _ => .no) (fun _ _ => .no) (fun b o _ lo => fun esz i => (V.rec (motive_1 := fun _ => Nat → Nat → Nat → Nat → FRes) (motive_2 := fun _ => Unit) (fun _ _ _ _ _ => FRes.no) (fun _ z => fun lo esz b o => Int.rec (motive := fun _ => Nat → Nat → Nat → Nat → FRes) (fun i lo esz b o => (Bool.rec (motive := fun _ => FRes) FRes.no (FRes.val (.ptr b (Nat.add o (Nat.mul i esz)))) (Nat.ble (Nat.succ i) lo))) (fun _ _ _ _ _ => FRes.no) z lo esz b o) (fun _ _ _ _ _ _ => FRes.no) (fun _ _ _ _ _ => FRes.no) (fun _ _ _ _ => FRes.no) (fun _ _ _ _ _ _ => FRes.no) (fun _ _ _ _ => FRes.no) (fun _ _ _ _ _ _ _ _ _ => FRes.no) (fun _ _ _ _ => FRes.no) (fun _ _ _ _ _ => FRes.no) (fun _ _ _ _ => FRes.no) (fun _ _ _ _ _ _ _ _ _ => FRes.no) (fun _ _ _ _ => FRes.no) (fun _ _ _ _ _ _ _ => FRes.no) (fun _ _ _ _ _ _ => FRes.no) (fun _ _ _ _ _ _ => FRes.no) (fun _ _ _ _ => FRes.no) (fun _ _ _ _ _ _ _ _ => FRes.no) () (fun _ _ _ _ => ()) i lo esz b o)) () (fun _ _ _ _ => ()) a esz b)) (FX.rec (motive := fun _ => FEnv → OV) (fun _ _ g _ => g) (fun v _ => OV.is v) i e))) (FX.rec (motive := fun _ => FEnv → OV) (fun _ _ g _ => g) (fun v _ => OV.is v) x e)))
    (fun n x i inst ts e h => (OV.rec (motive := fun _ => FRes) FRes.no (fun a => (OV.rec (motive := fun _ => FRes) FRes.no (fun b => (V.rec (motive_1 := fun _ => Nat → V → FRes) (motive_2 := fun _ => Unit) (fun _ _ _ => .no) (fun _ _ _ _ => .no) (fun _ _ _ _ => .no) (fun _ _ _ => .no) (fun _ _ => .no) (fun _ _ _ _ => .no) (fun _ _ => .no) (fun _ _ _ _ _ _ _ => .no) (fun _ _ => .no) (fun _ _ _ => .no) (fun _ _ => .no) (fun _ _ _ _ _ _ _ => .no) (fun _ _ => .no) (fun _ _ _ _ _ => .no) (fun cs _ => fun n i => (V.rec (motive_1 := fun _ => Nat → List V → FRes) (motive_2 := fun _ => Unit) (fun _ _ _ => FRes.no) (fun _ z => fun n cs => Int.rec (motive := fun _ => Nat → List V → FRes) (fun i n cs => (Bool.rec (motive := fun _ => FRes) FRes.no (OV.rec (motive := fun _ => FRes) FRes.no FRes.val (lNth cs i)) (Nat.ble (Nat.succ i) n))) (fun _ _ _ => FRes.no) z n cs) (fun _ _ _ _ => FRes.no) (fun _ _ _ => FRes.no) (fun _ _ => FRes.no) (fun _ _ _ _ => FRes.no) (fun _ _ => FRes.no) (fun _ _ _ _ _ _ _ => FRes.no) (fun _ _ => FRes.no) (fun _ _ _ => FRes.no) (fun _ _ => FRes.no) (fun _ _ _ _ _ _ _ => FRes.no) (fun _ _ => FRes.no) (fun _ _ _ _ _ => FRes.no) (fun _ _ _ _ => FRes.no) (fun _ _ _ _ => FRes.no) (fun _ _ => FRes.no) (fun _ _ _ _ _ _ => FRes.no) () (fun _ _ _ _ => ()) i n cs)) (fun _ _ _ _ => .no) (fun _ _ => .no) (fun _ _ _ _ _ _ => .no) () (fun _ _ _ _ => ()) a n b)) (FX.rec (motive := fun _ => FEnv → OV) (fun _ _ g _ => g) (fun v _ => OV.is v) i e))) (FX.rec (motive := fun _ => FEnv → OV) (fun _ _ g _ => g) (fun v _ => OV.is v) x e)))
    (fun n esz x i inst ts e h => (OV.rec (motive := fun _ => FRes) FRes.no (fun a => (OV.rec (motive := fun _ => FRes) FRes.no (fun b => (V.rec (motive_1 := fun _ => Nat → Nat → V → FRes) (motive_2 := fun _ => Unit) (fun _ _ _ _ => .no) (fun _ _ _ _ _ => .no) (fun _ _ _ _ _ => .no) (fun _ _ _ _ => .no) (fun _ _ _ => .no) (fun _ _ _ _ _ => .no) (fun _ _ _ => .no) (fun _ _ _ _ _ _ _ _ => .no) (fun _ _ _ => .no) (fun _ _ _ _ => .no) (fun _ _ _ => .no) (fun _ _ _ _ _ _ _ _ => .no) (fun _ _ _ => .no) (fun _ _ _ _ _ _ => .no) (fun cs _ => fun n esz i => (V.rec (motive_1 := fun _ => Nat → Nat → List V → FRes) (motive_2 := fun _ => Unit) (fun _ _ _ _ => FRes.no) (fun _ z => fun n esz cs => Int.rec (motive := fun _ => Nat → Nat → List V → FRes) (fun i n esz cs => (Bool.rec (motive := fun _ => FRes) FRes.no (OL.rec (motive := fun _ => FRes) FRes.no (fun cs => FRes.val (.agg cs)) (lSub cs (Nat.mul i esz) esz)) (Nat.ble (Nat.succ i) n))) (fun _ _ _ _ => FRes.no) z n esz cs) (fun _ _ _ _ _ => FRes.no) (fun _ _ _ _ => FRes.no) (fun _ _ _ => FRes.no) (fun _ _ _ _ _ => FRes.no) (fun _ _ _ => FRes.no) (fun _ _ _ _ _ _ _ _ => FRes.no) (fun _ _ _ => FRes.no) (fun _ _ _ _ => FRes.no) (fun _ _ _ => FRes.no) (fun _ _ _ _ _ _ _ _ => FRes.no) (fun _ _ _ => FRes.no) (fun _ _ _ _ _ _ => FRes.no) (fun _ _ _ _ _ => FRes.no) (fun _ _ _ _ _ => FRes.no) (fun _ _ _ => FRes.no) (fun _ _ _ _ _ _ _ => FRes.no) () (fun _ _ _ _ => ()) i n esz cs)) (fun _ _ _ _ _ => .no) (fun _ _ _ => .no) (fun _ _ _ _ _ _ _ => .no) () (fun _ _ _ _ => ()) a n esz b)) (FX.rec (motive := fun _ => FEnv → OV) (fun _ _ g _ => g) (fun v _ => OV.is v) i e))) (FX.rec (motive := fun _ => FEnv → OV) (fun _ _ g _ => g) (fun v _ => OV.is v) x e)))
    (fun x y inst ts e h => (OV.rec (motive := fun _ => FRes) FRes.no (fun a => (OV.rec (motive := fun _ => FRes) FRes.no (fun b => FRes.of (ixSV a b)) (FX.rec (motive := fun _ => FEnv → OV) (fun _ _ g _ => g) (fun v _ => OV.is v) y e))) (FX.rec (motive := fun _ => FEnv → OV) (fun _ _ g _ => g) (fun v _ => OV.is v) x e)))
    (fun s kn zero ok m k inst ts e h => (OV.rec (motive := fun _ => FRes) FRes.no (fun a => (OV.rec (motive := fun _ => FRes) FRes.no (fun b => FRes.of (@lookUpV inst h ts s kn zero ok a b)) (FX.rec (motive := fun _ => FEnv → OV) (fun _ _ g _ => g) (fun v _ => OV.is v) k e))) (FX.rec (motive := fun _ => FEnv → OV) (fun _ _ g _ => g) (fun v _ => OV.is v) m e)))
    (fun s kn m k v inst ts e h => (OV.rec (motive := fun _ => FRes) FRes.no (fun a => (OV.rec (motive := fun _ => FRes) FRes.no (fun b => (OV.rec (motive := fun _ => FRes) FRes.no (fun c => FRes.of (@mputV inst h ts s kn a b c)) (FX.rec (motive := fun _ => FEnv → OV) (fun _ _ g _ => g) (fun v _ => OV.is v) v e))) (FX.rec (motive := fun _ => FEnv → OV) (fun _ _ g _ => g) (fun v _ => OV.is v) k e))) (FX.rec (motive := fun _ => FEnv → OV) (fun _ _ g _ => g) (fun v _ => OV.is v) m e)))
    (fun tys zero ok x inst ts e h => (OV.rec (motive := fun _ => FRes) FRes.no (fun v => FRes.of (asIV tys zero ok v)) (FX.rec (motive := fun _ => FEnv → OV) (fun _ _ g _ => g) (fun v _ => OV.is v) x e)))
    (fun t zero ok x inst ts e h => (OV.rec (motive := fun _ => FRes) FRes.no (fun v => FRes.of (asCV t zero ok v)) (FX.rec (motive := fun _ => FEnv → OV) (fun _ _ g _ => g) (fun v _ => OV.is v) x e)))
    (fun i x inst ts e h => (OV.rec (motive := fun _ => FRes) FRes.no (fun v => (V.rec (motive_1 := fun _ => Nat → FRes) (motive_2 := fun _ => Unit) (fun _ _ => .no) (fun _ _ _ => .no) (fun _ _ _ => .no) (fun _ _ => .no) (fun _ => .no) (fun _ _ _ => .no) (fun _ => .no) (fun _ _ _ _ _ _ => .no) (fun _ => .no) (fun _ _ => .no) (fun _ => .no) (fun _ _ _ _ _ _ => .no) (fun _ => .no) (fun _ _ _ _ => .no) (fun _ _ _ => .no) (fun vs _ => fun i => (OV.rec (motive := fun _ => FRes) FRes.no FRes.val (lNth vs i))) (fun _ => .no) (fun _ _ _ _ _ => .no) () (fun _ _ _ _ => ()) v i)) (FX.rec (motive := fun _ => FEnv → OV) (fun _ _ g _ => g) (fun v _ => OV.is v) x e)))
    (fun f args inst ts e h => (OL.rec (motive := fun _ => FRes) FRes.no (fun vs => FRes.call f vs) (fEvs args e)))
    (fun f args inst ts e h => (OV.rec (motive := fun _ => FRes) FRes.no (fun v => (OL.rec (motive := fun _ => FRes) FRes.no (fun vs => FRes.of (callvV v vs)) (fEvs args e))) (FX.rec (motive := fun _ => FEnv → OV) (fun _ _ g _ => g) (fun v _ => OV.is v) f e)))
    (fun tbl x args inst ts e h => (OV.rec (motive := fun _ => FRes) FRes.no (fun v => (OL.rec (motive := fun _ => FRes) FRes.no (fun vs => FRes.of (invV tbl v vs)) (fEvs args e))) (FX.rec (motive := fun _ => FEnv → OV) (fun _ _ g _ => g) (fun v _ => OV.is v) x e)))
    (fun x inst ts e h => (OV.rec (motive := fun _ => FRes) FRes.no (fun v => FRes.of (lenSV v)) (FX.rec (motive := fun _ => FEnv → OV) (fun _ _ g _ => g) (fun v _ => OV.is v) x e)))
    (fun x inst ts e h => (OV.rec (motive := fun _ => FRes) FRes.no (fun v => (V.rec (motive_1 := fun _ => FRes) (motive_2 := fun _ => Unit) (fun _ => .no) (fun _ _ => .no) (fun _ _ => .no) (fun _ => .no) (.no) (fun _ _ => .no) (.val (.int .i64 (.ofNat (nat_lit 0)))) (fun _ _ len _ _ => .val (.int .i64 (.ofNat len))) (.no) (fun _ => .no) (.no) (fun _ _ _ _ _ => .no) (.no) (fun _ _ _ => .no) (fun _ _ => .no) (fun _ _ => .no) (.no) (fun _ _ i _ => .val (.sym .i64 i)) () (fun _ _ _ _ => ()) v)) (FX.rec (motive := fun _ => FEnv → OV) (fun _ _ g _ => g) (fun v _ => OV.is v) x e)))
    (fun x inst ts e h => (OV.rec (motive := fun _ => FRes) FRes.no (fun v => FRes.of (lenMV h v)) (FX.rec (motive := fun _ => FEnv → OV) (fun _ _ g _ => g) (fun v _ => OV.is v) x e)))
    (fun n inst ts e h => FRes.val (.int .i64 (.ofNat n)))
    (fun x inst ts e h => (OV.rec (motive := fun _ => FRes) FRes.no (fun v => FRes.of (capV v)) (FX.rec (motive := fun _ => FEnv → OV) (fun _ _ g _ => g) (fun v _ => OV.is v) x e)))
    (fun esz bytes s x inst ts e h => (OV.rec (motive := fun _ => FRes) FRes.no (fun a => (OV.rec (motive := fun _ => FRes) FRes.no (fun b => FRes.of (appSV h esz bytes a b)) (FX.rec (motive := fun _ => FEnv → OV) (fun _ _ g _ => g) (fun v _ => OV.is v) x e))) (FX.rec (motive := fun _ => FEnv → OV) (fun _ _ g _ => g) (fun v _ => OV.is v) s e)))
    (fun esz bytes zero s n inst ts e h => (OV.rec (motive := fun _ => FRes) FRes.no (fun a => (OV.rec (motive := fun _ => FRes) FRes.no (fun b => FRes.of (appZV h esz bytes zero a b)) (FX.rec (motive := fun _ => FEnv → OV) (fun _ _ g _ => g) (fun v _ => OV.is v) n e))) (FX.rec (motive := fun _ => FEnv → OV) (fun _ _ g _ => g) (fun v _ => OV.is v) s e)))
    (fun esz d s inst ts e h => (OV.rec (motive := fun _ => FRes) FRes.no (fun a => (OV.rec (motive := fun _ => FRes) FRes.no (fun b => FRes.of (copyV h esz a b)) (FX.rec (motive := fun _ => FEnv → OV) (fun _ _ g _ => g) (fun v _ => OV.is v) s e))) (FX.rec (motive := fun _ => FEnv → OV) (fun _ _ g _ => g) (fun v _ => OV.is v) d e)))
    (fun zero x inst ts e h => (OV.rec (motive := fun _ => FRes) FRes.no (fun v => FRes.of (clrV h zero v)) (FX.rec (motive := fun _ => FEnv → OV) (fun _ _ g _ => g) (fun v _ => OV.is v) x e)))
    (fun xs inst ts e h => (OL.rec (motive := fun _ => FRes) FRes.no (fun vs => FRes.of (mxxV vs)) (fEvs xs e)))
    (fun xs inst ts e h => (OL.rec (motive := fun _ => FRes) FRes.no (fun vs => FRes.of (mnnV vs)) (fEvs xs e)))
    (fun inst ts e h => FRes.no) o

/-! ### Code -/
inductive FOp where
  | op (d : FD) (o : FO)
  | gop (h n : Nib) (g : FEnv → OV) (ok : ∀ e, g e = FEnv.get h n e) (w : Bool) (d : FD) (o : FO)
inductive FCode where
  | skip
  | reg (ops : List FOp)
  | drw (ops : List FOp) (chk : List (Nat × Nat))
  | seq (a b : FCode)
  | cond (c : FX) (a b : FCode)
  | block (id : Nat) (b : FCode)
  | loop (b : FCode)
  | exit (id : Nat)
  | ret
  | bad
inductive FRR where
  | t (h n : Nib) (g : FEnv → OV) (ok : ∀ e, g e = FEnv.get h n e)
  | cell1 (h n : Nib) (g : FEnv → OV) (ok : ∀ e, g e = FEnv.get h n e)
  | cellA (h n : Nib) (g : FEnv → OV) (ok : ∀ e, g e = FEnv.get h n e) (sz : Nat)
structure FFunc where
  body : FCode
  res : List FRR

inductive CR where
  | no
  | ok (v : V) (h : H)
def CR.toO : CR → Option (V × H)
  | .no => none
  | .ok v h => some (v, h)
noncomputable def CR.of : Option (V × H) → CR := fun o => Option.rec (motive := fun _ => CR) .no (fun p => .ok p.1 p.2) o
inductive FOut where
  | no
  | ok (e : FEnv) (h : H)
inductive FEx where
  | no
  | nrm (e : FEnv) (h : H)
  | exit (id : Nat) (e : FEnv) (h : H)
  | ret (e : FEnv) (h : H)
abbrev FCall := FuncId → List V → H → CR

noncomputable def FD.put : FD → V → FEnv → FEnv := fun d v e => (FD.rec (motive := fun _ => V → FEnv → FEnv) (fun _ e => e) (fun _ _ s _ v e => s (.is v) e) d v e)
noncomputable def guardF (x : OV) (w : Bool) (r s : FOut) : FOut := OV.rec (motive := fun _ => FOut) .no (fun v => (V.rec (motive_1 := fun _ => Bool → FOut → FOut → FOut) (motive_2 := fun _ => Unit) (fun b => fun w r s => Bool.rec (motive := fun _ => FOut) (Bool.rec (motive := fun _ => FOut) r s w) (Bool.rec (motive := fun _ => FOut) s r w) b) (fun _ _ _ _ s => s) (fun _ _ _ _ s => s) (fun _ _ _ s => s) (fun _ _ s => s) (fun _ _ _ _ s => s) (fun _ _ s => s) (fun _ _ _ _ _ _ _ s => s) (fun _ _ s => s) (fun _ _ _ s => s) (fun _ _ s => s) (fun _ _ _ _ _ _ _ s => s) (fun _ _ s => s) (fun _ _ _ _ _ s => s) (fun _ _ _ _ s => s) (fun _ _ _ _ s => s) (fun _ _ _ => FOut.no) (fun _ _ _ _ _ _ s => s) () (fun _ _ _ _ => ()) v w r s)) x
noncomputable def fOps (inst : Tab) (ts : TypeId → Option Sh) (call : FCall) : List FOp → FEnv → H → FOut := fun l => List.rec (motive := fun _ => FEnv → H → FOut) (fun e h => .ok e h)
  (fun o _ ih e h => FOp.rec (motive := fun _ => (FEnv → H → FOut) → FEnv → H → FOut)
    (fun d o ih e h => FRes.rec (motive := fun _ => FOut) .no (fun v => ih (FD.rec (motive := fun _ => V → FEnv → FEnv) (fun _ e => e) (fun _ _ s _ v e => s (.is v) e) d v e) h) (fun b f => ih (FD.rec (motive := fun _ => V → FEnv → FEnv) (fun _ e => e) (fun _ _ s _ v e => s (.is v) e) d (f h.nx) e) ⟨tbSet h.t h.nx b, Nat.succ h.nx⟩) (fun v h' => ih (FD.rec (motive := fun _ => V → FEnv → FEnv) (fun _ e => e) (fun _ _ s _ v e => s (.is v) e) d v e) h')
      (fun f az => CR.rec (motive := fun _ => FOut) .no (fun v h' => ih (FD.rec (motive := fun _ => V → FEnv → FEnv) (fun _ e => e) (fun _ _ s _ v e => s (.is v) e) d v e) h') (call f az h)) (FO.rec (motive := fun _ => Tab → (TypeId → Option Sh) → FEnv → H → FRes)
    (fun x inst ts e h => (OV.rec (motive := fun _ => FRes) FRes.no FRes.val (FX.rec (motive := fun _ => FEnv → OV) (fun _ _ g _ => g) (fun v _ => OV.is v) x e)))
    (fun x y z inst ts e h => (OV.rec (motive := fun _ => FRes) FRes.no (fun c => (V.rec (motive_1 := fun _ => FX → FX → FEnv → FRes) (motive_2 := fun _ => Unit) (fun b => fun x y e => (OV.rec (motive := fun _ => FRes) FRes.no FRes.val (FX.rec (motive := fun _ => FEnv → OV) (fun _ _ g _ => g) (fun v _ => OV.is v) (Bool.rec (motive := fun _ => FX) y x b) e))) (fun _ _ _ _ _ => FRes.no) (fun _ _ _ _ _ => FRes.no) (fun _ _ _ _ => FRes.no) (fun _ _ _ => FRes.no) (fun _ _ _ _ _ => FRes.no) (fun _ _ _ => FRes.no) (fun _ _ _ _ _ _ _ _ => FRes.no) (fun _ _ _ => FRes.no) (fun _ _ _ _ => FRes.no) (fun _ _ _ => FRes.no) (fun _ _ _ _ _ _ _ _ => FRes.no) (fun _ _ _ => FRes.no) (fun _ _ _ _ _ _ => FRes.no) (fun _ _ _ _ _ => FRes.no) (fun _ _ _ _ _ => FRes.no) (fun _ _ _ => FRes.no) (fun _ _ _ _ _ _ _ => FRes.no) () (fun _ _ _ _ => ()) c y z e)) (FX.rec (motive := fun _ => FEnv → OV) (fun _ _ g _ => g) (fun v _ => OV.is v) x e)))
    (fun cs inst ts e h => FRes.new (.cells cs false) (fun i => .ptr i (nat_lit 0)))
    (fun esz x inst ts e h => (OV.rec (motive := fun _ => FRes) FRes.no (fun v => (Bool.rec (motive := fun _ => FRes) FRes.no (Bool.rec (motive := fun _ => FRes) FRes.no (FRes.new (.cells (vCells v) false) (fun i => .ptr i (nat_lit 0))) (lOnes (vCells v))) (lLen (vCells v) esz))) (FX.rec (motive := fun _ => FEnv → OV) (fun _ _ g _ => g) (fun v _ => OV.is v) x e)))
    (fun zero parts inst ts e h => (OL.rec (motive := fun _ => FRes) FRes.no (fun cs => FRes.val (.agg cs)) (fParts parts e zero)))
    (fun esz zero len parts inst ts e h => (OL.rec (motive := fun _ => FRes) FRes.no (fun cs => (Bool.rec (motive := fun _ => FRes) FRes.no (FRes.new (.cells cs false) (fun i => .slc i (nat_lit 0) len len (nat_lit 0))) (lOnes cs))) (fParts parts e zero)))
    (fun x inst ts e h => (OV.rec (motive := fun _ => FRes) FRes.no (fun v => (V.rec (motive_1 := fun _ => H → FRes) (motive_2 := fun _ => Unit) (fun _ _ => FRes.no) (fun _ _ _ => FRes.no) (fun _ _ _ => FRes.no) (fun _ _ => FRes.no) (fun _ => FRes.no) (fun b o => fun h => (OV.rec (motive := fun _ => FRes) FRes.no FRes.val (hNth h b o))) (fun _ => FRes.no) (fun _ _ _ _ _ _ => FRes.no) (fun _ => FRes.no) (fun _ _ => FRes.no) (fun _ => FRes.no) (fun _ _ _ _ _ _ => FRes.no) (fun _ => FRes.no) (fun _ _ _ _ => FRes.no) (fun _ _ _ => FRes.no) (fun _ _ _ => FRes.no) (fun _ => FRes.no) (fun _ _ _ _ _ => FRes.no) () (fun _ _ _ _ => ()) v h)) (FX.rec (motive := fun _ => FEnv → OV) (fun _ _ g _ => g) (fun v _ => OV.is v) x e)))
    (fun sz x inst ts e h => (OV.rec (motive := fun _ => FRes) FRes.no (fun v => (V.rec (motive_1 := fun _ => Nat → H → FRes) (motive_2 := fun _ => Unit) (fun _ _ _ => FRes.no) (fun _ _ _ _ => FRes.no) (fun _ _ _ _ => FRes.no) (fun _ _ _ => FRes.no) (fun _ _ => FRes.no) (fun b o => fun n h => (OL.rec (motive := fun _ => FRes) FRes.no (fun cs => FRes.val (.agg cs)) (hSub h b o n))) (fun _ _ => FRes.no) (fun _ _ _ _ _ _ _ => FRes.no) (fun _ _ => FRes.no) (fun _ _ _ => FRes.no) (fun _ _ => FRes.no) (fun _ _ _ _ _ _ _ => FRes.no) (fun _ _ => FRes.no) (fun _ _ _ _ _ => FRes.no) (fun _ _ _ _ => FRes.no) (fun _ _ _ _ => FRes.no) (fun _ _ => FRes.no) (fun _ _ _ _ _ _ => FRes.no) () (fun _ _ _ _ => ()) v sz h)) (FX.rec (motive := fun _ => FEnv → OV) (fun _ _ g _ => g) (fun v _ => OV.is v) x e)))
    (fun sz a v inst ts e h => (OV.rec (motive := fun _ => FRes) FRes.no (fun p => (OV.rec (motive := fun _ => FRes) FRes.no (fun x => (V.rec (motive_1 := fun _ => Nat → V → H → FRes) (motive_2 := fun _ => Unit) (fun _ _ _ _ => FRes.no) (fun _ _ _ _ _ => FRes.no) (fun _ _ _ _ _ => FRes.no) (fun _ _ _ _ => FRes.no) (fun _ _ _ => FRes.no) (fun b o => fun n x h => (Bool.rec (motive := fun _ => FRes) FRes.no (hSt h b o (vCells x) (fun h' => .upd unit h')) (lLen (vCells x) n))) (fun _ _ _ => FRes.no) (fun _ _ _ _ _ _ _ _ => FRes.no) (fun _ _ _ => FRes.no) (fun _ _ _ _ => FRes.no) (fun _ _ _ => FRes.no) (fun _ _ _ _ _ _ _ _ => FRes.no) (fun _ _ _ => FRes.no) (fun _ _ _ _ _ _ => FRes.no) (fun _ _ _ _ _ => FRes.no) (fun _ _ _ _ _ => FRes.no) (fun _ _ _ => FRes.no) (fun _ _ _ _ _ _ _ => FRes.no) () (fun _ _ _ _ => ()) p sz x h)) (FX.rec (motive := fun _ => FEnv → OV) (fun _ _ g _ => g) (fun v _ => OV.is v) v e))) (FX.rec (motive := fun _ => FEnv → OV) (fun _ _ g _ => g) (fun v _ => OV.is v) a e)))
    (fun x inst ts e h => (OV.rec (motive := fun _ => FRes) FRes.no (fun v => (V.rec (motive_1 := fun _ => V → FRes) (motive_2 := fun _ => Unit) (fun _ _ => FRes.no) (fun _ _ _ => FRes.no) (fun _ _ _ => FRes.no) (fun _ _ => FRes.no) (fun _ => FRes.no) (fun _ _ => FRes.val) (fun _ => FRes.no) (fun _ _ _ _ _ _ => FRes.no) (fun _ => FRes.no) (fun _ _ => FRes.no) (fun _ => FRes.no) (fun _ _ _ _ _ => FRes.val) (fun _ => FRes.no) (fun _ _ _ => FRes.val) (fun _ _ _ => FRes.no) (fun _ _ _ => FRes.no) (fun _ => FRes.no) (fun _ _ _ _ _ => FRes.no) () (fun _ _ _ _ => ()) v v)) (FX.rec (motive := fun _ => FEnv → OV) (fun _ _ g _ => g) (fun v _ => OV.is v) x e)))
    (fun op x y inst ts e h => (OV.rec (motive := fun _ => FRes) FRes.no (fun a => (OV.rec (motive := fun _ => FRes) FRes.no (fun b => (OV.rec (motive := fun _ => FRes) FRes.no FRes.val (BinOp.rec (motive := fun _ => Tab → V → V → OV) (fun inst a b => b_int a (fun k m n => .is (.int k (iWr k (iAdd m n)))) inst .add a b) (fun inst a b => b_int a (fun k m n => .is (.int k (iWr k (iSub m n)))) inst .sub a b) (fun inst a b => b_int a (fun k m n => .is (.int k (iWr k (iMul m n)))) inst .mul a b) (fun inst a b => b_spec inst .quo a b) (fun inst a b => b_spec inst .rem a b) (fun inst a b => b_spec inst .and a b) (fun inst a b => b_spec inst .or a b) (fun inst a b => b_spec inst .xor a b) (fun inst a b => b_spec inst .shl a b) (fun inst a b => b_spec inst .shr a b) (fun inst a b => b_spec inst .andNot a b) (fun inst a b => b_int a (fun _ m n => .is (.bool (iEq m n))) inst .eql a b) (fun inst a b => b_int a (fun _ m n => .is (.bool (Bool.rec (motive := fun _ => Bool) true false (iEq m n)))) inst .neq a b) (fun inst a b => b_int a (fun _ m n => .is (.bool (iLt m n))) inst .lss a b) (fun inst a b => b_int a (fun _ m n => .is (.bool (iLe m n))) inst .leq a b) (fun inst a b => b_int a (fun _ m n => .is (.bool (iLt n m))) inst .gtr a b) (fun inst a b => b_int a (fun _ m n => .is (.bool (iLe n m))) inst .geq a b) op inst a b))) (FX.rec (motive := fun _ => FEnv → OV) (fun _ _ g _ => g) (fun v _ => OV.is v) y e))) (FX.rec (motive := fun _ => FEnv → OV) (fun _ _ g _ => g) (fun v _ => OV.is v) x e)))
    (fun neg s x y inst ts e h => (OV.rec (motive := fun _ => FRes) FRes.no (fun a => (OV.rec (motive := fun _ => FRes) FRes.no (fun b => fEq s inst ts h neg a b) (FX.rec (motive := fun _ => FEnv → OV) (fun _ _ g _ => g) (fun v _ => OV.is v) y e))) (FX.rec (motive := fun _ => FEnv → OV) (fun _ _ g _ => g) (fun v _ => OV.is v) x e)))
    (fun op x inst ts e h => (OV.rec (motive := fun _ => FRes) FRes.no (fun v => UnOp.rec (motive := fun _ => V → FRes) (fun v => FRes.of ((evUn .neg v).map .val)) (fun v => FRes.of ((evUn .xor v).map .val)) (fun v => (V.rec (motive_1 := fun _ => V → FRes) (motive_2 := fun _ => Unit) (fun b => fun _ => .val (.bool (Bool.rec (motive := fun _ => Bool) true false b))) (fun _ _ v => FRes.of ((evUn .not v).map .val)) (fun _ _ v => FRes.of ((evUn .not v).map .val)) (fun _ v => FRes.of ((evUn .not v).map .val)) (fun v => FRes.of ((evUn .not v).map .val)) (fun _ _ v => FRes.of ((evUn .not v).map .val)) (fun v => FRes.of ((evUn .not v).map .val)) (fun _ _ _ _ _ v => FRes.of ((evUn .not v).map .val)) (fun v => FRes.of ((evUn .not v).map .val)) (fun _ v => FRes.of ((evUn .not v).map .val)) (fun v => FRes.of ((evUn .not v).map .val)) (fun _ _ _ _ _ v => FRes.of ((evUn .not v).map .val)) (fun v => FRes.of ((evUn .not v).map .val)) (fun _ _ _ v => FRes.of ((evUn .not v).map .val)) (fun _ _ v => FRes.of ((evUn .not v).map .val)) (fun _ _ v => FRes.of ((evUn .not v).map .val)) (fun v => FRes.of ((evUn .not v).map .val)) (fun _ _ _ _ v => FRes.of ((evUn .not v).map .val)) () (fun _ _ _ _ => ()) v v)) (fun v => FRes.of ((evUn .plus v).map .val)) op v) (FX.rec (motive := fun _ => FEnv → OV) (fun _ _ g _ => g) (fun v _ => OV.is v) x e)))
    (fun k x inst ts e h => (OV.rec (motive := fun _ => FRes) FRes.no (fun v => (V.rec (motive_1 := fun _ => IntKind → Tab → V → FRes) (motive_2 := fun _ => Unit) (fun _ _ _ _ => .no) (fun _ n => fun k _ _ => .val (.int k (iWr k n))) (fun _ _ => fun k inst v => (OV.rec (motive := fun _ => FRes) FRes.no FRes.val (OV.of (@Tab.cvi inst k v)))) (fun _ _ _ _ => .no) (fun _ _ _ => .no) (fun _ _ _ _ _ => .no) (fun _ _ _ => .no) (fun _ _ _ _ _ _ _ _ => .no) (fun _ _ _ => .no) (fun _ _ _ _ => .no) (fun _ _ _ => .no) (fun _ _ _ _ _ _ _ _ => .no) (fun _ _ _ => .no) (fun _ _ _ _ _ _ => .no) (fun _ _ _ _ _ => .no) (fun _ _ _ _ _ => .no) (fun _ _ _ => .no) (fun _ _ _ _ _ _ _ => .no) () (fun _ _ _ _ => ()) v k inst v)) (FX.rec (motive := fun _ => FEnv → OV) (fun _ _ g _ => g) (fun v _ => OV.is v) x e)))
    (fun x inst ts e h => (OV.rec (motive := fun _ => FRes) FRes.no (fun v => FRes.of (cvsV v)) (FX.rec (motive := fun _ => FEnv → OV) (fun _ _ g _ => g) (fun v _ => OV.is v) x e)))
    (fun t x inst ts e h => (OV.rec (motive := fun _ => FRes) FRes.no (fun v => FRes.val (.ifc t v)) (FX.rec (motive := fun _ => FEnv → OV) (fun _ _ g _ => g) (fun v _ => OV.is v) x e)))
    (fun f first cap inst ts e h => (OL.rec (motive := fun _ => FRes) FRes.no (fun a => (OL.rec (motive := fun _ => FRes) FRes.no (fun c => FRes.val (.fn f a c)) (fEvs cap e))) (fEvs first e)))
    (fun inst ts e h => FRes.new (.map []) .map)
    (fun esz bytes zero l c inst ts e h => (OV.rec (motive := fun _ => FRes) FRes.no (fun a => (OV.rec (motive := fun _ => FRes) FRes.no (fun b => FRes.of (mkslV esz bytes zero a b)) (FX.rec (motive := fun _ => FEnv → OV) (fun _ _ g _ => g) (fun v _ => OV.is v) c e))) (FX.rec (motive := fun _ => FEnv → OV) (fun _ _ g _ => g) (fun v _ => OV.is v) l e)))
    (fun x lo hi inst ts e h => (OV.rec (motive := fun _ => FRes) FRes.no (fun a => fEvo e lo fun l => fEvo e hi fun r => FRes.of (slStrV a l r)) (FX.rec (motive := fun _ => FEnv → OV) (fun _ _ g _ => g) (fun v _ => OV.is v) x e)))
    (fun esz x lo hi mx inst ts e h => (OV.rec (motive := fun _ => FRes) FRes.no (fun a => fEvo e lo fun l => fEvo e hi fun r => fEvo e mx fun m => FRes.of (slSlcV esz a l r m)) (FX.rec (motive := fun _ => FEnv → OV) (fun _ _ g _ => g) (fun v _ => OV.is v) x e)))
    (fun n esz x lo hi mx inst ts e h => (OV.rec (motive := fun _ => FRes) FRes.no (fun a => fEvo e lo fun l => fEvo e hi fun r => fEvo e mx fun m => FRes.of (slArrV n esz a l r m)) (FX.rec (motive := fun _ => FEnv → OV) (fun _ _ g _ => g) (fun v _ => OV.is v) x e)))
    (fun off x inst ts e h => (OV.rec (motive := fun _ => FRes) FRes.no (fun v => (V.rec (motive_1 := fun _ => Nat → FRes) (motive_2 := fun _ => Unit) (fun _ _ => .no) (fun _ _ _ => .no) (fun _ _ _ => .no) (fun _ _ => .no) (fun _ => .no) (fun b o => fun off => .val (.ptr b (Nat.add o off))) (fun _ => .no) (fun _ _ _ _ _ _ => .no) (fun _ => .no) (fun _ _ => .no) (fun _ => .no) (fun _ _ _ _ _ _ => .no) (fun _ => .no) (fun _ _ _ _ => .no) (fun _ _ _ => .no) (fun _ _ _ => .no) (fun _ => .no) (fun _ _ _ _ _ => .no) () (fun _ _ _ _ => ()) v off)) (FX.rec (motive := fun _ => FEnv → OV) (fun _ _ g _ => g) (fun v _ => OV.is v) x e)))
    (fun off x inst ts e h => (OV.rec (motive := fun _ => FRes) FRes.no (fun v => (V.rec (motive_1 := fun _ => Nat → FRes) (motive_2 := fun _ => Unit) (fun _ _ => .no) (fun _ _ _ => .no) (fun _ _ _ => .no) (fun _ _ => .no) (fun _ => .no) (fun _ _ _ => .no) (fun _ => .no) (fun _ _ _ _ _ _ => .no) (fun _ => .no) (fun _ _ => .no) (fun _ => .no) (fun _ _ _ _ _ _ => .no) (fun _ => .no) (fun _ _ _ _ => .no) (fun cs _ => fun off => (OV.rec (motive := fun _ => FRes) FRes.no FRes.val (lNth cs off))) (fun _ _ _ => .no) (fun _ => .no) (fun _ _ _ _ _ => .no) () (fun _ _ _ _ => ()) v off)) (FX.rec (motive := fun _ => FEnv → OV) (fun _ _ g _ => g) (fun v _ => OV.is v) x e)))
    (fun off sz x inst ts e h => (OV.rec (motive := fun _ => FRes) FRes.no (fun v => (V.rec (motive_1 := fun _ => Nat → Nat → FRes) (motive_2 := fun _ => Unit) (fun _ _ _ => .no) (fun _ _ _ _ => .no) (fun _ _ _ _ => .no) (fun _ _ _ => .no) (fun _ _ => .no) (fun _ _ _ _ => .no) (fun _ _ => .no) (fun _ _ _ _ _ _ _ => .no) (fun _ _ => .no) (fun _ _ _ => .no) (fun _ _ => .no) (fun _ _ _ _ _ _ _ => .no) (fun _ _ => .no) (fun _ _ _ _ _ => .no) (fun cs _ => fun off n => (OL.rec (motive := fun _ => FRes) FRes.no (fun cs => FRes.val (.agg cs)) (lSub cs off n))) (fun _ _ _ _ => .no) (fun _ _ => .no) (fun _ _ _ _ _ _ => .no) () (fun _ _ _ _ => ()) v off sz)) (FX.rec (motive := fun _ => FEnv → OV) (fun _ _ g _ => g) (fun v _ => OV.is v) x e)))
    (fun n esz x i inst ts e h => (OV.rec (motive := fun _ => FRes) FRes.no (fun a => (OV.rec (motive := fun _ => FRes) FRes.no (fun b => (V.rec (motive_1 := fun _ => Nat → Nat → V → FRes) (motive_2 := fun _ => Unit) (fun _ _ _ _ => .no) (fun _ _ _ _ _ => .no) (fun _ _ _ _ _ => .no) (fun _ _ _ _ => .no) (fun _ _ _ => .no) (fun b o => fun n esz i => (V.rec (motive_1 := fun _ => Nat → Nat → Nat → Nat → FRes) (motive_2 := fun _ => Unit) (fun _ _ _ _ _ => FRes.no) (fun _ z => fun n esz b o => Int.rec (motive := fun _ => Nat → Nat → Nat → Nat → FRes) (fun i n esz b o => (Bool.rec (motive := fun _ => FRes) FRes.no (FRes.val (.ptr b (Nat.add o (Nat.mul i esz)))) (Nat.ble (Nat.succ i) n))) (fun _ _ _ _ _ => FRes.no) z n esz b o) (fun _ _ _ _ _ _ => FRes.no) (fun _ _ _ _ _ => FRes.no) (fun _ _ _ _ => FRes.no) (fun _ _ _ _ _ _ => FRes.no) (fun _ _ _ _ => FRes.no) (fun _ _ _ _ _ _ _ _ _ => FRes.no) (fun _ _ _ _ => FRes.no) (fun _ _ _ _ _ => FRes.no) (fun _ _ _ _ => FRes.no) (fun _ _ _ _ _ _ _ _ _ => FRes.no) (fun _ _ _ _ => FRes.no) (fun _ _ _ _ _ _ _ => FRes.no) (fun _ _ _ _ _ _ => FRes.no) (fun _ _ _ _ _ _ => FRes.no) (fun _ _ _ _ => FRes.no) (fun _ _ _ _ _ _ _ _ => FRes.no) () (fun _ _ _ _ => ()) i n esz b o)) (fun _ _ _ => .no) (fun _ _ _ _ _ _ _ _ => .no) (fun _ _ _ => .no) (fun _ _ _ _ => .no) (fun _ _ _ => .no) (fun _ _ _ _ _ _ _ _ => .no) (fun _ _ _ => .no) (fun _ _ _ _ _ _ => .no) (fun _ _ _ _ _ => .no) (fun _ _ _ _ _ => .no) (fun _ _ _ => .no) (fun _ _ _ _ _ _ _ => .no) () (fun _ _ _ _ => ()) a n esz b)) (FX.rec (motive := fun _ => FEnv → OV) (fun _ _ g _ => g) (fun v _ => OV.is v) i e))) (FX.rec (motive := fun _ => FEnv → OV) (fun _ _ g _ => g) (fun v _ => OV.is v) x e)))
    (fun esz x i inst ts e h => (OV.rec (motive := fun _ => FRes) FRes.no (fun a => (OV.rec (motive := fun _ => FRes) FRes.no (fun b => (V.rec (motive_1 := fun _ => Nat → V → FRes) (motive_2 := fun _ => Unit) (fun _ _ _ => .no) (fun _ _ _ _ => .no) (fun _ _ _ _ => .no) (fun _ _ _ => .no) (fun _ _ => .no) (fun _ _ _ _ => .no) (fun _ _ => .no) (fun b o len _ _ => fun esz i => (V.rec (motive_1 := fun _ => Nat → Nat → Nat → Nat → FRes) (motive_2 := fun _ => Unit) (fun _ _ _ _ _ => FRes.no) (fun _ z => fun len esz b o => Int.rec (motive := fun _ => Nat → Nat → Nat → Nat → FRes) (fun i len esz b o => (Bool.rec (motive := fun _ => FRes) FRes.no (FRes.val (.ptr b (Nat.add o (Nat.mul i esz)))) (Nat.ble (Nat.succ i) len))) (fun _ _ _ _ _ => FRes.no) z len esz b o) (fun _ _ _ _ _ _ => FRes.no) (fun _ _ _ _ _ => FRes.no) (fun _ _ _ _ => FRes.no) (fun _ _ _ _ _ _ => FRes.no) (fun _ _ _ _ => FRes.no) (fun _ _ _ _ _ _ _ _ _ => FRes.no) (fun _ _ _ _ => FRes.no) (fun _ _ _ _ _ => FRes.no) (fun _ _ _ _ => FRes.no) (fun _ _ _ _ _ _ _ _ _ => FRes.no) (fun _ _ _ _ => FRes.no) (fun _ _ _ _ _ _ _ => FRes.no) (fun _ _ _ _ _ _ => FRes.no) (fun _ _ _ _ _ _ => FRes.no) (fun _ _ _ _ => FRes.no) (fun _ _ _ _ _ _ _ _ => FRes.no) () (fun _ _ _ _ => ()) i len esz b o)) (fun _ _ => .no) (fun _ _ _ => .no) (fun _ _ => .no) (fun _ _ _ _ _ _ _ => .no) (fun _ _ => .no) (fun _ _ _ _ _ => .no) (fun _ _ _ _ => .no) (fun _ _ _ _ => .no) (fun _ _ => .no) (fun b o _ lo => fun esz i => (V.rec (motive_1 := fun _ => Nat → Nat → Nat → Nat → FRes) (motive_2 := fun _ => Unit) (fun _ _ _ _ _ => FRes.no) (fun _ z => fun lo esz b o => Int.rec (motive := fun _ => Nat → Nat → Nat → Nat → FRes) (fun i lo esz b o => (Bool.rec (motive := fun _ => FRes) FRes.no (FRes.val (.ptr b (Nat.add o (Nat.mul i esz)))) (Nat.ble (Nat.succ i) lo))) (fun _ _ _ _ _ => FRes.no) z lo esz b o) (fun _ _ _ _ _ _ => FRes.no) (fun _ _ _ _ _ => FRes.no) (fun _ _ _ _ => FRes.no) (fun _ _ _ _ _ _ => FRes.no) (fun _ _ _ _ => FRes.no) (fun _ _ _ _ _ _ _ _ _ => FRes.no) (fun _ _ _ _ => FRes.no) (fun _ _ _ _ _ => FRes.no) (fun _ _ _ _ => FRes.no) (fun _ _ _ _ _ _ _ _ _ => FRes.no) (fun _ _ _ _ => FRes.no) (fun _ _ _ _ _ _ _ => FRes.no) (fun _ _ _ _ _ _ => FRes.no) (fun _ _ _ _ _ _ => FRes.no) (fun _ _ _ _ => FRes.no) (fun _ _ _ _ _ _ _ _ => FRes.no) () (fun _ _ _ _ => ()) i lo esz b o)) () (fun _ _ _ _ => ()) a esz b)) (FX.rec (motive := fun _ => FEnv → OV) (fun _ _ g _ => g) (fun v _ => OV.is v) i e))) (FX.rec (motive := fun _ => FEnv → OV) (fun _ _ g _ => g) (fun v _ => OV.is v) x e)))
    (fun n x i inst ts e h => (OV.rec (motive := fun _ => FRes) FRes.no (fun a => (OV.rec (motive := fun _ => FRes) FRes.no (fun b => (V.rec (motive_1 := fun _ => Nat → V → FRes) (motive_2 := fun _ => Unit) (fun _ _ _ => .no) (fun _ _ _ _ => .no) (fun _ _ _ _ => .no) (fun _ _ _ => .no) (fun _ _ => .no) (fun _ _ _ _ => .no) (fun _ _ => .no) (fun _ _ _ _ _ _ _ => .no) (fun _ _ => .no) (fun _ _ _ => .no) (fun _ _ => .no) (fun _ _ _ _ _ _ _ => .no) (fun _ _ => .no) (fun _ _ _ _ _ => .no) (fun cs _ => fun n i => (V.rec (motive_1 := fun _ => Nat → List V → FRes) (motive_2 := fun _ => Unit) (fun _ _ _ => FRes.no) (fun _ z => fun n cs => Int.rec (motive := fun _ => Nat → List V → FRes) (fun i n cs => (Bool.rec (motive := fun _ => FRes) FRes.no (OV.rec (motive := fun _ => FRes) FRes.no FRes.val (lNth cs i)) (Nat.ble (Nat.succ i) n))) (fun _ _ _ => FRes.no) z n cs) (fun _ _ _ _ => FRes.no) (fun _ _ _ => FRes.no) (fun _ _ => FRes.no) (fun _ _ _ _ => FRes.no) (fun _ _ => FRes.no) (fun _ _ _ _ _ _ _ => FRes.no) (fun _ _ => FRes.no) (fun _ _ _ => FRes.no) (fun _ _ => FRes.no) (fun _ _ _ _ _ _ _ => FRes.no) (fun _ _ => FRes.no) (fun _ _ _ _ _ => FRes.no) (fun _ _ _ _ => FRes.no) (fun _ _ _ _ => FRes.no) (fun _ _ => FRes.no) (fun _ _ _ _ _ _ => FRes.no) () (fun _ _ _ _ => ()) i n cs)) (fun _ _ _ _ => .no) (fun _ _ => .no) (fun _ _ _ _ _ _ => .no) () (fun _ _ _ _ => ()) a n b)) (FX.rec (motive := fun _ => FEnv → OV) (fun _ _ g _ => g) (fun v _ => OV.is v) i e))) (FX.rec (motive := fun _ => FEnv → OV) (fun _ _ g _ => g) (fun v _ => OV.is v) x e)))
    (fun n esz x i inst ts e h => (OV.rec (motive := fun _ => FRes) FRes.no (fun a => (OV.rec (motive := fun _ => FRes) FRes.no (fun b => (V.rec (motive_1 := fun _ => Nat → Nat → V → FRes) (motive_2 := fun _ => Unit) (fun _ _ _ _ => .no) (fun _ _ _ _ _ => .no) (fun _ _ _ _ _ => .no) (fun _ _ _ _ => .no) (fun _ _ _ => .no) (fun _ _ _ _ _ => .no) (fun _ _ _ => .no) (fun _ _ _ _ _ _ _ _ => .no) (fun _ _ _ => .no) (fun _ _ _ _ => .no) (fun _ _ _ => .no) (fun _ _ _ _ _ _ _ _ => .no) (fun _ _ _ => .no) (fun _ _ _ _ _ _ => .no) (fun cs _ => fun n esz i => (V.rec (motive_1 := fun _ => Nat → Nat → List V → FRes) (motive_2 := fun _ => Unit) (fun _ _ _ _ => FRes.no) (fun _ z => fun n esz cs => Int.rec (motive := fun _ => Nat → Nat → List V → FRes) (fun i n esz cs => (Bool.rec (motive := fun _ => FRes) FRes.no (OL.rec (motive := fun _ => FRes) FRes.no (fun cs => FRes.val (.agg cs)) (lSub cs (Nat.mul i esz) esz)) (Nat.ble (Nat.succ i) n))) (fun _ _ _ _ => FRes.no) z n esz cs) (fun _ _ _ _ _ => FRes.no) (fun _ _ _ _ => FRes.no) (fun _ _ _ => FRes.no) (fun _ _ _ _ _ => FRes.no) (fun _ _ _ => FRes.no) (fun _ _ _ _ _ _ _ _ => FRes.no) (fun _ _ _ => FRes.no) (fun _ _ _ _ => FRes.no) (fun _ _ _ => FRes.no) (fun _ _ _ _ _ _ _ _ => FRes.no) (fun _ _ _ => FRes.no) (fun _ _ _ _ _ _ => FRes.no) (fun _ _ _ _ _ => FRes.no) (fun _ _ _ _ _ => FRes.no) (fun _ _ _ => FRes.no) (fun _ _ _ _ _ _ _ => FRes.no) () (fun _ _ _ _ => ()) i n esz cs)) (fun _ _ _ _ _ => .no) (fun _ _ _ => .no) (fun _ _ _ _ _ _ _ => .no) () (fun _ _ _ _ => ()) a n esz b)) (FX.rec (motive := fun _ => FEnv → OV) (fun _ _ g _ => g) (fun v _ => OV.is v) i e))) (FX.rec (motive := fun _ => FEnv → OV) (fun _ _ g _ => g) (fun v _ => OV.is v) x e)))
    (fun x y inst ts e h => (OV.rec (motive := fun _ => FRes) FRes.no (fun a => (OV.rec (motive := fun _ => FRes) FRes.no (fun b => FRes.of (ixSV a b)) (FX.rec (motive := fun _ => FEnv → OV) (fun _ _ g _ => g) (fun v _ => OV.is v) y e))) (FX.rec (motive := fun _ => FEnv → OV) (fun _ _ g _ => g) (fun v _ => OV.is v) x e)))
    (fun s kn zero ok m k inst ts e h => (OV.rec (motive := fun _ => FRes) FRes.no (fun a => (OV.rec (motive := fun _ => FRes) FRes.no (fun b => FRes.of (@lookUpV inst h ts s kn zero ok a b)) (FX.rec (motive := fun _ => FEnv → OV) (fun _ _ g _ => g) (fun v _ => OV.is v) k e))) (FX.rec (motive := fun _ => FEnv → OV) (fun _ _ g _ => g) (fun v _ => OV.is v) m e)))
    (fun s kn m k v inst ts e h => (OV.rec (motive := fun _ => FRes) FRes.no (fun a => (OV.rec (motive := fun _ => FRes) FRes.no (fun b => (OV.rec (motive := fun _ => FRes) FRes.no (fun c => FRes.of (@mputV inst h ts s kn a b c)) (FX.rec (motive := fun _ => FEnv → OV) (fun _ _ g _ => g) (fun v _ => OV.is v) v e))) (FX.rec (motive := fun _ => FEnv → OV) (fun _ _ g _ => g) (fun v _ => OV.is v) k e))) (FX.rec (motive := fun _ => FEnv → OV) (fun _ _ g _ => g) (fun v _ => OV.is v) m e)))
    (fun tys zero ok x inst ts e h => (OV.rec (motive := fun _ => FRes) FRes.no (fun v => FRes.of (asIV tys zero ok v)) (FX.rec (motive := fun _ => FEnv → OV) (fun _ _ g _ => g) (fun v _ => OV.is v) x e)))
    (fun t zero ok x inst ts e h => (OV.rec (motive := fun _ => FRes) FRes.no (fun v => FRes.of (asCV t zero ok v)) (FX.rec (motive := fun _ => FEnv → OV) (fun _ _ g _ => g) (fun v _ => OV.is v) x e)))
    (fun i x inst ts e h => (OV.rec (motive := fun _ => FRes) FRes.no (fun v => (V.rec (motive_1 := fun _ => Nat → FRes) (motive_2 := fun _ => Unit) (fun _ _ => .no) (fun _ _ _ => .no) (fun _ _ _ => .no) (fun _ _ => .no) (fun _ => .no) (fun _ _ _ => .no) (fun _ => .no) (fun _ _ _ _ _ _ => .no) (fun _ => .no) (fun _ _ => .no) (fun _ => .no) (fun _ _ _ _ _ _ => .no) (fun _ => .no) (fun _ _ _ _ => .no) (fun _ _ _ => .no) (fun vs _ => fun i => (OV.rec (motive := fun _ => FRes) FRes.no FRes.val (lNth vs i))) (fun _ => .no) (fun _ _ _ _ _ => .no) () (fun _ _ _ _ => ()) v i)) (FX.rec (motive := fun _ => FEnv → OV) (fun _ _ g _ => g) (fun v _ => OV.is v) x e)))
    (fun f args inst ts e h => (OL.rec (motive := fun _ => FRes) FRes.no (fun vs => FRes.call f vs) (fEvs args e)))
    (fun f args inst ts e h => (OV.rec (motive := fun _ => FRes) FRes.no (fun v => (OL.rec (motive := fun _ => FRes) FRes.no (fun vs => FRes.of (callvV v vs)) (fEvs args e))) (FX.rec (motive := fun _ => FEnv → OV) (fun _ _ g _ => g) (fun v _ => OV.is v) f e)))
    (fun tbl x args inst ts e h => (OV.rec (motive := fun _ => FRes) FRes.no (fun v => (OL.rec (motive := fun _ => FRes) FRes.no (fun vs => FRes.of (invV tbl v vs)) (fEvs args e))) (FX.rec (motive := fun _ => FEnv → OV) (fun _ _ g _ => g) (fun v _ => OV.is v) x e)))
    (fun x inst ts e h => (OV.rec (motive := fun _ => FRes) FRes.no (fun v => FRes.of (lenSV v)) (FX.rec (motive := fun _ => FEnv → OV) (fun _ _ g _ => g) (fun v _ => OV.is v) x e)))
    (fun x inst ts e h => (OV.rec (motive := fun _ => FRes) FRes.no (fun v => (V.rec (motive_1 := fun _ => FRes) (motive_2 := fun _ => Unit) (fun _ => .no) (fun _ _ => .no) (fun _ _ => .no) (fun _ => .no) (.no) (fun _ _ => .no) (.val (.int .i64 (.ofNat (nat_lit 0)))) (fun _ _ len _ _ => .val (.int .i64 (.ofNat len))) (.no) (fun _ => .no) (.no) (fun _ _ _ _ _ => .no) (.no) (fun _ _ _ => .no) (fun _ _ => .no) (fun _ _ => .no) (.no) (fun _ _ i _ => .val (.sym .i64 i)) () (fun _ _ _ _ => ()) v)) (FX.rec (motive := fun _ => FEnv → OV) (fun _ _ g _ => g) (fun v _ => OV.is v) x e)))
    (fun x inst ts e h => (OV.rec (motive := fun _ => FRes) FRes.no (fun v => FRes.of (lenMV h v)) (FX.rec (motive := fun _ => FEnv → OV) (fun _ _ g _ => g) (fun v _ => OV.is v) x e)))
    (fun n inst ts e h => FRes.val (.int .i64 (.ofNat n)))
    (fun x inst ts e h => (OV.rec (motive := fun _ => FRes) FRes.no (fun v => FRes.of (capV v)) (FX.rec (motive := fun _ => FEnv → OV) (fun _ _ g _ => g) (fun v _ => OV.is v) x e)))
    (fun esz bytes s x inst ts e h => (OV.rec (motive := fun _ => FRes) FRes.no (fun a => (OV.rec (motive := fun _ => FRes) FRes.no (fun b => FRes.of (appSV h esz bytes a b)) (FX.rec (motive := fun _ => FEnv → OV) (fun _ _ g _ => g) (fun v _ => OV.is v) x e))) (FX.rec (motive := fun _ => FEnv → OV) (fun _ _ g _ => g) (fun v _ => OV.is v) s e)))
    (fun esz bytes zero s n inst ts e h => (OV.rec (motive := fun _ => FRes) FRes.no (fun a => (OV.rec (motive := fun _ => FRes) FRes.no (fun b => FRes.of (appZV h esz bytes zero a b)) (FX.rec (motive := fun _ => FEnv → OV) (fun _ _ g _ => g) (fun v _ => OV.is v) n e))) (FX.rec (motive := fun _ => FEnv → OV) (fun _ _ g _ => g) (fun v _ => OV.is v) s e)))
    (fun esz d s inst ts e h => (OV.rec (motive := fun _ => FRes) FRes.no (fun a => (OV.rec (motive := fun _ => FRes) FRes.no (fun b => FRes.of (copyV h esz a b)) (FX.rec (motive := fun _ => FEnv → OV) (fun _ _ g _ => g) (fun v _ => OV.is v) s e))) (FX.rec (motive := fun _ => FEnv → OV) (fun _ _ g _ => g) (fun v _ => OV.is v) d e)))
    (fun zero x inst ts e h => (OV.rec (motive := fun _ => FRes) FRes.no (fun v => FRes.of (clrV h zero v)) (FX.rec (motive := fun _ => FEnv → OV) (fun _ _ g _ => g) (fun v _ => OV.is v) x e)))
    (fun xs inst ts e h => (OL.rec (motive := fun _ => FRes) FRes.no (fun vs => FRes.of (mxxV vs)) (fEvs xs e)))
    (fun xs inst ts e h => (OL.rec (motive := fun _ => FRes) FRes.no (fun vs => FRes.of (mnnV vs)) (fEvs xs e)))
    (fun inst ts e h => FRes.no) o inst ts e h))
    (fun _ _ g _ w d o ih e h => guardF (g e) w (FRes.rec (motive := fun _ => FOut) .no (fun v => ih (FD.rec (motive := fun _ => V → FEnv → FEnv) (fun _ e => e) (fun _ _ s _ v e => s (.is v) e) d v e) h) (fun b f => ih (FD.rec (motive := fun _ => V → FEnv → FEnv) (fun _ e => e) (fun _ _ s _ v e => s (.is v) e) d (f h.nx) e) ⟨tbSet h.t h.nx b, Nat.succ h.nx⟩) (fun v h' => ih (FD.rec (motive := fun _ => V → FEnv → FEnv) (fun _ e => e) (fun _ _ s _ v e => s (.is v) e) d v e) h')
      (fun f az => CR.rec (motive := fun _ => FOut) .no (fun v h' => ih (FD.rec (motive := fun _ => V → FEnv → FEnv) (fun _ e => e) (fun _ _ s _ v e => s (.is v) e) d v e) h') (call f az h)) (FO.run o inst ts e h)) (ih (FD.rec (motive := fun _ => V → FEnv → FEnv) (fun _ e => e) (fun _ _ s _ v e => s (.is v) e) d unit e) h)) o ih e h) l

noncomputable def opKF (call : FCall) (d : FD) (ih : FEnv → H → FOut) (e : FEnv) (h : H) (r : FRes) : FOut := FRes.rec (motive := fun _ => FOut) .no (fun v => ih (FD.rec (motive := fun _ => V → FEnv → FEnv) (fun _ e => e) (fun _ _ s _ v e => s (.is v) e) d v e) h) (fun b f => ih (FD.rec (motive := fun _ => V → FEnv → FEnv) (fun _ e => e) (fun _ _ s _ v e => s (.is v) e) d (f h.nx) e) ⟨tbSet h.t h.nx b, Nat.succ h.nx⟩) (fun v h' => ih (FD.rec (motive := fun _ => V → FEnv → FEnv) (fun _ e => e) (fun _ _ s _ v e => s (.is v) e) d v e) h')
      (fun f az => CR.rec (motive := fun _ => FOut) .no (fun v h' => ih (FD.rec (motive := fun _ => V → FEnv → FEnv) (fun _ e => e) (fun _ _ s _ v e => s (.is v) e) d v e) h') (call f az h)) r

/-! Regions that draw their order. -/
structure FRec where
  e : FEnv
  hb : H
  ha : H
  v : V
inductive FDO where
  | no
  | ok (e : FEnv) (h : H) (l : List FRec)
noncomputable def FO.cls : FO → Nat := fun o => FO.rec (motive := fun _ => Nat) (fun _ => (nat_lit 0)) (fun _ _ _ => (nat_lit 0)) (fun _ => (nat_lit 2)) (fun _ _ => (nat_lit 2)) (fun _ _ => (nat_lit 0)) (fun _ _ _ _ => (nat_lit 2)) (fun _ => (nat_lit 1)) (fun _ _ => (nat_lit 1)) (fun _ _ _ => (nat_lit 3)) (fun _ => (nat_lit 0)) (fun _ _ _ => (nat_lit 0)) (fun _ _ _ _ => (nat_lit 1)) (fun _ _ => (nat_lit 0)) (fun _ _ => (nat_lit 0)) (fun _ => (nat_lit 0)) (fun _ _ => (nat_lit 0)) (fun _ _ _ => (nat_lit 0)) (nat_lit 2) (fun _ _ _ _ _ => (nat_lit 2)) (fun _ _ _ => (nat_lit 0)) (fun _ _ _ _ _ => (nat_lit 0)) (fun _ _ _ _ _ _ => (nat_lit 0)) (fun _ _ => (nat_lit 0)) (fun _ _ => (nat_lit 0)) (fun _ _ _ => (nat_lit 0)) (fun _ _ _ _ => (nat_lit 0)) (fun _ _ _ => (nat_lit 0)) (fun _ _ _ => (nat_lit 0)) (fun _ _ _ _ => (nat_lit 0)) (fun _ _ => (nat_lit 0)) (fun _ _ _ _ _ _ => (nat_lit 1)) (fun _ _ _ _ _ => (nat_lit 3)) (fun _ _ _ _ => (nat_lit 0)) (fun _ _ _ _ => (nat_lit 0)) (fun _ _ => (nat_lit 0)) (fun _ _ => (nat_lit 3)) (fun _ _ => (nat_lit 3)) (fun _ _ _ => (nat_lit 3)) (fun _ => (nat_lit 0)) (fun _ => (nat_lit 0)) (fun _ => (nat_lit 1)) (fun _ => (nat_lit 0)) (fun _ => (nat_lit 0)) (fun _ _ _ _ => (nat_lit 3)) (fun _ _ _ _ _ => (nat_lit 3)) (fun _ _ _ => (nat_lit 3)) (fun _ _ => (nat_lit 3)) (fun _ => (nat_lit 0)) (fun _ => (nat_lit 0)) (nat_lit 0) o

noncomputable def guardD (x : OV) (w : Bool) (r s : FDO) : FDO := OV.rec (motive := fun _ => FDO) .no (fun v => (V.rec (motive_1 := fun _ => Bool → FDO → FDO → FDO) (motive_2 := fun _ => Unit) (fun b => fun w r s => Bool.rec (motive := fun _ => FDO) (Bool.rec (motive := fun _ => FDO) r s w) (Bool.rec (motive := fun _ => FDO) s r w) b) (fun _ _ _ _ s => s) (fun _ _ _ _ s => s) (fun _ _ _ s => s) (fun _ _ s => s) (fun _ _ _ _ s => s) (fun _ _ s => s) (fun _ _ _ _ _ _ _ s => s) (fun _ _ s => s) (fun _ _ _ s => s) (fun _ _ s => s) (fun _ _ _ _ _ _ _ s => s) (fun _ _ s => s) (fun _ _ _ _ _ s => s) (fun _ _ _ _ s => s) (fun _ _ _ _ s => s) (fun _ _ _ => FDO.no) (fun _ _ _ _ _ _ s => s) () (fun _ _ _ _ => ()) v w r s)) x
noncomputable def bD (b : Bool) (t f : FDO) : FDO := Bool.rec (motive := fun _ => FDO) f t b
noncomputable def isN : Option Blk → Bool := fun o => Option.rec (motive := fun _ => Bool) true (fun _ => false) o
noncomputable def opD (call : FCall) (d : FD) (o : FO) (id : Nat) (ih : FEnv → H → List FRec → FDO) (e : FEnv) (h : H) (l : List FRec) (r : FRes) : FDO :=
  FRes.rec (motive := fun _ => FDO) .no (fun v => ih (FD.rec (motive := fun _ => V → FEnv → FEnv) (fun _ e => e) (fun _ _ s _ v e => s (.is v) e) d v e) h (⟨e, h, h, v⟩ :: l))
    (fun b f => bD (isN (tbGet h.t id)) (bD (Nat.beq (FO.cls o) (nat_lit 2)) (ih (FD.rec (motive := fun _ => V → FEnv → FEnv) (fun _ e => e) (fun _ _ s _ v e => s (.is v) e) d (f id) e) ⟨tbSet h.t id b, h.nx⟩ (⟨e, h, ⟨tbSet h.t id b, h.nx⟩, f id⟩ :: l)) .no) .no)
    (fun v h' => bD (Nat.beq (FO.cls o) (nat_lit 3)) (ih (FD.rec (motive := fun _ => V → FEnv → FEnv) (fun _ e => e) (fun _ _ s _ v e => s (.is v) e) d v e) h' (⟨e, h, h', v⟩ :: l)) .no)
    (fun f az => CR.rec (motive := fun _ => FDO) .no (fun v h' => bD (Nat.beq (FO.cls o) (nat_lit 3)) (ih (FD.rec (motive := fun _ => V → FEnv → FEnv) (fun _ e => e) (fun _ _ s _ v e => s (.is v) e) d v e) h' (⟨e, h, h', v⟩ :: l)) .no) (call f az h)) r
noncomputable def fDrw (inst : Tab) (ts : TypeId → Option Sh) (call : FCall) (base : Nat) : List FOp → Nat → FEnv → H → List FRec → FDO := fun l => List.rec (motive := fun _ => Nat → FEnv → H → List FRec → FDO) (fun _ e h l => .ok e h l.reverse)
  (fun o _ ih i e h l => FOp.rec (motive := fun _ => (Nat → FEnv → H → List FRec → FDO) → Nat → FEnv → H → List FRec → FDO)
    (fun d o ih i e h l => opD call d o (Nat.add base i) (ih (Nat.succ i)) e h l (FO.run o inst ts e h))
    (fun _ _ g _ w d o ih i e h l => guardD (g e) w (opD call d o (Nat.add base i) (ih (Nat.succ i)) e h l (FO.run o inst ts e h)) (ih (Nat.succ i) (FD.rec (motive := fun _ => V → FEnv → FEnv) (fun _ e => e) (fun _ _ s _ v e => s (.is v) e) d unit e) h (⟨e, h, h, unit⟩ :: l))) o ih i e h l) l
def guardO (x : OV) (w : Bool) : Option Bool :=
  match x with
  | .is (.bool b) => some (b == w)
  | .is .top => none
  | .is _ => some false
  | .no => none
noncomputable def fSameO (inst : Tab) (ts : TypeId → Option Sh) (o : FO) (r : FRec) (id : Nat) (early : Bool) (h : H) : Bool :=
    match FO.run o inst ts r.e r.hb with
    | .val _ =>
      match FO.run o inst ts r.e h with
      | .val v => V.beq v r.v
      | _ => false
    | .new b _ =>
      match tbGet h.t id with
      | some b' => early && Blk.beq b b'
      | none => !early
    | _ => false
noncomputable def fSame (inst : Tab) (ts : TypeId → Option Sh) (o : FOp) (r : FRec) (id : Nat) (early : Bool) (h : H) : Bool :=
  match o with
  | .op _ o => fSameO inst ts o r id early h
  | .gop _ _ g _ w _ o =>
    match guardO (g r.e) w with
    | some true => fSameO inst ts o r id early h
    | some false => true
    | none => false
noncomputable def fChk (inst : Tab) (ts : TypeId → Option Sh) (base : Nat) (ops : List FOp) (l : List FRec) : List (Nat × Nat) → Bool
  | [] => true
  | (i, j) :: r =>
    match ops[i]?, l[i]?, l[j]? with
    | some o, some ri, some rj => fSame inst ts o ri (base + i) (Nat.blt i j) rj.hb && fSame inst ts o ri (base + i) (Nat.blt i j) rj.ha && fChk inst ts base ops l r
    | _, _, _ => false

noncomputable def xBlk (id : Nat) (x : FEx) : FEx := FEx.rec (motive := fun _ => FEx) .no FEx.nrm (fun i e h => Bool.rec (motive := fun _ => FEx) (.exit i e h) (.nrm e h) (Nat.beq id i)) FEx.ret x
noncomputable def fLoop (body : FEnv → H → FEx) : Nat → FEnv → H → FEx := fun n => Nat.rec (motive := fun _ => FEnv → H → FEx) (fun _ _ => .no) (fun _ ih e h => FEx.rec (motive := fun _ => FEx) .no ih FEx.exit FEx.ret (body e h)) n
noncomputable def fCode (inst : Tab) (ts : TypeId → Option Sh) (call : FCall) (fuel : Nat) : FCode → FEnv → H → FEx := fun c => FCode.rec (motive := fun _ => FEnv → H → FEx)
  (fun e h => .nrm e h)
  (fun ops e h => FOut.rec (motive := fun _ => FEx) .no FEx.nrm (fOps inst ts call ops e h))
  (fun ops chk e h => FDO.rec (motive := fun _ => FEx) .no (fun e' h' l => Bool.rec (motive := fun _ => FEx) .no (.nrm e' h') (fChk inst ts h.nx ops l chk)) (fDrw inst ts call h.nx ops (nat_lit 0) e ⟨h.t, Nat.add h.nx ops.length⟩ []))
  (fun _ _ fa fb e h => FEx.rec (motive := fun _ => FEx) .no fb FEx.exit FEx.ret (fa e h))
  (fun c _ _ fa fb e h => OV.rec (motive := fun _ => FEx) .no (fun v => (V.rec (motive_1 := fun _ => FEx → FEx → FEx) (motive_2 := fun _ => Unit) (fun b => fun x y => Bool.rec (motive := fun _ => FEx) y x b) (fun _ _ _ _ => .no) (fun _ _ _ _ => .no) (fun _ _ _ => .no) (fun _ _ => .no) (fun _ _ _ _ => .no) (fun _ _ => .no) (fun _ _ _ _ _ _ _ => .no) (fun _ _ => .no) (fun _ _ _ => .no) (fun _ _ => .no) (fun _ _ _ _ _ _ _ => .no) (fun _ _ => .no) (fun _ _ _ _ _ => .no) (fun _ _ _ _ => .no) (fun _ _ _ _ => .no) (fun _ _ => .no) (fun _ _ _ _ _ _ => .no) () (fun _ _ _ _ => ()) v (fa e h) (fb e h))) (FX.rec (motive := fun _ => FEnv → OV) (fun _ _ g _ => g) (fun v _ => OV.is v) c e))
  (fun id _ fb e h => xBlk id (fb e h))
  (fun _ fb e h => fLoop fb fuel e h)
  (fun id e h => .exit id e h)
  (fun e h => .ret e h)
  (fun _ _ => .no) c
noncomputable def v_rr1 : V → H → OV := fun v => (V.rec (motive_1 := fun _ => H → OV) (motive_2 := fun _ => Unit) (fun _ _ => .no) (fun _ _ _ => .no) (fun _ _ _ => .no) (fun _ _ => .no) (fun _ => .no) (fun b o => fun h => hNth h b o) (fun _ => .no) (fun _ _ _ _ _ _ => .no) (fun _ => .no) (fun _ _ => .no) (fun _ => .no) (fun _ _ _ _ _ _ => .no) (fun _ => .no) (fun _ _ _ _ => .no) (fun _ _ _ => .no) (fun _ _ _ => .no) (fun _ => .no) (fun _ _ _ _ _ => .no) () (fun _ _ _ _ => ()) v)
noncomputable def v_rrA : V → Nat → H → OV := fun v => (V.rec (motive_1 := fun _ => Nat → H → OV) (motive_2 := fun _ => Unit) (fun _ _ _ => .no) (fun _ _ _ _ => .no) (fun _ _ _ _ => .no) (fun _ _ _ => .no) (fun _ _ => .no) (fun b o => fun n h => OL.rec (motive := fun _ => OV) .no (fun cs => .is (.agg cs)) (hSub h b o n)) (fun _ _ => .no) (fun _ _ _ _ _ _ _ => .no) (fun _ _ => .no) (fun _ _ _ => .no) (fun _ _ => .no) (fun _ _ _ _ _ _ _ => .no) (fun _ _ => .no) (fun _ _ _ _ _ => .no) (fun _ _ _ _ => .no) (fun _ _ _ _ => .no) (fun _ _ => .no) (fun _ _ _ _ _ _ => .no) () (fun _ _ _ _ => ()) v)
noncomputable def FRR.ev : FRR → FEnv → H → OV := fun r => FRR.rec (motive := fun _ => FEnv → H → OV) (fun _ _ g _ e _ => g e) (fun _ _ g _ e h => OV.rec (motive := fun _ => OV) .no (fun v => v_rr1 v h) (g e)) (fun _ _ g _ sz e h => OV.rec (motive := fun _ => OV) .no (fun v => v_rrA v sz h) (g e)) r
noncomputable def fRess : List FRR → FEnv → H → OL := fun l => List.rec (motive := fun _ => FEnv → H → OL) (fun _ _ => .is []) (fun r _ ih e h => olc (FRR.ev r e h) (ih e h)) l
noncomputable def fPack : List V → V := fun l => List.rec (motive := fun _ => List V → V) (fun l => .tup l) (fun a t _ l => List.rec (motive := fun _ => V → List V → V) (fun a _ => a) (fun _ _ _ _ l => .tup l) t a l) l l

noncomputable def keys : List FD := [D0, D1, D2, D3, D4, D5, D6, D7, D8, D9, D10, D11, D12, D13, D14, D15, D16, D17, D18, D19, D20, D21, D22, D23, D24, D25, D26, D27, D28, D29, D30, D31, D32, D33, D34, D35, D36, D37, D38, D39]
noncomputable def fEnvOf (k : FEnv → CR) : List V → List FD → FEnv → CR := fun vs => List.rec (motive := fun _ => List FD → FEnv → CR) (fun _ e => k e) (fun v _ ih ks e => List.rec (motive := fun _ => CR) .no (fun d ks _ => ih ks (FD.rec (motive := fun _ => V → FEnv → FEnv) (fun _ e => e) (fun _ _ s _ v e => s (.is v) e) d v e)) ks) vs

structure FCx where
  ft : T FFunc
  ts : TypeId → Option Sh
  orc : FuncId → Option (List V → H → Option (V × H))
noncomputable def tfGet : T FFunc → Nat → Option FFunc := fun t => T.rec (motive := fun _ => Nat → Option FFunc) (fun _ => none)
  (fun v _ _ gl gr i => Bool.rec (motive := fun _ => Option FFunc) (Bool.rec (motive := fun _ => Option FFunc) (gr (Nat.sub (Nat.div i (nat_lit 2)) (nat_lit 1))) (gl (Nat.div i (nat_lit 2))) (Nat.beq (Nat.mod i (nat_lit 2)) (nat_lit 1))) v (Nat.beq i (nat_lit 0))) t
noncomputable def fEnd (rs : List FRR) (x : FEx) : CR := FEx.rec (motive := fun _ => CR) .no (fun e h => OL.rec (motive := fun _ => CR) .no (fun vs => .ok (fPack vs) h) (fRess rs e h)) (fun _ _ _ => .no) (fun e h => OL.rec (motive := fun _ => CR) .no (fun vs => .ok (fPack vs) h) (fRess rs e h)) x
noncomputable def fCall (inst : Tab) (cx : FCx) (fuel : Nat) : Nat → FCall := fun n => Nat.rec (motive := fun _ => FCall) (fun _ _ _ => .no)
  (fun _ ih f az h => Option.rec (motive := fun _ => CR) (Option.rec (motive := fun _ => CR) .no (fun ff => fEnvOf (fun e => fEnd ff.res (fCode inst cx.ts ih fuel ff.body e h)) az keys .nil) (tfGet cx.ft f)) (fun g => CR.of (g az h)) (cx.orc f)) n
end Go.Ev
