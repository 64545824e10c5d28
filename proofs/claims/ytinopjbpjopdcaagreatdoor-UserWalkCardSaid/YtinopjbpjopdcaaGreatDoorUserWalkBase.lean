import Derived.Test.YtinopjbpjopdcaaGreatDoorEvBegun
import Derived.Test.YtinopjbpjopdcaaGreatDoorEvNum
import Derived.Test.YtinopjbpjopdcaaGreatDoorEvSymE
/-! UserWalk: patterns and answers (numbers and lists alone). -/
namespace Go.Ev.UW

def NM0 : Nat := 5
def NM1 : Nat := 6
def I (n : Nat) : V := .int .i64 (.ofNat n)
def y (i : Nat) : V := .sym .i64 i
/-- The buffer's cells; way w of set s. -/
def tl (q : Nat) : V := y (100 + q)
def at' (s w k : Nat) : Nat := 10 * s + 5 * w + k
def tb (q : Nat) : V := y (200 + q)
def mapR (f : Nat → V) : Nat → Nat → List V
  | 0, _ => []
  | n + 1, i => f i :: mapR f n (i + 1)
/-- The buffer: its places; now. -/
def tlb : List V := mapR tl 40 0 ++ [y 5000]
def heap (cs0 cs1 : List V) : List (Nat × Blk) := [(NM0, .cells cs0 true), (NM1, .cells cs1 true), (7, .cells tlb false), (8, .cells (mapR tb 24 0) false)]
def args : List (Nib × Nib × V) := [(.n0, .n2, y 6), (.n0, .n3, y 7), (.n0, .n4, y 8), (.n0, .n12, .ptr 7 0), (.n0, .n13, .ptr 8 0)]
/-- At the first loop's head; at the second one's head; behind it. -/
def pat1 (i lo : Nat) (cs : List V) : Pat := ⟨(.n0, .n0, .slv NM0 0 0 lo) :: (.n0, .n1, .slv NM1 0 5 0) :: (.n0, .n14, I i) :: args, heap cs [], 9⟩
def heap2 (cs1 : List V) : List (Nat × Blk) := [(NM1, .cells cs1 true), (7, .cells tlb false), (8, .cells (mapR tb 24 0) false)]
def pat1X : Pat := ⟨(.n0, .n1, .slv NM1 0 5 0) :: args, heap2 [], 9⟩
def pat2 (i lo : Nat) (cs : List V) : Pat := ⟨(.n0, .n1, .slv NM1 0 5 lo) :: (.n0, .n15, I i) :: args, heap2 cs, 9⟩
def pat2X : Pat := ⟨args, [(7, .cells tlb false), (8, .cells (mapR tb 24 0) false)], 9⟩

def a (op : BinOp) (x z : V) (b : Bool) : Ans := ⟨op, x, z, .bool b⟩
def ansL (i l : Nat) (b : Bool) : List Ans := [a .lss (I i) (y l) b]

/-! The first loop. -/
def ln (i q : Nat) : V := y (1000 + 4 * i + q)
/-- The line of round i; its page told, if it is told. -/
def row4 (v0 v1 v2 v3 : V) : Nat → List V
  | 0 => [v0, v1, v2, v3]
  | i + 1 => .top :: .top :: .top :: .top :: row4 v0 v1 v2 v3 i
def rowB (i : Nat) : List V := row4 (ln i 0) (ln i 1) (ln i 2) (ln i 3) i
def rowG (i p : Nat) : List V := row4 (ln i 0) (I p) (ln i 2) (ln i 3) i
def bads (i : Nat) : Nat → List Ans
  | 0 => [a .lss (ln i 0) (I 0) true]
  | 1 => [a .lss (ln i 0) (I 0) false, a .geq (ln i 0) (I 4) true]
  | 2 => [a .lss (ln i 0) (I 0) false, a .geq (ln i 0) (I 4) false, a .lss (ln i 1) (I 0) true]
  | 3 => [a .lss (ln i 0) (I 0) false, a .geq (ln i 0) (I 4) false, a .lss (ln i 1) (I 0) false, a .geq (ln i 1) (I 8) true]
  | 4 => [a .lss (ln i 0) (I 0) false, a .geq (ln i 0) (I 4) false, a .lss (ln i 1) (I 0) false, a .geq (ln i 1) (I 8) false, a .lss (ln i 2) (I 0) true]
  | 5 => [a .lss (ln i 0) (I 0) false, a .geq (ln i 0) (I 4) false, a .lss (ln i 1) (I 0) false, a .geq (ln i 1) (I 8) false, a .lss (ln i 2) (I 0) false, a .geq (ln i 2) (I 16) true]
  | 6 => [a .lss (ln i 0) (I 0) false, a .geq (ln i 0) (I 4) false, a .lss (ln i 1) (I 0) false, a .geq (ln i 1) (I 8) false, a .lss (ln i 2) (I 0) false, a .geq (ln i 2) (I 16) false, a .geq (ln i 3) (I 1) false]
  | _ => [a .lss (ln i 0) (I 0) false, a .geq (ln i 0) (I 4) false, a .lss (ln i 1) (I 0) false, a .geq (ln i 1) (I 8) false, a .lss (ln i 2) (I 0) false, a .geq (ln i 2) (I 16) false, a .geq (ln i 3) (I 1) true, a .leq (ln i 3) (I 3) false]
def goods (i : Nat) : List Ans := [a .lss (ln i 0) (I 0) false, a .geq (ln i 0) (I 4) false, a .lss (ln i 2) (I 0) false, a .geq (ln i 2) (I 16) false, a .geq (ln i 3) (I 1) true, a .leq (ln i 3) (I 3) true]
/-- A way against an entry's environment and page: 0: another environment; 1: another page; 2: the same. -/
def way (e : V) (p s w : Nat) : Nat → List Ans
  | 0 => [a .eql (tl (at' s w 0)) e false]
  | 1 => [a .eql (tl (at' s w 0)) e true, a .eql (tl (at' s w 1)) (I p) false]
  | _ => [a .eql (tl (at' s w 0)) e true, a .eql (tl (at' s w 1)) (I p) true]
/-- The place that is filled: 0: the first is empty; 1: the second; 2: the second is older; 3: it is not. -/
def room (s : Nat) : Nat → List Ans
  | 0 => [a .lss (tl (at' s 0 0)) (I 0) true]
  | 1 => [a .lss (tl (at' s 0 0)) (I 0) false, a .lss (tl (at' s 1 0)) (I 0) true]
  | 2 => [a .lss (tl (at' s 0 0)) (I 0) false, a .lss (tl (at' s 1 0)) (I 0) false, a .lss (tl (at' s 1 4)) (tl (at' s 0 4)) true]
  | _ => [a .lss (tl (at' s 0 0)) (I 0) false, a .lss (tl (at' s 1 0)) (I 0) false, a .lss (tl (at' s 1 4)) (tl (at' s 0 4)) false]
/-- 0: the first way has it; 1, 2: the second; 3 to 18: none. -/
def ways (e : V) (p s : Nat) (m : Nat) : List Ans :=
  bif Nat.beq m 0 then way e p s 0 2 else bif Nat.ble m 2 then way e p s 0 (m - 1) ++ way e p s 1 2
  else way e p s 0 ((m - 3) / 8) ++ way e p s 1 ((m - 3) / 4 % 2) ++ room s ((m - 3) % 4)
def which (m : Nat) : Nat := bif Nat.beq m 0 then 0 else bif Nat.ble m 2 then 1 else bif Nat.beq ((m - 3) % 4) 1 || Nat.beq ((m - 3) % 4) 2 then 1 else 0
def nw : Ans := ⟨.add, y 5000, I 1, y 5001⟩
def ansG (i p m : Nat) : List Ans := ansL i 0 true ++ goods i ++ ways (ln i 0) p (p % 4) m ++ [nw]
def ansB (i c : Nat) : List Ans := ansL i 0 true ++ bads i c
/-- What stands in the buffer behind. -/
def sgF (e pv f r : V) (s w : Nat) (q : Nat) : V :=
  bif Nat.beq q (100 + at' s w 0) then e else bif Nat.beq q (100 + at' s w 1) then pv else bif Nat.beq q (100 + at' s w 2) then f else bif Nat.beq q (100 + at' s w 3) then r
  else bif Nat.beq q (100 + at' s w 4) then y 5001 else bif Nat.ble 5000 q then y (q + 1) else y q
def sgG (i p m : Nat) : Nat → V := sgF (ln i 0) (I p) (ln i 2) (ln i 3) (p % 4) (which m)
def sg (q : Nat) : V := y q

/-! The second loop. -/
def pt (i q : Nat) : V := y (2000 + 3 * i + q)
def row3 (v0 v1 v2 : V) : Nat → List V
  | 0 => [v0, v1, v2]
  | i + 1 => .top :: .top :: .top :: row3 v0 v1 v2 i
def rowT (i : Nat) : List V := row3 (pt i 0) (pt i 1) (pt i 2) i
/-- Unlike the empty entry: 0: by the frame; 1: by the slot; 2: by the rights. -/
def un (i : Nat) : Nat → List Ans
  | 0 => [a .eql (pt i 0) (I 0) false]
  | 1 => [a .eql (pt i 0) (I 0) true, a .eql (pt i 1) (I 0) false]
  | _ => [a .eql (pt i 0) (I 0) true, a .eql (pt i 1) (I 0) true, a .eql (pt i 2) (I 0) false]
def zero (i : Nat) : List Ans := [a .eql (pt i 0) (I 0) true, a .eql (pt i 1) (I 0) true, a .eql (pt i 2) (I 0) true]
def fit (i : Nat) : Nat → List Ans
  | 0 => [a .lss (pt i 0) (I 0) true]
  | 1 => [a .lss (pt i 0) (I 0) false, a .geq (pt i 0) (I 16) true]
  | 2 => [a .lss (pt i 0) (I 0) false, a .geq (pt i 0) (I 16) false, a .lss (pt i 1) (I 0) true]
  | 3 => [a .lss (pt i 0) (I 0) false, a .geq (pt i 0) (I 16) false, a .lss (pt i 1) (I 0) false, a .geq (pt i 1) (I 8) true]
  | 4 => [a .lss (pt i 0) (I 0) false, a .geq (pt i 0) (I 16) false, a .lss (pt i 1) (I 0) false, a .geq (pt i 1) (I 8) false, a .geq (pt i 2) (I 1) false]
  | 5 => [a .lss (pt i 0) (I 0) false, a .geq (pt i 0) (I 16) false, a .lss (pt i 1) (I 0) false, a .geq (pt i 1) (I 8) false, a .geq (pt i 2) (I 1) true, a .leq (pt i 2) (I 3) false]
  | _ => [a .lss (pt i 0) (I 0) false, a .geq (pt i 0) (I 16) false, a .lss (pt i 1) (I 0) false, a .geq (pt i 1) (I 8) false, a .geq (pt i 2) (I 1) true, a .leq (pt i 2) (I 3) true]
/-- The entry as a word: it is not looked at. -/
def wd (i j : Nat) : V := y (3000 + 8 * i + j)
def word (i : Nat) : List Ans :=
  [⟨.mul, I 256, pt i 0, wd i 0⟩, ⟨.add, I 32768, wd i 0, wd i 1⟩, ⟨.mul, I 16, pt i 1, wd i 2⟩, ⟨.add, wd i 1, wd i 2, wd i 3⟩, ⟨.add, wd i 3, pt i 2, wd i 4⟩]
def cvW (i : Nat) : List (IntKind × V × V) := [(.u64, wd i 4, .sym .u64 (3000 + 8 * i + 5))]
/-- 0: the empty entry; then by what it is unlike, by what it fails; 6, 7: it fits, and there is one, there is none. -/
def ansT (i c : Nat) : List Ans :=
  ansL i 5 true ++ (bif Nat.beq c 0 then zero i else un i ((c - 1) / 8) ++ (bif Nat.ble ((c - 1) % 8) 5 then fit i ((c - 1) % 8) else fit i 6 ++ word i ++ [a .eql (pt i 2) (I 0) false, a .neq (tb (3 * i + 2)) (I 0) (Nat.beq ((c - 1) % 8) 6)]))
def sgT (i : Nat) (q : Nat) : V := bif Nat.beq q (200 + 3 * i) then pt i 0 else bif Nat.beq q (201 + 3 * i) then pt i 1 else bif Nat.beq q (202 + 3 * i) then pt i 2 else y q
def sgT' (i c : Nat) : Nat → V := bif Nat.beq c 0 then sg else bif Nat.beq ((c - 1) % 8) 7 then sgT i else sg

/-! Behind the loops. -/
/-- m below 4: place m / 2 has it; then the other one has another environment, another page; from 4 on: none has it. r: the rights in the place; tr: in the table; k: 4: no load, no store. -/
def kap (p k tr m r : Nat) (q : Nat) : Option Int :=
  bif Nat.beq q 8 then (bif Nat.beq k 4 then none else some (.ofNat (20 + k))) else bif Nat.beq q (202 + 3 * p) then some (.ofNat tr)
  else bif Nat.blt m 4 && Nat.beq q (100 + at' (p % 4) (m / 2) 3) then some (.ofNat r) else none
def sub (κ : Nat → Option Int) : V → V
  | .sym k i => match κ i with | some z => .int k z | none => .sym k i
  | v => v
def subB (κ : Nat → Option Int) : Blk → Blk
  | .cells c r => .cells (c.map (sub κ)) r
  | b => b
def subP (κ : Nat → Option Int) (p : Pat) : Pat := ⟨p.pe.map fun x => (x.1, x.2.1, sub κ x.2.2), p.pb.map fun x => (x.1, subB κ x.2), p.nx⟩
def ansE : List Ans := [⟨.rem, y 6, I 4, y 30⟩, ⟨.add, y 30, I 4, y 31⟩, ⟨.rem, y 31, I 4, y 32⟩, a .lss (y 32) (I 0) false, a .geq (y 32) (I 4) false, a .eql (y 32) (y 32) true, a .eql (.int .i64 (.negSucc 0)) (y 32) false]
def ansP (p : Nat) : List Ans := [⟨.rem, y 7, I 8, y 33⟩, ⟨.add, y 33, I 8, y 34⟩, ⟨.rem, y 34, I 8, I p⟩]
def ansK (k : Nat) : List Ans := bif Nat.beq k 4 then [a .eql (y 8) (I 20) false, a .eql (y 8) (I 21) false, a .eql (y 8) (I 22) false, a .eql (y 8) (I 23) false] else []
def ansR (p tr : Nat) : List Ans := bif Nat.beq tr 0 then [] else [a .lss (tb (3 * p)) (I 0) false, a .geq (tb (3 * p)) (I 16) false]
def ansM (p m : Nat) : List Ans :=
  bif Nat.blt m 2 then way (y 32) p (p % 4) 0 2 ++ way (y 32) p (p % 4) 1 m
  else bif Nat.blt m 4 then way (y 32) p (p % 4) 0 (m - 2) ++ way (y 32) p (p % 4) 1 2
  else way (y 32) p (p % 4) 0 ((m - 4) / 8) ++ way (y 32) p (p % 4) 1 ((m - 4) / 4 % 2) ++ room (p % 4) ((m - 4) % 4)
def self (v : V) : Ans := a .eql v v true
def ansS (p m : Nat) : List Ans := [self (tl (at' (p % 4) (m / 2 % 2) 0)), self (tl (at' (p % 4) (m / 2 % 2) 1)), self (tl (at' (p % 4) (m / 2 % 2) 2)), self (tb (3 * p))]
def ansF (p k tr m : Nat) : List Ans := ansE ++ ansP p ++ ansK k ++ ansR p tr ++ ansM p m ++ ansS p m ++ [nw]
def patF (p k tr m r : Nat) : Pat := subP (kap p k tr m r) pat2X
/-- The beginning: all places empty. -/
def sg0 (q : Nat) : V := bif Nat.blt q 100 then y q else bif Nat.blt q 1000 then (bif Nat.blt q 140 && Nat.beq ((q - 100) % 5) 0 then .int .i64 (.negSucc 0) else I 0) else bif Nat.beq q 5000 then I 0 else y q
end Go.Ev.UW

namespace Go.Proofs.YtinopjbpjopdcaaGreatDoor.UW
open Go.Ev Go.Ev.Pg Go.Ev.UW
noncomputable def body : FCode := ff3.body
noncomputable def lp1 : FCode := body.suf 4 |>.fst |>.snd |>.inn |>.inn
noncomputable def lp2 : FCode := body.suf 5 |>.fst |>.snd |>.inn |>.inn
def ipn : List Nat := [NM0, NM1]
def pat0 : Pat := ⟨(.n0, .n0, .slv NM0 0 0 0) :: (.n0, .n1, .slv NM1 0 5 0) :: args, heap [] [], 9⟩
def patI : Pat := ⟨[(.n0, .n0, .slv NM0 0 0 0), (.n0, .n1, .slv NM1 0 5 0), (.n0, .n2, y 6), (.n0, .n3, y 7), (.n0, .n4, y 8)], pbIn 0 4 174 67 ipn, 7⟩
@[reducible] noncomputable def t0 : Tab := tabK [] []
noncomputable def rndB (i c : Nat) : Bool := endPat 4 ipn sg .nrm (pat1 (i + 1) 0 []) (runF (tabK (ansB i c) []) cx1 100000 50 lp1 (pat1 i (i + 1) (rowB i)))
noncomputable def rndG (i p m : Nat) : Bool := endPat 4 ipn (sgG i p m) .nrm (pat1 (i + 1) 0 []) (runF (tabK (ansG i p m) []) cx1 100000 50 lp1 (pat1 i (i + 1) (rowG i p)))
noncomputable def rnds1 (q : Nat) : Bool := rndB (Nat.div q 8) (Nat.mod q 8) && (List.range 19).all fun m => rndG (Nat.div q 8) (Nat.mod q 8) m
noncomputable def rndT (i c : Nat) : Bool := endPat 4 ipn (sgT' i c) .nrm (pat2 (i + 1) 0 []) (runF (tabK (ansT i c) (cvW i)) cx1 100000 50 lp2 (pat2 i (i + 1) (rowT i)))
noncomputable def rnds2 (i : Nat) : Bool := (List.range 25).all fun c => rndT i c
noncomputable def lv1 (i : Nat) (b : Bool) : Bool := endPat 4 ipn sg (.exit 0) pat1X (runF (tabK (ansL i 0 b) []) cx1 100000 50 lp1 (pat1 i 0 []))
noncomputable def lv2 (i : Nat) (b : Bool) : Bool := endPat 4 ipn sg (.exit 2) pat2X (runF (tabK (ansL i 5 b) []) cx1 100000 50 lp2 (pat2 i 0 []))
noncomputable def fin (p k tr m r : Nat) : Bool := Pat.inst (kap p k tr m r) (patF p k tr m r) pat2X && endTrue ff3.res (runF (tabK (ansF p k tr m) []) cx1 100000 50 (body.suf 6) (patF p k tr m r))
noncomputable def finM (p k tr m : Nat) : Bool := bif Nat.blt m 4 then fin p k tr m 1 && fin p k tr m 2 && fin p k tr m 3 else fin p k tr m 1
/-- q: page, then kind, then the table's rights. -/
noncomputable def fins (q : Nat) : Bool := (List.range 20).all fun m => finM (Nat.div q 20) (Nat.div (Nat.mod q 20) 4) (Nat.mod q 4) m
end Go.Proofs.YtinopjbpjopdcaaGreatDoor.UW
