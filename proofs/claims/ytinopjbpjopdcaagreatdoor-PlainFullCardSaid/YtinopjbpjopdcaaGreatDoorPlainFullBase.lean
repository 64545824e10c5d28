import Derived.Test.YtinopjbpjopdcaaGreatDoorEvBegun
import Derived.Test.YtinopjbpjopdcaaGreatDoorEvNum
import Derived.Test.YtinopjbpjopdcaaGreatDoorEvSymE
/-! PlainFull: the pieces and their patterns. -/
namespace Go.Proofs.YtinopjbpjopdcaaGreatDoor.PF
open Go.Ev Go.Ev.Pg

def NM0 : Nat := 5
def I (n : Nat) : V := .int .i64 (.ofNat n)
noncomputable def body : FCode := ff5.body
noncomputable def lp : FCode := body.suf 6 |>.fst |>.snd |>.inn |>.inn
noncomputable def cd : FCode := lp.fst
noncomputable def blkC : FCode := lp.snd.fst.inn
noncomputable def rest : FCode := blkC.suf 2
noncomputable def inc : FCode := lp.snd.snd
/-- The slots of the first environment: 'par' tells the parents' places. -/
def slots (par : Nat → V) (n : Nat) : Nat → Nat → List V
  | 0, _ => []
  | k + 1, j => (bif Nat.beq j 0 then [I 0, I 3, .int .i64 (.negSucc 0), I 0] else bif Nat.blt j n then [I 0, I 3, I 0, par j] else [I 0, I 0, I 0, I 0]) ++ slots par n k (j + 1)
def zeros : Nat → List V
  | 0 => []
  | k + 1 => I 0 :: zeros k
/-- The kernel, behind 'n' capabilities of the frame. -/
def kern (par : Nat → V) (n : Nat) : List (Nat × Blk) :=
  [(6, .cells [I 1, I 2, I 2, .top, .slc 8 0 2 2 1, .ptr 9 0, .ptr 10 0] false),
    (8, .cells [.ptr 12 0, .ptr 13 0] false),
    (9, .cells [.slc 14 0 2 2 0] false),
    (10, .cells [.slc 15 0 2 2 0] false),
    (12, .cells (zeros 24) false),
    (13, .cells (zeros 24) false),
    (14, .cells [I n, I 0] false),
    (15, .cells (slots par n 8 0 ++ zeros 32) false)]
def psym (j : Nat) : V := .sym .i64 (20 + j)
def pat0 : Pat := ⟨[(.n0, .n0, .slv NM0 0 0 0), (.n0, .n4, .ptr 6 0), (.n0, .n5, I 1)], (NM0, .cells [] true) :: kern psym 1, 16⟩
/-- At the loop's head: round i, n capabilities. -/
def pat (iv : V) (n lo : Nat) (cs : List V) : Pat := ⟨[(.n0, .n0, .slv NM0 0 0 lo), (.n0, .n4, .ptr 6 0), (.n0, .n5, I n), (.n0, .n6, iv)], (NM0, .cells cs true) :: kern psym n, 16⟩
/-- Behind the choice of the source. -/
def patQ (par : Nat → V) (src : Nat) : Pat := ⟨[(.n0, .n0, .slv NM0 0 0 0), (.n0, .n4, .ptr 6 0), (.n0, .n5, I 7), (.n0, .n6, .sym .i64 60), (.n0, .n7, I src)], (NM0, .cells [] true) :: kern par 7, 16⟩
def patX (par : Nat → V) : Pat := ⟨[(.n0, .n4, .ptr 6 0)], (NM0, .cells [] true) :: kern par 7, 16⟩
def patI : Pat := ⟨[(.n0, .n0, .slv NM0 0 0 0)], pbIn 0 4 174 67 [NM0], 6⟩
def sg (i : Nat) : V := .sym .i64 i
/-- .. where the number i is 'v'. -/
def sgU (q : Nat) (v : V) (i : Nat) : V := bif Nat.beq i q then v else .sym .i64 i
@[reducible] noncomputable def t0 : Tab := tabK [] []

/-- The parents of a tree, by its number. -/
def dig (t : Nat) : Nat → Nat
  | 2 => t % 2
  | 3 => t / 2 % 3
  | 4 => t / 6 % 4
  | 5 => t / 24 % 5
  | 6 => t / 120 % 6
  | _ => 0
def par (t : Nat) (j : Nat) : V := I (dig t j)
def sgT (t : Nat) (i : Nat) : V := bif Nat.blt 20 i && Nat.blt i 27 then I (dig t (i - 20)) else .sym .i64 i
def kap (t : Nat) (i : Nat) : Option Int := bif Nat.blt 20 i && Nat.blt i 27 then some (dig t (i - 20) : Nat) else none
/-- Of one tree: each failing derivation leaves all as it was; the rest comes to true. -/
noncomputable def full (t : Nat) : Bool :=
  Pat.inst (kap t) (patX (par t)) (patX psym) && endTrue ff5.res (runF t0 cx1 100000 50 (body.suf 7) (patX (par t))) &&
  (List.range 7).all fun src => Pat.inst (kap t) (patQ (par t) src) (patQ psym src) && endPat 4 [NM0] (sgT t) .nrm (pat (.sym .i64 60) 7 0 []) (runF t0 cx1 100000 50 rest (patQ (par t) src))
end Go.Proofs.YtinopjbpjopdcaaGreatDoor.PF
