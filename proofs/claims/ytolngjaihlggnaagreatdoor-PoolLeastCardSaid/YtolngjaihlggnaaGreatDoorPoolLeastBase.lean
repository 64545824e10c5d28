import Derived.Test.YtolngjaihlggnaaGreatDoorEvBegun
import Derived.Test.YtolngjaihlggnaaGreatDoorEvNum
import Derived.Test.YtolngjaihlggnaaGreatDoorEvSymF
/-! PoolLeast: patterns and answers (numbers and lists alone). -/
namespace Go.Ev.PL

def NM0 : Nat := 5
def I (n : Nat) : V := .int .i64 (.ofNat n)
def y (i : Nat) : V := .sym .i64 i
def rf (q : Nat) : V := y (100 + q)
def ky (j : Nat) : V := y (200 + j)
def mapR (f : Nat → V) : Nat → Nat → List V
  | 0, _ => []
  | n + 1, i => f i :: mapR f n (i + 1)
def keys : Nat → Nat → List (V × V)
  | 0, _ => []
  | n + 1, i => (ky i, .bool true) :: keys n (i + 1)
/-- The pool, the map of those let go, the references. -/
def pool (F m : Nat) (cs : List V) : List (Nat × Blk) := [(6, .cells [.slc 8 0 F F 0] false), (7, .map (keys m 0)), (8, .cells cs false)]
def ones : Nat → List V
  | 0 => []
  | n + 1 => I 1 :: ones n
/-- Of F frames those below f are held. -/
def refsB (F f : Nat) : List V := ones f ++ mapR rf (F - f) f
def refs (F : Nat) : List V := mapR rf F 0
def row (v : V) : Nat → List V
  | 0 => [v]
  | i + 1 => .top :: row v i

def slot0 (lo : Nat) : Nib × Nib × V := (.n0, .n1, .slv NM0 0 0 lo)
def args (F : Nat) : List (Nib × Nib × V) := [(.n0, .n0, I F), (.n0, .n6, .ptr 6 0), (.n0, .n12, .map 7)]
/-- Ahead of the second loop; at its head; behind the choice of the frame. -/
def patA (F : Nat) : Pat := ⟨slot0 0 :: args F, (NM0, .cells [] true) :: pool F 0 (refs F), 9⟩
def patH (F m : Nat) (iv : V) (lo : Nat) (cs : List V) : Pat := ⟨slot0 lo :: (.n0, .n13, iv) :: args F, (NM0, .cells cs true) :: pool F m (refs F), 9⟩
def patQ (F m : Nat) : Pat := ⟨slot0 0 :: (.n0, .n13, y 5000) :: (.n0, .n14, y 61) :: args F, (NM0, .cells [] true) :: pool F m (refs F), 9⟩
/-- Behind the second loop; at the third one's head; behind it. -/
def patX (F m : Nat) : Pat := ⟨args F, pool F m (refs F), 9⟩
def patB (F m f : Nat) : Pat := ⟨(.n1, .n1, I f) :: args F, pool F m (refsB F f), 9⟩
def patZ (F : Nat) : Pat := ⟨[(.n0, .n6, .ptr 6 0)], [(6, .cells [.slc 8 0 F F 0] false), (8, .cells (ones F) false)], 9⟩

def a (op : BinOp) (x z : V) (b : Bool) : Ans := ⟨op, x, z, .bool b⟩
def ansF (F : Nat) : List Ans := [⟨.rem, y 6, I 16, y 30⟩, ⟨.add, y 30, I 16, y 31⟩, ⟨.rem, y 31, I 16, I (F - 1)⟩]
/-- The loop's condition. -/
def ansL : Nat → List Ans
  | 0 => [a .lss (y 5000) (y 0) true, a .lss (y 5000) (I 20) true]
  | 1 => [a .lss (y 5000) (y 0) false]
  | _ => [a .lss (y 5000) (y 0) true, a .lss (y 5000) (I 20) false]
def ansI (F i : Nat) : List Ans := [⟨.rem, y (1000 + i), I F, y (2000 + i)⟩, ⟨.add, y (2000 + i), I F, y (3000 + i)⟩, ⟨.rem, y (3000 + i), I F, y (4000 + i)⟩]
def kapI (i : Nat) (q : Nat) : Option Int := bif Nat.beq q 5000 then some (.ofNat i) else none
def sgI (i : Nat) (q : Nat) : V := bif Nat.beq q 5000 then I i else bif Nat.beq q 61 then y (4000 + i) else y q
/-- The keys ahead of j are unlike c. -/
def unl (c : Nat) : Nat → Nat → List Ans
  | 0, _ => []
  | n + 1, i => a .eql (I c) (ky i) false :: unl c n (i + 1)
/-- Frame c is chosen; the key j is it; j is m: there is none. -/
def kapC (m c j : Nat) (q : Nat) : Option Int :=
  bif Nat.beq q 61 then some (.ofNat c) else bif Nat.beq q (100 + c) then some (bif Nat.beq j m then 1 else 0)
  else bif Nat.blt j m && Nat.beq q (200 + j) then some (.ofNat c) else none
def kapB (m c j : Nat) (q : Nat) : Option Int :=
  bif Nat.beq q (100 + c) then some (bif Nat.beq j m then 1 else 0) else bif Nat.blt j m && Nat.beq q (200 + j) then some (.ofNat c) else none
def ansC (c j : Nat) : List Ans := unl c j 0
def sgC (c j : Nat) (q : Nat) : V := bif Nat.beq q (100 + c) then I 0 else bif Nat.beq q (200 + j) then I c else y q
def upM (m j : Nat) : Nat := bif Nat.beq j m then m + 1 else m
def ansN : List Ans := [⟨.add, y 5000, I 1, y 5001⟩]
def sgN (q : Nat) : V := bif Nat.ble 5000 q then y (q + 1) else y q
def sg (q : Nat) : V := y q
def sgB (f m j : Nat) (q : Nat) : V := bif Nat.blt j m && Nat.beq q (200 + j) then I f else y q
def sg0 (q : Nat) : V := bif Nat.ble 100 q && Nat.blt q 116 then I 1 else y q
def sg1 (q : Nat) : V := bif Nat.beq q 5000 then I 0 else y q
end Go.Ev.PL

namespace Go.Proofs.YtolngjaihlggnaaGreatDoor.PL
open Go.Ev Go.Ev.Pg Go.Ev.PL
noncomputable def body : FCode := ff6.body
noncomputable def lpA : FCode := body.suf 8 |>.fst |>.snd |>.inn |>.inn
noncomputable def cdA : FCode := lpA.fst
noncomputable def blkA : FCode := lpA.snd.fst.inn
noncomputable def incA : FCode := lpA.snd.snd
noncomputable def lpB : FCode := body.suf 9 |>.fst |>.snd |>.inn |>.inn
def ipn : List Nat := [NM0]
def patI : Pat := ⟨[(.n0, .n0, y 6), (.n0, .n1, .slv NM0 0 0 0)], pbIn 0 4 153 123 ipn, 6⟩
@[reducible] noncomputable def t0 : Tab := tabK [] []
noncomputable def r0 (F : Nat) : Bool := endPat 4 ipn sg0 .nrm (patA F) (runF (tabK (ansF F) []) cx1 100000 50 (body.pre 8) patI)
noncomputable def r1 (F : Nat) : Bool := endPat 4 ipn sg1 .nrm (patH F 0 (y 5000) 0 []) (runF t0 cx1 100000 50 (body.suf 8 |>.fst |>.fst) (patA F))
noncomputable def rE (F : Nat) : Bool := endTrue ff6.res (runF t0 cx1 100000 50 (body.suf 10) (patZ F))
noncomputable def cond' (F m : Nat) : Bool := endPat 4 ipn sg .nrm (patH F m (y 5000) 0 []) (runF (tabK (ansL 0) []) cx1 100000 50 cdA (patH F m (y 5000) 0 []))
noncomputable def lv (F m k : Nat) : Bool := endPat 4 ipn sg (.exit 2) (patX F m) (runF (tabK (ansL k) []) cx1 100000 50 lpA (patH F m (y 5000) 0 []))
noncomputable def inc (F m : Nat) : Bool := endPat 4 ipn sgN .nrm (patH F m (y 5000) 0 []) (runF (tabK ansN []) cx1 100000 50 incA (patH F m (y 5000) 0 []))
noncomputable def initB (F m : Nat) : Bool := endPat 4 ipn sg .nrm (patB F m 0) (runF t0 cx1 100000 50 (body.suf 9 |>.fst |>.fst) (patX F m))
noncomputable def lvB (F m : Nat) : Bool := endPat 4 ipn sg (.exit 4) (patZ F) (runF t0 cx1 100000 50 lpB (patB F m F))
noncomputable def pre' (F m i : Nat) : Bool := Pat.instM (kapI i) (patH F m (I i) 0 []) (patH F m (y 5000) 0 []) &&
  endPat 4 ipn (sgI i) .nrm (patQ F m) (runF (tabK (ansI F i) []) cx1 100000 50 (blkA.pre 1) (patH F m (I i) (i + 1) (row (y (1000 + i)) i)))
noncomputable def rest (F m c j : Nat) : Bool := Pat.instM (kapC m c j) (Pat.sub (kapC m c j) (patQ F m)) (patQ F m) &&
  endPat 4 ipn (sgC c j) .nrm (patH F (upM m j) (y 5000) 0 []) (runF (tabK (ansC c j) []) cx1 100000 50 (blkA.suf 1) (Pat.sub (kapC m c j) (patQ F m)))
noncomputable def stepB (F m c j : Nat) : Bool := Pat.instM (kapB m c j) (Pat.sub (kapB m c j) (patB F m c)) (patB F m c) &&
  endPat 4 ipn (sgB c m j) .nrm (patB F m (c + 1)) (runF (tabK (ansC c j) []) cx1 100000 50 lpB (Pat.sub (kapB m c j) (patB F m c)))
/-- q: the frames, less one, times 17, and the keys. -/
noncomputable def alls (q : Nat) (f : Nat → Nat → Bool) : Bool := bif Nat.ble (Nat.mod q 17) (Nat.succ (Nat.div q 17)) then f (Nat.succ (Nat.div q 17)) (Nat.mod q 17) else true
noncomputable def aas (q : Nat) : Bool := alls q fun F m => cond' F m && lv F m 1 && lv F m 2 && inc F m && initB F m && lvB F m && (List.range 20).all fun i => pre' F m i
noncomputable def bbs (q : Nat) : Bool := alls q fun F m => (List.range F).all fun c => (List.range (m + 1)).all fun j => bif Nat.beq j m && Nat.beq m F then true else rest F m c j
noncomputable def ccs (q : Nat) : Bool := alls q fun F m => (List.range F).all fun c => (List.range (m + 1)).all fun j => bif Nat.beq j m && Nat.beq m F then true else stepB F m c j
theorem alls_ok {f : Nat → Nat → Bool} (h : ∀ q, q < 272 → alls q f = true) {F m : Nat} (h1 : 1 ≤ F) (h2 : F ≤ 16) (hm : m ≤ F) : f F m = true := by
  have := h (17 * (F - 1) + m) (by omega)
  have e1 : Nat.div (17 * (F - 1) + m) 17 = F - 1 := by show (17 * (F - 1) + m) / 17 = F - 1; omega
  have e2 : Nat.mod (17 * (F - 1) + m) 17 = m := by show (17 * (F - 1) + m) % 17 = m; omega
  unfold alls at this
  rw [e1, e2, show Nat.succ (F - 1) = F by omega, show Nat.ble m F = true from Nat.ble_eq_true_of_le hm] at this
  exact this
end Go.Proofs.YtolngjaihlggnaaGreatDoor.PL
