import Derived.Test.YtolngjaihlggnaaGreatDoorEvCall
/-! The frame of the fast evaluator: 256 places, in 16 leaves of 16; a reader and a writer for each place. By recursors with closed arms: the kernel runs it quickly. -/
namespace Go.Ev
set_option linter.unusedVariables false

inductive Nib where
  | n0 | n1 | n2 | n3 | n4 | n5 | n6 | n7 | n8 | n9 | n10 | n11 | n12 | n13 | n14 | n15

inductive OV where
  | no
  | is (v : V)

structure Leaf where
  a0 : OV
  a1 : OV
  a2 : OV
  a3 : OV
  a4 : OV
  a5 : OV
  a6 : OV
  a7 : OV
  a8 : OV
  a9 : OV
  a10 : OV
  a11 : OV
  a12 : OV
  a13 : OV
  a14 : OV
  a15 : OV

structure FEnv where
  b0 : Leaf
  b1 : Leaf
  b2 : Leaf
  b3 : Leaf
  b4 : Leaf
  b5 : Leaf
  b6 : Leaf
  b7 : Leaf
  b8 : Leaf
  b9 : Leaf
  b10 : Leaf
  b11 : Leaf
  b12 : Leaf
  b13 : Leaf
  b14 : Leaf
  b15 : Leaf

def Leaf.nil : Leaf := ⟨.no, .no, .no, .no, .no, .no, .no, .no, .no, .no, .no, .no, .no, .no, .no, .no⟩

def FEnv.nil : FEnv := ⟨Leaf.nil, Leaf.nil, Leaf.nil, Leaf.nil, Leaf.nil, Leaf.nil, Leaf.nil, Leaf.nil, Leaf.nil, Leaf.nil, Leaf.nil, Leaf.nil, Leaf.nil, Leaf.nil, Leaf.nil, Leaf.nil⟩

def Leaf.get : Nib → Leaf → OV
  | .n0, s => s.a0
  | .n1, s => s.a1
  | .n2, s => s.a2
  | .n3, s => s.a3
  | .n4, s => s.a4
  | .n5, s => s.a5
  | .n6, s => s.a6
  | .n7, s => s.a7
  | .n8, s => s.a8
  | .n9, s => s.a9
  | .n10, s => s.a10
  | .n11, s => s.a11
  | .n12, s => s.a12
  | .n13, s => s.a13
  | .n14, s => s.a14
  | .n15, s => s.a15

def FEnv.leaf : Nib → FEnv → Leaf
  | .n0, s => s.b0
  | .n1, s => s.b1
  | .n2, s => s.b2
  | .n3, s => s.b3
  | .n4, s => s.b4
  | .n5, s => s.b5
  | .n6, s => s.b6
  | .n7, s => s.b7
  | .n8, s => s.b8
  | .n9, s => s.b9
  | .n10, s => s.b10
  | .n11, s => s.b11
  | .n12, s => s.b12
  | .n13, s => s.b13
  | .n14, s => s.b14
  | .n15, s => s.b15

def Leaf.set : Nib → OV → Leaf → Leaf
  | .n0, v, s => { s with a0 := v }
  | .n1, v, s => { s with a1 := v }
  | .n2, v, s => { s with a2 := v }
  | .n3, v, s => { s with a3 := v }
  | .n4, v, s => { s with a4 := v }
  | .n5, v, s => { s with a5 := v }
  | .n6, v, s => { s with a6 := v }
  | .n7, v, s => { s with a7 := v }
  | .n8, v, s => { s with a8 := v }
  | .n9, v, s => { s with a9 := v }
  | .n10, v, s => { s with a10 := v }
  | .n11, v, s => { s with a11 := v }
  | .n12, v, s => { s with a12 := v }
  | .n13, v, s => { s with a13 := v }
  | .n14, v, s => { s with a14 := v }
  | .n15, v, s => { s with a15 := v }

def FEnv.setL : Nib → Leaf → FEnv → FEnv
  | .n0, v, s => { s with b0 := v }
  | .n1, v, s => { s with b1 := v }
  | .n2, v, s => { s with b2 := v }
  | .n3, v, s => { s with b3 := v }
  | .n4, v, s => { s with b4 := v }
  | .n5, v, s => { s with b5 := v }
  | .n6, v, s => { s with b6 := v }
  | .n7, v, s => { s with b7 := v }
  | .n8, v, s => { s with b8 := v }
  | .n9, v, s => { s with b9 := v }
  | .n10, v, s => { s with b10 := v }
  | .n11, v, s => { s with b11 := v }
  | .n12, v, s => { s with b12 := v }
  | .n13, v, s => { s with b13 := v }
  | .n14, v, s => { s with b14 := v }
  | .n15, v, s => { s with b15 := v }

def Nib.nat : Nib → Nat
  | .n0 => 0
  | .n1 => 1
  | .n2 => 2
  | .n3 => 3
  | .n4 => 4
  | .n5 => 5
  | .n6 => 6
  | .n7 => 7
  | .n8 => 8
  | .n9 => 9
  | .n10 => 10
  | .n11 => 11
  | .n12 => 12
  | .n13 => 13
  | .n14 => 14
  | .n15 => 15

def Nib.of : Nat → Nib
  | 0 => .n0
  | 1 => .n1
  | 2 => .n2
  | 3 => .n3
  | 4 => .n4
  | 5 => .n5
  | 6 => .n6
  | 7 => .n7
  | 8 => .n8
  | 9 => .n9
  | 10 => .n10
  | 11 => .n11
  | 12 => .n12
  | 13 => .n13
  | 14 => .n14
  | _ => .n15


theorem Nib.of_nat (n : Nib) : Nib.of n.nat = n := by cases n <;> rfl
theorem Nib.lt (n : Nib) : n.nat < 16 := by cases n <;> decide
theorem Nib.inj {a b : Nib} (h : a.nat = b.nat) : a = b := by rw [← Nib.of_nat a, ← Nib.of_nat b, h]
theorem Leaf.get_same (n : Nib) (v : OV) (s : Leaf) : Leaf.get n (Leaf.set n v s) = v := by cases n <;> rfl
theorem Leaf.get_ne (n m : Nib) (v : OV) (s : Leaf) (h : n ≠ m) : Leaf.get m (Leaf.set n v s) = Leaf.get m s := by
  cases n <;> (cases m <;> first | rfl | exact absurd rfl h)
theorem FEnv.leaf_same (n : Nib) (v : Leaf) (s : FEnv) : FEnv.leaf n (FEnv.setL n v s) = v := by cases n <;> rfl
theorem FEnv.leaf_ne (n m : Nib) (v : Leaf) (s : FEnv) (h : n ≠ m) : FEnv.leaf m (FEnv.setL n v s) = FEnv.leaf m s := by
  cases n <;> (cases m <;> first | rfl | exact absurd rfl h)

/-- The place of a temporary. -/
def FEnv.get (h n : Nib) (e : FEnv) : OV := Leaf.get n (FEnv.leaf h e)
def FEnv.set (h n : Nib) (v : OV) (e : FEnv) : FEnv := FEnv.setL h (Leaf.set n v (FEnv.leaf h e)) e

def tnat (h n : Nib) : Nat := 16 * h.nat + n.nat

theorem tnat_inj {h h' n n' : Nib} (hh : tnat h n = tnat h' n') : h = h' ∧ n = n' := by
  have h1 := n.lt
  have h2 := n'.lt
  unfold tnat at hh
  exact ⟨Nib.inj (by omega), Nib.inj (by omega)⟩

theorem FEnv.get_same (h n : Nib) (v : OV) (e : FEnv) : FEnv.get h n (FEnv.set h n v e) = v := by
  unfold FEnv.get FEnv.set
  rw [FEnv.leaf_same, Leaf.get_same]
theorem FEnv.get_ne {h h' n n' : Nib} (v : OV) (e : FEnv) (hne : tnat h n ≠ tnat h' n') : FEnv.get h' n' (FEnv.set h n v e) = FEnv.get h' n' e := by
  unfold FEnv.get FEnv.set
  by_cases hh : h = h'
  · subst hh
    rw [FEnv.leaf_same, Leaf.get_ne]
    intro hn
    subst hn
    exact hne rfl
  · rw [FEnv.leaf_ne _ _ _ _ hh]
theorem FEnv.get_nil (h n : Nib) : FEnv.get h n FEnv.nil = .no := by cases h <;> (cases n <;> rfl)

/-- Operands, places to write. -/
inductive FX where
  | t (h n : Nib) (g : FEnv → OV) (ok : ∀ e, g e = FEnv.get h n e)
  | c (v : V)
inductive FD where
  | no
  | at (h n : Nib) (s : OV → FEnv → FEnv) (ok : ∀ v e, s v e = FEnv.set h n v e)

noncomputable def ls0 (v : OV) (s : Leaf) : Leaf := Leaf.rec (motive := fun _ => Leaf) (fun a0 a1 a2 a3 a4 a5 a6 a7 a8 a9 a10 a11 a12 a13 a14 a15 => Leaf.mk v a1 a2 a3 a4 a5 a6 a7 a8 a9 a10 a11 a12 a13 a14 a15) s
noncomputable def ls1 (v : OV) (s : Leaf) : Leaf := Leaf.rec (motive := fun _ => Leaf) (fun a0 a1 a2 a3 a4 a5 a6 a7 a8 a9 a10 a11 a12 a13 a14 a15 => Leaf.mk a0 v a2 a3 a4 a5 a6 a7 a8 a9 a10 a11 a12 a13 a14 a15) s
noncomputable def ls2 (v : OV) (s : Leaf) : Leaf := Leaf.rec (motive := fun _ => Leaf) (fun a0 a1 a2 a3 a4 a5 a6 a7 a8 a9 a10 a11 a12 a13 a14 a15 => Leaf.mk a0 a1 v a3 a4 a5 a6 a7 a8 a9 a10 a11 a12 a13 a14 a15) s
noncomputable def ls3 (v : OV) (s : Leaf) : Leaf := Leaf.rec (motive := fun _ => Leaf) (fun a0 a1 a2 a3 a4 a5 a6 a7 a8 a9 a10 a11 a12 a13 a14 a15 => Leaf.mk a0 a1 a2 v a4 a5 a6 a7 a8 a9 a10 a11 a12 a13 a14 a15) s
noncomputable def ls4 (v : OV) (s : Leaf) : Leaf := Leaf.rec (motive := fun _ => Leaf) (fun a0 a1 a2 a3 a4 a5 a6 a7 a8 a9 a10 a11 a12 a13 a14 a15 => Leaf.mk a0 a1 a2 a3 v a5 a6 a7 a8 a9 a10 a11 a12 a13 a14 a15) s
noncomputable def ls5 (v : OV) (s : Leaf) : Leaf := Leaf.rec (motive := fun _ => Leaf) (fun a0 a1 a2 a3 a4 a5 a6 a7 a8 a9 a10 a11 a12 a13 a14 a15 => Leaf.mk a0 a1 a2 a3 a4 v a6 a7 a8 a9 a10 a11 a12 a13 a14 a15) s
noncomputable def ls6 (v : OV) (s : Leaf) : Leaf := Leaf.rec (motive := fun _ => Leaf) (fun a0 a1 a2 a3 a4 a5 a6 a7 a8 a9 a10 a11 a12 a13 a14 a15 => Leaf.mk a0 a1 a2 a3 a4 a5 v a7 a8 a9 a10 a11 a12 a13 a14 a15) s
noncomputable def ls7 (v : OV) (s : Leaf) : Leaf := Leaf.rec (motive := fun _ => Leaf) (fun a0 a1 a2 a3 a4 a5 a6 a7 a8 a9 a10 a11 a12 a13 a14 a15 => Leaf.mk a0 a1 a2 a3 a4 a5 a6 v a8 a9 a10 a11 a12 a13 a14 a15) s
noncomputable def ls8 (v : OV) (s : Leaf) : Leaf := Leaf.rec (motive := fun _ => Leaf) (fun a0 a1 a2 a3 a4 a5 a6 a7 a8 a9 a10 a11 a12 a13 a14 a15 => Leaf.mk a0 a1 a2 a3 a4 a5 a6 a7 v a9 a10 a11 a12 a13 a14 a15) s
noncomputable def ls9 (v : OV) (s : Leaf) : Leaf := Leaf.rec (motive := fun _ => Leaf) (fun a0 a1 a2 a3 a4 a5 a6 a7 a8 a9 a10 a11 a12 a13 a14 a15 => Leaf.mk a0 a1 a2 a3 a4 a5 a6 a7 a8 v a10 a11 a12 a13 a14 a15) s
noncomputable def ls10 (v : OV) (s : Leaf) : Leaf := Leaf.rec (motive := fun _ => Leaf) (fun a0 a1 a2 a3 a4 a5 a6 a7 a8 a9 a10 a11 a12 a13 a14 a15 => Leaf.mk a0 a1 a2 a3 a4 a5 a6 a7 a8 a9 v a11 a12 a13 a14 a15) s
noncomputable def ls11 (v : OV) (s : Leaf) : Leaf := Leaf.rec (motive := fun _ => Leaf) (fun a0 a1 a2 a3 a4 a5 a6 a7 a8 a9 a10 a11 a12 a13 a14 a15 => Leaf.mk a0 a1 a2 a3 a4 a5 a6 a7 a8 a9 a10 v a12 a13 a14 a15) s
noncomputable def ls12 (v : OV) (s : Leaf) : Leaf := Leaf.rec (motive := fun _ => Leaf) (fun a0 a1 a2 a3 a4 a5 a6 a7 a8 a9 a10 a11 a12 a13 a14 a15 => Leaf.mk a0 a1 a2 a3 a4 a5 a6 a7 a8 a9 a10 a11 v a13 a14 a15) s
noncomputable def ls13 (v : OV) (s : Leaf) : Leaf := Leaf.rec (motive := fun _ => Leaf) (fun a0 a1 a2 a3 a4 a5 a6 a7 a8 a9 a10 a11 a12 a13 a14 a15 => Leaf.mk a0 a1 a2 a3 a4 a5 a6 a7 a8 a9 a10 a11 a12 v a14 a15) s
noncomputable def ls14 (v : OV) (s : Leaf) : Leaf := Leaf.rec (motive := fun _ => Leaf) (fun a0 a1 a2 a3 a4 a5 a6 a7 a8 a9 a10 a11 a12 a13 a14 a15 => Leaf.mk a0 a1 a2 a3 a4 a5 a6 a7 a8 a9 a10 a11 a12 a13 v a15) s
noncomputable def ls15 (v : OV) (s : Leaf) : Leaf := Leaf.rec (motive := fun _ => Leaf) (fun a0 a1 a2 a3 a4 a5 a6 a7 a8 a9 a10 a11 a12 a13 a14 a15 => Leaf.mk a0 a1 a2 a3 a4 a5 a6 a7 a8 a9 a10 a11 a12 a13 a14 v) s
noncomputable def g0 (e : FEnv) : OV := FEnv.rec (motive := fun _ => OV) (fun b0 b1 b2 b3 b4 b5 b6 b7 b8 b9 b10 b11 b12 b13 b14 b15 => Leaf.rec (motive := fun _ => OV) (fun a0 a1 a2 a3 a4 a5 a6 a7 a8 a9 a10 a11 a12 a13 a14 a15 => a0) b0) e
noncomputable def T0 : FX := .t .n0 .n0 g0 fun _ => rfl
noncomputable def s0 (v : OV) (e : FEnv) : FEnv := FEnv.rec (motive := fun _ => FEnv) (fun b0 b1 b2 b3 b4 b5 b6 b7 b8 b9 b10 b11 b12 b13 b14 b15 => FEnv.mk (ls0 v b0) b1 b2 b3 b4 b5 b6 b7 b8 b9 b10 b11 b12 b13 b14 b15) e
noncomputable def D0 : FD := .at .n0 .n0 s0 fun _ _ => rfl
noncomputable def g1 (e : FEnv) : OV := FEnv.rec (motive := fun _ => OV) (fun b0 b1 b2 b3 b4 b5 b6 b7 b8 b9 b10 b11 b12 b13 b14 b15 => Leaf.rec (motive := fun _ => OV) (fun a0 a1 a2 a3 a4 a5 a6 a7 a8 a9 a10 a11 a12 a13 a14 a15 => a1) b0) e
noncomputable def T1 : FX := .t .n0 .n1 g1 fun _ => rfl
noncomputable def s1 (v : OV) (e : FEnv) : FEnv := FEnv.rec (motive := fun _ => FEnv) (fun b0 b1 b2 b3 b4 b5 b6 b7 b8 b9 b10 b11 b12 b13 b14 b15 => FEnv.mk (ls1 v b0) b1 b2 b3 b4 b5 b6 b7 b8 b9 b10 b11 b12 b13 b14 b15) e
noncomputable def D1 : FD := .at .n0 .n1 s1 fun _ _ => rfl
noncomputable def g2 (e : FEnv) : OV := FEnv.rec (motive := fun _ => OV) (fun b0 b1 b2 b3 b4 b5 b6 b7 b8 b9 b10 b11 b12 b13 b14 b15 => Leaf.rec (motive := fun _ => OV) (fun a0 a1 a2 a3 a4 a5 a6 a7 a8 a9 a10 a11 a12 a13 a14 a15 => a2) b0) e
noncomputable def T2 : FX := .t .n0 .n2 g2 fun _ => rfl
noncomputable def s2 (v : OV) (e : FEnv) : FEnv := FEnv.rec (motive := fun _ => FEnv) (fun b0 b1 b2 b3 b4 b5 b6 b7 b8 b9 b10 b11 b12 b13 b14 b15 => FEnv.mk (ls2 v b0) b1 b2 b3 b4 b5 b6 b7 b8 b9 b10 b11 b12 b13 b14 b15) e
noncomputable def D2 : FD := .at .n0 .n2 s2 fun _ _ => rfl
noncomputable def g3 (e : FEnv) : OV := FEnv.rec (motive := fun _ => OV) (fun b0 b1 b2 b3 b4 b5 b6 b7 b8 b9 b10 b11 b12 b13 b14 b15 => Leaf.rec (motive := fun _ => OV) (fun a0 a1 a2 a3 a4 a5 a6 a7 a8 a9 a10 a11 a12 a13 a14 a15 => a3) b0) e
noncomputable def T3 : FX := .t .n0 .n3 g3 fun _ => rfl
noncomputable def s3 (v : OV) (e : FEnv) : FEnv := FEnv.rec (motive := fun _ => FEnv) (fun b0 b1 b2 b3 b4 b5 b6 b7 b8 b9 b10 b11 b12 b13 b14 b15 => FEnv.mk (ls3 v b0) b1 b2 b3 b4 b5 b6 b7 b8 b9 b10 b11 b12 b13 b14 b15) e
noncomputable def D3 : FD := .at .n0 .n3 s3 fun _ _ => rfl
noncomputable def g4 (e : FEnv) : OV := FEnv.rec (motive := fun _ => OV) (fun b0 b1 b2 b3 b4 b5 b6 b7 b8 b9 b10 b11 b12 b13 b14 b15 => Leaf.rec (motive := fun _ => OV) (fun a0 a1 a2 a3 a4 a5 a6 a7 a8 a9 a10 a11 a12 a13 a14 a15 => a4) b0) e
noncomputable def T4 : FX := .t .n0 .n4 g4 fun _ => rfl
noncomputable def s4 (v : OV) (e : FEnv) : FEnv := FEnv.rec (motive := fun _ => FEnv) (fun b0 b1 b2 b3 b4 b5 b6 b7 b8 b9 b10 b11 b12 b13 b14 b15 => FEnv.mk (ls4 v b0) b1 b2 b3 b4 b5 b6 b7 b8 b9 b10 b11 b12 b13 b14 b15) e
noncomputable def D4 : FD := .at .n0 .n4 s4 fun _ _ => rfl
noncomputable def g5 (e : FEnv) : OV := FEnv.rec (motive := fun _ => OV) (fun b0 b1 b2 b3 b4 b5 b6 b7 b8 b9 b10 b11 b12 b13 b14 b15 => Leaf.rec (motive := fun _ => OV) (fun a0 a1 a2 a3 a4 a5 a6 a7 a8 a9 a10 a11 a12 a13 a14 a15 => a5) b0) e
noncomputable def T5 : FX := .t .n0 .n5 g5 fun _ => rfl
noncomputable def s5 (v : OV) (e : FEnv) : FEnv := FEnv.rec (motive := fun _ => FEnv) (fun b0 b1 b2 b3 b4 b5 b6 b7 b8 b9 b10 b11 b12 b13 b14 b15 => FEnv.mk (ls5 v b0) b1 b2 b3 b4 b5 b6 b7 b8 b9 b10 b11 b12 b13 b14 b15) e
noncomputable def D5 : FD := .at .n0 .n5 s5 fun _ _ => rfl
noncomputable def g6 (e : FEnv) : OV := FEnv.rec (motive := fun _ => OV) (fun b0 b1 b2 b3 b4 b5 b6 b7 b8 b9 b10 b11 b12 b13 b14 b15 => Leaf.rec (motive := fun _ => OV) (fun a0 a1 a2 a3 a4 a5 a6 a7 a8 a9 a10 a11 a12 a13 a14 a15 => a6) b0) e
noncomputable def T6 : FX := .t .n0 .n6 g6 fun _ => rfl
noncomputable def s6 (v : OV) (e : FEnv) : FEnv := FEnv.rec (motive := fun _ => FEnv) (fun b0 b1 b2 b3 b4 b5 b6 b7 b8 b9 b10 b11 b12 b13 b14 b15 => FEnv.mk (ls6 v b0) b1 b2 b3 b4 b5 b6 b7 b8 b9 b10 b11 b12 b13 b14 b15) e
noncomputable def D6 : FD := .at .n0 .n6 s6 fun _ _ => rfl
noncomputable def g7 (e : FEnv) : OV := FEnv.rec (motive := fun _ => OV) (fun b0 b1 b2 b3 b4 b5 b6 b7 b8 b9 b10 b11 b12 b13 b14 b15 => Leaf.rec (motive := fun _ => OV) (fun a0 a1 a2 a3 a4 a5 a6 a7 a8 a9 a10 a11 a12 a13 a14 a15 => a7) b0) e
noncomputable def T7 : FX := .t .n0 .n7 g7 fun _ => rfl
noncomputable def s7 (v : OV) (e : FEnv) : FEnv := FEnv.rec (motive := fun _ => FEnv) (fun b0 b1 b2 b3 b4 b5 b6 b7 b8 b9 b10 b11 b12 b13 b14 b15 => FEnv.mk (ls7 v b0) b1 b2 b3 b4 b5 b6 b7 b8 b9 b10 b11 b12 b13 b14 b15) e
noncomputable def D7 : FD := .at .n0 .n7 s7 fun _ _ => rfl
noncomputable def g8 (e : FEnv) : OV := FEnv.rec (motive := fun _ => OV) (fun b0 b1 b2 b3 b4 b5 b6 b7 b8 b9 b10 b11 b12 b13 b14 b15 => Leaf.rec (motive := fun _ => OV) (fun a0 a1 a2 a3 a4 a5 a6 a7 a8 a9 a10 a11 a12 a13 a14 a15 => a8) b0) e
noncomputable def T8 : FX := .t .n0 .n8 g8 fun _ => rfl
noncomputable def s8 (v : OV) (e : FEnv) : FEnv := FEnv.rec (motive := fun _ => FEnv) (fun b0 b1 b2 b3 b4 b5 b6 b7 b8 b9 b10 b11 b12 b13 b14 b15 => FEnv.mk (ls8 v b0) b1 b2 b3 b4 b5 b6 b7 b8 b9 b10 b11 b12 b13 b14 b15) e
noncomputable def D8 : FD := .at .n0 .n8 s8 fun _ _ => rfl
noncomputable def g9 (e : FEnv) : OV := FEnv.rec (motive := fun _ => OV) (fun b0 b1 b2 b3 b4 b5 b6 b7 b8 b9 b10 b11 b12 b13 b14 b15 => Leaf.rec (motive := fun _ => OV) (fun a0 a1 a2 a3 a4 a5 a6 a7 a8 a9 a10 a11 a12 a13 a14 a15 => a9) b0) e
noncomputable def T9 : FX := .t .n0 .n9 g9 fun _ => rfl
noncomputable def s9 (v : OV) (e : FEnv) : FEnv := FEnv.rec (motive := fun _ => FEnv) (fun b0 b1 b2 b3 b4 b5 b6 b7 b8 b9 b10 b11 b12 b13 b14 b15 => FEnv.mk (ls9 v b0) b1 b2 b3 b4 b5 b6 b7 b8 b9 b10 b11 b12 b13 b14 b15) e
noncomputable def D9 : FD := .at .n0 .n9 s9 fun _ _ => rfl
noncomputable def g10 (e : FEnv) : OV := FEnv.rec (motive := fun _ => OV) (fun b0 b1 b2 b3 b4 b5 b6 b7 b8 b9 b10 b11 b12 b13 b14 b15 => Leaf.rec (motive := fun _ => OV) (fun a0 a1 a2 a3 a4 a5 a6 a7 a8 a9 a10 a11 a12 a13 a14 a15 => a10) b0) e
noncomputable def T10 : FX := .t .n0 .n10 g10 fun _ => rfl
noncomputable def s10 (v : OV) (e : FEnv) : FEnv := FEnv.rec (motive := fun _ => FEnv) (fun b0 b1 b2 b3 b4 b5 b6 b7 b8 b9 b10 b11 b12 b13 b14 b15 => FEnv.mk (ls10 v b0) b1 b2 b3 b4 b5 b6 b7 b8 b9 b10 b11 b12 b13 b14 b15) e
noncomputable def D10 : FD := .at .n0 .n10 s10 fun _ _ => rfl
noncomputable def g11 (e : FEnv) : OV := FEnv.rec (motive := fun _ => OV) (fun b0 b1 b2 b3 b4 b5 b6 b7 b8 b9 b10 b11 b12 b13 b14 b15 => Leaf.rec (motive := fun _ => OV) (fun a0 a1 a2 a3 a4 a5 a6 a7 a8 a9 a10 a11 a12 a13 a14 a15 => a11) b0) e
noncomputable def T11 : FX := .t .n0 .n11 g11 fun _ => rfl
noncomputable def s11 (v : OV) (e : FEnv) : FEnv := FEnv.rec (motive := fun _ => FEnv) (fun b0 b1 b2 b3 b4 b5 b6 b7 b8 b9 b10 b11 b12 b13 b14 b15 => FEnv.mk (ls11 v b0) b1 b2 b3 b4 b5 b6 b7 b8 b9 b10 b11 b12 b13 b14 b15) e
noncomputable def D11 : FD := .at .n0 .n11 s11 fun _ _ => rfl
noncomputable def g12 (e : FEnv) : OV := FEnv.rec (motive := fun _ => OV) (fun b0 b1 b2 b3 b4 b5 b6 b7 b8 b9 b10 b11 b12 b13 b14 b15 => Leaf.rec (motive := fun _ => OV) (fun a0 a1 a2 a3 a4 a5 a6 a7 a8 a9 a10 a11 a12 a13 a14 a15 => a12) b0) e
noncomputable def T12 : FX := .t .n0 .n12 g12 fun _ => rfl
noncomputable def s12 (v : OV) (e : FEnv) : FEnv := FEnv.rec (motive := fun _ => FEnv) (fun b0 b1 b2 b3 b4 b5 b6 b7 b8 b9 b10 b11 b12 b13 b14 b15 => FEnv.mk (ls12 v b0) b1 b2 b3 b4 b5 b6 b7 b8 b9 b10 b11 b12 b13 b14 b15) e
noncomputable def D12 : FD := .at .n0 .n12 s12 fun _ _ => rfl
noncomputable def g13 (e : FEnv) : OV := FEnv.rec (motive := fun _ => OV) (fun b0 b1 b2 b3 b4 b5 b6 b7 b8 b9 b10 b11 b12 b13 b14 b15 => Leaf.rec (motive := fun _ => OV) (fun a0 a1 a2 a3 a4 a5 a6 a7 a8 a9 a10 a11 a12 a13 a14 a15 => a13) b0) e
noncomputable def T13 : FX := .t .n0 .n13 g13 fun _ => rfl
noncomputable def s13 (v : OV) (e : FEnv) : FEnv := FEnv.rec (motive := fun _ => FEnv) (fun b0 b1 b2 b3 b4 b5 b6 b7 b8 b9 b10 b11 b12 b13 b14 b15 => FEnv.mk (ls13 v b0) b1 b2 b3 b4 b5 b6 b7 b8 b9 b10 b11 b12 b13 b14 b15) e
noncomputable def D13 : FD := .at .n0 .n13 s13 fun _ _ => rfl
noncomputable def g14 (e : FEnv) : OV := FEnv.rec (motive := fun _ => OV) (fun b0 b1 b2 b3 b4 b5 b6 b7 b8 b9 b10 b11 b12 b13 b14 b15 => Leaf.rec (motive := fun _ => OV) (fun a0 a1 a2 a3 a4 a5 a6 a7 a8 a9 a10 a11 a12 a13 a14 a15 => a14) b0) e
noncomputable def T14 : FX := .t .n0 .n14 g14 fun _ => rfl
noncomputable def s14 (v : OV) (e : FEnv) : FEnv := FEnv.rec (motive := fun _ => FEnv) (fun b0 b1 b2 b3 b4 b5 b6 b7 b8 b9 b10 b11 b12 b13 b14 b15 => FEnv.mk (ls14 v b0) b1 b2 b3 b4 b5 b6 b7 b8 b9 b10 b11 b12 b13 b14 b15) e
noncomputable def D14 : FD := .at .n0 .n14 s14 fun _ _ => rfl
noncomputable def g15 (e : FEnv) : OV := FEnv.rec (motive := fun _ => OV) (fun b0 b1 b2 b3 b4 b5 b6 b7 b8 b9 b10 b11 b12 b13 b14 b15 => Leaf.rec (motive := fun _ => OV) (fun a0 a1 a2 a3 a4 a5 a6 a7 a8 a9 a10 a11 a12 a13 a14 a15 => a15) b0) e
noncomputable def T15 : FX := .t .n0 .n15 g15 fun _ => rfl
noncomputable def s15 (v : OV) (e : FEnv) : FEnv := FEnv.rec (motive := fun _ => FEnv) (fun b0 b1 b2 b3 b4 b5 b6 b7 b8 b9 b10 b11 b12 b13 b14 b15 => FEnv.mk (ls15 v b0) b1 b2 b3 b4 b5 b6 b7 b8 b9 b10 b11 b12 b13 b14 b15) e
noncomputable def D15 : FD := .at .n0 .n15 s15 fun _ _ => rfl
noncomputable def g16 (e : FEnv) : OV := FEnv.rec (motive := fun _ => OV) (fun b0 b1 b2 b3 b4 b5 b6 b7 b8 b9 b10 b11 b12 b13 b14 b15 => Leaf.rec (motive := fun _ => OV) (fun a0 a1 a2 a3 a4 a5 a6 a7 a8 a9 a10 a11 a12 a13 a14 a15 => a0) b1) e
noncomputable def T16 : FX := .t .n1 .n0 g16 fun _ => rfl
noncomputable def s16 (v : OV) (e : FEnv) : FEnv := FEnv.rec (motive := fun _ => FEnv) (fun b0 b1 b2 b3 b4 b5 b6 b7 b8 b9 b10 b11 b12 b13 b14 b15 => FEnv.mk b0 (ls0 v b1) b2 b3 b4 b5 b6 b7 b8 b9 b10 b11 b12 b13 b14 b15) e
noncomputable def D16 : FD := .at .n1 .n0 s16 fun _ _ => rfl
noncomputable def g17 (e : FEnv) : OV := FEnv.rec (motive := fun _ => OV) (fun b0 b1 b2 b3 b4 b5 b6 b7 b8 b9 b10 b11 b12 b13 b14 b15 => Leaf.rec (motive := fun _ => OV) (fun a0 a1 a2 a3 a4 a5 a6 a7 a8 a9 a10 a11 a12 a13 a14 a15 => a1) b1) e
noncomputable def T17 : FX := .t .n1 .n1 g17 fun _ => rfl
noncomputable def s17 (v : OV) (e : FEnv) : FEnv := FEnv.rec (motive := fun _ => FEnv) (fun b0 b1 b2 b3 b4 b5 b6 b7 b8 b9 b10 b11 b12 b13 b14 b15 => FEnv.mk b0 (ls1 v b1) b2 b3 b4 b5 b6 b7 b8 b9 b10 b11 b12 b13 b14 b15) e
noncomputable def D17 : FD := .at .n1 .n1 s17 fun _ _ => rfl
noncomputable def g18 (e : FEnv) : OV := FEnv.rec (motive := fun _ => OV) (fun b0 b1 b2 b3 b4 b5 b6 b7 b8 b9 b10 b11 b12 b13 b14 b15 => Leaf.rec (motive := fun _ => OV) (fun a0 a1 a2 a3 a4 a5 a6 a7 a8 a9 a10 a11 a12 a13 a14 a15 => a2) b1) e
noncomputable def T18 : FX := .t .n1 .n2 g18 fun _ => rfl
noncomputable def s18 (v : OV) (e : FEnv) : FEnv := FEnv.rec (motive := fun _ => FEnv) (fun b0 b1 b2 b3 b4 b5 b6 b7 b8 b9 b10 b11 b12 b13 b14 b15 => FEnv.mk b0 (ls2 v b1) b2 b3 b4 b5 b6 b7 b8 b9 b10 b11 b12 b13 b14 b15) e
noncomputable def D18 : FD := .at .n1 .n2 s18 fun _ _ => rfl
noncomputable def g19 (e : FEnv) : OV := FEnv.rec (motive := fun _ => OV) (fun b0 b1 b2 b3 b4 b5 b6 b7 b8 b9 b10 b11 b12 b13 b14 b15 => Leaf.rec (motive := fun _ => OV) (fun a0 a1 a2 a3 a4 a5 a6 a7 a8 a9 a10 a11 a12 a13 a14 a15 => a3) b1) e
noncomputable def T19 : FX := .t .n1 .n3 g19 fun _ => rfl
noncomputable def s19 (v : OV) (e : FEnv) : FEnv := FEnv.rec (motive := fun _ => FEnv) (fun b0 b1 b2 b3 b4 b5 b6 b7 b8 b9 b10 b11 b12 b13 b14 b15 => FEnv.mk b0 (ls3 v b1) b2 b3 b4 b5 b6 b7 b8 b9 b10 b11 b12 b13 b14 b15) e
noncomputable def D19 : FD := .at .n1 .n3 s19 fun _ _ => rfl
noncomputable def g20 (e : FEnv) : OV := FEnv.rec (motive := fun _ => OV) (fun b0 b1 b2 b3 b4 b5 b6 b7 b8 b9 b10 b11 b12 b13 b14 b15 => Leaf.rec (motive := fun _ => OV) (fun a0 a1 a2 a3 a4 a5 a6 a7 a8 a9 a10 a11 a12 a13 a14 a15 => a4) b1) e
noncomputable def T20 : FX := .t .n1 .n4 g20 fun _ => rfl
noncomputable def s20 (v : OV) (e : FEnv) : FEnv := FEnv.rec (motive := fun _ => FEnv) (fun b0 b1 b2 b3 b4 b5 b6 b7 b8 b9 b10 b11 b12 b13 b14 b15 => FEnv.mk b0 (ls4 v b1) b2 b3 b4 b5 b6 b7 b8 b9 b10 b11 b12 b13 b14 b15) e
noncomputable def D20 : FD := .at .n1 .n4 s20 fun _ _ => rfl
noncomputable def g21 (e : FEnv) : OV := FEnv.rec (motive := fun _ => OV) (fun b0 b1 b2 b3 b4 b5 b6 b7 b8 b9 b10 b11 b12 b13 b14 b15 => Leaf.rec (motive := fun _ => OV) (fun a0 a1 a2 a3 a4 a5 a6 a7 a8 a9 a10 a11 a12 a13 a14 a15 => a5) b1) e
noncomputable def T21 : FX := .t .n1 .n5 g21 fun _ => rfl
noncomputable def s21 (v : OV) (e : FEnv) : FEnv := FEnv.rec (motive := fun _ => FEnv) (fun b0 b1 b2 b3 b4 b5 b6 b7 b8 b9 b10 b11 b12 b13 b14 b15 => FEnv.mk b0 (ls5 v b1) b2 b3 b4 b5 b6 b7 b8 b9 b10 b11 b12 b13 b14 b15) e
noncomputable def D21 : FD := .at .n1 .n5 s21 fun _ _ => rfl
noncomputable def g22 (e : FEnv) : OV := FEnv.rec (motive := fun _ => OV) (fun b0 b1 b2 b3 b4 b5 b6 b7 b8 b9 b10 b11 b12 b13 b14 b15 => Leaf.rec (motive := fun _ => OV) (fun a0 a1 a2 a3 a4 a5 a6 a7 a8 a9 a10 a11 a12 a13 a14 a15 => a6) b1) e
noncomputable def T22 : FX := .t .n1 .n6 g22 fun _ => rfl
noncomputable def s22 (v : OV) (e : FEnv) : FEnv := FEnv.rec (motive := fun _ => FEnv) (fun b0 b1 b2 b3 b4 b5 b6 b7 b8 b9 b10 b11 b12 b13 b14 b15 => FEnv.mk b0 (ls6 v b1) b2 b3 b4 b5 b6 b7 b8 b9 b10 b11 b12 b13 b14 b15) e
noncomputable def D22 : FD := .at .n1 .n6 s22 fun _ _ => rfl
noncomputable def g23 (e : FEnv) : OV := FEnv.rec (motive := fun _ => OV) (fun b0 b1 b2 b3 b4 b5 b6 b7 b8 b9 b10 b11 b12 b13 b14 b15 => Leaf.rec (motive := fun _ => OV) (fun a0 a1 a2 a3 a4 a5 a6 a7 a8 a9 a10 a11 a12 a13 a14 a15 => a7) b1) e
noncomputable def T23 : FX := .t .n1 .n7 g23 fun _ => rfl
noncomputable def s23 (v : OV) (e : FEnv) : FEnv := FEnv.rec (motive := fun _ => FEnv) (fun b0 b1 b2 b3 b4 b5 b6 b7 b8 b9 b10 b11 b12 b13 b14 b15 => FEnv.mk b0 (ls7 v b1) b2 b3 b4 b5 b6 b7 b8 b9 b10 b11 b12 b13 b14 b15) e
noncomputable def D23 : FD := .at .n1 .n7 s23 fun _ _ => rfl
noncomputable def g24 (e : FEnv) : OV := FEnv.rec (motive := fun _ => OV) (fun b0 b1 b2 b3 b4 b5 b6 b7 b8 b9 b10 b11 b12 b13 b14 b15 => Leaf.rec (motive := fun _ => OV) (fun a0 a1 a2 a3 a4 a5 a6 a7 a8 a9 a10 a11 a12 a13 a14 a15 => a8) b1) e
noncomputable def T24 : FX := .t .n1 .n8 g24 fun _ => rfl
noncomputable def s24 (v : OV) (e : FEnv) : FEnv := FEnv.rec (motive := fun _ => FEnv) (fun b0 b1 b2 b3 b4 b5 b6 b7 b8 b9 b10 b11 b12 b13 b14 b15 => FEnv.mk b0 (ls8 v b1) b2 b3 b4 b5 b6 b7 b8 b9 b10 b11 b12 b13 b14 b15) e
noncomputable def D24 : FD := .at .n1 .n8 s24 fun _ _ => rfl
noncomputable def g25 (e : FEnv) : OV := FEnv.rec (motive := fun _ => OV) (fun b0 b1 b2 b3 b4 b5 b6 b7 b8 b9 b10 b11 b12 b13 b14 b15 => Leaf.rec (motive := fun _ => OV) (fun a0 a1 a2 a3 a4 a5 a6 a7 a8 a9 a10 a11 a12 a13 a14 a15 => a9) b1) e
noncomputable def T25 : FX := .t .n1 .n9 g25 fun _ => rfl
noncomputable def s25 (v : OV) (e : FEnv) : FEnv := FEnv.rec (motive := fun _ => FEnv) (fun b0 b1 b2 b3 b4 b5 b6 b7 b8 b9 b10 b11 b12 b13 b14 b15 => FEnv.mk b0 (ls9 v b1) b2 b3 b4 b5 b6 b7 b8 b9 b10 b11 b12 b13 b14 b15) e
noncomputable def D25 : FD := .at .n1 .n9 s25 fun _ _ => rfl
noncomputable def g26 (e : FEnv) : OV := FEnv.rec (motive := fun _ => OV) (fun b0 b1 b2 b3 b4 b5 b6 b7 b8 b9 b10 b11 b12 b13 b14 b15 => Leaf.rec (motive := fun _ => OV) (fun a0 a1 a2 a3 a4 a5 a6 a7 a8 a9 a10 a11 a12 a13 a14 a15 => a10) b1) e
noncomputable def T26 : FX := .t .n1 .n10 g26 fun _ => rfl
noncomputable def s26 (v : OV) (e : FEnv) : FEnv := FEnv.rec (motive := fun _ => FEnv) (fun b0 b1 b2 b3 b4 b5 b6 b7 b8 b9 b10 b11 b12 b13 b14 b15 => FEnv.mk b0 (ls10 v b1) b2 b3 b4 b5 b6 b7 b8 b9 b10 b11 b12 b13 b14 b15) e
noncomputable def D26 : FD := .at .n1 .n10 s26 fun _ _ => rfl
noncomputable def g27 (e : FEnv) : OV := FEnv.rec (motive := fun _ => OV) (fun b0 b1 b2 b3 b4 b5 b6 b7 b8 b9 b10 b11 b12 b13 b14 b15 => Leaf.rec (motive := fun _ => OV) (fun a0 a1 a2 a3 a4 a5 a6 a7 a8 a9 a10 a11 a12 a13 a14 a15 => a11) b1) e
noncomputable def T27 : FX := .t .n1 .n11 g27 fun _ => rfl
noncomputable def s27 (v : OV) (e : FEnv) : FEnv := FEnv.rec (motive := fun _ => FEnv) (fun b0 b1 b2 b3 b4 b5 b6 b7 b8 b9 b10 b11 b12 b13 b14 b15 => FEnv.mk b0 (ls11 v b1) b2 b3 b4 b5 b6 b7 b8 b9 b10 b11 b12 b13 b14 b15) e
noncomputable def D27 : FD := .at .n1 .n11 s27 fun _ _ => rfl
noncomputable def g28 (e : FEnv) : OV := FEnv.rec (motive := fun _ => OV) (fun b0 b1 b2 b3 b4 b5 b6 b7 b8 b9 b10 b11 b12 b13 b14 b15 => Leaf.rec (motive := fun _ => OV) (fun a0 a1 a2 a3 a4 a5 a6 a7 a8 a9 a10 a11 a12 a13 a14 a15 => a12) b1) e
noncomputable def T28 : FX := .t .n1 .n12 g28 fun _ => rfl
noncomputable def s28 (v : OV) (e : FEnv) : FEnv := FEnv.rec (motive := fun _ => FEnv) (fun b0 b1 b2 b3 b4 b5 b6 b7 b8 b9 b10 b11 b12 b13 b14 b15 => FEnv.mk b0 (ls12 v b1) b2 b3 b4 b5 b6 b7 b8 b9 b10 b11 b12 b13 b14 b15) e
noncomputable def D28 : FD := .at .n1 .n12 s28 fun _ _ => rfl
noncomputable def g29 (e : FEnv) : OV := FEnv.rec (motive := fun _ => OV) (fun b0 b1 b2 b3 b4 b5 b6 b7 b8 b9 b10 b11 b12 b13 b14 b15 => Leaf.rec (motive := fun _ => OV) (fun a0 a1 a2 a3 a4 a5 a6 a7 a8 a9 a10 a11 a12 a13 a14 a15 => a13) b1) e
noncomputable def T29 : FX := .t .n1 .n13 g29 fun _ => rfl
noncomputable def s29 (v : OV) (e : FEnv) : FEnv := FEnv.rec (motive := fun _ => FEnv) (fun b0 b1 b2 b3 b4 b5 b6 b7 b8 b9 b10 b11 b12 b13 b14 b15 => FEnv.mk b0 (ls13 v b1) b2 b3 b4 b5 b6 b7 b8 b9 b10 b11 b12 b13 b14 b15) e
noncomputable def D29 : FD := .at .n1 .n13 s29 fun _ _ => rfl
noncomputable def g30 (e : FEnv) : OV := FEnv.rec (motive := fun _ => OV) (fun b0 b1 b2 b3 b4 b5 b6 b7 b8 b9 b10 b11 b12 b13 b14 b15 => Leaf.rec (motive := fun _ => OV) (fun a0 a1 a2 a3 a4 a5 a6 a7 a8 a9 a10 a11 a12 a13 a14 a15 => a14) b1) e
noncomputable def T30 : FX := .t .n1 .n14 g30 fun _ => rfl
noncomputable def s30 (v : OV) (e : FEnv) : FEnv := FEnv.rec (motive := fun _ => FEnv) (fun b0 b1 b2 b3 b4 b5 b6 b7 b8 b9 b10 b11 b12 b13 b14 b15 => FEnv.mk b0 (ls14 v b1) b2 b3 b4 b5 b6 b7 b8 b9 b10 b11 b12 b13 b14 b15) e
noncomputable def D30 : FD := .at .n1 .n14 s30 fun _ _ => rfl
noncomputable def g31 (e : FEnv) : OV := FEnv.rec (motive := fun _ => OV) (fun b0 b1 b2 b3 b4 b5 b6 b7 b8 b9 b10 b11 b12 b13 b14 b15 => Leaf.rec (motive := fun _ => OV) (fun a0 a1 a2 a3 a4 a5 a6 a7 a8 a9 a10 a11 a12 a13 a14 a15 => a15) b1) e
noncomputable def T31 : FX := .t .n1 .n15 g31 fun _ => rfl
noncomputable def s31 (v : OV) (e : FEnv) : FEnv := FEnv.rec (motive := fun _ => FEnv) (fun b0 b1 b2 b3 b4 b5 b6 b7 b8 b9 b10 b11 b12 b13 b14 b15 => FEnv.mk b0 (ls15 v b1) b2 b3 b4 b5 b6 b7 b8 b9 b10 b11 b12 b13 b14 b15) e
noncomputable def D31 : FD := .at .n1 .n15 s31 fun _ _ => rfl
noncomputable def g32 (e : FEnv) : OV := FEnv.rec (motive := fun _ => OV) (fun b0 b1 b2 b3 b4 b5 b6 b7 b8 b9 b10 b11 b12 b13 b14 b15 => Leaf.rec (motive := fun _ => OV) (fun a0 a1 a2 a3 a4 a5 a6 a7 a8 a9 a10 a11 a12 a13 a14 a15 => a0) b2) e
noncomputable def T32 : FX := .t .n2 .n0 g32 fun _ => rfl
noncomputable def s32 (v : OV) (e : FEnv) : FEnv := FEnv.rec (motive := fun _ => FEnv) (fun b0 b1 b2 b3 b4 b5 b6 b7 b8 b9 b10 b11 b12 b13 b14 b15 => FEnv.mk b0 b1 (ls0 v b2) b3 b4 b5 b6 b7 b8 b9 b10 b11 b12 b13 b14 b15) e
noncomputable def D32 : FD := .at .n2 .n0 s32 fun _ _ => rfl
noncomputable def g33 (e : FEnv) : OV := FEnv.rec (motive := fun _ => OV) (fun b0 b1 b2 b3 b4 b5 b6 b7 b8 b9 b10 b11 b12 b13 b14 b15 => Leaf.rec (motive := fun _ => OV) (fun a0 a1 a2 a3 a4 a5 a6 a7 a8 a9 a10 a11 a12 a13 a14 a15 => a1) b2) e
noncomputable def T33 : FX := .t .n2 .n1 g33 fun _ => rfl
noncomputable def s33 (v : OV) (e : FEnv) : FEnv := FEnv.rec (motive := fun _ => FEnv) (fun b0 b1 b2 b3 b4 b5 b6 b7 b8 b9 b10 b11 b12 b13 b14 b15 => FEnv.mk b0 b1 (ls1 v b2) b3 b4 b5 b6 b7 b8 b9 b10 b11 b12 b13 b14 b15) e
noncomputable def D33 : FD := .at .n2 .n1 s33 fun _ _ => rfl
noncomputable def g34 (e : FEnv) : OV := FEnv.rec (motive := fun _ => OV) (fun b0 b1 b2 b3 b4 b5 b6 b7 b8 b9 b10 b11 b12 b13 b14 b15 => Leaf.rec (motive := fun _ => OV) (fun a0 a1 a2 a3 a4 a5 a6 a7 a8 a9 a10 a11 a12 a13 a14 a15 => a2) b2) e
noncomputable def T34 : FX := .t .n2 .n2 g34 fun _ => rfl
noncomputable def s34 (v : OV) (e : FEnv) : FEnv := FEnv.rec (motive := fun _ => FEnv) (fun b0 b1 b2 b3 b4 b5 b6 b7 b8 b9 b10 b11 b12 b13 b14 b15 => FEnv.mk b0 b1 (ls2 v b2) b3 b4 b5 b6 b7 b8 b9 b10 b11 b12 b13 b14 b15) e
noncomputable def D34 : FD := .at .n2 .n2 s34 fun _ _ => rfl
noncomputable def g35 (e : FEnv) : OV := FEnv.rec (motive := fun _ => OV) (fun b0 b1 b2 b3 b4 b5 b6 b7 b8 b9 b10 b11 b12 b13 b14 b15 => Leaf.rec (motive := fun _ => OV) (fun a0 a1 a2 a3 a4 a5 a6 a7 a8 a9 a10 a11 a12 a13 a14 a15 => a3) b2) e
noncomputable def T35 : FX := .t .n2 .n3 g35 fun _ => rfl
noncomputable def s35 (v : OV) (e : FEnv) : FEnv := FEnv.rec (motive := fun _ => FEnv) (fun b0 b1 b2 b3 b4 b5 b6 b7 b8 b9 b10 b11 b12 b13 b14 b15 => FEnv.mk b0 b1 (ls3 v b2) b3 b4 b5 b6 b7 b8 b9 b10 b11 b12 b13 b14 b15) e
noncomputable def D35 : FD := .at .n2 .n3 s35 fun _ _ => rfl
noncomputable def g36 (e : FEnv) : OV := FEnv.rec (motive := fun _ => OV) (fun b0 b1 b2 b3 b4 b5 b6 b7 b8 b9 b10 b11 b12 b13 b14 b15 => Leaf.rec (motive := fun _ => OV) (fun a0 a1 a2 a3 a4 a5 a6 a7 a8 a9 a10 a11 a12 a13 a14 a15 => a4) b2) e
noncomputable def T36 : FX := .t .n2 .n4 g36 fun _ => rfl
noncomputable def s36 (v : OV) (e : FEnv) : FEnv := FEnv.rec (motive := fun _ => FEnv) (fun b0 b1 b2 b3 b4 b5 b6 b7 b8 b9 b10 b11 b12 b13 b14 b15 => FEnv.mk b0 b1 (ls4 v b2) b3 b4 b5 b6 b7 b8 b9 b10 b11 b12 b13 b14 b15) e
noncomputable def D36 : FD := .at .n2 .n4 s36 fun _ _ => rfl
noncomputable def g37 (e : FEnv) : OV := FEnv.rec (motive := fun _ => OV) (fun b0 b1 b2 b3 b4 b5 b6 b7 b8 b9 b10 b11 b12 b13 b14 b15 => Leaf.rec (motive := fun _ => OV) (fun a0 a1 a2 a3 a4 a5 a6 a7 a8 a9 a10 a11 a12 a13 a14 a15 => a5) b2) e
noncomputable def T37 : FX := .t .n2 .n5 g37 fun _ => rfl
noncomputable def s37 (v : OV) (e : FEnv) : FEnv := FEnv.rec (motive := fun _ => FEnv) (fun b0 b1 b2 b3 b4 b5 b6 b7 b8 b9 b10 b11 b12 b13 b14 b15 => FEnv.mk b0 b1 (ls5 v b2) b3 b4 b5 b6 b7 b8 b9 b10 b11 b12 b13 b14 b15) e
noncomputable def D37 : FD := .at .n2 .n5 s37 fun _ _ => rfl
noncomputable def g38 (e : FEnv) : OV := FEnv.rec (motive := fun _ => OV) (fun b0 b1 b2 b3 b4 b5 b6 b7 b8 b9 b10 b11 b12 b13 b14 b15 => Leaf.rec (motive := fun _ => OV) (fun a0 a1 a2 a3 a4 a5 a6 a7 a8 a9 a10 a11 a12 a13 a14 a15 => a6) b2) e
noncomputable def T38 : FX := .t .n2 .n6 g38 fun _ => rfl
noncomputable def s38 (v : OV) (e : FEnv) : FEnv := FEnv.rec (motive := fun _ => FEnv) (fun b0 b1 b2 b3 b4 b5 b6 b7 b8 b9 b10 b11 b12 b13 b14 b15 => FEnv.mk b0 b1 (ls6 v b2) b3 b4 b5 b6 b7 b8 b9 b10 b11 b12 b13 b14 b15) e
noncomputable def D38 : FD := .at .n2 .n6 s38 fun _ _ => rfl
noncomputable def g39 (e : FEnv) : OV := FEnv.rec (motive := fun _ => OV) (fun b0 b1 b2 b3 b4 b5 b6 b7 b8 b9 b10 b11 b12 b13 b14 b15 => Leaf.rec (motive := fun _ => OV) (fun a0 a1 a2 a3 a4 a5 a6 a7 a8 a9 a10 a11 a12 a13 a14 a15 => a7) b2) e
noncomputable def T39 : FX := .t .n2 .n7 g39 fun _ => rfl
noncomputable def s39 (v : OV) (e : FEnv) : FEnv := FEnv.rec (motive := fun _ => FEnv) (fun b0 b1 b2 b3 b4 b5 b6 b7 b8 b9 b10 b11 b12 b13 b14 b15 => FEnv.mk b0 b1 (ls7 v b2) b3 b4 b5 b6 b7 b8 b9 b10 b11 b12 b13 b14 b15) e
noncomputable def D39 : FD := .at .n2 .n7 s39 fun _ _ => rfl
noncomputable def g40 (e : FEnv) : OV := FEnv.rec (motive := fun _ => OV) (fun b0 b1 b2 b3 b4 b5 b6 b7 b8 b9 b10 b11 b12 b13 b14 b15 => Leaf.rec (motive := fun _ => OV) (fun a0 a1 a2 a3 a4 a5 a6 a7 a8 a9 a10 a11 a12 a13 a14 a15 => a8) b2) e
noncomputable def T40 : FX := .t .n2 .n8 g40 fun _ => rfl
noncomputable def s40 (v : OV) (e : FEnv) : FEnv := FEnv.rec (motive := fun _ => FEnv) (fun b0 b1 b2 b3 b4 b5 b6 b7 b8 b9 b10 b11 b12 b13 b14 b15 => FEnv.mk b0 b1 (ls8 v b2) b3 b4 b5 b6 b7 b8 b9 b10 b11 b12 b13 b14 b15) e
noncomputable def D40 : FD := .at .n2 .n8 s40 fun _ _ => rfl
noncomputable def g41 (e : FEnv) : OV := FEnv.rec (motive := fun _ => OV) (fun b0 b1 b2 b3 b4 b5 b6 b7 b8 b9 b10 b11 b12 b13 b14 b15 => Leaf.rec (motive := fun _ => OV) (fun a0 a1 a2 a3 a4 a5 a6 a7 a8 a9 a10 a11 a12 a13 a14 a15 => a9) b2) e
noncomputable def T41 : FX := .t .n2 .n9 g41 fun _ => rfl
noncomputable def s41 (v : OV) (e : FEnv) : FEnv := FEnv.rec (motive := fun _ => FEnv) (fun b0 b1 b2 b3 b4 b5 b6 b7 b8 b9 b10 b11 b12 b13 b14 b15 => FEnv.mk b0 b1 (ls9 v b2) b3 b4 b5 b6 b7 b8 b9 b10 b11 b12 b13 b14 b15) e
noncomputable def D41 : FD := .at .n2 .n9 s41 fun _ _ => rfl
noncomputable def g42 (e : FEnv) : OV := FEnv.rec (motive := fun _ => OV) (fun b0 b1 b2 b3 b4 b5 b6 b7 b8 b9 b10 b11 b12 b13 b14 b15 => Leaf.rec (motive := fun _ => OV) (fun a0 a1 a2 a3 a4 a5 a6 a7 a8 a9 a10 a11 a12 a13 a14 a15 => a10) b2) e
noncomputable def T42 : FX := .t .n2 .n10 g42 fun _ => rfl
noncomputable def s42 (v : OV) (e : FEnv) : FEnv := FEnv.rec (motive := fun _ => FEnv) (fun b0 b1 b2 b3 b4 b5 b6 b7 b8 b9 b10 b11 b12 b13 b14 b15 => FEnv.mk b0 b1 (ls10 v b2) b3 b4 b5 b6 b7 b8 b9 b10 b11 b12 b13 b14 b15) e
noncomputable def D42 : FD := .at .n2 .n10 s42 fun _ _ => rfl
noncomputable def g43 (e : FEnv) : OV := FEnv.rec (motive := fun _ => OV) (fun b0 b1 b2 b3 b4 b5 b6 b7 b8 b9 b10 b11 b12 b13 b14 b15 => Leaf.rec (motive := fun _ => OV) (fun a0 a1 a2 a3 a4 a5 a6 a7 a8 a9 a10 a11 a12 a13 a14 a15 => a11) b2) e
noncomputable def T43 : FX := .t .n2 .n11 g43 fun _ => rfl
noncomputable def s43 (v : OV) (e : FEnv) : FEnv := FEnv.rec (motive := fun _ => FEnv) (fun b0 b1 b2 b3 b4 b5 b6 b7 b8 b9 b10 b11 b12 b13 b14 b15 => FEnv.mk b0 b1 (ls11 v b2) b3 b4 b5 b6 b7 b8 b9 b10 b11 b12 b13 b14 b15) e
noncomputable def D43 : FD := .at .n2 .n11 s43 fun _ _ => rfl
noncomputable def g44 (e : FEnv) : OV := FEnv.rec (motive := fun _ => OV) (fun b0 b1 b2 b3 b4 b5 b6 b7 b8 b9 b10 b11 b12 b13 b14 b15 => Leaf.rec (motive := fun _ => OV) (fun a0 a1 a2 a3 a4 a5 a6 a7 a8 a9 a10 a11 a12 a13 a14 a15 => a12) b2) e
noncomputable def T44 : FX := .t .n2 .n12 g44 fun _ => rfl
noncomputable def s44 (v : OV) (e : FEnv) : FEnv := FEnv.rec (motive := fun _ => FEnv) (fun b0 b1 b2 b3 b4 b5 b6 b7 b8 b9 b10 b11 b12 b13 b14 b15 => FEnv.mk b0 b1 (ls12 v b2) b3 b4 b5 b6 b7 b8 b9 b10 b11 b12 b13 b14 b15) e
noncomputable def D44 : FD := .at .n2 .n12 s44 fun _ _ => rfl
noncomputable def g45 (e : FEnv) : OV := FEnv.rec (motive := fun _ => OV) (fun b0 b1 b2 b3 b4 b5 b6 b7 b8 b9 b10 b11 b12 b13 b14 b15 => Leaf.rec (motive := fun _ => OV) (fun a0 a1 a2 a3 a4 a5 a6 a7 a8 a9 a10 a11 a12 a13 a14 a15 => a13) b2) e
noncomputable def T45 : FX := .t .n2 .n13 g45 fun _ => rfl
noncomputable def s45 (v : OV) (e : FEnv) : FEnv := FEnv.rec (motive := fun _ => FEnv) (fun b0 b1 b2 b3 b4 b5 b6 b7 b8 b9 b10 b11 b12 b13 b14 b15 => FEnv.mk b0 b1 (ls13 v b2) b3 b4 b5 b6 b7 b8 b9 b10 b11 b12 b13 b14 b15) e
noncomputable def D45 : FD := .at .n2 .n13 s45 fun _ _ => rfl
noncomputable def g46 (e : FEnv) : OV := FEnv.rec (motive := fun _ => OV) (fun b0 b1 b2 b3 b4 b5 b6 b7 b8 b9 b10 b11 b12 b13 b14 b15 => Leaf.rec (motive := fun _ => OV) (fun a0 a1 a2 a3 a4 a5 a6 a7 a8 a9 a10 a11 a12 a13 a14 a15 => a14) b2) e
noncomputable def T46 : FX := .t .n2 .n14 g46 fun _ => rfl
noncomputable def s46 (v : OV) (e : FEnv) : FEnv := FEnv.rec (motive := fun _ => FEnv) (fun b0 b1 b2 b3 b4 b5 b6 b7 b8 b9 b10 b11 b12 b13 b14 b15 => FEnv.mk b0 b1 (ls14 v b2) b3 b4 b5 b6 b7 b8 b9 b10 b11 b12 b13 b14 b15) e
noncomputable def D46 : FD := .at .n2 .n14 s46 fun _ _ => rfl
noncomputable def g47 (e : FEnv) : OV := FEnv.rec (motive := fun _ => OV) (fun b0 b1 b2 b3 b4 b5 b6 b7 b8 b9 b10 b11 b12 b13 b14 b15 => Leaf.rec (motive := fun _ => OV) (fun a0 a1 a2 a3 a4 a5 a6 a7 a8 a9 a10 a11 a12 a13 a14 a15 => a15) b2) e
noncomputable def T47 : FX := .t .n2 .n15 g47 fun _ => rfl
noncomputable def s47 (v : OV) (e : FEnv) : FEnv := FEnv.rec (motive := fun _ => FEnv) (fun b0 b1 b2 b3 b4 b5 b6 b7 b8 b9 b10 b11 b12 b13 b14 b15 => FEnv.mk b0 b1 (ls15 v b2) b3 b4 b5 b6 b7 b8 b9 b10 b11 b12 b13 b14 b15) e
noncomputable def D47 : FD := .at .n2 .n15 s47 fun _ _ => rfl
noncomputable def g48 (e : FEnv) : OV := FEnv.rec (motive := fun _ => OV) (fun b0 b1 b2 b3 b4 b5 b6 b7 b8 b9 b10 b11 b12 b13 b14 b15 => Leaf.rec (motive := fun _ => OV) (fun a0 a1 a2 a3 a4 a5 a6 a7 a8 a9 a10 a11 a12 a13 a14 a15 => a0) b3) e
noncomputable def T48 : FX := .t .n3 .n0 g48 fun _ => rfl
noncomputable def s48 (v : OV) (e : FEnv) : FEnv := FEnv.rec (motive := fun _ => FEnv) (fun b0 b1 b2 b3 b4 b5 b6 b7 b8 b9 b10 b11 b12 b13 b14 b15 => FEnv.mk b0 b1 b2 (ls0 v b3) b4 b5 b6 b7 b8 b9 b10 b11 b12 b13 b14 b15) e
noncomputable def D48 : FD := .at .n3 .n0 s48 fun _ _ => rfl
noncomputable def g49 (e : FEnv) : OV := FEnv.rec (motive := fun _ => OV) (fun b0 b1 b2 b3 b4 b5 b6 b7 b8 b9 b10 b11 b12 b13 b14 b15 => Leaf.rec (motive := fun _ => OV) (fun a0 a1 a2 a3 a4 a5 a6 a7 a8 a9 a10 a11 a12 a13 a14 a15 => a1) b3) e
noncomputable def T49 : FX := .t .n3 .n1 g49 fun _ => rfl
noncomputable def s49 (v : OV) (e : FEnv) : FEnv := FEnv.rec (motive := fun _ => FEnv) (fun b0 b1 b2 b3 b4 b5 b6 b7 b8 b9 b10 b11 b12 b13 b14 b15 => FEnv.mk b0 b1 b2 (ls1 v b3) b4 b5 b6 b7 b8 b9 b10 b11 b12 b13 b14 b15) e
noncomputable def D49 : FD := .at .n3 .n1 s49 fun _ _ => rfl
noncomputable def g50 (e : FEnv) : OV := FEnv.rec (motive := fun _ => OV) (fun b0 b1 b2 b3 b4 b5 b6 b7 b8 b9 b10 b11 b12 b13 b14 b15 => Leaf.rec (motive := fun _ => OV) (fun a0 a1 a2 a3 a4 a5 a6 a7 a8 a9 a10 a11 a12 a13 a14 a15 => a2) b3) e
noncomputable def T50 : FX := .t .n3 .n2 g50 fun _ => rfl
noncomputable def s50 (v : OV) (e : FEnv) : FEnv := FEnv.rec (motive := fun _ => FEnv) (fun b0 b1 b2 b3 b4 b5 b6 b7 b8 b9 b10 b11 b12 b13 b14 b15 => FEnv.mk b0 b1 b2 (ls2 v b3) b4 b5 b6 b7 b8 b9 b10 b11 b12 b13 b14 b15) e
noncomputable def D50 : FD := .at .n3 .n2 s50 fun _ _ => rfl
noncomputable def g51 (e : FEnv) : OV := FEnv.rec (motive := fun _ => OV) (fun b0 b1 b2 b3 b4 b5 b6 b7 b8 b9 b10 b11 b12 b13 b14 b15 => Leaf.rec (motive := fun _ => OV) (fun a0 a1 a2 a3 a4 a5 a6 a7 a8 a9 a10 a11 a12 a13 a14 a15 => a3) b3) e
noncomputable def T51 : FX := .t .n3 .n3 g51 fun _ => rfl
noncomputable def s51 (v : OV) (e : FEnv) : FEnv := FEnv.rec (motive := fun _ => FEnv) (fun b0 b1 b2 b3 b4 b5 b6 b7 b8 b9 b10 b11 b12 b13 b14 b15 => FEnv.mk b0 b1 b2 (ls3 v b3) b4 b5 b6 b7 b8 b9 b10 b11 b12 b13 b14 b15) e
noncomputable def D51 : FD := .at .n3 .n3 s51 fun _ _ => rfl
noncomputable def g52 (e : FEnv) : OV := FEnv.rec (motive := fun _ => OV) (fun b0 b1 b2 b3 b4 b5 b6 b7 b8 b9 b10 b11 b12 b13 b14 b15 => Leaf.rec (motive := fun _ => OV) (fun a0 a1 a2 a3 a4 a5 a6 a7 a8 a9 a10 a11 a12 a13 a14 a15 => a4) b3) e
noncomputable def T52 : FX := .t .n3 .n4 g52 fun _ => rfl
noncomputable def s52 (v : OV) (e : FEnv) : FEnv := FEnv.rec (motive := fun _ => FEnv) (fun b0 b1 b2 b3 b4 b5 b6 b7 b8 b9 b10 b11 b12 b13 b14 b15 => FEnv.mk b0 b1 b2 (ls4 v b3) b4 b5 b6 b7 b8 b9 b10 b11 b12 b13 b14 b15) e
noncomputable def D52 : FD := .at .n3 .n4 s52 fun _ _ => rfl
noncomputable def g53 (e : FEnv) : OV := FEnv.rec (motive := fun _ => OV) (fun b0 b1 b2 b3 b4 b5 b6 b7 b8 b9 b10 b11 b12 b13 b14 b15 => Leaf.rec (motive := fun _ => OV) (fun a0 a1 a2 a3 a4 a5 a6 a7 a8 a9 a10 a11 a12 a13 a14 a15 => a5) b3) e
noncomputable def T53 : FX := .t .n3 .n5 g53 fun _ => rfl
noncomputable def s53 (v : OV) (e : FEnv) : FEnv := FEnv.rec (motive := fun _ => FEnv) (fun b0 b1 b2 b3 b4 b5 b6 b7 b8 b9 b10 b11 b12 b13 b14 b15 => FEnv.mk b0 b1 b2 (ls5 v b3) b4 b5 b6 b7 b8 b9 b10 b11 b12 b13 b14 b15) e
noncomputable def D53 : FD := .at .n3 .n5 s53 fun _ _ => rfl
noncomputable def g54 (e : FEnv) : OV := FEnv.rec (motive := fun _ => OV) (fun b0 b1 b2 b3 b4 b5 b6 b7 b8 b9 b10 b11 b12 b13 b14 b15 => Leaf.rec (motive := fun _ => OV) (fun a0 a1 a2 a3 a4 a5 a6 a7 a8 a9 a10 a11 a12 a13 a14 a15 => a6) b3) e
noncomputable def T54 : FX := .t .n3 .n6 g54 fun _ => rfl
noncomputable def s54 (v : OV) (e : FEnv) : FEnv := FEnv.rec (motive := fun _ => FEnv) (fun b0 b1 b2 b3 b4 b5 b6 b7 b8 b9 b10 b11 b12 b13 b14 b15 => FEnv.mk b0 b1 b2 (ls6 v b3) b4 b5 b6 b7 b8 b9 b10 b11 b12 b13 b14 b15) e
noncomputable def D54 : FD := .at .n3 .n6 s54 fun _ _ => rfl
noncomputable def g55 (e : FEnv) : OV := FEnv.rec (motive := fun _ => OV) (fun b0 b1 b2 b3 b4 b5 b6 b7 b8 b9 b10 b11 b12 b13 b14 b15 => Leaf.rec (motive := fun _ => OV) (fun a0 a1 a2 a3 a4 a5 a6 a7 a8 a9 a10 a11 a12 a13 a14 a15 => a7) b3) e
noncomputable def T55 : FX := .t .n3 .n7 g55 fun _ => rfl
noncomputable def s55 (v : OV) (e : FEnv) : FEnv := FEnv.rec (motive := fun _ => FEnv) (fun b0 b1 b2 b3 b4 b5 b6 b7 b8 b9 b10 b11 b12 b13 b14 b15 => FEnv.mk b0 b1 b2 (ls7 v b3) b4 b5 b6 b7 b8 b9 b10 b11 b12 b13 b14 b15) e
noncomputable def D55 : FD := .at .n3 .n7 s55 fun _ _ => rfl
noncomputable def g56 (e : FEnv) : OV := FEnv.rec (motive := fun _ => OV) (fun b0 b1 b2 b3 b4 b5 b6 b7 b8 b9 b10 b11 b12 b13 b14 b15 => Leaf.rec (motive := fun _ => OV) (fun a0 a1 a2 a3 a4 a5 a6 a7 a8 a9 a10 a11 a12 a13 a14 a15 => a8) b3) e
noncomputable def T56 : FX := .t .n3 .n8 g56 fun _ => rfl
noncomputable def s56 (v : OV) (e : FEnv) : FEnv := FEnv.rec (motive := fun _ => FEnv) (fun b0 b1 b2 b3 b4 b5 b6 b7 b8 b9 b10 b11 b12 b13 b14 b15 => FEnv.mk b0 b1 b2 (ls8 v b3) b4 b5 b6 b7 b8 b9 b10 b11 b12 b13 b14 b15) e
noncomputable def D56 : FD := .at .n3 .n8 s56 fun _ _ => rfl
noncomputable def g57 (e : FEnv) : OV := FEnv.rec (motive := fun _ => OV) (fun b0 b1 b2 b3 b4 b5 b6 b7 b8 b9 b10 b11 b12 b13 b14 b15 => Leaf.rec (motive := fun _ => OV) (fun a0 a1 a2 a3 a4 a5 a6 a7 a8 a9 a10 a11 a12 a13 a14 a15 => a9) b3) e
noncomputable def T57 : FX := .t .n3 .n9 g57 fun _ => rfl
noncomputable def s57 (v : OV) (e : FEnv) : FEnv := FEnv.rec (motive := fun _ => FEnv) (fun b0 b1 b2 b3 b4 b5 b6 b7 b8 b9 b10 b11 b12 b13 b14 b15 => FEnv.mk b0 b1 b2 (ls9 v b3) b4 b5 b6 b7 b8 b9 b10 b11 b12 b13 b14 b15) e
noncomputable def D57 : FD := .at .n3 .n9 s57 fun _ _ => rfl
noncomputable def g58 (e : FEnv) : OV := FEnv.rec (motive := fun _ => OV) (fun b0 b1 b2 b3 b4 b5 b6 b7 b8 b9 b10 b11 b12 b13 b14 b15 => Leaf.rec (motive := fun _ => OV) (fun a0 a1 a2 a3 a4 a5 a6 a7 a8 a9 a10 a11 a12 a13 a14 a15 => a10) b3) e
noncomputable def T58 : FX := .t .n3 .n10 g58 fun _ => rfl
noncomputable def s58 (v : OV) (e : FEnv) : FEnv := FEnv.rec (motive := fun _ => FEnv) (fun b0 b1 b2 b3 b4 b5 b6 b7 b8 b9 b10 b11 b12 b13 b14 b15 => FEnv.mk b0 b1 b2 (ls10 v b3) b4 b5 b6 b7 b8 b9 b10 b11 b12 b13 b14 b15) e
noncomputable def D58 : FD := .at .n3 .n10 s58 fun _ _ => rfl
noncomputable def g59 (e : FEnv) : OV := FEnv.rec (motive := fun _ => OV) (fun b0 b1 b2 b3 b4 b5 b6 b7 b8 b9 b10 b11 b12 b13 b14 b15 => Leaf.rec (motive := fun _ => OV) (fun a0 a1 a2 a3 a4 a5 a6 a7 a8 a9 a10 a11 a12 a13 a14 a15 => a11) b3) e
noncomputable def T59 : FX := .t .n3 .n11 g59 fun _ => rfl
noncomputable def s59 (v : OV) (e : FEnv) : FEnv := FEnv.rec (motive := fun _ => FEnv) (fun b0 b1 b2 b3 b4 b5 b6 b7 b8 b9 b10 b11 b12 b13 b14 b15 => FEnv.mk b0 b1 b2 (ls11 v b3) b4 b5 b6 b7 b8 b9 b10 b11 b12 b13 b14 b15) e
noncomputable def D59 : FD := .at .n3 .n11 s59 fun _ _ => rfl
noncomputable def g60 (e : FEnv) : OV := FEnv.rec (motive := fun _ => OV) (fun b0 b1 b2 b3 b4 b5 b6 b7 b8 b9 b10 b11 b12 b13 b14 b15 => Leaf.rec (motive := fun _ => OV) (fun a0 a1 a2 a3 a4 a5 a6 a7 a8 a9 a10 a11 a12 a13 a14 a15 => a12) b3) e
noncomputable def T60 : FX := .t .n3 .n12 g60 fun _ => rfl
noncomputable def s60 (v : OV) (e : FEnv) : FEnv := FEnv.rec (motive := fun _ => FEnv) (fun b0 b1 b2 b3 b4 b5 b6 b7 b8 b9 b10 b11 b12 b13 b14 b15 => FEnv.mk b0 b1 b2 (ls12 v b3) b4 b5 b6 b7 b8 b9 b10 b11 b12 b13 b14 b15) e
noncomputable def D60 : FD := .at .n3 .n12 s60 fun _ _ => rfl
noncomputable def g61 (e : FEnv) : OV := FEnv.rec (motive := fun _ => OV) (fun b0 b1 b2 b3 b4 b5 b6 b7 b8 b9 b10 b11 b12 b13 b14 b15 => Leaf.rec (motive := fun _ => OV) (fun a0 a1 a2 a3 a4 a5 a6 a7 a8 a9 a10 a11 a12 a13 a14 a15 => a13) b3) e
noncomputable def T61 : FX := .t .n3 .n13 g61 fun _ => rfl
noncomputable def s61 (v : OV) (e : FEnv) : FEnv := FEnv.rec (motive := fun _ => FEnv) (fun b0 b1 b2 b3 b4 b5 b6 b7 b8 b9 b10 b11 b12 b13 b14 b15 => FEnv.mk b0 b1 b2 (ls13 v b3) b4 b5 b6 b7 b8 b9 b10 b11 b12 b13 b14 b15) e
noncomputable def D61 : FD := .at .n3 .n13 s61 fun _ _ => rfl
noncomputable def g62 (e : FEnv) : OV := FEnv.rec (motive := fun _ => OV) (fun b0 b1 b2 b3 b4 b5 b6 b7 b8 b9 b10 b11 b12 b13 b14 b15 => Leaf.rec (motive := fun _ => OV) (fun a0 a1 a2 a3 a4 a5 a6 a7 a8 a9 a10 a11 a12 a13 a14 a15 => a14) b3) e
noncomputable def T62 : FX := .t .n3 .n14 g62 fun _ => rfl
noncomputable def s62 (v : OV) (e : FEnv) : FEnv := FEnv.rec (motive := fun _ => FEnv) (fun b0 b1 b2 b3 b4 b5 b6 b7 b8 b9 b10 b11 b12 b13 b14 b15 => FEnv.mk b0 b1 b2 (ls14 v b3) b4 b5 b6 b7 b8 b9 b10 b11 b12 b13 b14 b15) e
noncomputable def D62 : FD := .at .n3 .n14 s62 fun _ _ => rfl
noncomputable def g63 (e : FEnv) : OV := FEnv.rec (motive := fun _ => OV) (fun b0 b1 b2 b3 b4 b5 b6 b7 b8 b9 b10 b11 b12 b13 b14 b15 => Leaf.rec (motive := fun _ => OV) (fun a0 a1 a2 a3 a4 a5 a6 a7 a8 a9 a10 a11 a12 a13 a14 a15 => a15) b3) e
noncomputable def T63 : FX := .t .n3 .n15 g63 fun _ => rfl
noncomputable def s63 (v : OV) (e : FEnv) : FEnv := FEnv.rec (motive := fun _ => FEnv) (fun b0 b1 b2 b3 b4 b5 b6 b7 b8 b9 b10 b11 b12 b13 b14 b15 => FEnv.mk b0 b1 b2 (ls15 v b3) b4 b5 b6 b7 b8 b9 b10 b11 b12 b13 b14 b15) e
noncomputable def D63 : FD := .at .n3 .n15 s63 fun _ _ => rfl
noncomputable def g64 (e : FEnv) : OV := FEnv.rec (motive := fun _ => OV) (fun b0 b1 b2 b3 b4 b5 b6 b7 b8 b9 b10 b11 b12 b13 b14 b15 => Leaf.rec (motive := fun _ => OV) (fun a0 a1 a2 a3 a4 a5 a6 a7 a8 a9 a10 a11 a12 a13 a14 a15 => a0) b4) e
noncomputable def T64 : FX := .t .n4 .n0 g64 fun _ => rfl
noncomputable def s64 (v : OV) (e : FEnv) : FEnv := FEnv.rec (motive := fun _ => FEnv) (fun b0 b1 b2 b3 b4 b5 b6 b7 b8 b9 b10 b11 b12 b13 b14 b15 => FEnv.mk b0 b1 b2 b3 (ls0 v b4) b5 b6 b7 b8 b9 b10 b11 b12 b13 b14 b15) e
noncomputable def D64 : FD := .at .n4 .n0 s64 fun _ _ => rfl
noncomputable def g65 (e : FEnv) : OV := FEnv.rec (motive := fun _ => OV) (fun b0 b1 b2 b3 b4 b5 b6 b7 b8 b9 b10 b11 b12 b13 b14 b15 => Leaf.rec (motive := fun _ => OV) (fun a0 a1 a2 a3 a4 a5 a6 a7 a8 a9 a10 a11 a12 a13 a14 a15 => a1) b4) e
noncomputable def T65 : FX := .t .n4 .n1 g65 fun _ => rfl
noncomputable def s65 (v : OV) (e : FEnv) : FEnv := FEnv.rec (motive := fun _ => FEnv) (fun b0 b1 b2 b3 b4 b5 b6 b7 b8 b9 b10 b11 b12 b13 b14 b15 => FEnv.mk b0 b1 b2 b3 (ls1 v b4) b5 b6 b7 b8 b9 b10 b11 b12 b13 b14 b15) e
noncomputable def D65 : FD := .at .n4 .n1 s65 fun _ _ => rfl
noncomputable def g66 (e : FEnv) : OV := FEnv.rec (motive := fun _ => OV) (fun b0 b1 b2 b3 b4 b5 b6 b7 b8 b9 b10 b11 b12 b13 b14 b15 => Leaf.rec (motive := fun _ => OV) (fun a0 a1 a2 a3 a4 a5 a6 a7 a8 a9 a10 a11 a12 a13 a14 a15 => a2) b4) e
noncomputable def T66 : FX := .t .n4 .n2 g66 fun _ => rfl
noncomputable def s66 (v : OV) (e : FEnv) : FEnv := FEnv.rec (motive := fun _ => FEnv) (fun b0 b1 b2 b3 b4 b5 b6 b7 b8 b9 b10 b11 b12 b13 b14 b15 => FEnv.mk b0 b1 b2 b3 (ls2 v b4) b5 b6 b7 b8 b9 b10 b11 b12 b13 b14 b15) e
noncomputable def D66 : FD := .at .n4 .n2 s66 fun _ _ => rfl
noncomputable def g67 (e : FEnv) : OV := FEnv.rec (motive := fun _ => OV) (fun b0 b1 b2 b3 b4 b5 b6 b7 b8 b9 b10 b11 b12 b13 b14 b15 => Leaf.rec (motive := fun _ => OV) (fun a0 a1 a2 a3 a4 a5 a6 a7 a8 a9 a10 a11 a12 a13 a14 a15 => a3) b4) e
noncomputable def T67 : FX := .t .n4 .n3 g67 fun _ => rfl
noncomputable def s67 (v : OV) (e : FEnv) : FEnv := FEnv.rec (motive := fun _ => FEnv) (fun b0 b1 b2 b3 b4 b5 b6 b7 b8 b9 b10 b11 b12 b13 b14 b15 => FEnv.mk b0 b1 b2 b3 (ls3 v b4) b5 b6 b7 b8 b9 b10 b11 b12 b13 b14 b15) e
noncomputable def D67 : FD := .at .n4 .n3 s67 fun _ _ => rfl
noncomputable def g68 (e : FEnv) : OV := FEnv.rec (motive := fun _ => OV) (fun b0 b1 b2 b3 b4 b5 b6 b7 b8 b9 b10 b11 b12 b13 b14 b15 => Leaf.rec (motive := fun _ => OV) (fun a0 a1 a2 a3 a4 a5 a6 a7 a8 a9 a10 a11 a12 a13 a14 a15 => a4) b4) e
noncomputable def T68 : FX := .t .n4 .n4 g68 fun _ => rfl
noncomputable def s68 (v : OV) (e : FEnv) : FEnv := FEnv.rec (motive := fun _ => FEnv) (fun b0 b1 b2 b3 b4 b5 b6 b7 b8 b9 b10 b11 b12 b13 b14 b15 => FEnv.mk b0 b1 b2 b3 (ls4 v b4) b5 b6 b7 b8 b9 b10 b11 b12 b13 b14 b15) e
noncomputable def D68 : FD := .at .n4 .n4 s68 fun _ _ => rfl
noncomputable def g69 (e : FEnv) : OV := FEnv.rec (motive := fun _ => OV) (fun b0 b1 b2 b3 b4 b5 b6 b7 b8 b9 b10 b11 b12 b13 b14 b15 => Leaf.rec (motive := fun _ => OV) (fun a0 a1 a2 a3 a4 a5 a6 a7 a8 a9 a10 a11 a12 a13 a14 a15 => a5) b4) e
noncomputable def T69 : FX := .t .n4 .n5 g69 fun _ => rfl
noncomputable def s69 (v : OV) (e : FEnv) : FEnv := FEnv.rec (motive := fun _ => FEnv) (fun b0 b1 b2 b3 b4 b5 b6 b7 b8 b9 b10 b11 b12 b13 b14 b15 => FEnv.mk b0 b1 b2 b3 (ls5 v b4) b5 b6 b7 b8 b9 b10 b11 b12 b13 b14 b15) e
noncomputable def D69 : FD := .at .n4 .n5 s69 fun _ _ => rfl
noncomputable def g70 (e : FEnv) : OV := FEnv.rec (motive := fun _ => OV) (fun b0 b1 b2 b3 b4 b5 b6 b7 b8 b9 b10 b11 b12 b13 b14 b15 => Leaf.rec (motive := fun _ => OV) (fun a0 a1 a2 a3 a4 a5 a6 a7 a8 a9 a10 a11 a12 a13 a14 a15 => a6) b4) e
noncomputable def T70 : FX := .t .n4 .n6 g70 fun _ => rfl
noncomputable def s70 (v : OV) (e : FEnv) : FEnv := FEnv.rec (motive := fun _ => FEnv) (fun b0 b1 b2 b3 b4 b5 b6 b7 b8 b9 b10 b11 b12 b13 b14 b15 => FEnv.mk b0 b1 b2 b3 (ls6 v b4) b5 b6 b7 b8 b9 b10 b11 b12 b13 b14 b15) e
noncomputable def D70 : FD := .at .n4 .n6 s70 fun _ _ => rfl
noncomputable def g71 (e : FEnv) : OV := FEnv.rec (motive := fun _ => OV) (fun b0 b1 b2 b3 b4 b5 b6 b7 b8 b9 b10 b11 b12 b13 b14 b15 => Leaf.rec (motive := fun _ => OV) (fun a0 a1 a2 a3 a4 a5 a6 a7 a8 a9 a10 a11 a12 a13 a14 a15 => a7) b4) e
noncomputable def T71 : FX := .t .n4 .n7 g71 fun _ => rfl
noncomputable def s71 (v : OV) (e : FEnv) : FEnv := FEnv.rec (motive := fun _ => FEnv) (fun b0 b1 b2 b3 b4 b5 b6 b7 b8 b9 b10 b11 b12 b13 b14 b15 => FEnv.mk b0 b1 b2 b3 (ls7 v b4) b5 b6 b7 b8 b9 b10 b11 b12 b13 b14 b15) e
noncomputable def D71 : FD := .at .n4 .n7 s71 fun _ _ => rfl
noncomputable def g72 (e : FEnv) : OV := FEnv.rec (motive := fun _ => OV) (fun b0 b1 b2 b3 b4 b5 b6 b7 b8 b9 b10 b11 b12 b13 b14 b15 => Leaf.rec (motive := fun _ => OV) (fun a0 a1 a2 a3 a4 a5 a6 a7 a8 a9 a10 a11 a12 a13 a14 a15 => a8) b4) e
noncomputable def T72 : FX := .t .n4 .n8 g72 fun _ => rfl
noncomputable def s72 (v : OV) (e : FEnv) : FEnv := FEnv.rec (motive := fun _ => FEnv) (fun b0 b1 b2 b3 b4 b5 b6 b7 b8 b9 b10 b11 b12 b13 b14 b15 => FEnv.mk b0 b1 b2 b3 (ls8 v b4) b5 b6 b7 b8 b9 b10 b11 b12 b13 b14 b15) e
noncomputable def D72 : FD := .at .n4 .n8 s72 fun _ _ => rfl
noncomputable def g73 (e : FEnv) : OV := FEnv.rec (motive := fun _ => OV) (fun b0 b1 b2 b3 b4 b5 b6 b7 b8 b9 b10 b11 b12 b13 b14 b15 => Leaf.rec (motive := fun _ => OV) (fun a0 a1 a2 a3 a4 a5 a6 a7 a8 a9 a10 a11 a12 a13 a14 a15 => a9) b4) e
noncomputable def T73 : FX := .t .n4 .n9 g73 fun _ => rfl
noncomputable def s73 (v : OV) (e : FEnv) : FEnv := FEnv.rec (motive := fun _ => FEnv) (fun b0 b1 b2 b3 b4 b5 b6 b7 b8 b9 b10 b11 b12 b13 b14 b15 => FEnv.mk b0 b1 b2 b3 (ls9 v b4) b5 b6 b7 b8 b9 b10 b11 b12 b13 b14 b15) e
noncomputable def D73 : FD := .at .n4 .n9 s73 fun _ _ => rfl
noncomputable def g74 (e : FEnv) : OV := FEnv.rec (motive := fun _ => OV) (fun b0 b1 b2 b3 b4 b5 b6 b7 b8 b9 b10 b11 b12 b13 b14 b15 => Leaf.rec (motive := fun _ => OV) (fun a0 a1 a2 a3 a4 a5 a6 a7 a8 a9 a10 a11 a12 a13 a14 a15 => a10) b4) e
noncomputable def T74 : FX := .t .n4 .n10 g74 fun _ => rfl
noncomputable def s74 (v : OV) (e : FEnv) : FEnv := FEnv.rec (motive := fun _ => FEnv) (fun b0 b1 b2 b3 b4 b5 b6 b7 b8 b9 b10 b11 b12 b13 b14 b15 => FEnv.mk b0 b1 b2 b3 (ls10 v b4) b5 b6 b7 b8 b9 b10 b11 b12 b13 b14 b15) e
noncomputable def D74 : FD := .at .n4 .n10 s74 fun _ _ => rfl
noncomputable def g75 (e : FEnv) : OV := FEnv.rec (motive := fun _ => OV) (fun b0 b1 b2 b3 b4 b5 b6 b7 b8 b9 b10 b11 b12 b13 b14 b15 => Leaf.rec (motive := fun _ => OV) (fun a0 a1 a2 a3 a4 a5 a6 a7 a8 a9 a10 a11 a12 a13 a14 a15 => a11) b4) e
noncomputable def T75 : FX := .t .n4 .n11 g75 fun _ => rfl
noncomputable def s75 (v : OV) (e : FEnv) : FEnv := FEnv.rec (motive := fun _ => FEnv) (fun b0 b1 b2 b3 b4 b5 b6 b7 b8 b9 b10 b11 b12 b13 b14 b15 => FEnv.mk b0 b1 b2 b3 (ls11 v b4) b5 b6 b7 b8 b9 b10 b11 b12 b13 b14 b15) e
noncomputable def D75 : FD := .at .n4 .n11 s75 fun _ _ => rfl
noncomputable def g76 (e : FEnv) : OV := FEnv.rec (motive := fun _ => OV) (fun b0 b1 b2 b3 b4 b5 b6 b7 b8 b9 b10 b11 b12 b13 b14 b15 => Leaf.rec (motive := fun _ => OV) (fun a0 a1 a2 a3 a4 a5 a6 a7 a8 a9 a10 a11 a12 a13 a14 a15 => a12) b4) e
noncomputable def T76 : FX := .t .n4 .n12 g76 fun _ => rfl
noncomputable def s76 (v : OV) (e : FEnv) : FEnv := FEnv.rec (motive := fun _ => FEnv) (fun b0 b1 b2 b3 b4 b5 b6 b7 b8 b9 b10 b11 b12 b13 b14 b15 => FEnv.mk b0 b1 b2 b3 (ls12 v b4) b5 b6 b7 b8 b9 b10 b11 b12 b13 b14 b15) e
noncomputable def D76 : FD := .at .n4 .n12 s76 fun _ _ => rfl
noncomputable def g77 (e : FEnv) : OV := FEnv.rec (motive := fun _ => OV) (fun b0 b1 b2 b3 b4 b5 b6 b7 b8 b9 b10 b11 b12 b13 b14 b15 => Leaf.rec (motive := fun _ => OV) (fun a0 a1 a2 a3 a4 a5 a6 a7 a8 a9 a10 a11 a12 a13 a14 a15 => a13) b4) e
noncomputable def T77 : FX := .t .n4 .n13 g77 fun _ => rfl
noncomputable def s77 (v : OV) (e : FEnv) : FEnv := FEnv.rec (motive := fun _ => FEnv) (fun b0 b1 b2 b3 b4 b5 b6 b7 b8 b9 b10 b11 b12 b13 b14 b15 => FEnv.mk b0 b1 b2 b3 (ls13 v b4) b5 b6 b7 b8 b9 b10 b11 b12 b13 b14 b15) e
noncomputable def D77 : FD := .at .n4 .n13 s77 fun _ _ => rfl
noncomputable def g78 (e : FEnv) : OV := FEnv.rec (motive := fun _ => OV) (fun b0 b1 b2 b3 b4 b5 b6 b7 b8 b9 b10 b11 b12 b13 b14 b15 => Leaf.rec (motive := fun _ => OV) (fun a0 a1 a2 a3 a4 a5 a6 a7 a8 a9 a10 a11 a12 a13 a14 a15 => a14) b4) e
noncomputable def T78 : FX := .t .n4 .n14 g78 fun _ => rfl
noncomputable def s78 (v : OV) (e : FEnv) : FEnv := FEnv.rec (motive := fun _ => FEnv) (fun b0 b1 b2 b3 b4 b5 b6 b7 b8 b9 b10 b11 b12 b13 b14 b15 => FEnv.mk b0 b1 b2 b3 (ls14 v b4) b5 b6 b7 b8 b9 b10 b11 b12 b13 b14 b15) e
noncomputable def D78 : FD := .at .n4 .n14 s78 fun _ _ => rfl
noncomputable def g79 (e : FEnv) : OV := FEnv.rec (motive := fun _ => OV) (fun b0 b1 b2 b3 b4 b5 b6 b7 b8 b9 b10 b11 b12 b13 b14 b15 => Leaf.rec (motive := fun _ => OV) (fun a0 a1 a2 a3 a4 a5 a6 a7 a8 a9 a10 a11 a12 a13 a14 a15 => a15) b4) e
noncomputable def T79 : FX := .t .n4 .n15 g79 fun _ => rfl
noncomputable def s79 (v : OV) (e : FEnv) : FEnv := FEnv.rec (motive := fun _ => FEnv) (fun b0 b1 b2 b3 b4 b5 b6 b7 b8 b9 b10 b11 b12 b13 b14 b15 => FEnv.mk b0 b1 b2 b3 (ls15 v b4) b5 b6 b7 b8 b9 b10 b11 b12 b13 b14 b15) e
noncomputable def D79 : FD := .at .n4 .n15 s79 fun _ _ => rfl
noncomputable def g80 (e : FEnv) : OV := FEnv.rec (motive := fun _ => OV) (fun b0 b1 b2 b3 b4 b5 b6 b7 b8 b9 b10 b11 b12 b13 b14 b15 => Leaf.rec (motive := fun _ => OV) (fun a0 a1 a2 a3 a4 a5 a6 a7 a8 a9 a10 a11 a12 a13 a14 a15 => a0) b5) e
noncomputable def T80 : FX := .t .n5 .n0 g80 fun _ => rfl
noncomputable def s80 (v : OV) (e : FEnv) : FEnv := FEnv.rec (motive := fun _ => FEnv) (fun b0 b1 b2 b3 b4 b5 b6 b7 b8 b9 b10 b11 b12 b13 b14 b15 => FEnv.mk b0 b1 b2 b3 b4 (ls0 v b5) b6 b7 b8 b9 b10 b11 b12 b13 b14 b15) e
noncomputable def D80 : FD := .at .n5 .n0 s80 fun _ _ => rfl
noncomputable def g81 (e : FEnv) : OV := FEnv.rec (motive := fun _ => OV) (fun b0 b1 b2 b3 b4 b5 b6 b7 b8 b9 b10 b11 b12 b13 b14 b15 => Leaf.rec (motive := fun _ => OV) (fun a0 a1 a2 a3 a4 a5 a6 a7 a8 a9 a10 a11 a12 a13 a14 a15 => a1) b5) e
noncomputable def T81 : FX := .t .n5 .n1 g81 fun _ => rfl
noncomputable def s81 (v : OV) (e : FEnv) : FEnv := FEnv.rec (motive := fun _ => FEnv) (fun b0 b1 b2 b3 b4 b5 b6 b7 b8 b9 b10 b11 b12 b13 b14 b15 => FEnv.mk b0 b1 b2 b3 b4 (ls1 v b5) b6 b7 b8 b9 b10 b11 b12 b13 b14 b15) e
noncomputable def D81 : FD := .at .n5 .n1 s81 fun _ _ => rfl
noncomputable def g82 (e : FEnv) : OV := FEnv.rec (motive := fun _ => OV) (fun b0 b1 b2 b3 b4 b5 b6 b7 b8 b9 b10 b11 b12 b13 b14 b15 => Leaf.rec (motive := fun _ => OV) (fun a0 a1 a2 a3 a4 a5 a6 a7 a8 a9 a10 a11 a12 a13 a14 a15 => a2) b5) e
noncomputable def T82 : FX := .t .n5 .n2 g82 fun _ => rfl
noncomputable def s82 (v : OV) (e : FEnv) : FEnv := FEnv.rec (motive := fun _ => FEnv) (fun b0 b1 b2 b3 b4 b5 b6 b7 b8 b9 b10 b11 b12 b13 b14 b15 => FEnv.mk b0 b1 b2 b3 b4 (ls2 v b5) b6 b7 b8 b9 b10 b11 b12 b13 b14 b15) e
noncomputable def D82 : FD := .at .n5 .n2 s82 fun _ _ => rfl
noncomputable def g83 (e : FEnv) : OV := FEnv.rec (motive := fun _ => OV) (fun b0 b1 b2 b3 b4 b5 b6 b7 b8 b9 b10 b11 b12 b13 b14 b15 => Leaf.rec (motive := fun _ => OV) (fun a0 a1 a2 a3 a4 a5 a6 a7 a8 a9 a10 a11 a12 a13 a14 a15 => a3) b5) e
noncomputable def T83 : FX := .t .n5 .n3 g83 fun _ => rfl
noncomputable def s83 (v : OV) (e : FEnv) : FEnv := FEnv.rec (motive := fun _ => FEnv) (fun b0 b1 b2 b3 b4 b5 b6 b7 b8 b9 b10 b11 b12 b13 b14 b15 => FEnv.mk b0 b1 b2 b3 b4 (ls3 v b5) b6 b7 b8 b9 b10 b11 b12 b13 b14 b15) e
noncomputable def D83 : FD := .at .n5 .n3 s83 fun _ _ => rfl
noncomputable def g84 (e : FEnv) : OV := FEnv.rec (motive := fun _ => OV) (fun b0 b1 b2 b3 b4 b5 b6 b7 b8 b9 b10 b11 b12 b13 b14 b15 => Leaf.rec (motive := fun _ => OV) (fun a0 a1 a2 a3 a4 a5 a6 a7 a8 a9 a10 a11 a12 a13 a14 a15 => a4) b5) e
noncomputable def T84 : FX := .t .n5 .n4 g84 fun _ => rfl
noncomputable def s84 (v : OV) (e : FEnv) : FEnv := FEnv.rec (motive := fun _ => FEnv) (fun b0 b1 b2 b3 b4 b5 b6 b7 b8 b9 b10 b11 b12 b13 b14 b15 => FEnv.mk b0 b1 b2 b3 b4 (ls4 v b5) b6 b7 b8 b9 b10 b11 b12 b13 b14 b15) e
noncomputable def D84 : FD := .at .n5 .n4 s84 fun _ _ => rfl
noncomputable def g85 (e : FEnv) : OV := FEnv.rec (motive := fun _ => OV) (fun b0 b1 b2 b3 b4 b5 b6 b7 b8 b9 b10 b11 b12 b13 b14 b15 => Leaf.rec (motive := fun _ => OV) (fun a0 a1 a2 a3 a4 a5 a6 a7 a8 a9 a10 a11 a12 a13 a14 a15 => a5) b5) e
noncomputable def T85 : FX := .t .n5 .n5 g85 fun _ => rfl
noncomputable def s85 (v : OV) (e : FEnv) : FEnv := FEnv.rec (motive := fun _ => FEnv) (fun b0 b1 b2 b3 b4 b5 b6 b7 b8 b9 b10 b11 b12 b13 b14 b15 => FEnv.mk b0 b1 b2 b3 b4 (ls5 v b5) b6 b7 b8 b9 b10 b11 b12 b13 b14 b15) e
noncomputable def D85 : FD := .at .n5 .n5 s85 fun _ _ => rfl
noncomputable def g86 (e : FEnv) : OV := FEnv.rec (motive := fun _ => OV) (fun b0 b1 b2 b3 b4 b5 b6 b7 b8 b9 b10 b11 b12 b13 b14 b15 => Leaf.rec (motive := fun _ => OV) (fun a0 a1 a2 a3 a4 a5 a6 a7 a8 a9 a10 a11 a12 a13 a14 a15 => a6) b5) e
noncomputable def T86 : FX := .t .n5 .n6 g86 fun _ => rfl
noncomputable def s86 (v : OV) (e : FEnv) : FEnv := FEnv.rec (motive := fun _ => FEnv) (fun b0 b1 b2 b3 b4 b5 b6 b7 b8 b9 b10 b11 b12 b13 b14 b15 => FEnv.mk b0 b1 b2 b3 b4 (ls6 v b5) b6 b7 b8 b9 b10 b11 b12 b13 b14 b15) e
noncomputable def D86 : FD := .at .n5 .n6 s86 fun _ _ => rfl
noncomputable def g87 (e : FEnv) : OV := FEnv.rec (motive := fun _ => OV) (fun b0 b1 b2 b3 b4 b5 b6 b7 b8 b9 b10 b11 b12 b13 b14 b15 => Leaf.rec (motive := fun _ => OV) (fun a0 a1 a2 a3 a4 a5 a6 a7 a8 a9 a10 a11 a12 a13 a14 a15 => a7) b5) e
noncomputable def T87 : FX := .t .n5 .n7 g87 fun _ => rfl
noncomputable def s87 (v : OV) (e : FEnv) : FEnv := FEnv.rec (motive := fun _ => FEnv) (fun b0 b1 b2 b3 b4 b5 b6 b7 b8 b9 b10 b11 b12 b13 b14 b15 => FEnv.mk b0 b1 b2 b3 b4 (ls7 v b5) b6 b7 b8 b9 b10 b11 b12 b13 b14 b15) e
noncomputable def D87 : FD := .at .n5 .n7 s87 fun _ _ => rfl
noncomputable def g88 (e : FEnv) : OV := FEnv.rec (motive := fun _ => OV) (fun b0 b1 b2 b3 b4 b5 b6 b7 b8 b9 b10 b11 b12 b13 b14 b15 => Leaf.rec (motive := fun _ => OV) (fun a0 a1 a2 a3 a4 a5 a6 a7 a8 a9 a10 a11 a12 a13 a14 a15 => a8) b5) e
noncomputable def T88 : FX := .t .n5 .n8 g88 fun _ => rfl
noncomputable def s88 (v : OV) (e : FEnv) : FEnv := FEnv.rec (motive := fun _ => FEnv) (fun b0 b1 b2 b3 b4 b5 b6 b7 b8 b9 b10 b11 b12 b13 b14 b15 => FEnv.mk b0 b1 b2 b3 b4 (ls8 v b5) b6 b7 b8 b9 b10 b11 b12 b13 b14 b15) e
noncomputable def D88 : FD := .at .n5 .n8 s88 fun _ _ => rfl
noncomputable def g89 (e : FEnv) : OV := FEnv.rec (motive := fun _ => OV) (fun b0 b1 b2 b3 b4 b5 b6 b7 b8 b9 b10 b11 b12 b13 b14 b15 => Leaf.rec (motive := fun _ => OV) (fun a0 a1 a2 a3 a4 a5 a6 a7 a8 a9 a10 a11 a12 a13 a14 a15 => a9) b5) e
noncomputable def T89 : FX := .t .n5 .n9 g89 fun _ => rfl
noncomputable def s89 (v : OV) (e : FEnv) : FEnv := FEnv.rec (motive := fun _ => FEnv) (fun b0 b1 b2 b3 b4 b5 b6 b7 b8 b9 b10 b11 b12 b13 b14 b15 => FEnv.mk b0 b1 b2 b3 b4 (ls9 v b5) b6 b7 b8 b9 b10 b11 b12 b13 b14 b15) e
noncomputable def D89 : FD := .at .n5 .n9 s89 fun _ _ => rfl
noncomputable def g90 (e : FEnv) : OV := FEnv.rec (motive := fun _ => OV) (fun b0 b1 b2 b3 b4 b5 b6 b7 b8 b9 b10 b11 b12 b13 b14 b15 => Leaf.rec (motive := fun _ => OV) (fun a0 a1 a2 a3 a4 a5 a6 a7 a8 a9 a10 a11 a12 a13 a14 a15 => a10) b5) e
noncomputable def T90 : FX := .t .n5 .n10 g90 fun _ => rfl
noncomputable def s90 (v : OV) (e : FEnv) : FEnv := FEnv.rec (motive := fun _ => FEnv) (fun b0 b1 b2 b3 b4 b5 b6 b7 b8 b9 b10 b11 b12 b13 b14 b15 => FEnv.mk b0 b1 b2 b3 b4 (ls10 v b5) b6 b7 b8 b9 b10 b11 b12 b13 b14 b15) e
noncomputable def D90 : FD := .at .n5 .n10 s90 fun _ _ => rfl
noncomputable def g91 (e : FEnv) : OV := FEnv.rec (motive := fun _ => OV) (fun b0 b1 b2 b3 b4 b5 b6 b7 b8 b9 b10 b11 b12 b13 b14 b15 => Leaf.rec (motive := fun _ => OV) (fun a0 a1 a2 a3 a4 a5 a6 a7 a8 a9 a10 a11 a12 a13 a14 a15 => a11) b5) e
noncomputable def T91 : FX := .t .n5 .n11 g91 fun _ => rfl
noncomputable def s91 (v : OV) (e : FEnv) : FEnv := FEnv.rec (motive := fun _ => FEnv) (fun b0 b1 b2 b3 b4 b5 b6 b7 b8 b9 b10 b11 b12 b13 b14 b15 => FEnv.mk b0 b1 b2 b3 b4 (ls11 v b5) b6 b7 b8 b9 b10 b11 b12 b13 b14 b15) e
noncomputable def D91 : FD := .at .n5 .n11 s91 fun _ _ => rfl
noncomputable def g92 (e : FEnv) : OV := FEnv.rec (motive := fun _ => OV) (fun b0 b1 b2 b3 b4 b5 b6 b7 b8 b9 b10 b11 b12 b13 b14 b15 => Leaf.rec (motive := fun _ => OV) (fun a0 a1 a2 a3 a4 a5 a6 a7 a8 a9 a10 a11 a12 a13 a14 a15 => a12) b5) e
noncomputable def T92 : FX := .t .n5 .n12 g92 fun _ => rfl
noncomputable def s92 (v : OV) (e : FEnv) : FEnv := FEnv.rec (motive := fun _ => FEnv) (fun b0 b1 b2 b3 b4 b5 b6 b7 b8 b9 b10 b11 b12 b13 b14 b15 => FEnv.mk b0 b1 b2 b3 b4 (ls12 v b5) b6 b7 b8 b9 b10 b11 b12 b13 b14 b15) e
noncomputable def D92 : FD := .at .n5 .n12 s92 fun _ _ => rfl
noncomputable def g93 (e : FEnv) : OV := FEnv.rec (motive := fun _ => OV) (fun b0 b1 b2 b3 b4 b5 b6 b7 b8 b9 b10 b11 b12 b13 b14 b15 => Leaf.rec (motive := fun _ => OV) (fun a0 a1 a2 a3 a4 a5 a6 a7 a8 a9 a10 a11 a12 a13 a14 a15 => a13) b5) e
noncomputable def T93 : FX := .t .n5 .n13 g93 fun _ => rfl
noncomputable def s93 (v : OV) (e : FEnv) : FEnv := FEnv.rec (motive := fun _ => FEnv) (fun b0 b1 b2 b3 b4 b5 b6 b7 b8 b9 b10 b11 b12 b13 b14 b15 => FEnv.mk b0 b1 b2 b3 b4 (ls13 v b5) b6 b7 b8 b9 b10 b11 b12 b13 b14 b15) e
noncomputable def D93 : FD := .at .n5 .n13 s93 fun _ _ => rfl
noncomputable def g94 (e : FEnv) : OV := FEnv.rec (motive := fun _ => OV) (fun b0 b1 b2 b3 b4 b5 b6 b7 b8 b9 b10 b11 b12 b13 b14 b15 => Leaf.rec (motive := fun _ => OV) (fun a0 a1 a2 a3 a4 a5 a6 a7 a8 a9 a10 a11 a12 a13 a14 a15 => a14) b5) e
noncomputable def T94 : FX := .t .n5 .n14 g94 fun _ => rfl
noncomputable def s94 (v : OV) (e : FEnv) : FEnv := FEnv.rec (motive := fun _ => FEnv) (fun b0 b1 b2 b3 b4 b5 b6 b7 b8 b9 b10 b11 b12 b13 b14 b15 => FEnv.mk b0 b1 b2 b3 b4 (ls14 v b5) b6 b7 b8 b9 b10 b11 b12 b13 b14 b15) e
noncomputable def D94 : FD := .at .n5 .n14 s94 fun _ _ => rfl
noncomputable def g95 (e : FEnv) : OV := FEnv.rec (motive := fun _ => OV) (fun b0 b1 b2 b3 b4 b5 b6 b7 b8 b9 b10 b11 b12 b13 b14 b15 => Leaf.rec (motive := fun _ => OV) (fun a0 a1 a2 a3 a4 a5 a6 a7 a8 a9 a10 a11 a12 a13 a14 a15 => a15) b5) e
noncomputable def T95 : FX := .t .n5 .n15 g95 fun _ => rfl
noncomputable def s95 (v : OV) (e : FEnv) : FEnv := FEnv.rec (motive := fun _ => FEnv) (fun b0 b1 b2 b3 b4 b5 b6 b7 b8 b9 b10 b11 b12 b13 b14 b15 => FEnv.mk b0 b1 b2 b3 b4 (ls15 v b5) b6 b7 b8 b9 b10 b11 b12 b13 b14 b15) e
noncomputable def D95 : FD := .at .n5 .n15 s95 fun _ _ => rfl
noncomputable def g96 (e : FEnv) : OV := FEnv.rec (motive := fun _ => OV) (fun b0 b1 b2 b3 b4 b5 b6 b7 b8 b9 b10 b11 b12 b13 b14 b15 => Leaf.rec (motive := fun _ => OV) (fun a0 a1 a2 a3 a4 a5 a6 a7 a8 a9 a10 a11 a12 a13 a14 a15 => a0) b6) e
noncomputable def T96 : FX := .t .n6 .n0 g96 fun _ => rfl
noncomputable def s96 (v : OV) (e : FEnv) : FEnv := FEnv.rec (motive := fun _ => FEnv) (fun b0 b1 b2 b3 b4 b5 b6 b7 b8 b9 b10 b11 b12 b13 b14 b15 => FEnv.mk b0 b1 b2 b3 b4 b5 (ls0 v b6) b7 b8 b9 b10 b11 b12 b13 b14 b15) e
noncomputable def D96 : FD := .at .n6 .n0 s96 fun _ _ => rfl
noncomputable def g97 (e : FEnv) : OV := FEnv.rec (motive := fun _ => OV) (fun b0 b1 b2 b3 b4 b5 b6 b7 b8 b9 b10 b11 b12 b13 b14 b15 => Leaf.rec (motive := fun _ => OV) (fun a0 a1 a2 a3 a4 a5 a6 a7 a8 a9 a10 a11 a12 a13 a14 a15 => a1) b6) e
noncomputable def T97 : FX := .t .n6 .n1 g97 fun _ => rfl
noncomputable def s97 (v : OV) (e : FEnv) : FEnv := FEnv.rec (motive := fun _ => FEnv) (fun b0 b1 b2 b3 b4 b5 b6 b7 b8 b9 b10 b11 b12 b13 b14 b15 => FEnv.mk b0 b1 b2 b3 b4 b5 (ls1 v b6) b7 b8 b9 b10 b11 b12 b13 b14 b15) e
noncomputable def D97 : FD := .at .n6 .n1 s97 fun _ _ => rfl
noncomputable def g98 (e : FEnv) : OV := FEnv.rec (motive := fun _ => OV) (fun b0 b1 b2 b3 b4 b5 b6 b7 b8 b9 b10 b11 b12 b13 b14 b15 => Leaf.rec (motive := fun _ => OV) (fun a0 a1 a2 a3 a4 a5 a6 a7 a8 a9 a10 a11 a12 a13 a14 a15 => a2) b6) e
noncomputable def T98 : FX := .t .n6 .n2 g98 fun _ => rfl
noncomputable def s98 (v : OV) (e : FEnv) : FEnv := FEnv.rec (motive := fun _ => FEnv) (fun b0 b1 b2 b3 b4 b5 b6 b7 b8 b9 b10 b11 b12 b13 b14 b15 => FEnv.mk b0 b1 b2 b3 b4 b5 (ls2 v b6) b7 b8 b9 b10 b11 b12 b13 b14 b15) e
noncomputable def D98 : FD := .at .n6 .n2 s98 fun _ _ => rfl
noncomputable def g99 (e : FEnv) : OV := FEnv.rec (motive := fun _ => OV) (fun b0 b1 b2 b3 b4 b5 b6 b7 b8 b9 b10 b11 b12 b13 b14 b15 => Leaf.rec (motive := fun _ => OV) (fun a0 a1 a2 a3 a4 a5 a6 a7 a8 a9 a10 a11 a12 a13 a14 a15 => a3) b6) e
noncomputable def T99 : FX := .t .n6 .n3 g99 fun _ => rfl
noncomputable def s99 (v : OV) (e : FEnv) : FEnv := FEnv.rec (motive := fun _ => FEnv) (fun b0 b1 b2 b3 b4 b5 b6 b7 b8 b9 b10 b11 b12 b13 b14 b15 => FEnv.mk b0 b1 b2 b3 b4 b5 (ls3 v b6) b7 b8 b9 b10 b11 b12 b13 b14 b15) e
noncomputable def D99 : FD := .at .n6 .n3 s99 fun _ _ => rfl
noncomputable def g100 (e : FEnv) : OV := FEnv.rec (motive := fun _ => OV) (fun b0 b1 b2 b3 b4 b5 b6 b7 b8 b9 b10 b11 b12 b13 b14 b15 => Leaf.rec (motive := fun _ => OV) (fun a0 a1 a2 a3 a4 a5 a6 a7 a8 a9 a10 a11 a12 a13 a14 a15 => a4) b6) e
noncomputable def T100 : FX := .t .n6 .n4 g100 fun _ => rfl
noncomputable def s100 (v : OV) (e : FEnv) : FEnv := FEnv.rec (motive := fun _ => FEnv) (fun b0 b1 b2 b3 b4 b5 b6 b7 b8 b9 b10 b11 b12 b13 b14 b15 => FEnv.mk b0 b1 b2 b3 b4 b5 (ls4 v b6) b7 b8 b9 b10 b11 b12 b13 b14 b15) e
noncomputable def D100 : FD := .at .n6 .n4 s100 fun _ _ => rfl
noncomputable def g101 (e : FEnv) : OV := FEnv.rec (motive := fun _ => OV) (fun b0 b1 b2 b3 b4 b5 b6 b7 b8 b9 b10 b11 b12 b13 b14 b15 => Leaf.rec (motive := fun _ => OV) (fun a0 a1 a2 a3 a4 a5 a6 a7 a8 a9 a10 a11 a12 a13 a14 a15 => a5) b6) e
noncomputable def T101 : FX := .t .n6 .n5 g101 fun _ => rfl
noncomputable def s101 (v : OV) (e : FEnv) : FEnv := FEnv.rec (motive := fun _ => FEnv) (fun b0 b1 b2 b3 b4 b5 b6 b7 b8 b9 b10 b11 b12 b13 b14 b15 => FEnv.mk b0 b1 b2 b3 b4 b5 (ls5 v b6) b7 b8 b9 b10 b11 b12 b13 b14 b15) e
noncomputable def D101 : FD := .at .n6 .n5 s101 fun _ _ => rfl
noncomputable def g102 (e : FEnv) : OV := FEnv.rec (motive := fun _ => OV) (fun b0 b1 b2 b3 b4 b5 b6 b7 b8 b9 b10 b11 b12 b13 b14 b15 => Leaf.rec (motive := fun _ => OV) (fun a0 a1 a2 a3 a4 a5 a6 a7 a8 a9 a10 a11 a12 a13 a14 a15 => a6) b6) e
noncomputable def T102 : FX := .t .n6 .n6 g102 fun _ => rfl
noncomputable def s102 (v : OV) (e : FEnv) : FEnv := FEnv.rec (motive := fun _ => FEnv) (fun b0 b1 b2 b3 b4 b5 b6 b7 b8 b9 b10 b11 b12 b13 b14 b15 => FEnv.mk b0 b1 b2 b3 b4 b5 (ls6 v b6) b7 b8 b9 b10 b11 b12 b13 b14 b15) e
noncomputable def D102 : FD := .at .n6 .n6 s102 fun _ _ => rfl
noncomputable def g103 (e : FEnv) : OV := FEnv.rec (motive := fun _ => OV) (fun b0 b1 b2 b3 b4 b5 b6 b7 b8 b9 b10 b11 b12 b13 b14 b15 => Leaf.rec (motive := fun _ => OV) (fun a0 a1 a2 a3 a4 a5 a6 a7 a8 a9 a10 a11 a12 a13 a14 a15 => a7) b6) e
noncomputable def T103 : FX := .t .n6 .n7 g103 fun _ => rfl
noncomputable def s103 (v : OV) (e : FEnv) : FEnv := FEnv.rec (motive := fun _ => FEnv) (fun b0 b1 b2 b3 b4 b5 b6 b7 b8 b9 b10 b11 b12 b13 b14 b15 => FEnv.mk b0 b1 b2 b3 b4 b5 (ls7 v b6) b7 b8 b9 b10 b11 b12 b13 b14 b15) e
noncomputable def D103 : FD := .at .n6 .n7 s103 fun _ _ => rfl
noncomputable def g104 (e : FEnv) : OV := FEnv.rec (motive := fun _ => OV) (fun b0 b1 b2 b3 b4 b5 b6 b7 b8 b9 b10 b11 b12 b13 b14 b15 => Leaf.rec (motive := fun _ => OV) (fun a0 a1 a2 a3 a4 a5 a6 a7 a8 a9 a10 a11 a12 a13 a14 a15 => a8) b6) e
noncomputable def T104 : FX := .t .n6 .n8 g104 fun _ => rfl
noncomputable def s104 (v : OV) (e : FEnv) : FEnv := FEnv.rec (motive := fun _ => FEnv) (fun b0 b1 b2 b3 b4 b5 b6 b7 b8 b9 b10 b11 b12 b13 b14 b15 => FEnv.mk b0 b1 b2 b3 b4 b5 (ls8 v b6) b7 b8 b9 b10 b11 b12 b13 b14 b15) e
noncomputable def D104 : FD := .at .n6 .n8 s104 fun _ _ => rfl
noncomputable def g105 (e : FEnv) : OV := FEnv.rec (motive := fun _ => OV) (fun b0 b1 b2 b3 b4 b5 b6 b7 b8 b9 b10 b11 b12 b13 b14 b15 => Leaf.rec (motive := fun _ => OV) (fun a0 a1 a2 a3 a4 a5 a6 a7 a8 a9 a10 a11 a12 a13 a14 a15 => a9) b6) e
noncomputable def T105 : FX := .t .n6 .n9 g105 fun _ => rfl
noncomputable def s105 (v : OV) (e : FEnv) : FEnv := FEnv.rec (motive := fun _ => FEnv) (fun b0 b1 b2 b3 b4 b5 b6 b7 b8 b9 b10 b11 b12 b13 b14 b15 => FEnv.mk b0 b1 b2 b3 b4 b5 (ls9 v b6) b7 b8 b9 b10 b11 b12 b13 b14 b15) e
noncomputable def D105 : FD := .at .n6 .n9 s105 fun _ _ => rfl
noncomputable def g106 (e : FEnv) : OV := FEnv.rec (motive := fun _ => OV) (fun b0 b1 b2 b3 b4 b5 b6 b7 b8 b9 b10 b11 b12 b13 b14 b15 => Leaf.rec (motive := fun _ => OV) (fun a0 a1 a2 a3 a4 a5 a6 a7 a8 a9 a10 a11 a12 a13 a14 a15 => a10) b6) e
noncomputable def T106 : FX := .t .n6 .n10 g106 fun _ => rfl
noncomputable def s106 (v : OV) (e : FEnv) : FEnv := FEnv.rec (motive := fun _ => FEnv) (fun b0 b1 b2 b3 b4 b5 b6 b7 b8 b9 b10 b11 b12 b13 b14 b15 => FEnv.mk b0 b1 b2 b3 b4 b5 (ls10 v b6) b7 b8 b9 b10 b11 b12 b13 b14 b15) e
noncomputable def D106 : FD := .at .n6 .n10 s106 fun _ _ => rfl
noncomputable def g107 (e : FEnv) : OV := FEnv.rec (motive := fun _ => OV) (fun b0 b1 b2 b3 b4 b5 b6 b7 b8 b9 b10 b11 b12 b13 b14 b15 => Leaf.rec (motive := fun _ => OV) (fun a0 a1 a2 a3 a4 a5 a6 a7 a8 a9 a10 a11 a12 a13 a14 a15 => a11) b6) e
noncomputable def T107 : FX := .t .n6 .n11 g107 fun _ => rfl
noncomputable def s107 (v : OV) (e : FEnv) : FEnv := FEnv.rec (motive := fun _ => FEnv) (fun b0 b1 b2 b3 b4 b5 b6 b7 b8 b9 b10 b11 b12 b13 b14 b15 => FEnv.mk b0 b1 b2 b3 b4 b5 (ls11 v b6) b7 b8 b9 b10 b11 b12 b13 b14 b15) e
noncomputable def D107 : FD := .at .n6 .n11 s107 fun _ _ => rfl
noncomputable def g108 (e : FEnv) : OV := FEnv.rec (motive := fun _ => OV) (fun b0 b1 b2 b3 b4 b5 b6 b7 b8 b9 b10 b11 b12 b13 b14 b15 => Leaf.rec (motive := fun _ => OV) (fun a0 a1 a2 a3 a4 a5 a6 a7 a8 a9 a10 a11 a12 a13 a14 a15 => a12) b6) e
noncomputable def T108 : FX := .t .n6 .n12 g108 fun _ => rfl
noncomputable def s108 (v : OV) (e : FEnv) : FEnv := FEnv.rec (motive := fun _ => FEnv) (fun b0 b1 b2 b3 b4 b5 b6 b7 b8 b9 b10 b11 b12 b13 b14 b15 => FEnv.mk b0 b1 b2 b3 b4 b5 (ls12 v b6) b7 b8 b9 b10 b11 b12 b13 b14 b15) e
noncomputable def D108 : FD := .at .n6 .n12 s108 fun _ _ => rfl
noncomputable def g109 (e : FEnv) : OV := FEnv.rec (motive := fun _ => OV) (fun b0 b1 b2 b3 b4 b5 b6 b7 b8 b9 b10 b11 b12 b13 b14 b15 => Leaf.rec (motive := fun _ => OV) (fun a0 a1 a2 a3 a4 a5 a6 a7 a8 a9 a10 a11 a12 a13 a14 a15 => a13) b6) e
noncomputable def T109 : FX := .t .n6 .n13 g109 fun _ => rfl
noncomputable def s109 (v : OV) (e : FEnv) : FEnv := FEnv.rec (motive := fun _ => FEnv) (fun b0 b1 b2 b3 b4 b5 b6 b7 b8 b9 b10 b11 b12 b13 b14 b15 => FEnv.mk b0 b1 b2 b3 b4 b5 (ls13 v b6) b7 b8 b9 b10 b11 b12 b13 b14 b15) e
noncomputable def D109 : FD := .at .n6 .n13 s109 fun _ _ => rfl
noncomputable def g110 (e : FEnv) : OV := FEnv.rec (motive := fun _ => OV) (fun b0 b1 b2 b3 b4 b5 b6 b7 b8 b9 b10 b11 b12 b13 b14 b15 => Leaf.rec (motive := fun _ => OV) (fun a0 a1 a2 a3 a4 a5 a6 a7 a8 a9 a10 a11 a12 a13 a14 a15 => a14) b6) e
noncomputable def T110 : FX := .t .n6 .n14 g110 fun _ => rfl
noncomputable def s110 (v : OV) (e : FEnv) : FEnv := FEnv.rec (motive := fun _ => FEnv) (fun b0 b1 b2 b3 b4 b5 b6 b7 b8 b9 b10 b11 b12 b13 b14 b15 => FEnv.mk b0 b1 b2 b3 b4 b5 (ls14 v b6) b7 b8 b9 b10 b11 b12 b13 b14 b15) e
noncomputable def D110 : FD := .at .n6 .n14 s110 fun _ _ => rfl
noncomputable def g111 (e : FEnv) : OV := FEnv.rec (motive := fun _ => OV) (fun b0 b1 b2 b3 b4 b5 b6 b7 b8 b9 b10 b11 b12 b13 b14 b15 => Leaf.rec (motive := fun _ => OV) (fun a0 a1 a2 a3 a4 a5 a6 a7 a8 a9 a10 a11 a12 a13 a14 a15 => a15) b6) e
noncomputable def T111 : FX := .t .n6 .n15 g111 fun _ => rfl
noncomputable def s111 (v : OV) (e : FEnv) : FEnv := FEnv.rec (motive := fun _ => FEnv) (fun b0 b1 b2 b3 b4 b5 b6 b7 b8 b9 b10 b11 b12 b13 b14 b15 => FEnv.mk b0 b1 b2 b3 b4 b5 (ls15 v b6) b7 b8 b9 b10 b11 b12 b13 b14 b15) e
noncomputable def D111 : FD := .at .n6 .n15 s111 fun _ _ => rfl
noncomputable def g112 (e : FEnv) : OV := FEnv.rec (motive := fun _ => OV) (fun b0 b1 b2 b3 b4 b5 b6 b7 b8 b9 b10 b11 b12 b13 b14 b15 => Leaf.rec (motive := fun _ => OV) (fun a0 a1 a2 a3 a4 a5 a6 a7 a8 a9 a10 a11 a12 a13 a14 a15 => a0) b7) e
noncomputable def T112 : FX := .t .n7 .n0 g112 fun _ => rfl
noncomputable def s112 (v : OV) (e : FEnv) : FEnv := FEnv.rec (motive := fun _ => FEnv) (fun b0 b1 b2 b3 b4 b5 b6 b7 b8 b9 b10 b11 b12 b13 b14 b15 => FEnv.mk b0 b1 b2 b3 b4 b5 b6 (ls0 v b7) b8 b9 b10 b11 b12 b13 b14 b15) e
noncomputable def D112 : FD := .at .n7 .n0 s112 fun _ _ => rfl
noncomputable def g113 (e : FEnv) : OV := FEnv.rec (motive := fun _ => OV) (fun b0 b1 b2 b3 b4 b5 b6 b7 b8 b9 b10 b11 b12 b13 b14 b15 => Leaf.rec (motive := fun _ => OV) (fun a0 a1 a2 a3 a4 a5 a6 a7 a8 a9 a10 a11 a12 a13 a14 a15 => a1) b7) e
noncomputable def T113 : FX := .t .n7 .n1 g113 fun _ => rfl
noncomputable def s113 (v : OV) (e : FEnv) : FEnv := FEnv.rec (motive := fun _ => FEnv) (fun b0 b1 b2 b3 b4 b5 b6 b7 b8 b9 b10 b11 b12 b13 b14 b15 => FEnv.mk b0 b1 b2 b3 b4 b5 b6 (ls1 v b7) b8 b9 b10 b11 b12 b13 b14 b15) e
noncomputable def D113 : FD := .at .n7 .n1 s113 fun _ _ => rfl
noncomputable def g114 (e : FEnv) : OV := FEnv.rec (motive := fun _ => OV) (fun b0 b1 b2 b3 b4 b5 b6 b7 b8 b9 b10 b11 b12 b13 b14 b15 => Leaf.rec (motive := fun _ => OV) (fun a0 a1 a2 a3 a4 a5 a6 a7 a8 a9 a10 a11 a12 a13 a14 a15 => a2) b7) e
noncomputable def T114 : FX := .t .n7 .n2 g114 fun _ => rfl
noncomputable def s114 (v : OV) (e : FEnv) : FEnv := FEnv.rec (motive := fun _ => FEnv) (fun b0 b1 b2 b3 b4 b5 b6 b7 b8 b9 b10 b11 b12 b13 b14 b15 => FEnv.mk b0 b1 b2 b3 b4 b5 b6 (ls2 v b7) b8 b9 b10 b11 b12 b13 b14 b15) e
noncomputable def D114 : FD := .at .n7 .n2 s114 fun _ _ => rfl
noncomputable def g115 (e : FEnv) : OV := FEnv.rec (motive := fun _ => OV) (fun b0 b1 b2 b3 b4 b5 b6 b7 b8 b9 b10 b11 b12 b13 b14 b15 => Leaf.rec (motive := fun _ => OV) (fun a0 a1 a2 a3 a4 a5 a6 a7 a8 a9 a10 a11 a12 a13 a14 a15 => a3) b7) e
noncomputable def T115 : FX := .t .n7 .n3 g115 fun _ => rfl
noncomputable def s115 (v : OV) (e : FEnv) : FEnv := FEnv.rec (motive := fun _ => FEnv) (fun b0 b1 b2 b3 b4 b5 b6 b7 b8 b9 b10 b11 b12 b13 b14 b15 => FEnv.mk b0 b1 b2 b3 b4 b5 b6 (ls3 v b7) b8 b9 b10 b11 b12 b13 b14 b15) e
noncomputable def D115 : FD := .at .n7 .n3 s115 fun _ _ => rfl
noncomputable def g116 (e : FEnv) : OV := FEnv.rec (motive := fun _ => OV) (fun b0 b1 b2 b3 b4 b5 b6 b7 b8 b9 b10 b11 b12 b13 b14 b15 => Leaf.rec (motive := fun _ => OV) (fun a0 a1 a2 a3 a4 a5 a6 a7 a8 a9 a10 a11 a12 a13 a14 a15 => a4) b7) e
noncomputable def T116 : FX := .t .n7 .n4 g116 fun _ => rfl
noncomputable def s116 (v : OV) (e : FEnv) : FEnv := FEnv.rec (motive := fun _ => FEnv) (fun b0 b1 b2 b3 b4 b5 b6 b7 b8 b9 b10 b11 b12 b13 b14 b15 => FEnv.mk b0 b1 b2 b3 b4 b5 b6 (ls4 v b7) b8 b9 b10 b11 b12 b13 b14 b15) e
noncomputable def D116 : FD := .at .n7 .n4 s116 fun _ _ => rfl
noncomputable def g117 (e : FEnv) : OV := FEnv.rec (motive := fun _ => OV) (fun b0 b1 b2 b3 b4 b5 b6 b7 b8 b9 b10 b11 b12 b13 b14 b15 => Leaf.rec (motive := fun _ => OV) (fun a0 a1 a2 a3 a4 a5 a6 a7 a8 a9 a10 a11 a12 a13 a14 a15 => a5) b7) e
noncomputable def T117 : FX := .t .n7 .n5 g117 fun _ => rfl
noncomputable def s117 (v : OV) (e : FEnv) : FEnv := FEnv.rec (motive := fun _ => FEnv) (fun b0 b1 b2 b3 b4 b5 b6 b7 b8 b9 b10 b11 b12 b13 b14 b15 => FEnv.mk b0 b1 b2 b3 b4 b5 b6 (ls5 v b7) b8 b9 b10 b11 b12 b13 b14 b15) e
noncomputable def D117 : FD := .at .n7 .n5 s117 fun _ _ => rfl
noncomputable def g118 (e : FEnv) : OV := FEnv.rec (motive := fun _ => OV) (fun b0 b1 b2 b3 b4 b5 b6 b7 b8 b9 b10 b11 b12 b13 b14 b15 => Leaf.rec (motive := fun _ => OV) (fun a0 a1 a2 a3 a4 a5 a6 a7 a8 a9 a10 a11 a12 a13 a14 a15 => a6) b7) e
noncomputable def T118 : FX := .t .n7 .n6 g118 fun _ => rfl
noncomputable def s118 (v : OV) (e : FEnv) : FEnv := FEnv.rec (motive := fun _ => FEnv) (fun b0 b1 b2 b3 b4 b5 b6 b7 b8 b9 b10 b11 b12 b13 b14 b15 => FEnv.mk b0 b1 b2 b3 b4 b5 b6 (ls6 v b7) b8 b9 b10 b11 b12 b13 b14 b15) e
noncomputable def D118 : FD := .at .n7 .n6 s118 fun _ _ => rfl
noncomputable def g119 (e : FEnv) : OV := FEnv.rec (motive := fun _ => OV) (fun b0 b1 b2 b3 b4 b5 b6 b7 b8 b9 b10 b11 b12 b13 b14 b15 => Leaf.rec (motive := fun _ => OV) (fun a0 a1 a2 a3 a4 a5 a6 a7 a8 a9 a10 a11 a12 a13 a14 a15 => a7) b7) e
noncomputable def T119 : FX := .t .n7 .n7 g119 fun _ => rfl
noncomputable def s119 (v : OV) (e : FEnv) : FEnv := FEnv.rec (motive := fun _ => FEnv) (fun b0 b1 b2 b3 b4 b5 b6 b7 b8 b9 b10 b11 b12 b13 b14 b15 => FEnv.mk b0 b1 b2 b3 b4 b5 b6 (ls7 v b7) b8 b9 b10 b11 b12 b13 b14 b15) e
noncomputable def D119 : FD := .at .n7 .n7 s119 fun _ _ => rfl
noncomputable def g120 (e : FEnv) : OV := FEnv.rec (motive := fun _ => OV) (fun b0 b1 b2 b3 b4 b5 b6 b7 b8 b9 b10 b11 b12 b13 b14 b15 => Leaf.rec (motive := fun _ => OV) (fun a0 a1 a2 a3 a4 a5 a6 a7 a8 a9 a10 a11 a12 a13 a14 a15 => a8) b7) e
noncomputable def T120 : FX := .t .n7 .n8 g120 fun _ => rfl
noncomputable def s120 (v : OV) (e : FEnv) : FEnv := FEnv.rec (motive := fun _ => FEnv) (fun b0 b1 b2 b3 b4 b5 b6 b7 b8 b9 b10 b11 b12 b13 b14 b15 => FEnv.mk b0 b1 b2 b3 b4 b5 b6 (ls8 v b7) b8 b9 b10 b11 b12 b13 b14 b15) e
noncomputable def D120 : FD := .at .n7 .n8 s120 fun _ _ => rfl
noncomputable def g121 (e : FEnv) : OV := FEnv.rec (motive := fun _ => OV) (fun b0 b1 b2 b3 b4 b5 b6 b7 b8 b9 b10 b11 b12 b13 b14 b15 => Leaf.rec (motive := fun _ => OV) (fun a0 a1 a2 a3 a4 a5 a6 a7 a8 a9 a10 a11 a12 a13 a14 a15 => a9) b7) e
noncomputable def T121 : FX := .t .n7 .n9 g121 fun _ => rfl
noncomputable def s121 (v : OV) (e : FEnv) : FEnv := FEnv.rec (motive := fun _ => FEnv) (fun b0 b1 b2 b3 b4 b5 b6 b7 b8 b9 b10 b11 b12 b13 b14 b15 => FEnv.mk b0 b1 b2 b3 b4 b5 b6 (ls9 v b7) b8 b9 b10 b11 b12 b13 b14 b15) e
noncomputable def D121 : FD := .at .n7 .n9 s121 fun _ _ => rfl
noncomputable def g122 (e : FEnv) : OV := FEnv.rec (motive := fun _ => OV) (fun b0 b1 b2 b3 b4 b5 b6 b7 b8 b9 b10 b11 b12 b13 b14 b15 => Leaf.rec (motive := fun _ => OV) (fun a0 a1 a2 a3 a4 a5 a6 a7 a8 a9 a10 a11 a12 a13 a14 a15 => a10) b7) e
noncomputable def T122 : FX := .t .n7 .n10 g122 fun _ => rfl
noncomputable def s122 (v : OV) (e : FEnv) : FEnv := FEnv.rec (motive := fun _ => FEnv) (fun b0 b1 b2 b3 b4 b5 b6 b7 b8 b9 b10 b11 b12 b13 b14 b15 => FEnv.mk b0 b1 b2 b3 b4 b5 b6 (ls10 v b7) b8 b9 b10 b11 b12 b13 b14 b15) e
noncomputable def D122 : FD := .at .n7 .n10 s122 fun _ _ => rfl
noncomputable def g123 (e : FEnv) : OV := FEnv.rec (motive := fun _ => OV) (fun b0 b1 b2 b3 b4 b5 b6 b7 b8 b9 b10 b11 b12 b13 b14 b15 => Leaf.rec (motive := fun _ => OV) (fun a0 a1 a2 a3 a4 a5 a6 a7 a8 a9 a10 a11 a12 a13 a14 a15 => a11) b7) e
noncomputable def T123 : FX := .t .n7 .n11 g123 fun _ => rfl
noncomputable def s123 (v : OV) (e : FEnv) : FEnv := FEnv.rec (motive := fun _ => FEnv) (fun b0 b1 b2 b3 b4 b5 b6 b7 b8 b9 b10 b11 b12 b13 b14 b15 => FEnv.mk b0 b1 b2 b3 b4 b5 b6 (ls11 v b7) b8 b9 b10 b11 b12 b13 b14 b15) e
noncomputable def D123 : FD := .at .n7 .n11 s123 fun _ _ => rfl
noncomputable def g124 (e : FEnv) : OV := FEnv.rec (motive := fun _ => OV) (fun b0 b1 b2 b3 b4 b5 b6 b7 b8 b9 b10 b11 b12 b13 b14 b15 => Leaf.rec (motive := fun _ => OV) (fun a0 a1 a2 a3 a4 a5 a6 a7 a8 a9 a10 a11 a12 a13 a14 a15 => a12) b7) e
noncomputable def T124 : FX := .t .n7 .n12 g124 fun _ => rfl
noncomputable def s124 (v : OV) (e : FEnv) : FEnv := FEnv.rec (motive := fun _ => FEnv) (fun b0 b1 b2 b3 b4 b5 b6 b7 b8 b9 b10 b11 b12 b13 b14 b15 => FEnv.mk b0 b1 b2 b3 b4 b5 b6 (ls12 v b7) b8 b9 b10 b11 b12 b13 b14 b15) e
noncomputable def D124 : FD := .at .n7 .n12 s124 fun _ _ => rfl
noncomputable def g125 (e : FEnv) : OV := FEnv.rec (motive := fun _ => OV) (fun b0 b1 b2 b3 b4 b5 b6 b7 b8 b9 b10 b11 b12 b13 b14 b15 => Leaf.rec (motive := fun _ => OV) (fun a0 a1 a2 a3 a4 a5 a6 a7 a8 a9 a10 a11 a12 a13 a14 a15 => a13) b7) e
noncomputable def T125 : FX := .t .n7 .n13 g125 fun _ => rfl
noncomputable def s125 (v : OV) (e : FEnv) : FEnv := FEnv.rec (motive := fun _ => FEnv) (fun b0 b1 b2 b3 b4 b5 b6 b7 b8 b9 b10 b11 b12 b13 b14 b15 => FEnv.mk b0 b1 b2 b3 b4 b5 b6 (ls13 v b7) b8 b9 b10 b11 b12 b13 b14 b15) e
noncomputable def D125 : FD := .at .n7 .n13 s125 fun _ _ => rfl
noncomputable def g126 (e : FEnv) : OV := FEnv.rec (motive := fun _ => OV) (fun b0 b1 b2 b3 b4 b5 b6 b7 b8 b9 b10 b11 b12 b13 b14 b15 => Leaf.rec (motive := fun _ => OV) (fun a0 a1 a2 a3 a4 a5 a6 a7 a8 a9 a10 a11 a12 a13 a14 a15 => a14) b7) e
noncomputable def T126 : FX := .t .n7 .n14 g126 fun _ => rfl
noncomputable def s126 (v : OV) (e : FEnv) : FEnv := FEnv.rec (motive := fun _ => FEnv) (fun b0 b1 b2 b3 b4 b5 b6 b7 b8 b9 b10 b11 b12 b13 b14 b15 => FEnv.mk b0 b1 b2 b3 b4 b5 b6 (ls14 v b7) b8 b9 b10 b11 b12 b13 b14 b15) e
noncomputable def D126 : FD := .at .n7 .n14 s126 fun _ _ => rfl
noncomputable def g127 (e : FEnv) : OV := FEnv.rec (motive := fun _ => OV) (fun b0 b1 b2 b3 b4 b5 b6 b7 b8 b9 b10 b11 b12 b13 b14 b15 => Leaf.rec (motive := fun _ => OV) (fun a0 a1 a2 a3 a4 a5 a6 a7 a8 a9 a10 a11 a12 a13 a14 a15 => a15) b7) e
noncomputable def T127 : FX := .t .n7 .n15 g127 fun _ => rfl
noncomputable def s127 (v : OV) (e : FEnv) : FEnv := FEnv.rec (motive := fun _ => FEnv) (fun b0 b1 b2 b3 b4 b5 b6 b7 b8 b9 b10 b11 b12 b13 b14 b15 => FEnv.mk b0 b1 b2 b3 b4 b5 b6 (ls15 v b7) b8 b9 b10 b11 b12 b13 b14 b15) e
noncomputable def D127 : FD := .at .n7 .n15 s127 fun _ _ => rfl
noncomputable def g128 (e : FEnv) : OV := FEnv.rec (motive := fun _ => OV) (fun b0 b1 b2 b3 b4 b5 b6 b7 b8 b9 b10 b11 b12 b13 b14 b15 => Leaf.rec (motive := fun _ => OV) (fun a0 a1 a2 a3 a4 a5 a6 a7 a8 a9 a10 a11 a12 a13 a14 a15 => a0) b8) e
noncomputable def T128 : FX := .t .n8 .n0 g128 fun _ => rfl
noncomputable def s128 (v : OV) (e : FEnv) : FEnv := FEnv.rec (motive := fun _ => FEnv) (fun b0 b1 b2 b3 b4 b5 b6 b7 b8 b9 b10 b11 b12 b13 b14 b15 => FEnv.mk b0 b1 b2 b3 b4 b5 b6 b7 (ls0 v b8) b9 b10 b11 b12 b13 b14 b15) e
noncomputable def D128 : FD := .at .n8 .n0 s128 fun _ _ => rfl
noncomputable def g129 (e : FEnv) : OV := FEnv.rec (motive := fun _ => OV) (fun b0 b1 b2 b3 b4 b5 b6 b7 b8 b9 b10 b11 b12 b13 b14 b15 => Leaf.rec (motive := fun _ => OV) (fun a0 a1 a2 a3 a4 a5 a6 a7 a8 a9 a10 a11 a12 a13 a14 a15 => a1) b8) e
noncomputable def T129 : FX := .t .n8 .n1 g129 fun _ => rfl
noncomputable def s129 (v : OV) (e : FEnv) : FEnv := FEnv.rec (motive := fun _ => FEnv) (fun b0 b1 b2 b3 b4 b5 b6 b7 b8 b9 b10 b11 b12 b13 b14 b15 => FEnv.mk b0 b1 b2 b3 b4 b5 b6 b7 (ls1 v b8) b9 b10 b11 b12 b13 b14 b15) e
noncomputable def D129 : FD := .at .n8 .n1 s129 fun _ _ => rfl
noncomputable def g130 (e : FEnv) : OV := FEnv.rec (motive := fun _ => OV) (fun b0 b1 b2 b3 b4 b5 b6 b7 b8 b9 b10 b11 b12 b13 b14 b15 => Leaf.rec (motive := fun _ => OV) (fun a0 a1 a2 a3 a4 a5 a6 a7 a8 a9 a10 a11 a12 a13 a14 a15 => a2) b8) e
noncomputable def T130 : FX := .t .n8 .n2 g130 fun _ => rfl
noncomputable def s130 (v : OV) (e : FEnv) : FEnv := FEnv.rec (motive := fun _ => FEnv) (fun b0 b1 b2 b3 b4 b5 b6 b7 b8 b9 b10 b11 b12 b13 b14 b15 => FEnv.mk b0 b1 b2 b3 b4 b5 b6 b7 (ls2 v b8) b9 b10 b11 b12 b13 b14 b15) e
noncomputable def D130 : FD := .at .n8 .n2 s130 fun _ _ => rfl
noncomputable def g131 (e : FEnv) : OV := FEnv.rec (motive := fun _ => OV) (fun b0 b1 b2 b3 b4 b5 b6 b7 b8 b9 b10 b11 b12 b13 b14 b15 => Leaf.rec (motive := fun _ => OV) (fun a0 a1 a2 a3 a4 a5 a6 a7 a8 a9 a10 a11 a12 a13 a14 a15 => a3) b8) e
noncomputable def T131 : FX := .t .n8 .n3 g131 fun _ => rfl
noncomputable def s131 (v : OV) (e : FEnv) : FEnv := FEnv.rec (motive := fun _ => FEnv) (fun b0 b1 b2 b3 b4 b5 b6 b7 b8 b9 b10 b11 b12 b13 b14 b15 => FEnv.mk b0 b1 b2 b3 b4 b5 b6 b7 (ls3 v b8) b9 b10 b11 b12 b13 b14 b15) e
noncomputable def D131 : FD := .at .n8 .n3 s131 fun _ _ => rfl
noncomputable def g132 (e : FEnv) : OV := FEnv.rec (motive := fun _ => OV) (fun b0 b1 b2 b3 b4 b5 b6 b7 b8 b9 b10 b11 b12 b13 b14 b15 => Leaf.rec (motive := fun _ => OV) (fun a0 a1 a2 a3 a4 a5 a6 a7 a8 a9 a10 a11 a12 a13 a14 a15 => a4) b8) e
noncomputable def T132 : FX := .t .n8 .n4 g132 fun _ => rfl
noncomputable def s132 (v : OV) (e : FEnv) : FEnv := FEnv.rec (motive := fun _ => FEnv) (fun b0 b1 b2 b3 b4 b5 b6 b7 b8 b9 b10 b11 b12 b13 b14 b15 => FEnv.mk b0 b1 b2 b3 b4 b5 b6 b7 (ls4 v b8) b9 b10 b11 b12 b13 b14 b15) e
noncomputable def D132 : FD := .at .n8 .n4 s132 fun _ _ => rfl
noncomputable def g133 (e : FEnv) : OV := FEnv.rec (motive := fun _ => OV) (fun b0 b1 b2 b3 b4 b5 b6 b7 b8 b9 b10 b11 b12 b13 b14 b15 => Leaf.rec (motive := fun _ => OV) (fun a0 a1 a2 a3 a4 a5 a6 a7 a8 a9 a10 a11 a12 a13 a14 a15 => a5) b8) e
noncomputable def T133 : FX := .t .n8 .n5 g133 fun _ => rfl
noncomputable def s133 (v : OV) (e : FEnv) : FEnv := FEnv.rec (motive := fun _ => FEnv) (fun b0 b1 b2 b3 b4 b5 b6 b7 b8 b9 b10 b11 b12 b13 b14 b15 => FEnv.mk b0 b1 b2 b3 b4 b5 b6 b7 (ls5 v b8) b9 b10 b11 b12 b13 b14 b15) e
noncomputable def D133 : FD := .at .n8 .n5 s133 fun _ _ => rfl
noncomputable def g134 (e : FEnv) : OV := FEnv.rec (motive := fun _ => OV) (fun b0 b1 b2 b3 b4 b5 b6 b7 b8 b9 b10 b11 b12 b13 b14 b15 => Leaf.rec (motive := fun _ => OV) (fun a0 a1 a2 a3 a4 a5 a6 a7 a8 a9 a10 a11 a12 a13 a14 a15 => a6) b8) e
noncomputable def T134 : FX := .t .n8 .n6 g134 fun _ => rfl
noncomputable def s134 (v : OV) (e : FEnv) : FEnv := FEnv.rec (motive := fun _ => FEnv) (fun b0 b1 b2 b3 b4 b5 b6 b7 b8 b9 b10 b11 b12 b13 b14 b15 => FEnv.mk b0 b1 b2 b3 b4 b5 b6 b7 (ls6 v b8) b9 b10 b11 b12 b13 b14 b15) e
noncomputable def D134 : FD := .at .n8 .n6 s134 fun _ _ => rfl
noncomputable def g135 (e : FEnv) : OV := FEnv.rec (motive := fun _ => OV) (fun b0 b1 b2 b3 b4 b5 b6 b7 b8 b9 b10 b11 b12 b13 b14 b15 => Leaf.rec (motive := fun _ => OV) (fun a0 a1 a2 a3 a4 a5 a6 a7 a8 a9 a10 a11 a12 a13 a14 a15 => a7) b8) e
noncomputable def T135 : FX := .t .n8 .n7 g135 fun _ => rfl
noncomputable def s135 (v : OV) (e : FEnv) : FEnv := FEnv.rec (motive := fun _ => FEnv) (fun b0 b1 b2 b3 b4 b5 b6 b7 b8 b9 b10 b11 b12 b13 b14 b15 => FEnv.mk b0 b1 b2 b3 b4 b5 b6 b7 (ls7 v b8) b9 b10 b11 b12 b13 b14 b15) e
noncomputable def D135 : FD := .at .n8 .n7 s135 fun _ _ => rfl
noncomputable def g136 (e : FEnv) : OV := FEnv.rec (motive := fun _ => OV) (fun b0 b1 b2 b3 b4 b5 b6 b7 b8 b9 b10 b11 b12 b13 b14 b15 => Leaf.rec (motive := fun _ => OV) (fun a0 a1 a2 a3 a4 a5 a6 a7 a8 a9 a10 a11 a12 a13 a14 a15 => a8) b8) e
noncomputable def T136 : FX := .t .n8 .n8 g136 fun _ => rfl
noncomputable def s136 (v : OV) (e : FEnv) : FEnv := FEnv.rec (motive := fun _ => FEnv) (fun b0 b1 b2 b3 b4 b5 b6 b7 b8 b9 b10 b11 b12 b13 b14 b15 => FEnv.mk b0 b1 b2 b3 b4 b5 b6 b7 (ls8 v b8) b9 b10 b11 b12 b13 b14 b15) e
noncomputable def D136 : FD := .at .n8 .n8 s136 fun _ _ => rfl
noncomputable def g137 (e : FEnv) : OV := FEnv.rec (motive := fun _ => OV) (fun b0 b1 b2 b3 b4 b5 b6 b7 b8 b9 b10 b11 b12 b13 b14 b15 => Leaf.rec (motive := fun _ => OV) (fun a0 a1 a2 a3 a4 a5 a6 a7 a8 a9 a10 a11 a12 a13 a14 a15 => a9) b8) e
noncomputable def T137 : FX := .t .n8 .n9 g137 fun _ => rfl
noncomputable def s137 (v : OV) (e : FEnv) : FEnv := FEnv.rec (motive := fun _ => FEnv) (fun b0 b1 b2 b3 b4 b5 b6 b7 b8 b9 b10 b11 b12 b13 b14 b15 => FEnv.mk b0 b1 b2 b3 b4 b5 b6 b7 (ls9 v b8) b9 b10 b11 b12 b13 b14 b15) e
noncomputable def D137 : FD := .at .n8 .n9 s137 fun _ _ => rfl
noncomputable def g138 (e : FEnv) : OV := FEnv.rec (motive := fun _ => OV) (fun b0 b1 b2 b3 b4 b5 b6 b7 b8 b9 b10 b11 b12 b13 b14 b15 => Leaf.rec (motive := fun _ => OV) (fun a0 a1 a2 a3 a4 a5 a6 a7 a8 a9 a10 a11 a12 a13 a14 a15 => a10) b8) e
noncomputable def T138 : FX := .t .n8 .n10 g138 fun _ => rfl
noncomputable def s138 (v : OV) (e : FEnv) : FEnv := FEnv.rec (motive := fun _ => FEnv) (fun b0 b1 b2 b3 b4 b5 b6 b7 b8 b9 b10 b11 b12 b13 b14 b15 => FEnv.mk b0 b1 b2 b3 b4 b5 b6 b7 (ls10 v b8) b9 b10 b11 b12 b13 b14 b15) e
noncomputable def D138 : FD := .at .n8 .n10 s138 fun _ _ => rfl
noncomputable def g139 (e : FEnv) : OV := FEnv.rec (motive := fun _ => OV) (fun b0 b1 b2 b3 b4 b5 b6 b7 b8 b9 b10 b11 b12 b13 b14 b15 => Leaf.rec (motive := fun _ => OV) (fun a0 a1 a2 a3 a4 a5 a6 a7 a8 a9 a10 a11 a12 a13 a14 a15 => a11) b8) e
noncomputable def T139 : FX := .t .n8 .n11 g139 fun _ => rfl
noncomputable def s139 (v : OV) (e : FEnv) : FEnv := FEnv.rec (motive := fun _ => FEnv) (fun b0 b1 b2 b3 b4 b5 b6 b7 b8 b9 b10 b11 b12 b13 b14 b15 => FEnv.mk b0 b1 b2 b3 b4 b5 b6 b7 (ls11 v b8) b9 b10 b11 b12 b13 b14 b15) e
noncomputable def D139 : FD := .at .n8 .n11 s139 fun _ _ => rfl
noncomputable def g140 (e : FEnv) : OV := FEnv.rec (motive := fun _ => OV) (fun b0 b1 b2 b3 b4 b5 b6 b7 b8 b9 b10 b11 b12 b13 b14 b15 => Leaf.rec (motive := fun _ => OV) (fun a0 a1 a2 a3 a4 a5 a6 a7 a8 a9 a10 a11 a12 a13 a14 a15 => a12) b8) e
noncomputable def T140 : FX := .t .n8 .n12 g140 fun _ => rfl
noncomputable def s140 (v : OV) (e : FEnv) : FEnv := FEnv.rec (motive := fun _ => FEnv) (fun b0 b1 b2 b3 b4 b5 b6 b7 b8 b9 b10 b11 b12 b13 b14 b15 => FEnv.mk b0 b1 b2 b3 b4 b5 b6 b7 (ls12 v b8) b9 b10 b11 b12 b13 b14 b15) e
noncomputable def D140 : FD := .at .n8 .n12 s140 fun _ _ => rfl
noncomputable def g141 (e : FEnv) : OV := FEnv.rec (motive := fun _ => OV) (fun b0 b1 b2 b3 b4 b5 b6 b7 b8 b9 b10 b11 b12 b13 b14 b15 => Leaf.rec (motive := fun _ => OV) (fun a0 a1 a2 a3 a4 a5 a6 a7 a8 a9 a10 a11 a12 a13 a14 a15 => a13) b8) e
noncomputable def T141 : FX := .t .n8 .n13 g141 fun _ => rfl
noncomputable def s141 (v : OV) (e : FEnv) : FEnv := FEnv.rec (motive := fun _ => FEnv) (fun b0 b1 b2 b3 b4 b5 b6 b7 b8 b9 b10 b11 b12 b13 b14 b15 => FEnv.mk b0 b1 b2 b3 b4 b5 b6 b7 (ls13 v b8) b9 b10 b11 b12 b13 b14 b15) e
noncomputable def D141 : FD := .at .n8 .n13 s141 fun _ _ => rfl
noncomputable def g142 (e : FEnv) : OV := FEnv.rec (motive := fun _ => OV) (fun b0 b1 b2 b3 b4 b5 b6 b7 b8 b9 b10 b11 b12 b13 b14 b15 => Leaf.rec (motive := fun _ => OV) (fun a0 a1 a2 a3 a4 a5 a6 a7 a8 a9 a10 a11 a12 a13 a14 a15 => a14) b8) e
noncomputable def T142 : FX := .t .n8 .n14 g142 fun _ => rfl
noncomputable def s142 (v : OV) (e : FEnv) : FEnv := FEnv.rec (motive := fun _ => FEnv) (fun b0 b1 b2 b3 b4 b5 b6 b7 b8 b9 b10 b11 b12 b13 b14 b15 => FEnv.mk b0 b1 b2 b3 b4 b5 b6 b7 (ls14 v b8) b9 b10 b11 b12 b13 b14 b15) e
noncomputable def D142 : FD := .at .n8 .n14 s142 fun _ _ => rfl
noncomputable def g143 (e : FEnv) : OV := FEnv.rec (motive := fun _ => OV) (fun b0 b1 b2 b3 b4 b5 b6 b7 b8 b9 b10 b11 b12 b13 b14 b15 => Leaf.rec (motive := fun _ => OV) (fun a0 a1 a2 a3 a4 a5 a6 a7 a8 a9 a10 a11 a12 a13 a14 a15 => a15) b8) e
noncomputable def T143 : FX := .t .n8 .n15 g143 fun _ => rfl
noncomputable def s143 (v : OV) (e : FEnv) : FEnv := FEnv.rec (motive := fun _ => FEnv) (fun b0 b1 b2 b3 b4 b5 b6 b7 b8 b9 b10 b11 b12 b13 b14 b15 => FEnv.mk b0 b1 b2 b3 b4 b5 b6 b7 (ls15 v b8) b9 b10 b11 b12 b13 b14 b15) e
noncomputable def D143 : FD := .at .n8 .n15 s143 fun _ _ => rfl
noncomputable def g144 (e : FEnv) : OV := FEnv.rec (motive := fun _ => OV) (fun b0 b1 b2 b3 b4 b5 b6 b7 b8 b9 b10 b11 b12 b13 b14 b15 => Leaf.rec (motive := fun _ => OV) (fun a0 a1 a2 a3 a4 a5 a6 a7 a8 a9 a10 a11 a12 a13 a14 a15 => a0) b9) e
noncomputable def T144 : FX := .t .n9 .n0 g144 fun _ => rfl
noncomputable def s144 (v : OV) (e : FEnv) : FEnv := FEnv.rec (motive := fun _ => FEnv) (fun b0 b1 b2 b3 b4 b5 b6 b7 b8 b9 b10 b11 b12 b13 b14 b15 => FEnv.mk b0 b1 b2 b3 b4 b5 b6 b7 b8 (ls0 v b9) b10 b11 b12 b13 b14 b15) e
noncomputable def D144 : FD := .at .n9 .n0 s144 fun _ _ => rfl
noncomputable def g145 (e : FEnv) : OV := FEnv.rec (motive := fun _ => OV) (fun b0 b1 b2 b3 b4 b5 b6 b7 b8 b9 b10 b11 b12 b13 b14 b15 => Leaf.rec (motive := fun _ => OV) (fun a0 a1 a2 a3 a4 a5 a6 a7 a8 a9 a10 a11 a12 a13 a14 a15 => a1) b9) e
noncomputable def T145 : FX := .t .n9 .n1 g145 fun _ => rfl
noncomputable def s145 (v : OV) (e : FEnv) : FEnv := FEnv.rec (motive := fun _ => FEnv) (fun b0 b1 b2 b3 b4 b5 b6 b7 b8 b9 b10 b11 b12 b13 b14 b15 => FEnv.mk b0 b1 b2 b3 b4 b5 b6 b7 b8 (ls1 v b9) b10 b11 b12 b13 b14 b15) e
noncomputable def D145 : FD := .at .n9 .n1 s145 fun _ _ => rfl
noncomputable def g146 (e : FEnv) : OV := FEnv.rec (motive := fun _ => OV) (fun b0 b1 b2 b3 b4 b5 b6 b7 b8 b9 b10 b11 b12 b13 b14 b15 => Leaf.rec (motive := fun _ => OV) (fun a0 a1 a2 a3 a4 a5 a6 a7 a8 a9 a10 a11 a12 a13 a14 a15 => a2) b9) e
noncomputable def T146 : FX := .t .n9 .n2 g146 fun _ => rfl
noncomputable def s146 (v : OV) (e : FEnv) : FEnv := FEnv.rec (motive := fun _ => FEnv) (fun b0 b1 b2 b3 b4 b5 b6 b7 b8 b9 b10 b11 b12 b13 b14 b15 => FEnv.mk b0 b1 b2 b3 b4 b5 b6 b7 b8 (ls2 v b9) b10 b11 b12 b13 b14 b15) e
noncomputable def D146 : FD := .at .n9 .n2 s146 fun _ _ => rfl
noncomputable def g147 (e : FEnv) : OV := FEnv.rec (motive := fun _ => OV) (fun b0 b1 b2 b3 b4 b5 b6 b7 b8 b9 b10 b11 b12 b13 b14 b15 => Leaf.rec (motive := fun _ => OV) (fun a0 a1 a2 a3 a4 a5 a6 a7 a8 a9 a10 a11 a12 a13 a14 a15 => a3) b9) e
noncomputable def T147 : FX := .t .n9 .n3 g147 fun _ => rfl
noncomputable def s147 (v : OV) (e : FEnv) : FEnv := FEnv.rec (motive := fun _ => FEnv) (fun b0 b1 b2 b3 b4 b5 b6 b7 b8 b9 b10 b11 b12 b13 b14 b15 => FEnv.mk b0 b1 b2 b3 b4 b5 b6 b7 b8 (ls3 v b9) b10 b11 b12 b13 b14 b15) e
noncomputable def D147 : FD := .at .n9 .n3 s147 fun _ _ => rfl
noncomputable def g148 (e : FEnv) : OV := FEnv.rec (motive := fun _ => OV) (fun b0 b1 b2 b3 b4 b5 b6 b7 b8 b9 b10 b11 b12 b13 b14 b15 => Leaf.rec (motive := fun _ => OV) (fun a0 a1 a2 a3 a4 a5 a6 a7 a8 a9 a10 a11 a12 a13 a14 a15 => a4) b9) e
noncomputable def T148 : FX := .t .n9 .n4 g148 fun _ => rfl
noncomputable def s148 (v : OV) (e : FEnv) : FEnv := FEnv.rec (motive := fun _ => FEnv) (fun b0 b1 b2 b3 b4 b5 b6 b7 b8 b9 b10 b11 b12 b13 b14 b15 => FEnv.mk b0 b1 b2 b3 b4 b5 b6 b7 b8 (ls4 v b9) b10 b11 b12 b13 b14 b15) e
noncomputable def D148 : FD := .at .n9 .n4 s148 fun _ _ => rfl
noncomputable def g149 (e : FEnv) : OV := FEnv.rec (motive := fun _ => OV) (fun b0 b1 b2 b3 b4 b5 b6 b7 b8 b9 b10 b11 b12 b13 b14 b15 => Leaf.rec (motive := fun _ => OV) (fun a0 a1 a2 a3 a4 a5 a6 a7 a8 a9 a10 a11 a12 a13 a14 a15 => a5) b9) e
noncomputable def T149 : FX := .t .n9 .n5 g149 fun _ => rfl
noncomputable def s149 (v : OV) (e : FEnv) : FEnv := FEnv.rec (motive := fun _ => FEnv) (fun b0 b1 b2 b3 b4 b5 b6 b7 b8 b9 b10 b11 b12 b13 b14 b15 => FEnv.mk b0 b1 b2 b3 b4 b5 b6 b7 b8 (ls5 v b9) b10 b11 b12 b13 b14 b15) e
noncomputable def D149 : FD := .at .n9 .n5 s149 fun _ _ => rfl
noncomputable def g150 (e : FEnv) : OV := FEnv.rec (motive := fun _ => OV) (fun b0 b1 b2 b3 b4 b5 b6 b7 b8 b9 b10 b11 b12 b13 b14 b15 => Leaf.rec (motive := fun _ => OV) (fun a0 a1 a2 a3 a4 a5 a6 a7 a8 a9 a10 a11 a12 a13 a14 a15 => a6) b9) e
noncomputable def T150 : FX := .t .n9 .n6 g150 fun _ => rfl
noncomputable def s150 (v : OV) (e : FEnv) : FEnv := FEnv.rec (motive := fun _ => FEnv) (fun b0 b1 b2 b3 b4 b5 b6 b7 b8 b9 b10 b11 b12 b13 b14 b15 => FEnv.mk b0 b1 b2 b3 b4 b5 b6 b7 b8 (ls6 v b9) b10 b11 b12 b13 b14 b15) e
noncomputable def D150 : FD := .at .n9 .n6 s150 fun _ _ => rfl
noncomputable def g151 (e : FEnv) : OV := FEnv.rec (motive := fun _ => OV) (fun b0 b1 b2 b3 b4 b5 b6 b7 b8 b9 b10 b11 b12 b13 b14 b15 => Leaf.rec (motive := fun _ => OV) (fun a0 a1 a2 a3 a4 a5 a6 a7 a8 a9 a10 a11 a12 a13 a14 a15 => a7) b9) e
noncomputable def T151 : FX := .t .n9 .n7 g151 fun _ => rfl
noncomputable def s151 (v : OV) (e : FEnv) : FEnv := FEnv.rec (motive := fun _ => FEnv) (fun b0 b1 b2 b3 b4 b5 b6 b7 b8 b9 b10 b11 b12 b13 b14 b15 => FEnv.mk b0 b1 b2 b3 b4 b5 b6 b7 b8 (ls7 v b9) b10 b11 b12 b13 b14 b15) e
noncomputable def D151 : FD := .at .n9 .n7 s151 fun _ _ => rfl
noncomputable def g152 (e : FEnv) : OV := FEnv.rec (motive := fun _ => OV) (fun b0 b1 b2 b3 b4 b5 b6 b7 b8 b9 b10 b11 b12 b13 b14 b15 => Leaf.rec (motive := fun _ => OV) (fun a0 a1 a2 a3 a4 a5 a6 a7 a8 a9 a10 a11 a12 a13 a14 a15 => a8) b9) e
noncomputable def T152 : FX := .t .n9 .n8 g152 fun _ => rfl
noncomputable def s152 (v : OV) (e : FEnv) : FEnv := FEnv.rec (motive := fun _ => FEnv) (fun b0 b1 b2 b3 b4 b5 b6 b7 b8 b9 b10 b11 b12 b13 b14 b15 => FEnv.mk b0 b1 b2 b3 b4 b5 b6 b7 b8 (ls8 v b9) b10 b11 b12 b13 b14 b15) e
noncomputable def D152 : FD := .at .n9 .n8 s152 fun _ _ => rfl
noncomputable def g153 (e : FEnv) : OV := FEnv.rec (motive := fun _ => OV) (fun b0 b1 b2 b3 b4 b5 b6 b7 b8 b9 b10 b11 b12 b13 b14 b15 => Leaf.rec (motive := fun _ => OV) (fun a0 a1 a2 a3 a4 a5 a6 a7 a8 a9 a10 a11 a12 a13 a14 a15 => a9) b9) e
noncomputable def T153 : FX := .t .n9 .n9 g153 fun _ => rfl
noncomputable def s153 (v : OV) (e : FEnv) : FEnv := FEnv.rec (motive := fun _ => FEnv) (fun b0 b1 b2 b3 b4 b5 b6 b7 b8 b9 b10 b11 b12 b13 b14 b15 => FEnv.mk b0 b1 b2 b3 b4 b5 b6 b7 b8 (ls9 v b9) b10 b11 b12 b13 b14 b15) e
noncomputable def D153 : FD := .at .n9 .n9 s153 fun _ _ => rfl
noncomputable def g154 (e : FEnv) : OV := FEnv.rec (motive := fun _ => OV) (fun b0 b1 b2 b3 b4 b5 b6 b7 b8 b9 b10 b11 b12 b13 b14 b15 => Leaf.rec (motive := fun _ => OV) (fun a0 a1 a2 a3 a4 a5 a6 a7 a8 a9 a10 a11 a12 a13 a14 a15 => a10) b9) e
noncomputable def T154 : FX := .t .n9 .n10 g154 fun _ => rfl
noncomputable def s154 (v : OV) (e : FEnv) : FEnv := FEnv.rec (motive := fun _ => FEnv) (fun b0 b1 b2 b3 b4 b5 b6 b7 b8 b9 b10 b11 b12 b13 b14 b15 => FEnv.mk b0 b1 b2 b3 b4 b5 b6 b7 b8 (ls10 v b9) b10 b11 b12 b13 b14 b15) e
noncomputable def D154 : FD := .at .n9 .n10 s154 fun _ _ => rfl
noncomputable def g155 (e : FEnv) : OV := FEnv.rec (motive := fun _ => OV) (fun b0 b1 b2 b3 b4 b5 b6 b7 b8 b9 b10 b11 b12 b13 b14 b15 => Leaf.rec (motive := fun _ => OV) (fun a0 a1 a2 a3 a4 a5 a6 a7 a8 a9 a10 a11 a12 a13 a14 a15 => a11) b9) e
noncomputable def T155 : FX := .t .n9 .n11 g155 fun _ => rfl
noncomputable def s155 (v : OV) (e : FEnv) : FEnv := FEnv.rec (motive := fun _ => FEnv) (fun b0 b1 b2 b3 b4 b5 b6 b7 b8 b9 b10 b11 b12 b13 b14 b15 => FEnv.mk b0 b1 b2 b3 b4 b5 b6 b7 b8 (ls11 v b9) b10 b11 b12 b13 b14 b15) e
noncomputable def D155 : FD := .at .n9 .n11 s155 fun _ _ => rfl
noncomputable def g156 (e : FEnv) : OV := FEnv.rec (motive := fun _ => OV) (fun b0 b1 b2 b3 b4 b5 b6 b7 b8 b9 b10 b11 b12 b13 b14 b15 => Leaf.rec (motive := fun _ => OV) (fun a0 a1 a2 a3 a4 a5 a6 a7 a8 a9 a10 a11 a12 a13 a14 a15 => a12) b9) e
noncomputable def T156 : FX := .t .n9 .n12 g156 fun _ => rfl
noncomputable def s156 (v : OV) (e : FEnv) : FEnv := FEnv.rec (motive := fun _ => FEnv) (fun b0 b1 b2 b3 b4 b5 b6 b7 b8 b9 b10 b11 b12 b13 b14 b15 => FEnv.mk b0 b1 b2 b3 b4 b5 b6 b7 b8 (ls12 v b9) b10 b11 b12 b13 b14 b15) e
noncomputable def D156 : FD := .at .n9 .n12 s156 fun _ _ => rfl
noncomputable def g157 (e : FEnv) : OV := FEnv.rec (motive := fun _ => OV) (fun b0 b1 b2 b3 b4 b5 b6 b7 b8 b9 b10 b11 b12 b13 b14 b15 => Leaf.rec (motive := fun _ => OV) (fun a0 a1 a2 a3 a4 a5 a6 a7 a8 a9 a10 a11 a12 a13 a14 a15 => a13) b9) e
noncomputable def T157 : FX := .t .n9 .n13 g157 fun _ => rfl
noncomputable def s157 (v : OV) (e : FEnv) : FEnv := FEnv.rec (motive := fun _ => FEnv) (fun b0 b1 b2 b3 b4 b5 b6 b7 b8 b9 b10 b11 b12 b13 b14 b15 => FEnv.mk b0 b1 b2 b3 b4 b5 b6 b7 b8 (ls13 v b9) b10 b11 b12 b13 b14 b15) e
noncomputable def D157 : FD := .at .n9 .n13 s157 fun _ _ => rfl
noncomputable def g158 (e : FEnv) : OV := FEnv.rec (motive := fun _ => OV) (fun b0 b1 b2 b3 b4 b5 b6 b7 b8 b9 b10 b11 b12 b13 b14 b15 => Leaf.rec (motive := fun _ => OV) (fun a0 a1 a2 a3 a4 a5 a6 a7 a8 a9 a10 a11 a12 a13 a14 a15 => a14) b9) e
noncomputable def T158 : FX := .t .n9 .n14 g158 fun _ => rfl
noncomputable def s158 (v : OV) (e : FEnv) : FEnv := FEnv.rec (motive := fun _ => FEnv) (fun b0 b1 b2 b3 b4 b5 b6 b7 b8 b9 b10 b11 b12 b13 b14 b15 => FEnv.mk b0 b1 b2 b3 b4 b5 b6 b7 b8 (ls14 v b9) b10 b11 b12 b13 b14 b15) e
noncomputable def D158 : FD := .at .n9 .n14 s158 fun _ _ => rfl
noncomputable def g159 (e : FEnv) : OV := FEnv.rec (motive := fun _ => OV) (fun b0 b1 b2 b3 b4 b5 b6 b7 b8 b9 b10 b11 b12 b13 b14 b15 => Leaf.rec (motive := fun _ => OV) (fun a0 a1 a2 a3 a4 a5 a6 a7 a8 a9 a10 a11 a12 a13 a14 a15 => a15) b9) e
noncomputable def T159 : FX := .t .n9 .n15 g159 fun _ => rfl
noncomputable def s159 (v : OV) (e : FEnv) : FEnv := FEnv.rec (motive := fun _ => FEnv) (fun b0 b1 b2 b3 b4 b5 b6 b7 b8 b9 b10 b11 b12 b13 b14 b15 => FEnv.mk b0 b1 b2 b3 b4 b5 b6 b7 b8 (ls15 v b9) b10 b11 b12 b13 b14 b15) e
noncomputable def D159 : FD := .at .n9 .n15 s159 fun _ _ => rfl
noncomputable def g160 (e : FEnv) : OV := FEnv.rec (motive := fun _ => OV) (fun b0 b1 b2 b3 b4 b5 b6 b7 b8 b9 b10 b11 b12 b13 b14 b15 => Leaf.rec (motive := fun _ => OV) (fun a0 a1 a2 a3 a4 a5 a6 a7 a8 a9 a10 a11 a12 a13 a14 a15 => a0) b10) e
noncomputable def T160 : FX := .t .n10 .n0 g160 fun _ => rfl
noncomputable def s160 (v : OV) (e : FEnv) : FEnv := FEnv.rec (motive := fun _ => FEnv) (fun b0 b1 b2 b3 b4 b5 b6 b7 b8 b9 b10 b11 b12 b13 b14 b15 => FEnv.mk b0 b1 b2 b3 b4 b5 b6 b7 b8 b9 (ls0 v b10) b11 b12 b13 b14 b15) e
noncomputable def D160 : FD := .at .n10 .n0 s160 fun _ _ => rfl
noncomputable def g161 (e : FEnv) : OV := FEnv.rec (motive := fun _ => OV) (fun b0 b1 b2 b3 b4 b5 b6 b7 b8 b9 b10 b11 b12 b13 b14 b15 => Leaf.rec (motive := fun _ => OV) (fun a0 a1 a2 a3 a4 a5 a6 a7 a8 a9 a10 a11 a12 a13 a14 a15 => a1) b10) e
noncomputable def T161 : FX := .t .n10 .n1 g161 fun _ => rfl
noncomputable def s161 (v : OV) (e : FEnv) : FEnv := FEnv.rec (motive := fun _ => FEnv) (fun b0 b1 b2 b3 b4 b5 b6 b7 b8 b9 b10 b11 b12 b13 b14 b15 => FEnv.mk b0 b1 b2 b3 b4 b5 b6 b7 b8 b9 (ls1 v b10) b11 b12 b13 b14 b15) e
noncomputable def D161 : FD := .at .n10 .n1 s161 fun _ _ => rfl
noncomputable def g162 (e : FEnv) : OV := FEnv.rec (motive := fun _ => OV) (fun b0 b1 b2 b3 b4 b5 b6 b7 b8 b9 b10 b11 b12 b13 b14 b15 => Leaf.rec (motive := fun _ => OV) (fun a0 a1 a2 a3 a4 a5 a6 a7 a8 a9 a10 a11 a12 a13 a14 a15 => a2) b10) e
noncomputable def T162 : FX := .t .n10 .n2 g162 fun _ => rfl
noncomputable def s162 (v : OV) (e : FEnv) : FEnv := FEnv.rec (motive := fun _ => FEnv) (fun b0 b1 b2 b3 b4 b5 b6 b7 b8 b9 b10 b11 b12 b13 b14 b15 => FEnv.mk b0 b1 b2 b3 b4 b5 b6 b7 b8 b9 (ls2 v b10) b11 b12 b13 b14 b15) e
noncomputable def D162 : FD := .at .n10 .n2 s162 fun _ _ => rfl
noncomputable def g163 (e : FEnv) : OV := FEnv.rec (motive := fun _ => OV) (fun b0 b1 b2 b3 b4 b5 b6 b7 b8 b9 b10 b11 b12 b13 b14 b15 => Leaf.rec (motive := fun _ => OV) (fun a0 a1 a2 a3 a4 a5 a6 a7 a8 a9 a10 a11 a12 a13 a14 a15 => a3) b10) e
noncomputable def T163 : FX := .t .n10 .n3 g163 fun _ => rfl
noncomputable def s163 (v : OV) (e : FEnv) : FEnv := FEnv.rec (motive := fun _ => FEnv) (fun b0 b1 b2 b3 b4 b5 b6 b7 b8 b9 b10 b11 b12 b13 b14 b15 => FEnv.mk b0 b1 b2 b3 b4 b5 b6 b7 b8 b9 (ls3 v b10) b11 b12 b13 b14 b15) e
noncomputable def D163 : FD := .at .n10 .n3 s163 fun _ _ => rfl
noncomputable def g164 (e : FEnv) : OV := FEnv.rec (motive := fun _ => OV) (fun b0 b1 b2 b3 b4 b5 b6 b7 b8 b9 b10 b11 b12 b13 b14 b15 => Leaf.rec (motive := fun _ => OV) (fun a0 a1 a2 a3 a4 a5 a6 a7 a8 a9 a10 a11 a12 a13 a14 a15 => a4) b10) e
noncomputable def T164 : FX := .t .n10 .n4 g164 fun _ => rfl
noncomputable def s164 (v : OV) (e : FEnv) : FEnv := FEnv.rec (motive := fun _ => FEnv) (fun b0 b1 b2 b3 b4 b5 b6 b7 b8 b9 b10 b11 b12 b13 b14 b15 => FEnv.mk b0 b1 b2 b3 b4 b5 b6 b7 b8 b9 (ls4 v b10) b11 b12 b13 b14 b15) e
noncomputable def D164 : FD := .at .n10 .n4 s164 fun _ _ => rfl
noncomputable def g165 (e : FEnv) : OV := FEnv.rec (motive := fun _ => OV) (fun b0 b1 b2 b3 b4 b5 b6 b7 b8 b9 b10 b11 b12 b13 b14 b15 => Leaf.rec (motive := fun _ => OV) (fun a0 a1 a2 a3 a4 a5 a6 a7 a8 a9 a10 a11 a12 a13 a14 a15 => a5) b10) e
noncomputable def T165 : FX := .t .n10 .n5 g165 fun _ => rfl
noncomputable def s165 (v : OV) (e : FEnv) : FEnv := FEnv.rec (motive := fun _ => FEnv) (fun b0 b1 b2 b3 b4 b5 b6 b7 b8 b9 b10 b11 b12 b13 b14 b15 => FEnv.mk b0 b1 b2 b3 b4 b5 b6 b7 b8 b9 (ls5 v b10) b11 b12 b13 b14 b15) e
noncomputable def D165 : FD := .at .n10 .n5 s165 fun _ _ => rfl
noncomputable def g166 (e : FEnv) : OV := FEnv.rec (motive := fun _ => OV) (fun b0 b1 b2 b3 b4 b5 b6 b7 b8 b9 b10 b11 b12 b13 b14 b15 => Leaf.rec (motive := fun _ => OV) (fun a0 a1 a2 a3 a4 a5 a6 a7 a8 a9 a10 a11 a12 a13 a14 a15 => a6) b10) e
noncomputable def T166 : FX := .t .n10 .n6 g166 fun _ => rfl
noncomputable def s166 (v : OV) (e : FEnv) : FEnv := FEnv.rec (motive := fun _ => FEnv) (fun b0 b1 b2 b3 b4 b5 b6 b7 b8 b9 b10 b11 b12 b13 b14 b15 => FEnv.mk b0 b1 b2 b3 b4 b5 b6 b7 b8 b9 (ls6 v b10) b11 b12 b13 b14 b15) e
noncomputable def D166 : FD := .at .n10 .n6 s166 fun _ _ => rfl
noncomputable def g167 (e : FEnv) : OV := FEnv.rec (motive := fun _ => OV) (fun b0 b1 b2 b3 b4 b5 b6 b7 b8 b9 b10 b11 b12 b13 b14 b15 => Leaf.rec (motive := fun _ => OV) (fun a0 a1 a2 a3 a4 a5 a6 a7 a8 a9 a10 a11 a12 a13 a14 a15 => a7) b10) e
noncomputable def T167 : FX := .t .n10 .n7 g167 fun _ => rfl
noncomputable def s167 (v : OV) (e : FEnv) : FEnv := FEnv.rec (motive := fun _ => FEnv) (fun b0 b1 b2 b3 b4 b5 b6 b7 b8 b9 b10 b11 b12 b13 b14 b15 => FEnv.mk b0 b1 b2 b3 b4 b5 b6 b7 b8 b9 (ls7 v b10) b11 b12 b13 b14 b15) e
noncomputable def D167 : FD := .at .n10 .n7 s167 fun _ _ => rfl
noncomputable def g168 (e : FEnv) : OV := FEnv.rec (motive := fun _ => OV) (fun b0 b1 b2 b3 b4 b5 b6 b7 b8 b9 b10 b11 b12 b13 b14 b15 => Leaf.rec (motive := fun _ => OV) (fun a0 a1 a2 a3 a4 a5 a6 a7 a8 a9 a10 a11 a12 a13 a14 a15 => a8) b10) e
noncomputable def T168 : FX := .t .n10 .n8 g168 fun _ => rfl
noncomputable def s168 (v : OV) (e : FEnv) : FEnv := FEnv.rec (motive := fun _ => FEnv) (fun b0 b1 b2 b3 b4 b5 b6 b7 b8 b9 b10 b11 b12 b13 b14 b15 => FEnv.mk b0 b1 b2 b3 b4 b5 b6 b7 b8 b9 (ls8 v b10) b11 b12 b13 b14 b15) e
noncomputable def D168 : FD := .at .n10 .n8 s168 fun _ _ => rfl
noncomputable def g169 (e : FEnv) : OV := FEnv.rec (motive := fun _ => OV) (fun b0 b1 b2 b3 b4 b5 b6 b7 b8 b9 b10 b11 b12 b13 b14 b15 => Leaf.rec (motive := fun _ => OV) (fun a0 a1 a2 a3 a4 a5 a6 a7 a8 a9 a10 a11 a12 a13 a14 a15 => a9) b10) e
noncomputable def T169 : FX := .t .n10 .n9 g169 fun _ => rfl
noncomputable def s169 (v : OV) (e : FEnv) : FEnv := FEnv.rec (motive := fun _ => FEnv) (fun b0 b1 b2 b3 b4 b5 b6 b7 b8 b9 b10 b11 b12 b13 b14 b15 => FEnv.mk b0 b1 b2 b3 b4 b5 b6 b7 b8 b9 (ls9 v b10) b11 b12 b13 b14 b15) e
noncomputable def D169 : FD := .at .n10 .n9 s169 fun _ _ => rfl
noncomputable def g170 (e : FEnv) : OV := FEnv.rec (motive := fun _ => OV) (fun b0 b1 b2 b3 b4 b5 b6 b7 b8 b9 b10 b11 b12 b13 b14 b15 => Leaf.rec (motive := fun _ => OV) (fun a0 a1 a2 a3 a4 a5 a6 a7 a8 a9 a10 a11 a12 a13 a14 a15 => a10) b10) e
noncomputable def T170 : FX := .t .n10 .n10 g170 fun _ => rfl
noncomputable def s170 (v : OV) (e : FEnv) : FEnv := FEnv.rec (motive := fun _ => FEnv) (fun b0 b1 b2 b3 b4 b5 b6 b7 b8 b9 b10 b11 b12 b13 b14 b15 => FEnv.mk b0 b1 b2 b3 b4 b5 b6 b7 b8 b9 (ls10 v b10) b11 b12 b13 b14 b15) e
noncomputable def D170 : FD := .at .n10 .n10 s170 fun _ _ => rfl
noncomputable def g171 (e : FEnv) : OV := FEnv.rec (motive := fun _ => OV) (fun b0 b1 b2 b3 b4 b5 b6 b7 b8 b9 b10 b11 b12 b13 b14 b15 => Leaf.rec (motive := fun _ => OV) (fun a0 a1 a2 a3 a4 a5 a6 a7 a8 a9 a10 a11 a12 a13 a14 a15 => a11) b10) e
noncomputable def T171 : FX := .t .n10 .n11 g171 fun _ => rfl
noncomputable def s171 (v : OV) (e : FEnv) : FEnv := FEnv.rec (motive := fun _ => FEnv) (fun b0 b1 b2 b3 b4 b5 b6 b7 b8 b9 b10 b11 b12 b13 b14 b15 => FEnv.mk b0 b1 b2 b3 b4 b5 b6 b7 b8 b9 (ls11 v b10) b11 b12 b13 b14 b15) e
noncomputable def D171 : FD := .at .n10 .n11 s171 fun _ _ => rfl
noncomputable def g172 (e : FEnv) : OV := FEnv.rec (motive := fun _ => OV) (fun b0 b1 b2 b3 b4 b5 b6 b7 b8 b9 b10 b11 b12 b13 b14 b15 => Leaf.rec (motive := fun _ => OV) (fun a0 a1 a2 a3 a4 a5 a6 a7 a8 a9 a10 a11 a12 a13 a14 a15 => a12) b10) e
noncomputable def T172 : FX := .t .n10 .n12 g172 fun _ => rfl
noncomputable def s172 (v : OV) (e : FEnv) : FEnv := FEnv.rec (motive := fun _ => FEnv) (fun b0 b1 b2 b3 b4 b5 b6 b7 b8 b9 b10 b11 b12 b13 b14 b15 => FEnv.mk b0 b1 b2 b3 b4 b5 b6 b7 b8 b9 (ls12 v b10) b11 b12 b13 b14 b15) e
noncomputable def D172 : FD := .at .n10 .n12 s172 fun _ _ => rfl
noncomputable def g173 (e : FEnv) : OV := FEnv.rec (motive := fun _ => OV) (fun b0 b1 b2 b3 b4 b5 b6 b7 b8 b9 b10 b11 b12 b13 b14 b15 => Leaf.rec (motive := fun _ => OV) (fun a0 a1 a2 a3 a4 a5 a6 a7 a8 a9 a10 a11 a12 a13 a14 a15 => a13) b10) e
noncomputable def T173 : FX := .t .n10 .n13 g173 fun _ => rfl
noncomputable def s173 (v : OV) (e : FEnv) : FEnv := FEnv.rec (motive := fun _ => FEnv) (fun b0 b1 b2 b3 b4 b5 b6 b7 b8 b9 b10 b11 b12 b13 b14 b15 => FEnv.mk b0 b1 b2 b3 b4 b5 b6 b7 b8 b9 (ls13 v b10) b11 b12 b13 b14 b15) e
noncomputable def D173 : FD := .at .n10 .n13 s173 fun _ _ => rfl
noncomputable def g174 (e : FEnv) : OV := FEnv.rec (motive := fun _ => OV) (fun b0 b1 b2 b3 b4 b5 b6 b7 b8 b9 b10 b11 b12 b13 b14 b15 => Leaf.rec (motive := fun _ => OV) (fun a0 a1 a2 a3 a4 a5 a6 a7 a8 a9 a10 a11 a12 a13 a14 a15 => a14) b10) e
noncomputable def T174 : FX := .t .n10 .n14 g174 fun _ => rfl
noncomputable def s174 (v : OV) (e : FEnv) : FEnv := FEnv.rec (motive := fun _ => FEnv) (fun b0 b1 b2 b3 b4 b5 b6 b7 b8 b9 b10 b11 b12 b13 b14 b15 => FEnv.mk b0 b1 b2 b3 b4 b5 b6 b7 b8 b9 (ls14 v b10) b11 b12 b13 b14 b15) e
noncomputable def D174 : FD := .at .n10 .n14 s174 fun _ _ => rfl
noncomputable def g175 (e : FEnv) : OV := FEnv.rec (motive := fun _ => OV) (fun b0 b1 b2 b3 b4 b5 b6 b7 b8 b9 b10 b11 b12 b13 b14 b15 => Leaf.rec (motive := fun _ => OV) (fun a0 a1 a2 a3 a4 a5 a6 a7 a8 a9 a10 a11 a12 a13 a14 a15 => a15) b10) e
noncomputable def T175 : FX := .t .n10 .n15 g175 fun _ => rfl
noncomputable def s175 (v : OV) (e : FEnv) : FEnv := FEnv.rec (motive := fun _ => FEnv) (fun b0 b1 b2 b3 b4 b5 b6 b7 b8 b9 b10 b11 b12 b13 b14 b15 => FEnv.mk b0 b1 b2 b3 b4 b5 b6 b7 b8 b9 (ls15 v b10) b11 b12 b13 b14 b15) e
noncomputable def D175 : FD := .at .n10 .n15 s175 fun _ _ => rfl
noncomputable def g176 (e : FEnv) : OV := FEnv.rec (motive := fun _ => OV) (fun b0 b1 b2 b3 b4 b5 b6 b7 b8 b9 b10 b11 b12 b13 b14 b15 => Leaf.rec (motive := fun _ => OV) (fun a0 a1 a2 a3 a4 a5 a6 a7 a8 a9 a10 a11 a12 a13 a14 a15 => a0) b11) e
noncomputable def T176 : FX := .t .n11 .n0 g176 fun _ => rfl
noncomputable def s176 (v : OV) (e : FEnv) : FEnv := FEnv.rec (motive := fun _ => FEnv) (fun b0 b1 b2 b3 b4 b5 b6 b7 b8 b9 b10 b11 b12 b13 b14 b15 => FEnv.mk b0 b1 b2 b3 b4 b5 b6 b7 b8 b9 b10 (ls0 v b11) b12 b13 b14 b15) e
noncomputable def D176 : FD := .at .n11 .n0 s176 fun _ _ => rfl
noncomputable def g177 (e : FEnv) : OV := FEnv.rec (motive := fun _ => OV) (fun b0 b1 b2 b3 b4 b5 b6 b7 b8 b9 b10 b11 b12 b13 b14 b15 => Leaf.rec (motive := fun _ => OV) (fun a0 a1 a2 a3 a4 a5 a6 a7 a8 a9 a10 a11 a12 a13 a14 a15 => a1) b11) e
noncomputable def T177 : FX := .t .n11 .n1 g177 fun _ => rfl
noncomputable def s177 (v : OV) (e : FEnv) : FEnv := FEnv.rec (motive := fun _ => FEnv) (fun b0 b1 b2 b3 b4 b5 b6 b7 b8 b9 b10 b11 b12 b13 b14 b15 => FEnv.mk b0 b1 b2 b3 b4 b5 b6 b7 b8 b9 b10 (ls1 v b11) b12 b13 b14 b15) e
noncomputable def D177 : FD := .at .n11 .n1 s177 fun _ _ => rfl
noncomputable def g178 (e : FEnv) : OV := FEnv.rec (motive := fun _ => OV) (fun b0 b1 b2 b3 b4 b5 b6 b7 b8 b9 b10 b11 b12 b13 b14 b15 => Leaf.rec (motive := fun _ => OV) (fun a0 a1 a2 a3 a4 a5 a6 a7 a8 a9 a10 a11 a12 a13 a14 a15 => a2) b11) e
noncomputable def T178 : FX := .t .n11 .n2 g178 fun _ => rfl
noncomputable def s178 (v : OV) (e : FEnv) : FEnv := FEnv.rec (motive := fun _ => FEnv) (fun b0 b1 b2 b3 b4 b5 b6 b7 b8 b9 b10 b11 b12 b13 b14 b15 => FEnv.mk b0 b1 b2 b3 b4 b5 b6 b7 b8 b9 b10 (ls2 v b11) b12 b13 b14 b15) e
noncomputable def D178 : FD := .at .n11 .n2 s178 fun _ _ => rfl
noncomputable def g179 (e : FEnv) : OV := FEnv.rec (motive := fun _ => OV) (fun b0 b1 b2 b3 b4 b5 b6 b7 b8 b9 b10 b11 b12 b13 b14 b15 => Leaf.rec (motive := fun _ => OV) (fun a0 a1 a2 a3 a4 a5 a6 a7 a8 a9 a10 a11 a12 a13 a14 a15 => a3) b11) e
noncomputable def T179 : FX := .t .n11 .n3 g179 fun _ => rfl
noncomputable def s179 (v : OV) (e : FEnv) : FEnv := FEnv.rec (motive := fun _ => FEnv) (fun b0 b1 b2 b3 b4 b5 b6 b7 b8 b9 b10 b11 b12 b13 b14 b15 => FEnv.mk b0 b1 b2 b3 b4 b5 b6 b7 b8 b9 b10 (ls3 v b11) b12 b13 b14 b15) e
noncomputable def D179 : FD := .at .n11 .n3 s179 fun _ _ => rfl
noncomputable def g180 (e : FEnv) : OV := FEnv.rec (motive := fun _ => OV) (fun b0 b1 b2 b3 b4 b5 b6 b7 b8 b9 b10 b11 b12 b13 b14 b15 => Leaf.rec (motive := fun _ => OV) (fun a0 a1 a2 a3 a4 a5 a6 a7 a8 a9 a10 a11 a12 a13 a14 a15 => a4) b11) e
noncomputable def T180 : FX := .t .n11 .n4 g180 fun _ => rfl
noncomputable def s180 (v : OV) (e : FEnv) : FEnv := FEnv.rec (motive := fun _ => FEnv) (fun b0 b1 b2 b3 b4 b5 b6 b7 b8 b9 b10 b11 b12 b13 b14 b15 => FEnv.mk b0 b1 b2 b3 b4 b5 b6 b7 b8 b9 b10 (ls4 v b11) b12 b13 b14 b15) e
noncomputable def D180 : FD := .at .n11 .n4 s180 fun _ _ => rfl
noncomputable def g181 (e : FEnv) : OV := FEnv.rec (motive := fun _ => OV) (fun b0 b1 b2 b3 b4 b5 b6 b7 b8 b9 b10 b11 b12 b13 b14 b15 => Leaf.rec (motive := fun _ => OV) (fun a0 a1 a2 a3 a4 a5 a6 a7 a8 a9 a10 a11 a12 a13 a14 a15 => a5) b11) e
noncomputable def T181 : FX := .t .n11 .n5 g181 fun _ => rfl
noncomputable def s181 (v : OV) (e : FEnv) : FEnv := FEnv.rec (motive := fun _ => FEnv) (fun b0 b1 b2 b3 b4 b5 b6 b7 b8 b9 b10 b11 b12 b13 b14 b15 => FEnv.mk b0 b1 b2 b3 b4 b5 b6 b7 b8 b9 b10 (ls5 v b11) b12 b13 b14 b15) e
noncomputable def D181 : FD := .at .n11 .n5 s181 fun _ _ => rfl
noncomputable def g182 (e : FEnv) : OV := FEnv.rec (motive := fun _ => OV) (fun b0 b1 b2 b3 b4 b5 b6 b7 b8 b9 b10 b11 b12 b13 b14 b15 => Leaf.rec (motive := fun _ => OV) (fun a0 a1 a2 a3 a4 a5 a6 a7 a8 a9 a10 a11 a12 a13 a14 a15 => a6) b11) e
noncomputable def T182 : FX := .t .n11 .n6 g182 fun _ => rfl
noncomputable def s182 (v : OV) (e : FEnv) : FEnv := FEnv.rec (motive := fun _ => FEnv) (fun b0 b1 b2 b3 b4 b5 b6 b7 b8 b9 b10 b11 b12 b13 b14 b15 => FEnv.mk b0 b1 b2 b3 b4 b5 b6 b7 b8 b9 b10 (ls6 v b11) b12 b13 b14 b15) e
noncomputable def D182 : FD := .at .n11 .n6 s182 fun _ _ => rfl
noncomputable def g183 (e : FEnv) : OV := FEnv.rec (motive := fun _ => OV) (fun b0 b1 b2 b3 b4 b5 b6 b7 b8 b9 b10 b11 b12 b13 b14 b15 => Leaf.rec (motive := fun _ => OV) (fun a0 a1 a2 a3 a4 a5 a6 a7 a8 a9 a10 a11 a12 a13 a14 a15 => a7) b11) e
noncomputable def T183 : FX := .t .n11 .n7 g183 fun _ => rfl
noncomputable def s183 (v : OV) (e : FEnv) : FEnv := FEnv.rec (motive := fun _ => FEnv) (fun b0 b1 b2 b3 b4 b5 b6 b7 b8 b9 b10 b11 b12 b13 b14 b15 => FEnv.mk b0 b1 b2 b3 b4 b5 b6 b7 b8 b9 b10 (ls7 v b11) b12 b13 b14 b15) e
noncomputable def D183 : FD := .at .n11 .n7 s183 fun _ _ => rfl
noncomputable def g184 (e : FEnv) : OV := FEnv.rec (motive := fun _ => OV) (fun b0 b1 b2 b3 b4 b5 b6 b7 b8 b9 b10 b11 b12 b13 b14 b15 => Leaf.rec (motive := fun _ => OV) (fun a0 a1 a2 a3 a4 a5 a6 a7 a8 a9 a10 a11 a12 a13 a14 a15 => a8) b11) e
noncomputable def T184 : FX := .t .n11 .n8 g184 fun _ => rfl
noncomputable def s184 (v : OV) (e : FEnv) : FEnv := FEnv.rec (motive := fun _ => FEnv) (fun b0 b1 b2 b3 b4 b5 b6 b7 b8 b9 b10 b11 b12 b13 b14 b15 => FEnv.mk b0 b1 b2 b3 b4 b5 b6 b7 b8 b9 b10 (ls8 v b11) b12 b13 b14 b15) e
noncomputable def D184 : FD := .at .n11 .n8 s184 fun _ _ => rfl
noncomputable def g185 (e : FEnv) : OV := FEnv.rec (motive := fun _ => OV) (fun b0 b1 b2 b3 b4 b5 b6 b7 b8 b9 b10 b11 b12 b13 b14 b15 => Leaf.rec (motive := fun _ => OV) (fun a0 a1 a2 a3 a4 a5 a6 a7 a8 a9 a10 a11 a12 a13 a14 a15 => a9) b11) e
noncomputable def T185 : FX := .t .n11 .n9 g185 fun _ => rfl
noncomputable def s185 (v : OV) (e : FEnv) : FEnv := FEnv.rec (motive := fun _ => FEnv) (fun b0 b1 b2 b3 b4 b5 b6 b7 b8 b9 b10 b11 b12 b13 b14 b15 => FEnv.mk b0 b1 b2 b3 b4 b5 b6 b7 b8 b9 b10 (ls9 v b11) b12 b13 b14 b15) e
noncomputable def D185 : FD := .at .n11 .n9 s185 fun _ _ => rfl
noncomputable def g186 (e : FEnv) : OV := FEnv.rec (motive := fun _ => OV) (fun b0 b1 b2 b3 b4 b5 b6 b7 b8 b9 b10 b11 b12 b13 b14 b15 => Leaf.rec (motive := fun _ => OV) (fun a0 a1 a2 a3 a4 a5 a6 a7 a8 a9 a10 a11 a12 a13 a14 a15 => a10) b11) e
noncomputable def T186 : FX := .t .n11 .n10 g186 fun _ => rfl
noncomputable def s186 (v : OV) (e : FEnv) : FEnv := FEnv.rec (motive := fun _ => FEnv) (fun b0 b1 b2 b3 b4 b5 b6 b7 b8 b9 b10 b11 b12 b13 b14 b15 => FEnv.mk b0 b1 b2 b3 b4 b5 b6 b7 b8 b9 b10 (ls10 v b11) b12 b13 b14 b15) e
noncomputable def D186 : FD := .at .n11 .n10 s186 fun _ _ => rfl
noncomputable def g187 (e : FEnv) : OV := FEnv.rec (motive := fun _ => OV) (fun b0 b1 b2 b3 b4 b5 b6 b7 b8 b9 b10 b11 b12 b13 b14 b15 => Leaf.rec (motive := fun _ => OV) (fun a0 a1 a2 a3 a4 a5 a6 a7 a8 a9 a10 a11 a12 a13 a14 a15 => a11) b11) e
noncomputable def T187 : FX := .t .n11 .n11 g187 fun _ => rfl
noncomputable def s187 (v : OV) (e : FEnv) : FEnv := FEnv.rec (motive := fun _ => FEnv) (fun b0 b1 b2 b3 b4 b5 b6 b7 b8 b9 b10 b11 b12 b13 b14 b15 => FEnv.mk b0 b1 b2 b3 b4 b5 b6 b7 b8 b9 b10 (ls11 v b11) b12 b13 b14 b15) e
noncomputable def D187 : FD := .at .n11 .n11 s187 fun _ _ => rfl
noncomputable def g188 (e : FEnv) : OV := FEnv.rec (motive := fun _ => OV) (fun b0 b1 b2 b3 b4 b5 b6 b7 b8 b9 b10 b11 b12 b13 b14 b15 => Leaf.rec (motive := fun _ => OV) (fun a0 a1 a2 a3 a4 a5 a6 a7 a8 a9 a10 a11 a12 a13 a14 a15 => a12) b11) e
noncomputable def T188 : FX := .t .n11 .n12 g188 fun _ => rfl
noncomputable def s188 (v : OV) (e : FEnv) : FEnv := FEnv.rec (motive := fun _ => FEnv) (fun b0 b1 b2 b3 b4 b5 b6 b7 b8 b9 b10 b11 b12 b13 b14 b15 => FEnv.mk b0 b1 b2 b3 b4 b5 b6 b7 b8 b9 b10 (ls12 v b11) b12 b13 b14 b15) e
noncomputable def D188 : FD := .at .n11 .n12 s188 fun _ _ => rfl
noncomputable def g189 (e : FEnv) : OV := FEnv.rec (motive := fun _ => OV) (fun b0 b1 b2 b3 b4 b5 b6 b7 b8 b9 b10 b11 b12 b13 b14 b15 => Leaf.rec (motive := fun _ => OV) (fun a0 a1 a2 a3 a4 a5 a6 a7 a8 a9 a10 a11 a12 a13 a14 a15 => a13) b11) e
noncomputable def T189 : FX := .t .n11 .n13 g189 fun _ => rfl
noncomputable def s189 (v : OV) (e : FEnv) : FEnv := FEnv.rec (motive := fun _ => FEnv) (fun b0 b1 b2 b3 b4 b5 b6 b7 b8 b9 b10 b11 b12 b13 b14 b15 => FEnv.mk b0 b1 b2 b3 b4 b5 b6 b7 b8 b9 b10 (ls13 v b11) b12 b13 b14 b15) e
noncomputable def D189 : FD := .at .n11 .n13 s189 fun _ _ => rfl
noncomputable def g190 (e : FEnv) : OV := FEnv.rec (motive := fun _ => OV) (fun b0 b1 b2 b3 b4 b5 b6 b7 b8 b9 b10 b11 b12 b13 b14 b15 => Leaf.rec (motive := fun _ => OV) (fun a0 a1 a2 a3 a4 a5 a6 a7 a8 a9 a10 a11 a12 a13 a14 a15 => a14) b11) e
noncomputable def T190 : FX := .t .n11 .n14 g190 fun _ => rfl
noncomputable def s190 (v : OV) (e : FEnv) : FEnv := FEnv.rec (motive := fun _ => FEnv) (fun b0 b1 b2 b3 b4 b5 b6 b7 b8 b9 b10 b11 b12 b13 b14 b15 => FEnv.mk b0 b1 b2 b3 b4 b5 b6 b7 b8 b9 b10 (ls14 v b11) b12 b13 b14 b15) e
noncomputable def D190 : FD := .at .n11 .n14 s190 fun _ _ => rfl
noncomputable def g191 (e : FEnv) : OV := FEnv.rec (motive := fun _ => OV) (fun b0 b1 b2 b3 b4 b5 b6 b7 b8 b9 b10 b11 b12 b13 b14 b15 => Leaf.rec (motive := fun _ => OV) (fun a0 a1 a2 a3 a4 a5 a6 a7 a8 a9 a10 a11 a12 a13 a14 a15 => a15) b11) e
noncomputable def T191 : FX := .t .n11 .n15 g191 fun _ => rfl
noncomputable def s191 (v : OV) (e : FEnv) : FEnv := FEnv.rec (motive := fun _ => FEnv) (fun b0 b1 b2 b3 b4 b5 b6 b7 b8 b9 b10 b11 b12 b13 b14 b15 => FEnv.mk b0 b1 b2 b3 b4 b5 b6 b7 b8 b9 b10 (ls15 v b11) b12 b13 b14 b15) e
noncomputable def D191 : FD := .at .n11 .n15 s191 fun _ _ => rfl
noncomputable def g192 (e : FEnv) : OV := FEnv.rec (motive := fun _ => OV) (fun b0 b1 b2 b3 b4 b5 b6 b7 b8 b9 b10 b11 b12 b13 b14 b15 => Leaf.rec (motive := fun _ => OV) (fun a0 a1 a2 a3 a4 a5 a6 a7 a8 a9 a10 a11 a12 a13 a14 a15 => a0) b12) e
noncomputable def T192 : FX := .t .n12 .n0 g192 fun _ => rfl
noncomputable def s192 (v : OV) (e : FEnv) : FEnv := FEnv.rec (motive := fun _ => FEnv) (fun b0 b1 b2 b3 b4 b5 b6 b7 b8 b9 b10 b11 b12 b13 b14 b15 => FEnv.mk b0 b1 b2 b3 b4 b5 b6 b7 b8 b9 b10 b11 (ls0 v b12) b13 b14 b15) e
noncomputable def D192 : FD := .at .n12 .n0 s192 fun _ _ => rfl
noncomputable def g193 (e : FEnv) : OV := FEnv.rec (motive := fun _ => OV) (fun b0 b1 b2 b3 b4 b5 b6 b7 b8 b9 b10 b11 b12 b13 b14 b15 => Leaf.rec (motive := fun _ => OV) (fun a0 a1 a2 a3 a4 a5 a6 a7 a8 a9 a10 a11 a12 a13 a14 a15 => a1) b12) e
noncomputable def T193 : FX := .t .n12 .n1 g193 fun _ => rfl
noncomputable def s193 (v : OV) (e : FEnv) : FEnv := FEnv.rec (motive := fun _ => FEnv) (fun b0 b1 b2 b3 b4 b5 b6 b7 b8 b9 b10 b11 b12 b13 b14 b15 => FEnv.mk b0 b1 b2 b3 b4 b5 b6 b7 b8 b9 b10 b11 (ls1 v b12) b13 b14 b15) e
noncomputable def D193 : FD := .at .n12 .n1 s193 fun _ _ => rfl
noncomputable def g194 (e : FEnv) : OV := FEnv.rec (motive := fun _ => OV) (fun b0 b1 b2 b3 b4 b5 b6 b7 b8 b9 b10 b11 b12 b13 b14 b15 => Leaf.rec (motive := fun _ => OV) (fun a0 a1 a2 a3 a4 a5 a6 a7 a8 a9 a10 a11 a12 a13 a14 a15 => a2) b12) e
noncomputable def T194 : FX := .t .n12 .n2 g194 fun _ => rfl
noncomputable def s194 (v : OV) (e : FEnv) : FEnv := FEnv.rec (motive := fun _ => FEnv) (fun b0 b1 b2 b3 b4 b5 b6 b7 b8 b9 b10 b11 b12 b13 b14 b15 => FEnv.mk b0 b1 b2 b3 b4 b5 b6 b7 b8 b9 b10 b11 (ls2 v b12) b13 b14 b15) e
noncomputable def D194 : FD := .at .n12 .n2 s194 fun _ _ => rfl
noncomputable def g195 (e : FEnv) : OV := FEnv.rec (motive := fun _ => OV) (fun b0 b1 b2 b3 b4 b5 b6 b7 b8 b9 b10 b11 b12 b13 b14 b15 => Leaf.rec (motive := fun _ => OV) (fun a0 a1 a2 a3 a4 a5 a6 a7 a8 a9 a10 a11 a12 a13 a14 a15 => a3) b12) e
noncomputable def T195 : FX := .t .n12 .n3 g195 fun _ => rfl
noncomputable def s195 (v : OV) (e : FEnv) : FEnv := FEnv.rec (motive := fun _ => FEnv) (fun b0 b1 b2 b3 b4 b5 b6 b7 b8 b9 b10 b11 b12 b13 b14 b15 => FEnv.mk b0 b1 b2 b3 b4 b5 b6 b7 b8 b9 b10 b11 (ls3 v b12) b13 b14 b15) e
noncomputable def D195 : FD := .at .n12 .n3 s195 fun _ _ => rfl
noncomputable def g196 (e : FEnv) : OV := FEnv.rec (motive := fun _ => OV) (fun b0 b1 b2 b3 b4 b5 b6 b7 b8 b9 b10 b11 b12 b13 b14 b15 => Leaf.rec (motive := fun _ => OV) (fun a0 a1 a2 a3 a4 a5 a6 a7 a8 a9 a10 a11 a12 a13 a14 a15 => a4) b12) e
noncomputable def T196 : FX := .t .n12 .n4 g196 fun _ => rfl
noncomputable def s196 (v : OV) (e : FEnv) : FEnv := FEnv.rec (motive := fun _ => FEnv) (fun b0 b1 b2 b3 b4 b5 b6 b7 b8 b9 b10 b11 b12 b13 b14 b15 => FEnv.mk b0 b1 b2 b3 b4 b5 b6 b7 b8 b9 b10 b11 (ls4 v b12) b13 b14 b15) e
noncomputable def D196 : FD := .at .n12 .n4 s196 fun _ _ => rfl
noncomputable def g197 (e : FEnv) : OV := FEnv.rec (motive := fun _ => OV) (fun b0 b1 b2 b3 b4 b5 b6 b7 b8 b9 b10 b11 b12 b13 b14 b15 => Leaf.rec (motive := fun _ => OV) (fun a0 a1 a2 a3 a4 a5 a6 a7 a8 a9 a10 a11 a12 a13 a14 a15 => a5) b12) e
noncomputable def T197 : FX := .t .n12 .n5 g197 fun _ => rfl
noncomputable def s197 (v : OV) (e : FEnv) : FEnv := FEnv.rec (motive := fun _ => FEnv) (fun b0 b1 b2 b3 b4 b5 b6 b7 b8 b9 b10 b11 b12 b13 b14 b15 => FEnv.mk b0 b1 b2 b3 b4 b5 b6 b7 b8 b9 b10 b11 (ls5 v b12) b13 b14 b15) e
noncomputable def D197 : FD := .at .n12 .n5 s197 fun _ _ => rfl
noncomputable def g198 (e : FEnv) : OV := FEnv.rec (motive := fun _ => OV) (fun b0 b1 b2 b3 b4 b5 b6 b7 b8 b9 b10 b11 b12 b13 b14 b15 => Leaf.rec (motive := fun _ => OV) (fun a0 a1 a2 a3 a4 a5 a6 a7 a8 a9 a10 a11 a12 a13 a14 a15 => a6) b12) e
noncomputable def T198 : FX := .t .n12 .n6 g198 fun _ => rfl
noncomputable def s198 (v : OV) (e : FEnv) : FEnv := FEnv.rec (motive := fun _ => FEnv) (fun b0 b1 b2 b3 b4 b5 b6 b7 b8 b9 b10 b11 b12 b13 b14 b15 => FEnv.mk b0 b1 b2 b3 b4 b5 b6 b7 b8 b9 b10 b11 (ls6 v b12) b13 b14 b15) e
noncomputable def D198 : FD := .at .n12 .n6 s198 fun _ _ => rfl
noncomputable def g199 (e : FEnv) : OV := FEnv.rec (motive := fun _ => OV) (fun b0 b1 b2 b3 b4 b5 b6 b7 b8 b9 b10 b11 b12 b13 b14 b15 => Leaf.rec (motive := fun _ => OV) (fun a0 a1 a2 a3 a4 a5 a6 a7 a8 a9 a10 a11 a12 a13 a14 a15 => a7) b12) e
noncomputable def T199 : FX := .t .n12 .n7 g199 fun _ => rfl
noncomputable def s199 (v : OV) (e : FEnv) : FEnv := FEnv.rec (motive := fun _ => FEnv) (fun b0 b1 b2 b3 b4 b5 b6 b7 b8 b9 b10 b11 b12 b13 b14 b15 => FEnv.mk b0 b1 b2 b3 b4 b5 b6 b7 b8 b9 b10 b11 (ls7 v b12) b13 b14 b15) e
noncomputable def D199 : FD := .at .n12 .n7 s199 fun _ _ => rfl
noncomputable def g200 (e : FEnv) : OV := FEnv.rec (motive := fun _ => OV) (fun b0 b1 b2 b3 b4 b5 b6 b7 b8 b9 b10 b11 b12 b13 b14 b15 => Leaf.rec (motive := fun _ => OV) (fun a0 a1 a2 a3 a4 a5 a6 a7 a8 a9 a10 a11 a12 a13 a14 a15 => a8) b12) e
noncomputable def T200 : FX := .t .n12 .n8 g200 fun _ => rfl
noncomputable def s200 (v : OV) (e : FEnv) : FEnv := FEnv.rec (motive := fun _ => FEnv) (fun b0 b1 b2 b3 b4 b5 b6 b7 b8 b9 b10 b11 b12 b13 b14 b15 => FEnv.mk b0 b1 b2 b3 b4 b5 b6 b7 b8 b9 b10 b11 (ls8 v b12) b13 b14 b15) e
noncomputable def D200 : FD := .at .n12 .n8 s200 fun _ _ => rfl
noncomputable def g201 (e : FEnv) : OV := FEnv.rec (motive := fun _ => OV) (fun b0 b1 b2 b3 b4 b5 b6 b7 b8 b9 b10 b11 b12 b13 b14 b15 => Leaf.rec (motive := fun _ => OV) (fun a0 a1 a2 a3 a4 a5 a6 a7 a8 a9 a10 a11 a12 a13 a14 a15 => a9) b12) e
noncomputable def T201 : FX := .t .n12 .n9 g201 fun _ => rfl
noncomputable def s201 (v : OV) (e : FEnv) : FEnv := FEnv.rec (motive := fun _ => FEnv) (fun b0 b1 b2 b3 b4 b5 b6 b7 b8 b9 b10 b11 b12 b13 b14 b15 => FEnv.mk b0 b1 b2 b3 b4 b5 b6 b7 b8 b9 b10 b11 (ls9 v b12) b13 b14 b15) e
noncomputable def D201 : FD := .at .n12 .n9 s201 fun _ _ => rfl
noncomputable def g202 (e : FEnv) : OV := FEnv.rec (motive := fun _ => OV) (fun b0 b1 b2 b3 b4 b5 b6 b7 b8 b9 b10 b11 b12 b13 b14 b15 => Leaf.rec (motive := fun _ => OV) (fun a0 a1 a2 a3 a4 a5 a6 a7 a8 a9 a10 a11 a12 a13 a14 a15 => a10) b12) e
noncomputable def T202 : FX := .t .n12 .n10 g202 fun _ => rfl
noncomputable def s202 (v : OV) (e : FEnv) : FEnv := FEnv.rec (motive := fun _ => FEnv) (fun b0 b1 b2 b3 b4 b5 b6 b7 b8 b9 b10 b11 b12 b13 b14 b15 => FEnv.mk b0 b1 b2 b3 b4 b5 b6 b7 b8 b9 b10 b11 (ls10 v b12) b13 b14 b15) e
noncomputable def D202 : FD := .at .n12 .n10 s202 fun _ _ => rfl
noncomputable def g203 (e : FEnv) : OV := FEnv.rec (motive := fun _ => OV) (fun b0 b1 b2 b3 b4 b5 b6 b7 b8 b9 b10 b11 b12 b13 b14 b15 => Leaf.rec (motive := fun _ => OV) (fun a0 a1 a2 a3 a4 a5 a6 a7 a8 a9 a10 a11 a12 a13 a14 a15 => a11) b12) e
noncomputable def T203 : FX := .t .n12 .n11 g203 fun _ => rfl
noncomputable def s203 (v : OV) (e : FEnv) : FEnv := FEnv.rec (motive := fun _ => FEnv) (fun b0 b1 b2 b3 b4 b5 b6 b7 b8 b9 b10 b11 b12 b13 b14 b15 => FEnv.mk b0 b1 b2 b3 b4 b5 b6 b7 b8 b9 b10 b11 (ls11 v b12) b13 b14 b15) e
noncomputable def D203 : FD := .at .n12 .n11 s203 fun _ _ => rfl
noncomputable def g204 (e : FEnv) : OV := FEnv.rec (motive := fun _ => OV) (fun b0 b1 b2 b3 b4 b5 b6 b7 b8 b9 b10 b11 b12 b13 b14 b15 => Leaf.rec (motive := fun _ => OV) (fun a0 a1 a2 a3 a4 a5 a6 a7 a8 a9 a10 a11 a12 a13 a14 a15 => a12) b12) e
noncomputable def T204 : FX := .t .n12 .n12 g204 fun _ => rfl
noncomputable def s204 (v : OV) (e : FEnv) : FEnv := FEnv.rec (motive := fun _ => FEnv) (fun b0 b1 b2 b3 b4 b5 b6 b7 b8 b9 b10 b11 b12 b13 b14 b15 => FEnv.mk b0 b1 b2 b3 b4 b5 b6 b7 b8 b9 b10 b11 (ls12 v b12) b13 b14 b15) e
noncomputable def D204 : FD := .at .n12 .n12 s204 fun _ _ => rfl
noncomputable def g205 (e : FEnv) : OV := FEnv.rec (motive := fun _ => OV) (fun b0 b1 b2 b3 b4 b5 b6 b7 b8 b9 b10 b11 b12 b13 b14 b15 => Leaf.rec (motive := fun _ => OV) (fun a0 a1 a2 a3 a4 a5 a6 a7 a8 a9 a10 a11 a12 a13 a14 a15 => a13) b12) e
noncomputable def T205 : FX := .t .n12 .n13 g205 fun _ => rfl
noncomputable def s205 (v : OV) (e : FEnv) : FEnv := FEnv.rec (motive := fun _ => FEnv) (fun b0 b1 b2 b3 b4 b5 b6 b7 b8 b9 b10 b11 b12 b13 b14 b15 => FEnv.mk b0 b1 b2 b3 b4 b5 b6 b7 b8 b9 b10 b11 (ls13 v b12) b13 b14 b15) e
noncomputable def D205 : FD := .at .n12 .n13 s205 fun _ _ => rfl
noncomputable def g206 (e : FEnv) : OV := FEnv.rec (motive := fun _ => OV) (fun b0 b1 b2 b3 b4 b5 b6 b7 b8 b9 b10 b11 b12 b13 b14 b15 => Leaf.rec (motive := fun _ => OV) (fun a0 a1 a2 a3 a4 a5 a6 a7 a8 a9 a10 a11 a12 a13 a14 a15 => a14) b12) e
noncomputable def T206 : FX := .t .n12 .n14 g206 fun _ => rfl
noncomputable def s206 (v : OV) (e : FEnv) : FEnv := FEnv.rec (motive := fun _ => FEnv) (fun b0 b1 b2 b3 b4 b5 b6 b7 b8 b9 b10 b11 b12 b13 b14 b15 => FEnv.mk b0 b1 b2 b3 b4 b5 b6 b7 b8 b9 b10 b11 (ls14 v b12) b13 b14 b15) e
noncomputable def D206 : FD := .at .n12 .n14 s206 fun _ _ => rfl
noncomputable def g207 (e : FEnv) : OV := FEnv.rec (motive := fun _ => OV) (fun b0 b1 b2 b3 b4 b5 b6 b7 b8 b9 b10 b11 b12 b13 b14 b15 => Leaf.rec (motive := fun _ => OV) (fun a0 a1 a2 a3 a4 a5 a6 a7 a8 a9 a10 a11 a12 a13 a14 a15 => a15) b12) e
noncomputable def T207 : FX := .t .n12 .n15 g207 fun _ => rfl
noncomputable def s207 (v : OV) (e : FEnv) : FEnv := FEnv.rec (motive := fun _ => FEnv) (fun b0 b1 b2 b3 b4 b5 b6 b7 b8 b9 b10 b11 b12 b13 b14 b15 => FEnv.mk b0 b1 b2 b3 b4 b5 b6 b7 b8 b9 b10 b11 (ls15 v b12) b13 b14 b15) e
noncomputable def D207 : FD := .at .n12 .n15 s207 fun _ _ => rfl
noncomputable def g208 (e : FEnv) : OV := FEnv.rec (motive := fun _ => OV) (fun b0 b1 b2 b3 b4 b5 b6 b7 b8 b9 b10 b11 b12 b13 b14 b15 => Leaf.rec (motive := fun _ => OV) (fun a0 a1 a2 a3 a4 a5 a6 a7 a8 a9 a10 a11 a12 a13 a14 a15 => a0) b13) e
noncomputable def T208 : FX := .t .n13 .n0 g208 fun _ => rfl
noncomputable def s208 (v : OV) (e : FEnv) : FEnv := FEnv.rec (motive := fun _ => FEnv) (fun b0 b1 b2 b3 b4 b5 b6 b7 b8 b9 b10 b11 b12 b13 b14 b15 => FEnv.mk b0 b1 b2 b3 b4 b5 b6 b7 b8 b9 b10 b11 b12 (ls0 v b13) b14 b15) e
noncomputable def D208 : FD := .at .n13 .n0 s208 fun _ _ => rfl
noncomputable def g209 (e : FEnv) : OV := FEnv.rec (motive := fun _ => OV) (fun b0 b1 b2 b3 b4 b5 b6 b7 b8 b9 b10 b11 b12 b13 b14 b15 => Leaf.rec (motive := fun _ => OV) (fun a0 a1 a2 a3 a4 a5 a6 a7 a8 a9 a10 a11 a12 a13 a14 a15 => a1) b13) e
noncomputable def T209 : FX := .t .n13 .n1 g209 fun _ => rfl
noncomputable def s209 (v : OV) (e : FEnv) : FEnv := FEnv.rec (motive := fun _ => FEnv) (fun b0 b1 b2 b3 b4 b5 b6 b7 b8 b9 b10 b11 b12 b13 b14 b15 => FEnv.mk b0 b1 b2 b3 b4 b5 b6 b7 b8 b9 b10 b11 b12 (ls1 v b13) b14 b15) e
noncomputable def D209 : FD := .at .n13 .n1 s209 fun _ _ => rfl
noncomputable def g210 (e : FEnv) : OV := FEnv.rec (motive := fun _ => OV) (fun b0 b1 b2 b3 b4 b5 b6 b7 b8 b9 b10 b11 b12 b13 b14 b15 => Leaf.rec (motive := fun _ => OV) (fun a0 a1 a2 a3 a4 a5 a6 a7 a8 a9 a10 a11 a12 a13 a14 a15 => a2) b13) e
noncomputable def T210 : FX := .t .n13 .n2 g210 fun _ => rfl
noncomputable def s210 (v : OV) (e : FEnv) : FEnv := FEnv.rec (motive := fun _ => FEnv) (fun b0 b1 b2 b3 b4 b5 b6 b7 b8 b9 b10 b11 b12 b13 b14 b15 => FEnv.mk b0 b1 b2 b3 b4 b5 b6 b7 b8 b9 b10 b11 b12 (ls2 v b13) b14 b15) e
noncomputable def D210 : FD := .at .n13 .n2 s210 fun _ _ => rfl
noncomputable def g211 (e : FEnv) : OV := FEnv.rec (motive := fun _ => OV) (fun b0 b1 b2 b3 b4 b5 b6 b7 b8 b9 b10 b11 b12 b13 b14 b15 => Leaf.rec (motive := fun _ => OV) (fun a0 a1 a2 a3 a4 a5 a6 a7 a8 a9 a10 a11 a12 a13 a14 a15 => a3) b13) e
noncomputable def T211 : FX := .t .n13 .n3 g211 fun _ => rfl
noncomputable def s211 (v : OV) (e : FEnv) : FEnv := FEnv.rec (motive := fun _ => FEnv) (fun b0 b1 b2 b3 b4 b5 b6 b7 b8 b9 b10 b11 b12 b13 b14 b15 => FEnv.mk b0 b1 b2 b3 b4 b5 b6 b7 b8 b9 b10 b11 b12 (ls3 v b13) b14 b15) e
noncomputable def D211 : FD := .at .n13 .n3 s211 fun _ _ => rfl
noncomputable def g212 (e : FEnv) : OV := FEnv.rec (motive := fun _ => OV) (fun b0 b1 b2 b3 b4 b5 b6 b7 b8 b9 b10 b11 b12 b13 b14 b15 => Leaf.rec (motive := fun _ => OV) (fun a0 a1 a2 a3 a4 a5 a6 a7 a8 a9 a10 a11 a12 a13 a14 a15 => a4) b13) e
noncomputable def T212 : FX := .t .n13 .n4 g212 fun _ => rfl
noncomputable def s212 (v : OV) (e : FEnv) : FEnv := FEnv.rec (motive := fun _ => FEnv) (fun b0 b1 b2 b3 b4 b5 b6 b7 b8 b9 b10 b11 b12 b13 b14 b15 => FEnv.mk b0 b1 b2 b3 b4 b5 b6 b7 b8 b9 b10 b11 b12 (ls4 v b13) b14 b15) e
noncomputable def D212 : FD := .at .n13 .n4 s212 fun _ _ => rfl
noncomputable def g213 (e : FEnv) : OV := FEnv.rec (motive := fun _ => OV) (fun b0 b1 b2 b3 b4 b5 b6 b7 b8 b9 b10 b11 b12 b13 b14 b15 => Leaf.rec (motive := fun _ => OV) (fun a0 a1 a2 a3 a4 a5 a6 a7 a8 a9 a10 a11 a12 a13 a14 a15 => a5) b13) e
noncomputable def T213 : FX := .t .n13 .n5 g213 fun _ => rfl
noncomputable def s213 (v : OV) (e : FEnv) : FEnv := FEnv.rec (motive := fun _ => FEnv) (fun b0 b1 b2 b3 b4 b5 b6 b7 b8 b9 b10 b11 b12 b13 b14 b15 => FEnv.mk b0 b1 b2 b3 b4 b5 b6 b7 b8 b9 b10 b11 b12 (ls5 v b13) b14 b15) e
noncomputable def D213 : FD := .at .n13 .n5 s213 fun _ _ => rfl
noncomputable def g214 (e : FEnv) : OV := FEnv.rec (motive := fun _ => OV) (fun b0 b1 b2 b3 b4 b5 b6 b7 b8 b9 b10 b11 b12 b13 b14 b15 => Leaf.rec (motive := fun _ => OV) (fun a0 a1 a2 a3 a4 a5 a6 a7 a8 a9 a10 a11 a12 a13 a14 a15 => a6) b13) e
noncomputable def T214 : FX := .t .n13 .n6 g214 fun _ => rfl
noncomputable def s214 (v : OV) (e : FEnv) : FEnv := FEnv.rec (motive := fun _ => FEnv) (fun b0 b1 b2 b3 b4 b5 b6 b7 b8 b9 b10 b11 b12 b13 b14 b15 => FEnv.mk b0 b1 b2 b3 b4 b5 b6 b7 b8 b9 b10 b11 b12 (ls6 v b13) b14 b15) e
noncomputable def D214 : FD := .at .n13 .n6 s214 fun _ _ => rfl
noncomputable def g215 (e : FEnv) : OV := FEnv.rec (motive := fun _ => OV) (fun b0 b1 b2 b3 b4 b5 b6 b7 b8 b9 b10 b11 b12 b13 b14 b15 => Leaf.rec (motive := fun _ => OV) (fun a0 a1 a2 a3 a4 a5 a6 a7 a8 a9 a10 a11 a12 a13 a14 a15 => a7) b13) e
noncomputable def T215 : FX := .t .n13 .n7 g215 fun _ => rfl
noncomputable def s215 (v : OV) (e : FEnv) : FEnv := FEnv.rec (motive := fun _ => FEnv) (fun b0 b1 b2 b3 b4 b5 b6 b7 b8 b9 b10 b11 b12 b13 b14 b15 => FEnv.mk b0 b1 b2 b3 b4 b5 b6 b7 b8 b9 b10 b11 b12 (ls7 v b13) b14 b15) e
noncomputable def D215 : FD := .at .n13 .n7 s215 fun _ _ => rfl
noncomputable def g216 (e : FEnv) : OV := FEnv.rec (motive := fun _ => OV) (fun b0 b1 b2 b3 b4 b5 b6 b7 b8 b9 b10 b11 b12 b13 b14 b15 => Leaf.rec (motive := fun _ => OV) (fun a0 a1 a2 a3 a4 a5 a6 a7 a8 a9 a10 a11 a12 a13 a14 a15 => a8) b13) e
noncomputable def T216 : FX := .t .n13 .n8 g216 fun _ => rfl
noncomputable def s216 (v : OV) (e : FEnv) : FEnv := FEnv.rec (motive := fun _ => FEnv) (fun b0 b1 b2 b3 b4 b5 b6 b7 b8 b9 b10 b11 b12 b13 b14 b15 => FEnv.mk b0 b1 b2 b3 b4 b5 b6 b7 b8 b9 b10 b11 b12 (ls8 v b13) b14 b15) e
noncomputable def D216 : FD := .at .n13 .n8 s216 fun _ _ => rfl
noncomputable def g217 (e : FEnv) : OV := FEnv.rec (motive := fun _ => OV) (fun b0 b1 b2 b3 b4 b5 b6 b7 b8 b9 b10 b11 b12 b13 b14 b15 => Leaf.rec (motive := fun _ => OV) (fun a0 a1 a2 a3 a4 a5 a6 a7 a8 a9 a10 a11 a12 a13 a14 a15 => a9) b13) e
noncomputable def T217 : FX := .t .n13 .n9 g217 fun _ => rfl
noncomputable def s217 (v : OV) (e : FEnv) : FEnv := FEnv.rec (motive := fun _ => FEnv) (fun b0 b1 b2 b3 b4 b5 b6 b7 b8 b9 b10 b11 b12 b13 b14 b15 => FEnv.mk b0 b1 b2 b3 b4 b5 b6 b7 b8 b9 b10 b11 b12 (ls9 v b13) b14 b15) e
noncomputable def D217 : FD := .at .n13 .n9 s217 fun _ _ => rfl
noncomputable def g218 (e : FEnv) : OV := FEnv.rec (motive := fun _ => OV) (fun b0 b1 b2 b3 b4 b5 b6 b7 b8 b9 b10 b11 b12 b13 b14 b15 => Leaf.rec (motive := fun _ => OV) (fun a0 a1 a2 a3 a4 a5 a6 a7 a8 a9 a10 a11 a12 a13 a14 a15 => a10) b13) e
noncomputable def T218 : FX := .t .n13 .n10 g218 fun _ => rfl
noncomputable def s218 (v : OV) (e : FEnv) : FEnv := FEnv.rec (motive := fun _ => FEnv) (fun b0 b1 b2 b3 b4 b5 b6 b7 b8 b9 b10 b11 b12 b13 b14 b15 => FEnv.mk b0 b1 b2 b3 b4 b5 b6 b7 b8 b9 b10 b11 b12 (ls10 v b13) b14 b15) e
noncomputable def D218 : FD := .at .n13 .n10 s218 fun _ _ => rfl
noncomputable def g219 (e : FEnv) : OV := FEnv.rec (motive := fun _ => OV) (fun b0 b1 b2 b3 b4 b5 b6 b7 b8 b9 b10 b11 b12 b13 b14 b15 => Leaf.rec (motive := fun _ => OV) (fun a0 a1 a2 a3 a4 a5 a6 a7 a8 a9 a10 a11 a12 a13 a14 a15 => a11) b13) e
noncomputable def T219 : FX := .t .n13 .n11 g219 fun _ => rfl
noncomputable def s219 (v : OV) (e : FEnv) : FEnv := FEnv.rec (motive := fun _ => FEnv) (fun b0 b1 b2 b3 b4 b5 b6 b7 b8 b9 b10 b11 b12 b13 b14 b15 => FEnv.mk b0 b1 b2 b3 b4 b5 b6 b7 b8 b9 b10 b11 b12 (ls11 v b13) b14 b15) e
noncomputable def D219 : FD := .at .n13 .n11 s219 fun _ _ => rfl
noncomputable def g220 (e : FEnv) : OV := FEnv.rec (motive := fun _ => OV) (fun b0 b1 b2 b3 b4 b5 b6 b7 b8 b9 b10 b11 b12 b13 b14 b15 => Leaf.rec (motive := fun _ => OV) (fun a0 a1 a2 a3 a4 a5 a6 a7 a8 a9 a10 a11 a12 a13 a14 a15 => a12) b13) e
noncomputable def T220 : FX := .t .n13 .n12 g220 fun _ => rfl
noncomputable def s220 (v : OV) (e : FEnv) : FEnv := FEnv.rec (motive := fun _ => FEnv) (fun b0 b1 b2 b3 b4 b5 b6 b7 b8 b9 b10 b11 b12 b13 b14 b15 => FEnv.mk b0 b1 b2 b3 b4 b5 b6 b7 b8 b9 b10 b11 b12 (ls12 v b13) b14 b15) e
noncomputable def D220 : FD := .at .n13 .n12 s220 fun _ _ => rfl
noncomputable def g221 (e : FEnv) : OV := FEnv.rec (motive := fun _ => OV) (fun b0 b1 b2 b3 b4 b5 b6 b7 b8 b9 b10 b11 b12 b13 b14 b15 => Leaf.rec (motive := fun _ => OV) (fun a0 a1 a2 a3 a4 a5 a6 a7 a8 a9 a10 a11 a12 a13 a14 a15 => a13) b13) e
noncomputable def T221 : FX := .t .n13 .n13 g221 fun _ => rfl
noncomputable def s221 (v : OV) (e : FEnv) : FEnv := FEnv.rec (motive := fun _ => FEnv) (fun b0 b1 b2 b3 b4 b5 b6 b7 b8 b9 b10 b11 b12 b13 b14 b15 => FEnv.mk b0 b1 b2 b3 b4 b5 b6 b7 b8 b9 b10 b11 b12 (ls13 v b13) b14 b15) e
noncomputable def D221 : FD := .at .n13 .n13 s221 fun _ _ => rfl
noncomputable def g222 (e : FEnv) : OV := FEnv.rec (motive := fun _ => OV) (fun b0 b1 b2 b3 b4 b5 b6 b7 b8 b9 b10 b11 b12 b13 b14 b15 => Leaf.rec (motive := fun _ => OV) (fun a0 a1 a2 a3 a4 a5 a6 a7 a8 a9 a10 a11 a12 a13 a14 a15 => a14) b13) e
noncomputable def T222 : FX := .t .n13 .n14 g222 fun _ => rfl
noncomputable def s222 (v : OV) (e : FEnv) : FEnv := FEnv.rec (motive := fun _ => FEnv) (fun b0 b1 b2 b3 b4 b5 b6 b7 b8 b9 b10 b11 b12 b13 b14 b15 => FEnv.mk b0 b1 b2 b3 b4 b5 b6 b7 b8 b9 b10 b11 b12 (ls14 v b13) b14 b15) e
noncomputable def D222 : FD := .at .n13 .n14 s222 fun _ _ => rfl
noncomputable def g223 (e : FEnv) : OV := FEnv.rec (motive := fun _ => OV) (fun b0 b1 b2 b3 b4 b5 b6 b7 b8 b9 b10 b11 b12 b13 b14 b15 => Leaf.rec (motive := fun _ => OV) (fun a0 a1 a2 a3 a4 a5 a6 a7 a8 a9 a10 a11 a12 a13 a14 a15 => a15) b13) e
noncomputable def T223 : FX := .t .n13 .n15 g223 fun _ => rfl
noncomputable def s223 (v : OV) (e : FEnv) : FEnv := FEnv.rec (motive := fun _ => FEnv) (fun b0 b1 b2 b3 b4 b5 b6 b7 b8 b9 b10 b11 b12 b13 b14 b15 => FEnv.mk b0 b1 b2 b3 b4 b5 b6 b7 b8 b9 b10 b11 b12 (ls15 v b13) b14 b15) e
noncomputable def D223 : FD := .at .n13 .n15 s223 fun _ _ => rfl
noncomputable def g224 (e : FEnv) : OV := FEnv.rec (motive := fun _ => OV) (fun b0 b1 b2 b3 b4 b5 b6 b7 b8 b9 b10 b11 b12 b13 b14 b15 => Leaf.rec (motive := fun _ => OV) (fun a0 a1 a2 a3 a4 a5 a6 a7 a8 a9 a10 a11 a12 a13 a14 a15 => a0) b14) e
noncomputable def T224 : FX := .t .n14 .n0 g224 fun _ => rfl
noncomputable def s224 (v : OV) (e : FEnv) : FEnv := FEnv.rec (motive := fun _ => FEnv) (fun b0 b1 b2 b3 b4 b5 b6 b7 b8 b9 b10 b11 b12 b13 b14 b15 => FEnv.mk b0 b1 b2 b3 b4 b5 b6 b7 b8 b9 b10 b11 b12 b13 (ls0 v b14) b15) e
noncomputable def D224 : FD := .at .n14 .n0 s224 fun _ _ => rfl
noncomputable def g225 (e : FEnv) : OV := FEnv.rec (motive := fun _ => OV) (fun b0 b1 b2 b3 b4 b5 b6 b7 b8 b9 b10 b11 b12 b13 b14 b15 => Leaf.rec (motive := fun _ => OV) (fun a0 a1 a2 a3 a4 a5 a6 a7 a8 a9 a10 a11 a12 a13 a14 a15 => a1) b14) e
noncomputable def T225 : FX := .t .n14 .n1 g225 fun _ => rfl
noncomputable def s225 (v : OV) (e : FEnv) : FEnv := FEnv.rec (motive := fun _ => FEnv) (fun b0 b1 b2 b3 b4 b5 b6 b7 b8 b9 b10 b11 b12 b13 b14 b15 => FEnv.mk b0 b1 b2 b3 b4 b5 b6 b7 b8 b9 b10 b11 b12 b13 (ls1 v b14) b15) e
noncomputable def D225 : FD := .at .n14 .n1 s225 fun _ _ => rfl
noncomputable def g226 (e : FEnv) : OV := FEnv.rec (motive := fun _ => OV) (fun b0 b1 b2 b3 b4 b5 b6 b7 b8 b9 b10 b11 b12 b13 b14 b15 => Leaf.rec (motive := fun _ => OV) (fun a0 a1 a2 a3 a4 a5 a6 a7 a8 a9 a10 a11 a12 a13 a14 a15 => a2) b14) e
noncomputable def T226 : FX := .t .n14 .n2 g226 fun _ => rfl
noncomputable def s226 (v : OV) (e : FEnv) : FEnv := FEnv.rec (motive := fun _ => FEnv) (fun b0 b1 b2 b3 b4 b5 b6 b7 b8 b9 b10 b11 b12 b13 b14 b15 => FEnv.mk b0 b1 b2 b3 b4 b5 b6 b7 b8 b9 b10 b11 b12 b13 (ls2 v b14) b15) e
noncomputable def D226 : FD := .at .n14 .n2 s226 fun _ _ => rfl
noncomputable def g227 (e : FEnv) : OV := FEnv.rec (motive := fun _ => OV) (fun b0 b1 b2 b3 b4 b5 b6 b7 b8 b9 b10 b11 b12 b13 b14 b15 => Leaf.rec (motive := fun _ => OV) (fun a0 a1 a2 a3 a4 a5 a6 a7 a8 a9 a10 a11 a12 a13 a14 a15 => a3) b14) e
noncomputable def T227 : FX := .t .n14 .n3 g227 fun _ => rfl
noncomputable def s227 (v : OV) (e : FEnv) : FEnv := FEnv.rec (motive := fun _ => FEnv) (fun b0 b1 b2 b3 b4 b5 b6 b7 b8 b9 b10 b11 b12 b13 b14 b15 => FEnv.mk b0 b1 b2 b3 b4 b5 b6 b7 b8 b9 b10 b11 b12 b13 (ls3 v b14) b15) e
noncomputable def D227 : FD := .at .n14 .n3 s227 fun _ _ => rfl
noncomputable def g228 (e : FEnv) : OV := FEnv.rec (motive := fun _ => OV) (fun b0 b1 b2 b3 b4 b5 b6 b7 b8 b9 b10 b11 b12 b13 b14 b15 => Leaf.rec (motive := fun _ => OV) (fun a0 a1 a2 a3 a4 a5 a6 a7 a8 a9 a10 a11 a12 a13 a14 a15 => a4) b14) e
noncomputable def T228 : FX := .t .n14 .n4 g228 fun _ => rfl
noncomputable def s228 (v : OV) (e : FEnv) : FEnv := FEnv.rec (motive := fun _ => FEnv) (fun b0 b1 b2 b3 b4 b5 b6 b7 b8 b9 b10 b11 b12 b13 b14 b15 => FEnv.mk b0 b1 b2 b3 b4 b5 b6 b7 b8 b9 b10 b11 b12 b13 (ls4 v b14) b15) e
noncomputable def D228 : FD := .at .n14 .n4 s228 fun _ _ => rfl
noncomputable def g229 (e : FEnv) : OV := FEnv.rec (motive := fun _ => OV) (fun b0 b1 b2 b3 b4 b5 b6 b7 b8 b9 b10 b11 b12 b13 b14 b15 => Leaf.rec (motive := fun _ => OV) (fun a0 a1 a2 a3 a4 a5 a6 a7 a8 a9 a10 a11 a12 a13 a14 a15 => a5) b14) e
noncomputable def T229 : FX := .t .n14 .n5 g229 fun _ => rfl
noncomputable def s229 (v : OV) (e : FEnv) : FEnv := FEnv.rec (motive := fun _ => FEnv) (fun b0 b1 b2 b3 b4 b5 b6 b7 b8 b9 b10 b11 b12 b13 b14 b15 => FEnv.mk b0 b1 b2 b3 b4 b5 b6 b7 b8 b9 b10 b11 b12 b13 (ls5 v b14) b15) e
noncomputable def D229 : FD := .at .n14 .n5 s229 fun _ _ => rfl
noncomputable def g230 (e : FEnv) : OV := FEnv.rec (motive := fun _ => OV) (fun b0 b1 b2 b3 b4 b5 b6 b7 b8 b9 b10 b11 b12 b13 b14 b15 => Leaf.rec (motive := fun _ => OV) (fun a0 a1 a2 a3 a4 a5 a6 a7 a8 a9 a10 a11 a12 a13 a14 a15 => a6) b14) e
noncomputable def T230 : FX := .t .n14 .n6 g230 fun _ => rfl
noncomputable def s230 (v : OV) (e : FEnv) : FEnv := FEnv.rec (motive := fun _ => FEnv) (fun b0 b1 b2 b3 b4 b5 b6 b7 b8 b9 b10 b11 b12 b13 b14 b15 => FEnv.mk b0 b1 b2 b3 b4 b5 b6 b7 b8 b9 b10 b11 b12 b13 (ls6 v b14) b15) e
noncomputable def D230 : FD := .at .n14 .n6 s230 fun _ _ => rfl
noncomputable def g231 (e : FEnv) : OV := FEnv.rec (motive := fun _ => OV) (fun b0 b1 b2 b3 b4 b5 b6 b7 b8 b9 b10 b11 b12 b13 b14 b15 => Leaf.rec (motive := fun _ => OV) (fun a0 a1 a2 a3 a4 a5 a6 a7 a8 a9 a10 a11 a12 a13 a14 a15 => a7) b14) e
noncomputable def T231 : FX := .t .n14 .n7 g231 fun _ => rfl
noncomputable def s231 (v : OV) (e : FEnv) : FEnv := FEnv.rec (motive := fun _ => FEnv) (fun b0 b1 b2 b3 b4 b5 b6 b7 b8 b9 b10 b11 b12 b13 b14 b15 => FEnv.mk b0 b1 b2 b3 b4 b5 b6 b7 b8 b9 b10 b11 b12 b13 (ls7 v b14) b15) e
noncomputable def D231 : FD := .at .n14 .n7 s231 fun _ _ => rfl
noncomputable def g232 (e : FEnv) : OV := FEnv.rec (motive := fun _ => OV) (fun b0 b1 b2 b3 b4 b5 b6 b7 b8 b9 b10 b11 b12 b13 b14 b15 => Leaf.rec (motive := fun _ => OV) (fun a0 a1 a2 a3 a4 a5 a6 a7 a8 a9 a10 a11 a12 a13 a14 a15 => a8) b14) e
noncomputable def T232 : FX := .t .n14 .n8 g232 fun _ => rfl
noncomputable def s232 (v : OV) (e : FEnv) : FEnv := FEnv.rec (motive := fun _ => FEnv) (fun b0 b1 b2 b3 b4 b5 b6 b7 b8 b9 b10 b11 b12 b13 b14 b15 => FEnv.mk b0 b1 b2 b3 b4 b5 b6 b7 b8 b9 b10 b11 b12 b13 (ls8 v b14) b15) e
noncomputable def D232 : FD := .at .n14 .n8 s232 fun _ _ => rfl
noncomputable def g233 (e : FEnv) : OV := FEnv.rec (motive := fun _ => OV) (fun b0 b1 b2 b3 b4 b5 b6 b7 b8 b9 b10 b11 b12 b13 b14 b15 => Leaf.rec (motive := fun _ => OV) (fun a0 a1 a2 a3 a4 a5 a6 a7 a8 a9 a10 a11 a12 a13 a14 a15 => a9) b14) e
noncomputable def T233 : FX := .t .n14 .n9 g233 fun _ => rfl
noncomputable def s233 (v : OV) (e : FEnv) : FEnv := FEnv.rec (motive := fun _ => FEnv) (fun b0 b1 b2 b3 b4 b5 b6 b7 b8 b9 b10 b11 b12 b13 b14 b15 => FEnv.mk b0 b1 b2 b3 b4 b5 b6 b7 b8 b9 b10 b11 b12 b13 (ls9 v b14) b15) e
noncomputable def D233 : FD := .at .n14 .n9 s233 fun _ _ => rfl
noncomputable def g234 (e : FEnv) : OV := FEnv.rec (motive := fun _ => OV) (fun b0 b1 b2 b3 b4 b5 b6 b7 b8 b9 b10 b11 b12 b13 b14 b15 => Leaf.rec (motive := fun _ => OV) (fun a0 a1 a2 a3 a4 a5 a6 a7 a8 a9 a10 a11 a12 a13 a14 a15 => a10) b14) e
noncomputable def T234 : FX := .t .n14 .n10 g234 fun _ => rfl
noncomputable def s234 (v : OV) (e : FEnv) : FEnv := FEnv.rec (motive := fun _ => FEnv) (fun b0 b1 b2 b3 b4 b5 b6 b7 b8 b9 b10 b11 b12 b13 b14 b15 => FEnv.mk b0 b1 b2 b3 b4 b5 b6 b7 b8 b9 b10 b11 b12 b13 (ls10 v b14) b15) e
noncomputable def D234 : FD := .at .n14 .n10 s234 fun _ _ => rfl
noncomputable def g235 (e : FEnv) : OV := FEnv.rec (motive := fun _ => OV) (fun b0 b1 b2 b3 b4 b5 b6 b7 b8 b9 b10 b11 b12 b13 b14 b15 => Leaf.rec (motive := fun _ => OV) (fun a0 a1 a2 a3 a4 a5 a6 a7 a8 a9 a10 a11 a12 a13 a14 a15 => a11) b14) e
noncomputable def T235 : FX := .t .n14 .n11 g235 fun _ => rfl
noncomputable def s235 (v : OV) (e : FEnv) : FEnv := FEnv.rec (motive := fun _ => FEnv) (fun b0 b1 b2 b3 b4 b5 b6 b7 b8 b9 b10 b11 b12 b13 b14 b15 => FEnv.mk b0 b1 b2 b3 b4 b5 b6 b7 b8 b9 b10 b11 b12 b13 (ls11 v b14) b15) e
noncomputable def D235 : FD := .at .n14 .n11 s235 fun _ _ => rfl
noncomputable def g236 (e : FEnv) : OV := FEnv.rec (motive := fun _ => OV) (fun b0 b1 b2 b3 b4 b5 b6 b7 b8 b9 b10 b11 b12 b13 b14 b15 => Leaf.rec (motive := fun _ => OV) (fun a0 a1 a2 a3 a4 a5 a6 a7 a8 a9 a10 a11 a12 a13 a14 a15 => a12) b14) e
noncomputable def T236 : FX := .t .n14 .n12 g236 fun _ => rfl
noncomputable def s236 (v : OV) (e : FEnv) : FEnv := FEnv.rec (motive := fun _ => FEnv) (fun b0 b1 b2 b3 b4 b5 b6 b7 b8 b9 b10 b11 b12 b13 b14 b15 => FEnv.mk b0 b1 b2 b3 b4 b5 b6 b7 b8 b9 b10 b11 b12 b13 (ls12 v b14) b15) e
noncomputable def D236 : FD := .at .n14 .n12 s236 fun _ _ => rfl
noncomputable def g237 (e : FEnv) : OV := FEnv.rec (motive := fun _ => OV) (fun b0 b1 b2 b3 b4 b5 b6 b7 b8 b9 b10 b11 b12 b13 b14 b15 => Leaf.rec (motive := fun _ => OV) (fun a0 a1 a2 a3 a4 a5 a6 a7 a8 a9 a10 a11 a12 a13 a14 a15 => a13) b14) e
noncomputable def T237 : FX := .t .n14 .n13 g237 fun _ => rfl
noncomputable def s237 (v : OV) (e : FEnv) : FEnv := FEnv.rec (motive := fun _ => FEnv) (fun b0 b1 b2 b3 b4 b5 b6 b7 b8 b9 b10 b11 b12 b13 b14 b15 => FEnv.mk b0 b1 b2 b3 b4 b5 b6 b7 b8 b9 b10 b11 b12 b13 (ls13 v b14) b15) e
noncomputable def D237 : FD := .at .n14 .n13 s237 fun _ _ => rfl
noncomputable def g238 (e : FEnv) : OV := FEnv.rec (motive := fun _ => OV) (fun b0 b1 b2 b3 b4 b5 b6 b7 b8 b9 b10 b11 b12 b13 b14 b15 => Leaf.rec (motive := fun _ => OV) (fun a0 a1 a2 a3 a4 a5 a6 a7 a8 a9 a10 a11 a12 a13 a14 a15 => a14) b14) e
noncomputable def T238 : FX := .t .n14 .n14 g238 fun _ => rfl
noncomputable def s238 (v : OV) (e : FEnv) : FEnv := FEnv.rec (motive := fun _ => FEnv) (fun b0 b1 b2 b3 b4 b5 b6 b7 b8 b9 b10 b11 b12 b13 b14 b15 => FEnv.mk b0 b1 b2 b3 b4 b5 b6 b7 b8 b9 b10 b11 b12 b13 (ls14 v b14) b15) e
noncomputable def D238 : FD := .at .n14 .n14 s238 fun _ _ => rfl
noncomputable def g239 (e : FEnv) : OV := FEnv.rec (motive := fun _ => OV) (fun b0 b1 b2 b3 b4 b5 b6 b7 b8 b9 b10 b11 b12 b13 b14 b15 => Leaf.rec (motive := fun _ => OV) (fun a0 a1 a2 a3 a4 a5 a6 a7 a8 a9 a10 a11 a12 a13 a14 a15 => a15) b14) e
noncomputable def T239 : FX := .t .n14 .n15 g239 fun _ => rfl
noncomputable def s239 (v : OV) (e : FEnv) : FEnv := FEnv.rec (motive := fun _ => FEnv) (fun b0 b1 b2 b3 b4 b5 b6 b7 b8 b9 b10 b11 b12 b13 b14 b15 => FEnv.mk b0 b1 b2 b3 b4 b5 b6 b7 b8 b9 b10 b11 b12 b13 (ls15 v b14) b15) e
noncomputable def D239 : FD := .at .n14 .n15 s239 fun _ _ => rfl
noncomputable def g240 (e : FEnv) : OV := FEnv.rec (motive := fun _ => OV) (fun b0 b1 b2 b3 b4 b5 b6 b7 b8 b9 b10 b11 b12 b13 b14 b15 => Leaf.rec (motive := fun _ => OV) (fun a0 a1 a2 a3 a4 a5 a6 a7 a8 a9 a10 a11 a12 a13 a14 a15 => a0) b15) e
noncomputable def T240 : FX := .t .n15 .n0 g240 fun _ => rfl
noncomputable def s240 (v : OV) (e : FEnv) : FEnv := FEnv.rec (motive := fun _ => FEnv) (fun b0 b1 b2 b3 b4 b5 b6 b7 b8 b9 b10 b11 b12 b13 b14 b15 => FEnv.mk b0 b1 b2 b3 b4 b5 b6 b7 b8 b9 b10 b11 b12 b13 b14 (ls0 v b15)) e
noncomputable def D240 : FD := .at .n15 .n0 s240 fun _ _ => rfl
noncomputable def g241 (e : FEnv) : OV := FEnv.rec (motive := fun _ => OV) (fun b0 b1 b2 b3 b4 b5 b6 b7 b8 b9 b10 b11 b12 b13 b14 b15 => Leaf.rec (motive := fun _ => OV) (fun a0 a1 a2 a3 a4 a5 a6 a7 a8 a9 a10 a11 a12 a13 a14 a15 => a1) b15) e
noncomputable def T241 : FX := .t .n15 .n1 g241 fun _ => rfl
noncomputable def s241 (v : OV) (e : FEnv) : FEnv := FEnv.rec (motive := fun _ => FEnv) (fun b0 b1 b2 b3 b4 b5 b6 b7 b8 b9 b10 b11 b12 b13 b14 b15 => FEnv.mk b0 b1 b2 b3 b4 b5 b6 b7 b8 b9 b10 b11 b12 b13 b14 (ls1 v b15)) e
noncomputable def D241 : FD := .at .n15 .n1 s241 fun _ _ => rfl
noncomputable def g242 (e : FEnv) : OV := FEnv.rec (motive := fun _ => OV) (fun b0 b1 b2 b3 b4 b5 b6 b7 b8 b9 b10 b11 b12 b13 b14 b15 => Leaf.rec (motive := fun _ => OV) (fun a0 a1 a2 a3 a4 a5 a6 a7 a8 a9 a10 a11 a12 a13 a14 a15 => a2) b15) e
noncomputable def T242 : FX := .t .n15 .n2 g242 fun _ => rfl
noncomputable def s242 (v : OV) (e : FEnv) : FEnv := FEnv.rec (motive := fun _ => FEnv) (fun b0 b1 b2 b3 b4 b5 b6 b7 b8 b9 b10 b11 b12 b13 b14 b15 => FEnv.mk b0 b1 b2 b3 b4 b5 b6 b7 b8 b9 b10 b11 b12 b13 b14 (ls2 v b15)) e
noncomputable def D242 : FD := .at .n15 .n2 s242 fun _ _ => rfl
noncomputable def g243 (e : FEnv) : OV := FEnv.rec (motive := fun _ => OV) (fun b0 b1 b2 b3 b4 b5 b6 b7 b8 b9 b10 b11 b12 b13 b14 b15 => Leaf.rec (motive := fun _ => OV) (fun a0 a1 a2 a3 a4 a5 a6 a7 a8 a9 a10 a11 a12 a13 a14 a15 => a3) b15) e
noncomputable def T243 : FX := .t .n15 .n3 g243 fun _ => rfl
noncomputable def s243 (v : OV) (e : FEnv) : FEnv := FEnv.rec (motive := fun _ => FEnv) (fun b0 b1 b2 b3 b4 b5 b6 b7 b8 b9 b10 b11 b12 b13 b14 b15 => FEnv.mk b0 b1 b2 b3 b4 b5 b6 b7 b8 b9 b10 b11 b12 b13 b14 (ls3 v b15)) e
noncomputable def D243 : FD := .at .n15 .n3 s243 fun _ _ => rfl
noncomputable def g244 (e : FEnv) : OV := FEnv.rec (motive := fun _ => OV) (fun b0 b1 b2 b3 b4 b5 b6 b7 b8 b9 b10 b11 b12 b13 b14 b15 => Leaf.rec (motive := fun _ => OV) (fun a0 a1 a2 a3 a4 a5 a6 a7 a8 a9 a10 a11 a12 a13 a14 a15 => a4) b15) e
noncomputable def T244 : FX := .t .n15 .n4 g244 fun _ => rfl
noncomputable def s244 (v : OV) (e : FEnv) : FEnv := FEnv.rec (motive := fun _ => FEnv) (fun b0 b1 b2 b3 b4 b5 b6 b7 b8 b9 b10 b11 b12 b13 b14 b15 => FEnv.mk b0 b1 b2 b3 b4 b5 b6 b7 b8 b9 b10 b11 b12 b13 b14 (ls4 v b15)) e
noncomputable def D244 : FD := .at .n15 .n4 s244 fun _ _ => rfl
noncomputable def g245 (e : FEnv) : OV := FEnv.rec (motive := fun _ => OV) (fun b0 b1 b2 b3 b4 b5 b6 b7 b8 b9 b10 b11 b12 b13 b14 b15 => Leaf.rec (motive := fun _ => OV) (fun a0 a1 a2 a3 a4 a5 a6 a7 a8 a9 a10 a11 a12 a13 a14 a15 => a5) b15) e
noncomputable def T245 : FX := .t .n15 .n5 g245 fun _ => rfl
noncomputable def s245 (v : OV) (e : FEnv) : FEnv := FEnv.rec (motive := fun _ => FEnv) (fun b0 b1 b2 b3 b4 b5 b6 b7 b8 b9 b10 b11 b12 b13 b14 b15 => FEnv.mk b0 b1 b2 b3 b4 b5 b6 b7 b8 b9 b10 b11 b12 b13 b14 (ls5 v b15)) e
noncomputable def D245 : FD := .at .n15 .n5 s245 fun _ _ => rfl
noncomputable def g246 (e : FEnv) : OV := FEnv.rec (motive := fun _ => OV) (fun b0 b1 b2 b3 b4 b5 b6 b7 b8 b9 b10 b11 b12 b13 b14 b15 => Leaf.rec (motive := fun _ => OV) (fun a0 a1 a2 a3 a4 a5 a6 a7 a8 a9 a10 a11 a12 a13 a14 a15 => a6) b15) e
noncomputable def T246 : FX := .t .n15 .n6 g246 fun _ => rfl
noncomputable def s246 (v : OV) (e : FEnv) : FEnv := FEnv.rec (motive := fun _ => FEnv) (fun b0 b1 b2 b3 b4 b5 b6 b7 b8 b9 b10 b11 b12 b13 b14 b15 => FEnv.mk b0 b1 b2 b3 b4 b5 b6 b7 b8 b9 b10 b11 b12 b13 b14 (ls6 v b15)) e
noncomputable def D246 : FD := .at .n15 .n6 s246 fun _ _ => rfl
noncomputable def g247 (e : FEnv) : OV := FEnv.rec (motive := fun _ => OV) (fun b0 b1 b2 b3 b4 b5 b6 b7 b8 b9 b10 b11 b12 b13 b14 b15 => Leaf.rec (motive := fun _ => OV) (fun a0 a1 a2 a3 a4 a5 a6 a7 a8 a9 a10 a11 a12 a13 a14 a15 => a7) b15) e
noncomputable def T247 : FX := .t .n15 .n7 g247 fun _ => rfl
noncomputable def s247 (v : OV) (e : FEnv) : FEnv := FEnv.rec (motive := fun _ => FEnv) (fun b0 b1 b2 b3 b4 b5 b6 b7 b8 b9 b10 b11 b12 b13 b14 b15 => FEnv.mk b0 b1 b2 b3 b4 b5 b6 b7 b8 b9 b10 b11 b12 b13 b14 (ls7 v b15)) e
noncomputable def D247 : FD := .at .n15 .n7 s247 fun _ _ => rfl
noncomputable def g248 (e : FEnv) : OV := FEnv.rec (motive := fun _ => OV) (fun b0 b1 b2 b3 b4 b5 b6 b7 b8 b9 b10 b11 b12 b13 b14 b15 => Leaf.rec (motive := fun _ => OV) (fun a0 a1 a2 a3 a4 a5 a6 a7 a8 a9 a10 a11 a12 a13 a14 a15 => a8) b15) e
noncomputable def T248 : FX := .t .n15 .n8 g248 fun _ => rfl
noncomputable def s248 (v : OV) (e : FEnv) : FEnv := FEnv.rec (motive := fun _ => FEnv) (fun b0 b1 b2 b3 b4 b5 b6 b7 b8 b9 b10 b11 b12 b13 b14 b15 => FEnv.mk b0 b1 b2 b3 b4 b5 b6 b7 b8 b9 b10 b11 b12 b13 b14 (ls8 v b15)) e
noncomputable def D248 : FD := .at .n15 .n8 s248 fun _ _ => rfl
noncomputable def g249 (e : FEnv) : OV := FEnv.rec (motive := fun _ => OV) (fun b0 b1 b2 b3 b4 b5 b6 b7 b8 b9 b10 b11 b12 b13 b14 b15 => Leaf.rec (motive := fun _ => OV) (fun a0 a1 a2 a3 a4 a5 a6 a7 a8 a9 a10 a11 a12 a13 a14 a15 => a9) b15) e
noncomputable def T249 : FX := .t .n15 .n9 g249 fun _ => rfl
noncomputable def s249 (v : OV) (e : FEnv) : FEnv := FEnv.rec (motive := fun _ => FEnv) (fun b0 b1 b2 b3 b4 b5 b6 b7 b8 b9 b10 b11 b12 b13 b14 b15 => FEnv.mk b0 b1 b2 b3 b4 b5 b6 b7 b8 b9 b10 b11 b12 b13 b14 (ls9 v b15)) e
noncomputable def D249 : FD := .at .n15 .n9 s249 fun _ _ => rfl
noncomputable def g250 (e : FEnv) : OV := FEnv.rec (motive := fun _ => OV) (fun b0 b1 b2 b3 b4 b5 b6 b7 b8 b9 b10 b11 b12 b13 b14 b15 => Leaf.rec (motive := fun _ => OV) (fun a0 a1 a2 a3 a4 a5 a6 a7 a8 a9 a10 a11 a12 a13 a14 a15 => a10) b15) e
noncomputable def T250 : FX := .t .n15 .n10 g250 fun _ => rfl
noncomputable def s250 (v : OV) (e : FEnv) : FEnv := FEnv.rec (motive := fun _ => FEnv) (fun b0 b1 b2 b3 b4 b5 b6 b7 b8 b9 b10 b11 b12 b13 b14 b15 => FEnv.mk b0 b1 b2 b3 b4 b5 b6 b7 b8 b9 b10 b11 b12 b13 b14 (ls10 v b15)) e
noncomputable def D250 : FD := .at .n15 .n10 s250 fun _ _ => rfl
noncomputable def g251 (e : FEnv) : OV := FEnv.rec (motive := fun _ => OV) (fun b0 b1 b2 b3 b4 b5 b6 b7 b8 b9 b10 b11 b12 b13 b14 b15 => Leaf.rec (motive := fun _ => OV) (fun a0 a1 a2 a3 a4 a5 a6 a7 a8 a9 a10 a11 a12 a13 a14 a15 => a11) b15) e
noncomputable def T251 : FX := .t .n15 .n11 g251 fun _ => rfl
noncomputable def s251 (v : OV) (e : FEnv) : FEnv := FEnv.rec (motive := fun _ => FEnv) (fun b0 b1 b2 b3 b4 b5 b6 b7 b8 b9 b10 b11 b12 b13 b14 b15 => FEnv.mk b0 b1 b2 b3 b4 b5 b6 b7 b8 b9 b10 b11 b12 b13 b14 (ls11 v b15)) e
noncomputable def D251 : FD := .at .n15 .n11 s251 fun _ _ => rfl
noncomputable def g252 (e : FEnv) : OV := FEnv.rec (motive := fun _ => OV) (fun b0 b1 b2 b3 b4 b5 b6 b7 b8 b9 b10 b11 b12 b13 b14 b15 => Leaf.rec (motive := fun _ => OV) (fun a0 a1 a2 a3 a4 a5 a6 a7 a8 a9 a10 a11 a12 a13 a14 a15 => a12) b15) e
noncomputable def T252 : FX := .t .n15 .n12 g252 fun _ => rfl
noncomputable def s252 (v : OV) (e : FEnv) : FEnv := FEnv.rec (motive := fun _ => FEnv) (fun b0 b1 b2 b3 b4 b5 b6 b7 b8 b9 b10 b11 b12 b13 b14 b15 => FEnv.mk b0 b1 b2 b3 b4 b5 b6 b7 b8 b9 b10 b11 b12 b13 b14 (ls12 v b15)) e
noncomputable def D252 : FD := .at .n15 .n12 s252 fun _ _ => rfl
noncomputable def g253 (e : FEnv) : OV := FEnv.rec (motive := fun _ => OV) (fun b0 b1 b2 b3 b4 b5 b6 b7 b8 b9 b10 b11 b12 b13 b14 b15 => Leaf.rec (motive := fun _ => OV) (fun a0 a1 a2 a3 a4 a5 a6 a7 a8 a9 a10 a11 a12 a13 a14 a15 => a13) b15) e
noncomputable def T253 : FX := .t .n15 .n13 g253 fun _ => rfl
noncomputable def s253 (v : OV) (e : FEnv) : FEnv := FEnv.rec (motive := fun _ => FEnv) (fun b0 b1 b2 b3 b4 b5 b6 b7 b8 b9 b10 b11 b12 b13 b14 b15 => FEnv.mk b0 b1 b2 b3 b4 b5 b6 b7 b8 b9 b10 b11 b12 b13 b14 (ls13 v b15)) e
noncomputable def D253 : FD := .at .n15 .n13 s253 fun _ _ => rfl
noncomputable def g254 (e : FEnv) : OV := FEnv.rec (motive := fun _ => OV) (fun b0 b1 b2 b3 b4 b5 b6 b7 b8 b9 b10 b11 b12 b13 b14 b15 => Leaf.rec (motive := fun _ => OV) (fun a0 a1 a2 a3 a4 a5 a6 a7 a8 a9 a10 a11 a12 a13 a14 a15 => a14) b15) e
noncomputable def T254 : FX := .t .n15 .n14 g254 fun _ => rfl
noncomputable def s254 (v : OV) (e : FEnv) : FEnv := FEnv.rec (motive := fun _ => FEnv) (fun b0 b1 b2 b3 b4 b5 b6 b7 b8 b9 b10 b11 b12 b13 b14 b15 => FEnv.mk b0 b1 b2 b3 b4 b5 b6 b7 b8 b9 b10 b11 b12 b13 b14 (ls14 v b15)) e
noncomputable def D254 : FD := .at .n15 .n14 s254 fun _ _ => rfl
noncomputable def g255 (e : FEnv) : OV := FEnv.rec (motive := fun _ => OV) (fun b0 b1 b2 b3 b4 b5 b6 b7 b8 b9 b10 b11 b12 b13 b14 b15 => Leaf.rec (motive := fun _ => OV) (fun a0 a1 a2 a3 a4 a5 a6 a7 a8 a9 a10 a11 a12 a13 a14 a15 => a15) b15) e
noncomputable def T255 : FX := .t .n15 .n15 g255 fun _ => rfl
noncomputable def s255 (v : OV) (e : FEnv) : FEnv := FEnv.rec (motive := fun _ => FEnv) (fun b0 b1 b2 b3 b4 b5 b6 b7 b8 b9 b10 b11 b12 b13 b14 b15 => FEnv.mk b0 b1 b2 b3 b4 b5 b6 b7 b8 b9 b10 b11 b12 b13 b14 (ls15 v b15)) e
noncomputable def D255 : FD := .at .n15 .n15 s255 fun _ _ => rfl
end Go.Ev
