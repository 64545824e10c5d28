import Derived.Test.YtolngjaihlggnaaGreatDoorEvMods
/-! WordEdge: the runs, by the remainders of 'kind' and 'at'. -/
namespace Go.Proofs.YtolngjaihlggnaaGreatDoor
open Go.Ev

theorem tmod_near (x m : Int) (hm : 0 < m) : -m < x.tmod m ∧ x.tmod m < m := by
  have h1 := Int.tmod_lt_of_pos x hm
  refine ⟨?_, h1⟩
  have h2 := Int.tmod_lt_of_pos (-x) hm
  rw [Int.neg_tmod] at h2
  omega

def runWE (a b : Nat) (o : Bool) : Bool :=
  isT (@evCall (tabM [(0, 13, (a : Int) - 12), (1, 4, (b : Int) - 3)]) cx1 100000 50 3 [.sym .i64 0, .sym .i64 1, .bool o] hM)

theorem we0 : ((List.range 7).all fun b => [true, false].all fun o => runWE 0 b o) = true := by kernel_rfl
theorem we1 : ((List.range 7).all fun b => [true, false].all fun o => runWE 1 b o) = true := by kernel_rfl
theorem we2 : ((List.range 7).all fun b => [true, false].all fun o => runWE 2 b o) = true := by kernel_rfl
theorem we3 : ((List.range 7).all fun b => [true, false].all fun o => runWE 3 b o) = true := by kernel_rfl
theorem we4 : ((List.range 7).all fun b => [true, false].all fun o => runWE 4 b o) = true := by kernel_rfl
theorem we5 : ((List.range 7).all fun b => [true, false].all fun o => runWE 5 b o) = true := by kernel_rfl
theorem we6 : ((List.range 7).all fun b => [true, false].all fun o => runWE 6 b o) = true := by kernel_rfl
theorem we7 : ((List.range 7).all fun b => [true, false].all fun o => runWE 7 b o) = true := by kernel_rfl
theorem we8 : ((List.range 7).all fun b => [true, false].all fun o => runWE 8 b o) = true := by kernel_rfl
theorem we9 : ((List.range 7).all fun b => [true, false].all fun o => runWE 9 b o) = true := by kernel_rfl
theorem we10 : ((List.range 7).all fun b => [true, false].all fun o => runWE 10 b o) = true := by kernel_rfl
theorem we11 : ((List.range 7).all fun b => [true, false].all fun o => runWE 11 b o) = true := by kernel_rfl
theorem we12 : ((List.range 7).all fun b => [true, false].all fun o => runWE 12 b o) = true := by kernel_rfl
theorem we13 : ((List.range 7).all fun b => [true, false].all fun o => runWE 13 b o) = true := by kernel_rfl
theorem we14 : ((List.range 7).all fun b => [true, false].all fun o => runWE 14 b o) = true := by kernel_rfl
theorem we15 : ((List.range 7).all fun b => [true, false].all fun o => runWE 15 b o) = true := by kernel_rfl
theorem we16 : ((List.range 7).all fun b => [true, false].all fun o => runWE 16 b o) = true := by kernel_rfl
theorem we17 : ((List.range 7).all fun b => [true, false].all fun o => runWE 17 b o) = true := by kernel_rfl
theorem we18 : ((List.range 7).all fun b => [true, false].all fun o => runWE 18 b o) = true := by kernel_rfl
theorem we19 : ((List.range 7).all fun b => [true, false].all fun o => runWE 19 b o) = true := by kernel_rfl
theorem we20 : ((List.range 7).all fun b => [true, false].all fun o => runWE 20 b o) = true := by kernel_rfl
theorem we21 : ((List.range 7).all fun b => [true, false].all fun o => runWE 21 b o) = true := by kernel_rfl
theorem we22 : ((List.range 7).all fun b => [true, false].all fun o => runWE 22 b o) = true := by kernel_rfl
theorem we23 : ((List.range 7).all fun b => [true, false].all fun o => runWE 23 b o) = true := by kernel_rfl
theorem we24 : ((List.range 7).all fun b => [true, false].all fun o => runWE 24 b o) = true := by kernel_rfl

theorem we_all : ∀ a, a < 25 → ((List.range 7).all fun b => [true, false].all fun o => runWE a b o) = true
  | 0, _ => we0
  | 1, _ => we1
  | 2, _ => we2
  | 3, _ => we3
  | 4, _ => we4
  | 5, _ => we5
  | 6, _ => we6
  | 7, _ => we7
  | 8, _ => we8
  | 9, _ => we9
  | 10, _ => we10
  | 11, _ => we11
  | 12, _ => we12
  | 13, _ => we13
  | 14, _ => we14
  | 15, _ => we15
  | 16, _ => we16
  | 17, _ => we17
  | 18, _ => we18
  | 19, _ => we19
  | 20, _ => we20
  | 21, _ => we21
  | 22, _ => we22
  | 23, _ => we23
  | 24, _ => we24
  | n + 25, h => absurd h (by omega)

theorem wordEdge_calls (kind at' : Int) (over : Bool) (W : World)
    (hc : W.cell? ⟨0, 0, none⟩ = some (.iface 153 (.agg #[.pointer (some ⟨4, 123, none⟩)]))) :
    Calls Tryz.prog 3 #[.int .i64 kind, .int .i64 at', .bool over] W fun e W' => e = .returned (.bool true) ∧ Go.RowKit.Grown W W' := by
  have h1 := tmod_near kind 13 (by decide)
  have h3 := tmod_near at' 4 (by decide)
  let val : Nat → Int := fun i => if i = 0 then kind else at'
  let l : List (Nat × Int × Int) := [(0, 13, (((kind.tmod 13 + 12).toNat : Nat) : Int) - 12), (1, 4, (((at'.tmod 4 + 3).toNat : Nat) : Int) - 3)]
  have hl : ∀ i m r, lookM i m l = some r → m ≠ 0 ∧ (val i).tmod m = r := by
    intro i m r h
    simp only [l, lookM] at h
    cases ha : (Nat.beq i 0 && decide (m = 13)) with
    | true =>
      rw [ha] at h
      simp only [cond_true, Option.some.injEq] at h
      simp only [Bool.and_eq_true, decide_eq_true_eq] at ha
      have := nbeq ha.1
      subst this
      rw [ha.2]
      have hv : val 0 = kind := rfl
      rw [hv]
      omega
    | false =>
      rw [ha] at h
      simp only [cond_false] at h
      cases hb : (Nat.beq i 1 && decide (m = 4)) with
      | true =>
        rw [hb] at h
        simp only [cond_true, Option.some.injEq] at h
        simp only [Bool.and_eq_true, decide_eq_true_eq] at hb
        have := nbeq hb.1
        subst this
        rw [hb.2]
        have hv : val 1 = at' := rfl
        rw [hv]
        omega
      | false => rw [hb] at h; cases h
  have ha := we_all (kind.tmod 13 + 12).toNat (by omega)
  rw [List.all_eq_true] at ha
  have hb := ha (at'.tmod 4 + 3).toNat (List.mem_range.2 (by omega))
  rw [List.all_eq_true] at hb
  have hcc : runWE (kind.tmod 13 + 12).toNat (at'.tmod 4 + 3).toNat over = true := hb over (by cases over <;> simp)
  have hlr : @LRel (sigM val l hl) (rhoMin W 4) [.sym .i64 0, .sym .i64 1, .bool over] [.int .i64 kind, .int .i64 at', .bool over] :=
    @LRel.cons (sigM val l hl) _ _ _ _ _ (@VRel.sym (sigM val l hl) _ .i64 0) (@LRel.cons (sigM val l hl) _ _ _ _ _ (@VRel.sym (sigM val l hl) _ .i64 1) (@LRel.one (sigM val l hl) _ _ _ (@VRel.bool (sigM val l hl) _ over)))
  exact @law_calls (sigM val l hl) 100000 49 3 (by kernel_rfl) [.sym .i64 0, .sym .i64 1, .bool over] hcc W hc [.int .i64 kind, .int .i64 at', .bool over] hlr
end Go.Proofs.YtolngjaihlggnaaGreatDoor
