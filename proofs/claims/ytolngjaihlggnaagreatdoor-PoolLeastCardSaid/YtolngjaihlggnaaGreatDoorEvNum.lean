import Derived.Test.YtolngjaihlggnaaGreatDoorEvTopF
/-! Answers for the idiom '(x % m + m) % m'. -/
namespace Go.Ev

theorem norm_mod (x m : Int) (hm : 0 < m) (hb : m < 2 ^ 62) : (wr .i64 (x.tmod m + m)).tmod m = x % m := by
  have h1 : x.tmod m < m := Int.tmod_lt_of_pos x hm
  have h2 : -m < x.tmod m := by
    have h2 := Int.tmod_lt_of_pos (-x) hm
    rw [Int.neg_tmod] at h2
    omega
  rw [wr_in _ _ (by simp only [IntKind.signed, IntKind.bits, if_true]; omega)]
  rw [Int.tmod_eq_emod_of_nonneg (by omega), Int.add_emod_right]
  rw [Int.tmod_eq_emod]
  split
  · simp
  · rw [show x % m - (m.natAbs : Int) = x % m + m * (-1) by omega, Int.add_mul_emod_self_left, Int.emod_emod]

/-- '(x % m + m) % m' is 'c': 'x' is the number i; j and k name what stands between. -/
def ansMod (i j k : Nat) (m c : Nat) : List Ans :=
  [⟨.rem, .sym .i64 i, .int .i64 (.ofNat m), .sym .i64 j⟩, ⟨.add, .sym .i64 j, .int .i64 (.ofNat m), .sym .i64 k⟩, ⟨.rem, .sym .i64 k, .int .i64 (.ofNat m), .int .i64 (.ofNat c)⟩]

theorem ansMod_ok {val : Nat → Int} {i j k m : Nat} (hm : 0 < m) (hb : m < 2 ^ 62) (hj : val j = (val i).tmod m) (hk : val k = wr .i64 (val j + m)) :
    ∀ x ∈ ansMod i j k m (val i % m).toNat, AnsOk val x := by
  intro x hx
  have hm0 : (m : Int) ≠ 0 := by omega
  have h0 := Int.emod_nonneg (val i) hm0
  simp only [ansMod, List.mem_cons, List.not_mem_nil, or_false] at hx
  rcases hx with rfl | rfl | rfl
  · simp [AnsOk, evBin0, V.conc, hj]
    omega
  · simp [AnsOk, evBin0, V.conc, hk]
  · have := norm_mod (val i) m (by omega) (by omega)
    simp only [AnsOk, evBin0, V.conc, if_true, Int.ofNat_eq_natCast, hm0, if_false, Option.some.injEq, V.int.injEq, true_and]
    rw [hk, hj, this]
    omega
end Go.Ev
