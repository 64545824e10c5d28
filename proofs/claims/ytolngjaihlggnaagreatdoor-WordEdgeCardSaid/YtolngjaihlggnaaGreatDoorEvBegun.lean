import Derived.Test.YtolngjaihlggnaaGreatDoorEvOrc
/-! The layer's 'begun' comes to 'true', and leaves nothing behind. -/
namespace Go.Proofs.YtolngjaihlggnaaGreatDoor
open Go.Ev

theorem begun_isT [Tab] : isT (evCall cx0 1000000 60 8 [] hM) = true := by kernel_rfl

def orc1 (f : FuncId) : Option (List V → H → Option (V × H)) :=
  bif Nat.beq f 8 then some (trueO 0 4 153 123) else orc0 f
def cx1 : Cx := ⟨ft, ts0, orc1⟩

theorem orc1_ok [inst : Sig] (base : Nat) (f : FuncId) (g : List V → H → Option (V × H)) (h : orc1 f = some g) : OrcOk Tryz.prog base f g := by
  unfold orc1 at h
  cases h1 : Nat.beq f 8 with
  | true =>
    rw [h1] at h
    simp only [cond_true, Option.some.injEq] at h
    have h1 := nbeq h1
    subst h1; subst h
    obtain ⟨hend, he⟩ := isT_some begun_isT
    exact @true_ok inst Tryz.prog base cx0 0 4 153 123 gsize (by decide) follows ts_ok ft_ok (@cx0_ok inst base) 1000000 60 8 hend he
  | false =>
    rw [h1] at h
    exact @orc0_ok inst base f g h
theorem cx1_ok [inst : Sig] (base : Nat) : OrcSound Tryz.prog base cx1 := @orcs_of inst Tryz.prog base cx1 (@orc1_ok inst base)
end Go.Proofs.YtolngjaihlggnaaGreatDoor
