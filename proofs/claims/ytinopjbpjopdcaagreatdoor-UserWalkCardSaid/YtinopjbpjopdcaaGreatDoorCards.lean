/-
  DERIVED. GIVEN WITH THE SEED: THE CARDS: each row of YtinopjbpjopdcaaGreatDoorRows.lean that lists a variable, with what it lists TIED to the program's text (the seventh form; the later family's looks); each row that meets fmt, with fmt's text TOLD by the authors' own Lean function (tested against real Go, not proved from fmt's source: count such statements apart). THE CARD IS WHAT COUNTS. Prove the row's statement (the work); the ties are given (YtinopjbpjopdcaaGreatDoorTie.lean); close each card by the builder's one call (the guide's Derived/Test/ToyasCard.lean, 'card_holds'). Laid BY PROGRAM, IN A SANDBOX (cutbox-door.mjs). By AI agents, Wed Nov 11 2026. No macro, syntax, notation, axiom, sorry.
-/
import Derived.Test.YtinopjbpjopdcaaGreatDoorRows
import GoSem.ClaimSeven
namespace Go.Proofs.YtinopjbpjopdcaaGreatDoor
namespace Rows

/-- THE TIED CARD OF 'messuagelaw11.UserWalk'. -/
def userWalkCard : Claim7 := { stood := { row := userWalkRow, standIns := [], harness := (true, "478a4f825c5964b3ab7eebb4e43d6064ea542539db18f2795da34d83ee13cbbe"), looks := true }, kinds := [], alts := [], laidByText := true, laidKinds := [.handle], laidTests := true, laidLooks := .later }
def UserWalkCardSaid : Prop := Claim7.holds Tryz.pinned (.plain (OpenSpec.ofChange userWalkSpec)) userWalkCard

/-- THE TIED CARD OF 'messuagelaw11.CapsRights'. -/
def capsRightsCard : Claim7 := { stood := { row := capsRightsRow, standIns := [], harness := (true, "478a4f825c5964b3ab7eebb4e43d6064ea542539db18f2795da34d83ee13cbbe"), looks := true }, kinds := [], alts := [], laidByText := true, laidKinds := [.handle], laidTests := true, laidLooks := .later }
def CapsRightsCardSaid : Prop := Claim7.holds Tryz.pinned (.plain (OpenSpec.ofChange capsRightsSpec)) capsRightsCard

/-- THE TIED CARD OF 'messuagelaw11.PlainFull'. -/
def plainFullCard : Claim7 := { stood := { row := plainFullRow, standIns := [], harness := (true, "478a4f825c5964b3ab7eebb4e43d6064ea542539db18f2795da34d83ee13cbbe"), looks := true }, kinds := [], alts := [], laidByText := true, laidKinds := [.handle], laidTests := true, laidLooks := .later }
def PlainFullCardSaid : Prop := Claim7.holds Tryz.pinned (.plain (OpenSpec.ofChange plainFullSpec)) plainFullCard

/-- THE TIED CARD OF 'messuagelaw11.PlainSleep'. -/
def plainSleepCard : Claim7 := { stood := { row := plainSleepRow, standIns := [], harness := (true, "478a4f825c5964b3ab7eebb4e43d6064ea542539db18f2795da34d83ee13cbbe"), looks := true }, kinds := [], alts := [], laidByText := true, laidKinds := [.handle], laidTests := true, laidLooks := .later }
def PlainSleepCardSaid : Prop := Claim7.holds Tryz.pinned (.plain (OpenSpec.ofChange plainSleepSpec)) plainSleepCard

/-- THE TIED CARD OF 'messuagelaw11.PlainOrder'. -/
def plainOrderCard : Claim7 := { stood := { row := plainOrderRow, standIns := [], harness := (true, "478a4f825c5964b3ab7eebb4e43d6064ea542539db18f2795da34d83ee13cbbe"), looks := true }, kinds := [], alts := [], laidByText := true, laidKinds := [.handle], laidTests := true, laidLooks := .later }
def PlainOrderCardSaid : Prop := Claim7.holds Tryz.pinned (.plain (OpenSpec.ofChange plainOrderSpec)) plainOrderCard

/-- THE SECOND FORM's CARD OF 'messuagelaw11.UserWalk'. -/
def userWalkUptoCard : Claim7 := { stood := { row := userWalkUptoRow, standIns := [], harness := (true, "478a4f825c5964b3ab7eebb4e43d6064ea542539db18f2795da34d83ee13cbbe"), looks := true }, kinds := [], alts := [], laidByText := true, laidKinds := [.handle], laidTests := true, laidLooks := .later }
def UserWalkUptoCardSaid : Prop := Claim7.holds Tryz.pinned (.plain (OpenSpec.upto userWalkSpec)) userWalkUptoCard

/-- THE SECOND FORM's CARD OF 'messuagelaw11.CapsRights'. -/
def capsRightsUptoCard : Claim7 := { stood := { row := capsRightsUptoRow, standIns := [], harness := (true, "478a4f825c5964b3ab7eebb4e43d6064ea542539db18f2795da34d83ee13cbbe"), looks := true }, kinds := [], alts := [], laidByText := true, laidKinds := [.handle], laidTests := true, laidLooks := .later }
def CapsRightsUptoCardSaid : Prop := Claim7.holds Tryz.pinned (.plain (OpenSpec.upto capsRightsSpec)) capsRightsUptoCard

/-- THE SECOND FORM's CARD OF 'messuagelaw11.PlainFull'. -/
def plainFullUptoCard : Claim7 := { stood := { row := plainFullUptoRow, standIns := [], harness := (true, "478a4f825c5964b3ab7eebb4e43d6064ea542539db18f2795da34d83ee13cbbe"), looks := true }, kinds := [], alts := [], laidByText := true, laidKinds := [.handle], laidTests := true, laidLooks := .later }
def PlainFullUptoCardSaid : Prop := Claim7.holds Tryz.pinned (.plain (OpenSpec.upto plainFullSpec)) plainFullUptoCard

/-- THE SECOND FORM's CARD OF 'messuagelaw11.PlainSleep'. -/
def plainSleepUptoCard : Claim7 := { stood := { row := plainSleepUptoRow, standIns := [], harness := (true, "478a4f825c5964b3ab7eebb4e43d6064ea542539db18f2795da34d83ee13cbbe"), looks := true }, kinds := [], alts := [], laidByText := true, laidKinds := [.handle], laidTests := true, laidLooks := .later }
def PlainSleepUptoCardSaid : Prop := Claim7.holds Tryz.pinned (.plain (OpenSpec.upto plainSleepSpec)) plainSleepUptoCard

/-- THE SECOND FORM's CARD OF 'messuagelaw11.PlainOrder'. -/
def plainOrderUptoCard : Claim7 := { stood := { row := plainOrderUptoRow, standIns := [], harness := (true, "478a4f825c5964b3ab7eebb4e43d6064ea542539db18f2795da34d83ee13cbbe"), looks := true }, kinds := [], alts := [], laidByText := true, laidKinds := [.handle], laidTests := true, laidLooks := .later }
def PlainOrderUptoCardSaid : Prop := Claim7.holds Tryz.pinned (.plain (OpenSpec.upto plainOrderSpec)) plainOrderUptoCard
end Rows
end Go.Proofs.YtinopjbpjopdcaaGreatDoor
