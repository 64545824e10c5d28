/-
  NARROWER THAN 'FOR EVERY INPUT', by the rows' own cells (each row's printed sentence says how): UserWalk: laid · CapsRights: laid · PlainFull: laid · PlainSleep: laid · PlainOrder: laid.
  DERIVED. THE GIVEN ROWS OF THIS SEAT. 5 by the template 'for every input the law returns true; each argument reads behind the call as it read before'; 0 by the template 'total and deterministic' (their statements: YtinopjbpjopdcaaGreatDoorTotals.lean).
  GIVEN WITH THE SEED: the statements are not yours to turn. If you find one false, say at which input.
  Laid BY PROGRAM, IN A SANDBOX (cutbox-rows.mjs): the forced cells as the released guide's own fill.sh prints them over the translation 31b40bf62bb9f663… (all of the seat's roots in one cut). By AI agents, Wed Nov 11 2026. No macro, syntax, notation, axiom, sorry.
-/
import Derived.Test.YtinopjbpjopdcaaGreatDoorChecked
import GoSem.Claim
import GoSem.ClaimJoined
import GoSem.ClaimMapViews
import Derived.JoinedTies
import Derived.KernelRfl
namespace Go.Proofs.YtinopjbpjopdcaaGreatDoor
/- THE CELL 'sum', in the pinned program and in every row, IS THE sha256 OF THE DUMP (.gsa) THAT YtinopjbpjopdcaaGreatDoorProg.lean LOADS. Nothing in Lean hashes anything: it is a label: what it is worth is what the hold of that sum in a sandbox is worth. -/
noncomputable def Tryz.pinned : Pinned := { name := "ytinopjbpjopdcaagreatdoor", sum := "31b40bf62bb9f6630e9f6c6f6396241254cc8847a0a7af59ee28ce0188af210e", checked := Tryz.checked }
namespace Rows
def none {H : Type} : Left H := { results := [], args := [] }

/- WHAT THE LISTED PACKAGE-LEVEL VARIABLES READ AS WHEN THE CALL BEGINS. Each datum BY PROGRAM (the guide's laid-datum.mjs) off the statement by which the dump's own 'gosem.cut.vars' lays the variable. In a bare row this is a premise. The card (YtinopjbpjopdcaaGreatDoorCards.lean) ties it to the program's text. -/
def laid_errors_errorType {H : Type} : DataW H := .iface "internal/reflectlite.rtype" (.agg [.ptr (.lit (.string [101, 114, 114, 111, 114]))])

/-- 'messuagelaw11.UserWalk': WHATEVER THE INPUT: true; the input reads as it did. -/
def userWalkSpec : ChangeSpec := { name := "userWalk", fn := fun _ => fun
  | [d1, d2, d3, d4, d5] => { results := [.lit (.bool true)], args := [d1, d2, d3, d4, d5] }
  | _ => none }
def userWalkRow : OpenClaim := { program := "ytinopjbpjopdcaagreatdoor", sum := "31b40bf62bb9f6630e9f6c6f6396241254cc8847a0a7af59ee28ce0188af210e", func := "messuage/messuagelaw11.UserWalk", spec := "userWalk", inPlace := ["internal/reflectlite.ValueOf", "(internal/reflectlite.Value).Type", "(internal/reflectlite.Value).IsNil", "internal/reflectlite.TypeOf", "(internal/reflectlite.Value).Elem", "(internal/reflectlite.Value).Set", "slices.overlaps[uint64]"], unfollowed := true, recurses := true, named := ["errors.errorType"], apart := false, laid := [("errors.errorType", laid_errors_errorType)] }
def UserWalkSaid : Prop := userWalkRow.holds Tryz.pinned (OpenSpec.ofChange userWalkSpec)

/-- ITS FALSE NEIGHBOUR: 'it returns false'. Refute it at one input. -/
def userWalkWrong : ChangeSpec := { name := "userWalk", fn := fun _ => fun
  | [d1, d2, d3, d4, d5] => { results := [.lit (.bool false)], args := [d1, d2, d3, d4, d5] }
  | _ => none }
def UserWalkWrongFalsely : Prop := userWalkRow.holds Tryz.pinned (OpenSpec.ofChange userWalkWrong)

/-- 'messuagelaw11.CapsRights': WHATEVER THE INPUT: true; the input reads as it did. -/
def capsRightsSpec : ChangeSpec := { name := "capsRights", fn := fun _ => fun
  | [d] => { results := [.lit (.bool true)], args := [d] }
  | _ => none }
def capsRightsRow : OpenClaim := { program := "ytinopjbpjopdcaagreatdoor", sum := "31b40bf62bb9f6630e9f6c6f6396241254cc8847a0a7af59ee28ce0188af210e", func := "messuage/messuagelaw11.CapsRights", spec := "capsRights", inPlace := ["internal/reflectlite.ValueOf", "(internal/reflectlite.Value).Type", "(internal/reflectlite.Value).IsNil", "internal/reflectlite.TypeOf", "(internal/reflectlite.Value).Elem", "(internal/reflectlite.Value).Set", "slices.overlaps[uint64]"], unfollowed := true, recurses := true, named := ["errors.errorType"], apart := false, laid := [("errors.errorType", laid_errors_errorType)] }
def CapsRightsSaid : Prop := capsRightsRow.holds Tryz.pinned (OpenSpec.ofChange capsRightsSpec)

/-- ITS FALSE NEIGHBOUR: 'it returns false'. Refute it at one input. -/
def capsRightsWrong : ChangeSpec := { name := "capsRights", fn := fun _ => fun
  | [d] => { results := [.lit (.bool false)], args := [d] }
  | _ => none }
def CapsRightsWrongFalsely : Prop := capsRightsRow.holds Tryz.pinned (OpenSpec.ofChange capsRightsWrong)

/-- 'messuagelaw11.PlainFull': WHATEVER THE INPUT: true; the input reads as it did. -/
def plainFullSpec : ChangeSpec := { name := "plainFull", fn := fun _ => fun
  | [d] => { results := [.lit (.bool true)], args := [d] }
  | _ => none }
def plainFullRow : OpenClaim := { program := "ytinopjbpjopdcaagreatdoor", sum := "31b40bf62bb9f6630e9f6c6f6396241254cc8847a0a7af59ee28ce0188af210e", func := "messuage/messuagelaw11.PlainFull", spec := "plainFull", inPlace := ["internal/reflectlite.ValueOf", "(internal/reflectlite.Value).Type", "(internal/reflectlite.Value).IsNil", "internal/reflectlite.TypeOf", "(internal/reflectlite.Value).Elem", "(internal/reflectlite.Value).Set", "slices.overlaps[uint64]"], unfollowed := true, recurses := true, named := ["errors.errorType"], apart := false, laid := [("errors.errorType", laid_errors_errorType)] }
def PlainFullSaid : Prop := plainFullRow.holds Tryz.pinned (OpenSpec.ofChange plainFullSpec)

/-- ITS FALSE NEIGHBOUR: 'it returns false'. Refute it at one input. -/
def plainFullWrong : ChangeSpec := { name := "plainFull", fn := fun _ => fun
  | [d] => { results := [.lit (.bool false)], args := [d] }
  | _ => none }
def PlainFullWrongFalsely : Prop := plainFullRow.holds Tryz.pinned (OpenSpec.ofChange plainFullWrong)

/-- 'messuagelaw11.PlainSleep': WHATEVER THE INPUT: true; the input reads as it did. -/
def plainSleepSpec : ChangeSpec := { name := "plainSleep", fn := fun _ => fun
  | [d1, d2, d3, d4] => { results := [.lit (.bool true)], args := [d1, d2, d3, d4] }
  | _ => none }
def plainSleepRow : OpenClaim := { program := "ytinopjbpjopdcaagreatdoor", sum := "31b40bf62bb9f6630e9f6c6f6396241254cc8847a0a7af59ee28ce0188af210e", func := "messuage/messuagelaw11.PlainSleep", spec := "plainSleep", inPlace := ["internal/reflectlite.ValueOf", "(internal/reflectlite.Value).Type", "(internal/reflectlite.Value).IsNil", "internal/reflectlite.TypeOf", "(internal/reflectlite.Value).Elem", "(internal/reflectlite.Value).Set", "slices.overlaps[uint64]"], unfollowed := true, recurses := true, named := ["errors.errorType"], apart := false, laid := [("errors.errorType", laid_errors_errorType)] }
def PlainSleepSaid : Prop := plainSleepRow.holds Tryz.pinned (OpenSpec.ofChange plainSleepSpec)

/-- ITS FALSE NEIGHBOUR: 'it returns false'. Refute it at one input. -/
def plainSleepWrong : ChangeSpec := { name := "plainSleep", fn := fun _ => fun
  | [d1, d2, d3, d4] => { results := [.lit (.bool false)], args := [d1, d2, d3, d4] }
  | _ => none }
def PlainSleepWrongFalsely : Prop := plainSleepRow.holds Tryz.pinned (OpenSpec.ofChange plainSleepWrong)

/-- 'messuagelaw11.PlainOrder': WHATEVER THE INPUT: true; the input reads as it did. -/
def plainOrderSpec : ChangeSpec := { name := "plainOrder", fn := fun _ => fun
  | [d] => { results := [.lit (.bool true)], args := [d] }
  | _ => none }
def plainOrderRow : OpenClaim := { program := "ytinopjbpjopdcaagreatdoor", sum := "31b40bf62bb9f6630e9f6c6f6396241254cc8847a0a7af59ee28ce0188af210e", func := "messuage/messuagelaw11.PlainOrder", spec := "plainOrder", inPlace := ["internal/reflectlite.ValueOf", "(internal/reflectlite.Value).Type", "(internal/reflectlite.Value).IsNil", "internal/reflectlite.TypeOf", "(internal/reflectlite.Value).Elem", "(internal/reflectlite.Value).Set", "slices.overlaps[uint64]"], unfollowed := true, recurses := true, named := ["errors.errorType"], apart := false, laid := [("errors.errorType", laid_errors_errorType)] }
def PlainOrderSaid : Prop := plainOrderRow.holds Tryz.pinned (OpenSpec.ofChange plainOrderSpec)

/-- ITS FALSE NEIGHBOUR: 'it returns false'. Refute it at one input. -/
def plainOrderWrong : ChangeSpec := { name := "plainOrder", fn := fun _ => fun
  | [d] => { results := [.lit (.bool false)], args := [d] }
  | _ => none }
def PlainOrderWrongFalsely : Prop := plainOrderRow.holds Tryz.pinned (OpenSpec.ofChange plainOrderWrong)

/- THE SECOND FORM. 'bulk': how many values and letters a reading holds, each counted each time it is reached (what is shared counts as often as it is met; a slice's spare places count too). A statement '..UptoSaid' is the law's where the arguments, and the package variables that the reading takes, are together of bulk at most 1048576: NARROWER than '..Said'. Prove '..Said' where nothing that the law and all that it calls make is longer than what came in: it says more and counts as full. Else prove '..UptoSaid'. A law counts once. -/
mutual
def uptoBulk {H : Type} : DataW H → Nat
  | .lit (.string bytes) => bytes.length + 1
  | .lit _ => 1
  | .nil => 1
  | .ptr d => uptoBulk d + 1
  | .slice elems spare => uptoBulkAll elems + uptoBulkAll spare + 1
  | .agg parts => uptoBulkAll parts + 1
  | .iface _ d => uptoBulk d + 1
  | .map entries => uptoBulkEntries entries + 1
  | .held _ => 1
def uptoBulkAll {H : Type} : List (DataW H) → Nat
  | [] => 0
  | d :: r => uptoBulk d + uptoBulkAll r
def uptoBulkEntries {H : Type} : List (Lit × DataW H) → Nat
  | [] => 0
  | x :: r => uptoBulkEntry x + uptoBulkEntries r
def uptoBulkEntry {H : Type} : Lit × DataW H → Nat
  | (.string bytes, d) => bytes.length + uptoBulk d + 1
  | (_, d) => uptoBulk d + 1
 end
def uptoSmall : (H : Type) → List (DataW H) → Bool := fun _ ds => decide (uptoBulkAll ds ≤ 1048576)
def OpenSpec.upto (s : _root_.Go.ChangeSpec) : _root_.Go.OpenSpec := { _root_.Go.OpenSpec.ofChange s with cond := some uptoSmall }

/-- 'messuagelaw11.UserWalk', WHERE WHAT IT READS IS OF BULK AT MOST 1048576: true; the input reads as it did. -/
def userWalkUptoRow : OpenClaim := { program := "ytinopjbpjopdcaagreatdoor", sum := "31b40bf62bb9f6630e9f6c6f6396241254cc8847a0a7af59ee28ce0188af210e", func := "messuage/messuagelaw11.UserWalk", spec := "userWalk", inPlace := ["internal/reflectlite.ValueOf", "(internal/reflectlite.Value).Type", "(internal/reflectlite.Value).IsNil", "internal/reflectlite.TypeOf", "(internal/reflectlite.Value).Elem", "(internal/reflectlite.Value).Set", "slices.overlaps[uint64]"], unfollowed := true, recurses := true, named := ["errors.errorType"], apart := false, laid := [("errors.errorType", laid_errors_errorType)], narrowed := true }
def UserWalkUptoSaid : Prop := userWalkUptoRow.holds Tryz.pinned (OpenSpec.upto userWalkSpec)

/-- 'messuagelaw11.CapsRights', WHERE WHAT IT READS IS OF BULK AT MOST 1048576: true; the input reads as it did. -/
def capsRightsUptoRow : OpenClaim := { program := "ytinopjbpjopdcaagreatdoor", sum := "31b40bf62bb9f6630e9f6c6f6396241254cc8847a0a7af59ee28ce0188af210e", func := "messuage/messuagelaw11.CapsRights", spec := "capsRights", inPlace := ["internal/reflectlite.ValueOf", "(internal/reflectlite.Value).Type", "(internal/reflectlite.Value).IsNil", "internal/reflectlite.TypeOf", "(internal/reflectlite.Value).Elem", "(internal/reflectlite.Value).Set", "slices.overlaps[uint64]"], unfollowed := true, recurses := true, named := ["errors.errorType"], apart := false, laid := [("errors.errorType", laid_errors_errorType)], narrowed := true }
def CapsRightsUptoSaid : Prop := capsRightsUptoRow.holds Tryz.pinned (OpenSpec.upto capsRightsSpec)

/-- 'messuagelaw11.PlainFull', WHERE WHAT IT READS IS OF BULK AT MOST 1048576: true; the input reads as it did. -/
def plainFullUptoRow : OpenClaim := { program := "ytinopjbpjopdcaagreatdoor", sum := "31b40bf62bb9f6630e9f6c6f6396241254cc8847a0a7af59ee28ce0188af210e", func := "messuage/messuagelaw11.PlainFull", spec := "plainFull", inPlace := ["internal/reflectlite.ValueOf", "(internal/reflectlite.Value).Type", "(internal/reflectlite.Value).IsNil", "internal/reflectlite.TypeOf", "(internal/reflectlite.Value).Elem", "(internal/reflectlite.Value).Set", "slices.overlaps[uint64]"], unfollowed := true, recurses := true, named := ["errors.errorType"], apart := false, laid := [("errors.errorType", laid_errors_errorType)], narrowed := true }
def PlainFullUptoSaid : Prop := plainFullUptoRow.holds Tryz.pinned (OpenSpec.upto plainFullSpec)

/-- 'messuagelaw11.PlainSleep', WHERE WHAT IT READS IS OF BULK AT MOST 1048576: true; the input reads as it did. -/
def plainSleepUptoRow : OpenClaim := { program := "ytinopjbpjopdcaagreatdoor", sum := "31b40bf62bb9f6630e9f6c6f6396241254cc8847a0a7af59ee28ce0188af210e", func := "messuage/messuagelaw11.PlainSleep", spec := "plainSleep", inPlace := ["internal/reflectlite.ValueOf", "(internal/reflectlite.Value).Type", "(internal/reflectlite.Value).IsNil", "internal/reflectlite.TypeOf", "(internal/reflectlite.Value).Elem", "(internal/reflectlite.Value).Set", "slices.overlaps[uint64]"], unfollowed := true, recurses := true, named := ["errors.errorType"], apart := false, laid := [("errors.errorType", laid_errors_errorType)], narrowed := true }
def PlainSleepUptoSaid : Prop := plainSleepUptoRow.holds Tryz.pinned (OpenSpec.upto plainSleepSpec)

/-- 'messuagelaw11.PlainOrder', WHERE WHAT IT READS IS OF BULK AT MOST 1048576: true; the input reads as it did. -/
def plainOrderUptoRow : OpenClaim := { program := "ytinopjbpjopdcaagreatdoor", sum := "31b40bf62bb9f6630e9f6c6f6396241254cc8847a0a7af59ee28ce0188af210e", func := "messuage/messuagelaw11.PlainOrder", spec := "plainOrder", inPlace := ["internal/reflectlite.ValueOf", "(internal/reflectlite.Value).Type", "(internal/reflectlite.Value).IsNil", "internal/reflectlite.TypeOf", "(internal/reflectlite.Value).Elem", "(internal/reflectlite.Value).Set", "slices.overlaps[uint64]"], unfollowed := true, recurses := true, named := ["errors.errorType"], apart := false, laid := [("errors.errorType", laid_errors_errorType)], narrowed := true }
def PlainOrderUptoSaid : Prop := plainOrderUptoRow.holds Tryz.pinned (OpenSpec.upto plainOrderSpec)

end Rows
end Go.Proofs.YtinopjbpjopdcaaGreatDoor
