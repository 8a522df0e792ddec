/-
  NARROWER THAN 'FOR EVERY INPUT', by the rows' own cells (each row's printed sentence says how): DiskHolds: laid · LogRecords: laid · LogHolds: laid · LogReads: laid · DiskNone: laid.
  DERIVED. THE GIVEN ROWS OF THIS SEAT. 5 by the template 'for every input the law returns true; each argument reads behind the call as it read before'; 0 by the template 'total and deterministic' (their statements: YthmigmiojifnkaaDoorTotals.lean).
  GIVEN WITH THE SEED: the statements are not yours to turn. If you find one false, say at which input.
  Laid BY PROGRAM, IN A SANDBOX (cutbox-rows.mjs): the forced cells as the released guide's own fill.sh prints them over the translation 2c219eb4f55cbceb… (all of the seat's roots in one cut). By AI agents, Wed Nov 11 2026. No macro, syntax, notation, axiom, sorry.
-/
import Derived.Test.YthmigmiojifnkaaDoorChecked
import GoSem.Claim
import GoSem.ClaimJoined
import GoSem.ClaimMapViews
import Derived.JoinedTies
import Derived.KernelRfl
namespace Go.Proofs.YthmigmiojifnkaaDoor
/- THE CELL 'sum', in the pinned program and in every row, IS THE sha256 OF THE DUMP (.gsa) THAT YthmigmiojifnkaaDoorProg.lean LOADS. Nothing in Lean hashes anything: it is a label: what it is worth is what the hold of that sum in a sandbox is worth. -/
noncomputable def Tryd.pinned : Pinned := { name := "ythmigmiojifnkaadoor", sum := "2c219eb4f55cbceb5dde0c589e6474c756ac68e5b47a3dea558dfeea59d8e129", checked := Tryd.checked }
namespace Rows
def none {H : Type} : Left H := { results := [], args := [] }

/- WHAT THE LISTED PACKAGE-LEVEL VARIABLES READ AS WHEN THE CALL BEGINS. Each datum BY PROGRAM (the guide's laid-datum.mjs) off the statement by which the dump's own 'gosem.cut.vars' lays the variable. In a bare row this is a premise. The card (YthmigmiojifnkaaDoorCards.lean) ties it to the program's text. -/
def laid_errors_errorType {H : Type} : DataW H := .iface "internal/reflectlite.rtype" (.agg [.ptr (.lit (.string [101, 114, 114, 111, 114]))])

/-- 'swingbridgelaw09.DiskHolds': WHATEVER THE INPUT: true; the input reads as it did. -/
def diskHoldsSpec : ChangeSpec := { name := "diskHolds", fn := fun _ => fun
  | [d1, d2, d3, d4, d5] => { results := [.lit (.bool true)], args := [d1, d2, d3, d4, d5] }
  | _ => none }
def diskHoldsRow : OpenClaim := { program := "ythmigmiojifnkaadoor", sum := "2c219eb4f55cbceb5dde0c589e6474c756ac68e5b47a3dea558dfeea59d8e129", func := "swingbridge/swingbridgelaw09.DiskHolds", spec := "diskHolds", inPlace := ["internal/reflectlite.ValueOf", "(internal/reflectlite.Value).Type", "(internal/reflectlite.Value).IsNil", "internal/reflectlite.TypeOf", "(internal/reflectlite.Value).Elem", "(internal/reflectlite.Value).Set", "maps.clone"], unfollowed := true, recurses := true, named := ["errors.errorType"], apart := false, laid := [("errors.errorType", laid_errors_errorType)] }
def DiskHoldsSaid : Prop := diskHoldsRow.holds Tryd.pinned (OpenSpec.ofChange diskHoldsSpec)

/-- ITS FALSE NEIGHBOUR: 'it returns false'. Refute it at one input. -/
def diskHoldsWrong : ChangeSpec := { name := "diskHolds", fn := fun _ => fun
  | [d1, d2, d3, d4, d5] => { results := [.lit (.bool false)], args := [d1, d2, d3, d4, d5] }
  | _ => none }
def DiskHoldsWrongFalsely : Prop := diskHoldsRow.holds Tryd.pinned (OpenSpec.ofChange diskHoldsWrong)

/-- 'swingbridgelaw10.LogRecords': WHATEVER THE INPUT: true; the input reads as it did. -/
def logRecordsSpec : ChangeSpec := { name := "logRecords", fn := fun _ => fun
  | [d1, d2] => { results := [.lit (.bool true)], args := [d1, d2] }
  | _ => none }
def logRecordsRow : OpenClaim := { program := "ythmigmiojifnkaadoor", sum := "2c219eb4f55cbceb5dde0c589e6474c756ac68e5b47a3dea558dfeea59d8e129", func := "swingbridge/swingbridgelaw10.LogRecords", spec := "logRecords", inPlace := ["internal/reflectlite.ValueOf", "(internal/reflectlite.Value).Type", "(internal/reflectlite.Value).IsNil", "internal/reflectlite.TypeOf", "(internal/reflectlite.Value).Elem", "(internal/reflectlite.Value).Set", "maps.clone"], unfollowed := true, recurses := true, named := ["errors.errorType"], apart := false, laid := [("errors.errorType", laid_errors_errorType)] }
def LogRecordsSaid : Prop := logRecordsRow.holds Tryd.pinned (OpenSpec.ofChange logRecordsSpec)

/-- ITS FALSE NEIGHBOUR: 'it returns false'. Refute it at one input. -/
def logRecordsWrong : ChangeSpec := { name := "logRecords", fn := fun _ => fun
  | [d1, d2] => { results := [.lit (.bool false)], args := [d1, d2] }
  | _ => none }
def LogRecordsWrongFalsely : Prop := logRecordsRow.holds Tryd.pinned (OpenSpec.ofChange logRecordsWrong)

/-- 'swingbridgelaw10.LogHolds': WHATEVER THE INPUT: true; the input reads as it did. -/
def logHoldsSpec : ChangeSpec := { name := "logHolds", fn := fun _ => fun
  | [d1, d2, d3, d4] => { results := [.lit (.bool true)], args := [d1, d2, d3, d4] }
  | _ => none }
def logHoldsRow : OpenClaim := { program := "ythmigmiojifnkaadoor", sum := "2c219eb4f55cbceb5dde0c589e6474c756ac68e5b47a3dea558dfeea59d8e129", func := "swingbridge/swingbridgelaw10.LogHolds", spec := "logHolds", inPlace := ["internal/reflectlite.ValueOf", "(internal/reflectlite.Value).Type", "(internal/reflectlite.Value).IsNil", "internal/reflectlite.TypeOf", "(internal/reflectlite.Value).Elem", "(internal/reflectlite.Value).Set", "maps.clone"], unfollowed := true, recurses := true, named := ["errors.errorType"], apart := false, laid := [("errors.errorType", laid_errors_errorType)] }
def LogHoldsSaid : Prop := logHoldsRow.holds Tryd.pinned (OpenSpec.ofChange logHoldsSpec)

/-- ITS FALSE NEIGHBOUR: 'it returns false'. Refute it at one input. -/
def logHoldsWrong : ChangeSpec := { name := "logHolds", fn := fun _ => fun
  | [d1, d2, d3, d4] => { results := [.lit (.bool false)], args := [d1, d2, d3, d4] }
  | _ => none }
def LogHoldsWrongFalsely : Prop := logHoldsRow.holds Tryd.pinned (OpenSpec.ofChange logHoldsWrong)

/-- 'swingbridgelaw10.LogReads': WHATEVER THE INPUT: true; the input reads as it did. -/
def logReadsSpec : ChangeSpec := { name := "logReads", fn := fun _ => fun
  | [d] => { results := [.lit (.bool true)], args := [d] }
  | _ => none }
def logReadsRow : OpenClaim := { program := "ythmigmiojifnkaadoor", sum := "2c219eb4f55cbceb5dde0c589e6474c756ac68e5b47a3dea558dfeea59d8e129", func := "swingbridge/swingbridgelaw10.LogReads", spec := "logReads", inPlace := ["internal/reflectlite.ValueOf", "(internal/reflectlite.Value).Type", "(internal/reflectlite.Value).IsNil", "internal/reflectlite.TypeOf", "(internal/reflectlite.Value).Elem", "(internal/reflectlite.Value).Set", "maps.clone"], unfollowed := true, recurses := true, named := ["errors.errorType"], apart := false, laid := [("errors.errorType", laid_errors_errorType)] }
def LogReadsSaid : Prop := logReadsRow.holds Tryd.pinned (OpenSpec.ofChange logReadsSpec)

/-- ITS FALSE NEIGHBOUR: 'it returns false'. Refute it at one input. -/
def logReadsWrong : ChangeSpec := { name := "logReads", fn := fun _ => fun
  | [d] => { results := [.lit (.bool false)], args := [d] }
  | _ => none }
def LogReadsWrongFalsely : Prop := logReadsRow.holds Tryd.pinned (OpenSpec.ofChange logReadsWrong)

/-- 'swingbridgelaw09.DiskNone': WHATEVER THE INPUT: true; the input reads as it did. -/
def diskNoneSpec : ChangeSpec := { name := "diskNone", fn := fun _ => fun
  | [d] => { results := [.lit (.bool true)], args := [d] }
  | _ => none }
def diskNoneRow : OpenClaim := { program := "ythmigmiojifnkaadoor", sum := "2c219eb4f55cbceb5dde0c589e6474c756ac68e5b47a3dea558dfeea59d8e129", func := "swingbridge/swingbridgelaw09.DiskNone", spec := "diskNone", inPlace := ["internal/reflectlite.ValueOf", "(internal/reflectlite.Value).Type", "(internal/reflectlite.Value).IsNil", "internal/reflectlite.TypeOf", "(internal/reflectlite.Value).Elem", "(internal/reflectlite.Value).Set", "maps.clone"], unfollowed := true, recurses := true, named := ["errors.errorType"], apart := false, laid := [("errors.errorType", laid_errors_errorType)] }
def DiskNoneSaid : Prop := diskNoneRow.holds Tryd.pinned (OpenSpec.ofChange diskNoneSpec)

/-- ITS FALSE NEIGHBOUR: 'it returns false'. Refute it at one input. -/
def diskNoneWrong : ChangeSpec := { name := "diskNone", fn := fun _ => fun
  | [d] => { results := [.lit (.bool false)], args := [d] }
  | _ => none }
def DiskNoneWrongFalsely : Prop := diskNoneRow.holds Tryd.pinned (OpenSpec.ofChange diskNoneWrong)

/- THE SECOND FORM. 'bulk': how many values and letters a reading holds, each counted each time it is reached (what is shared counts as often as it is met; a slice's spare places count too). A statement '..UptoSaid' is the law's where the arguments, and the package variables that the reading takes, are together of bulk at most 1048576: NARROWER than '..Said'. Prove '..Said' where nothing that the law and all that it calls make is longer than what came in: it says more and counts as full. Else prove '..UptoSaid'. A law counts once. -/
mutual
def uptoBulk {H : Type} : DataW H → Nat
  | .lit (.string bytes) => bytes.length + 1
  | .lit _ => 1
  | .nil => 1
  | .ptr d => uptoBulk d + 1
  | .slice elems spare => uptoBulkAll elems + uptoBulkAll spare + 1
  | .agg parts => uptoBulkAll parts + 1
  | .iface _ d => uptoBulk d + 1
  | .map entries => uptoBulkEntries entries + 1
  | .held _ => 1
def uptoBulkAll {H : Type} : List (DataW H) → Nat
  | [] => 0
  | d :: r => uptoBulk d + uptoBulkAll r
def uptoBulkEntries {H : Type} : List (Lit × DataW H) → Nat
  | [] => 0
  | x :: r => uptoBulkEntry x + uptoBulkEntries r
def uptoBulkEntry {H : Type} : Lit × DataW H → Nat
  | (.string bytes, d) => bytes.length + uptoBulk d + 1
  | (_, d) => uptoBulk d + 1
 end
def uptoSmall : (H : Type) → List (DataW H) → Bool := fun _ ds => decide (uptoBulkAll ds ≤ 1048576)
def OpenSpec.upto (s : _root_.Go.ChangeSpec) : _root_.Go.OpenSpec := { _root_.Go.OpenSpec.ofChange s with cond := some uptoSmall }

/-- 'swingbridgelaw09.DiskHolds', WHERE WHAT IT READS IS OF BULK AT MOST 1048576: true; the input reads as it did. -/
def diskHoldsUptoRow : OpenClaim := { program := "ythmigmiojifnkaadoor", sum := "2c219eb4f55cbceb5dde0c589e6474c756ac68e5b47a3dea558dfeea59d8e129", func := "swingbridge/swingbridgelaw09.DiskHolds", spec := "diskHolds", inPlace := ["internal/reflectlite.ValueOf", "(internal/reflectlite.Value).Type", "(internal/reflectlite.Value).IsNil", "internal/reflectlite.TypeOf", "(internal/reflectlite.Value).Elem", "(internal/reflectlite.Value).Set", "maps.clone"], unfollowed := true, recurses := true, named := ["errors.errorType"], apart := false, laid := [("errors.errorType", laid_errors_errorType)], narrowed := true }
def DiskHoldsUptoSaid : Prop := diskHoldsUptoRow.holds Tryd.pinned (OpenSpec.upto diskHoldsSpec)

/-- 'swingbridgelaw10.LogRecords', WHERE WHAT IT READS IS OF BULK AT MOST 1048576: true; the input reads as it did. -/
def logRecordsUptoRow : OpenClaim := { program := "ythmigmiojifnkaadoor", sum := "2c219eb4f55cbceb5dde0c589e6474c756ac68e5b47a3dea558dfeea59d8e129", func := "swingbridge/swingbridgelaw10.LogRecords", spec := "logRecords", inPlace := ["internal/reflectlite.ValueOf", "(internal/reflectlite.Value).Type", "(internal/reflectlite.Value).IsNil", "internal/reflectlite.TypeOf", "(internal/reflectlite.Value).Elem", "(internal/reflectlite.Value).Set", "maps.clone"], unfollowed := true, recurses := true, named := ["errors.errorType"], apart := false, laid := [("errors.errorType", laid_errors_errorType)], narrowed := true }
def LogRecordsUptoSaid : Prop := logRecordsUptoRow.holds Tryd.pinned (OpenSpec.upto logRecordsSpec)

/-- 'swingbridgelaw10.LogHolds', WHERE WHAT IT READS IS OF BULK AT MOST 1048576: true; the input reads as it did. -/
def logHoldsUptoRow : OpenClaim := { program := "ythmigmiojifnkaadoor", sum := "2c219eb4f55cbceb5dde0c589e6474c756ac68e5b47a3dea558dfeea59d8e129", func := "swingbridge/swingbridgelaw10.LogHolds", spec := "logHolds", inPlace := ["internal/reflectlite.ValueOf", "(internal/reflectlite.Value).Type", "(internal/reflectlite.Value).IsNil", "internal/reflectlite.TypeOf", "(internal/reflectlite.Value).Elem", "(internal/reflectlite.Value).Set", "maps.clone"], unfollowed := true, recurses := true, named := ["errors.errorType"], apart := false, laid := [("errors.errorType", laid_errors_errorType)], narrowed := true }
def LogHoldsUptoSaid : Prop := logHoldsUptoRow.holds Tryd.pinned (OpenSpec.upto logHoldsSpec)

/-- 'swingbridgelaw10.LogReads', WHERE WHAT IT READS IS OF BULK AT MOST 1048576: true; the input reads as it did. -/
def logReadsUptoRow : OpenClaim := { program := "ythmigmiojifnkaadoor", sum := "2c219eb4f55cbceb5dde0c589e6474c756ac68e5b47a3dea558dfeea59d8e129", func := "swingbridge/swingbridgelaw10.LogReads", spec := "logReads", inPlace := ["internal/reflectlite.ValueOf", "(internal/reflectlite.Value).Type", "(internal/reflectlite.Value).IsNil", "internal/reflectlite.TypeOf", "(internal/reflectlite.Value).Elem", "(internal/reflectlite.Value).Set", "maps.clone"], unfollowed := true, recurses := true, named := ["errors.errorType"], apart := false, laid := [("errors.errorType", laid_errors_errorType)], narrowed := true }
def LogReadsUptoSaid : Prop := logReadsUptoRow.holds Tryd.pinned (OpenSpec.upto logReadsSpec)

/-- 'swingbridgelaw09.DiskNone', WHERE WHAT IT READS IS OF BULK AT MOST 1048576: true; the input reads as it did. -/
def diskNoneUptoRow : OpenClaim := { program := "ythmigmiojifnkaadoor", sum := "2c219eb4f55cbceb5dde0c589e6474c756ac68e5b47a3dea558dfeea59d8e129", func := "swingbridge/swingbridgelaw09.DiskNone", spec := "diskNone", inPlace := ["internal/reflectlite.ValueOf", "(internal/reflectlite.Value).Type", "(internal/reflectlite.Value).IsNil", "internal/reflectlite.TypeOf", "(internal/reflectlite.Value).Elem", "(internal/reflectlite.Value).Set", "maps.clone"], unfollowed := true, recurses := true, named := ["errors.errorType"], apart := false, laid := [("errors.errorType", laid_errors_errorType)], narrowed := true }
def DiskNoneUptoSaid : Prop := diskNoneUptoRow.holds Tryd.pinned (OpenSpec.upto diskNoneSpec)

end Rows
end Go.Proofs.YthmigmiojifnkaaDoor
