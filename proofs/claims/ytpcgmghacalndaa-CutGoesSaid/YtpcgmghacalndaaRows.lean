/-
  No cell of these rows narrows 'for every input' (looked for: loops, veiled, ifaces, maps, wideKeys, modest, calm, conditions, laid).
  DERIVED. THE GIVEN ROWS OF THIS SEAT. 5 by the template 'for every input the law returns true; each argument reads behind the call as it read before'; 0 by the template 'total and deterministic' (their statements: YtpcgmghacalndaaTotals.lean).
  GIVEN WITH THE SEED: the statements are not yours to turn. If you find one false, say at which input.
  Laid BY PROGRAM, IN A SANDBOX (cutbox-rows.mjs): the forced cells as the released guide's own fill.sh prints them over the translation 1fa7616320c1968a… (all of the seat's roots in one cut). By AI agents, Wed Nov 11 2026. No macro, syntax, notation, axiom, sorry.
-/
import Derived.Test.YtpcgmghacalndaaChecked
import GoSem.Claim
import GoSem.ClaimJoined
import GoSem.ClaimMapViews
import Derived.JoinedTies
import Derived.KernelRfl
namespace Go.Proofs.Ytpcgmghacalndaa
/- THE CELL 'sum', in the pinned program and in every row, IS THE sha256 OF THE DUMP (.gsa) THAT YtpcgmghacalndaaProg.lean LOADS. Nothing in Lean hashes anything: it is a label: what it is worth is what the hold of that sum in a sandbox is worth. -/
noncomputable def Try.pinned : Pinned := { name := "ytpcgmghacalndaa", sum := "1fa7616320c1968a8b38c94b6bc22b6def296614d9e27e622e85b74c279e48ef", checked := Try.checked }
namespace Rows
def none {H : Type} : Left H := { results := [], args := [] }

/-- 'swingbridgelaw23.PaceHeld': WHATEVER THE INPUT: true; the input reads as it did. -/
def paceHeldSpec : ChangeSpec := { name := "paceHeld", fn := fun _ => fun
  | [d1, d2, d3] => { results := [.lit (.bool true)], args := [d1, d2, d3] }
  | _ => none }
def paceHeldRow : OpenClaim := { program := "ytpcgmghacalndaa", sum := "1fa7616320c1968a8b38c94b6bc22b6def296614d9e27e622e85b74c279e48ef", func := "swingbridge/swingbridgelaw23.PaceHeld", spec := "paceHeld", unfollowed := true, recurses := true, apart := false }
def PaceHeldSaid : Prop := paceHeldRow.holds Try.pinned (OpenSpec.ofChange paceHeldSpec)

/-- ITS FALSE NEIGHBOUR: 'it returns false'. Refute it at one input. -/
def paceHeldWrong : ChangeSpec := { name := "paceHeld", fn := fun _ => fun
  | [d1, d2, d3] => { results := [.lit (.bool false)], args := [d1, d2, d3] }
  | _ => none }
def PaceHeldWrongFalsely : Prop := paceHeldRow.holds Try.pinned (OpenSpec.ofChange paceHeldWrong)

/-- 'swingbridgelaw25.CutNexts': WHATEVER THE INPUT: true; the input reads as it did. -/
def cutNextsSpec : ChangeSpec := { name := "cutNexts", fn := fun _ => fun
  | [d1, d2] => { results := [.lit (.bool true)], args := [d1, d2] }
  | _ => none }
def cutNextsRow : OpenClaim := { program := "ytpcgmghacalndaa", sum := "1fa7616320c1968a8b38c94b6bc22b6def296614d9e27e622e85b74c279e48ef", func := "swingbridge/swingbridgelaw25.CutNexts", spec := "cutNexts", unfollowed := true, recurses := true, apart := false }
def CutNextsSaid : Prop := cutNextsRow.holds Try.pinned (OpenSpec.ofChange cutNextsSpec)

/-- ITS FALSE NEIGHBOUR: 'it returns false'. Refute it at one input. -/
def cutNextsWrong : ChangeSpec := { name := "cutNexts", fn := fun _ => fun
  | [d1, d2] => { results := [.lit (.bool false)], args := [d1, d2] }
  | _ => none }
def CutNextsWrongFalsely : Prop := cutNextsRow.holds Try.pinned (OpenSpec.ofChange cutNextsWrong)

/-- 'swingbridgelaw25.CutHolds': WHATEVER THE INPUT: true; the input reads as it did. -/
def cutHoldsSpec : ChangeSpec := { name := "cutHolds", fn := fun _ => fun
  | [d] => { results := [.lit (.bool true)], args := [d] }
  | _ => none }
def cutHoldsRow : OpenClaim := { program := "ytpcgmghacalndaa", sum := "1fa7616320c1968a8b38c94b6bc22b6def296614d9e27e622e85b74c279e48ef", func := "swingbridge/swingbridgelaw25.CutHolds", spec := "cutHolds", unfollowed := true, recurses := true, apart := false }
def CutHoldsSaid : Prop := cutHoldsRow.holds Try.pinned (OpenSpec.ofChange cutHoldsSpec)

/-- ITS FALSE NEIGHBOUR: 'it returns false'. Refute it at one input. -/
def cutHoldsWrong : ChangeSpec := { name := "cutHolds", fn := fun _ => fun
  | [d] => { results := [.lit (.bool false)], args := [d] }
  | _ => none }
def CutHoldsWrongFalsely : Prop := cutHoldsRow.holds Try.pinned (OpenSpec.ofChange cutHoldsWrong)

/-- 'swingbridgelaw25.CutGoes': WHATEVER THE INPUT: true; the input reads as it did. -/
def cutGoesSpec : ChangeSpec := { name := "cutGoes", fn := fun _ => fun
  | [d1, d2, d3] => { results := [.lit (.bool true)], args := [d1, d2, d3] }
  | _ => none }
def cutGoesRow : OpenClaim := { program := "ytpcgmghacalndaa", sum := "1fa7616320c1968a8b38c94b6bc22b6def296614d9e27e622e85b74c279e48ef", func := "swingbridge/swingbridgelaw25.CutGoes", spec := "cutGoes", unfollowed := true, recurses := true, apart := false }
def CutGoesSaid : Prop := cutGoesRow.holds Try.pinned (OpenSpec.ofChange cutGoesSpec)

/-- ITS FALSE NEIGHBOUR: 'it returns false'. Refute it at one input. -/
def cutGoesWrong : ChangeSpec := { name := "cutGoes", fn := fun _ => fun
  | [d1, d2, d3] => { results := [.lit (.bool false)], args := [d1, d2, d3] }
  | _ => none }
def CutGoesWrongFalsely : Prop := cutGoesRow.holds Try.pinned (OpenSpec.ofChange cutGoesWrong)

/-- 'swingbridgelaw23.PaceSteps': WHATEVER THE INPUT: true; the input reads as it did. -/
def paceStepsSpec : ChangeSpec := { name := "paceSteps", fn := fun _ => fun
  | [d1, d2] => { results := [.lit (.bool true)], args := [d1, d2] }
  | _ => none }
def paceStepsRow : OpenClaim := { program := "ytpcgmghacalndaa", sum := "1fa7616320c1968a8b38c94b6bc22b6def296614d9e27e622e85b74c279e48ef", func := "swingbridge/swingbridgelaw23.PaceSteps", spec := "paceSteps", inPlace := ["internal/reflectlite.TypeOf"], unfollowed := true, recurses := true, apart := false }
def PaceStepsSaid : Prop := paceStepsRow.holds Try.pinned (OpenSpec.ofChange paceStepsSpec)

/-- ITS FALSE NEIGHBOUR: 'it returns false'. Refute it at one input. -/
def paceStepsWrong : ChangeSpec := { name := "paceSteps", fn := fun _ => fun
  | [d1, d2] => { results := [.lit (.bool false)], args := [d1, d2] }
  | _ => none }
def PaceStepsWrongFalsely : Prop := paceStepsRow.holds Try.pinned (OpenSpec.ofChange paceStepsWrong)

/- THE SECOND FORM. 'bulk': how many values and letters a reading holds, each counted each time it is reached (what is shared counts as often as it is met; a slice's spare places count too). A statement '..UptoSaid' is the law's where the arguments, and the package variables that the reading takes, are together of bulk at most 1048576: NARROWER than '..Said'. Prove '..Said' where nothing that the law and all that it calls make is longer than what came in: it says more and counts as full. Else prove '..UptoSaid'. A law counts once. -/
mutual
def uptoBulk {H : Type} : DataW H → Nat
  | .lit (.string bytes) => bytes.length + 1
  | .lit _ => 1
  | .nil => 1
  | .ptr d => uptoBulk d + 1
  | .slice elems spare => uptoBulkAll elems + uptoBulkAll spare + 1
  | .agg parts => uptoBulkAll parts + 1
  | .iface _ d => uptoBulk d + 1
  | .map entries => uptoBulkEntries entries + 1
  | .held _ => 1
def uptoBulkAll {H : Type} : List (DataW H) → Nat
  | [] => 0
  | d :: r => uptoBulk d + uptoBulkAll r
def uptoBulkEntries {H : Type} : List (Lit × DataW H) → Nat
  | [] => 0
  | x :: r => uptoBulkEntry x + uptoBulkEntries r
def uptoBulkEntry {H : Type} : Lit × DataW H → Nat
  | (.string bytes, d) => bytes.length + uptoBulk d + 1
  | (_, d) => uptoBulk d + 1
 end
def uptoSmall : (H : Type) → List (DataW H) → Bool := fun _ ds => decide (uptoBulkAll ds ≤ 1048576)
def OpenSpec.upto (s : _root_.Go.ChangeSpec) : _root_.Go.OpenSpec := { _root_.Go.OpenSpec.ofChange s with cond := some uptoSmall }

/-- 'swingbridgelaw23.PaceHeld', WHERE WHAT IT READS IS OF BULK AT MOST 1048576: true; the input reads as it did. -/
def paceHeldUptoRow : OpenClaim := { program := "ytpcgmghacalndaa", sum := "1fa7616320c1968a8b38c94b6bc22b6def296614d9e27e622e85b74c279e48ef", func := "swingbridge/swingbridgelaw23.PaceHeld", spec := "paceHeld", unfollowed := true, recurses := true, apart := false, narrowed := true }
def PaceHeldUptoSaid : Prop := paceHeldUptoRow.holds Try.pinned (OpenSpec.upto paceHeldSpec)

/-- 'swingbridgelaw25.CutNexts', WHERE WHAT IT READS IS OF BULK AT MOST 1048576: true; the input reads as it did. -/
def cutNextsUptoRow : OpenClaim := { program := "ytpcgmghacalndaa", sum := "1fa7616320c1968a8b38c94b6bc22b6def296614d9e27e622e85b74c279e48ef", func := "swingbridge/swingbridgelaw25.CutNexts", spec := "cutNexts", unfollowed := true, recurses := true, apart := false, narrowed := true }
def CutNextsUptoSaid : Prop := cutNextsUptoRow.holds Try.pinned (OpenSpec.upto cutNextsSpec)

/-- 'swingbridgelaw25.CutHolds', WHERE WHAT IT READS IS OF BULK AT MOST 1048576: true; the input reads as it did. -/
def cutHoldsUptoRow : OpenClaim := { program := "ytpcgmghacalndaa", sum := "1fa7616320c1968a8b38c94b6bc22b6def296614d9e27e622e85b74c279e48ef", func := "swingbridge/swingbridgelaw25.CutHolds", spec := "cutHolds", unfollowed := true, recurses := true, apart := false, narrowed := true }
def CutHoldsUptoSaid : Prop := cutHoldsUptoRow.holds Try.pinned (OpenSpec.upto cutHoldsSpec)

/-- 'swingbridgelaw25.CutGoes', WHERE WHAT IT READS IS OF BULK AT MOST 1048576: true; the input reads as it did. -/
def cutGoesUptoRow : OpenClaim := { program := "ytpcgmghacalndaa", sum := "1fa7616320c1968a8b38c94b6bc22b6def296614d9e27e622e85b74c279e48ef", func := "swingbridge/swingbridgelaw25.CutGoes", spec := "cutGoes", unfollowed := true, recurses := true, apart := false, narrowed := true }
def CutGoesUptoSaid : Prop := cutGoesUptoRow.holds Try.pinned (OpenSpec.upto cutGoesSpec)

/-- 'swingbridgelaw23.PaceSteps', WHERE WHAT IT READS IS OF BULK AT MOST 1048576: true; the input reads as it did. -/
def paceStepsUptoRow : OpenClaim := { program := "ytpcgmghacalndaa", sum := "1fa7616320c1968a8b38c94b6bc22b6def296614d9e27e622e85b74c279e48ef", func := "swingbridge/swingbridgelaw23.PaceSteps", spec := "paceSteps", inPlace := ["internal/reflectlite.TypeOf"], unfollowed := true, recurses := true, apart := false, narrowed := true }
def PaceStepsUptoSaid : Prop := paceStepsUptoRow.holds Try.pinned (OpenSpec.upto paceStepsSpec)

end Rows
end Go.Proofs.Ytpcgmghacalndaa
