/-
  DERIVED. GIVEN WITH THE SEED: THE CARDS: each row of YthmigmiojifnkaaDoorRows.lean that lists a variable, with what it lists TIED to the program's text (the seventh form; the later family's looks); each row that meets fmt, with fmt's text TOLD by the authors' own Lean function (tested against real Go, not proved from fmt's source: count such statements apart). THE CARD IS WHAT COUNTS. Prove the row's statement (the work); the ties are given (YthmigmiojifnkaaDoorTie.lean); close each card by the builder's one call (the guide's Derived/Test/ToyasCard.lean, 'card_holds'). Laid BY PROGRAM, IN A SANDBOX (cutbox-door.mjs). By AI agents, Wed Nov 11 2026. No macro, syntax, notation, axiom, sorry.
-/
import Derived.Test.YthmigmiojifnkaaDoorRows
import GoSem.ClaimSeven
namespace Go.Proofs.YthmigmiojifnkaaDoor
namespace Rows

/-- THE TIED CARD OF 'swingbridgelaw09.DiskHolds'. -/
def diskHoldsCard : Claim7 := { stood := { row := diskHoldsRow, standIns := [], harness := (true, "be15cf6f88e3d2f35116c779a99e2b2bd96f6f4e768fcd51c1cf5e0cdef04e64"), looks := true }, kinds := [], alts := [], laidByText := true, laidKinds := [.handle], laidTests := true, laidLooks := .later }
def DiskHoldsCardSaid : Prop := Claim7.holds Tryd.pinned (.plain (OpenSpec.ofChange diskHoldsSpec)) diskHoldsCard

/-- THE TIED CARD OF 'swingbridgelaw10.LogRecords'. -/
def logRecordsCard : Claim7 := { stood := { row := logRecordsRow, standIns := [], harness := (true, "be15cf6f88e3d2f35116c779a99e2b2bd96f6f4e768fcd51c1cf5e0cdef04e64"), looks := true }, kinds := [], alts := [], laidByText := true, laidKinds := [.handle], laidTests := true, laidLooks := .later }
def LogRecordsCardSaid : Prop := Claim7.holds Tryd.pinned (.plain (OpenSpec.ofChange logRecordsSpec)) logRecordsCard

/-- THE TIED CARD OF 'swingbridgelaw10.LogHolds'. -/
def logHoldsCard : Claim7 := { stood := { row := logHoldsRow, standIns := [], harness := (true, "be15cf6f88e3d2f35116c779a99e2b2bd96f6f4e768fcd51c1cf5e0cdef04e64"), looks := true }, kinds := [], alts := [], laidByText := true, laidKinds := [.handle], laidTests := true, laidLooks := .later }
def LogHoldsCardSaid : Prop := Claim7.holds Tryd.pinned (.plain (OpenSpec.ofChange logHoldsSpec)) logHoldsCard

/-- THE TIED CARD OF 'swingbridgelaw10.LogReads'. -/
def logReadsCard : Claim7 := { stood := { row := logReadsRow, standIns := [], harness := (true, "be15cf6f88e3d2f35116c779a99e2b2bd96f6f4e768fcd51c1cf5e0cdef04e64"), looks := true }, kinds := [], alts := [], laidByText := true, laidKinds := [.handle], laidTests := true, laidLooks := .later }
def LogReadsCardSaid : Prop := Claim7.holds Tryd.pinned (.plain (OpenSpec.ofChange logReadsSpec)) logReadsCard

/-- THE TIED CARD OF 'swingbridgelaw09.DiskNone'. -/
def diskNoneCard : Claim7 := { stood := { row := diskNoneRow, standIns := [], harness := (true, "be15cf6f88e3d2f35116c779a99e2b2bd96f6f4e768fcd51c1cf5e0cdef04e64"), looks := true }, kinds := [], alts := [], laidByText := true, laidKinds := [.handle], laidTests := true, laidLooks := .later }
def DiskNoneCardSaid : Prop := Claim7.holds Tryd.pinned (.plain (OpenSpec.ofChange diskNoneSpec)) diskNoneCard

/-- THE SECOND FORM's CARD OF 'swingbridgelaw09.DiskHolds'. -/
def diskHoldsUptoCard : Claim7 := { stood := { row := diskHoldsUptoRow, standIns := [], harness := (true, "be15cf6f88e3d2f35116c779a99e2b2bd96f6f4e768fcd51c1cf5e0cdef04e64"), looks := true }, kinds := [], alts := [], laidByText := true, laidKinds := [.handle], laidTests := true, laidLooks := .later }
def DiskHoldsUptoCardSaid : Prop := Claim7.holds Tryd.pinned (.plain (OpenSpec.upto diskHoldsSpec)) diskHoldsUptoCard

/-- THE SECOND FORM's CARD OF 'swingbridgelaw10.LogRecords'. -/
def logRecordsUptoCard : Claim7 := { stood := { row := logRecordsUptoRow, standIns := [], harness := (true, "be15cf6f88e3d2f35116c779a99e2b2bd96f6f4e768fcd51c1cf5e0cdef04e64"), looks := true }, kinds := [], alts := [], laidByText := true, laidKinds := [.handle], laidTests := true, laidLooks := .later }
def LogRecordsUptoCardSaid : Prop := Claim7.holds Tryd.pinned (.plain (OpenSpec.upto logRecordsSpec)) logRecordsUptoCard

/-- THE SECOND FORM's CARD OF 'swingbridgelaw10.LogHolds'. -/
def logHoldsUptoCard : Claim7 := { stood := { row := logHoldsUptoRow, standIns := [], harness := (true, "be15cf6f88e3d2f35116c779a99e2b2bd96f6f4e768fcd51c1cf5e0cdef04e64"), looks := true }, kinds := [], alts := [], laidByText := true, laidKinds := [.handle], laidTests := true, laidLooks := .later }
def LogHoldsUptoCardSaid : Prop := Claim7.holds Tryd.pinned (.plain (OpenSpec.upto logHoldsSpec)) logHoldsUptoCard

/-- THE SECOND FORM's CARD OF 'swingbridgelaw10.LogReads'. -/
def logReadsUptoCard : Claim7 := { stood := { row := logReadsUptoRow, standIns := [], harness := (true, "be15cf6f88e3d2f35116c779a99e2b2bd96f6f4e768fcd51c1cf5e0cdef04e64"), looks := true }, kinds := [], alts := [], laidByText := true, laidKinds := [.handle], laidTests := true, laidLooks := .later }
def LogReadsUptoCardSaid : Prop := Claim7.holds Tryd.pinned (.plain (OpenSpec.upto logReadsSpec)) logReadsUptoCard

/-- THE SECOND FORM's CARD OF 'swingbridgelaw09.DiskNone'. -/
def diskNoneUptoCard : Claim7 := { stood := { row := diskNoneUptoRow, standIns := [], harness := (true, "be15cf6f88e3d2f35116c779a99e2b2bd96f6f4e768fcd51c1cf5e0cdef04e64"), looks := true }, kinds := [], alts := [], laidByText := true, laidKinds := [.handle], laidTests := true, laidLooks := .later }
def DiskNoneUptoCardSaid : Prop := Claim7.holds Tryd.pinned (.plain (OpenSpec.upto diskNoneSpec)) diskNoneUptoCard
end Rows
end Go.Proofs.YthmigmiojifnkaaDoor
