/-
  DERIVED. GIVEN WITH THE SEED: THE CARDS: each row of YtnajjhgbombboaaGreatDoorRows.lean that lists a variable, with what it lists TIED to the program's text (the seventh form; the later family's looks); each row that meets fmt, with fmt's text TOLD by the authors' own Lean function (tested against real Go, not proved from fmt's source: count such statements apart). THE CARD IS WHAT COUNTS. Prove the row's statement (the work); the ties are given (YtnajjhgbombboaaGreatDoorTie.lean); close each card by the builder's one call (the guide's Derived/Test/ToyasCard.lean, 'card_holds'). Laid BY PROGRAM, IN A SANDBOX (cutbox-door.mjs). By AI agents, Wed Nov 11 2026. No macro, syntax, notation, axiom, sorry.
-/
import Derived.Test.YtnajjhgbombboaaGreatDoorRows
import GoSem.ClaimSeven
namespace Go.Proofs.YtnajjhgbombboaaGreatDoor
namespace Rows

/-- THE TIED CARD OF 'swingbridgelaw08.EventBytes'. -/
def eventBytesCard : Claim7 := { stood := { row := eventBytesRow, standIns := [], harness := (true, "e429181f1a1676e659d48a1c13c879778e3b11d4ebbe0d68bc5b674f62db9055"), looks := true }, kinds := [], alts := [], laidByText := true, laidKinds := [.data, .data, .data, .handle], laidTests := true, laidLooks := .later }
def EventBytesCardSaid : Prop := Claim7.holds Tryz.pinned (.plain (OpenSpec.ofChange eventBytesSpec)) eventBytesCard

/-- THE TIED CARD OF 'swingbridgelaw08.EventReads'. -/
def eventReadsCard : Claim7 := { stood := { row := eventReadsRow, standIns := [], harness := (true, "e429181f1a1676e659d48a1c13c879778e3b11d4ebbe0d68bc5b674f62db9055"), looks := true }, kinds := [], alts := [], laidByText := true, laidKinds := [.data, .data, .data, .handle], laidTests := true, laidLooks := .later }
def EventReadsCardSaid : Prop := Claim7.holds Tryz.pinned (.plain (OpenSpec.ofChange eventReadsSpec)) eventReadsCard

/-- THE TIED CARD OF 'swingbridgelaw08.EventSame'. -/
def eventSameCard : Claim7 := { stood := { row := eventSameRow, standIns := [], harness := (true, "e429181f1a1676e659d48a1c13c879778e3b11d4ebbe0d68bc5b674f62db9055"), looks := true }, kinds := [], alts := [], laidByText := true, laidKinds := [.data, .data, .data, .handle], laidTests := true, laidLooks := .later }
def EventSameCardSaid : Prop := Claim7.holds Tryz.pinned (.plain (OpenSpec.ofChange eventSameSpec)) eventSameCard

/-- THE TIED CARD OF 'swingbridgelaw08.EventUnpacks'. -/
def eventUnpacksCard : Claim7 := { stood := { row := eventUnpacksRow, standIns := [], harness := (true, "e429181f1a1676e659d48a1c13c879778e3b11d4ebbe0d68bc5b674f62db9055"), looks := true }, kinds := [], alts := [], laidByText := true, laidKinds := [.data, .data, .data, .handle], laidTests := true, laidLooks := .later }
def EventUnpacksCardSaid : Prop := Claim7.holds Tryz.pinned (.plain (OpenSpec.ofChange eventUnpacksSpec)) eventUnpacksCard

/-- THE TIED CARD OF 'swingbridgelaw08.EventHolds'. -/
def eventHoldsCard : Claim7 := { stood := { row := eventHoldsRow, standIns := [], harness := (true, "e429181f1a1676e659d48a1c13c879778e3b11d4ebbe0d68bc5b674f62db9055"), looks := true }, kinds := [], alts := [], laidByText := true, laidKinds := [.data, .data, .data, .handle], laidTests := true, laidLooks := .later }
def EventHoldsCardSaid : Prop := Claim7.holds Tryz.pinned (.plain (OpenSpec.ofChange eventHoldsSpec)) eventHoldsCard

/-- THE TIED CARD OF 'swingbridgelaw08.EventPacks'. -/
def eventPacksCard : Claim7 := { stood := { row := eventPacksRow, standIns := [], harness := (true, "e429181f1a1676e659d48a1c13c879778e3b11d4ebbe0d68bc5b674f62db9055"), looks := true }, kinds := [], alts := [], laidByText := true, laidKinds := [.data, .data, .data, .handle], laidTests := true, laidLooks := .later }
def EventPacksCardSaid : Prop := Claim7.holds Tryz.pinned (.plain (OpenSpec.ofChange eventPacksSpec)) eventPacksCard

/-- THE SECOND FORM's CARD OF 'swingbridgelaw08.EventBytes'. -/
def eventBytesUptoCard : Claim7 := { stood := { row := eventBytesUptoRow, standIns := [], harness := (true, "e429181f1a1676e659d48a1c13c879778e3b11d4ebbe0d68bc5b674f62db9055"), looks := true }, kinds := [], alts := [], laidByText := true, laidKinds := [.data, .data, .data, .handle], laidTests := true, laidLooks := .later }
def EventBytesUptoCardSaid : Prop := Claim7.holds Tryz.pinned (.plain (OpenSpec.upto eventBytesSpec)) eventBytesUptoCard

/-- THE SECOND FORM's CARD OF 'swingbridgelaw08.EventReads'. -/
def eventReadsUptoCard : Claim7 := { stood := { row := eventReadsUptoRow, standIns := [], harness := (true, "e429181f1a1676e659d48a1c13c879778e3b11d4ebbe0d68bc5b674f62db9055"), looks := true }, kinds := [], alts := [], laidByText := true, laidKinds := [.data, .data, .data, .handle], laidTests := true, laidLooks := .later }
def EventReadsUptoCardSaid : Prop := Claim7.holds Tryz.pinned (.plain (OpenSpec.upto eventReadsSpec)) eventReadsUptoCard

/-- THE SECOND FORM's CARD OF 'swingbridgelaw08.EventSame'. -/
def eventSameUptoCard : Claim7 := { stood := { row := eventSameUptoRow, standIns := [], harness := (true, "e429181f1a1676e659d48a1c13c879778e3b11d4ebbe0d68bc5b674f62db9055"), looks := true }, kinds := [], alts := [], laidByText := true, laidKinds := [.data, .data, .data, .handle], laidTests := true, laidLooks := .later }
def EventSameUptoCardSaid : Prop := Claim7.holds Tryz.pinned (.plain (OpenSpec.upto eventSameSpec)) eventSameUptoCard

/-- THE SECOND FORM's CARD OF 'swingbridgelaw08.EventUnpacks'. -/
def eventUnpacksUptoCard : Claim7 := { stood := { row := eventUnpacksUptoRow, standIns := [], harness := (true, "e429181f1a1676e659d48a1c13c879778e3b11d4ebbe0d68bc5b674f62db9055"), looks := true }, kinds := [], alts := [], laidByText := true, laidKinds := [.data, .data, .data, .handle], laidTests := true, laidLooks := .later }
def EventUnpacksUptoCardSaid : Prop := Claim7.holds Tryz.pinned (.plain (OpenSpec.upto eventUnpacksSpec)) eventUnpacksUptoCard

/-- THE SECOND FORM's CARD OF 'swingbridgelaw08.EventHolds'. -/
def eventHoldsUptoCard : Claim7 := { stood := { row := eventHoldsUptoRow, standIns := [], harness := (true, "e429181f1a1676e659d48a1c13c879778e3b11d4ebbe0d68bc5b674f62db9055"), looks := true }, kinds := [], alts := [], laidByText := true, laidKinds := [.data, .data, .data, .handle], laidTests := true, laidLooks := .later }
def EventHoldsUptoCardSaid : Prop := Claim7.holds Tryz.pinned (.plain (OpenSpec.upto eventHoldsSpec)) eventHoldsUptoCard

/-- THE SECOND FORM's CARD OF 'swingbridgelaw08.EventPacks'. -/
def eventPacksUptoCard : Claim7 := { stood := { row := eventPacksUptoRow, standIns := [], harness := (true, "e429181f1a1676e659d48a1c13c879778e3b11d4ebbe0d68bc5b674f62db9055"), looks := true }, kinds := [], alts := [], laidByText := true, laidKinds := [.data, .data, .data, .handle], laidTests := true, laidLooks := .later }
def EventPacksUptoCardSaid : Prop := Claim7.holds Tryz.pinned (.plain (OpenSpec.upto eventPacksSpec)) eventPacksUptoCard
end Rows
end Go.Proofs.YtnajjhgbombboaaGreatDoor
