/-
  DERIVED. GIVEN WITH THE SEED: THE CARDS: each row of YtkklmflclmgjeaaGreatDoorRows.lean that lists a variable, with what it lists TIED to the program's text (the seventh form; the later family's looks); each row that meets fmt, with fmt's text TOLD by the authors' own Lean function (tested against real Go, not proved from fmt's source: count such statements apart). THE CARD IS WHAT COUNTS. Prove the row's statement (the work); the ties are given (YtkklmflclmgjeaaGreatDoorTie.lean); close each card by the builder's one call (the guide's Derived/Test/ToyasCard.lean, 'card_holds'). Laid BY PROGRAM, IN A SANDBOX (cutbox-door.mjs). By AI agents, Wed Nov 11 2026. No macro, syntax, notation, axiom, sorry.
-/
import Derived.Test.YtkklmflclmgjeaaGreatDoorRows
import GoSem.ClaimSeven
namespace Go.Proofs.YtkklmflclmgjeaaGreatDoor
namespace Rows

/-- THE TIED CARD OF 'swingbridgelaw03.SchemaRows'. -/
def schemaRowsCard : Claim7 := { stood := { row := schemaRowsRow, standIns := [], harness := (true, "aa3ad82dd01d6cd7d1b1875c8a45cf47b1dbbd0569fcdb715f35cd5b4a624e5e"), looks := true }, kinds := [], alts := [], laidByText := true, laidKinds := [.data, .data, .data, .handle], laidTests := true, laidLooks := .later }
def SchemaRowsCardSaid : Prop := Claim7.holds Tryz.pinned (.plain (OpenSpec.ofChange schemaRowsSpec)) schemaRowsCard

/-- THE TIED CARD OF 'swingbridgelaw03.SchemaPicks'. -/
def schemaPicksCard : Claim7 := { stood := { row := schemaPicksRow, standIns := [], harness := (true, "aa3ad82dd01d6cd7d1b1875c8a45cf47b1dbbd0569fcdb715f35cd5b4a624e5e"), looks := true }, kinds := [], alts := [], laidByText := true, laidKinds := [.data, .data, .data, .handle], laidTests := true, laidLooks := .later }
def SchemaPicksCardSaid : Prop := Claim7.holds Tryz.pinned (.plain (OpenSpec.ofChange schemaPicksSpec)) schemaPicksCard

/-- THE TIED CARD OF 'swingbridgelaw03.SchemaFits'. -/
def schemaFitsCard : Claim7 := { stood := { row := schemaFitsRow, standIns := [], harness := (true, "aa3ad82dd01d6cd7d1b1875c8a45cf47b1dbbd0569fcdb715f35cd5b4a624e5e"), looks := true }, kinds := [], alts := [], laidByText := true, laidKinds := [.data, .data, .data, .handle], laidTests := true, laidLooks := .later }
def SchemaFitsCardSaid : Prop := Claim7.holds Tryz.pinned (.plain (OpenSpec.ofChange schemaFitsSpec)) schemaFitsCard

/-- THE TIED CARD OF 'swingbridgelaw03.SchemaHolds'. -/
def schemaHoldsCard : Claim7 := { stood := { row := schemaHoldsRow, standIns := [], harness := (true, "aa3ad82dd01d6cd7d1b1875c8a45cf47b1dbbd0569fcdb715f35cd5b4a624e5e"), looks := true }, kinds := [], alts := [], laidByText := true, laidKinds := [.data, .data, .data, .handle], laidTests := true, laidLooks := .later }
def SchemaHoldsCardSaid : Prop := Claim7.holds Tryz.pinned (.plain (OpenSpec.ofChange schemaHoldsSpec)) schemaHoldsCard

/-- THE TIED CARD OF 'swingbridgelaw03.SchemaSame'. -/
def schemaSameCard : Claim7 := { stood := { row := schemaSameRow, standIns := [], harness := (true, "aa3ad82dd01d6cd7d1b1875c8a45cf47b1dbbd0569fcdb715f35cd5b4a624e5e"), looks := true }, kinds := [], alts := [], laidByText := true, laidKinds := [.data, .data, .data, .handle], laidTests := true, laidLooks := .later }
def SchemaSameCardSaid : Prop := Claim7.holds Tryz.pinned (.plain (OpenSpec.ofChange schemaSameSpec)) schemaSameCard

/-- THE TIED CARD OF 'swingbridgelaw03.SchemaChecks'. -/
def schemaChecksCard : Claim7 := { stood := { row := schemaChecksRow, standIns := [], harness := (true, "aa3ad82dd01d6cd7d1b1875c8a45cf47b1dbbd0569fcdb715f35cd5b4a624e5e"), looks := true }, kinds := [], alts := [], laidByText := true, laidKinds := [.data, .data, .data, .handle], laidTests := true, laidLooks := .later }
def SchemaChecksCardSaid : Prop := Claim7.holds Tryz.pinned (.plain (OpenSpec.ofChange schemaChecksSpec)) schemaChecksCard

/-- THE TIED CARD OF 'swingbridgelaw04.CodecRows'. -/
def codecRowsCard : Claim7 := { stood := { row := codecRowsRow, standIns := [], harness := (true, "aa3ad82dd01d6cd7d1b1875c8a45cf47b1dbbd0569fcdb715f35cd5b4a624e5e"), looks := true }, kinds := [], alts := [], laidByText := true, laidKinds := [.data, .data, .data, .handle], laidTests := true, laidLooks := .later }
def CodecRowsCardSaid : Prop := Claim7.holds Tryz.pinned (.plain (OpenSpec.ofChange codecRowsSpec)) codecRowsCard

/-- THE TIED CARD OF 'swingbridgelaw04.CodecReads'. -/
def codecReadsCard : Claim7 := { stood := { row := codecReadsRow, standIns := [], harness := (true, "aa3ad82dd01d6cd7d1b1875c8a45cf47b1dbbd0569fcdb715f35cd5b4a624e5e"), looks := true }, kinds := [], alts := [], laidByText := true, laidKinds := [.data, .data, .data, .handle], laidTests := true, laidLooks := .later }
def CodecReadsCardSaid : Prop := Claim7.holds Tryz.pinned (.plain (OpenSpec.ofChange codecReadsSpec)) codecReadsCard

/-- THE TIED CARD OF 'swingbridgelaw04.CodecHolds'. -/
def codecHoldsCard : Claim7 := { stood := { row := codecHoldsRow, standIns := [], harness := (true, "aa3ad82dd01d6cd7d1b1875c8a45cf47b1dbbd0569fcdb715f35cd5b4a624e5e"), looks := true }, kinds := [], alts := [], laidByText := true, laidKinds := [.data, .data, .data, .handle], laidTests := true, laidLooks := .later }
def CodecHoldsCardSaid : Prop := Claim7.holds Tryz.pinned (.plain (OpenSpec.ofChange codecHoldsSpec)) codecHoldsCard

/-- THE TIED CARD OF 'swingbridgelaw04.CodecEach'. -/
def codecEachCard : Claim7 := { stood := { row := codecEachRow, standIns := [], harness := (true, "aa3ad82dd01d6cd7d1b1875c8a45cf47b1dbbd0569fcdb715f35cd5b4a624e5e"), looks := true }, kinds := [], alts := [], laidByText := true, laidKinds := [.data, .data, .data, .handle], laidTests := true, laidLooks := .later }
def CodecEachCardSaid : Prop := Claim7.holds Tryz.pinned (.plain (OpenSpec.ofChange codecEachSpec)) codecEachCard

/-- THE TIED CARD OF 'swingbridgelaw04.CodecSchemas'. -/
def codecSchemasCard : Claim7 := { stood := { row := codecSchemasRow, standIns := [], harness := (true, "aa3ad82dd01d6cd7d1b1875c8a45cf47b1dbbd0569fcdb715f35cd5b4a624e5e"), looks := true }, kinds := [], alts := [], laidByText := true, laidKinds := [.data, .data, .data, .handle], laidTests := true, laidLooks := .later }
def CodecSchemasCardSaid : Prop := Claim7.holds Tryz.pinned (.plain (OpenSpec.ofChange codecSchemasSpec)) codecSchemasCard

/-- THE SECOND FORM's CARD OF 'swingbridgelaw03.SchemaRows'. -/
def schemaRowsUptoCard : Claim7 := { stood := { row := schemaRowsUptoRow, standIns := [], harness := (true, "aa3ad82dd01d6cd7d1b1875c8a45cf47b1dbbd0569fcdb715f35cd5b4a624e5e"), looks := true }, kinds := [], alts := [], laidByText := true, laidKinds := [.data, .data, .data, .handle], laidTests := true, laidLooks := .later }
def SchemaRowsUptoCardSaid : Prop := Claim7.holds Tryz.pinned (.plain (OpenSpec.upto schemaRowsSpec)) schemaRowsUptoCard

/-- THE SECOND FORM's CARD OF 'swingbridgelaw03.SchemaPicks'. -/
def schemaPicksUptoCard : Claim7 := { stood := { row := schemaPicksUptoRow, standIns := [], harness := (true, "aa3ad82dd01d6cd7d1b1875c8a45cf47b1dbbd0569fcdb715f35cd5b4a624e5e"), looks := true }, kinds := [], alts := [], laidByText := true, laidKinds := [.data, .data, .data, .handle], laidTests := true, laidLooks := .later }
def SchemaPicksUptoCardSaid : Prop := Claim7.holds Tryz.pinned (.plain (OpenSpec.upto schemaPicksSpec)) schemaPicksUptoCard

/-- THE SECOND FORM's CARD OF 'swingbridgelaw03.SchemaFits'. -/
def schemaFitsUptoCard : Claim7 := { stood := { row := schemaFitsUptoRow, standIns := [], harness := (true, "aa3ad82dd01d6cd7d1b1875c8a45cf47b1dbbd0569fcdb715f35cd5b4a624e5e"), looks := true }, kinds := [], alts := [], laidByText := true, laidKinds := [.data, .data, .data, .handle], laidTests := true, laidLooks := .later }
def SchemaFitsUptoCardSaid : Prop := Claim7.holds Tryz.pinned (.plain (OpenSpec.upto schemaFitsSpec)) schemaFitsUptoCard

/-- THE SECOND FORM's CARD OF 'swingbridgelaw03.SchemaHolds'. -/
def schemaHoldsUptoCard : Claim7 := { stood := { row := schemaHoldsUptoRow, standIns := [], harness := (true, "aa3ad82dd01d6cd7d1b1875c8a45cf47b1dbbd0569fcdb715f35cd5b4a624e5e"), looks := true }, kinds := [], alts := [], laidByText := true, laidKinds := [.data, .data, .data, .handle], laidTests := true, laidLooks := .later }
def SchemaHoldsUptoCardSaid : Prop := Claim7.holds Tryz.pinned (.plain (OpenSpec.upto schemaHoldsSpec)) schemaHoldsUptoCard

/-- THE SECOND FORM's CARD OF 'swingbridgelaw03.SchemaSame'. -/
def schemaSameUptoCard : Claim7 := { stood := { row := schemaSameUptoRow, standIns := [], harness := (true, "aa3ad82dd01d6cd7d1b1875c8a45cf47b1dbbd0569fcdb715f35cd5b4a624e5e"), looks := true }, kinds := [], alts := [], laidByText := true, laidKinds := [.data, .data, .data, .handle], laidTests := true, laidLooks := .later }
def SchemaSameUptoCardSaid : Prop := Claim7.holds Tryz.pinned (.plain (OpenSpec.upto schemaSameSpec)) schemaSameUptoCard

/-- THE SECOND FORM's CARD OF 'swingbridgelaw03.SchemaChecks'. -/
def schemaChecksUptoCard : Claim7 := { stood := { row := schemaChecksUptoRow, standIns := [], harness := (true, "aa3ad82dd01d6cd7d1b1875c8a45cf47b1dbbd0569fcdb715f35cd5b4a624e5e"), looks := true }, kinds := [], alts := [], laidByText := true, laidKinds := [.data, .data, .data, .handle], laidTests := true, laidLooks := .later }
def SchemaChecksUptoCardSaid : Prop := Claim7.holds Tryz.pinned (.plain (OpenSpec.upto schemaChecksSpec)) schemaChecksUptoCard

/-- THE SECOND FORM's CARD OF 'swingbridgelaw04.CodecRows'. -/
def codecRowsUptoCard : Claim7 := { stood := { row := codecRowsUptoRow, standIns := [], harness := (true, "aa3ad82dd01d6cd7d1b1875c8a45cf47b1dbbd0569fcdb715f35cd5b4a624e5e"), looks := true }, kinds := [], alts := [], laidByText := true, laidKinds := [.data, .data, .data, .handle], laidTests := true, laidLooks := .later }
def CodecRowsUptoCardSaid : Prop := Claim7.holds Tryz.pinned (.plain (OpenSpec.upto codecRowsSpec)) codecRowsUptoCard

/-- THE SECOND FORM's CARD OF 'swingbridgelaw04.CodecReads'. -/
def codecReadsUptoCard : Claim7 := { stood := { row := codecReadsUptoRow, standIns := [], harness := (true, "aa3ad82dd01d6cd7d1b1875c8a45cf47b1dbbd0569fcdb715f35cd5b4a624e5e"), looks := true }, kinds := [], alts := [], laidByText := true, laidKinds := [.data, .data, .data, .handle], laidTests := true, laidLooks := .later }
def CodecReadsUptoCardSaid : Prop := Claim7.holds Tryz.pinned (.plain (OpenSpec.upto codecReadsSpec)) codecReadsUptoCard

/-- THE SECOND FORM's CARD OF 'swingbridgelaw04.CodecHolds'. -/
def codecHoldsUptoCard : Claim7 := { stood := { row := codecHoldsUptoRow, standIns := [], harness := (true, "aa3ad82dd01d6cd7d1b1875c8a45cf47b1dbbd0569fcdb715f35cd5b4a624e5e"), looks := true }, kinds := [], alts := [], laidByText := true, laidKinds := [.data, .data, .data, .handle], laidTests := true, laidLooks := .later }
def CodecHoldsUptoCardSaid : Prop := Claim7.holds Tryz.pinned (.plain (OpenSpec.upto codecHoldsSpec)) codecHoldsUptoCard

/-- THE SECOND FORM's CARD OF 'swingbridgelaw04.CodecEach'. -/
def codecEachUptoCard : Claim7 := { stood := { row := codecEachUptoRow, standIns := [], harness := (true, "aa3ad82dd01d6cd7d1b1875c8a45cf47b1dbbd0569fcdb715f35cd5b4a624e5e"), looks := true }, kinds := [], alts := [], laidByText := true, laidKinds := [.data, .data, .data, .handle], laidTests := true, laidLooks := .later }
def CodecEachUptoCardSaid : Prop := Claim7.holds Tryz.pinned (.plain (OpenSpec.upto codecEachSpec)) codecEachUptoCard

/-- THE SECOND FORM's CARD OF 'swingbridgelaw04.CodecSchemas'. -/
def codecSchemasUptoCard : Claim7 := { stood := { row := codecSchemasUptoRow, standIns := [], harness := (true, "aa3ad82dd01d6cd7d1b1875c8a45cf47b1dbbd0569fcdb715f35cd5b4a624e5e"), looks := true }, kinds := [], alts := [], laidByText := true, laidKinds := [.data, .data, .data, .handle], laidTests := true, laidLooks := .later }
def CodecSchemasUptoCardSaid : Prop := Claim7.holds Tryz.pinned (.plain (OpenSpec.upto codecSchemasSpec)) codecSchemasUptoCard
end Rows
end Go.Proofs.YtkklmflclmgjeaaGreatDoor
