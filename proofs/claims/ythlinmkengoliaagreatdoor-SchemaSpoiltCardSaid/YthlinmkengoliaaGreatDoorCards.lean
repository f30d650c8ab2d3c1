/-
  DERIVED. GIVEN WITH THE SEED: THE CARDS: each row of YthlinmkengoliaaGreatDoorRows.lean that lists a variable, with what it lists TIED to the program's text (the seventh form; the later family's looks); each row that meets fmt, with fmt's text TOLD by the authors' own Lean function (tested against real Go, not proved from fmt's source: count such statements apart). THE CARD IS WHAT COUNTS. Prove the row's statement (the work); the ties are given (YthlinmkengoliaaGreatDoorTie.lean); close each card by the builder's one call (the guide's Derived/Test/ToyasCard.lean, 'card_holds'). Laid BY PROGRAM, IN A SANDBOX (cutbox-door.mjs). By AI agents, Wed Nov 11 2026. No macro, syntax, notation, axiom, sorry.
-/
import Derived.Test.YthlinmkengoliaaGreatDoorRows
import GoSem.ClaimSeven
namespace Go.Proofs.YthlinmkengoliaaGreatDoor
namespace Rows

/-- THE TIED CARD OF 'millstreamlaw11.SchemaPlaces'. -/
def schemaPlacesCard : Claim7 := { stood := { row := schemaPlacesRow, standIns := [], harness := (true, "cd9b77fc0b6077829788d31611d84875e138bd714df24bf4760acf3b3bf4e675"), looks := true }, kinds := [], alts := [], laidByText := true, laidKinds := [.data, .data, .data, .data, .sentinel, .sentinel, .pinned], laidTests := true, laidLooks := .later }
def SchemaPlacesCardSaid : Prop := Claim7.holds Tryz.pinned (.plain (OpenSpec.ofChange schemaPlacesSpec)) schemaPlacesCard

/-- THE TIED CARD OF 'millstreamlaw11.SchemaTells'. -/
def schemaTellsCard : Claim7 := { stood := { row := schemaTellsRow, standIns := [], harness := (true, "cd9b77fc0b6077829788d31611d84875e138bd714df24bf4760acf3b3bf4e675"), looks := true }, kinds := [], alts := [], laidByText := true, laidKinds := [.data, .data, .data, .data, .sentinel, .sentinel, .pinned], laidTests := true, laidLooks := .later }
def SchemaTellsCardSaid : Prop := Claim7.holds Tryz.pinned (.plain (OpenSpec.ofChange schemaTellsSpec)) schemaTellsCard

/-- THE TIED CARD OF 'millstreamlaw11.SchemaTexts'. -/
def schemaTextsCard : Claim7 := { stood := { row := schemaTextsRow, standIns := [], harness := (true, "cd9b77fc0b6077829788d31611d84875e138bd714df24bf4760acf3b3bf4e675"), looks := true }, kinds := [], alts := [], laidByText := true, laidKinds := [.data, .data, .data, .data, .sentinel, .sentinel, .pinned], laidTests := true, laidLooks := .later }
def SchemaTextsCardSaid : Prop := Claim7.holds Tryz.pinned (.plain (OpenSpec.ofChange schemaTextsSpec)) schemaTextsCard

/-- THE TIED CARD OF 'millstreamlaw11.SchemaBack'. -/
def schemaBackCard : Claim7 := { stood := { row := schemaBackRow, standIns := [], harness := (true, "cd9b77fc0b6077829788d31611d84875e138bd714df24bf4760acf3b3bf4e675"), looks := true }, kinds := [], alts := [], laidByText := true, laidKinds := [.data, .data, .data, .data, .sentinel, .sentinel, .pinned], laidTests := true, laidLooks := .later }
def SchemaBackCardSaid : Prop := Claim7.holds Tryz.pinned (.plain (OpenSpec.ofChange schemaBackSpec)) schemaBackCard

/-- THE TIED CARD OF 'millstreamlaw11.SchemaAgain'. -/
def schemaAgainCard : Claim7 := { stood := { row := schemaAgainRow, standIns := [], harness := (true, "cd9b77fc0b6077829788d31611d84875e138bd714df24bf4760acf3b3bf4e675"), looks := true }, kinds := [], alts := [], laidByText := true, laidKinds := [.data, .data, .data, .data, .sentinel, .sentinel, .pinned], laidTests := true, laidLooks := .later }
def SchemaAgainCardSaid : Prop := Claim7.holds Tryz.pinned (.plain (OpenSpec.ofChange schemaAgainSpec)) schemaAgainCard

/-- THE TIED CARD OF 'millstreamlaw11.SchemaSpoilt'. -/
def schemaSpoiltCard : Claim7 := { stood := { row := schemaSpoiltRow, standIns := [], harness := (true, "cd9b77fc0b6077829788d31611d84875e138bd714df24bf4760acf3b3bf4e675"), looks := true }, kinds := [], alts := [], laidByText := true, laidKinds := [.data, .data, .data, .data, .sentinel, .sentinel, .pinned], laidTests := true, laidLooks := .later }
def SchemaSpoiltCardSaid : Prop := Claim7.holds Tryz.pinned (.plain (OpenSpec.ofChange schemaSpoiltSpec)) schemaSpoiltCard

/-- THE TIED CARD OF 'millstreamlaw11.SchemaLeft'. -/
def schemaLeftCard : Claim7 := { stood := { row := schemaLeftRow, standIns := [], harness := (true, "cd9b77fc0b6077829788d31611d84875e138bd714df24bf4760acf3b3bf4e675"), looks := true }, kinds := [], alts := [], laidByText := true, laidKinds := [.data, .data, .data, .data, .sentinel, .sentinel, .pinned], laidTests := true, laidLooks := .later }
def SchemaLeftCardSaid : Prop := Claim7.holds Tryz.pinned (.plain (OpenSpec.ofChange schemaLeftSpec)) schemaLeftCard

/-- THE SECOND FORM's CARD OF 'millstreamlaw11.SchemaPlaces'. -/
def schemaPlacesUptoCard : Claim7 := { stood := { row := schemaPlacesUptoRow, standIns := [], harness := (true, "cd9b77fc0b6077829788d31611d84875e138bd714df24bf4760acf3b3bf4e675"), looks := true }, kinds := [], alts := [], laidByText := true, laidKinds := [.data, .data, .data, .data, .sentinel, .sentinel, .pinned], laidTests := true, laidLooks := .later }
def SchemaPlacesUptoCardSaid : Prop := Claim7.holds Tryz.pinned (.plain (OpenSpec.upto schemaPlacesSpec)) schemaPlacesUptoCard

/-- THE SECOND FORM's CARD OF 'millstreamlaw11.SchemaTells'. -/
def schemaTellsUptoCard : Claim7 := { stood := { row := schemaTellsUptoRow, standIns := [], harness := (true, "cd9b77fc0b6077829788d31611d84875e138bd714df24bf4760acf3b3bf4e675"), looks := true }, kinds := [], alts := [], laidByText := true, laidKinds := [.data, .data, .data, .data, .sentinel, .sentinel, .pinned], laidTests := true, laidLooks := .later }
def SchemaTellsUptoCardSaid : Prop := Claim7.holds Tryz.pinned (.plain (OpenSpec.upto schemaTellsSpec)) schemaTellsUptoCard

/-- THE SECOND FORM's CARD OF 'millstreamlaw11.SchemaTexts'. -/
def schemaTextsUptoCard : Claim7 := { stood := { row := schemaTextsUptoRow, standIns := [], harness := (true, "cd9b77fc0b6077829788d31611d84875e138bd714df24bf4760acf3b3bf4e675"), looks := true }, kinds := [], alts := [], laidByText := true, laidKinds := [.data, .data, .data, .data, .sentinel, .sentinel, .pinned], laidTests := true, laidLooks := .later }
def SchemaTextsUptoCardSaid : Prop := Claim7.holds Tryz.pinned (.plain (OpenSpec.upto schemaTextsSpec)) schemaTextsUptoCard

/-- THE SECOND FORM's CARD OF 'millstreamlaw11.SchemaBack'. -/
def schemaBackUptoCard : Claim7 := { stood := { row := schemaBackUptoRow, standIns := [], harness := (true, "cd9b77fc0b6077829788d31611d84875e138bd714df24bf4760acf3b3bf4e675"), looks := true }, kinds := [], alts := [], laidByText := true, laidKinds := [.data, .data, .data, .data, .sentinel, .sentinel, .pinned], laidTests := true, laidLooks := .later }
def SchemaBackUptoCardSaid : Prop := Claim7.holds Tryz.pinned (.plain (OpenSpec.upto schemaBackSpec)) schemaBackUptoCard

/-- THE SECOND FORM's CARD OF 'millstreamlaw11.SchemaAgain'. -/
def schemaAgainUptoCard : Claim7 := { stood := { row := schemaAgainUptoRow, standIns := [], harness := (true, "cd9b77fc0b6077829788d31611d84875e138bd714df24bf4760acf3b3bf4e675"), looks := true }, kinds := [], alts := [], laidByText := true, laidKinds := [.data, .data, .data, .data, .sentinel, .sentinel, .pinned], laidTests := true, laidLooks := .later }
def SchemaAgainUptoCardSaid : Prop := Claim7.holds Tryz.pinned (.plain (OpenSpec.upto schemaAgainSpec)) schemaAgainUptoCard

/-- THE SECOND FORM's CARD OF 'millstreamlaw11.SchemaSpoilt'. -/
def schemaSpoiltUptoCard : Claim7 := { stood := { row := schemaSpoiltUptoRow, standIns := [], harness := (true, "cd9b77fc0b6077829788d31611d84875e138bd714df24bf4760acf3b3bf4e675"), looks := true }, kinds := [], alts := [], laidByText := true, laidKinds := [.data, .data, .data, .data, .sentinel, .sentinel, .pinned], laidTests := true, laidLooks := .later }
def SchemaSpoiltUptoCardSaid : Prop := Claim7.holds Tryz.pinned (.plain (OpenSpec.upto schemaSpoiltSpec)) schemaSpoiltUptoCard

/-- THE SECOND FORM's CARD OF 'millstreamlaw11.SchemaLeft'. -/
def schemaLeftUptoCard : Claim7 := { stood := { row := schemaLeftUptoRow, standIns := [], harness := (true, "cd9b77fc0b6077829788d31611d84875e138bd714df24bf4760acf3b3bf4e675"), looks := true }, kinds := [], alts := [], laidByText := true, laidKinds := [.data, .data, .data, .data, .sentinel, .sentinel, .pinned], laidTests := true, laidLooks := .later }
def SchemaLeftUptoCardSaid : Prop := Claim7.holds Tryz.pinned (.plain (OpenSpec.upto schemaLeftSpec)) schemaLeftUptoCard
end Rows
end Go.Proofs.YthlinmkengoliaaGreatDoor
