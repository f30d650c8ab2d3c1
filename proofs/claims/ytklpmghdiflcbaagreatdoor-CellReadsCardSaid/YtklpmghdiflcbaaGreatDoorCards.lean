/-
  DERIVED. GIVEN WITH THE SEED: THE CARDS: each row of YtklpmghdiflcbaaGreatDoorRows.lean that lists a variable, with what it lists TIED to the program's text (the seventh form; the later family's looks); each row that meets fmt, with fmt's text TOLD by the authors' own Lean function (tested against real Go, not proved from fmt's source: count such statements apart). THE CARD IS WHAT COUNTS. Prove the row's statement (the work); the ties are given (YtklpmghdiflcbaaGreatDoorTie.lean); close each card by the builder's one call (the guide's Derived/Test/ToyasCard.lean, 'card_holds'). Laid BY PROGRAM, IN A SANDBOX (cutbox-door.mjs). By AI agents, Wed Nov 11 2026. No macro, syntax, notation, axiom, sorry.
-/
import Derived.Test.YtklpmghdiflcbaaGreatDoorRows
import GoSem.ClaimSeven
namespace Go.Proofs.YtklpmghdiflcbaaGreatDoor
namespace Rows

/-- THE TIED CARD OF 'millstreamlaw09.CellWrites'. -/
def cellWritesCard : Claim7 := { stood := { row := cellWritesRow, standIns := [], harness := (true, "1f6b34552e609422d339625f54e1c5c206a85fb9300cd61f06e3c1027bde42ad"), looks := true }, kinds := [], alts := [], laidByText := true, laidKinds := [.data, .data, .data, .data, .sentinel, .sentinel, .pinned], laidTests := true, laidLooks := .later }
def CellWritesCardSaid : Prop := Claim7.holds Tryz.pinned (.plain (OpenSpec.ofChange cellWritesSpec)) cellWritesCard

/-- THE TIED CARD OF 'millstreamlaw09.CellReads'. -/
def cellReadsCard : Claim7 := { stood := { row := cellReadsRow, standIns := [], harness := (true, "1f6b34552e609422d339625f54e1c5c206a85fb9300cd61f06e3c1027bde42ad"), looks := true }, kinds := [], alts := [], laidByText := true, laidKinds := [.data, .data, .data, .data, .sentinel, .sentinel, .pinned], laidTests := true, laidLooks := .later }
def CellReadsCardSaid : Prop := Claim7.holds Tryz.pinned (.plain (OpenSpec.ofChange cellReadsSpec)) cellReadsCard

/-- THE TIED CARD OF 'millstreamlaw09.CellOrder'. -/
def cellOrderCard : Claim7 := { stood := { row := cellOrderRow, standIns := [], harness := (true, "1f6b34552e609422d339625f54e1c5c206a85fb9300cd61f06e3c1027bde42ad"), looks := true }, kinds := [], alts := [], laidByText := true, laidKinds := [.data, .data, .data, .data, .sentinel, .sentinel, .pinned], laidTests := true, laidLooks := .later }
def CellOrderCardSaid : Prop := Claim7.holds Tryz.pinned (.plain (OpenSpec.ofChange cellOrderSpec)) cellOrderCard

/-- THE TIED CARD OF 'millstreamlaw09.CellBack'. -/
def cellBackCard : Claim7 := { stood := { row := cellBackRow, standIns := [], harness := (true, "1f6b34552e609422d339625f54e1c5c206a85fb9300cd61f06e3c1027bde42ad"), looks := true }, kinds := [], alts := [], laidByText := true, laidKinds := [.data, .data, .data, .data, .sentinel, .sentinel, .pinned], laidTests := true, laidLooks := .later }
def CellBackCardSaid : Prop := Claim7.holds Tryz.pinned (.plain (OpenSpec.ofChange cellBackSpec)) cellBackCard

/-- THE TIED CARD OF 'millstreamlaw09.CellOnly'. -/
def cellOnlyCard : Claim7 := { stood := { row := cellOnlyRow, standIns := [], harness := (true, "1f6b34552e609422d339625f54e1c5c206a85fb9300cd61f06e3c1027bde42ad"), looks := true }, kinds := [], alts := [], laidByText := true, laidKinds := [.data, .data, .data, .data, .sentinel, .sentinel, .pinned], laidTests := true, laidLooks := .later }
def CellOnlyCardSaid : Prop := Claim7.holds Tryz.pinned (.plain (OpenSpec.ofChange cellOnlySpec)) cellOnlyCard

/-- THE TIED CARD OF 'millstreamlaw09.CellChecks'. -/
def cellChecksCard : Claim7 := { stood := { row := cellChecksRow, standIns := [], harness := (true, "1f6b34552e609422d339625f54e1c5c206a85fb9300cd61f06e3c1027bde42ad"), looks := true }, kinds := [], alts := [], laidByText := true, laidKinds := [.data, .data, .data, .data, .sentinel, .sentinel, .pinned], laidTests := true, laidLooks := .later }
def CellChecksCardSaid : Prop := Claim7.holds Tryz.pinned (.plain (OpenSpec.ofChange cellChecksSpec)) cellChecksCard

/-- THE TIED CARD OF 'millstreamlaw09.CellWider'. -/
def cellWiderCard : Claim7 := { stood := { row := cellWiderRow, standIns := [], harness := (true, "1f6b34552e609422d339625f54e1c5c206a85fb9300cd61f06e3c1027bde42ad"), looks := true }, kinds := [], alts := [], laidByText := true, laidKinds := [.data, .data, .data, .data, .sentinel, .sentinel, .pinned], laidTests := true, laidLooks := .later }
def CellWiderCardSaid : Prop := Claim7.holds Tryz.pinned (.plain (OpenSpec.ofChange cellWiderSpec)) cellWiderCard

/-- THE TIED CARD OF 'millstreamlaw09.CellBits'. -/
def cellBitsCard : Claim7 := { stood := { row := cellBitsRow, standIns := [], harness := (true, "1f6b34552e609422d339625f54e1c5c206a85fb9300cd61f06e3c1027bde42ad"), looks := true }, kinds := [], alts := [], laidByText := true, laidKinds := [.data, .data, .data, .data, .sentinel, .sentinel, .pinned], laidTests := true, laidLooks := .later }
def CellBitsCardSaid : Prop := Claim7.holds Tryz.pinned (.plain (OpenSpec.ofChange cellBitsSpec)) cellBitsCard

/-- THE TIED CARD OF 'millstreamlaw09.CellKnown'. -/
def cellKnownCard : Claim7 := { stood := { row := cellKnownRow, standIns := [], harness := (true, "1f6b34552e609422d339625f54e1c5c206a85fb9300cd61f06e3c1027bde42ad"), looks := true }, kinds := [], alts := [], laidByText := true, laidKinds := [.data, .data, .data, .data, .sentinel, .sentinel, .pinned], laidTests := true, laidLooks := .later }
def CellKnownCardSaid : Prop := Claim7.holds Tryz.pinned (.plain (OpenSpec.ofChange cellKnownSpec)) cellKnownCard

/-- THE SECOND FORM's CARD OF 'millstreamlaw09.CellWrites'. -/
def cellWritesUptoCard : Claim7 := { stood := { row := cellWritesUptoRow, standIns := [], harness := (true, "1f6b34552e609422d339625f54e1c5c206a85fb9300cd61f06e3c1027bde42ad"), looks := true }, kinds := [], alts := [], laidByText := true, laidKinds := [.data, .data, .data, .data, .sentinel, .sentinel, .pinned], laidTests := true, laidLooks := .later }
def CellWritesUptoCardSaid : Prop := Claim7.holds Tryz.pinned (.plain (OpenSpec.upto cellWritesSpec)) cellWritesUptoCard

/-- THE SECOND FORM's CARD OF 'millstreamlaw09.CellReads'. -/
def cellReadsUptoCard : Claim7 := { stood := { row := cellReadsUptoRow, standIns := [], harness := (true, "1f6b34552e609422d339625f54e1c5c206a85fb9300cd61f06e3c1027bde42ad"), looks := true }, kinds := [], alts := [], laidByText := true, laidKinds := [.data, .data, .data, .data, .sentinel, .sentinel, .pinned], laidTests := true, laidLooks := .later }
def CellReadsUptoCardSaid : Prop := Claim7.holds Tryz.pinned (.plain (OpenSpec.upto cellReadsSpec)) cellReadsUptoCard

/-- THE SECOND FORM's CARD OF 'millstreamlaw09.CellOrder'. -/
def cellOrderUptoCard : Claim7 := { stood := { row := cellOrderUptoRow, standIns := [], harness := (true, "1f6b34552e609422d339625f54e1c5c206a85fb9300cd61f06e3c1027bde42ad"), looks := true }, kinds := [], alts := [], laidByText := true, laidKinds := [.data, .data, .data, .data, .sentinel, .sentinel, .pinned], laidTests := true, laidLooks := .later }
def CellOrderUptoCardSaid : Prop := Claim7.holds Tryz.pinned (.plain (OpenSpec.upto cellOrderSpec)) cellOrderUptoCard

/-- THE SECOND FORM's CARD OF 'millstreamlaw09.CellBack'. -/
def cellBackUptoCard : Claim7 := { stood := { row := cellBackUptoRow, standIns := [], harness := (true, "1f6b34552e609422d339625f54e1c5c206a85fb9300cd61f06e3c1027bde42ad"), looks := true }, kinds := [], alts := [], laidByText := true, laidKinds := [.data, .data, .data, .data, .sentinel, .sentinel, .pinned], laidTests := true, laidLooks := .later }
def CellBackUptoCardSaid : Prop := Claim7.holds Tryz.pinned (.plain (OpenSpec.upto cellBackSpec)) cellBackUptoCard

/-- THE SECOND FORM's CARD OF 'millstreamlaw09.CellOnly'. -/
def cellOnlyUptoCard : Claim7 := { stood := { row := cellOnlyUptoRow, standIns := [], harness := (true, "1f6b34552e609422d339625f54e1c5c206a85fb9300cd61f06e3c1027bde42ad"), looks := true }, kinds := [], alts := [], laidByText := true, laidKinds := [.data, .data, .data, .data, .sentinel, .sentinel, .pinned], laidTests := true, laidLooks := .later }
def CellOnlyUptoCardSaid : Prop := Claim7.holds Tryz.pinned (.plain (OpenSpec.upto cellOnlySpec)) cellOnlyUptoCard

/-- THE SECOND FORM's CARD OF 'millstreamlaw09.CellChecks'. -/
def cellChecksUptoCard : Claim7 := { stood := { row := cellChecksUptoRow, standIns := [], harness := (true, "1f6b34552e609422d339625f54e1c5c206a85fb9300cd61f06e3c1027bde42ad"), looks := true }, kinds := [], alts := [], laidByText := true, laidKinds := [.data, .data, .data, .data, .sentinel, .sentinel, .pinned], laidTests := true, laidLooks := .later }
def CellChecksUptoCardSaid : Prop := Claim7.holds Tryz.pinned (.plain (OpenSpec.upto cellChecksSpec)) cellChecksUptoCard

/-- THE SECOND FORM's CARD OF 'millstreamlaw09.CellWider'. -/
def cellWiderUptoCard : Claim7 := { stood := { row := cellWiderUptoRow, standIns := [], harness := (true, "1f6b34552e609422d339625f54e1c5c206a85fb9300cd61f06e3c1027bde42ad"), looks := true }, kinds := [], alts := [], laidByText := true, laidKinds := [.data, .data, .data, .data, .sentinel, .sentinel, .pinned], laidTests := true, laidLooks := .later }
def CellWiderUptoCardSaid : Prop := Claim7.holds Tryz.pinned (.plain (OpenSpec.upto cellWiderSpec)) cellWiderUptoCard

/-- THE SECOND FORM's CARD OF 'millstreamlaw09.CellBits'. -/
def cellBitsUptoCard : Claim7 := { stood := { row := cellBitsUptoRow, standIns := [], harness := (true, "1f6b34552e609422d339625f54e1c5c206a85fb9300cd61f06e3c1027bde42ad"), looks := true }, kinds := [], alts := [], laidByText := true, laidKinds := [.data, .data, .data, .data, .sentinel, .sentinel, .pinned], laidTests := true, laidLooks := .later }
def CellBitsUptoCardSaid : Prop := Claim7.holds Tryz.pinned (.plain (OpenSpec.upto cellBitsSpec)) cellBitsUptoCard

/-- THE SECOND FORM's CARD OF 'millstreamlaw09.CellKnown'. -/
def cellKnownUptoCard : Claim7 := { stood := { row := cellKnownUptoRow, standIns := [], harness := (true, "1f6b34552e609422d339625f54e1c5c206a85fb9300cd61f06e3c1027bde42ad"), looks := true }, kinds := [], alts := [], laidByText := true, laidKinds := [.data, .data, .data, .data, .sentinel, .sentinel, .pinned], laidTests := true, laidLooks := .later }
def CellKnownUptoCardSaid : Prop := Claim7.holds Tryz.pinned (.plain (OpenSpec.upto cellKnownSpec)) cellKnownUptoCard
end Rows
end Go.Proofs.YtklpmghdiflcbaaGreatDoor
