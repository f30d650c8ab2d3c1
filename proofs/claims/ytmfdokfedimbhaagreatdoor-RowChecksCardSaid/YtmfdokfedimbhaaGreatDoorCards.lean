/-
  DERIVED. GIVEN WITH THE SEED: THE CARDS: each row of YtmfdokfedimbhaaGreatDoorRows.lean that lists a variable, with what it lists TIED to the program's text (the seventh form; the later family's looks); each row that meets fmt, with fmt's text TOLD by the authors' own Lean function (tested against real Go, not proved from fmt's source: count such statements apart). THE CARD IS WHAT COUNTS. Prove the row's statement (the work); the ties are given (YtmfdokfedimbhaaGreatDoorTie.lean); close each card by the builder's one call (the guide's Derived/Test/ToyasCard.lean, 'card_holds'). Laid BY PROGRAM, IN A SANDBOX (cutbox-door.mjs). By AI agents, Wed Nov 11 2026. No macro, syntax, notation, axiom, sorry.
-/
import Derived.Test.YtmfdokfedimbhaaGreatDoorRows
import GoSem.ClaimSeven
namespace Go.Proofs.YtmfdokfedimbhaaGreatDoor
namespace Rows

/-- THE TIED CARD OF 'millstreamlaw10.RowKeys'. -/
def rowKeysCard : Claim7 := { stood := { row := rowKeysRow, standIns := [], harness := (true, "927974e011ec1b7992b17991e3b77975b4245b6a7c26ee878a82ca12016db202"), looks := true }, kinds := [], alts := [], laidByText := true, laidKinds := [.data, .data, .data, .data, .sentinel, .sentinel, .pinned], laidTests := true, laidLooks := .later }
def RowKeysCardSaid : Prop := Claim7.holds Tryz.pinned (.plain (OpenSpec.ofChange rowKeysSpec)) rowKeysCard

/-- THE TIED CARD OF 'millstreamlaw10.RowKeyed'. -/
def rowKeyedCard : Claim7 := { stood := { row := rowKeyedRow, standIns := [], harness := (true, "927974e011ec1b7992b17991e3b77975b4245b6a7c26ee878a82ca12016db202"), looks := true }, kinds := [], alts := [], laidByText := true, laidKinds := [.data, .data, .data, .data, .sentinel, .sentinel, .pinned], laidTests := true, laidLooks := .later }
def RowKeyedCardSaid : Prop := Claim7.holds Tryz.pinned (.plain (OpenSpec.ofChange rowKeyedSpec)) rowKeyedCard

/-- THE TIED CARD OF 'millstreamlaw10.RowUnkeyed'. -/
def rowUnkeyedCard : Claim7 := { stood := { row := rowUnkeyedRow, standIns := [], harness := (true, "927974e011ec1b7992b17991e3b77975b4245b6a7c26ee878a82ca12016db202"), looks := true }, kinds := [], alts := [], laidByText := true, laidKinds := [.data, .data, .data, .data, .sentinel, .sentinel, .pinned], laidTests := true, laidLooks := .later }
def RowUnkeyedCardSaid : Prop := Claim7.holds Tryz.pinned (.plain (OpenSpec.ofChange rowUnkeyedSpec)) rowUnkeyedCard

/-- THE TIED CARD OF 'millstreamlaw10.RowBytes'. -/
def rowBytesCard : Claim7 := { stood := { row := rowBytesRow, standIns := [], harness := (true, "927974e011ec1b7992b17991e3b77975b4245b6a7c26ee878a82ca12016db202"), looks := true }, kinds := [], alts := [], laidByText := true, laidKinds := [.data, .data, .data, .data, .sentinel, .sentinel, .pinned], laidTests := true, laidLooks := .later }
def RowBytesCardSaid : Prop := Claim7.holds Tryz.pinned (.plain (OpenSpec.ofChange rowBytesSpec)) rowBytesCard

/-- THE TIED CARD OF 'millstreamlaw10.RowPicks'. -/
def rowPicksCard : Claim7 := { stood := { row := rowPicksRow, standIns := [], harness := (true, "927974e011ec1b7992b17991e3b77975b4245b6a7c26ee878a82ca12016db202"), looks := true }, kinds := [], alts := [], laidByText := true, laidKinds := [.data, .data, .data, .data, .sentinel, .sentinel, .pinned], laidTests := true, laidLooks := .later }
def RowPicksCardSaid : Prop := Claim7.holds Tryz.pinned (.plain (OpenSpec.ofChange rowPicksSpec)) rowPicksCard

/-- THE TIED CARD OF 'millstreamlaw10.RowChecks'. -/
def rowChecksCard : Claim7 := { stood := { row := rowChecksRow, standIns := [], harness := (true, "927974e011ec1b7992b17991e3b77975b4245b6a7c26ee878a82ca12016db202"), looks := true }, kinds := [], alts := [], laidByText := true, laidKinds := [.data, .data, .data, .data, .sentinel, .sentinel, .pinned], laidTests := true, laidLooks := .later }
def RowChecksCardSaid : Prop := Claim7.holds Tryz.pinned (.plain (OpenSpec.ofChange rowChecksSpec)) rowChecksCard

/-- THE TIED CARD OF 'millstreamlaw10.RowCompares'. -/
def rowComparesCard : Claim7 := { stood := { row := rowComparesRow, standIns := [], harness := (true, "927974e011ec1b7992b17991e3b77975b4245b6a7c26ee878a82ca12016db202"), looks := true }, kinds := [], alts := [], laidByText := true, laidKinds := [.data, .data, .data, .data, .sentinel, .sentinel, .pinned], laidTests := true, laidLooks := .later }
def RowComparesCardSaid : Prop := Claim7.holds Tryz.pinned (.plain (OpenSpec.ofChange rowComparesSpec)) rowComparesCard

/-- THE TIED CARD OF 'millstreamlaw10.RowOrder'. -/
def rowOrderCard : Claim7 := { stood := { row := rowOrderRow, standIns := [], harness := (true, "927974e011ec1b7992b17991e3b77975b4245b6a7c26ee878a82ca12016db202"), looks := true }, kinds := [], alts := [], laidByText := true, laidKinds := [.data, .data, .data, .data, .sentinel, .sentinel, .pinned], laidTests := true, laidLooks := .later }
def RowOrderCardSaid : Prop := Claim7.holds Tryz.pinned (.plain (OpenSpec.ofChange rowOrderSpec)) rowOrderCard

/-- THE TIED CARD OF 'millstreamlaw10.RowKnown'. -/
def rowKnownCard : Claim7 := { stood := { row := rowKnownRow, standIns := [], harness := (true, "927974e011ec1b7992b17991e3b77975b4245b6a7c26ee878a82ca12016db202"), looks := true }, kinds := [], alts := [], laidByText := true, laidKinds := [.data, .data, .data, .data, .sentinel, .sentinel, .pinned], laidTests := true, laidLooks := .later }
def RowKnownCardSaid : Prop := Claim7.holds Tryz.pinned (.plain (OpenSpec.ofChange rowKnownSpec)) rowKnownCard

/-- THE TIED CARD OF 'millstreamlaw09.CellKnown'. -/
def cellKnownCard : Claim7 := { stood := { row := cellKnownRow, standIns := [], harness := (true, "927974e011ec1b7992b17991e3b77975b4245b6a7c26ee878a82ca12016db202"), looks := true }, kinds := [], alts := [], laidByText := true, laidKinds := [.data, .data, .data, .data, .sentinel, .sentinel, .pinned], laidTests := true, laidLooks := .later }
def CellKnownCardSaid : Prop := Claim7.holds Tryz.pinned (.plain (OpenSpec.ofChange cellKnownSpec)) cellKnownCard

/-- THE SECOND FORM's CARD OF 'millstreamlaw10.RowKeys'. -/
def rowKeysUptoCard : Claim7 := { stood := { row := rowKeysUptoRow, standIns := [], harness := (true, "927974e011ec1b7992b17991e3b77975b4245b6a7c26ee878a82ca12016db202"), looks := true }, kinds := [], alts := [], laidByText := true, laidKinds := [.data, .data, .data, .data, .sentinel, .sentinel, .pinned], laidTests := true, laidLooks := .later }
def RowKeysUptoCardSaid : Prop := Claim7.holds Tryz.pinned (.plain (OpenSpec.upto rowKeysSpec)) rowKeysUptoCard

/-- THE SECOND FORM's CARD OF 'millstreamlaw10.RowKeyed'. -/
def rowKeyedUptoCard : Claim7 := { stood := { row := rowKeyedUptoRow, standIns := [], harness := (true, "927974e011ec1b7992b17991e3b77975b4245b6a7c26ee878a82ca12016db202"), looks := true }, kinds := [], alts := [], laidByText := true, laidKinds := [.data, .data, .data, .data, .sentinel, .sentinel, .pinned], laidTests := true, laidLooks := .later }
def RowKeyedUptoCardSaid : Prop := Claim7.holds Tryz.pinned (.plain (OpenSpec.upto rowKeyedSpec)) rowKeyedUptoCard

/-- THE SECOND FORM's CARD OF 'millstreamlaw10.RowUnkeyed'. -/
def rowUnkeyedUptoCard : Claim7 := { stood := { row := rowUnkeyedUptoRow, standIns := [], harness := (true, "927974e011ec1b7992b17991e3b77975b4245b6a7c26ee878a82ca12016db202"), looks := true }, kinds := [], alts := [], laidByText := true, laidKinds := [.data, .data, .data, .data, .sentinel, .sentinel, .pinned], laidTests := true, laidLooks := .later }
def RowUnkeyedUptoCardSaid : Prop := Claim7.holds Tryz.pinned (.plain (OpenSpec.upto rowUnkeyedSpec)) rowUnkeyedUptoCard

/-- THE SECOND FORM's CARD OF 'millstreamlaw10.RowBytes'. -/
def rowBytesUptoCard : Claim7 := { stood := { row := rowBytesUptoRow, standIns := [], harness := (true, "927974e011ec1b7992b17991e3b77975b4245b6a7c26ee878a82ca12016db202"), looks := true }, kinds := [], alts := [], laidByText := true, laidKinds := [.data, .data, .data, .data, .sentinel, .sentinel, .pinned], laidTests := true, laidLooks := .later }
def RowBytesUptoCardSaid : Prop := Claim7.holds Tryz.pinned (.plain (OpenSpec.upto rowBytesSpec)) rowBytesUptoCard

/-- THE SECOND FORM's CARD OF 'millstreamlaw10.RowPicks'. -/
def rowPicksUptoCard : Claim7 := { stood := { row := rowPicksUptoRow, standIns := [], harness := (true, "927974e011ec1b7992b17991e3b77975b4245b6a7c26ee878a82ca12016db202"), looks := true }, kinds := [], alts := [], laidByText := true, laidKinds := [.data, .data, .data, .data, .sentinel, .sentinel, .pinned], laidTests := true, laidLooks := .later }
def RowPicksUptoCardSaid : Prop := Claim7.holds Tryz.pinned (.plain (OpenSpec.upto rowPicksSpec)) rowPicksUptoCard

/-- THE SECOND FORM's CARD OF 'millstreamlaw10.RowChecks'. -/
def rowChecksUptoCard : Claim7 := { stood := { row := rowChecksUptoRow, standIns := [], harness := (true, "927974e011ec1b7992b17991e3b77975b4245b6a7c26ee878a82ca12016db202"), looks := true }, kinds := [], alts := [], laidByText := true, laidKinds := [.data, .data, .data, .data, .sentinel, .sentinel, .pinned], laidTests := true, laidLooks := .later }
def RowChecksUptoCardSaid : Prop := Claim7.holds Tryz.pinned (.plain (OpenSpec.upto rowChecksSpec)) rowChecksUptoCard

/-- THE SECOND FORM's CARD OF 'millstreamlaw10.RowCompares'. -/
def rowComparesUptoCard : Claim7 := { stood := { row := rowComparesUptoRow, standIns := [], harness := (true, "927974e011ec1b7992b17991e3b77975b4245b6a7c26ee878a82ca12016db202"), looks := true }, kinds := [], alts := [], laidByText := true, laidKinds := [.data, .data, .data, .data, .sentinel, .sentinel, .pinned], laidTests := true, laidLooks := .later }
def RowComparesUptoCardSaid : Prop := Claim7.holds Tryz.pinned (.plain (OpenSpec.upto rowComparesSpec)) rowComparesUptoCard

/-- THE SECOND FORM's CARD OF 'millstreamlaw10.RowOrder'. -/
def rowOrderUptoCard : Claim7 := { stood := { row := rowOrderUptoRow, standIns := [], harness := (true, "927974e011ec1b7992b17991e3b77975b4245b6a7c26ee878a82ca12016db202"), looks := true }, kinds := [], alts := [], laidByText := true, laidKinds := [.data, .data, .data, .data, .sentinel, .sentinel, .pinned], laidTests := true, laidLooks := .later }
def RowOrderUptoCardSaid : Prop := Claim7.holds Tryz.pinned (.plain (OpenSpec.upto rowOrderSpec)) rowOrderUptoCard

/-- THE SECOND FORM's CARD OF 'millstreamlaw10.RowKnown'. -/
def rowKnownUptoCard : Claim7 := { stood := { row := rowKnownUptoRow, standIns := [], harness := (true, "927974e011ec1b7992b17991e3b77975b4245b6a7c26ee878a82ca12016db202"), looks := true }, kinds := [], alts := [], laidByText := true, laidKinds := [.data, .data, .data, .data, .sentinel, .sentinel, .pinned], laidTests := true, laidLooks := .later }
def RowKnownUptoCardSaid : Prop := Claim7.holds Tryz.pinned (.plain (OpenSpec.upto rowKnownSpec)) rowKnownUptoCard

/-- THE SECOND FORM's CARD OF 'millstreamlaw09.CellKnown'. -/
def cellKnownUptoCard : Claim7 := { stood := { row := cellKnownUptoRow, standIns := [], harness := (true, "927974e011ec1b7992b17991e3b77975b4245b6a7c26ee878a82ca12016db202"), looks := true }, kinds := [], alts := [], laidByText := true, laidKinds := [.data, .data, .data, .data, .sentinel, .sentinel, .pinned], laidTests := true, laidLooks := .later }
def CellKnownUptoCardSaid : Prop := Claim7.holds Tryz.pinned (.plain (OpenSpec.upto cellKnownSpec)) cellKnownUptoCard
end Rows
end Go.Proofs.YtmfdokfedimbhaaGreatDoor
