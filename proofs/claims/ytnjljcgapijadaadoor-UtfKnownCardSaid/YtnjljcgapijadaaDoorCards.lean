/-
  DERIVED. GIVEN WITH THE SEED: THE CARDS: each row of YtnjljcgapijadaaDoorRows.lean that lists a variable, with what it lists TIED to the program's text (the seventh form; the later family's looks); each row that meets fmt, with fmt's text TOLD by the authors' own Lean function (tested against real Go, not proved from fmt's source: count such statements apart). THE CARD IS WHAT COUNTS. Prove the row's statement (the work); the ties are given (YtnjljcgapijadaaDoorTie.lean); close each card by the builder's one call (the guide's Derived/Test/ToyasCard.lean, 'card_holds'). Laid BY PROGRAM, IN A SANDBOX (cutbox-door.mjs). By AI agents, Wed Nov 11 2026. No macro, syntax, notation, axiom, sorry.
-/
import Derived.Test.YtnjljcgapijadaaDoorRows
import GoSem.ClaimSeven
namespace Go.Proofs.YtnjljcgapijadaaDoor
namespace Rows

/-- THE TIED CARD OF 'millstreamlaw04.UtfRunes'. -/
def utfRunesCard : Claim7 := { stood := { row := utfRunesRow, standIns := [], harness := (true, "382903012e4fcf3583819d8df7d40e8b6ced58b960f8e7a8427fdb2e1d6898aa"), looks := false }, kinds := [], alts := [], laidByText := true, laidKinds := [.data, .pinned], laidTests := true, laidLooks := .later }
def UtfRunesCardSaid : Prop := Claim7.holds Tryd.pinned (.plain (OpenSpec.ofChange utfRunesSpec)) utfRunesCard

/-- THE TIED CARD OF 'millstreamlaw04.UtfQuotes'. -/
def utfQuotesCard : Claim7 := { stood := { row := utfQuotesRow, standIns := [], harness := (true, "382903012e4fcf3583819d8df7d40e8b6ced58b960f8e7a8427fdb2e1d6898aa"), looks := false }, kinds := [], alts := [], laidByText := true, laidKinds := [.data, .pinned], laidTests := true, laidLooks := .later }
def UtfQuotesCardSaid : Prop := Claim7.holds Tryd.pinned (.plain (OpenSpec.ofChange utfQuotesSpec)) utfQuotesCard

/-- THE TIED CARD OF 'millstreamlaw04.UtfBack'. -/
def utfBackCard : Claim7 := { stood := { row := utfBackRow, standIns := [], harness := (true, "382903012e4fcf3583819d8df7d40e8b6ced58b960f8e7a8427fdb2e1d6898aa"), looks := false }, kinds := [], alts := [], laidByText := true, laidKinds := [.data, .pinned], laidTests := true, laidLooks := .later }
def UtfBackCardSaid : Prop := Claim7.holds Tryd.pinned (.plain (OpenSpec.ofChange utfBackSpec)) utfBackCard

/-- THE TIED CARD OF 'millstreamlaw04.UtfShort'. -/
def utfShortCard : Claim7 := { stood := { row := utfShortRow, standIns := [], harness := (true, "382903012e4fcf3583819d8df7d40e8b6ced58b960f8e7a8427fdb2e1d6898aa"), looks := false }, kinds := [], alts := [], laidByText := true, laidKinds := [.data, .pinned], laidTests := true, laidLooks := .later }
def UtfShortCardSaid : Prop := Claim7.holds Tryd.pinned (.plain (OpenSpec.ofChange utfShortSpec)) utfShortCard

/-- THE TIED CARD OF 'millstreamlaw04.UtfSpelt'. -/
def utfSpeltCard : Claim7 := { stood := { row := utfSpeltRow, standIns := [], harness := (true, "382903012e4fcf3583819d8df7d40e8b6ced58b960f8e7a8427fdb2e1d6898aa"), looks := false }, kinds := [], alts := [], laidByText := true, laidKinds := [.data, .pinned], laidTests := true, laidLooks := .later }
def UtfSpeltCardSaid : Prop := Claim7.holds Tryd.pinned (.plain (OpenSpec.ofChange utfSpeltSpec)) utfSpeltCard

/-- THE TIED CARD OF 'millstreamlaw04.UtfCuts'. -/
def utfCutsCard : Claim7 := { stood := { row := utfCutsRow, standIns := [], harness := (true, "382903012e4fcf3583819d8df7d40e8b6ced58b960f8e7a8427fdb2e1d6898aa"), looks := false }, kinds := [], alts := [], laidByText := true, laidKinds := [.data, .pinned], laidTests := true, laidLooks := .later }
def UtfCutsCardSaid : Prop := Claim7.holds Tryd.pinned (.plain (OpenSpec.ofChange utfCutsSpec)) utfCutsCard

/-- THE TIED CARD OF 'millstreamlaw04.UtfNext'. -/
def utfNextCard : Claim7 := { stood := { row := utfNextRow, standIns := [], harness := (true, "382903012e4fcf3583819d8df7d40e8b6ced58b960f8e7a8427fdb2e1d6898aa"), looks := false }, kinds := [], alts := [], laidByText := true, laidKinds := [.data, .pinned], laidTests := true, laidLooks := .later }
def UtfNextCardSaid : Prop := Claim7.holds Tryd.pinned (.plain (OpenSpec.ofChange utfNextSpec)) utfNextCard

/-- THE TIED CARD OF 'millstreamlaw04.UtfOrder'. -/
def utfOrderCard : Claim7 := { stood := { row := utfOrderRow, standIns := [], harness := (true, "382903012e4fcf3583819d8df7d40e8b6ced58b960f8e7a8427fdb2e1d6898aa"), looks := false }, kinds := [], alts := [], laidByText := true, laidKinds := [.data, .pinned], laidTests := true, laidLooks := .later }
def UtfOrderCardSaid : Prop := Claim7.holds Tryd.pinned (.plain (OpenSpec.ofChange utfOrderSpec)) utfOrderCard

/-- THE TIED CARD OF 'millstreamlaw04.UtfTurned'. -/
def utfTurnedCard : Claim7 := { stood := { row := utfTurnedRow, standIns := [], harness := (true, "382903012e4fcf3583819d8df7d40e8b6ced58b960f8e7a8427fdb2e1d6898aa"), looks := false }, kinds := [], alts := [], laidByText := true, laidKinds := [.data, .pinned], laidTests := true, laidLooks := .later }
def UtfTurnedCardSaid : Prop := Claim7.holds Tryd.pinned (.plain (OpenSpec.ofChange utfTurnedSpec)) utfTurnedCard

/-- THE TIED CARD OF 'millstreamlaw04.UtfKnown'. -/
def utfKnownCard : Claim7 := { stood := { row := utfKnownRow, standIns := [], harness := (true, "382903012e4fcf3583819d8df7d40e8b6ced58b960f8e7a8427fdb2e1d6898aa"), looks := false }, kinds := [], alts := [], laidByText := true, laidKinds := [.data, .pinned], laidTests := true, laidLooks := .later }
def UtfKnownCardSaid : Prop := Claim7.holds Tryd.pinned (.plain (OpenSpec.ofChange utfKnownSpec)) utfKnownCard

/-- THE SECOND FORM's CARD OF 'millstreamlaw04.UtfRunes'. -/
def utfRunesUptoCard : Claim7 := { stood := { row := utfRunesUptoRow, standIns := [], harness := (true, "382903012e4fcf3583819d8df7d40e8b6ced58b960f8e7a8427fdb2e1d6898aa"), looks := false }, kinds := [], alts := [], laidByText := true, laidKinds := [.data, .pinned], laidTests := true, laidLooks := .later }
def UtfRunesUptoCardSaid : Prop := Claim7.holds Tryd.pinned (.plain (OpenSpec.upto utfRunesSpec)) utfRunesUptoCard

/-- THE SECOND FORM's CARD OF 'millstreamlaw04.UtfQuotes'. -/
def utfQuotesUptoCard : Claim7 := { stood := { row := utfQuotesUptoRow, standIns := [], harness := (true, "382903012e4fcf3583819d8df7d40e8b6ced58b960f8e7a8427fdb2e1d6898aa"), looks := false }, kinds := [], alts := [], laidByText := true, laidKinds := [.data, .pinned], laidTests := true, laidLooks := .later }
def UtfQuotesUptoCardSaid : Prop := Claim7.holds Tryd.pinned (.plain (OpenSpec.upto utfQuotesSpec)) utfQuotesUptoCard

/-- THE SECOND FORM's CARD OF 'millstreamlaw04.UtfBack'. -/
def utfBackUptoCard : Claim7 := { stood := { row := utfBackUptoRow, standIns := [], harness := (true, "382903012e4fcf3583819d8df7d40e8b6ced58b960f8e7a8427fdb2e1d6898aa"), looks := false }, kinds := [], alts := [], laidByText := true, laidKinds := [.data, .pinned], laidTests := true, laidLooks := .later }
def UtfBackUptoCardSaid : Prop := Claim7.holds Tryd.pinned (.plain (OpenSpec.upto utfBackSpec)) utfBackUptoCard

/-- THE SECOND FORM's CARD OF 'millstreamlaw04.UtfShort'. -/
def utfShortUptoCard : Claim7 := { stood := { row := utfShortUptoRow, standIns := [], harness := (true, "382903012e4fcf3583819d8df7d40e8b6ced58b960f8e7a8427fdb2e1d6898aa"), looks := false }, kinds := [], alts := [], laidByText := true, laidKinds := [.data, .pinned], laidTests := true, laidLooks := .later }
def UtfShortUptoCardSaid : Prop := Claim7.holds Tryd.pinned (.plain (OpenSpec.upto utfShortSpec)) utfShortUptoCard

/-- THE SECOND FORM's CARD OF 'millstreamlaw04.UtfSpelt'. -/
def utfSpeltUptoCard : Claim7 := { stood := { row := utfSpeltUptoRow, standIns := [], harness := (true, "382903012e4fcf3583819d8df7d40e8b6ced58b960f8e7a8427fdb2e1d6898aa"), looks := false }, kinds := [], alts := [], laidByText := true, laidKinds := [.data, .pinned], laidTests := true, laidLooks := .later }
def UtfSpeltUptoCardSaid : Prop := Claim7.holds Tryd.pinned (.plain (OpenSpec.upto utfSpeltSpec)) utfSpeltUptoCard

/-- THE SECOND FORM's CARD OF 'millstreamlaw04.UtfCuts'. -/
def utfCutsUptoCard : Claim7 := { stood := { row := utfCutsUptoRow, standIns := [], harness := (true, "382903012e4fcf3583819d8df7d40e8b6ced58b960f8e7a8427fdb2e1d6898aa"), looks := false }, kinds := [], alts := [], laidByText := true, laidKinds := [.data, .pinned], laidTests := true, laidLooks := .later }
def UtfCutsUptoCardSaid : Prop := Claim7.holds Tryd.pinned (.plain (OpenSpec.upto utfCutsSpec)) utfCutsUptoCard

/-- THE SECOND FORM's CARD OF 'millstreamlaw04.UtfNext'. -/
def utfNextUptoCard : Claim7 := { stood := { row := utfNextUptoRow, standIns := [], harness := (true, "382903012e4fcf3583819d8df7d40e8b6ced58b960f8e7a8427fdb2e1d6898aa"), looks := false }, kinds := [], alts := [], laidByText := true, laidKinds := [.data, .pinned], laidTests := true, laidLooks := .later }
def UtfNextUptoCardSaid : Prop := Claim7.holds Tryd.pinned (.plain (OpenSpec.upto utfNextSpec)) utfNextUptoCard

/-- THE SECOND FORM's CARD OF 'millstreamlaw04.UtfOrder'. -/
def utfOrderUptoCard : Claim7 := { stood := { row := utfOrderUptoRow, standIns := [], harness := (true, "382903012e4fcf3583819d8df7d40e8b6ced58b960f8e7a8427fdb2e1d6898aa"), looks := false }, kinds := [], alts := [], laidByText := true, laidKinds := [.data, .pinned], laidTests := true, laidLooks := .later }
def UtfOrderUptoCardSaid : Prop := Claim7.holds Tryd.pinned (.plain (OpenSpec.upto utfOrderSpec)) utfOrderUptoCard

/-- THE SECOND FORM's CARD OF 'millstreamlaw04.UtfTurned'. -/
def utfTurnedUptoCard : Claim7 := { stood := { row := utfTurnedUptoRow, standIns := [], harness := (true, "382903012e4fcf3583819d8df7d40e8b6ced58b960f8e7a8427fdb2e1d6898aa"), looks := false }, kinds := [], alts := [], laidByText := true, laidKinds := [.data, .pinned], laidTests := true, laidLooks := .later }
def UtfTurnedUptoCardSaid : Prop := Claim7.holds Tryd.pinned (.plain (OpenSpec.upto utfTurnedSpec)) utfTurnedUptoCard

/-- THE SECOND FORM's CARD OF 'millstreamlaw04.UtfKnown'. -/
def utfKnownUptoCard : Claim7 := { stood := { row := utfKnownUptoRow, standIns := [], harness := (true, "382903012e4fcf3583819d8df7d40e8b6ced58b960f8e7a8427fdb2e1d6898aa"), looks := false }, kinds := [], alts := [], laidByText := true, laidKinds := [.data, .pinned], laidTests := true, laidLooks := .later }
def UtfKnownUptoCardSaid : Prop := Claim7.holds Tryd.pinned (.plain (OpenSpec.upto utfKnownSpec)) utfKnownUptoCard
end Rows
end Go.Proofs.YtnjljcgapijadaaDoor
