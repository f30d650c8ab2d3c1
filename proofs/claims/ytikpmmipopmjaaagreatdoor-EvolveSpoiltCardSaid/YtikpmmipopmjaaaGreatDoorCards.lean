/-
  DERIVED. GIVEN WITH THE SEED: THE CARDS: each row of YtikpmmipopmjaaaGreatDoorRows.lean that lists a variable, with what it lists TIED to the program's text (the seventh form; the later family's looks); each row that meets fmt, with fmt's text TOLD by the authors' own Lean function (tested against real Go, not proved from fmt's source: count such statements apart). THE CARD IS WHAT COUNTS. Prove the row's statement (the work); the ties are given (YtikpmmipopmjaaaGreatDoorTie.lean); close each card by the builder's one call (the guide's Derived/Test/ToyasCard.lean, 'card_holds'). Laid BY PROGRAM, IN A SANDBOX (cutbox-door.mjs). By AI agents, Wed Nov 11 2026. No macro, syntax, notation, axiom, sorry.
-/
import Derived.Test.YtikpmmipopmjaaaGreatDoorRows
import GoSem.ClaimSeven
namespace Go.Proofs.YtikpmmipopmjaaaGreatDoor
namespace Rows

/-- THE TIED CARD OF 'millstreamlaw12.EvolveSteps'. -/
def evolveStepsCard : Claim7 := { stood := { row := evolveStepsRow, standIns := [], harness := (true, "32520e8920535887a61b7bb4c32f338ec16e2818e4c33797565438e55bae58df"), looks := true }, kinds := [], alts := [], laidByText := true, laidKinds := [.data, .data, .data, .data, .sentinel, .sentinel, .pinned], laidTests := true, laidLooks := .later }
def EvolveStepsCardSaid : Prop := Claim7.holds Tryz.pinned (.plain (OpenSpec.ofChange evolveStepsSpec)) evolveStepsCard

/-- THE TIED CARD OF 'millstreamlaw12.EvolveChains'. -/
def evolveChainsCard : Claim7 := { stood := { row := evolveChainsRow, standIns := [], harness := (true, "32520e8920535887a61b7bb4c32f338ec16e2818e4c33797565438e55bae58df"), looks := true }, kinds := [], alts := [], laidByText := true, laidKinds := [.data, .data, .data, .data, .sentinel, .sentinel, .pinned], laidTests := true, laidLooks := .later }
def EvolveChainsCardSaid : Prop := Claim7.holds Tryz.pinned (.plain (OpenSpec.ofChange evolveChainsSpec)) evolveChainsCard

/-- THE TIED CARD OF 'millstreamlaw12.EvolveOnce'. -/
def evolveOnceCard : Claim7 := { stood := { row := evolveOnceRow, standIns := [], harness := (true, "32520e8920535887a61b7bb4c32f338ec16e2818e4c33797565438e55bae58df"), looks := true }, kinds := [], alts := [], laidByText := true, laidKinds := [.data, .data, .data, .data, .sentinel, .sentinel, .pinned], laidTests := true, laidLooks := .later }
def EvolveOnceCardSaid : Prop := Claim7.holds Tryz.pinned (.plain (OpenSpec.ofChange evolveOnceSpec)) evolveOnceCard

/-- THE TIED CARD OF 'millstreamlaw12.EvolveParts'. -/
def evolvePartsCard : Claim7 := { stood := { row := evolvePartsRow, standIns := [], harness := (true, "32520e8920535887a61b7bb4c32f338ec16e2818e4c33797565438e55bae58df"), looks := true }, kinds := [], alts := [], laidByText := true, laidKinds := [.data, .data, .data, .data, .sentinel, .sentinel, .pinned], laidTests := true, laidLooks := .later }
def EvolvePartsCardSaid : Prop := Claim7.holds Tryz.pinned (.plain (OpenSpec.ofChange evolvePartsSpec)) evolvePartsCard

/-- THE TIED CARD OF 'millstreamlaw12.EvolveCells'. -/
def evolveCellsCard : Claim7 := { stood := { row := evolveCellsRow, standIns := [], harness := (true, "32520e8920535887a61b7bb4c32f338ec16e2818e4c33797565438e55bae58df"), looks := true }, kinds := [], alts := [], laidByText := true, laidKinds := [.data, .data, .data, .data, .sentinel, .sentinel, .pinned], laidTests := true, laidLooks := .later }
def EvolveCellsCardSaid : Prop := Claim7.holds Tryz.pinned (.plain (OpenSpec.ofChange evolveCellsSpec)) evolveCellsCard

/-- THE TIED CARD OF 'millstreamlaw12.EvolveKnown'. -/
def evolveKnownCard : Claim7 := { stood := { row := evolveKnownRow, standIns := [], harness := (true, "32520e8920535887a61b7bb4c32f338ec16e2818e4c33797565438e55bae58df"), looks := true }, kinds := [], alts := [], laidByText := true, laidKinds := [.data, .data, .data, .data, .sentinel, .sentinel, .pinned], laidTests := true, laidLooks := .later }
def EvolveKnownCardSaid : Prop := Claim7.holds Tryz.pinned (.plain (OpenSpec.ofChange evolveKnownSpec)) evolveKnownCard

/-- THE TIED CARD OF 'millstreamlaw12.EvolveSpoilt'. -/
def evolveSpoiltCard : Claim7 := { stood := { row := evolveSpoiltRow, standIns := [], harness := (true, "32520e8920535887a61b7bb4c32f338ec16e2818e4c33797565438e55bae58df"), looks := true }, kinds := [], alts := [], laidByText := true, laidKinds := [.data, .data, .data, .data, .sentinel, .sentinel, .pinned], laidTests := true, laidLooks := .later }
def EvolveSpoiltCardSaid : Prop := Claim7.holds Tryz.pinned (.plain (OpenSpec.ofChange evolveSpoiltSpec)) evolveSpoiltCard

/-- THE TIED CARD OF 'millstreamlaw12.EvolveRows'. -/
def evolveRowsCard : Claim7 := { stood := { row := evolveRowsRow, standIns := [], harness := (true, "32520e8920535887a61b7bb4c32f338ec16e2818e4c33797565438e55bae58df"), looks := true }, kinds := [], alts := [], laidByText := true, laidKinds := [.data, .data, .data, .data, .sentinel, .sentinel, .pinned], laidTests := true, laidLooks := .later }
def EvolveRowsCardSaid : Prop := Claim7.holds Tryz.pinned (.plain (OpenSpec.ofChange evolveRowsSpec)) evolveRowsCard

/-- THE SECOND FORM's CARD OF 'millstreamlaw12.EvolveSteps'. -/
def evolveStepsUptoCard : Claim7 := { stood := { row := evolveStepsUptoRow, standIns := [], harness := (true, "32520e8920535887a61b7bb4c32f338ec16e2818e4c33797565438e55bae58df"), looks := true }, kinds := [], alts := [], laidByText := true, laidKinds := [.data, .data, .data, .data, .sentinel, .sentinel, .pinned], laidTests := true, laidLooks := .later }
def EvolveStepsUptoCardSaid : Prop := Claim7.holds Tryz.pinned (.plain (OpenSpec.upto evolveStepsSpec)) evolveStepsUptoCard

/-- THE SECOND FORM's CARD OF 'millstreamlaw12.EvolveChains'. -/
def evolveChainsUptoCard : Claim7 := { stood := { row := evolveChainsUptoRow, standIns := [], harness := (true, "32520e8920535887a61b7bb4c32f338ec16e2818e4c33797565438e55bae58df"), looks := true }, kinds := [], alts := [], laidByText := true, laidKinds := [.data, .data, .data, .data, .sentinel, .sentinel, .pinned], laidTests := true, laidLooks := .later }
def EvolveChainsUptoCardSaid : Prop := Claim7.holds Tryz.pinned (.plain (OpenSpec.upto evolveChainsSpec)) evolveChainsUptoCard

/-- THE SECOND FORM's CARD OF 'millstreamlaw12.EvolveOnce'. -/
def evolveOnceUptoCard : Claim7 := { stood := { row := evolveOnceUptoRow, standIns := [], harness := (true, "32520e8920535887a61b7bb4c32f338ec16e2818e4c33797565438e55bae58df"), looks := true }, kinds := [], alts := [], laidByText := true, laidKinds := [.data, .data, .data, .data, .sentinel, .sentinel, .pinned], laidTests := true, laidLooks := .later }
def EvolveOnceUptoCardSaid : Prop := Claim7.holds Tryz.pinned (.plain (OpenSpec.upto evolveOnceSpec)) evolveOnceUptoCard

/-- THE SECOND FORM's CARD OF 'millstreamlaw12.EvolveParts'. -/
def evolvePartsUptoCard : Claim7 := { stood := { row := evolvePartsUptoRow, standIns := [], harness := (true, "32520e8920535887a61b7bb4c32f338ec16e2818e4c33797565438e55bae58df"), looks := true }, kinds := [], alts := [], laidByText := true, laidKinds := [.data, .data, .data, .data, .sentinel, .sentinel, .pinned], laidTests := true, laidLooks := .later }
def EvolvePartsUptoCardSaid : Prop := Claim7.holds Tryz.pinned (.plain (OpenSpec.upto evolvePartsSpec)) evolvePartsUptoCard

/-- THE SECOND FORM's CARD OF 'millstreamlaw12.EvolveCells'. -/
def evolveCellsUptoCard : Claim7 := { stood := { row := evolveCellsUptoRow, standIns := [], harness := (true, "32520e8920535887a61b7bb4c32f338ec16e2818e4c33797565438e55bae58df"), looks := true }, kinds := [], alts := [], laidByText := true, laidKinds := [.data, .data, .data, .data, .sentinel, .sentinel, .pinned], laidTests := true, laidLooks := .later }
def EvolveCellsUptoCardSaid : Prop := Claim7.holds Tryz.pinned (.plain (OpenSpec.upto evolveCellsSpec)) evolveCellsUptoCard

/-- THE SECOND FORM's CARD OF 'millstreamlaw12.EvolveKnown'. -/
def evolveKnownUptoCard : Claim7 := { stood := { row := evolveKnownUptoRow, standIns := [], harness := (true, "32520e8920535887a61b7bb4c32f338ec16e2818e4c33797565438e55bae58df"), looks := true }, kinds := [], alts := [], laidByText := true, laidKinds := [.data, .data, .data, .data, .sentinel, .sentinel, .pinned], laidTests := true, laidLooks := .later }
def EvolveKnownUptoCardSaid : Prop := Claim7.holds Tryz.pinned (.plain (OpenSpec.upto evolveKnownSpec)) evolveKnownUptoCard

/-- THE SECOND FORM's CARD OF 'millstreamlaw12.EvolveSpoilt'. -/
def evolveSpoiltUptoCard : Claim7 := { stood := { row := evolveSpoiltUptoRow, standIns := [], harness := (true, "32520e8920535887a61b7bb4c32f338ec16e2818e4c33797565438e55bae58df"), looks := true }, kinds := [], alts := [], laidByText := true, laidKinds := [.data, .data, .data, .data, .sentinel, .sentinel, .pinned], laidTests := true, laidLooks := .later }
def EvolveSpoiltUptoCardSaid : Prop := Claim7.holds Tryz.pinned (.plain (OpenSpec.upto evolveSpoiltSpec)) evolveSpoiltUptoCard

/-- THE SECOND FORM's CARD OF 'millstreamlaw12.EvolveRows'. -/
def evolveRowsUptoCard : Claim7 := { stood := { row := evolveRowsUptoRow, standIns := [], harness := (true, "32520e8920535887a61b7bb4c32f338ec16e2818e4c33797565438e55bae58df"), looks := true }, kinds := [], alts := [], laidByText := true, laidKinds := [.data, .data, .data, .data, .sentinel, .sentinel, .pinned], laidTests := true, laidLooks := .later }
def EvolveRowsUptoCardSaid : Prop := Claim7.holds Tryz.pinned (.plain (OpenSpec.upto evolveRowsSpec)) evolveRowsUptoCard
end Rows
end Go.Proofs.YtikpmmipopmjaaaGreatDoor
