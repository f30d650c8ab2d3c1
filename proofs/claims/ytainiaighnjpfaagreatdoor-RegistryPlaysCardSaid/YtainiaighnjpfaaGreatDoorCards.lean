/-
  DERIVED. GIVEN WITH THE SEED: THE CARDS: each row of YtainiaighnjpfaaGreatDoorRows.lean that lists a variable, with what it lists TIED to the program's text (the seventh form; the later family's looks); each row that meets fmt, with fmt's text TOLD by the authors' own Lean function (tested against real Go, not proved from fmt's source: count such statements apart). THE CARD IS WHAT COUNTS. Prove the row's statement (the work); the ties are given (YtainiaighnjpfaaGreatDoorTie.lean); close each card by the builder's one call (the guide's Derived/Test/ToyasCard.lean, 'card_holds'). Laid BY PROGRAM, IN A SANDBOX (cutbox-door.mjs). By AI agents, Wed Nov 11 2026. No macro, syntax, notation, axiom, sorry.
-/
import Derived.Test.YtainiaighnjpfaaGreatDoorRows
import GoSem.ClaimSeven
namespace Go.Proofs.YtainiaighnjpfaaGreatDoor
namespace Rows

/-- THE TIED CARD OF 'millstreamlaw13.RegistryMoves'. -/
def registryMovesCard : Claim7 := { stood := { row := registryMovesRow, standIns := [], harness := (true, "0e7c513d392694262488a9924db65b7a9e36475997fff0ec46dd06db8f7c9cba"), looks := true }, kinds := [], alts := [], laidByText := true, laidKinds := [.data, .data, .data, .data, .sentinel, .sentinel, .pinned], laidTests := true, laidLooks := .later }
def RegistryMovesCardSaid : Prop := Claim7.holds Tryz.pinned (.plain (OpenSpec.ofChange registryMovesSpec)) registryMovesCard

/-- THE TIED CARD OF 'millstreamlaw13.RegistryKnown'. -/
def registryKnownCard : Claim7 := { stood := { row := registryKnownRow, standIns := [], harness := (true, "0e7c513d392694262488a9924db65b7a9e36475997fff0ec46dd06db8f7c9cba"), looks := true }, kinds := [], alts := [], laidByText := true, laidKinds := [.data, .data, .data, .data, .sentinel, .sentinel, .pinned], laidTests := true, laidLooks := .later }
def RegistryKnownCardSaid : Prop := Claim7.holds Tryz.pinned (.plain (OpenSpec.ofChange registryKnownSpec)) registryKnownCard

/-- THE TIED CARD OF 'millstreamlaw13.RegistryAlone'. -/
def registryAloneCard : Claim7 := { stood := { row := registryAloneRow, standIns := [], harness := (true, "0e7c513d392694262488a9924db65b7a9e36475997fff0ec46dd06db8f7c9cba"), looks := true }, kinds := [], alts := [], laidByText := true, laidKinds := [.data, .data, .data, .data, .sentinel, .sentinel, .pinned], laidTests := true, laidLooks := .later }
def RegistryAloneCardSaid : Prop := Claim7.holds Tryz.pinned (.plain (OpenSpec.ofChange registryAloneSpec)) registryAloneCard

/-- THE TIED CARD OF 'millstreamlaw13.RegistryPlays'. -/
def registryPlaysCard : Claim7 := { stood := { row := registryPlaysRow, standIns := [], harness := (true, "0e7c513d392694262488a9924db65b7a9e36475997fff0ec46dd06db8f7c9cba"), looks := true }, kinds := [], alts := [], laidByText := true, laidKinds := [.data, .data, .data, .data, .sentinel, .sentinel, .pinned], laidTests := true, laidLooks := .later }
def RegistryPlaysCardSaid : Prop := Claim7.holds Tryz.pinned (.plain (OpenSpec.ofChange registryPlaysSpec)) registryPlaysCard

/-- THE TIED CARD OF 'millstreamlaw13.RegistryChain'. -/
def registryChainCard : Claim7 := { stood := { row := registryChainRow, standIns := [], harness := (true, "0e7c513d392694262488a9924db65b7a9e36475997fff0ec46dd06db8f7c9cba"), looks := true }, kinds := [], alts := [], laidByText := true, laidKinds := [.data, .data, .data, .data, .sentinel, .sentinel, .pinned], laidTests := true, laidLooks := .later }
def RegistryChainCardSaid : Prop := Claim7.holds Tryz.pinned (.plain (OpenSpec.ofChange registryChainSpec)) registryChainCard

/-- THE TIED CARD OF 'millstreamlaw13.RegistryKeeps'. -/
def registryKeepsCard : Claim7 := { stood := { row := registryKeepsRow, standIns := [], harness := (true, "0e7c513d392694262488a9924db65b7a9e36475997fff0ec46dd06db8f7c9cba"), looks := true }, kinds := [], alts := [], laidByText := true, laidKinds := [.data, .data, .data, .data, .sentinel, .sentinel, .pinned], laidTests := true, laidLooks := .later }
def RegistryKeepsCardSaid : Prop := Claim7.holds Tryz.pinned (.plain (OpenSpec.ofChange registryKeepsSpec)) registryKeepsCard

/-- THE SECOND FORM's CARD OF 'millstreamlaw13.RegistryMoves'. -/
def registryMovesUptoCard : Claim7 := { stood := { row := registryMovesUptoRow, standIns := [], harness := (true, "0e7c513d392694262488a9924db65b7a9e36475997fff0ec46dd06db8f7c9cba"), looks := true }, kinds := [], alts := [], laidByText := true, laidKinds := [.data, .data, .data, .data, .sentinel, .sentinel, .pinned], laidTests := true, laidLooks := .later }
def RegistryMovesUptoCardSaid : Prop := Claim7.holds Tryz.pinned (.plain (OpenSpec.upto registryMovesSpec)) registryMovesUptoCard

/-- THE SECOND FORM's CARD OF 'millstreamlaw13.RegistryKnown'. -/
def registryKnownUptoCard : Claim7 := { stood := { row := registryKnownUptoRow, standIns := [], harness := (true, "0e7c513d392694262488a9924db65b7a9e36475997fff0ec46dd06db8f7c9cba"), looks := true }, kinds := [], alts := [], laidByText := true, laidKinds := [.data, .data, .data, .data, .sentinel, .sentinel, .pinned], laidTests := true, laidLooks := .later }
def RegistryKnownUptoCardSaid : Prop := Claim7.holds Tryz.pinned (.plain (OpenSpec.upto registryKnownSpec)) registryKnownUptoCard

/-- THE SECOND FORM's CARD OF 'millstreamlaw13.RegistryAlone'. -/
def registryAloneUptoCard : Claim7 := { stood := { row := registryAloneUptoRow, standIns := [], harness := (true, "0e7c513d392694262488a9924db65b7a9e36475997fff0ec46dd06db8f7c9cba"), looks := true }, kinds := [], alts := [], laidByText := true, laidKinds := [.data, .data, .data, .data, .sentinel, .sentinel, .pinned], laidTests := true, laidLooks := .later }
def RegistryAloneUptoCardSaid : Prop := Claim7.holds Tryz.pinned (.plain (OpenSpec.upto registryAloneSpec)) registryAloneUptoCard

/-- THE SECOND FORM's CARD OF 'millstreamlaw13.RegistryPlays'. -/
def registryPlaysUptoCard : Claim7 := { stood := { row := registryPlaysUptoRow, standIns := [], harness := (true, "0e7c513d392694262488a9924db65b7a9e36475997fff0ec46dd06db8f7c9cba"), looks := true }, kinds := [], alts := [], laidByText := true, laidKinds := [.data, .data, .data, .data, .sentinel, .sentinel, .pinned], laidTests := true, laidLooks := .later }
def RegistryPlaysUptoCardSaid : Prop := Claim7.holds Tryz.pinned (.plain (OpenSpec.upto registryPlaysSpec)) registryPlaysUptoCard

/-- THE SECOND FORM's CARD OF 'millstreamlaw13.RegistryChain'. -/
def registryChainUptoCard : Claim7 := { stood := { row := registryChainUptoRow, standIns := [], harness := (true, "0e7c513d392694262488a9924db65b7a9e36475997fff0ec46dd06db8f7c9cba"), looks := true }, kinds := [], alts := [], laidByText := true, laidKinds := [.data, .data, .data, .data, .sentinel, .sentinel, .pinned], laidTests := true, laidLooks := .later }
def RegistryChainUptoCardSaid : Prop := Claim7.holds Tryz.pinned (.plain (OpenSpec.upto registryChainSpec)) registryChainUptoCard

/-- THE SECOND FORM's CARD OF 'millstreamlaw13.RegistryKeeps'. -/
def registryKeepsUptoCard : Claim7 := { stood := { row := registryKeepsUptoRow, standIns := [], harness := (true, "0e7c513d392694262488a9924db65b7a9e36475997fff0ec46dd06db8f7c9cba"), looks := true }, kinds := [], alts := [], laidByText := true, laidKinds := [.data, .data, .data, .data, .sentinel, .sentinel, .pinned], laidTests := true, laidLooks := .later }
def RegistryKeepsUptoCardSaid : Prop := Claim7.holds Tryz.pinned (.plain (OpenSpec.upto registryKeepsSpec)) registryKeepsUptoCard
end Rows
end Go.Proofs.YtainiaighnjpfaaGreatDoor
