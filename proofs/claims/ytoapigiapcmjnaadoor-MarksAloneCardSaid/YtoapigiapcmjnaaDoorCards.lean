/-
  DERIVED. GIVEN WITH THE SEED: THE CARDS: each row of YtoapigiapcmjnaaDoorRows.lean that lists a variable, with what it lists TIED to the program's text (the seventh form; the later family's looks); each row that meets fmt, with fmt's text TOLD by the authors' own Lean function (tested against real Go, not proved from fmt's source: count such statements apart). THE CARD IS WHAT COUNTS. Prove the row's statement (the work); the ties are given (YtoapigiapcmjnaaDoorTie.lean); close each card by the builder's one call (the guide's Derived/Test/ToyasCard.lean, 'card_holds'). Laid BY PROGRAM, IN A SANDBOX (cutbox-door.mjs). By AI agents, Wed Nov 11 2026. No macro, syntax, notation, axiom, sorry.
-/
import Derived.Test.YtoapigiapcmjnaaDoorRows
import GoSem.ClaimSeven
namespace Go.Proofs.YtoapigiapcmjnaaDoor
namespace Rows

/-- THE TIED CARD OF 'millstreamlaw26.MarksRise'. -/
def marksRiseCard : Claim7 := { stood := { row := marksRiseRow, standIns := [], harness := (true, "466fcca2ac4a98fc55cdf14d733a728fd3a0b75a60f5a60026cbed805f007fc6"), looks := false }, kinds := [], alts := [], laidByText := true, laidKinds := [.data, .pinned], laidTests := true, laidLooks := .later }
def MarksRiseCardSaid : Prop := Claim7.holds Tryd.pinned (.plain (OpenSpec.ofChange marksRiseSpec)) marksRiseCard

/-- THE TIED CARD OF 'millstreamlaw26.MarksBack'. -/
def marksBackCard : Claim7 := { stood := { row := marksBackRow, standIns := [], harness := (true, "466fcca2ac4a98fc55cdf14d733a728fd3a0b75a60f5a60026cbed805f007fc6"), looks := false }, kinds := [], alts := [], laidByText := true, laidKinds := [.data, .pinned], laidTests := true, laidLooks := .later }
def MarksBackCardSaid : Prop := Claim7.holds Tryd.pinned (.plain (OpenSpec.ofChange marksBackSpec)) marksBackCard

/-- THE TIED CARD OF 'millstreamlaw26.MarksAlone'. -/
def marksAloneCard : Claim7 := { stood := { row := marksAloneRow, standIns := [], harness := (true, "466fcca2ac4a98fc55cdf14d733a728fd3a0b75a60f5a60026cbed805f007fc6"), looks := false }, kinds := [], alts := [], laidByText := true, laidKinds := [.data, .pinned], laidTests := true, laidLooks := .later }
def MarksAloneCardSaid : Prop := Claim7.holds Tryd.pinned (.plain (OpenSpec.ofChange marksAloneSpec)) marksAloneCard

/-- THE SECOND FORM's CARD OF 'millstreamlaw26.MarksRise'. -/
def marksRiseUptoCard : Claim7 := { stood := { row := marksRiseUptoRow, standIns := [], harness := (true, "466fcca2ac4a98fc55cdf14d733a728fd3a0b75a60f5a60026cbed805f007fc6"), looks := false }, kinds := [], alts := [], laidByText := true, laidKinds := [.data, .pinned], laidTests := true, laidLooks := .later }
def MarksRiseUptoCardSaid : Prop := Claim7.holds Tryd.pinned (.plain (OpenSpec.upto marksRiseSpec)) marksRiseUptoCard

/-- THE SECOND FORM's CARD OF 'millstreamlaw26.MarksBack'. -/
def marksBackUptoCard : Claim7 := { stood := { row := marksBackUptoRow, standIns := [], harness := (true, "466fcca2ac4a98fc55cdf14d733a728fd3a0b75a60f5a60026cbed805f007fc6"), looks := false }, kinds := [], alts := [], laidByText := true, laidKinds := [.data, .pinned], laidTests := true, laidLooks := .later }
def MarksBackUptoCardSaid : Prop := Claim7.holds Tryd.pinned (.plain (OpenSpec.upto marksBackSpec)) marksBackUptoCard

/-- THE SECOND FORM's CARD OF 'millstreamlaw26.MarksAlone'. -/
def marksAloneUptoCard : Claim7 := { stood := { row := marksAloneUptoRow, standIns := [], harness := (true, "466fcca2ac4a98fc55cdf14d733a728fd3a0b75a60f5a60026cbed805f007fc6"), looks := false }, kinds := [], alts := [], laidByText := true, laidKinds := [.data, .pinned], laidTests := true, laidLooks := .later }
def MarksAloneUptoCardSaid : Prop := Claim7.holds Tryd.pinned (.plain (OpenSpec.upto marksAloneSpec)) marksAloneUptoCard
end Rows
end Go.Proofs.YtoapigiapcmjnaaDoor
