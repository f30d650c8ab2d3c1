/- The laid tables of unicode/utf8, as the contracts ask them; a world for the witness. -/
import Derived.Test.YtnjljcgapijadaaDoorP1
import Derived.Lib.LaidU8
import Derived.Deep.DeepHandedRow
import Derived.OpenShut
import Derived.ShutString
import Derived.ProofKit
set_option linter.unusedVariables false
namespace Go.Proofs.YtnjljcgapijadaaDoor
open Go.RowKit Go.Ms Go.Lib

theorem own : ownKnob Tryd.prog.godebug = none := by kernel_rfl
theorem laidOut : laidOutB Tryd.prog = true := by kernel_rfl
theorem u8Extra : U8Extra Tryd.prog Tryd.lays260_ren := {
  n3 := by kernel_rfl
  n4 := by kernel_rfl
  y3 := by kernel_rfl
  y4 := by kernel_rfl
  c5 := by kernel_rfl
  c119 := by kernel_rfl
  c138 := by kernel_rfl }
theorem firstData_eq : Rows.laid_unicode_utf8_first = firstData := by kernel_rfl
theorem acceptData_eq : (Rows.laid_unicode_utf8_acceptRanges : DataW Unit) = acceptData := by kernel_rfl
/-- What every row of this seat lists. -/
def laidList : List (String × DataW Unit) := Rows.utfOrderRow.laid
theorem tabs_of {W : World} (h : laidMetH Tryd.prog laidList W) : Tabs W := by
  have h' : laidMet Tryd.prog laidList W := h
  have h3 := laidMet.reads h' (List.mem_cons_of_mem _ (List.mem_singleton.2 rfl))
  have h4 := laidMet.reads h' (List.mem_cons_self ..)
  rw [firstData_eq] at h3
  rw [acceptData_eq] at h4
  exact utf8Tabs_of_reads Tryd.lays260 u8Extra h3 h4

def putCells (cs : Array Value) : Obj → Obj
  | .cells _ t frozen => .cells cs t frozen
  | o => o
/-- A world that holds the two tables. -/
noncomputable def laidWorld (os : Os) : World :=
  { World.holding Tryd.prog os ⟨#[], #[], []⟩ with heap := ((World.holding Tryd.prog os ⟨#[], #[], []⟩).heap.modify 0 (putCells (firstTab.map (Value.int .u8)).toArray)).modify 1 (putCells ((List.range 16).flatMap fun i => [Value.int .u8 (accLo i), Value.int .u8 (accHi i)]).toArray) }
end Go.Proofs.YtnjljcgapijadaaDoor
