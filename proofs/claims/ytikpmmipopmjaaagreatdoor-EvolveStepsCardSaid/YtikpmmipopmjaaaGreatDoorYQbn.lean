/- The laid variables, as the cells' contracts ask them; a world for the witness. -/
import Derived.Test.YtikpmmipopmjaaaGreatDoorYQe
import Derived.Test.YtikpmmipopmjaaaGreatDoorYQc
import Derived.Lib.LaidU8
import Derived.Lib.LaidTab
import Derived.Stop.LaidErr
import Derived.Deep.DeepHandedRow
import Derived.OpenShut
import Derived.ShutString
import Derived.ProofKit
set_option linter.unusedVariables false
namespace Go.Proofs.YtikpmmipopmjaaaGreatDoor
open Go.RowKit Go.Ms Go.Lib
theorem own : ownKnob Tryz.prog.godebug = none := by kernel_rfl
theorem laidOut : laidOutB Tryz.prog = true := by kernel_rfl
theorem u8Extra : U8Extra Tryz.prog Tryz.lays260_ren := {
  n3 := by kernel_rfl
  n4 := by kernel_rfl
  y3 := by kernel_rfl
  y4 := by kernel_rfl
  c5 := by kernel_rfl
  c119 := by kernel_rfl
  c138 := by kernel_rfl }
theorem firstData_eq : Rows.laid_unicode_utf8_first = firstData := by kernel_rfl
theorem acceptData_eq : (Rows.laid_unicode_utf8_acceptRanges : DataW Unit) = acceptData := by kernel_rfl
theorem powData_eq : (Rows.laid_internal_strconv_uint64pow10 : DataW Unit) = Lib.tabData .u64 Lib.pow10Tab := by kernel_rfl
theorem star_es : "*errors.errorString" = "*" ++ "errors.errorString" := by decide
theorem row_es (u : TypeId) (h : Tryz.prog.typeName? 3 u = some "*errors.errorString") : u = 224 :=
  typeName_ptr_named (nm := "errors.errorString") (by rw [← star_es]; kernel_rfl) (by kernel_rfl) (by decide) u (by rw [← star_es]; exact h)
def laidList : List (String × DataW Unit) := [("math/bits.deBruijn32tab", Rows.laid_math_bits_deBruijn32tab), ("math/bits.deBruijn64tab", Rows.laid_math_bits_deBruijn64tab), ("internal/strconv.uint64pow10", Rows.laid_internal_strconv_uint64pow10), ("unicode/utf8.acceptRanges", Rows.laid_unicode_utf8_acceptRanges), ("strconv.ErrRange", Rows.laid_strconv_ErrRange), ("strconv.ErrSyntax", Rows.laid_strconv_ErrSyntax), ("unicode/utf8.first", Rows.laid_unicode_utf8_first)]
theorem env_of {W : World} (h : laidMetH Tryz.prog laidList W) (hsh : W.ShapedOpen Tryz.prog) : Env W := by
 have h' : laidMet Tryz.prog [("math/bits.deBruijn32tab", Rows.laid_math_bits_deBruijn32tab), ("math/bits.deBruijn64tab", Rows.laid_math_bits_deBruijn64tab), ("internal/strconv.uint64pow10", Rows.laid_internal_strconv_uint64pow10), ("unicode/utf8.acceptRanges", Rows.laid_unicode_utf8_acceptRanges), ("strconv.ErrRange", Rows.laid_strconv_ErrRange), ("strconv.ErrSyntax", Rows.laid_strconv_ErrSyntax), ("unicode/utf8.first", Rows.laid_unicode_utf8_first)] W := h; have h2 := h'.tail.tail; have h4 := h2.tail.tail; refine ⟨?_, ?_, ?_, ?_, ?_⟩
 · have h3 := laidMet.reads h' (n := "unicode/utf8.first") (d := Rows.laid_unicode_utf8_first) (by simp); have h5 := laidMet.reads h' (n := "unicode/utf8.acceptRanges") (d := Rows.laid_unicode_utf8_acceptRanges) (by simp); rw [firstData_eq] at h3; rw [acceptData_eq] at h5; exact utf8Tabs_of_reads Tryz.lays260 u8Extra h3 h5
 · rw [powData_eq] at h2; exact Lib.tabIs_of_head (g := 5) (t := 228) (e := 172) (n := 20) (by kernel_rfl) (by kernel_rfl) (by kernel_rfl) (by kernel_rfl) (by kernel_rfl) (by kernel_rfl) h2
 · obtain ⟨a, s, hv, _⟩ := laid_sentinel (ti := 98) (tp := 224) (te := 226) (ts := 9) (g := 3) h4.tail (by kernel_rfl) (by kernel_rfl) Tryz.underlying98 row_es Tryz.underlying224 Tryz.underlying226 rfl rfl Tryz.underlying9 (by kernel_rfl) (by kernel_rfl); exact ⟨_, _, hv⟩
 · obtain ⟨a, s, hv, _⟩ := laid_sentinel (ti := 98) (tp := 224) (te := 226) (ts := 9) (g := 4) h4 (by kernel_rfl) (by kernel_rfl) Tryz.underlying98 row_es Tryz.underlying224 Tryz.underlying226 rfl rfl Tryz.underlying9 (by kernel_rfl) (by kernel_rfl); exact ⟨_, _, hv⟩
 · obtain ⟨m, hm⟩ := Go.Proofs.cell_of_shapedOpen_int (P := Tryz.prog) (g := 0) (zero := #[.int .i64 0]) (t := 3) hsh (of_decide_eq_true (by kernel_rfl)) (by kernel_rfl) rfl (by kernel_rfl) (by kernel_rfl) Tryz.underlying3; exact ⟨m, hm⟩
def putCells (cs : Array Value) : Obj → Obj
  | .cells _ t frozen => .cells cs t frozen
  | o => o
def litsOf : DataW Unit → Array Value
  | .agg l => (l.map fun
    | .lit (.int k z) => Value.int k z
    | _ => undef).toArray
  | _ => #[]
noncomputable def lowHeap : Nat := (World.holding Tryz.prog default ⟨#[], #[], []⟩).heap.size
def textSyn : ByteArray := ⟨#[105, 110, 118, 97, 108, 105, 100, 32, 115, 121, 110, 116, 97, 120]⟩
def textRng : ByteArray := ⟨#[118, 97, 108, 117, 101, 32, 111, 117, 116, 32, 111, 102, 32, 114, 97, 110, 103, 101]⟩
noncomputable def laidWorld (os : Os) : World :=
  let w0 := World.holding Tryz.prog os ⟨#[.cells #[.string textSyn] 226, .cells #[.string textRng] 226], #[], []⟩
  { w0 with heap := ((((((w0.heap.modify 1 (putCells (firstTab.map (Value.int .u8)).toArray)).modify 2 (putCells ((List.range 16).flatMap fun i => [Value.int .u8 (accLo i), Value.int .u8 (accHi i)]).toArray)).modify 5 (putCells (litsOf Rows.laid_internal_strconv_uint64pow10))).modify 6 (putCells (litsOf Rows.laid_math_bits_deBruijn32tab))).modify 7 (putCells (litsOf Rows.laid_math_bits_deBruijn64tab))).modify 3 (putCells #[.iface 224 (.pointer (some ⟨lowHeap, 0, none⟩))])).modify 4 (putCells #[.iface 224 (.pointer (some ⟨lowHeap + 1, 0, none⟩))]) }
end Go.Proofs.YtikpmmipopmjaaaGreatDoor
