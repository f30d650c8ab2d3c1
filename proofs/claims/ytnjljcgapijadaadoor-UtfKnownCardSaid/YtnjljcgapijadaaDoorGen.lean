/- Small facts for the walks. -/
import Derived.Test.YtnjljcgapijadaaDoorRows
import Derived.Test.YtnjljcgapijadaaDoorShelf
import Derived.Test.YtnjljcgapijadaaDoorPq
import Derived.Test.YtnjljcgapijadaaDoorFr
import Derived.WalkKit
import Derived.WalkSpells
import Derived.WalkLawsBesides
import Derived.Below
import Derived.Handy
import Derived.Outline
import Derived.Laws.BytesArg
import Derived.Lib.Hide
import Derived.Deep.QuietTactic
import Derived.BigQuiet
set_option linter.unusedVariables false
namespace Go.Proofs.YtnjljcgapijadaaDoor
open Go.RowKit Go.Ms Go.Lib

theorem strNums_enc (r : Int) : strOfNums (encodeRuneZ r) = ⟨(encodeRune r).toArray⟩ := by
  unfold strOfNums encodeRune
  rfl

theorem conv_new {P : Program} (w : World) (n : Nat) (hn : n = w.heap.size) (src e : TypeId) (hs : P.underlying src = some (.slice e)) (he : P.underlying e = some (.int .u8)) (ns : List Int) (dst : TypeId) (hd : P.underlying dst = some .string) :
    (convert src dst (.slice (some ⟨n, 0, none⟩) ns.length ns.length)).run P (w.alloc (.cells (ns.map (Value.int .u8)).toArray e)) = .ok (.string (strOfNums ns)) (w.alloc (.cells (ns.map (Value.int .u8)).toArray e)) := by
  refine run_convert_bytes_arg _ src e hs he _ 0 _ _ ns rfl (fun i hi => ?_) dst hd
  rw [Nat.zero_add, World.cell?_alloc_at _ _ _ _ hn]
  simp [hi]

theorem get_of (s : ByteArray) (k : Nat) (h : k < s.size) : s[k]'h = s.data.toList.getD k 0 := by
  cases s with
  | mk d =>
    have : k < d.size := h
    simp [List.getD_eq_getElem?_getD, this]
    rfl
theorem ret_int {k : IntKind} {a b : Int} (h : a = b) : Ending.returned (.int k a) = .returned (.int k b) := by rw [h]

theorem ret3n {a a' : Int} {b b' : Int} {c c' : Bool} (h : a = a') (h1 : b = b') (h2 : c = c') : Ending.returned (.tuple #[.int .i32 a, .int .i64 b, .bool c]) = .returned (.tuple #[.int .i32 a', .int .i64 b', .bool c']) := by rw [h, h1, h2]
theorem ext_list (s : ByteArray) (a b : Nat) : (s.extract a b).data.toList = (s.data.toList.take b).drop a := by
  rw [Lib.extract_data, List.drop_take]

/-- The two tables of unicode/utf8. -/
def Tabs (w : World) : Prop := Lib.Utf8Tabs 0 1 w

theorem tabs_drewN {w : World} (h : Tabs w) (n : Nat) : Tabs (w.drewN n) := h
theorem tabs_below {w w' : World} (h : Tabs w) (hb : Below w.heap.size w w') : Tabs w' := Utf8Tabs_below h hb
theorem ba_ext {s : ByteArray} {l : Bs} (h : s.data.toList = l) : s = ⟨l.toArray⟩ := by
  subst h; cases s; simp

end Go.Proofs.YtnjljcgapijadaaDoor
