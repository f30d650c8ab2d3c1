/- Cells: a boxed type and two boxed cells. -/
import Derived.Test.YthgmdlibnjkdoaaGreatDoorZFa
set_option linter.unusedVariables false
namespace Go.Proofs.YthgmdlibnjkdoaaGreatDoor
open Go.RowKit Go.Ms Go.Lib

structure T2x (w : World) (b : Nat) (k : Int) (tn : Bool) (u1 : Bool) (n1 : Int) (S1 : ByteArray) (u2 : Bool) (n2 : Int) (S2 : ByteArray) (w1 : World) : Prop where
  td : w1.heap[b]? = some (.cells #[.int .i64 k, .bool tn] 33 (0, 0))
  ta : CellAt (b + 1) u1 n1 S1 w1
  tb : CellAt (b + 1 + 1) u2 n2 S2 w1
  bel : Below w.heap.size w w1
  hb : w.heap.size ≤ b
structure T2Cells (b : Nat) (k : Int) (tn : Bool) (u1 : Bool) (n1 : Int) (S1 : ByteArray) (u2 : Bool) (n2 : Int) (S2 : ByteArray) (w1 : World) : Prop where
  d0 : w1.cell? ⟨b, 0, none⟩ = some (.int .i64 k)
  d1 : w1.cell? ⟨b, 1, none⟩ = some (.bool tn)
  a0 : w1.cell? ⟨b + 1, 0, none⟩ = some (.bool u1)
  a1 : w1.cell? ⟨b + 1, 1, none⟩ = some (.int .i64 n1)
  a2 : w1.cell? ⟨b + 1, 2, none⟩ = some (.string S1)
  c0 : w1.cell? ⟨b + 1 + 1, 0, none⟩ = some (.bool u2)
  c1 : w1.cell? ⟨b + 1 + 1, 1, none⟩ = some (.int .i64 n2)
  c2 : w1.cell? ⟨b + 1 + 1, 2, none⟩ = some (.string S2)
  f0 : w1.frozen? ⟨b + 1, 0, none⟩ = false
  f1 : w1.frozen? ⟨b + 1, 1, none⟩ = false
  f2 : w1.frozen? ⟨b + 1, 2, none⟩ = false
  h0 : w1.frozen? ⟨b + 1 + 1, 0, none⟩ = false
  h1 : w1.frozen? ⟨b + 1 + 1, 1, none⟩ = false
  h2 : w1.frozen? ⟨b + 1 + 1, 2, none⟩ = false
section
variable {w w1 w2 : World} {b : Nat} {k n1 n2 : Int} {tn u1 u2 : Bool} {S1 S2 : ByteArray}
theorem T2x.cells (h : T2x w b k tn u1 n1 S1 u2 n2 S2 w1) : T2Cells b k tn u1 n1 S1 u2 n2 S2 w1 :=
  ⟨by rw [Lib.cell_of_heap h.td]; rfl, by rw [Lib.cell_of_heap h.td]; rfl, h.ta.c0, h.ta.c1, h.ta.c2, h.tb.c0, h.tb.c1, h.tb.c2, h.ta.fr 0, h.ta.fr 1, h.ta.fr 2, h.tb.fr 0, h.tb.fr 1, h.tb.fr 2⟩
theorem T2x.step (h : T2x w b k tn u1 n1 S1 u2 n2 S2 w1) (hb : Below w1.heap.size w1 w2) : T2x w b k tn u1 n1 S1 u2 n2 S2 w2 :=
  ⟨by rw [hb.block _ (Array.getElem?_eq_some_iff.1 h.td).1]; exact h.td, tri_step h.ta hb, tri_step h.tb hb, h.bel.trans (hb.mono h.bel.size), h.hb⟩
theorem T2x.drew (h : T2x w b k tn u1 n1 S1 u2 n2 S2 w1) : T2x w b k tn u1 n1 S1 u2 n2 S2 w1.drew := h.step (ms_drewN (Below.refl _ _) 1)
theorem T2x.alloc (h : T2x w b k tn u1 n1 S1 u2 n2 S2 w1) (o : Obj) : T2x w b k tn u1 n1 S1 u2 n2 S2 (w1.alloc o) := h.step ((Below.refl _ _).alloc (Nat.le_refl _) _)
theorem heap_apart3 {w : World} {b c : Nat} {o : Obj} {p q r : Value} (h : w.heap[c]? = some o) (hc : c ≠ b) : (((w.setCell ⟨b, 0, none⟩ p).setCell ⟨b, 1, none⟩ q).setCell ⟨b, 2, none⟩ r).heap[c]? = some o := by
  simp [World.setCell, Array.getElem?_modify, hc.symm, h]
theorem T2x.set (h : T2x w b k tn u1 n1 S1 u2 n2 S2 w1) (T1 T2 : ByteArray) : T2x w b k tn u1 n1 T1 u2 n2 T2 ((((((w1.setCell ⟨b + 1, 0, none⟩ (.bool u1)).setCell ⟨b + 1, 1, none⟩ (.int .i64 n1)).setCell ⟨b + 1, 2, none⟩ (.string T1)).setCell ⟨b + 1 + 1, 0, none⟩ (.bool u2)).setCell ⟨b + 1 + 1, 1, none⟩ (.int .i64 n2)).setCell ⟨b + 1 + 1, 2, none⟩ (.string T2)) :=
  ⟨heap_apart3 (heap_apart3 h.td (by omega)) (by omega), tri_apart3 (tri_set3 h.ta) (by omega), tri_set3 (tri_apart3 h.tb (by omega)), below_set3 (below_set3 h.bel (by have := h.hb; omega) _ _ _) (by have := h.hb; omega) _ _ _, h.hb⟩
theorem T2x.start (w : World) (k : Int) (tn u1 : Bool) (n1 : Int) (S1 : ByteArray) (u2 : Bool) (n2 : Int) (S2 : ByteArray) : T2x w w.heap.size k tn u1 n1 S1 u2 n2 S2 (((w.alloc (.cells #[.int .i64 k, .bool tn] 33)).alloc (.cells #[.bool u1, .int .i64 n1, .string S1] 35)).alloc (.cells #[.bool u2, .int .i64 n2, .string S2] 35)) := by
  have x := TBx.start w k tn u1 n1 S1
  have t2 := heap_alloc_new ((w.alloc (.cells #[.int .i64 k, .bool tn] 33)).alloc (.cells #[.bool u1, .int .i64 n1, .string S1] 35)) (.cells #[.bool u2, .int .i64 n2, .string S2] 35)
  have y := x.alloc (.cells #[.bool u2, .int .i64 n2, .string S2] 35)
  exact ⟨y.td, y.ta, by simpa [Tri] using t2, y.bel, Nat.le_refl _⟩
end
end Go.Proofs.YthgmdlibnjkdoaaGreatDoor
