/- Cells: how two stand. Cells: Compare. Cells: what is taken off: words. -/
import Derived.Test.YthlinmkengoliaaGreatDoorZEd
import Derived.Test.YthlinmkengoliaaGreatDoorZA
import Derived.Deep.RegionHeld3
set_option linter.unusedVariables false
namespace Go.Proofs.YthlinmkengoliaaGreatDoor
open Go.RowKit Go.Ms Go.Lib
end Go.Proofs.YthlinmkengoliaaGreatDoor
namespace Go.Proofs.YthlinmkengoliaaGreatDoor
open Go.RowKit Go.Ms Go.Lib
end Go.Proofs.YthlinmkengoliaaGreatDoor
namespace Go.Proofs.YthlinmkengoliaaGreatDoor
open Go.RowKit Go.Ms Go.Lib
def ResB (w w' : World) : Prop := ∃ x y z, w'.heap[w.heap.size + 1]? = some (.cells #[x, y, z] 35 (0, 0))
def UnS (w : World) (k : Int) (tn : Bool) (w' : World) : Prop :=
  (w'.cell? ⟨w.heap.size, 0, none⟩ = some (.int .i64 k) ∧ w'.cell? ⟨w.heap.size, 1, none⟩ = some (.bool tn)) ∧ Below w.heap.size w w' ∧ ResB w w'
theorem UnS.of {w w1 : World} {k : Int} {tn nu : Bool} {n : Int} {S : ByteArray} {T1 : TypeId} (h : Box2 w w1 #[.int .i64 k, .bool tn] #[.bool nu, .int .i64 n, .string S] T1 35) : UnS w k tn w1 :=
  ⟨⟨by rw [Lib.cell_of_heap h.b1]; rfl, by rw [Lib.cell_of_heap h.b1]; rfl⟩, h.bel, _, _, _, h.b2⟩
theorem UnS.step {w w1 w2 : World} {k : Int} {tn : Bool} (h : UnS w k tn w1) (hb : Below w1.heap.size w1 w2) : UnS w k tn w2 := by
 obtain ⟨⟨a, b⟩, f, x, y, z, r⟩ := h; exact ⟨⟨by rw [hb.cell (cell_lt a)]; exact a, by rw [hb.cell (cell_lt b)]; exact b⟩, f.trans (hb.mono f.size), x, y, z, by rw [hb.block _ (Array.getElem?_eq_some_iff.1 r).1]; exact r⟩
theorem UnS.drew {w w1 : World} {k : Int} {tn : Bool} (h : UnS w k tn w1) : UnS w k tn w1.drew := h.step (ms_drewN (Below.refl _ _) 1)
theorem blk_set3 {w : World} {b : Nat} {T : TypeId} {x y z : Value} (h : w.heap[b]? = some (.cells #[x, y, z] T (0, 0))) (p q r : Value) :
    (((w.setCell ⟨b, 0, none⟩ p).setCell ⟨b, 1, none⟩ q).setCell ⟨b, 2, none⟩ r).heap[b]? = some (.cells #[p, q, r] T (0, 0)) := by
 simp [World.setCell, Array.getElem?_modify, h]
theorem cell_set3 {w : World} {b c : Nat} {o : Nat} (hc : c ≠ b) (p q r : Value) :
    (((w.setCell ⟨b, 0, none⟩ p).setCell ⟨b, 1, none⟩ q).setCell ⟨b, 2, none⟩ r).cell? ⟨c, o, none⟩ = w.cell? ⟨c, o, none⟩ := by
 apply World.cell?_of_block
 simp [World.setCell, Array.getElem?_modify, hc.symm]
theorem UnS.set {w w1 : World} {k : Int} {tn : Bool} (h : UnS w k tn w1) (p q r : Value) : UnS w k tn (((w1.setCell ⟨w.heap.size + 1, 0, none⟩ p).setCell ⟨w.heap.size + 1, 1, none⟩ q).setCell ⟨w.heap.size + 1, 2, none⟩ r) := by
 obtain ⟨⟨a, b⟩, f, x, y, z, hr⟩ := h; exact ⟨⟨by rw [cell_set3 (by omega)]; exact a, by rw [cell_set3 (by omega)]; exact b⟩, ((f.setCell (p := ⟨_, _, _⟩) (by simp) _).setCell (p := ⟨_, _, _⟩) (by simp) _).setCell (p := ⟨_, _, _⟩) (by simp) _, p, q, r, blk_set3 hr p q r⟩
structure Res3x (w w' : World) (x y z : Value) : Prop where
  c0 : w'.cell? ⟨w.heap.size + 1, 0, none⟩ = some x
  c1 : w'.cell? ⟨w.heap.size + 1, 1, none⟩ = some y
  c2 : w'.cell? ⟨w.heap.size + 1, 2, none⟩ = some z
  f0 : w'.frozen? ⟨w.heap.size + 1, 0, none⟩ = false
  f1 : w'.frozen? ⟨w.heap.size + 1, 1, none⟩ = false
  f2 : w'.frozen? ⟨w.heap.size + 1, 2, none⟩ = false
theorem res3x_of {w w' : World} {x y z : Value} (h : w'.heap[w.heap.size + 1]? = some (.cells #[x, y, z] 35 (0, 0))) : Res3x w w' x y z :=
  ⟨by rw [Lib.cell_of_heap h]; rfl, by rw [Lib.cell_of_heap h]; rfl, by rw [Lib.cell_of_heap h]; rfl, Lib.frozen_of_heap h 0, Lib.frozen_of_heap h 1, Lib.frozen_of_heap h 2⟩
theorem UnS.res {w w1 : World} {k : Int} {tn : Bool} (h : UnS w k tn w1) : ∃ x y z, Res3x w w1 x y z := by
 obtain ⟨_, _, x, y, z, hr⟩ := h; exact ⟨x, y, z, res3x_of hr⟩
end Go.Proofs.YthlinmkengoliaaGreatDoor
