/- Words for memory of one's own: all blocks but one stand; a struct of three fields behind a pointer. -/
import Derived.Below
import Derived.Lib.OthersKept
import Derived.Deep.Draws
set_option linter.unusedVariables false
namespace Go.Ms
open Go.RowKit Go.Lib

/-- Every block that was there stands, but for block R. -/
structure Kept (R : Nat) (w w' : World) : Prop where
  os : w'.os = w.os
  tape : w'.tape = w.tape
  output : w'.output = w.output
  size : w.heap.size ≤ w'.heap.size
  block : ∀ k, k < w.heap.size → k ≠ R → w'.heap[k]? = w.heap[k]?

namespace Kept
variable {R B : Nat} {a w w' : World}
theorem refl (R : Nat) (w : World) : Kept R w w := ⟨rfl, rfl, rfl, Nat.le_refl _, fun _ _ _ => rfl⟩
theorem trans (h : Kept R a w) (k : Kept R w w') : Kept R a w' :=
  ⟨k.os.trans h.os, k.tape.trans h.tape, k.output.trans h.output, Nat.le_trans h.size k.size, fun i hi hr => (k.block i (Nat.lt_of_lt_of_le hi h.size) hr).trans (h.block i hi hr)⟩
theorem of_below (h : Below w.heap.size w w') : Kept R w w' := ⟨h.os, h.tape, h.output, h.size, fun k hk _ => h.block k hk⟩
theorem drewN (h : Kept R a w) (n : Nat) : Kept R a (w.drewN n) := ⟨h.os, h.tape, h.output, h.size, h.block⟩
theorem drew (h : Kept R a w) : Kept R a w.drew := ⟨h.os, h.tape, h.output, h.size, h.block⟩
theorem alloc (h : Kept R a w) (o : Obj) : Kept R a (w.alloc o) :=
  h.trans (of_below ((Below.refl _ w).alloc (Nat.le_refl _) o))
theorem setCell (h : Kept R a w) {p : Addr} (hp : p.block = R) (u : Value) : Kept R a (w.setCell p u) :=
  h.trans ⟨rfl, rfl, rfl, by simp [World.setCell], fun k _ hk => Below.heap_setCell _ _ _ _ (by omega)⟩
/-- Below a number up to R all stands. -/
theorem below (h : Kept R w w') (hR : B ≤ R) (hB : B ≤ w.heap.size) : Below B w w' := ⟨h.os, h.tape, h.output, h.size, fun k hk => h.block k (by omega) (by omega)⟩
end Kept

theorem below_drewN {B : Nat} {a w : World} (h : Below B a w) (n : Nat) : Below B a (w.drewN n) := ⟨h.os, h.tape, h.output, h.size, h.block⟩

/-- Block b is just three cells, not frozen. -/
def Tri (T b : Nat) (x y z : Value) (w : World) : Prop := w.heap[b]? = some (.cells #[x, y, z] T (0, 0))
namespace Tri
variable {T b R B : Nat} {x y z u : Value} {w w' : World}
theorem lt (h : Tri T b x y z w) : b < w.heap.size := by
  rcases Nat.lt_or_ge b w.heap.size with hl | hg
  · exact hl
  · unfold Tri at h; rw [Array.getElem?_eq_none hg] at h; cases h
theorem c0 (h : Tri T b x y z w) : w.cell? ⟨b, 0, none⟩ = some x := by rw [Lib.cell_of_heap h]; rfl
theorem c1 (h : Tri T b x y z w) : w.cell? ⟨b, 1, none⟩ = some y := by rw [Lib.cell_of_heap h]; rfl
theorem c2 (h : Tri T b x y z w) : w.cell? ⟨b, 2, none⟩ = some z := by rw [Lib.cell_of_heap h]; rfl
theorem fr (h : Tri T b x y z w) (i : Nat) : w.frozen? ⟨b, i, none⟩ = false := Lib.frozen_of_heap h i
theorem set1 (h : Tri T b x y z w) (u : Value) : Tri T b x u z (w.setCell ⟨b, 1, none⟩ u) := by
  unfold Tri at *; simp [World.setCell, Array.getElem?_modify, h]
theorem set2 (h : Tri T b x y z w) (u : Value) : Tri T b x y u (w.setCell ⟨b, 2, none⟩ u) := by
  unfold Tri at *; simp [World.setCell, Array.getElem?_modify, h]
theorem drew (h : Tri T b x y z w) : Tri T b x y z w.drew := h
theorem drewN (h : Tri T b x y z w) (n : Nat) : Tri T b x y z (w.drewN n) := h
theorem alloc (h : Tri T b x y z w) (o : Obj) : Tri T b x y z (w.alloc o) := (Below.heap_alloc w o b h.lt).trans h
theorem below (h : Tri T b x y z w) (hb : Below B w w') (hB : b < B) : Tri T b x y z w' := (hb.block b hB).trans h
theorem kept (h : Tri T b x y z w) (hb : Kept R w w') (hB : b ≠ R) : Tri T b x y z w' := (hb.block b h.lt hB).trans h
theorem others {e : TypeId} {b' : Nat} (h : Tri T b x y z w) (hb : OthersKept e (some b') w w') (hB : b ≠ b') (hT : T ≠ e) : Tri T b x y z w' :=
  hb b _ h (by intro e1; exact hB (Option.some.inj e1)) (by intro c fz e1; injection e1 with _ e2; exact hT e2)
end Tri

/-- What a reader's method leaves: its result; the reader's text, place and error; all else as it was. -/
structure RdP (T b : Nat) (s : ByteArray) (p : Nat) (e : Int) (v : Value) (w : World) (en : Ending) (w' : World) : Prop where
  ret : en = .returned v
  tri : Tri T b (.string s) (.int .i64 p) (.int .i64 e) w'
  kept : Kept b w w'

/-- A builder stands where its own block and its row stand. -/
theorem bld_keep {T e : TypeId} {B b : Nat} {bs : List Value} {w w' : World} (h : IsBuilderF T e B b bs w) (hk : ∀ (k : Nat) (c : Array Value) (t : TypeId) (fz : Nat × Nat), w.heap[k]? = some (Obj.cells c t fz) → (t = T ∨ t = e) → w'.heap[k]? = w.heap[k]?) :
    IsBuilderF T e B b bs w' := by
  have one : ∀ p, BuilderAtF T e B b p bs w → BuilderAtF T e B b p bs w' := by
    intro p ⟨hB, v, hb, hown, hne⟩
    refine ⟨hB, v, (hk b _ _ _ hb (.inl rfl)).trans hb, ⟨hown.1, ?_⟩, hne⟩
    rcases hown.2 with hn | ⟨g, cap, cur, fz, hv, hbg, hg, rest⟩
    · exact .inl hn
    · exact .inr ⟨g, cap, cur, fz, hv, hbg, (hk g _ _ _ hg (.inr rfl)).trans hg, rest⟩
  exact h.elim (fun x => .inl (one _ x)) (fun x => .inr (one _ x))
theorem bld_kept {T e : TypeId} {B b R : Nat} {bs : List Value} {w w' : World} (h : IsBuilderF T e B b bs w) (hk : Kept R w w') {T' : Nat} {x y z : Value} (hR : Tri T' R x y z w) (h1 : T' ≠ T) (h2 : T' ≠ e) : IsBuilderF T e B b bs w' := by
  refine bld_keep h (fun k c t fz hc ht => ?_)
  have hlt : k < w.heap.size := (Array.getElem?_eq_some_iff.1 hc).1
  refine hk.block k hlt (fun e1 => ?_)
  subst e1
  unfold Tri at hR
  rw [hc] at hR
  injection hR with hR
  injection hR with _ e2
  rcases ht with rfl | rfl
  · exact h1 e2.symm
  · exact h2 e2.symm
theorem bld_below {T e : TypeId} {B b : Nat} {bs : List Value} {w w' : World} (h : IsBuilderF T e B b bs w) (hk : Below w.heap.size w w') : IsBuilderF T e B b bs w' :=
  bld_keep h (fun k _ _ _ hc _ => hk.block k (Array.getElem?_eq_some_iff.1 hc).1)
end Go.Ms
