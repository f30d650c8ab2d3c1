/- Cells: what is taken off, whole. Cells: the laws' helpers; the chapter's examples. Cells: the chapter's examples. Cells: cut; three boxed cells. Cells: two and three boxed cells. Cells: a boxed type and a boxed cell; how long texts and bits are. Cells: a boxed type and two boxed cells. -/
import Derived.Test.YthlinmkengoliaaGreatDoorZEua
import Derived.Test.YthlinmkengoliaaGreatDoorZE20
import Derived.Deep.DeepCutAuto
import Derived.Deep.RegionWith
import Derived.Lib.ItoaLen
set_option linter.unusedVariables false
namespace Go.Proofs.YthlinmkengoliaaGreatDoor
open Go.RowKit Go.Ms Go.Lib
end Go.Proofs.YthlinmkengoliaaGreatDoor
namespace Go.Proofs.YthlinmkengoliaaGreatDoor
open Go.RowKit Go.Ms Go.Lib
end Go.Proofs.YthlinmkengoliaaGreatDoor
namespace Go.Proofs.YthlinmkengoliaaGreatDoor
open Go.RowKit Go.Ms Go.Lib
end Go.Proofs.YthlinmkengoliaaGreatDoor
namespace Go.Proofs.YthlinmkengoliaaGreatDoor
open Go.RowKit Go.Ms Go.Lib
end Go.Proofs.YthlinmkengoliaaGreatDoor
namespace Go.Proofs.YthlinmkengoliaaGreatDoor
open Go.RowKit Go.Ms Go.Lib
abbrev CellAt (b : Nat) (u : Bool) (n : Int) (S : ByteArray) (w : World) : Prop := Tri 35 b (.bool u) (.int .i64 n) (.string S) w
theorem tri_set3 {T b : Nat} {x y z p q r : Value} {w : World} (h : Tri T b x y z w) : Tri T b p q r (((w.setCell ⟨b, 0, none⟩ p).setCell ⟨b, 1, none⟩ q).setCell ⟨b, 2, none⟩ r) := by
 unfold Tri at *; simp [World.setCell, Array.getElem?_modify, h]
theorem tri_apart3 {T b c : Nat} {x y z p q r : Value} {w : World} (h : Tri T c x y z w) (hc : c ≠ b) : Tri T c x y z (((w.setCell ⟨b, 0, none⟩ p).setCell ⟨b, 1, none⟩ q).setCell ⟨b, 2, none⟩ r) := by
 unfold Tri at *; simp [World.setCell, Array.getElem?_modify, h, hc.symm]
theorem tri_step {T b : Nat} {x y z : Value} {w w' : World} (h : Tri T b x y z w) (hb : Below w.heap.size w w') : Tri T b x y z w' := h.below hb h.lt
theorem below_set3 {B b : Nat} {a w : World} (h : Below B a w) (hb : B ≤ b) (p q r : Value) : Below B a (((w.setCell ⟨b, 0, none⟩ p).setCell ⟨b, 1, none⟩ q).setCell ⟨b, 2, none⟩ r) :=
  ((h.setCell (p := ⟨b, 0, none⟩) hb _).setCell (p := ⟨b, 1, none⟩) hb _).setCell (p := ⟨b, 2, none⟩) hb _
structure Box3 (w : World) (k : Nat) (u1 : Bool) (n1 : Int) (S1 : ByteArray) (u2 : Bool) (n2 : Int) (S2 : ByteArray) (u3 : Bool) (n3 : Int) (S3 : ByteArray) (w1 : World) : Prop where
  ta : CellAt k u1 n1 S1 w1
  tb : CellAt (k + 1) u2 n2 S2 w1
  tc : CellAt (k + 1 + 1) u3 n3 S3 w1
  bel : Below w.heap.size w w1
  hk : w.heap.size ≤ k
section
variable {w w1 w2 : World} {k : Nat} {u1 u2 u3 : Bool} {n1 n2 n3 : Int} {S1 S2 S3 : ByteArray}
theorem Box3.step (h : Box3 w k u1 n1 S1 u2 n2 S2 u3 n3 S3 w1) (hb : Below w1.heap.size w1 w2) : Box3 w k u1 n1 S1 u2 n2 S2 u3 n3 S3 w2 :=
  ⟨tri_step h.ta hb, tri_step h.tb hb, tri_step h.tc hb, h.bel.trans (hb.mono h.bel.size), h.hk⟩
theorem Box3.drew (h : Box3 w k u1 n1 S1 u2 n2 S2 u3 n3 S3 w1) : Box3 w k u1 n1 S1 u2 n2 S2 u3 n3 S3 w1.drew := h.step (ms_drewN (Below.refl _ _) 1)
theorem Box3.set (h : Box3 w k u1 n1 S1 u2 n2 S2 u3 n3 S3 w1) (T1 T2 T3 : ByteArray) : Box3 w k u1 n1 T1 u2 n2 T2 u3 n3 T3 ((((((((((w1.setCell ⟨k, 0, none⟩ (.bool u1)).setCell ⟨k, 1, none⟩ (.int .i64 n1)).setCell ⟨k, 2, none⟩ (.string T1)).setCell ⟨k + 1, 0, none⟩ (.bool u2)).setCell ⟨k + 1, 1, none⟩ (.int .i64 n2)).setCell ⟨k + 1, 2, none⟩ (.string T2)).setCell ⟨k + 1 + 1, 0, none⟩ (.bool u3)).setCell ⟨k + 1 + 1, 1, none⟩ (.int .i64 n3)).setCell ⟨k + 1 + 1, 2, none⟩ (.string T3))) :=
  ⟨tri_apart3 (tri_apart3 (tri_set3 h.ta) (by omega)) (by omega), tri_apart3 (tri_set3 (tri_apart3 h.tb (by omega))) (by omega), tri_set3 (tri_apart3 (tri_apart3 h.tc (by omega)) (by omega)), below_set3 (below_set3 (below_set3 h.bel h.hk _ _ _) (by have := h.hk; omega) _ _ _) (by have := h.hk; omega) _ _ _, h.hk⟩
theorem Box3.start (w : World) (u1 : Bool) (n1 : Int) (S1 : ByteArray) (u2 : Bool) (n2 : Int) (S2 : ByteArray) (u3 : Bool) (n3 : Int) (S3 : ByteArray) :
    Box3 w w.heap.size u1 n1 S1 u2 n2 S2 u3 n3 S3 (((w.alloc (.cells #[.bool u1, .int .i64 n1, .string S1] 35)).alloc (.cells #[.bool u2, .int .i64 n2, .string S2] 35)).alloc (.cells #[.bool u3, .int .i64 n3, .string S3] 35)) := by
 have t1 : CellAt w.heap.size u1 n1 S1 (w.alloc (.cells #[.bool u1, .int .i64 n1, .string S1] 35)) := heap_alloc_new w _
 have t2 : CellAt (w.heap.size + 1) u2 n2 S2 ((w.alloc (.cells #[.bool u1, .int .i64 n1, .string S1] 35)).alloc (.cells #[.bool u2, .int .i64 n2, .string S2] 35)) := by
  have := heap_alloc_new (w.alloc (.cells #[.bool u1, .int .i64 n1, .string S1] 35)) (.cells #[.bool u2, .int .i64 n2, .string S2] 35)
  simpa [Tri] using this
 have t3 := heap_alloc_new ((w.alloc (.cells #[.bool u1, .int .i64 n1, .string S1] 35)).alloc (.cells #[.bool u2, .int .i64 n2, .string S2] 35)) (.cells #[.bool u3, .int .i64 n3, .string S3] 35); refine ⟨(t1.alloc _).alloc _, t2.alloc _, by simpa [Tri] using t3, (((Below.refl _ _).alloc (Nat.le_refl _) _).alloc (by simp) _).alloc (by simp; omega) _, Nat.le_refl _⟩
structure Cells3 (k : Nat) (u1 : Bool) (n1 : Int) (S1 : ByteArray) (u2 : Bool) (n2 : Int) (S2 : ByteArray) (u3 : Bool) (n3 : Int) (S3 : ByteArray) (w1 : World) : Prop where
  a0 : w1.cell? ⟨k, 0, none⟩ = some (.bool u1)
  a1 : w1.cell? ⟨k, 1, none⟩ = some (.int .i64 n1)
  a2 : w1.cell? ⟨k, 2, none⟩ = some (.string S1)
  b0 : w1.cell? ⟨k + 1, 0, none⟩ = some (.bool u2)
  b1 : w1.cell? ⟨k + 1, 1, none⟩ = some (.int .i64 n2)
  b2 : w1.cell? ⟨k + 1, 2, none⟩ = some (.string S2)
  c0 : w1.cell? ⟨k + 1 + 1, 0, none⟩ = some (.bool u3)
  c1 : w1.cell? ⟨k + 1 + 1, 1, none⟩ = some (.int .i64 n3)
  c2 : w1.cell? ⟨k + 1 + 1, 2, none⟩ = some (.string S3)
  fa0 : w1.frozen? ⟨k, 0, none⟩ = false
  fa1 : w1.frozen? ⟨k, 1, none⟩ = false
  fa2 : w1.frozen? ⟨k, 2, none⟩ = false
  fb0 : w1.frozen? ⟨k + 1, 0, none⟩ = false
  fb1 : w1.frozen? ⟨k + 1, 1, none⟩ = false
  fb2 : w1.frozen? ⟨k + 1, 2, none⟩ = false
  fc0 : w1.frozen? ⟨k + 1 + 1, 0, none⟩ = false
  fc1 : w1.frozen? ⟨k + 1 + 1, 1, none⟩ = false
  fc2 : w1.frozen? ⟨k + 1 + 1, 2, none⟩ = false
theorem Box3.cells (h : Box3 w k u1 n1 S1 u2 n2 S2 u3 n3 S3 w1) : Cells3 k u1 n1 S1 u2 n2 S2 u3 n3 S3 w1 :=
  ⟨h.ta.c0, h.ta.c1, h.ta.c2, h.tb.c0, h.tb.c1, h.tb.c2, h.tc.c0, h.tc.c1, h.tc.c2, h.ta.fr 0, h.ta.fr 1, h.ta.fr 2, h.tb.fr 0, h.tb.fr 1, h.tb.fr 2, h.tc.fr 0, h.tc.fr 1, h.tc.fr 2⟩
end
end Go.Proofs.YthlinmkengoliaaGreatDoor
namespace Go.Ms
open Go.Lib
theorem khex_len (l : Bs) : (hexD l).length = 2 * l.length + 1 := by
 have h : ∀ l : Bs, (l.flatMap hexb).length = 2 * l.length := by
  intro l
  induction l with
  | nil => rfl
  | cons c t ih => rw [List.flatMap_cons, List.length_append, ih, List.length_cons]; simp [hexb]; omega
 unfold hexD; rw [List.length_cons, h]
end Go.Ms
namespace Go.Proofs.YthlinmkengoliaaGreatDoor
open Go.RowKit Go.Ms Go.Lib
structure TBx (w : World) (b : Nat) (k : Int) (tn : Bool) (u : Bool) (n : Int) (S : ByteArray) (w1 : World) : Prop where
  td : w1.heap[b]? = some (.cells #[.int .i64 k, .bool tn] 33 (0, 0))
  ta : CellAt (b + 1) u n S w1
  bel : Below w.heap.size w w1
  hb : w.heap.size ≤ b
structure TCells (b : Nat) (k : Int) (tn : Bool) (u : Bool) (n : Int) (S : ByteArray) (w1 : World) : Prop where
  d0 : w1.cell? ⟨b, 0, none⟩ = some (.int .i64 k)
  d1 : w1.cell? ⟨b, 1, none⟩ = some (.bool tn)
  a0 : w1.cell? ⟨b + 1, 0, none⟩ = some (.bool u)
  a1 : w1.cell? ⟨b + 1, 1, none⟩ = some (.int .i64 n)
  a2 : w1.cell? ⟨b + 1, 2, none⟩ = some (.string S)
  f0 : w1.frozen? ⟨b + 1, 0, none⟩ = false
  f1 : w1.frozen? ⟨b + 1, 1, none⟩ = false
  f2 : w1.frozen? ⟨b + 1, 2, none⟩ = false
  l0 : b < w1.heap.size
  l1 : b + 1 < w1.heap.size
section
variable {w w1 w2 : World} {b : Nat} {k n : Int} {tn u : Bool} {S : ByteArray}
theorem TBx.cells (h : TBx w b k tn u n S w1) : TCells b k tn u n S w1 :=
  ⟨by rw [Lib.cell_of_heap h.td]; rfl, by rw [Lib.cell_of_heap h.td]; rfl, h.ta.c0, h.ta.c1, h.ta.c2, h.ta.fr 0, h.ta.fr 1, h.ta.fr 2, (Array.getElem?_eq_some_iff.1 h.td).1, h.ta.lt⟩
theorem TBx.step (h : TBx w b k tn u n S w1) (hb : Below w1.heap.size w1 w2) : TBx w b k tn u n S w2 :=
  ⟨by rw [hb.block _ (Array.getElem?_eq_some_iff.1 h.td).1]; exact h.td, tri_step h.ta hb, h.bel.trans (hb.mono h.bel.size), h.hb⟩
theorem TBx.drew (h : TBx w b k tn u n S w1) : TBx w b k tn u n S w1.drew := h.step (ms_drewN (Below.refl _ _) 1)
theorem TBx.alloc (h : TBx w b k tn u n S w1) (o : Obj) : TBx w b k tn u n S (w1.alloc o) := h.step ((Below.refl _ _).alloc (Nat.le_refl _) _)
theorem TBx.set (h : TBx w b k tn u n S w1) (T : ByteArray) : TBx w b k tn u n T (((w1.setCell ⟨b + 1, 0, none⟩ (.bool u)).setCell ⟨b + 1, 1, none⟩ (.int .i64 n)).setCell ⟨b + 1, 2, none⟩ (.string T)) :=
  ⟨by
    have hx := h.td
    simp [World.setCell, Array.getElem?_modify, hx], tri_set3 h.ta, below_set3 h.bel (by have := h.hb; omega) _ _ _, h.hb⟩
theorem TBx.start (w : World) (k : Int) (tn u : Bool) (n : Int) (S : ByteArray) : TBx w w.heap.size k tn u n S ((w.alloc (.cells #[.int .i64 k, .bool tn] 33)).alloc (.cells #[.bool u, .int .i64 n, .string S] 35)) := by
 have t2 := heap_alloc_new (w.alloc (.cells #[.int .i64 k, .bool tn] 33)) (.cells #[.bool u, .int .i64 n, .string S] 35); exact ⟨by rw [Lib.alloc_old _ _ _ (by simp)]; exact heap_alloc_new w _, by simpa [Tri] using t2, ((Below.refl _ _).alloc (Nat.le_refl _) _).alloc (by simp) _, Nat.le_refl _⟩
end
end Go.Proofs.YthlinmkengoliaaGreatDoor
namespace Go.Proofs.YthlinmkengoliaaGreatDoor
open Go.RowKit Go.Ms Go.Lib
structure T2x (w : World) (b : Nat) (k : Int) (tn : Bool) (u1 : Bool) (n1 : Int) (S1 : ByteArray) (u2 : Bool) (n2 : Int) (S2 : ByteArray) (w1 : World) : Prop where
  td : w1.heap[b]? = some (.cells #[.int .i64 k, .bool tn] 33 (0, 0))
  ta : CellAt (b + 1) u1 n1 S1 w1
  tb : CellAt (b + 1 + 1) u2 n2 S2 w1
  bel : Below w.heap.size w w1
  hb : w.heap.size ≤ b
structure T2Cells (b : Nat) (k : Int) (tn : Bool) (u1 : Bool) (n1 : Int) (S1 : ByteArray) (u2 : Bool) (n2 : Int) (S2 : ByteArray) (w1 : World) : Prop where
  d0 : w1.cell? ⟨b, 0, none⟩ = some (.int .i64 k)
  d1 : w1.cell? ⟨b, 1, none⟩ = some (.bool tn)
  a0 : w1.cell? ⟨b + 1, 0, none⟩ = some (.bool u1)
  a1 : w1.cell? ⟨b + 1, 1, none⟩ = some (.int .i64 n1)
  a2 : w1.cell? ⟨b + 1, 2, none⟩ = some (.string S1)
  c0 : w1.cell? ⟨b + 1 + 1, 0, none⟩ = some (.bool u2)
  c1 : w1.cell? ⟨b + 1 + 1, 1, none⟩ = some (.int .i64 n2)
  c2 : w1.cell? ⟨b + 1 + 1, 2, none⟩ = some (.string S2)
  f0 : w1.frozen? ⟨b + 1, 0, none⟩ = false
  f1 : w1.frozen? ⟨b + 1, 1, none⟩ = false
  f2 : w1.frozen? ⟨b + 1, 2, none⟩ = false
  h0 : w1.frozen? ⟨b + 1 + 1, 0, none⟩ = false
  h1 : w1.frozen? ⟨b + 1 + 1, 1, none⟩ = false
  h2 : w1.frozen? ⟨b + 1 + 1, 2, none⟩ = false
section
variable {w w1 w2 : World} {b : Nat} {k n1 n2 : Int} {tn u1 u2 : Bool} {S1 S2 : ByteArray}
theorem T2x.cells (h : T2x w b k tn u1 n1 S1 u2 n2 S2 w1) : T2Cells b k tn u1 n1 S1 u2 n2 S2 w1 :=
  ⟨by rw [Lib.cell_of_heap h.td]; rfl, by rw [Lib.cell_of_heap h.td]; rfl, h.ta.c0, h.ta.c1, h.ta.c2, h.tb.c0, h.tb.c1, h.tb.c2, h.ta.fr 0, h.ta.fr 1, h.ta.fr 2, h.tb.fr 0, h.tb.fr 1, h.tb.fr 2⟩
theorem T2x.step (h : T2x w b k tn u1 n1 S1 u2 n2 S2 w1) (hb : Below w1.heap.size w1 w2) : T2x w b k tn u1 n1 S1 u2 n2 S2 w2 :=
  ⟨by rw [hb.block _ (Array.getElem?_eq_some_iff.1 h.td).1]; exact h.td, tri_step h.ta hb, tri_step h.tb hb, h.bel.trans (hb.mono h.bel.size), h.hb⟩
theorem T2x.drew (h : T2x w b k tn u1 n1 S1 u2 n2 S2 w1) : T2x w b k tn u1 n1 S1 u2 n2 S2 w1.drew := h.step (ms_drewN (Below.refl _ _) 1)
theorem T2x.alloc (h : T2x w b k tn u1 n1 S1 u2 n2 S2 w1) (o : Obj) : T2x w b k tn u1 n1 S1 u2 n2 S2 (w1.alloc o) := h.step ((Below.refl _ _).alloc (Nat.le_refl _) _)
theorem heap_apart3 {w : World} {b c : Nat} {o : Obj} {p q r : Value} (h : w.heap[c]? = some o) (hc : c ≠ b) : (((w.setCell ⟨b, 0, none⟩ p).setCell ⟨b, 1, none⟩ q).setCell ⟨b, 2, none⟩ r).heap[c]? = some o := by
 simp [World.setCell, Array.getElem?_modify, hc.symm, h]
theorem T2x.set (h : T2x w b k tn u1 n1 S1 u2 n2 S2 w1) (T1 T2 : ByteArray) : T2x w b k tn u1 n1 T1 u2 n2 T2 ((((((w1.setCell ⟨b + 1, 0, none⟩ (.bool u1)).setCell ⟨b + 1, 1, none⟩ (.int .i64 n1)).setCell ⟨b + 1, 2, none⟩ (.string T1)).setCell ⟨b + 1 + 1, 0, none⟩ (.bool u2)).setCell ⟨b + 1 + 1, 1, none⟩ (.int .i64 n2)).setCell ⟨b + 1 + 1, 2, none⟩ (.string T2)) :=
  ⟨heap_apart3 (heap_apart3 h.td (by omega)) (by omega), tri_apart3 (tri_set3 h.ta) (by omega), tri_set3 (tri_apart3 h.tb (by omega)), below_set3 (below_set3 h.bel (by have := h.hb; omega) _ _ _) (by have := h.hb; omega) _ _ _, h.hb⟩
theorem T2x.start (w : World) (k : Int) (tn u1 : Bool) (n1 : Int) (S1 : ByteArray) (u2 : Bool) (n2 : Int) (S2 : ByteArray) : T2x w w.heap.size k tn u1 n1 S1 u2 n2 S2 (((w.alloc (.cells #[.int .i64 k, .bool tn] 33)).alloc (.cells #[.bool u1, .int .i64 n1, .string S1] 35)).alloc (.cells #[.bool u2, .int .i64 n2, .string S2] 35)) := by
 have x := TBx.start w k tn u1 n1 S1; have t2 := heap_alloc_new ((w.alloc (.cells #[.int .i64 k, .bool tn] 33)).alloc (.cells #[.bool u1, .int .i64 n1, .string S1] 35)) (.cells #[.bool u2, .int .i64 n2, .string S2] 35); have y := x.alloc (.cells #[.bool u2, .int .i64 n2, .string S2] 35); exact ⟨y.td, y.ta, by simpa [Tri] using t2, y.bel, Nat.le_refl _⟩
end
end Go.Proofs.YthlinmkengoliaaGreatDoor
