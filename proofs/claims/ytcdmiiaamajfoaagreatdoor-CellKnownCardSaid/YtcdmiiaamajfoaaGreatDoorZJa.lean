/- CellKnown: its tables. CellKnown: the walk. -/
import Derived.Test.YtcdmiiaamajfoaaGreatDoorZHc
import Derived.Test.YtcdmiiaamajfoaaGreatDoorZGa
import Derived.Test.YtcdmiiaamajfoaaGreatDoorZGb
import Derived.Test.YtcdmiiaamajfoaaGreatDoorZHb
import Derived.Test.YtcdmiiaamajfoaaGreatDoorZBrg
import Derived.Test.YtcdmiiaamajfoaaGreatDoorZRel
set_option linter.unusedVariables false
set_option linter.unusedSimpArgs false
namespace Go.Proofs.YtcdmiiaamajfoaaGreatDoor
open Go.RowKit Go.Ms Go.Lib
def ktexts : List ByteArray := [⟨#[]⟩, ⟨#[110, 117, 108, 108]⟩, ⟨#[116, 114, 117, 101]⟩, ⟨#[102, 97, 108, 115, 101]⟩, ⟨#[84, 114, 117, 101]⟩, ⟨#[48]⟩, ⟨#[45, 48]⟩, ⟨#[48, 48]⟩, ⟨#[49]⟩, ⟨#[45, 49]⟩, ⟨#[43, 49]⟩, ⟨#[50, 49, 52, 55, 52, 56, 51, 54, 52, 55]⟩, ⟨#[50, 49, 52, 55, 52, 56, 51, 54, 52, 56]⟩, ⟨#[45, 50, 49, 52, 55, 52, 56, 51, 54, 52, 56]⟩, ⟨#[45, 50, 49, 52, 55, 52, 56, 51, 54, 52, 57]⟩, ⟨#[57, 50, 50, 51, 51, 55, 50, 48, 51, 54, 56, 53, 52, 55, 55, 53, 56, 48, 55]⟩, ⟨#[57, 50, 50, 51, 51, 55, 50, 48, 51, 54, 56, 53, 52, 55, 55, 53, 56, 48, 56]⟩, ⟨#[45, 57, 50, 50, 51, 51, 55, 50, 48, 51, 54, 56, 53, 52, 55, 55, 53, 56, 48, 56]⟩, ⟨#[45, 57, 50, 50, 51, 51, 55, 50, 48, 51, 54, 56, 53, 52, 55, 55, 53, 56, 48, 57]⟩, ⟨#[57, 57, 57, 57, 57, 57, 57, 57, 57, 57, 57, 57, 57, 57, 57, 57, 57, 57, 57, 57]⟩, ⟨#[120]⟩, ⟨#[120, 48]⟩, ⟨#[120, 48, 48]⟩, ⟨#[120, 97, 98]⟩, ⟨#[120, 65, 66]⟩, ⟨#[120, 103, 48]⟩, ⟨#[34, 34]⟩, ⟨#[34, 97, 34]⟩, ⟨#[34, 97]⟩, ⟨#[34, 92, 117, 48, 48, 54, 49, 34]⟩, ⟨#[34, 92, 110, 34]⟩, ⟨#[34, 92, 117, 48, 48, 48, 97, 34]⟩, ⟨#[34, 92, 47, 34]⟩, ⟨#[34, 97, 34, 98]⟩, ⟨#[97]⟩, ⟨#[0, 0]⟩, ⟨#[1]⟩, ⟨#[1, 1]⟩, ⟨#[2]⟩, ⟨#[0]⟩, ⟨#[0, 255, 0, 0]⟩, ⟨#[1, 0, 0]⟩, ⟨#[128, 0, 0, 0, 127, 255, 255, 255]⟩, ⟨#[128, 0, 0, 0, 128, 0, 0, 0]⟩, ⟨#[127, 255, 255, 255, 128, 0, 0, 0]⟩, ⟨#[127, 255, 255, 255, 127, 255, 255, 255]⟩, ⟨#[1, 128, 0, 0, 0, 0, 0, 0]⟩]
def kcells (A B C : ByteArray) : List (Bool × Int × ByteArray) := [(false, 0, ⟨#[]⟩), (true, 0, ⟨#[]⟩), (true, 1, ⟨#[]⟩), (true, 0, ⟨#[97]⟩), (false, 1, ⟨#[]⟩), (false, 2, ⟨#[]⟩), (false, -1, ⟨#[]⟩), (false, 2147483647, ⟨#[]⟩), (false, 2147483648, ⟨#[]⟩), (false, -2147483648, ⟨#[]⟩), (false, -2147483649, ⟨#[]⟩), (false, -9223372036854775808, ⟨#[]⟩), (false, 9223372036854775807, ⟨#[]⟩), (false, 0, ⟨#[97]⟩), (false, 0, ⟨#[255]⟩), (false, 0, ⟨#[0]⟩), (false, 0, ⟨#[195, 169]⟩), (false, 1, ⟨#[97]⟩), (false, 0, A), (false, 0, B), (false, 0, C)]
def kcellRow (l : List (Bool × Int × ByteArray)) : List Value := l.flatMap fun c => [.bool c.1, .int .i64 c.2.1, .string c.2.2]
theorem krow_cell (w : World) (e : TypeId) (vs : List Value) (i : Nat) (h : i < vs.length) : (w.alloc (.cells vs.toArray e)).cell? ⟨w.heap.size, i, none⟩ = some vs[i] := by
  rw [Lib.cell_of_heap (heap_alloc_new w _)]
  simp [h]
theorem ktexts_size : ∀ i : Fin 47, (ktexts.getD i.val ByteArray.empty).size ≤ 20 := by decide +kernel
theorem ktexts_cell (w : World) (e : TypeId) (i : Nat) (h : i < 47) : (w.alloc (.cells (ktexts.map Value.string).toArray e)).cell? ⟨w.heap.size, i, none⟩ = some (.string (ktexts.getD i ByteArray.empty)) := by
  rw [krow_cell w e (ktexts.map Value.string) i (by simpa [ktexts] using h)]
  simp [List.getD_eq_getElem?_getD, show i < ktexts.length by simpa [ktexts] using h]
theorem kcells_cell (w : World) (e : TypeId) (A B C : ByteArray) : ∀ (i : Nat) (h : i < 21), (w.alloc (.cells (kcellRow (kcells A B C)).toArray e)).cell? ⟨w.heap.size, 3 * i, none⟩ = some (.bool ((kcells A B C).getD i (false, 0, ⟨#[]⟩)).1) ∧ (w.alloc (.cells (kcellRow (kcells A B C)).toArray e)).cell? ⟨w.heap.size, 3 * i + 1, none⟩ = some (.int .i64 ((kcells A B C).getD i (false, 0, ⟨#[]⟩)).2.1) ∧ (w.alloc (.cells (kcellRow (kcells A B C)).toArray e)).cell? ⟨w.heap.size, 3 * i + 2, none⟩ = some (.string ((kcells A B C).getD i (false, 0, ⟨#[]⟩)).2.2)
  | 0, _ => ⟨by rw [Lib.cell_of_heap (heap_alloc_new w _)]; rfl, by rw [Lib.cell_of_heap (heap_alloc_new w _)]; rfl, by rw [Lib.cell_of_heap (heap_alloc_new w _)]; rfl⟩
  | 1, _ => ⟨by rw [Lib.cell_of_heap (heap_alloc_new w _)]; rfl, by rw [Lib.cell_of_heap (heap_alloc_new w _)]; rfl, by rw [Lib.cell_of_heap (heap_alloc_new w _)]; rfl⟩
  | 2, _ => ⟨by rw [Lib.cell_of_heap (heap_alloc_new w _)]; rfl, by rw [Lib.cell_of_heap (heap_alloc_new w _)]; rfl, by rw [Lib.cell_of_heap (heap_alloc_new w _)]; rfl⟩
  | 3, _ => ⟨by rw [Lib.cell_of_heap (heap_alloc_new w _)]; rfl, by rw [Lib.cell_of_heap (heap_alloc_new w _)]; rfl, by rw [Lib.cell_of_heap (heap_alloc_new w _)]; rfl⟩
  | 4, _ => ⟨by rw [Lib.cell_of_heap (heap_alloc_new w _)]; rfl, by rw [Lib.cell_of_heap (heap_alloc_new w _)]; rfl, by rw [Lib.cell_of_heap (heap_alloc_new w _)]; rfl⟩
  | 5, _ => ⟨by rw [Lib.cell_of_heap (heap_alloc_new w _)]; rfl, by rw [Lib.cell_of_heap (heap_alloc_new w _)]; rfl, by rw [Lib.cell_of_heap (heap_alloc_new w _)]; rfl⟩
  | 6, _ => ⟨by rw [Lib.cell_of_heap (heap_alloc_new w _)]; rfl, by rw [Lib.cell_of_heap (heap_alloc_new w _)]; rfl, by rw [Lib.cell_of_heap (heap_alloc_new w _)]; rfl⟩
  | 7, _ => ⟨by rw [Lib.cell_of_heap (heap_alloc_new w _)]; rfl, by rw [Lib.cell_of_heap (heap_alloc_new w _)]; rfl, by rw [Lib.cell_of_heap (heap_alloc_new w _)]; rfl⟩
  | 8, _ => ⟨by rw [Lib.cell_of_heap (heap_alloc_new w _)]; rfl, by rw [Lib.cell_of_heap (heap_alloc_new w _)]; rfl, by rw [Lib.cell_of_heap (heap_alloc_new w _)]; rfl⟩
  | 9, _ => ⟨by rw [Lib.cell_of_heap (heap_alloc_new w _)]; rfl, by rw [Lib.cell_of_heap (heap_alloc_new w _)]; rfl, by rw [Lib.cell_of_heap (heap_alloc_new w _)]; rfl⟩
  | 10, _ => ⟨by rw [Lib.cell_of_heap (heap_alloc_new w _)]; rfl, by rw [Lib.cell_of_heap (heap_alloc_new w _)]; rfl, by rw [Lib.cell_of_heap (heap_alloc_new w _)]; rfl⟩
  | 11, _ => ⟨by rw [Lib.cell_of_heap (heap_alloc_new w _)]; rfl, by rw [Lib.cell_of_heap (heap_alloc_new w _)]; rfl, by rw [Lib.cell_of_heap (heap_alloc_new w _)]; rfl⟩
  | 12, _ => ⟨by rw [Lib.cell_of_heap (heap_alloc_new w _)]; rfl, by rw [Lib.cell_of_heap (heap_alloc_new w _)]; rfl, by rw [Lib.cell_of_heap (heap_alloc_new w _)]; rfl⟩
  | 13, _ => ⟨by rw [Lib.cell_of_heap (heap_alloc_new w _)]; rfl, by rw [Lib.cell_of_heap (heap_alloc_new w _)]; rfl, by rw [Lib.cell_of_heap (heap_alloc_new w _)]; rfl⟩
  | 14, _ => ⟨by rw [Lib.cell_of_heap (heap_alloc_new w _)]; rfl, by rw [Lib.cell_of_heap (heap_alloc_new w _)]; rfl, by rw [Lib.cell_of_heap (heap_alloc_new w _)]; rfl⟩
  | 15, _ => ⟨by rw [Lib.cell_of_heap (heap_alloc_new w _)]; rfl, by rw [Lib.cell_of_heap (heap_alloc_new w _)]; rfl, by rw [Lib.cell_of_heap (heap_alloc_new w _)]; rfl⟩
  | 16, _ => ⟨by rw [Lib.cell_of_heap (heap_alloc_new w _)]; rfl, by rw [Lib.cell_of_heap (heap_alloc_new w _)]; rfl, by rw [Lib.cell_of_heap (heap_alloc_new w _)]; rfl⟩
  | 17, _ => ⟨by rw [Lib.cell_of_heap (heap_alloc_new w _)]; rfl, by rw [Lib.cell_of_heap (heap_alloc_new w _)]; rfl, by rw [Lib.cell_of_heap (heap_alloc_new w _)]; rfl⟩
  | 18, _ => ⟨by rw [Lib.cell_of_heap (heap_alloc_new w _)]; rfl, by rw [Lib.cell_of_heap (heap_alloc_new w _)]; rfl, by rw [Lib.cell_of_heap (heap_alloc_new w _)]; rfl⟩
  | 19, _ => ⟨by rw [Lib.cell_of_heap (heap_alloc_new w _)]; rfl, by rw [Lib.cell_of_heap (heap_alloc_new w _)]; rfl, by rw [Lib.cell_of_heap (heap_alloc_new w _)]; rfl⟩
  | 20, _ => ⟨by rw [Lib.cell_of_heap (heap_alloc_new w _)]; rfl, by rw [Lib.cell_of_heap (heap_alloc_new w _)]; rfl, by rw [Lib.cell_of_heap (heap_alloc_new w _)]; rfl⟩
  | n + 21, h => absurd h (by omega)
theorem kcells_bd (A B C : ByteArray) : ∀ (i : Nat), (Lit.int .i64 ((kcells A B C).getD i (false, 0, ⟨#[]⟩)).2.1).wf = true := by
  intro i
  match i with
  | 0 => rfl
  | 1 => rfl
  | 2 => rfl
  | 3 => rfl
  | 4 => rfl
  | 5 => rfl
  | 6 => rfl
  | 7 => rfl
  | 8 => rfl
  | 9 => rfl
  | 10 => rfl
  | 11 => rfl
  | 12 => rfl
  | 13 => rfl
  | 14 => rfl
  | 15 => rfl
  | 16 => rfl
  | 17 => rfl
  | 18 => rfl
  | 19 => rfl
  | 20 => rfl
  | n + 21 => rfl
end Go.Proofs.YtcdmiiaamajfoaaGreatDoor
set_option linter.unusedSimpArgs false
namespace Go.Proofs.YtcdmiiaamajfoaaGreatDoor
open Go.RowKit Go.Ms Go.Lib Go.Rel
theorem keepK {V U w1 : World} {q i b : Nat} {X : ByteArray} {n : Int} {tn : Bool} {w2 : World} (h : (w1.cell? ⟨q, i, none⟩ = some (.string X) ∧ w1.cell? ⟨b, 0, none⟩ = some (.int .i64 n) ∧ w1.cell? ⟨b, 1, none⟩ = some (.bool tn)) ∧ Below V.heap.size V w1 ∧ Below U.heap.size U w1) (hb : Below w1.heap.size w1 w2) : (w2.cell? ⟨q, i, none⟩ = some (.string X) ∧ w2.cell? ⟨b, 0, none⟩ = some (.int .i64 n) ∧ w2.cell? ⟨b, 1, none⟩ = some (.bool tn)) ∧ Below V.heap.size V w2 ∧ Below U.heap.size U w2 :=
  ⟨⟨by rw [hb.cell (cell_lt h.1.1)]; exact h.1.1, by rw [hb.cell (cell_lt h.1.2.1)]; exact h.1.2.1, by rw [hb.cell (cell_lt h.1.2.2)]; exact h.1.2.2⟩, h.2.1.trans (hb.mono h.2.1.size), h.2.2.trans (hb.mono h.2.2.size)⟩
theorem endV {V U w1 : World} {q i b : Nat} {X : ByteArray} {n : Int} {tn : Bool} (h : (w1.cell? ⟨q, i, none⟩ = some (.string X) ∧ w1.cell? ⟨b, 0, none⟩ = some (.int .i64 n) ∧ w1.cell? ⟨b, 1, none⟩ = some (.bool tn)) ∧ Below V.heap.size V w1 ∧ Below U.heap.size U w1) : Below V.heap.size V w1 := h.2.1
theorem endU {V U w1 : World} {q i b : Nat} {X : ByteArray} {n : Int} {tn : Bool} (h : (w1.cell? ⟨q, i, none⟩ = some (.string X) ∧ w1.cell? ⟨b, 0, none⟩ = some (.int .i64 n) ∧ w1.cell? ⟨b, 1, none⟩ = some (.bool tn)) ∧ Below V.heap.size V w1 ∧ Below U.heap.size U w1) : Below U.heap.size U w1 := h.2.2
set_option maxRecDepth 100000 in
set_option maxHeartbeats 8000000 in
theorem cellKnown_walk (w : World) (hE : Env w) :
    Calls Tryz.prog 4 #[] w fun e w' => e = .returned (.bool true) ∧ Below w.heap.size w w' := by
  have hcell := fun i h => ktexts_cell w 9 i h
  have HC := Lib.hid hcell
  have hB0 : Below w.heap.size w (w.alloc (.cells (ktexts.map Value.string).toArray 9)) := (Below.refl _ _).alloc (Nat.le_refl _) _
  have hsz : (w.alloc (.cells (ktexts.map Value.string).toArray 9)).heap.size = w.heap.size + 1 := by simp
  have HSZ := Lib.hid hsz
  clear hcell hsz
  obtain ⟨W, hW⟩ : ∃ W, w.alloc (.cells (ktexts.map Value.string).toArray 9) = W := ⟨_, rfl⟩
  rw [hW] at HC HSZ hB0
  have hW2 : w.alloc (.cells #[.string ⟨#[]⟩, .string ⟨#[110, 117, 108, 108]⟩, .string ⟨#[116, 114, 117, 101]⟩, .string ⟨#[102, 97, 108, 115, 101]⟩, .string ⟨#[84, 114, 117, 101]⟩, .string ⟨#[48]⟩, .string ⟨#[45, 48]⟩, .string ⟨#[48, 48]⟩, .string ⟨#[49]⟩, .string ⟨#[45, 49]⟩, .string ⟨#[43, 49]⟩, .string ⟨#[50, 49, 52, 55, 52, 56, 51, 54, 52, 55]⟩, .string ⟨#[50, 49, 52, 55, 52, 56, 51, 54, 52, 56]⟩, .string ⟨#[45, 50, 49, 52, 55, 52, 56, 51, 54, 52, 56]⟩, .string ⟨#[45, 50, 49, 52, 55, 52, 56, 51, 54, 52, 57]⟩, .string ⟨#[57, 50, 50, 51, 51, 55, 50, 48, 51, 54, 56, 53, 52, 55, 55, 53, 56, 48, 55]⟩, .string ⟨#[57, 50, 50, 51, 51, 55, 50, 48, 51, 54, 56, 53, 52, 55, 55, 53, 56, 48, 56]⟩, .string ⟨#[45, 57, 50, 50, 51, 51, 55, 50, 48, 51, 54, 56, 53, 52, 55, 55, 53, 56, 48, 56]⟩, .string ⟨#[45, 57, 50, 50, 51, 51, 55, 50, 48, 51, 54, 56, 53, 52, 55, 55, 53, 56, 48, 57]⟩, .string ⟨#[57, 57, 57, 57, 57, 57, 57, 57, 57, 57, 57, 57, 57, 57, 57, 57, 57, 57, 57, 57]⟩, .string ⟨#[120]⟩, .string ⟨#[120, 48]⟩, .string ⟨#[120, 48, 48]⟩, .string ⟨#[120, 97, 98]⟩, .string ⟨#[120, 65, 66]⟩, .string ⟨#[120, 103, 48]⟩, .string ⟨#[34, 34]⟩, .string ⟨#[34, 97, 34]⟩, .string ⟨#[34, 97]⟩, .string ⟨#[34, 92, 117, 48, 48, 54, 49, 34]⟩, .string ⟨#[34, 92, 110, 34]⟩, .string ⟨#[34, 92, 117, 48, 48, 48, 97, 34]⟩, .string ⟨#[34, 92, 47, 34]⟩, .string ⟨#[34, 97, 34, 98]⟩, .string ⟨#[97]⟩, .string ⟨#[0, 0]⟩, .string ⟨#[1]⟩, .string ⟨#[1, 1]⟩, .string ⟨#[2]⟩, .string ⟨#[0]⟩, .string ⟨#[0, 255, 0, 0]⟩, .string ⟨#[1, 0, 0]⟩, .string ⟨#[128, 0, 0, 0, 127, 255, 255, 255]⟩, .string ⟨#[128, 0, 0, 0, 128, 0, 0, 0]⟩, .string ⟨#[127, 255, 255, 255, 128, 0, 0, 0]⟩, .string ⟨#[127, 255, 255, 255, 127, 255, 255, 255]⟩, .string ⟨#[1, 128, 0, 0, 0, 0, 0, 0]⟩] 9) = W := hW
  have HW := Lib.hid hW2
  have HE := Lib.hid (hE.below hB0)
  have HB0 := Lib.hid hB0
  have c1 := fun w' => Tryz.strings_Repeat_main ⟨#[97]⟩ 1024 w' (by omega) (by omega) (by decide) (by decide)
  have c2 := fun w' => Tryz.strings_Repeat_main ⟨#[97]⟩ 1025 w' (by omega) (by omega) (by decide) (by decide)
  have c3 := fun w' => Tryz.strings_Repeat_main ⟨#[0]⟩ 1024 w' (by omega) (by omega) (by decide) (by decide)
  have l1 : (⟨(Lib.repeatL (⟨#[97]⟩ : ByteArray).data.toList 1024).toArray⟩ : ByteArray).size = 1024 := by
    show (Lib.repeatL (⟨#[97]⟩ : ByteArray).data.toList 1024).toArray.size = 1024
    rw [List.size_toArray, Lib.repeatL_length]; rfl
  have l2 : (⟨(Lib.repeatL (⟨#[97]⟩ : ByteArray).data.toList 1025).toArray⟩ : ByteArray).size = 1025 := by
    show (Lib.repeatL (⟨#[97]⟩ : ByteArray).data.toList 1025).toArray.size = 1025
    rw [List.size_toArray, Lib.repeatL_length]; rfl
  have l3 : (⟨(Lib.repeatL (⟨#[0]⟩ : ByteArray).data.toList 1024).toArray⟩ : ByteArray).size = 1024 := by
    show (Lib.repeatL (⟨#[0]⟩ : ByteArray).data.toList 1024).toArray.size = 1024
    rw [List.size_toArray, Lib.repeatL_length]; rfl
  generalize (⟨(Lib.repeatL (⟨#[97]⟩ : ByteArray).data.toList 1024).toArray⟩ : ByteArray) = RA at *
  generalize (⟨(Lib.repeatL (⟨#[97]⟩ : ByteArray).data.toList 1025).toArray⟩ : ByteArray) = RB at *
  generalize (⟨(Lib.repeatL (⟨#[0]⟩ : ByteArray).data.toList 1024).toArray⟩ : ByteArray) = RC at *
  have C1 := Lib.hid c1; have C2 := Lib.hid c2; have C3 := Lib.hid c3
  have L1 := Lib.hid l1; have L2 := Lib.hid l2; have L3 := Lib.hid l3
  clear hW hW2 hE hB0 c1 c2 c3 l1 l2 l3
  go_enter Tryz.func4, Tryz.ntmps4
  go_wp2_with fail
  rw [HW.out]
  refine (C1.out _).mono ?_
  rintro en w1 ⟨rfl, b1⟩
  go_wp2_with fail
  refine (C2.out _).mono ?_
  rintro en w2 ⟨rfl, b2⟩
  go_wp2_with fail
  refine (C3.out _).mono ?_
  rintro en w3 ⟨rfl, b3⟩
  go_wp2_with fail
  have bel3 := b1.trans ((b2.mono b1.size).trans (b3.mono (Nat.le_trans b1.size b2.size)))
  have bV := bel3.alloc bel3.size (.cells (kcellRow (kcells RA RB RC)).toArray 23)
  have hk0 := fun i h => kcells_cell w3 23 RA RB RC i h
  obtain ⟨V, hV⟩ : ∃ V, w3.alloc (.cells (kcellRow (kcells RA RB RC)).toArray 23) = V := ⟨_, rfl⟩
  have hV2 : w3.alloc (.cells #[.bool false, .int .i64 0, .string ⟨#[]⟩, .bool true, .int .i64 0, .string ⟨#[]⟩, .bool true, .int .i64 1, .string ⟨#[]⟩, .bool true, .int .i64 0, .string ⟨#[97]⟩, .bool false, .int .i64 1, .string ⟨#[]⟩, .bool false, .int .i64 2, .string ⟨#[]⟩, .bool false, .int .i64 (-1), .string ⟨#[]⟩, .bool false, .int .i64 2147483647, .string ⟨#[]⟩, .bool false, .int .i64 2147483648, .string ⟨#[]⟩, .bool false, .int .i64 (-2147483648), .string ⟨#[]⟩, .bool false, .int .i64 (-2147483649), .string ⟨#[]⟩, .bool false, .int .i64 (-9223372036854775808), .string ⟨#[]⟩, .bool false, .int .i64 9223372036854775807, .string ⟨#[]⟩, .bool false, .int .i64 0, .string ⟨#[97]⟩, .bool false, .int .i64 0, .string ⟨#[255]⟩, .bool false, .int .i64 0, .string ⟨#[0]⟩, .bool false, .int .i64 0, .string ⟨#[195, 169]⟩, .bool false, .int .i64 1, .string ⟨#[97]⟩, .bool false, .int .i64 0, .string RA, .bool false, .int .i64 0, .string RB, .bool false, .int .i64 0, .string RC] 23) = V := hV
  rw [hV] at bV hk0
  rw [hV2]
  have hbw : Below w.heap.size w V := HB0.out.trans (bV.mono HB0.out.size)
  have HK := Lib.hid hk0
  have hc1 : ∀ i, i < 47 → V.cell? ⟨w.heap.size, i, none⟩ = some (.string (ktexts.getD i ByteArray.empty)) := fun i h => by rw [bV.cell (cell_lt (HC.out i h))]; exact HC.out i h
  have HT := Lib.hid hc1
  have HEV := Lib.hid (HE.out.below bV)
  have HBV := Lib.hid hbw
  have hqV : w.heap.size ≤ V.heap.size := hbw.size
  clear b1 b2 b3 bel3 bV hV hV2 hk0 hbw hc1 HC HE HW HB0 HSZ
  generalize w3.heap.size = p at *
  generalize hq : w.heap.size = q at *
  have HQ := Lib.hid hq
  clear hq
  go_loopw [3] (fun kd wr => ∃ k : Nat, k ≤ 9 ∧ kd = .int .i64 ((k : Int) - 1) ∧ Below V.heap.size V wr) (fun kd _ => (8 - RowKit.intOf kd).toNat)
  case atStart => exact ⟨0, by omega, rfl, Below.refl _ _⟩
  case round =>
    obtain ⟨k, hk, rfl, hb⟩ := hrel
    by_cases hlt : k < 9
    · have hki : (k : Int) - 1 < 8 := by omega
      go_wp2_with fail
      go_loopw [4] (fun nd wn => ∃ j : Nat, j ≤ 2 ∧ nd = .int .i64 j ∧ Below V.heap.size V wn) (fun nd _ => 2 - (RowKit.intOf nd).toNat)
      case atStart => exact ⟨0, by omega, rfl, hb⟩
      case round =>
        obtain ⟨j, hj, rfl, hbn⟩ := hrel
        by_cases hlj : j < 2
        · have hji : (j : Int) < 2 := by omega
          go_wp2_with fail
          have hbU := hbn.alloc hbn.size (.cells #[.int .i64 ((k : Int) - 1), .bool ((j : Int) == 1)] 41)
          have hty := heap_alloc_new wr (.cells #[.int .i64 ((k : Int) - 1), .bool ((j : Int) == 1)] 41)
          generalize ((j : Int) == 1) = tn at *
          obtain ⟨U, hU⟩ : ∃ U, wr.alloc (.cells #[.int .i64 ((k : Int) - 1), .bool tn] 41) = U := ⟨_, rfl⟩
          rw [hU] at hbU hty ⊢
          obtain ⟨n, hn⟩ : ∃ n : Int, (k : Int) - 1 = n := ⟨_, rfl⟩
          rw [hn] at hty ⊢
          have ht0 : U.cell? ⟨wr.heap.size, 0, none⟩ = some (.int .i64 n) := by rw [Lib.cell_of_heap hty]; rfl
          have ht1 : U.cell? ⟨wr.heap.size, 1, none⟩ = some (.bool tn) := by rw [Lib.cell_of_heap hty]; rfl
          have HT0 := Lib.hid ht0
          have HT1 := Lib.hid ht1
          have HBU := Lib.hid hbU
          clear hU hty ht0 ht1 hbU
          generalize wr.heap.size = b at *
          go_loopw [6] (fun xd wi => ∃ i : Nat, i ≤ 47 ∧ xd = .int .i64 i ∧ Below U.heap.size U wi) (fun xd _ => 47 - (RowKit.intOf xd).toNat)
          case atStart => exact ⟨0, by omega, rfl, Below.refl _ _⟩
          case round =>
            obtain ⟨i, hi, rfl, hbi⟩ := hrel
            by_cases hli : i < 47
            · have hii : (i : Int) < 47 := by omega
              have hvi := HBU.out.trans (hbi.mono HBU.out.size)
              have hci : wr.cell? ⟨q, i, none⟩ = some (.string (ktexts.getD i ByteArray.empty)) := by rw [hvi.cell (cell_lt (HT.out i hli))]; exact HT.out i hli
              have h0 : wr.cell? ⟨b, 0, none⟩ = some (.int .i64 n) := by rw [hbi.cell (cell_lt HT0.out)]; exact HT0.out
              have h1 : wr.cell? ⟨b, 1, none⟩ = some (.bool tn) := by rw [hbi.cell (cell_lt HT1.out)]; exact HT1.out
              have hsz := ktexts_size ⟨i, hli⟩
              simp only at hsz
              generalize ktexts.getD i ByteArray.empty = X at *
              have cr := fun w' (h : Below V.heap.size V w') => cellReads_walk n tn X w' (by unfold maxLen; omega) (HEV.out.below h)
              have co := fun w' (h : Below V.heap.size V w') => cellOnly_walk n tn X w' (by unfold maxLen; omega) (HEV.out.below h)
              have CR := Lib.hid cr
              have CO := Lib.hid co
              have hD : (wr.drew.cell? ⟨q, i, none⟩ = some (.string X) ∧ wr.drew.cell? ⟨b, 0, none⟩ = some (.int .i64 n) ∧ wr.drew.cell? ⟨b, 1, none⟩ = some (.bool tn)) ∧ Below V.heap.size V wr.drew ∧ Below U.heap.size U wr.drew := ⟨⟨hci, h0, h1⟩, ms_drewN hvi 1, ms_drewN hbi 1⟩
              have HD := Lib.hid hD
              clear cr co hvi hsz hD
              go_wp2_with fail
              go_region_held3 (fun w' => (w'.cell? ⟨q, i, none⟩ = some (.string X) ∧ w'.cell? ⟨b, 0, none⟩ = some (.int .i64 n) ∧ w'.cell? ⟨b, 1, none⟩ = some (.bool tn)) ∧ Below V.heap.size V w' ∧ Below U.heap.size U w')
                (first
                  | exact HD.out
                  | exact keepK HD.out bb
                  | exact keepK (by assumption) bb
                  | (go_keep; done))
                ((first | ((with_reducible refine (CR.out _ ?_).mono ?_); exact endV (by assumption); rintro en w5 ⟨rfl, bb⟩) | ((with_reducible refine (CO.out _ ?_).mono ?_); exact endV (by assumption); rintro en w5 ⟨rfl, bb⟩)))
              have hE5 := endU (by assumption)
              have HE5 := Lib.hid hE5
              clear hE5
              go_wp2_with fail
              go_roundw
              case rel => exact ⟨i + 1, by omega, by go_num, HE5.out⟩
              case measure => simp [RowKit.intOf]; omega
            · have hii : ¬ (i : Int) < 47 := by omega
              go_wp2_with fail
              go_loopw [7] (fun xd wi => ∃ i : Nat, i ≤ 21 ∧ xd = .int .i64 i ∧ Below U.heap.size U wi) (fun xd _ => 21 - (RowKit.intOf xd).toNat)
              case atStart => exact ⟨0, by omega, rfl, hbi⟩
              case round =>
                obtain ⟨i, hi, rfl, hbi⟩ := hrel
                by_cases hli : i < 21
                · have hii : (i : Int) < 21 := by omega
                  go_wp2_with fail
                  have c0 := HK.out i hli
                  obtain ⟨i2, h2⟩ : ∃ i2 : Nat, ((i : Int) + 1).tmod 21 = i2 := ⟨(i + 1) % 21, by rw [Int.tmod_eq_emod_of_nonneg (by omega)]; omega⟩
                  have i2l : i2 < 21 := by rw [Int.tmod_eq_emod_of_nonneg (by omega)] at h2; omega
                  obtain ⟨i3, h3⟩ : ∃ i3 : Nat, ((i : Int) - 1) % 21 = i3 := ⟨(((i : Int) - 1) % 21).toNat, by omega⟩
                  have i3l : i3 < 21 := by omega
                  have c2 := HK.out i2 i2l
                  have c3 := HK.out i3 i3l
                  have bd1 := kcells_bd RA RB RC i
                  have bd2 := kcells_bd RA RB RC i2
                  obtain ⟨c1, hc1⟩ : ∃ c, (kcells RA RB RC).getD i (false, 0, ⟨#[]⟩) = c := ⟨_, rfl⟩
                  obtain ⟨c2', hc2'⟩ : ∃ c, (kcells RA RB RC).getD i2 (false, 0, ⟨#[]⟩) = c := ⟨_, rfl⟩
                  obtain ⟨c3', hc3'⟩ : ∃ c, (kcells RA RB RC).getD i3 (false, 0, ⟨#[]⟩) = c := ⟨_, rfl⟩
                  rw [hc1] at c0 bd1
                  rw [hc2'] at c2 bd2
                  rw [hc3'] at c3
                  rw [Nat.mul_comm 3] at c0 c2 c3
                  obtain ⟨u1, m1, X1⟩ := c1
                  obtain ⟨u2, m2, X2⟩ := c2'
                  obtain ⟨u3, m3, X3⟩ := c3'
                  have D1 := Lib.hid c0; have D2 := Lib.hid c2; have D3 := Lib.hid c3; have BD1 := Lib.hid bd1; have BD2 := Lib.hid bd2; have I3 := Lib.hid h3
                  have hw2 : IntKind.i64.wrap (i2 : Int) = i2 := IntWalk.i64_in _ ⟨by omega, by omega⟩
                  have i2i : (i2 : Int) < 21 := by omega
                  have i3i : (i3 : Int) < 21 := by omega
                  have HBI := Lib.hid hbi
                  simp only at D1 D2 D3 BD1 BD2
                  clear c0 c2 c3 bd1 bd2 hc1 hc2' hc3' h3 hbi
                  go_wp2_with fail
                  refine wp_region_sel [isV (.agg #[.int .i64 n, .bool tn]), isV (.slice (some ⟨p, 0, none⟩) 21 21), isV (.int .i64 (i : Nat)), isV (.pointer (some ⟨p, i * 3, none⟩)), isV (.agg #[.bool u1, .int .i64 m1, .string X1]), isV (.slice (some ⟨p, 0, none⟩) 21 21), isV (.int .i64 (i : Nat)), isV (.int .i64 ((i : Int) + 1)), isV (.slice (some ⟨p, 0, none⟩) 21 21), isV (.int .i64 21), isV (.int .i64 (i2 : Nat)), isV (.pointer (some ⟨p, i2 * 3, none⟩)), isV (.agg #[.bool u2, .int .i64 m2, .string X2]), isV (.bool true), isV (.bool false), isV (.bool false), isV (.agg #[.int .i64 n, .bool tn]), isV (.slice (some ⟨p, 0, none⟩) 21 21), isV (.int .i64 (i : Nat)), isV (.pointer (some ⟨p, i * 3, none⟩)), isV (.agg #[.bool u1, .int .i64 m1, .string X1]), isV (.bool true), isV (.bool false), isV (.bool false), isV (.bool false), isV (.agg #[.int .i64 n, .bool tn]), isV (.slice (some ⟨p, 0, none⟩) 21 21), isV (.int .i64 (i : Nat)), isV (.pointer (some ⟨p, i * 3, none⟩)), isV (.agg #[.bool u1, .int .i64 m1, .string X1]), isV (.bool true), isV (.bool false), isV (.bool false), isV (.bool false), isV (.agg #[.int .i64 n, .bool tn]), isV (.slice (some ⟨p, 0, none⟩) 21 21), isV (.int .i64 (i : Nat)), isV (.pointer (some ⟨p, i * 3, none⟩)), isV (.pointer (some ⟨p, i * 3 + 1, none⟩)), isV (.int .i64 m1), isV (.bool true), isV (.bool false), isV (.bool false), isV (.bool false), isV (.agg #[.int .i64 n, .bool tn]), isV (.slice (some ⟨p, 0, none⟩) 21 21), isV (.int .i64 (i : Nat)), isV (.pointer (some ⟨p, i * 3, none⟩)), isV (.agg #[.bool u1, .int .i64 m1, .string X1]), isV (.slice (some ⟨p, 0, none⟩) 21 21), isV (.int .i64 (i : Nat)), isV (.int .i64 ((i : Int) - 1)), isV (.slice (some ⟨p, 0, none⟩) 21 21), isV (.int .i64 21), isV (.int .i64 (i3 : Nat)), isV (.pointer (some ⟨p, i3 * 3, none⟩)), isV (.agg #[.bool u3, .int .i64 m3, .string X3]), isV (.bool true), isV (.bool false), isV (.bool false)] (by kernel_rfl) (by kernel_rfl) ?_ ?_
                  ·
                    refine ⟨prem_of (WantOk.free rfl) (isV_stable _) (fun ev wo E => ?_), ?_⟩
                    · have e5 : ev (.tmp 5) = .pointer (some ⟨b, 0, none⟩) := (E.base 5 rfl).trans rfl
                      have hu : Below U.heap.size U wo := HBI.out.trans (E.bel.mono HBI.out.size)
                      have x0 := (hu.cell (cell_lt HT0.out)).trans HT0.out
                      have x1 := (hu.cell (cell_lt HT1.out)).trans HT1.out
                      clear hu
                      go_simp
                      exact relUpon_value ⟨Below.refl _ _, rfl⟩
                    refine ⟨prem_base (WantOk.free rfl) rfl rfl rfl rfl, ?_⟩
                    refine ⟨prem_base (WantOk.free rfl) rfl rfl rfl rfl, ?_⟩
                    refine ⟨prem_of (WantOk.free rfl) (isV_stable _) (fun ev wo E => ?_), ?_⟩
                    · have e76 : ev (.tmp 76) = .slice (some ⟨p, 0, none⟩) 21 21 := E.dep 0 _ rfl rfl _ rfl
                      have e77 : ev (.tmp 77) = .int .i64 (i : Nat) := E.dep 1 _ rfl rfl _ rfl
                      go_simp
                      exact relUpon_value ⟨Below.refl _ _, rfl⟩
                    refine ⟨prem_of (WantOk.free rfl) (isV_stable _) (fun ev wo E => ?_), ?_⟩
                    · have e78 : ev (.tmp 78) = .pointer (some ⟨p, i * 3, none⟩) := E.dep 0 _ rfl rfl _ rfl
                      have hu : Below U.heap.size U wo := HBI.out.trans (E.bel.mono HBI.out.size)
                      have hv : Below V.heap.size V wo := HBU.out.trans (hu.mono HBU.out.size)
                      have x0 := (hv.cell (cell_lt D1.out.1)).trans D1.out.1
                      have x1 := (hv.cell (cell_lt D1.out.2.1)).trans D1.out.2.1
                      have x2 := (hv.cell (cell_lt D1.out.2.2)).trans D1.out.2.2
                      clear hu hv
                      go_simp
                      exact relUpon_value ⟨Below.refl _ _, rfl⟩
                    refine ⟨prem_base (WantOk.free rfl) rfl rfl rfl rfl, ?_⟩
                    refine ⟨prem_base (WantOk.free rfl) rfl rfl rfl rfl, ?_⟩
                    refine ⟨prem_of (WantOk.free rfl) (isV_stable _) (fun ev wo E => ?_), ?_⟩
                    · have e81 : ev (.tmp 81) = .int .i64 (i : Nat) := E.dep 0 _ rfl rfl _ rfl
                      have ec := E.const
                      go_simp
                      exact relUpon_value ⟨Below.refl _ _, by show Value.int _ _ = Value.int _ _; rw [IntWalk.i64_in _ ⟨by omega, by omega⟩]⟩
                    refine ⟨prem_base (WantOk.free rfl) rfl rfl rfl rfl, ?_⟩
                    refine ⟨prem_of (WantOk.free rfl) (isV_stable _) (fun ev wo E => ?_), ?_⟩
                    · have e83 : ev (.tmp 83) = .slice (some ⟨p, 0, none⟩) 21 21 := E.dep 0 _ rfl rfl _ rfl
                      go_simp
                      exact relUpon_value ⟨Below.refl _ _, rfl⟩
                    refine ⟨prem_of (WantOk.free rfl) (isV_stable _) (fun ev wo E => ?_), ?_⟩
                    · have e82 : ev (.tmp 82) = .int .i64 ((i : Int) + 1) := E.dep 0 _ rfl rfl _ rfl
                      have e84 : ev (.tmp 84) = .int .i64 21 := E.dep 1 _ rfl rfl _ rfl
                      go_simp
                      exact relUpon_value ⟨Below.refl _ _, rfl⟩
                    refine ⟨prem_of (WantOk.free rfl) (isV_stable _) (fun ev wo E => ?_), ?_⟩
                    · have e80 : ev (.tmp 80) = .slice (some ⟨p, 0, none⟩) 21 21 := E.dep 0 _ rfl rfl _ rfl
                      have e85 : ev (.tmp 85) = .int .i64 (i2 : Nat) := E.dep 1 _ rfl rfl _ rfl
                      go_simp
                      exact relUpon_value ⟨Below.refl _ _, rfl⟩
                    refine ⟨prem_of (WantOk.free rfl) (isV_stable _) (fun ev wo E => ?_), ?_⟩
                    · have e86 : ev (.tmp 86) = .pointer (some ⟨p, i2 * 3, none⟩) := E.dep 0 _ rfl rfl _ rfl
                      have hu : Below U.heap.size U wo := HBI.out.trans (E.bel.mono HBI.out.size)
                      have hv : Below V.heap.size V wo := HBU.out.trans (hu.mono HBU.out.size)
                      have x0 := (hv.cell (cell_lt D2.out.1)).trans D2.out.1
                      have x1 := (hv.cell (cell_lt D2.out.2.1)).trans D2.out.2.1
                      have x2 := (hv.cell (cell_lt D2.out.2.2)).trans D2.out.2.2
                      clear hu hv
                      go_simp
                      exact relUpon_value ⟨Below.refl _ _, rfl⟩
                    refine ⟨prem_of (WantOk.free rfl) (isV_stable _) (fun ev wo E => ?_), ?_⟩
                    · have e75 : ev (.tmp 75) = .agg #[.int .i64 n, .bool tn] := E.dep 0 _ rfl rfl _ rfl
                      have e79 : ev (.tmp 79) = .agg #[.bool u1, .int .i64 m1, .string X1] := E.dep 1 _ rfl rfl _ rfl
                      have e87 : ev (.tmp 87) = .agg #[.bool u2, .int .i64 m2, .string X2] := E.dep 2 _ rfl rfl _ rfl
                      have ef := E.func
                      have hu : Below U.heap.size U wo := HBI.out.trans (E.bel.mono HBI.out.size)
                      have hv : Below V.heap.size V wo := HBU.out.trans (hu.mono HBU.out.size)
                      have hc := cellChecks_walk n tn u1 m1 X1 u2 m2 X2 wo BD1.out BD2.out (HEV.out.below hv)
                      have HC2 := Lib.hid hc
                      clear hc hu hv
                      go_simp
                      refine relUpon_enter (HC2.out.mono ?_)
                      rintro e w' ⟨rfl, hb⟩
                      exact ⟨_, rfl, hb, rfl⟩
                    refine ⟨prem_of (WantOk.free rfl) (isV_stable _) (fun ev wo E => ?_), ?_⟩
                    · have e88 : ev (.tmp 88) = .bool true := E.dep 0 _ rfl rfl _ rfl
                      go_simp
                      exact relUpon_value ⟨Below.refl _ _, rfl⟩
                    refine ⟨prem_copy 0 (WantOk.free rfl) (.inl rfl) rfl rfl rfl rfl (isV_stable _), ?_⟩
                    refine ⟨prem_of (WantOk.by 0 rfl rfl rfl rfl rfl) (isV_stable _) (fun ev wo E => ?_), ?_⟩
                    · have e5 : ev (.tmp 5) = .pointer (some ⟨b, 0, none⟩) := (E.base 5 rfl).trans rfl
                      have hu : Below U.heap.size U wo := HBI.out.trans (E.bel.mono HBI.out.size)
                      have x0 := (hu.cell (cell_lt HT0.out)).trans HT0.out
                      have x1 := (hu.cell (cell_lt HT1.out)).trans HT1.out
                      clear hu
                      go_simp
                      exact relUpon_value ⟨Below.refl _ _, rfl⟩
                    refine ⟨prem_base (WantOk.by 0 rfl rfl rfl rfl rfl) rfl rfl rfl rfl, ?_⟩
                    refine ⟨prem_base (WantOk.by 0 rfl rfl rfl rfl rfl) rfl rfl rfl rfl, ?_⟩
                    refine ⟨prem_of (WantOk.by 2 rfl rfl rfl rfl rfl) (isV_stable _) (fun ev wo E => ?_), ?_⟩
                    · have e92 : ev (.tmp 92) = .slice (some ⟨p, 0, none⟩) 21 21 := E.dep 0 _ rfl rfl _ rfl
                      have e93 : ev (.tmp 93) = .int .i64 (i : Nat) := E.dep 1 _ rfl rfl _ rfl
                      go_simp
                      exact relUpon_value ⟨Below.refl _ _, rfl⟩
                    refine ⟨prem_of (WantOk.by 1 rfl rfl rfl rfl rfl) (isV_stable _) (fun ev wo E => ?_), ?_⟩
                    · have e94 : ev (.tmp 94) = .pointer (some ⟨p, i * 3, none⟩) := E.dep 0 _ rfl rfl _ rfl
                      have hu : Below U.heap.size U wo := HBI.out.trans (E.bel.mono HBI.out.size)
                      have hv : Below V.heap.size V wo := HBU.out.trans (hu.mono HBU.out.size)
                      have x0 := (hv.cell (cell_lt D1.out.1)).trans D1.out.1
                      have x1 := (hv.cell (cell_lt D1.out.2.1)).trans D1.out.2.1
                      have x2 := (hv.cell (cell_lt D1.out.2.2)).trans D1.out.2.2
                      clear hu hv
                      go_simp
                      exact relUpon_value ⟨Below.refl _ _, rfl⟩
                    refine ⟨prem_of (WantOk.by 2 rfl rfl rfl rfl rfl) (isV_stable _) (fun ev wo E => ?_), ?_⟩
                    · have e91 : ev (.tmp 91) = .agg #[.int .i64 n, .bool tn] := E.dep 0 _ rfl rfl _ rfl
                      have e95 : ev (.tmp 95) = .agg #[.bool u1, .int .i64 m1, .string X1] := E.dep 1 _ rfl rfl _ rfl
                      have ef := E.func
                      have hu : Below U.heap.size U wo := HBI.out.trans (E.bel.mono HBI.out.size)
                      have hv : Below V.heap.size V wo := HBU.out.trans (hu.mono HBU.out.size)
                      have hc := cellWrites_walk n tn u1 m1 X1 wo BD1.out (HEV.out.below hv)
                      have HC2 := Lib.hid hc
                      clear hc hu hv
                      go_simp
                      refine relUpon_enter (HC2.out.mono ?_)
                      rintro e w' ⟨rfl, hb⟩
                      exact ⟨_, rfl, hb, rfl⟩
                    refine ⟨prem_of (WantOk.by 1 rfl rfl rfl rfl rfl) (isV_stable _) (fun ev wo E => ?_), ?_⟩
                    · have e96 : ev (.tmp 96) = .bool true := E.dep 0 _ rfl rfl _ rfl
                      go_simp
                      exact relUpon_value ⟨Below.refl _ _, rfl⟩
                    refine ⟨prem_of (WantOk.free rfl) (isV_stable _) (fun ev wo E => ?_), ?_⟩
                    · have e90 : ev (.tmp 90) = .bool false := E.dep 0 _ rfl rfl _ rfl
                      have e97 : ev (.tmp 97) = .bool false := E.dep 1 _ rfl rfl _ rfl
                      have ec := E.const
                      go_simp
                      exact relUpon_value ⟨Below.refl _ _, rfl⟩
                    refine ⟨prem_copy 0 (WantOk.free rfl) (.inl rfl) rfl rfl rfl rfl (isV_stable _), ?_⟩
                    refine ⟨prem_of (WantOk.by 0 rfl rfl rfl rfl rfl) (isV_stable _) (fun ev wo E => ?_), ?_⟩
                    · have e5 : ev (.tmp 5) = .pointer (some ⟨b, 0, none⟩) := (E.base 5 rfl).trans rfl
                      have hu : Below U.heap.size U wo := HBI.out.trans (E.bel.mono HBI.out.size)
                      have x0 := (hu.cell (cell_lt HT0.out)).trans HT0.out
                      have x1 := (hu.cell (cell_lt HT1.out)).trans HT1.out
                      clear hu
                      go_simp
                      exact relUpon_value ⟨Below.refl _ _, rfl⟩
                    refine ⟨prem_base (WantOk.by 0 rfl rfl rfl rfl rfl) rfl rfl rfl rfl, ?_⟩
                    refine ⟨prem_base (WantOk.by 0 rfl rfl rfl rfl rfl) rfl rfl rfl rfl, ?_⟩
                    refine ⟨prem_of (WantOk.by 2 rfl rfl rfl rfl rfl) (isV_stable _) (fun ev wo E => ?_), ?_⟩
                    · have e101 : ev (.tmp 101) = .slice (some ⟨p, 0, none⟩) 21 21 := E.dep 0 _ rfl rfl _ rfl
                      have e102 : ev (.tmp 102) = .int .i64 (i : Nat) := E.dep 1 _ rfl rfl _ rfl
                      go_simp
                      exact relUpon_value ⟨Below.refl _ _, rfl⟩
                    refine ⟨prem_of (WantOk.by 1 rfl rfl rfl rfl rfl) (isV_stable _) (fun ev wo E => ?_), ?_⟩
                    · have e103 : ev (.tmp 103) = .pointer (some ⟨p, i * 3, none⟩) := E.dep 0 _ rfl rfl _ rfl
                      have hu : Below U.heap.size U wo := HBI.out.trans (E.bel.mono HBI.out.size)
                      have hv : Below V.heap.size V wo := HBU.out.trans (hu.mono HBU.out.size)
                      have x0 := (hv.cell (cell_lt D1.out.1)).trans D1.out.1
                      have x1 := (hv.cell (cell_lt D1.out.2.1)).trans D1.out.2.1
                      have x2 := (hv.cell (cell_lt D1.out.2.2)).trans D1.out.2.2
                      clear hu hv
                      go_simp
                      exact relUpon_value ⟨Below.refl _ _, rfl⟩
                    refine ⟨prem_of (WantOk.by 2 rfl rfl rfl rfl rfl) (isV_stable _) (fun ev wo E => ?_), ?_⟩
                    · have e100 : ev (.tmp 100) = .agg #[.int .i64 n, .bool tn] := E.dep 0 _ rfl rfl _ rfl
                      have e104 : ev (.tmp 104) = .agg #[.bool u1, .int .i64 m1, .string X1] := E.dep 1 _ rfl rfl _ rfl
                      have ef := E.func
                      have ec := E.const
                      have hu : Below U.heap.size U wo := HBI.out.trans (E.bel.mono HBI.out.size)
                      have hv : Below V.heap.size V wo := HBU.out.trans (hu.mono HBU.out.size)
                      have hc := cellBack_walk n tn u1 m1 X1 ⟨#[0]⟩ wo (by unfold maxLen; decide) (HEV.out.below hv)
                      have HC2 := Lib.hid hc
                      clear hc hu hv
                      go_simp
                      refine relUpon_enter (HC2.out.mono ?_)
                      rintro e w' ⟨rfl, hb⟩
                      exact ⟨_, rfl, hb, rfl⟩
                    refine ⟨prem_of (WantOk.by 1 rfl rfl rfl rfl rfl) (isV_stable _) (fun ev wo E => ?_), ?_⟩
                    · have e105 : ev (.tmp 105) = .bool true := E.dep 0 _ rfl rfl _ rfl
                      go_simp
                      exact relUpon_value ⟨Below.refl _ _, rfl⟩
                    refine ⟨prem_of (WantOk.free rfl) (isV_stable _) (fun ev wo E => ?_), ?_⟩
                    · have e99 : ev (.tmp 99) = .bool false := E.dep 0 _ rfl rfl _ rfl
                      have e106 : ev (.tmp 106) = .bool false := E.dep 1 _ rfl rfl _ rfl
                      have ec := E.const
                      go_simp
                      exact relUpon_value ⟨Below.refl _ _, rfl⟩
                    refine ⟨prem_copy 0 (WantOk.free rfl) (.inl rfl) rfl rfl rfl rfl (isV_stable _), ?_⟩
                    refine ⟨prem_of (WantOk.by 0 rfl rfl rfl rfl rfl) (isV_stable _) (fun ev wo E => ?_), ?_⟩
                    · have e5 : ev (.tmp 5) = .pointer (some ⟨b, 0, none⟩) := (E.base 5 rfl).trans rfl
                      have hu : Below U.heap.size U wo := HBI.out.trans (E.bel.mono HBI.out.size)
                      have x0 := (hu.cell (cell_lt HT0.out)).trans HT0.out
                      have x1 := (hu.cell (cell_lt HT1.out)).trans HT1.out
                      clear hu
                      go_simp
                      exact relUpon_value ⟨Below.refl _ _, rfl⟩
                    refine ⟨prem_base (WantOk.by 0 rfl rfl rfl rfl rfl) rfl rfl rfl rfl, ?_⟩
                    refine ⟨prem_base (WantOk.by 0 rfl rfl rfl rfl rfl) rfl rfl rfl rfl, ?_⟩
                    refine ⟨prem_of (WantOk.by 2 rfl rfl rfl rfl rfl) (isV_stable _) (fun ev wo E => ?_), ?_⟩
                    · have e110 : ev (.tmp 110) = .slice (some ⟨p, 0, none⟩) 21 21 := E.dep 0 _ rfl rfl _ rfl
                      have e111 : ev (.tmp 111) = .int .i64 (i : Nat) := E.dep 1 _ rfl rfl _ rfl
                      go_simp
                      exact relUpon_value ⟨Below.refl _ _, rfl⟩
                    refine ⟨prem_of (WantOk.by 1 rfl rfl rfl rfl rfl) (isV_stable _) (fun ev wo E => ?_), ?_⟩
                    · have e112 : ev (.tmp 112) = .pointer (some ⟨p, i * 3, none⟩) := E.dep 0 _ rfl rfl _ rfl
                      go_simp
                      exact relUpon_value ⟨Below.refl _ _, rfl⟩
                    refine ⟨prem_of (WantOk.by 1 rfl rfl rfl rfl rfl) (isV_stable _) (fun ev wo E => ?_), ?_⟩
                    · have e113 : ev (.tmp 113) = .pointer (some ⟨p, i * 3 + 1, none⟩) := E.dep 0 _ rfl rfl _ rfl
                      have hu : Below U.heap.size U wo := HBI.out.trans (E.bel.mono HBI.out.size)
                      have hv : Below V.heap.size V wo := HBU.out.trans (hu.mono HBU.out.size)
                      have x1 := (hv.cell (cell_lt D1.out.2.1)).trans D1.out.2.1
                      clear hu hv
                      go_simp
                      exact relUpon_value ⟨Below.refl _ _, rfl⟩
                    refine ⟨prem_of (WantOk.by 2 rfl rfl rfl rfl rfl) (isV_stable _) (fun ev wo E => ?_), ?_⟩
                    · have e109 : ev (.tmp 109) = .agg #[.int .i64 n, .bool tn] := E.dep 0 _ rfl rfl _ rfl
                      have e114 : ev (.tmp 114) = .int .i64 m1 := E.dep 1 _ rfl rfl _ rfl
                      have ef := E.func
                      have hu : Below U.heap.size U wo := HBI.out.trans (E.bel.mono HBI.out.size)
                      have hv : Below V.heap.size V wo := HBU.out.trans (hu.mono HBU.out.size)
                      have hc := cellWider_walk n tn m1 wo BD1.out (HEV.out.below hv)
                      have HC2 := Lib.hid hc
                      clear hc hu hv
                      go_simp
                      refine relUpon_enter (HC2.out.mono ?_)
                      rintro e w' ⟨rfl, hb⟩
                      exact ⟨_, rfl, hb, rfl⟩
                    refine ⟨prem_of (WantOk.by 1 rfl rfl rfl rfl rfl) (isV_stable _) (fun ev wo E => ?_), ?_⟩
                    · have e115 : ev (.tmp 115) = .bool true := E.dep 0 _ rfl rfl _ rfl
                      go_simp
                      exact relUpon_value ⟨Below.refl _ _, rfl⟩
                    refine ⟨prem_of (WantOk.free rfl) (isV_stable _) (fun ev wo E => ?_), ?_⟩
                    · have e108 : ev (.tmp 108) = .bool false := E.dep 0 _ rfl rfl _ rfl
                      have e116 : ev (.tmp 116) = .bool false := E.dep 1 _ rfl rfl _ rfl
                      have ec := E.const
                      go_simp
                      exact relUpon_value ⟨Below.refl _ _, rfl⟩
                    refine ⟨prem_copy 0 (WantOk.free rfl) (.inl rfl) rfl rfl rfl rfl (isV_stable _), ?_⟩
                    refine ⟨prem_of (WantOk.by 0 rfl rfl rfl rfl rfl) (isV_stable _) (fun ev wo E => ?_), ?_⟩
                    · have e5 : ev (.tmp 5) = .pointer (some ⟨b, 0, none⟩) := (E.base 5 rfl).trans rfl
                      have hu : Below U.heap.size U wo := HBI.out.trans (E.bel.mono HBI.out.size)
                      have x0 := (hu.cell (cell_lt HT0.out)).trans HT0.out
                      have x1 := (hu.cell (cell_lt HT1.out)).trans HT1.out
                      clear hu
                      go_simp
                      exact relUpon_value ⟨Below.refl _ _, rfl⟩
                    refine ⟨prem_base (WantOk.by 0 rfl rfl rfl rfl rfl) rfl rfl rfl rfl, ?_⟩
                    refine ⟨prem_base (WantOk.by 0 rfl rfl rfl rfl rfl) rfl rfl rfl rfl, ?_⟩
                    refine ⟨prem_of (WantOk.by 2 rfl rfl rfl rfl rfl) (isV_stable _) (fun ev wo E => ?_), ?_⟩
                    · have e120 : ev (.tmp 120) = .slice (some ⟨p, 0, none⟩) 21 21 := E.dep 0 _ rfl rfl _ rfl
                      have e121 : ev (.tmp 121) = .int .i64 (i : Nat) := E.dep 1 _ rfl rfl _ rfl
                      go_simp
                      exact relUpon_value ⟨Below.refl _ _, rfl⟩
                    refine ⟨prem_of (WantOk.by 1 rfl rfl rfl rfl rfl) (isV_stable _) (fun ev wo E => ?_), ?_⟩
                    · have e122 : ev (.tmp 122) = .pointer (some ⟨p, i * 3, none⟩) := E.dep 0 _ rfl rfl _ rfl
                      have hu : Below U.heap.size U wo := HBI.out.trans (E.bel.mono HBI.out.size)
                      have hv : Below V.heap.size V wo := HBU.out.trans (hu.mono HBU.out.size)
                      have x0 := (hv.cell (cell_lt D1.out.1)).trans D1.out.1
                      have x1 := (hv.cell (cell_lt D1.out.2.1)).trans D1.out.2.1
                      have x2 := (hv.cell (cell_lt D1.out.2.2)).trans D1.out.2.2
                      clear hu hv
                      go_simp
                      exact relUpon_value ⟨Below.refl _ _, rfl⟩
                    refine ⟨prem_base (WantOk.by 0 rfl rfl rfl rfl rfl) rfl rfl rfl rfl, ?_⟩
                    refine ⟨prem_base (WantOk.by 0 rfl rfl rfl rfl rfl) rfl rfl rfl rfl, ?_⟩
                    refine ⟨prem_of (WantOk.by 1 rfl rfl rfl rfl rfl) (isV_stable _) (fun ev wo E => ?_), ?_⟩
                    · have e125 : ev (.tmp 125) = .int .i64 (i : Nat) := E.dep 0 _ rfl rfl _ rfl
                      have ec := E.const
                      go_simp
                      exact relUpon_value ⟨Below.refl _ _, by show Value.int _ _ = Value.int _ _; rw [IntWalk.i64_in _ ⟨by omega, by omega⟩]⟩
                    refine ⟨prem_base (WantOk.by 0 rfl rfl rfl rfl rfl) rfl rfl rfl rfl, ?_⟩
                    refine ⟨prem_of (WantOk.by 1 rfl rfl rfl rfl rfl) (isV_stable _) (fun ev wo E => ?_), ?_⟩
                    · have e127 : ev (.tmp 127) = .slice (some ⟨p, 0, none⟩) 21 21 := E.dep 0 _ rfl rfl _ rfl
                      go_simp
                      exact relUpon_value ⟨Below.refl _ _, rfl⟩
                    refine ⟨prem_of (WantOk.by 2 rfl rfl rfl rfl rfl) (isV_stable _) (fun ev wo E => ?_), ?_⟩
                    · have e126 : ev (.tmp 126) = .int .i64 ((i : Int) - 1) := E.dep 0 _ rfl rfl _ rfl
                      have e128 : ev (.tmp 128) = .int .i64 21 := E.dep 1 _ rfl rfl _ rfl
                      have ef := E.func
                      have hc := bringI_any ((i : Int) - 1) 21 (by omega) (by omega) (by omega) (by omega) wo
                      rw [I3.out] at hc
                      have HC2 := Lib.hid hc
                      clear hc
                      go_simp
                      refine relUpon_enter (HC2.out.mono ?_)
                      rintro e w' ⟨rfl, hb⟩
                      exact ⟨_, rfl, hb, rfl⟩
                    refine ⟨prem_of (WantOk.by 2 rfl rfl rfl rfl rfl) (isV_stable _) (fun ev wo E => ?_), ?_⟩
                    · have e124 : ev (.tmp 124) = .slice (some ⟨p, 0, none⟩) 21 21 := E.dep 0 _ rfl rfl _ rfl
                      have e129 : ev (.tmp 129) = .int .i64 (i3 : Nat) := E.dep 1 _ rfl rfl _ rfl
                      go_simp
                      exact relUpon_value ⟨Below.refl _ _, rfl⟩
                    refine ⟨prem_of (WantOk.by 1 rfl rfl rfl rfl rfl) (isV_stable _) (fun ev wo E => ?_), ?_⟩
                    · have e130 : ev (.tmp 130) = .pointer (some ⟨p, i3 * 3, none⟩) := E.dep 0 _ rfl rfl _ rfl
                      have hu : Below U.heap.size U wo := HBI.out.trans (E.bel.mono HBI.out.size)
                      have hv : Below V.heap.size V wo := HBU.out.trans (hu.mono HBU.out.size)
                      have x0 := (hv.cell (cell_lt D3.out.1)).trans D3.out.1
                      have x1 := (hv.cell (cell_lt D3.out.2.1)).trans D3.out.2.1
                      have x2 := (hv.cell (cell_lt D3.out.2.2)).trans D3.out.2.2
                      clear hu hv
                      go_simp
                      exact relUpon_value ⟨Below.refl _ _, rfl⟩
                    refine ⟨prem_of (WantOk.by 4 rfl rfl rfl rfl rfl) (isV_stable _) (fun ev wo E => ?_), ?_⟩
                    · have e119 : ev (.tmp 119) = .agg #[.int .i64 n, .bool tn] := E.dep 0 _ rfl rfl _ rfl
                      have e123 : ev (.tmp 123) = .agg #[.bool u1, .int .i64 m1, .string X1] := E.dep 1 _ rfl rfl _ rfl
                      have e131 : ev (.tmp 131) = .agg #[.bool u3, .int .i64 m3, .string X3] := E.dep 2 _ rfl rfl _ rfl
                      have ef := E.func
                      have hu : Below U.heap.size U wo := HBI.out.trans (E.bel.mono HBI.out.size)
                      have hv : Below V.heap.size V wo := HBU.out.trans (hu.mono HBU.out.size)
                      have hc := cellBits_walk n tn u1 m1 X1 u3 m3 X3 wo (HEV.out.below hv)
                      have HC2 := Lib.hid hc
                      clear hc hu hv
                      go_simp
                      refine relUpon_enter (HC2.out.mono ?_)
                      rintro e w' ⟨rfl, hb⟩
                      exact ⟨_, rfl, hb, rfl⟩
                    refine ⟨prem_of (WantOk.by 1 rfl rfl rfl rfl rfl) (isV_stable _) (fun ev wo E => ?_), ?_⟩
                    · have e132 : ev (.tmp 132) = .bool true := E.dep 0 _ rfl rfl _ rfl
                      go_simp
                      exact relUpon_value ⟨Below.refl _ _, rfl⟩
                    refine ⟨prem_of (WantOk.free rfl) (isV_stable _) (fun ev wo E => ?_), ?_⟩
                    · have e118 : ev (.tmp 118) = .bool false := E.dep 0 _ rfl rfl _ rfl
                      have e133 : ev (.tmp 133) = .bool false := E.dep 1 _ rfl rfl _ rfl
                      have ec := E.const
                      go_simp
                      exact relUpon_value ⟨Below.refl _ _, rfl⟩
                    trivial
                  · intro wz bz
                    rintro _ rfl
                    rintro _ rfl
                    rintro _ rfl
                    rintro _ rfl
                    rintro _ rfl
                    rintro _ rfl
                    rintro _ rfl
                    rintro _ rfl
                    rintro _ rfl
                    rintro _ rfl
                    rintro _ rfl
                    rintro _ rfl
                    rintro _ rfl
                    rintro _ rfl
                    rintro _ rfl
                    rintro _ rfl
                    rintro _ rfl
                    rintro _ rfl
                    rintro _ rfl
                    rintro _ rfl
                    rintro _ rfl
                    rintro _ rfl
                    rintro _ rfl
                    rintro _ rfl
                    rintro _ rfl
                    rintro _ rfl
                    rintro _ rfl
                    rintro _ rfl
                    rintro _ rfl
                    rintro _ rfl
                    rintro _ rfl
                    rintro _ rfl
                    rintro _ rfl
                    rintro _ rfl
                    rintro _ rfl
                    rintro _ rfl
                    rintro _ rfl
                    rintro _ rfl
                    rintro _ rfl
                    rintro _ rfl
                    rintro _ rfl
                    rintro _ rfl
                    rintro _ rfl
                    rintro _ rfl
                    rintro _ rfl
                    rintro _ rfl
                    rintro _ rfl
                    rintro _ rfl
                    rintro _ rfl
                    rintro _ rfl
                    rintro _ rfl
                    rintro _ rfl
                    rintro _ rfl
                    rintro _ rfl
                    rintro _ rfl
                    rintro _ rfl
                    rintro _ rfl
                    rintro _ rfl
                    rintro _ rfl
                    rintro _ rfl
                    simp only [relEnd]
                    go_simp
                    have HB2 := Lib.hid (HBI.out.trans (bz.mono HBI.out.size))
                    clear HBI bz
                    go_wp2_with fail
                    go_roundw
                    case rel => exact ⟨i + 1, by omega, by go_num, HB2.out⟩
                    case measure => simp [RowKit.intOf]; omega
                · have hii : ¬ (i : Int) < 21 := by omega
                  go_wp2_with fail
                  have HB1 := Lib.hid hbi
                  clear hbi
                  refine (C1.out _).mono ?_
                  rintro en w5 ⟨rfl, b5⟩
                  have HBI := Lib.hid (HB1.out.trans (b5.mono HB1.out.size))
                  clear b5 HB1
                  have LZ : RA.size = 1024 := L1.out
                  have HI0 := HBI
                  clear HBI
                  have t0 := (HI0.out.cell (cell_lt HT0.out)).trans HT0.out
                  have t1 := (HI0.out.cell (cell_lt HT1.out)).trans HT1.out
                  go_wp2_with fail
                  refine (cellReads_walk n tn _ _ (by simp only [ByteArray.size_append, LZ]; unfold maxLen; decide) (HEV.out.below (HBU.out.trans (HI0.out.mono HBU.out.size)))).mono ?_
                  rintro en x1 ⟨rfl, b1⟩
                  have HI1 := Lib.hid (HI0.out.trans (b1.mono HI0.out.size))
                  clear t0 t1 b1 HI0
                  have t0 := (HI1.out.cell (cell_lt HT0.out)).trans HT0.out
                  have t1 := (HI1.out.cell (cell_lt HT1.out)).trans HT1.out
                  go_wp2_with fail
                  refine (cellReads_walk n tn _ _ (by simp only [ByteArray.size_append, LZ]; unfold maxLen; decide) (HEV.out.below (HBU.out.trans (HI1.out.mono HBU.out.size)))).mono ?_
                  rintro en x2 ⟨rfl, b2⟩
                  have HI2 := Lib.hid (HI1.out.trans (b2.mono HI1.out.size))
                  clear t0 t1 b2 HI1
                  have t0 := (HI2.out.cell (cell_lt HT0.out)).trans HT0.out
                  have t1 := (HI2.out.cell (cell_lt HT1.out)).trans HT1.out
                  go_wp2_with fail
                  refine (cellReads_walk n tn _ _ (by simp only [ByteArray.size_append, LZ]; unfold maxLen; decide) (HEV.out.below (HBU.out.trans (HI2.out.mono HBU.out.size)))).mono ?_
                  rintro en x3 ⟨rfl, b3⟩
                  have HI3 := Lib.hid (HI2.out.trans (b3.mono HI2.out.size))
                  clear t0 t1 b3 HI2
                  have t0 := (HI3.out.cell (cell_lt HT0.out)).trans HT0.out
                  have t1 := (HI3.out.cell (cell_lt HT1.out)).trans HT1.out
                  go_wp2_with fail
                  refine (cellReads_walk n tn _ _ (by simp only [ByteArray.size_append, LZ]; unfold maxLen; decide) (HEV.out.below (HBU.out.trans (HI3.out.mono HBU.out.size)))).mono ?_
                  rintro en x4 ⟨rfl, b4⟩
                  have HI4 := Lib.hid (HI3.out.trans (b4.mono HI3.out.size))
                  clear t0 t1 b4 HI3
                  have t0 := (HI4.out.cell (cell_lt HT0.out)).trans HT0.out
                  have t1 := (HI4.out.cell (cell_lt HT1.out)).trans HT1.out
                  go_wp2_with fail
                  refine (cellReads_walk n tn _ _ (by simp only [ByteArray.size_append, LZ]; unfold maxLen; decide) (HEV.out.below (HBU.out.trans (HI4.out.mono HBU.out.size)))).mono ?_
                  rintro en x5 ⟨rfl, b5⟩
                  have HI5 := Lib.hid (HI4.out.trans (b5.mono HI4.out.size))
                  clear t0 t1 b5 HI4
                  have t0 := (HI5.out.cell (cell_lt HT0.out)).trans HT0.out
                  have t1 := (HI5.out.cell (cell_lt HT1.out)).trans HT1.out
                  go_wp2_with fail
                  refine (cellReads_walk n tn _ _ (by simp only [ByteArray.size_append, LZ]; unfold maxLen; decide) (HEV.out.below (HBU.out.trans (HI5.out.mono HBU.out.size)))).mono ?_
                  rintro en x6 ⟨rfl, b6⟩
                  have HI6 := Lib.hid (HI5.out.trans (b6.mono HI5.out.size))
                  clear t0 t1 b6 HI5
                  have t0 := (HI6.out.cell (cell_lt HT0.out)).trans HT0.out
                  have t1 := (HI6.out.cell (cell_lt HT1.out)).trans HT1.out
                  go_wp2_with fail
                  refine (cellReads_walk n tn _ _ (by simp only [ByteArray.size_append, LZ]; unfold maxLen; decide) (HEV.out.below (HBU.out.trans (HI6.out.mono HBU.out.size)))).mono ?_
                  rintro en x7 ⟨rfl, b7⟩
                  have HI7 := Lib.hid (HI6.out.trans (b7.mono HI6.out.size))
                  clear t0 t1 b7 HI6
                  have t0 := (HI7.out.cell (cell_lt HT0.out)).trans HT0.out
                  have t1 := (HI7.out.cell (cell_lt HT1.out)).trans HT1.out
                  go_wp2_with fail
                  refine (cellReads_walk n tn _ _ (by simp only [ByteArray.size_append, LZ]; unfold maxLen; decide) (HEV.out.below (HBU.out.trans (HI7.out.mono HBU.out.size)))).mono ?_
                  rintro en x8 ⟨rfl, b8⟩
                  have HI8 := Lib.hid (HI7.out.trans (b8.mono HI7.out.size))
                  clear t0 t1 b8 HI7
                  have t0 := (HI8.out.cell (cell_lt HT0.out)).trans HT0.out
                  have t1 := (HI8.out.cell (cell_lt HT1.out)).trans HT1.out
                  go_wp2_with fail
                  refine (cellReads_walk n tn _ _ (by simp only [ByteArray.size_append, LZ]; unfold maxLen; decide) (HEV.out.below (HBU.out.trans (HI8.out.mono HBU.out.size)))).mono ?_
                  rintro en x9 ⟨rfl, b9⟩
                  have HI9 := Lib.hid (HI8.out.trans (b9.mono HI8.out.size))
                  clear t0 t1 b9 HI8
                  have t0 := (HI9.out.cell (cell_lt HT0.out)).trans HT0.out
                  have t1 := (HI9.out.cell (cell_lt HT1.out)).trans HT1.out
                  go_wp2_with fail
                  subst hn
                  go_roundw
                  case rel => first | exact ⟨j + 1, by omega, by go_num, HBU.out.trans (HI9.out.mono HBU.out.size)⟩ | ((repeat apply Exists.intro); refine ⟨?_, rfl⟩; exact ⟨j + 1, by omega, by go_num, HBU.out.trans (HI9.out.mono HBU.out.size)⟩)
                  case measure => simp [RowKit.intOf]; omega
        · have hji : ¬ (j : Int) < 2 := by omega
          go_wp2_with fail
          go_roundw
          case rel => exact ⟨k + 1, by omega, by first | go_num | (congr 1; omega), hbn⟩
          case measure => simp [RowKit.intOf]; omega
    · have hki : ¬ (k : Int) - 1 < 8 := by omega
      have hbw := HBV.out.trans (hb.mono hqV)
      have hqW : q ≤ wr.heap.size := Nat.le_trans hqV hb.size
      have HBW := Lib.hid hbw
      have HE2 := Lib.hid (HEV.out.below hb)
      clear hb hbw
      go_wp2_with fail
      refine (kworks_any _ HE2.out).mono ?_
      rintro en w5 ⟨rfl, b5⟩
      have HB5 := Lib.hid (HBW.out.trans (b5.mono hqW))
      clear b5 HBW
      go_wp2_with fail
      go_ret
      exact ⟨rfl, by rw [HQ.out]; exact HB5.out⟩
end Go.Proofs.YtcdmiiaamajfoaaGreatDoor
