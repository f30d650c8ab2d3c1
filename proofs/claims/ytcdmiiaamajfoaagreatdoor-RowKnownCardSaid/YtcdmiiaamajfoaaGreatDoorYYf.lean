/- Rows: an argument that is a list of cells, or of columns, read as such. Rows: how a cell, and a column, of an argument reads. -/
import Derived.Test.YtcdmiiaamajfoaaGreatDoorYYa
import Derived.Test.YtcdmiiaamajfoaaGreatDoorYYd
import Derived.Deep.Slices
import Derived.Deep.Fields
import Derived.ChangeSame
import Derived.Lib.SmallJoins
import Derived.OpenShut
import Derived.Test.YtcdmiiaamajfoaaGreatDoorYYb
set_option linter.unusedVariables false
namespace Go.Ms
open Go.RowKit Go.Lib Go.ChangeShapes Go.WideShapes Go.Deep
/-- Numbers fit 64 bits, texts fit memory. -/
def ClIn (c : Cl) : Prop := c.2.2.size ≤ maxLen ∧ -9223372036854775808 ≤ c.2.1 ∧ c.2.1 ≤ 9223372036854775807
/-- A column: its id, its name, its type, what older rows have in it. -/
abbrev Col := Int × ByteArray × Ty × Cl
def colV (c : Col) : List Value := [.int .i64 c.1, .string c.2.1, .int .i64 c.2.2.1.1, .bool c.2.2.1.2, .bool c.2.2.2.1, .int .i64 c.2.2.2.2.1, .string c.2.2.2.2.2]
def colsV (l : List Col) : List Value := l.flatMap colV
def I64 (n : Int) : Prop := -9223372036854775808 ≤ n ∧ n ≤ 9223372036854775807
theorem I64.of {n : Int} (h : (Lit.int .i64 n).wf = true) : I64 n := bounds_i64 h
section
variable {H : Type} {enc : TypeId × Value → H} {P : Program} {w : World} {base : Nat} {spare : Nat → Bool} {held : Bool}
end
end Go.Ms
namespace Go.Proofs.YtcdmiiaamajfoaaGreatDoor
open Go.RowKit Go.Ms Go.Lib Go.ChangeShapes Go.WideShapes Go.Deep
section
variable {H : Type} {enc : TypeId × Value → H} {w : World} {base : Nat} {spare : Nat → Bool} {held : Bool}
end
end Go.Proofs.YtcdmiiaamajfoaaGreatDoor
namespace Go.Ms
open Go.RowKit Go.Lib
theorem colV_len (c : Col) : (colV c).length = 7 := rfl
theorem colsV_len (l : List Col) : (colsV l).length = l.length * 7 := by
  induction l with
  | nil => rfl
  | cons a t ih => show (colV a ++ colsV t).length = _; rw [List.length_append, ih, List.length_cons, colV_len]; omega
theorem colsV_at : ∀ (l : List Col) (i : Nat) (c : Col), l[i]? = some c → ∀ j u, (colV c)[j]? = some u → (colsV l)[i * 7 + j]? = some u
  | [], i, c, h, _, _, _ => by simp at h
  | a :: t, 0, c, h, j, u, hu => by
    have h : a = c := by simpa using h
    subst h
    show (colV a ++ colsV t)[0 * 7 + j]? = _
    rw [List.getElem?_append_left (by have := (List.getElem?_eq_some_iff.1 hu).1; omega), Nat.zero_mul, Nat.zero_add]
    exact hu
  | a :: t, i + 1, c, h, j, u, hu => by
    have ih := colsV_at t i c (by simpa using h) j u hu
    show (colV a ++ colsV t)[(i + 1) * 7 + j]? = _
    rw [List.getElem?_append_right (by rw [colV_len]; omega), colV_len, show (i + 1) * 7 + j - 7 = i * 7 + j by omega]
    exact ih
theorem colsV_take (l : List Col) : ∀ (n : Nat), (colsV l).take (n * 7) = colsV (l.take n) := by
  induction l with
  | nil => intro n; simp [colsV]
  | cons a t ih =>
    intro n
    cases n with
    | zero => simp [colsV]
    | succ n =>
      show (colV a ++ colsV t).take ((n + 1) * 7) = colV a ++ colsV (t.take n)
      rw [List.take_append, colV_len, show (n + 1) * 7 - 7 = n * 7 by omega, ih n, List.take_of_length_le (by rw [colV_len]; omega)]
theorem colsV_one (l : List Col) : ∀ u ∈ colsV l, u.oneCell' = true := by
  intro u hu
  obtain ⟨c, _, h⟩ := List.mem_flatMap.1 hu
  simp only [colV, List.mem_cons, List.not_mem_nil, or_false] at h
  rcases h with rfl | rfl | rfl | rfl | rfl | rfl | rfl <;> rfl
def colTy (c : Col) : Ty := c.2.2.1
theorem cols_of {w : World} {B : Nat} {A : Option Addr} {l : List Col} (h : Lay w B A (colsV l)) : Cols w B A (l.map colTy) (colsV l) := by
  refine ⟨by rw [colsV_len, List.length_map], h, fun i t ht => ?_⟩
  rw [List.getElem?_map] at ht
  obtain ⟨c, hc, rfl⟩ := Option.map_eq_some_iff.1 ht
  exact ⟨colsV_at l i c hc 2 _ rfl, colsV_at l i c hc 3 _ rfl⟩
end Go.Ms
