/- Rows: an argument that is a list of cells, or of columns, read as such. Rows: how a cell, and a column, of an argument reads. -/
import Derived.Test.YtmfdokfedimbhaaGreatDoorZYa
import Derived.Test.YtmfdokfedimbhaaGreatDoorZYd
import Derived.Deep.Slices
import Derived.Deep.Fields
import Derived.ChangeSame
import Derived.Lib.SmallJoins
import Derived.OpenShut
import Derived.Test.YtmfdokfedimbhaaGreatDoorZYb
set_option linter.unusedVariables false
namespace Go.Ms
open Go.RowKit Go.Lib Go.ChangeShapes Go.WideShapes Go.Deep
/-- Numbers fit 64 bits, texts fit memory. -/
def ClIn (c : Cl) : Prop := c.2.2.size ≤ maxLen ∧ -9223372036854775808 ≤ c.2.1 ∧ c.2.1 ≤ 9223372036854775807
/-- A column: its id, its name, its type, what older rows have in it. -/
abbrev Col := Int × ByteArray × Ty × Cl
def colV (c : Col) : List Value := [.int .i64 c.1, .string c.2.1, .int .i64 c.2.2.1.1, .bool c.2.2.1.2, .bool c.2.2.2.1, .int .i64 c.2.2.2.2.1, .string c.2.2.2.2.2]
def colsV (l : List Col) : List Value := l.flatMap colV
def I64 (n : Int) : Prop := -9223372036854775808 ≤ n ∧ n ≤ 9223372036854775807
def ColIn (c : Col) : Prop := I64 c.1 ∧ c.2.1.size ≤ maxLen ∧ I64 c.2.2.1.1 ∧ ClIn c.2.2.2
theorem I64.of {n : Int} (h : (Lit.int .i64 n).wf = true) : I64 n := bounds_i64 h
section
variable {H : Type} {enc : TypeId × Value → H} {P : Program} {w : World} {base : Nat} {spare : Nat → Bool} {held : Bool}
/-- The cells of an element, laid one behind the other. -/
theorem flat_at {α : Type} (f : α → List Value) (k : Nat) (hk : ∀ x, (f x).length = k) : ∀ (l : List α) (j : Nat) (u : Value), (l.flatMap f)[j]? = some u → 0 < k → ∃ x, l[j / k]? = some x ∧ (f x)[j % k]? = some u
  | [], j, u, h, _ => by simp at h
  | a :: t, j, u, h, h0 => by
    rw [List.flatMap_cons] at h
    by_cases hj : j < k
    · rw [List.getElem?_append_left (by rw [hk]; exact hj)] at h
      exact ⟨a, by rw [Nat.div_eq_of_lt hj]; rfl, by rw [Nat.mod_eq_of_lt hj]; exact h⟩
    · rw [List.getElem?_append_right (by rw [hk]; omega), hk] at h
      obtain ⟨x, h1, h2⟩ := flat_at f k hk t (j - k) u h h0
      refine ⟨x, ?_, ?_⟩
      · rw [Nat.div_eq_sub_div h0 (by omega)]; simpa using h1
      · rw [Nat.mod_eq_sub_mod (by omega)]; exact h2
/-- A list of elements of k cells each, every one of which reads as one. -/
theorem open_list_at {α : Type} (f : α → List Value) (ok : α → Prop) {t e : TypeId} {k : Nat} (hk : ∀ x, (f x).length = k) (hk0 : 0 < k) (ht : P.underlying t = some (.slice e)) (hC : P.cellsOf e = k)
    (hel : ∀ n cs' y, DataW.trod enc P w base spare held n e cs' = some y → ∃ x, cs' = f x ∧ ok x)
    {fuel : Nat} {v : Value} {x : DataW H × List MemPlace} (hf : DataW.trod enc P w base spare held fuel t [v] = some x) :
    ∃ (A : Option Addr) (len cap : Nat) (l : List α), v = .slice A len cap ∧ l.length = len ∧ len ≤ cap ∧ cap ≤ maxLen ∧ (∀ x ∈ l, ok x) ∧ ∀ j u, (l.flatMap f)[j]? = some u → ∃ a, A = some a ∧ a.block < w.heap.size ∧ w.cell? (a.add j) = some u := by
  rcases open_slice ht hf with ⟨hcs, _⟩ | ⟨a, len, cap, m, n, D, Pl, hcs, hb, hl, hm, hmm, hx, hi⟩
  · obtain rfl : v = .slice none 0 0 := by simpa using hcs
    exact ⟨none, 0, 0, [], rfl, rfl, Nat.le_refl _, by unfold maxLen; omega, by simp, by simp⟩
  · obtain rfl : v = .slice (some a) len cap := by simpa using hcs
    have hlm : len ≤ m := by rw [hmm]; split <;> omega
    have hex : ∀ i, i < len → ∃ x, ok x ∧ ∀ j u, (f x)[j]? = some u → w.cell? (a.add (i * k + j)) = some u := by
      intro i hil
      obtain ⟨cs', hc, ht'⟩ := hi i (by omega)
      obtain ⟨x, rfl, hok⟩ := hel _ _ _ ht'
      refine ⟨x, hok, fun j u hu => ?_⟩
      obtain ⟨_, _, hat⟩ := World.cells?_some hc
      have hj : j < k := by rw [← hk x]; exact (List.getElem?_eq_some_iff.1 hu).1
      have := hat j (by rw [hC]; exact hj)
      rw [hC] at this
      rw [← Go.Deep.add_add, this, hu]
    have hlist : ∃ l : List α, l.length = len ∧ (∀ x ∈ l, ok x) ∧ ∀ i x, l[i]? = some x → ∀ j u, (f x)[j]? = some u → w.cell? (a.add (i * k + j)) = some u := by
      refine ⟨List.ofFn fun i : Fin len => Classical.choose (hex i.1 i.2), by simp, ?_, ?_⟩
      · intro x hx
        obtain ⟨i, hi, rfl⟩ := List.getElem_of_mem hx
        rw [List.getElem_ofFn]
        exact (Classical.choose_spec (hex i (by simpa using hi))).1
      · intro i x hx
        obtain ⟨hi, rfl⟩ := List.getElem?_eq_some_iff.1 hx
        rw [List.getElem_ofFn]
        exact (Classical.choose_spec (hex i (by simpa using hi))).2
    obtain ⟨l, h1, h2, h3⟩ := hlist
    refine ⟨some a, len, cap, l, rfl, h1, hl, hm, h2, fun j u hu => ⟨a, rfl, ?_, ?_⟩⟩
    · have hj : 0 < l.length := by
        rcases l with _ | ⟨x, t⟩
        · simp at hu
        · simp
      obtain ⟨cs', hc, _⟩ := hi 0 (by omega)
      obtain ⟨_, hcl, hat⟩ := World.cells?_some hc
      have h0 := hat 0 (by rw [hC]; exact hk0)
      have hv0 : cs'[0]? = some (cs'[0]'(by rw [hcl, hC]; exact hk0)) := List.getElem?_eq_getElem _
      rw [hv0] at h0
      have := World.block_lt_of_cell? w _ h0
      simp [adr_block] at this
      exact this
    · obtain ⟨x, hx, hxu⟩ := flat_at f k hk l j u hu hk0
      have := h3 _ x hx _ u hxu
      rwa [Nat.div_add_mod' ] at this
/-- The same of an argument. -/
theorem open_list {α : Type} (f : α → List Value) (ok : α → Prop) {t e : TypeId} {k : Nat} (hk : ∀ x, (f x).length = k) (hk0 : 0 < k) (ht : P.underlying t = some (.slice e)) (hC : P.cellsOf e = k)
    (hel : ∀ n cs' y, DataW.trod enc P w base spare held n e cs' = some y → ∃ x, cs' = f x ∧ ok x)
    {r : Reach} {b0 : Nat} {v : Value} {d : DataW H} {p : List MemPlace} (hv : Value.okWide P w r b0 t v) (h : DataW.Trod enc P w base spare held t v d p) :
    ∃ (A : Option Addr) (len cap : Nat) (l : List α), v = .slice A len cap ∧ l.length = len ∧ len ≤ cap ∧ cap ≤ maxLen ∧ (∀ x ∈ l, ok x) ∧ ∀ j u, (l.flatMap f)[j]? = some u → ∃ a, A = some a ∧ a.block < w.heap.size ∧ w.cell? (a.add j) = some u := by
  obtain ⟨A, len, cap, rfl⟩ := okWide_slice ht hv
  obtain ⟨fuel, hf⟩ := h
  exact open_list_at f ok hk hk0 ht hC hel hf
end
end Go.Ms
namespace Go.Proofs.YtmfdokfedimbhaaGreatDoor
open Go.RowKit Go.Ms Go.Lib Go.ChangeShapes Go.WideShapes Go.Deep
theorem len2 {α : Type} {l : List α} (h : l.length = 2) : ∃ a b, l = [a, b] := by
  match l, h with
  | [a, b], _ => exact ⟨a, b, rfl⟩
theorem len3 {α : Type} {l : List α} (h : l.length = 3) : ∃ a b c, l = [a, b, c] := by
  match l, h with
  | [a, b, c], _ => exact ⟨a, b, c, rfl⟩
theorem len4 {α : Type} {l : List α} (h : l.length = 4) : ∃ a b c d, l = [a, b, c, d] := by
  match l, h with
  | [a, b, c, d], _ => exact ⟨a, b, c, d, rfl⟩
theorem len7 {α : Type} {l : List α} (h : l.length = 7) : ∃ a b c d e f g, l = [a, b, c, d, e, f, g] := by
  match l, h with
  | [a, b, c, d, e, f, g], _ => exact ⟨a, b, c, d, e, f, g, rfl⟩
section
variable {H : Type} {enc : TypeId × Value → H} {w : World} {base : Nat} {spare : Nat → Bool} {held : Bool}
theorem cells_bool : Tryz.prog.cellsOf 4 = 1 := by kernel_rfl
theorem cells_i64 : Tryz.prog.cellsOf 2 = 1 := by kernel_rfl
theorem cells_int : Tryz.prog.cellsOf 3 = 1 := by kernel_rfl
theorem cells_str : Tryz.prog.cellsOf 9 = 1 := by kernel_rfl
theorem cells_cell : Tryz.prog.cellsOf 47 = 3 := by kernel_rfl
theorem cells_type : Tryz.prog.cellsOf 54 = 2 := by kernel_rfl
theorem cells_col : Tryz.prog.cellsOf 56 = 7 := by kernel_rfl
theorem cell_el {n : Nat} {cs' : List Value} {y : DataW H × List MemPlace} (h : DataW.trod enc Tryz.prog w base spare held n 47 cs' = some y) : ∃ x : Cl, cs' = clV x ∧ ClIn x := by
  obtain ⟨xs, n', _, _, hl, hxl, hf⟩ := DataW.trod_struct Tryz.underlying47 h
  rw [cells_cell] at hl
  obtain ⟨y0, y1, y2, rfl⟩ := len3 (show xs.length = 3 from hxl)
  obtain ⟨c0, c1, c2, rfl⟩ := len3 hl
  have h0 : DataW.trod enc Tryz.prog w base spare held n' 4 (([c0, c1, c2].drop 0).take (Tryz.prog.cellsOf 4)) = some y0 := hf 0 _ rfl
  rw [cells_bool] at h0
  have h1 : DataW.trod enc Tryz.prog w base spare held n' 2 (([c0, c1, c2].drop 1).take (Tryz.prog.cellsOf 2)) = some y1 := hf 1 _ rfl
  rw [cells_i64] at h1
  have h2 : DataW.trod enc Tryz.prog w base spare held n' 9 (([c0, c1, c2].drop 2).take (Tryz.prog.cellsOf 9)) = some y2 := hf 2 _ rfl
  rw [cells_str] at h2
  obtain ⟨u, e0, _⟩ := DataW.trod_bool Tryz.underlying4 (show DataW.trod enc Tryz.prog w base spare held n' 4 [c0] = some y0 from h0)
  obtain ⟨m, e1, _, wm⟩ := DataW.trod_int Tryz.underlying2 (show DataW.trod enc Tryz.prog w base spare held n' 2 [c1] = some y1 from h1)
  obtain ⟨s, e2, _, ws⟩ := DataW.trod_string Tryz.underlying9 (show DataW.trod enc Tryz.prog w base spare held n' 9 [c2] = some y2 from h2)
  obtain rfl : c0 = .bool u := by simpa using e0
  obtain rfl : c1 = .int .i64 m := by simpa using e1
  obtain rfl : c2 = .string s := by simpa using e2
  exact ⟨(u, m, s), rfl, ws, I64.of wm⟩
theorem type_el {n : Nat} {cs' : List Value} {y : DataW H × List MemPlace} (h : DataW.trod enc Tryz.prog w base spare held n 54 cs' = some y) : ∃ x : Ty, cs' = [.int .i64 x.1, .bool x.2] ∧ I64 x.1 := by
  obtain ⟨xs, n', _, _, hl, hxl, hf⟩ := DataW.trod_struct Tryz.underlying54 h
  rw [cells_type] at hl
  obtain ⟨y0, y1, rfl⟩ := len2 (show xs.length = 2 from hxl)
  obtain ⟨c0, c1, rfl⟩ := len2 hl
  have h0 : DataW.trod enc Tryz.prog w base spare held n' 3 (([c0, c1].drop 0).take (Tryz.prog.cellsOf 3)) = some y0 := hf 0 _ rfl
  rw [cells_int] at h0
  have h1 : DataW.trod enc Tryz.prog w base spare held n' 4 (([c0, c1].drop 1).take (Tryz.prog.cellsOf 4)) = some y1 := hf 1 _ rfl
  rw [cells_bool] at h1
  obtain ⟨m, e0, _, wm⟩ := DataW.trod_int Tryz.underlying3 (show DataW.trod enc Tryz.prog w base spare held n' 3 [c0] = some y0 from h0)
  obtain ⟨u, e1, _⟩ := DataW.trod_bool Tryz.underlying4 (show DataW.trod enc Tryz.prog w base spare held n' 4 [c1] = some y1 from h1)
  obtain rfl : c0 = .int .i64 m := by simpa using e0
  obtain rfl : c1 = .bool u := by simpa using e1
  exact ⟨(m, u), rfl, I64.of wm⟩
theorem col_el {n : Nat} {cs' : List Value} {y : DataW H × List MemPlace} (h : DataW.trod enc Tryz.prog w base spare held n 56 cs' = some y) : ∃ x : Col, cs' = colV x ∧ ColIn x := by
  obtain ⟨xs, n', _, _, hl, hxl, hf⟩ := DataW.trod_struct Tryz.underlying56 h
  rw [cells_col] at hl
  obtain ⟨y0, y1, y2, y3, rfl⟩ := len4 (show xs.length = 4 from hxl)
  obtain ⟨c0, c1, c2, c3, c4, c5, c6, rfl⟩ := len7 hl
  have h0 : DataW.trod enc Tryz.prog w base spare held n' 3 (([c0, c1, c2, c3, c4, c5, c6].drop 0).take (Tryz.prog.cellsOf 3)) = some y0 := hf 0 _ rfl
  rw [cells_int] at h0
  have h1 : DataW.trod enc Tryz.prog w base spare held n' 9 (([c0, c1, c2, c3, c4, c5, c6].drop 1).take (Tryz.prog.cellsOf 9)) = some y1 := hf 1 _ rfl
  rw [cells_str] at h1
  have h2 : DataW.trod enc Tryz.prog w base spare held n' 54 (([c0, c1, c2, c3, c4, c5, c6].drop 2).take (Tryz.prog.cellsOf 54)) = some y2 := hf 2 _ rfl
  rw [cells_type] at h2
  have h3 : DataW.trod enc Tryz.prog w base spare held n' 47 (([c0, c1, c2, c3, c4, c5, c6].drop 4).take (Tryz.prog.cellsOf 47)) = some y3 := hf 3 _ rfl
  rw [cells_cell] at h3
  obtain ⟨m, e0, _, wm⟩ := DataW.trod_int Tryz.underlying3 (show DataW.trod enc Tryz.prog w base spare held n' 3 [c0] = some y0 from h0)
  obtain ⟨s, e1, _, ws⟩ := DataW.trod_string Tryz.underlying9 (show DataW.trod enc Tryz.prog w base spare held n' 9 [c1] = some y1 from h1)
  obtain ⟨t, e2, wt⟩ := type_el (show DataW.trod enc Tryz.prog w base spare held n' 54 [c2, c3] = some y2 from h2)
  obtain ⟨c, e3, wc⟩ := cell_el (show DataW.trod enc Tryz.prog w base spare held n' 47 [c4, c5, c6] = some y3 from h3)
  obtain rfl : c0 = .int .i64 m := by simpa using e0
  obtain rfl : c1 = .string s := by simpa using e1
  have e2' : c2 = .int .i64 t.1 ∧ c3 = .bool t.2 := by simpa using e2
  have e3' : c4 = .bool c.1 ∧ c5 = .int .i64 c.2.1 ∧ c6 = .string c.2.2 := by simpa [clV] using e3
  obtain ⟨rfl, rfl⟩ := e2'
  obtain ⟨rfl, rfl, rfl⟩ := e3'
  exact ⟨(m, s, t, c), rfl, I64.of wm, ws, wt, wc⟩
def oneI (n : Int) : List Value := [.int .i64 n]
theorem oneI_len (n : Int) : (oneI n).length = 1 := rfl
theorem int_el {n : Nat} {cs' : List Value} {y : DataW H × List MemPlace} (h : DataW.trod enc Tryz.prog w base spare held n 3 cs' = some y) : ∃ x : Int, cs' = oneI x ∧ I64 x := by
  obtain ⟨m, e, _, wm⟩ := DataW.trod_int Tryz.underlying3 h
  exact ⟨m, e, I64.of wm⟩
theorem ext_ints {B : Nat} {A : Option Addr} {l : List Int} (h : Ext w B A (l.flatMap oneI)) : Ext w B A (intV l) := by
  have e : intV l = l.flatMap oneI := by
    clear h
    induction l with
    | nil => rfl
    | cons a t ih => show .int .i64 a :: intV t = [.int .i64 a] ++ t.flatMap oneI; rw [ih]; rfl
  rw [e]; exact h
end
end Go.Proofs.YtmfdokfedimbhaaGreatDoor
namespace Go.Ms
open Go.RowKit Go.Lib
theorem rowV_flat (l : List Cl) : rowV l = l.flatMap clV := rfl
theorem clV_len (c : Cl) : (clV c).length = 3 := rfl
theorem colV_len (c : Col) : (colV c).length = 7 := rfl
theorem colsV_len (l : List Col) : (colsV l).length = l.length * 7 := by
  induction l with
  | nil => rfl
  | cons a t ih => show (colV a ++ colsV t).length = _; rw [List.length_append, ih, List.length_cons, colV_len]; omega
theorem colsV_at : ∀ (l : List Col) (i : Nat) (c : Col), l[i]? = some c → ∀ j u, (colV c)[j]? = some u → (colsV l)[i * 7 + j]? = some u
  | [], i, c, h, _, _, _ => by simp at h
  | a :: t, 0, c, h, j, u, hu => by
    have h : a = c := by simpa using h
    subst h
    show (colV a ++ colsV t)[0 * 7 + j]? = _
    rw [List.getElem?_append_left (by have := (List.getElem?_eq_some_iff.1 hu).1; omega), Nat.zero_mul, Nat.zero_add]
    exact hu
  | a :: t, i + 1, c, h, j, u, hu => by
    have ih := colsV_at t i c (by simpa using h) j u hu
    show (colV a ++ colsV t)[(i + 1) * 7 + j]? = _
    rw [List.getElem?_append_right (by rw [colV_len]; omega), colV_len, show (i + 1) * 7 + j - 7 = i * 7 + j by omega]
    exact ih
theorem colsV_take (l : List Col) : ∀ (n : Nat), (colsV l).take (n * 7) = colsV (l.take n) := by
  induction l with
  | nil => intro n; simp [colsV]
  | cons a t ih =>
    intro n
    cases n with
    | zero => simp [colsV]
    | succ n =>
      show (colV a ++ colsV t).take ((n + 1) * 7) = colV a ++ colsV (t.take n)
      rw [List.take_append, colV_len, show (n + 1) * 7 - 7 = n * 7 by omega, ih n, List.take_of_length_le (by rw [colV_len]; omega)]
theorem colsV_one (l : List Col) : ∀ u ∈ colsV l, u.oneCell' = true := by
  intro u hu
  obtain ⟨c, _, h⟩ := List.mem_flatMap.1 hu
  simp only [colV, List.mem_cons, List.not_mem_nil, or_false] at h
  rcases h with rfl | rfl | rfl | rfl | rfl | rfl | rfl <;> rfl
def colTy (c : Col) : Ty := c.2.2.1
theorem cols_of {w : World} {B : Nat} {A : Option Addr} {l : List Col} (h : Lay w B A (colsV l)) : Cols w B A (l.map colTy) (colsV l) := by
  refine ⟨by rw [colsV_len, List.length_map], h, fun i t ht => ?_⟩
  rw [List.getElem?_map] at ht
  obtain ⟨c, hc, rfl⟩ := Option.map_eq_some_iff.1 ht
  exact ⟨colsV_at l i c hc 2 _ rfl, colsV_at l i c hc 3 _ rfl⟩
end Go.Ms
