/- Schemas: an argument's lists, read as such. Schemas: columns of one's own, stored; a schema cut. Schemas: a schema cut. Rows: a row copied. The reference: a row in memory of its own. -/
import Derived.Deep.Slices
import Derived.Deep.Fields
import Derived.ChangeSame
import Derived.OpenShut
import Derived.Test.YtikpmmipopmjaaaGreatDoorYQt
set_option maxRecDepth 100000
set_option linter.unusedVariables false
namespace Go.Ms
open Go.RowKit Go.Lib Go.ChangeShapes Go.WideShapes Go.Deep
def ClIn (c : Cl) : Prop := c.2.2.size ≤ maxLen ∧ -9223372036854775808 ≤ c.2.1 ∧ c.2.1 ≤ 9223372036854775807
def I64 (n : Int) : Prop := -9223372036854775808 ≤ n ∧ n ≤ 9223372036854775807
def ColIn (c : Co) : Prop := I64 c.1 ∧ c.2.1.size ≤ maxLen ∧ I64 c.2.2.1.1 ∧ ClIn c.2.2.2
theorem I64.of {n : Int} (h : (Lit.int .i64 n).wf = true) : I64 n := bounds_i64 h
section
variable {H : Type} {enc : TypeId × Value → H} {P : Program} {w : World} {base : Nat} {spare : Nat → Bool} {held : Bool}
theorem flat_at {α : Type} (f : α → List Value) (k : Nat) (hk : ∀ x, (f x).length = k) : ∀ (l : List α) (j : Nat) (u : Value), (l.flatMap f)[j]? = some u → 0 < k → ∃ x, l[j / k]? = some x ∧ (f x)[j % k]? = some u
  | [], j, u, h, _ => by simp at h
  | a :: t, j, u, h, h0 => by
   rw [List.flatMap_cons] at h
   by_cases hj : j < k
   · rw [List.getElem?_append_left (by rw [hk]; exact hj)] at h; exact ⟨a, by rw [Nat.div_eq_of_lt hj]; rfl, by rw [Nat.mod_eq_of_lt hj]; exact h⟩
   · rw [List.getElem?_append_right (by rw [hk]; omega), hk] at h; obtain ⟨x, h1, h2⟩ := flat_at f k hk t (j - k) u h h0; refine ⟨x, ?_, ?_⟩
     · rw [Nat.div_eq_sub_div h0 (by omega)]; simpa using h1
     · rw [Nat.mod_eq_sub_mod (by omega)]; exact h2
theorem open_list_at {α : Type} (f : α → List Value) (ok : α → Prop) {t e : TypeId} {k : Nat} (hk : ∀ x, (f x).length = k) (hk0 : 0 < k) (ht : P.underlying t = some (.slice e)) (hC : P.cellsOf e = k)
    (hel : ∀ n cs' y, DataW.trod enc P w base spare held n e cs' = some y → ∃ x, cs' = f x ∧ ok x)
    {fuel : Nat} {v : Value} {x : DataW H × List MemPlace} (hf : DataW.trod enc P w base spare held fuel t [v] = some x) :
    ∃ (A : Option Addr) (len cap : Nat) (l : List α), v = .slice A len cap ∧ l.length = len ∧ len ≤ cap ∧ cap ≤ maxLen ∧ (∀ x ∈ l, ok x) ∧ ∀ j u, (l.flatMap f)[j]? = some u → ∃ a, A = some a ∧ a.block < w.heap.size ∧ w.cell? (a.add j) = some u := by
 rcases open_slice ht hf with ⟨hcs, _⟩ | ⟨a, len, cap, m, n, D, Pl, hcs, hb, hl, hm, hmm, hx, hi⟩
 · obtain rfl : v = .slice none 0 0 := by simpa using hcs
   exact ⟨none, 0, 0, [], rfl, rfl, Nat.le_refl _, by unfold maxLen; omega, by simp, by simp⟩
 · obtain rfl : v = .slice (some a) len cap := by simpa using hcs
   have hlm : len ≤ m := by rw [hmm]; split <;> omega
   have hex : ∀ i, i < len → ∃ x, ok x ∧ ∀ j u, (f x)[j]? = some u → w.cell? (a.add (i * k + j)) = some u := by
    intro i hil
    obtain ⟨cs', hc, ht'⟩ := hi i (by omega); obtain ⟨x, rfl, hok⟩ := hel _ _ _ ht'; refine ⟨x, hok, fun j u hu => ?_⟩; obtain ⟨_, _, hat⟩ := World.cells?_some hc
    have hj : j < k := by rw [← hk x]; exact (List.getElem?_eq_some_iff.1 hu).1
    have := hat j (by rw [hC]; exact hj); rw [hC] at this; rw [← Go.Deep.add_add, this, hu]
   have hlist : ∃ l : List α, l.length = len ∧ (∀ x ∈ l, ok x) ∧ ∀ i x, l[i]? = some x → ∀ j u, (f x)[j]? = some u → w.cell? (a.add (i * k + j)) = some u := by
    refine ⟨List.ofFn fun i : Fin len => Classical.choose (hex i.1 i.2), by simp, ?_, ?_⟩
    · intro x hx
      obtain ⟨i, hi, rfl⟩ := List.getElem_of_mem hx; rw [List.getElem_ofFn]; exact (Classical.choose_spec (hex i (by simpa using hi))).1
    · intro i x hx
      obtain ⟨hi, rfl⟩ := List.getElem?_eq_some_iff.1 hx; rw [List.getElem_ofFn]; exact (Classical.choose_spec (hex i (by simpa using hi))).2
   obtain ⟨l, h1, h2, h3⟩ := hlist; refine ⟨some a, len, cap, l, rfl, h1, hl, hm, h2, fun j u hu => ⟨a, rfl, ?_, ?_⟩⟩
   · have hj : 0 < l.length := by
       rcases l with _ | ⟨x, t⟩
       · simp at hu
       · simp
     obtain ⟨cs', hc, _⟩ := hi 0 (by omega); obtain ⟨_, hcl, hat⟩ := World.cells?_some hc; have h0 := hat 0 (by rw [hC]; exact hk0); have hv0 : cs'[0]? = some (cs'[0]'(by rw [hcl, hC]; exact hk0)) := List.getElem?_eq_getElem _; rw [hv0] at h0; have := World.block_lt_of_cell? w _ h0
     simp [adr_block] at this
     exact this
   · obtain ⟨x, hx, hxu⟩ := flat_at f k hk l j u hu hk0; have := h3 _ x hx _ u hxu
     rwa [Nat.div_add_mod' ] at this
theorem open_list {α : Type} (f : α → List Value) (ok : α → Prop) {t e : TypeId} {k : Nat} (hk : ∀ x, (f x).length = k) (hk0 : 0 < k) (ht : P.underlying t = some (.slice e)) (hC : P.cellsOf e = k)
    (hel : ∀ n cs' y, DataW.trod enc P w base spare held n e cs' = some y → ∃ x, cs' = f x ∧ ok x)
    {r : Reach} {b0 : Nat} {v : Value} {d : DataW H} {p : List MemPlace} (hv : Value.okWide P w r b0 t v) (h : DataW.Trod enc P w base spare held t v d p) :
    ∃ (A : Option Addr) (len cap : Nat) (l : List α), v = .slice A len cap ∧ l.length = len ∧ len ≤ cap ∧ cap ≤ maxLen ∧ (∀ x ∈ l, ok x) ∧ ∀ j u, (l.flatMap f)[j]? = some u → ∃ a, A = some a ∧ a.block < w.heap.size ∧ w.cell? (a.add j) = some u := by
 obtain ⟨A, len, cap, rfl⟩ := okWide_slice ht hv; obtain ⟨fuel, hf⟩ := h; exact open_list_at f ok hk hk0 ht hC hel hf
end
end Go.Ms
namespace Go.Proofs.YtikpmmipopmjaaaGreatDoor
open Go.RowKit Go.Ms Go.Lib Go.ChangeShapes Go.WideShapes Go.Deep
theorem len2 {α : Type} {l : List α} (h : l.length = 2) : ∃ a b, l = [a, b] := by
 match l, h with
 | [a, b], _ => exact ⟨a, b, rfl⟩
theorem len3 {α : Type} {l : List α} (h : l.length = 3) : ∃ a b c, l = [a, b, c] := by
 match l, h with
 | [a, b, c], _ => exact ⟨a, b, c, rfl⟩
theorem len4 {α : Type} {l : List α} (h : l.length = 4) : ∃ a b c d, l = [a, b, c, d] := by
 match l, h with
 | [a, b, c, d], _ => exact ⟨a, b, c, d, rfl⟩
theorem len7 {α : Type} {l : List α} (h : l.length = 7) : ∃ a b c d e f g, l = [a, b, c, d, e, f, g] := by
 match l, h with
 | [a, b, c, d, e, f, g], _ => exact ⟨a, b, c, d, e, f, g, rfl⟩
section
variable {H : Type} {enc : TypeId × Value → H} {w : World} {base : Nat} {spare : Nat → Bool} {held : Bool}
theorem cells_bool : Tryz.prog.cellsOf 4 = 1 := by kernel_rfl
theorem cells_i64 : Tryz.prog.cellsOf 2 = 1 := by kernel_rfl
theorem cells_int : Tryz.prog.cellsOf 3 = 1 := by kernel_rfl
theorem cells_str : Tryz.prog.cellsOf 9 = 1 := by kernel_rfl
theorem cells_cell : Tryz.prog.cellsOf 57 = 3 := by kernel_rfl
theorem cells_type : Tryz.prog.cellsOf 55 = 2 := by kernel_rfl
theorem cells_col : Tryz.prog.cellsOf 59 = 7 := by kernel_rfl
theorem cell_el {n : Nat} {cs' : List Value} {y : DataW H × List MemPlace} (h : DataW.trod enc Tryz.prog w base spare held n 57 cs' = some y) : ∃ x : Cl, cs' = clV x ∧ ClIn x := by
 obtain ⟨xs, n', _, _, hl, hxl, hf⟩ := DataW.trod_struct Tryz.underlying57 h; rw [cells_cell] at hl; obtain ⟨y0, y1, y2, rfl⟩ := len3 (show xs.length = 3 from hxl); obtain ⟨c0, c1, c2, rfl⟩ := len3 hl; have h0 : DataW.trod enc Tryz.prog w base spare held n' 4 (([c0, c1, c2].drop 0).take (Tryz.prog.cellsOf 4)) = some y0 := hf 0 _ rfl; rw [cells_bool] at h0; have h1 : DataW.trod enc Tryz.prog w base spare held n' 2 (([c0, c1, c2].drop 1).take (Tryz.prog.cellsOf 2)) = some y1 := hf 1 _ rfl; rw [cells_i64] at h1
 have h2 : DataW.trod enc Tryz.prog w base spare held n' 9 (([c0, c1, c2].drop 2).take (Tryz.prog.cellsOf 9)) = some y2 := hf 2 _ rfl; rw [cells_str] at h2; obtain ⟨u, e0, _⟩ := DataW.trod_bool Tryz.underlying4 (show DataW.trod enc Tryz.prog w base spare held n' 4 [c0] = some y0 from h0); obtain ⟨m, e1, _, wm⟩ := DataW.trod_int Tryz.underlying2 (show DataW.trod enc Tryz.prog w base spare held n' 2 [c1] = some y1 from h1); obtain ⟨s, e2, _, ws⟩ := DataW.trod_string Tryz.underlying9 (show DataW.trod enc Tryz.prog w base spare held n' 9 [c2] = some y2 from h2)
 obtain rfl : c0 = .bool u := by simpa using e0
 obtain rfl : c1 = .int .i64 m := by simpa using e1
 obtain rfl : c2 = .string s := by simpa using e2
 exact ⟨(u, m, s), rfl, ws, I64.of wm⟩
theorem type_el {n : Nat} {cs' : List Value} {y : DataW H × List MemPlace} (h : DataW.trod enc Tryz.prog w base spare held n 55 cs' = some y) : ∃ x : Ty, cs' = [.int .i64 x.1, .bool x.2] ∧ I64 x.1 := by
 obtain ⟨xs, n', _, _, hl, hxl, hf⟩ := DataW.trod_struct Tryz.underlying55 h; rw [cells_type] at hl; obtain ⟨y0, y1, rfl⟩ := len2 (show xs.length = 2 from hxl); obtain ⟨c0, c1, rfl⟩ := len2 hl; have h0 : DataW.trod enc Tryz.prog w base spare held n' 3 (([c0, c1].drop 0).take (Tryz.prog.cellsOf 3)) = some y0 := hf 0 _ rfl; rw [cells_int] at h0; have h1 : DataW.trod enc Tryz.prog w base spare held n' 4 (([c0, c1].drop 1).take (Tryz.prog.cellsOf 4)) = some y1 := hf 1 _ rfl; rw [cells_bool] at h1
 obtain ⟨m, e0, _, wm⟩ := DataW.trod_int Tryz.underlying3 (show DataW.trod enc Tryz.prog w base spare held n' 3 [c0] = some y0 from h0); obtain ⟨u, e1, _⟩ := DataW.trod_bool Tryz.underlying4 (show DataW.trod enc Tryz.prog w base spare held n' 4 [c1] = some y1 from h1)
 obtain rfl : c0 = .int .i64 m := by simpa using e0
 obtain rfl : c1 = .bool u := by simpa using e1
 exact ⟨(m, u), rfl, I64.of wm⟩
theorem col_el {n : Nat} {cs' : List Value} {y : DataW H × List MemPlace} (h : DataW.trod enc Tryz.prog w base spare held n 59 cs' = some y) : ∃ x : Co, cs' = coV x ∧ ColIn x := by
 obtain ⟨xs, n', _, _, hl, hxl, hf⟩ := DataW.trod_struct Tryz.underlying59 h; rw [cells_col] at hl; obtain ⟨y0, y1, y2, y3, rfl⟩ := len4 (show xs.length = 4 from hxl); obtain ⟨c0, c1, c2, c3, c4, c5, c6, rfl⟩ := len7 hl; have h0 : DataW.trod enc Tryz.prog w base spare held n' 3 (([c0, c1, c2, c3, c4, c5, c6].drop 0).take (Tryz.prog.cellsOf 3)) = some y0 := hf 0 _ rfl; rw [cells_int] at h0; have h1 : DataW.trod enc Tryz.prog w base spare held n' 9 (([c0, c1, c2, c3, c4, c5, c6].drop 1).take (Tryz.prog.cellsOf 9)) = some y1 := hf 1 _ rfl; rw [cells_str] at h1
 have h2 : DataW.trod enc Tryz.prog w base spare held n' 55 (([c0, c1, c2, c3, c4, c5, c6].drop 2).take (Tryz.prog.cellsOf 55)) = some y2 := hf 2 _ rfl; rw [cells_type] at h2; have h3 : DataW.trod enc Tryz.prog w base spare held n' 57 (([c0, c1, c2, c3, c4, c5, c6].drop 4).take (Tryz.prog.cellsOf 57)) = some y3 := hf 3 _ rfl; rw [cells_cell] at h3; obtain ⟨m, e0, _, wm⟩ := DataW.trod_int Tryz.underlying3 (show DataW.trod enc Tryz.prog w base spare held n' 3 [c0] = some y0 from h0)
 obtain ⟨s, e1, _, ws⟩ := DataW.trod_string Tryz.underlying9 (show DataW.trod enc Tryz.prog w base spare held n' 9 [c1] = some y1 from h1); obtain ⟨t, e2, wt⟩ := type_el (show DataW.trod enc Tryz.prog w base spare held n' 55 [c2, c3] = some y2 from h2); obtain ⟨c, e3, wc⟩ := cell_el (show DataW.trod enc Tryz.prog w base spare held n' 57 [c4, c5, c6] = some y3 from h3)
 obtain rfl : c0 = .int .i64 m := by simpa using e0
 obtain rfl : c1 = .string s := by simpa using e1
 have e2' : c2 = .int .i64 t.1 ∧ c3 = .bool t.2 := by simpa using e2
 have e3' : c4 = .bool c.1 ∧ c5 = .int .i64 c.2.1 ∧ c6 = .string c.2.2 := by simpa [clV] using e3
 obtain ⟨rfl, rfl⟩ := e2'; obtain ⟨rfl, rfl, rfl⟩ := e3'; exact ⟨(m, s, t, c), rfl, I64.of wm, ws, wt, wc⟩
def oneI (n : Int) : List Value := [.int .i64 n]
theorem oneI_len (n : Int) : (oneI n).length = 1 := rfl
theorem int_el {n : Nat} {cs' : List Value} {y : DataW H × List MemPlace} (h : DataW.trod enc Tryz.prog w base spare held n 3 cs' = some y) : ∃ x : Int, cs' = oneI x ∧ I64 x := by
 obtain ⟨m, e, _, wm⟩ := DataW.trod_int Tryz.underlying3 h; exact ⟨m, e, I64.of wm⟩
theorem ext_ints {B : Nat} {A : Option Addr} {l : List Int} (h : Ext w B A (l.flatMap oneI)) : Ext w B A (intV l) := by
 have e : intV l = l.flatMap oneI := by
  clear h
  induction l with
  | nil => rfl
  | cons a t ih => show .int .i64 a :: intV t = [.int .i64 a] ++ t.flatMap oneI; rw [ih]; rfl
 rw [e]; exact h
end
end Go.Proofs.YtikpmmipopmjaaaGreatDoor
namespace Go.Ms
open Go.RowKit Go.Lib
theorem clV_len (c : Cl) : (clV c).length = 3 := rfl
theorem coV_len (c : Co) : (coV c).length = 7 := rfl
theorem colsV_take (l : List Co) : ∀ (n : Nat), (colV l).take (n * 7) = colV (l.take n) := by
 induction l with
 | nil => intro n; simp [colV]
 | cons a t ih =>
  intro n
  cases n with
  | zero => simp [colV]
  | succ n =>
   show (coV a ++ colV t).take ((n + 1) * 7) = coV a ++ colV (t.take n)
   rw [List.take_append, coV_len, show (n + 1) * 7 - 7 = n * 7 by omega, ih n, List.take_of_length_le (by rw [coV_len]; omega)]
end Go.Ms
set_option linter.unusedSimpArgs false
namespace Go.Ms
open Go.RowKit Go.Lib
theorem colV_set : ∀ (l : List Co) (k : Nat) (c : Co), k < l.length → ((((((((colV l).set (k * 7) (.int .i64 c.1)).set (k * 7 + 1) (.string c.2.1)).set (k * 7 + 2) (.int .i64 c.2.2.1.1)).set (k * 7 + 3) (.bool c.2.2.1.2)).set (k * 7 + 4) (.bool c.2.2.2.1)).set (k * 7 + 5) (.int .i64 c.2.2.2.2.1)).set (k * 7 + 6) (.string c.2.2.2.2.2)) = colV (l.set k c)
  | [], k, c, h => by simp at h
  | a :: t, 0, c, h => rfl
  | a :: t, k + 1, c, h => by
   have ih := colV_set t k c (by simpa using h)
   have ec : ∀ (x : Co) (m : List Co), colV (x :: m) = .int .i64 x.1 :: .string x.2.1 :: .int .i64 x.2.2.1.1 :: .bool x.2.2.1.2 :: .bool x.2.2.2.1 :: .int .i64 x.2.2.2.2.1 :: .string x.2.2.2.2.2 :: colV m := fun _ _ => rfl
   have e0 : (k + 1) * 7 = k * 7 + 7 := by omega
   rw [List.set_cons_succ, ec, ec, e0]; simp only [Nat.add_assoc, Nat.reduceAdd, List.set_cons_succ]; rw [ih]
theorem own_co {w : World} {B n cap g : Nat} {e : TypeId} {l : List Co} {k : Nat} {c : Co} (h : OwnCo w B e (.slice (some ⟨g, 0, none⟩) n cap) l) (hc : l[k]? = some c) :
    w.cell? ⟨g, k * 7, none⟩ = some (.int .i64 c.1) ∧ w.cell? ⟨g, k * 7 + 1, none⟩ = some (.string c.2.1) ∧ w.cell? ⟨g, k * 7 + 2, none⟩ = some (.int .i64 c.2.2.1.1) ∧ w.cell? ⟨g, k * 7 + 3, none⟩ = some (.bool c.2.2.1.2) ∧ w.cell? ⟨g, k * 7 + 4, none⟩ = some (.bool c.2.2.2.1) ∧ w.cell? ⟨g, k * 7 + 5, none⟩ = some (.int .i64 c.2.2.2.2.1) ∧ w.cell? ⟨g, k * 7 + 6, none⟩ = some (.string c.2.2.2.2.2) ∧
    w.frozen? ⟨g, k * 7, none⟩ = false ∧ w.frozen? ⟨g, k * 7 + 1, none⟩ = false ∧ w.frozen? ⟨g, k * 7 + 2, none⟩ = false ∧ w.frozen? ⟨g, k * 7 + 3, none⟩ = false ∧ w.frozen? ⟨g, k * 7 + 4, none⟩ = false ∧ w.frozen? ⟨g, k * 7 + 5, none⟩ = false ∧ w.frozen? ⟨g, k * 7 + 6, none⟩ = false := by
 have hl := h.lay; have hk : k < l.length := (List.getElem?_eq_some_iff.1 hc).1; have k7 := colV_at l k c hc
 have h' : w.ownsRow B e 7 (.slice (some ⟨g, 0, none⟩) n cap) n (colV l) := by unfold OwnCo at h; rw [← hl.1] at h; exact h
 have hn := hl.1
 have hcell : ∀ j, j < n * 7 → w.cell? ⟨g, j, none⟩ = (colV l)[j]? := fun j hj => World.ownsRow.cellAt h' j hj
 refine ⟨(hcell _ (by omega)).trans (k7 0 _ rfl), (hcell _ (by omega)).trans (k7 1 _ rfl), (hcell _ (by omega)).trans (k7 2 _ rfl), (hcell _ (by omega)).trans (k7 3 _ rfl), (hcell _ (by omega)).trans (k7 4 _ rfl), (hcell _ (by omega)).trans (k7 5 _ rfl), (hcell _ (by omega)).trans (k7 6 _ rfl),
   World.ownsRow.frozenAt h' _, World.ownsRow.frozenAt h' _, World.ownsRow.frozenAt h' _, World.ownsRow.frozenAt h' _, World.ownsRow.frozenAt h' _, World.ownsRow.frozenAt h' _, World.ownsRow.frozenAt h' _⟩
theorem own_put {w : World} {B n cap g : Nat} {e : TypeId} {l : List Co} {k : Nat} (h : OwnCo w B e (.slice (some ⟨g, 0, none⟩) n cap) l) (hk : k < l.length) (c : Co) :
    OwnCo (((((((w.setCell ⟨g, k * 7, none⟩ (.int .i64 c.1)).setCell ⟨g, k * 7 + 1, none⟩ (.string c.2.1)).setCell ⟨g, k * 7 + 2, none⟩ (.int .i64 c.2.2.1.1)).setCell ⟨g, k * 7 + 3, none⟩ (.bool c.2.2.1.2)).setCell ⟨g, k * 7 + 4, none⟩ (.bool c.2.2.2.1)).setCell ⟨g, k * 7 + 5, none⟩ (.int .i64 c.2.2.2.2.1)).setCell ⟨g, k * 7 + 6, none⟩ (.string c.2.2.2.2.2)) B e (.slice (some ⟨g, 0, none⟩) n cap) (l.set k c) := by
 have hl := h.lay
 have h' : w.ownsRow B e 7 (.slice (some ⟨g, 0, none⟩) n cap) n (colV l) := by unfold OwnCo at h; rw [← hl.1] at h; exact h
 unfold OwnCo; rw [List.length_set, ← hl.1, ← colV_set l k c hk]; exact (World.ownsRow.stored (World.ownsRow.stored (World.ownsRow.stored (World.ownsRow.stored (World.ownsRow.stored (World.ownsRow.stored (World.ownsRow.stored h' _ _).1 _ _).1 _ _).1 _ _).1 _ _).1 _ _).1 _ _).1
def cutCo (c : Co) : Co := (c.1, c.2.1.extract 0 (min c.2.1.size 40), c.2.2.1, (c.2.2.2.1, c.2.2.2.2.1, c.2.2.2.2.2.extract 0 (min c.2.2.2.2.2.size 1100)))
theorem cut_step {l : List Co} {k : Nat} {c : Co} (hc : l[k]? = some c) : (((l.take k).map cutCo ++ l.drop k).set k (cutCo c)) = (l.take (k + 1)).map cutCo ++ l.drop (k + 1) := by
 have hk : k < l.length := (List.getElem?_eq_some_iff.1 hc).1
 have e1 : ((l.take k).map cutCo).length = k := by rw [List.length_map, List.length_take]; omega
 have e2 : l.drop k = c :: l.drop (k + 1) := by
  have := List.getElem?_eq_some_iff.1 hc; rw [List.drop_eq_getElem_cons hk, this.2]
 rw [List.set_append_right _ _ (by omega), e1, Nat.sub_self, e2, List.set_cons_zero, List.take_add_one, hc]
 simp
theorem cut_at {l : List Co} {k : Nat} {c : Co} (hc : l[k]? = some c) : ((l.take k).map cutCo ++ l.drop k)[k]? = some c := by
 have hk : k < l.length := (List.getElem?_eq_some_iff.1 hc).1
 have e1 : ((l.take k).map cutCo).length = k := by rw [List.length_map, List.length_take]; omega
 rw [List.getElem?_append_right (by omega), e1, Nat.sub_self, List.getElem?_drop]; exact hc
structure FewSt (tS : TypeId) (tC tI : TypeId) (w : World) (v1 v2 : Value) (l : List Co) (ks : List Int) (wr : World) : Prop where
  box : wr.heap[w.heap.size]? = some (.cells #[v1, v2] tS (0, 0))
  res : wr.heap[w.heap.size + 1]? = some (.cells #[.slice none 0 0, .slice none 0 0] tS (0, 0))
  o1 : OwnCo wr (w.heap.size + 2) tC v1 l
  o2 : OwnI wr (w.heap.size + 2) tI v2 ks
  bel : Below w.heap.size w wr
theorem FewSt.step {tS tC tI : TypeId} {w wr w' : World} {v1 v2 : Value} {l : List Co} {ks : List Int} (h : FewSt tS tC tI w v1 v2 l ks wr) (hb : Below wr.heap.size wr w') : FewSt tS tC tI w v1 v2 l ks w' :=
  ⟨bk_ h.box hb, bk_ h.res hb, own_below h.o1 hb, own_below h.o2 hb, h.bel.trans (hb.mono h.bel.size)⟩
theorem grown7 (w : World) (g i : Nat) (a b c d e f x : Value) : w.grownBy (((((((w.setCell ⟨g, i, none⟩ a).setCell ⟨g, i + 1, none⟩ b).setCell ⟨g, i + 2, none⟩ c).setCell ⟨g, i + 3, none⟩ d).setCell ⟨g, i + 4, none⟩ e).setCell ⟨g, i + 5, none⟩ f).setCell ⟨g, i + 6, none⟩ x) (some g) :=
  (((((((grown_set' w g i a).trans (grown_set' _ g (i + 1) b)).trans (grown_set' _ g (i + 2) c)).trans (grown_set' _ g (i + 3) d)).trans (grown_set' _ g (i + 4) e)).trans (grown_set' _ g (i + 5) f)).trans (grown_set' _ g (i + 6) x))
theorem FewSt.put {tS tC tI : TypeId} (hne : tC ≠ tI) {w wr : World} {n cap g k : Nat} {v2 : Value} {l : List Co} {ks : List Int} (h : FewSt tS tC tI w (.slice (some ⟨g, 0, none⟩) n cap) v2 l ks wr) (hk : k < l.length) (c : Co) :
    FewSt tS tC tI w (.slice (some ⟨g, 0, none⟩) n cap) v2 (l.set k c) ks (((((((wr.setCell ⟨g, k * 7, none⟩ (.int .i64 c.1)).setCell ⟨g, k * 7 + 1, none⟩ (.string c.2.1)).setCell ⟨g, k * 7 + 2, none⟩ (.int .i64 c.2.2.1.1)).setCell ⟨g, k * 7 + 3, none⟩ (.bool c.2.2.1.2)).setCell ⟨g, k * 7 + 4, none⟩ (.bool c.2.2.2.1)).setCell ⟨g, k * 7 + 5, none⟩ (.int .i64 c.2.2.2.2.1)).setCell ⟨g, k * 7 + 6, none⟩ (.string c.2.2.2.2.2)) := by
 have hg := grown7 wr g (k * 7) (.int .i64 c.1) (.string c.2.1) (.int .i64 c.2.2.1.1) (.bool c.2.2.1.2) (.bool c.2.2.2.1) (.int .i64 c.2.2.2.2.1) (.string c.2.2.2.2.2); have hb := (World.ownsRow.lt h.o1 g rfl).1; refine ⟨(hg.block _ (Array.getElem?_eq_some_iff.1 h.box).1 (fun e => by cases e; omega)).trans h.box, (hg.block _ (Array.getElem?_eq_some_iff.1 h.res).1 (fun e => by cases e; omega)).trans h.res, own_put h.o1 hk c, World.ownsRow.kept h.o2 hg ?_, h.bel.grown hg h.bel.size (fun k e => by cases e; omega)⟩; have := own_apart h.o2 h.o1 (Ne.symm hne)
 simpa [Value.ownBlock] using this
end Go.Ms
namespace Go.Proofs.YtikpmmipopmjaaaGreatDoor
open Go.RowKit Go.Ms Go.Lib
end Go.Proofs.YtikpmmipopmjaaaGreatDoor
namespace Go.Proofs.YtikpmmipopmjaaaGreatDoor
open Go.RowKit Go.Ms Go.Lib
set_option maxHeartbeats 4000000 in
theorem few12_any (w : World) (A B : Option Addr) (n cap m capm : Nat) (cs : List Co) (ks : List Int) (hn : n ≤ cap) (hcap : cap ≤ maxLen) (hcs : cs.length = n) (hA : Ext w w.heap.size A (colV cs)) (hm : m ≤ capm) (hcapm : capm ≤ maxLen) (hks : ks.length = m) (hB : Ext w w.heap.size B (intV ks)) :
    Calls Tryz.prog 11 #[.agg #[.slice A n cap, .slice B m capm]] w fun e w' => ∃ A' c' B' d', e = .returned (.agg #[.slice A' (min n 34) c', .slice B' (min m 10) d']) ∧ OwnCo w' w.heap.size 59 (.slice A' (min n 34) c') ((cs.take 34).map cutCo) ∧ OwnI w' w.heap.size 3 (.slice B' (min m 10) d') (ks.take 10) ∧ Below w.heap.size w w' := by
 obtain ⟨N, hN⟩ : ∃ N : Nat, N = min n 34 := ⟨_, rfl⟩; obtain ⟨M, hM⟩ : ∃ M : Nat, M = min m 10 := ⟨_, rfl⟩; rw [← hN, ← hM]; obtain ⟨X, hX⟩ : ∃ X, X = (w.alloc (.cells #[.slice A n cap, .slice B m capm] 25)).alloc (.cells #[.slice none 0 0, .slice none 0 0] 25) := ⟨_, rfl⟩
 have bX : Below w.heap.size w X := by rw [hX]; exact ((Below.refl _ w).alloc le_ _).alloc (by rw [World.size_alloc]; omega) _
 have sX : X.heap.size = w.heap.size + 2 := by rw [hX]; simp only [World.size_alloc]
 have q0 : X.heap[w.heap.size]? = some (.cells #[.slice A n cap, .slice B m capm] 25 (0, 0)) := by rw [hX]; exact bx_ (block_new _ _) _
 have q1 : X.heap[w.heap.size + 1]? = some (.cells #[.slice none 0 0, .slice none 0 0] 25 (0, 0)) := by rw [hX]; have := block_new (w.alloc (.cells #[.slice A n cap, .slice B m capm] 25)) (.cells #[.slice none 0 0, .slice none 0 0] 25); rw [World.size_alloc] at this; exact this
 have hc1 := copycols_any X A N cap (colV (cs.take 34)) (by omega) (by rw [colV_len, List.length_take]; omega) (by rw [show colV (cs.take 34) = (colV cs).take (34 * 7) from (colsV_take cs 34).symm]; exact ((hA.keep bX).more bX.size).take _) (colV_one _)
 have hc2 := fun (w1 : World) (h : Below w.heap.size w w1) => copyints_any w1 B M capm (ks.take 10) (by omega) (by rw [List.length_take]; omega) (by unfold intV; rw [List.map_take]; exact ((hB.keep h).more h.size).take 10)
 have hmin1 : min (n : Int) 34 = (N : Int) := by omega
 have hmin2 : min (m : Int) 10 = (M : Int) := by omega
 have hN1 : (N : Int) ≤ cap := by omega
 have hM1 : (M : Int) ≤ capm := by omega
 have hN2 : (0 : Int) ≤ (N : Int) := by omega
 have hM2 : (0 : Int) ≤ (M : Int) := by omega
 have hNc : N ≤ cap := by omega
 have hMc : M ≤ capm := by omega
 have hNl : (cs.take 34).length = N := by rw [List.length_take]; omega
 have hMl : (ks.take 10).length = M := by rw [List.length_take]; omega
 have hN40 : N ≤ 34 := by omega
 generalize hls : cs.take 34 = l at hc1 hNl ⊢
 generalize hkk : ks.take 10 = kk at hc2 hMl ⊢
 have y0 := cb_ 0 q0 rfl; have y1 := cb_ 1 q0 rfl; have g0 := fz_ 0 q0; unfold maxLen at hcap hcapm
 have HC1 := hh_ hc1; have HC2 := hh_ hc2; have BX := hh_ bX; have SX := hh_ sX; have Q0 := hh_ q0; have Q1 := hh_ q1; have HNL := hh_ hNl; have HML := hh_ hMl
 clear hc1 hc2 bX q0 q1 hA hB hls hkk hcs hks hN hM hNl hMl
 go_enter Tryz.func11, Tryz.ntmps11
 go_wp2_with fail
 rw [← hX]; clear hX sX
 go_wp2_with fail
 refine HC1.out.mono ?_; rintro en w1 ⟨v, rfl, ho1, b1⟩; obtain ⟨A1, c1, e1, _⟩ := yown_slice ho1; subst e1; have p0 := bk_ Q0.out b1; have p1 := bk_ Q1.out b1; have f0 := fz_ 0 p0; have x0 := cb_ 0 p0 rfl; have x1 := cb_ 1 p0 rfl; have hb1 := BX.out.trans (b1.mono BX.out.size)
 have O1 := hh_ (own_more ho1 (Nat.le_of_eq SX.out.symm)); have P0 := hh_ p0; have P1 := hh_ p1; have B1 := hh_ hb1
 clear ho1 b1 p0 p1 hb1 y0 y1 g0
 go_wp2_with fail
 refine (HC2.out _ (B1.out.setCell (p := ⟨w.heap.size, 0, none⟩) le_ _)).mono ?_; rintro en w2 ⟨v, rfl, ho2, b2⟩; obtain ⟨B2, d2, e2, _⟩ := yown_slice ho2; rw [HML.out] at e2; subst e2
 have hst : FewSt 25 59 3 w (.slice A1 N c1) (.slice B2 M d2) l kk (w2.setCell ⟨w.heap.size, 1, none⟩ (.slice B2 M d2)) := by
  have hz := SX.out; have hz1 := B1.out.size
  have hz2 : w.heap.size + 2 ≤ (w1.setCell ⟨w.heap.size, 0, none⟩ (.slice A1 N c1)).heap.size := by
   rw [World.size_setCell]; have := (Array.getElem?_eq_some_iff.1 P1.out).1; omega
  refine ⟨two_set1 (bk_ (two_set0 P0.out _) b2) _, far_set (bk_ (far_set P1.out (by omega) _) b2) (by omega) _, ?_, own_set' (own_more ho2 hz2) (by omega) _, (((B1.out.setCell (p := ⟨w.heap.size, 0, none⟩) le_ _).trans (b2.mono (by omega))).setCell (p := ⟨w.heap.size, 1, none⟩) le_ _)⟩; unfold OwnCo; rw [HNL.out]; exact own_set' (own_below (own_set' O1.out (by omega) _) b2) (by omega) _
 have q2 := bk_ (two_set0 P0.out (.slice A1 N c1)) b2; have f1 := fz_ 1 q2; have x3 := cb_ 1 q2 rfl; have HST := hh_ hst; clear hst ho2 b2 q2 x0 x1 f0
 go_wp2_with fail
 go_loopw [3] (fun i wr => ∃ k : Nat, k ≤ N ∧ i = .int .i64 k ∧ FewSt 25 59 3 w (.slice A1 N c1) (.slice B2 M d2) ((l.take k).map cutCo ++ l.drop k) kk wr) (fun i _ => N - (RowKit.intOf i).toNat)
 case atStart => exact ⟨0, by omega, rfl, by simpa using HST.out⟩
 case round =>
  obtain ⟨k, hk, rfl, hs⟩ := hrel; have z0 := cb_ 0 hs.box rfl; have z1 := cb_ 1 hs.box rfl
  by_cases hlk : k < N
  · have hki : (k : Int) < N := by omega
    obtain ⟨c, hc⟩ : ∃ c, l[k]? = some c := ⟨_, List.getElem?_eq_getElem (by rw [HNL.out]; omega)⟩; have hca := cut_at hc
    obtain ⟨g, rfl⟩ : ∃ g, A1 = some ⟨g, 0, none⟩ := by
     rcases hs.o1.2 with ⟨_, h0⟩ | ⟨g, cap', cur, hv, _⟩
     · have := (List.getElem?_eq_some_iff.1 hca).1; omega
     · injection hv with h1; exact ⟨g, h1⟩
    obtain ⟨hgb, hgl⟩ := World.ownsRow.lt hs.o1 g rfl; have hlen : k < ((l.take k).map cutCo ++ l.drop k).length := (List.getElem?_eq_some_iff.1 hca).1; have hstep := cut_step hc; obtain ⟨i0, s0, ⟨k0, u0⟩, n0, m0, t0⟩ := c; obtain ⟨a, ha⟩ : ∃ a : Nat, a = min s0.size 40 := ⟨_, rfl⟩; obtain ⟨b, hb⟩ : ∃ b : Nat, b = min t0.size 1100 := ⟨_, rfl⟩
    have hcut : cutCo ((i0, s0, (k0, u0), n0, m0, t0) : Co) = (i0, s0.extract 0 a, (k0, u0), n0, m0, t0.extract 0 b) := by unfold cutCo; rw [ha, hb]
    have ma : min (s0.size : Int) 40 = (a : Int) := by omega
    have mb : min (t0.size : Int) 1100 = (b : Int) := by omega
    have la : (a : Int) ≤ s0.size := by omega
    have lb : (b : Int) ≤ t0.size := by omega
    have la0 : (0 : Int) ≤ (a : Int) := by omega
    have lb0 : (0 : Int) ≤ (b : Int) := by omega
    have la1 : a ≤ s0.size := by omega
    have lb1 : b ≤ t0.size := by omega
    obtain ⟨c0, c1', c2, c3, c4, c5, c6, h0, h1, h2, h3, h4, h5, h6⟩ := own_co hs.o1 hca; have hs2 := hs.step ((Below.refl wr.heap.size wr).alloc le_ (.cells #[.int .i64 i0, .string (s0.extract 0 a), .int .i64 k0, .bool u0, .bool n0, .int .i64 m0, .string (t0.extract 0 b)] 59)); obtain ⟨e0, e1, e2, e3, e4, e5, e6, f0, f1', f2, f3, f4, f5, f6⟩ := own_co hs2.o1 hca; have hp := hs.put (by decide) hlen ((i0, s0.extract 0 a, (k0, u0), n0, m0, t0.extract 0 b) : Co); rw [← hcut, hstep, hcut] at hp
    have hp2 := hp.step (br_.alloc le_ (.cells #[.int .i64 i0, .string (s0.extract 0 a), .int .i64 k0, .bool u0, .bool n0, .int .i64 m0, .string (t0.extract 0 b)] 59)); have zz0 := cb_ 0 hs2.box rfl
    have hne : g ≠ wr.heap.size := by omega
    simp only at c0 c1' c2 c3 c4 c5 c6 e0 e1 e2 e3 e4 e5 e6
    have HP := hh_ hp2; have HS := hh_ hs; have HC := hh_ hc; have HS2 := hh_ hs2
    clear hp hp2 hs hc hs2 hca hstep hcut ha hb hlen
    go_wp2_with fail
    refine ⟨⟨k + 1, by omega, by go_num, HP.out⟩, ?_⟩
    simp [RowKit.intOf]; omega
  · have hki : ¬ (k : Int) < N := by omega
    obtain rfl : k = N := by omega
    have hfin : (l.take k).map cutCo ++ l.drop k = l.map cutCo := by
     rw [List.take_of_length_le (by rw [HNL.out]; omega), List.drop_eq_nil_of_le (by rw [HNL.out]; omega), List.append_nil]
    rw [hfin] at hs; have zr0 := fz_ 0 hs.res; have zr1 := fz_ 1 hs.res; have zs0 := cb_ 0 hs.res rfl; have zs1 := cb_ 1 hs.res rfl; have HS := hh_ hs; clear hs hfin
    go_wp2_with fail
    have hr := two_set1 (two_set0 HS.out.res (.slice A1 k c1)) (.slice B2 M d2); have r0 := cb_ 0 hr rfl; have r1 := cb_ 1 hr rfl; refine bodyPost_ret (v := .agg #[.slice A1 k c1, .slice B2 M d2]) (by simp [results, Tryz.results11, go_sem, r0, r1]) rfl ?_; exact ⟨A1, c1, B2, d2, rfl, own_more (own_set' (own_set' HS.out.o1 (by omega) _) (by omega) _) (by omega), own_more (own_set' (own_set' HS.out.o2 (by omega) _) (by omega) _) (by omega), (HS.out.bel.setCell (p := ⟨w.heap.size + 1, 0, none⟩) (by simp only; omega) _).setCell (p := ⟨w.heap.size + 1, 1, none⟩) (by simp only; omega) _⟩
end Go.Proofs.YtikpmmipopmjaaaGreatDoor
namespace Go.Proofs.YtikpmmipopmjaaaGreatDoor
open Go.RowKit Go.Ms Go.Lib
theorem under_cells : Tryz.prog.underlying 26 = some (.slice 57) := Tryz.underlying26
theorem clone_any (w : World) (A : Option Addr) (n cap : Nat) (xs : List Cl) (hn' : n ≤ 100000) (hn : n = xs.length) (hA : Lay w w.heap.size A (rowV xs)) :
    Calls Tryz.prog 48 #[.slice A n cap] w fun e w' => ∃ v, e = .returned v ∧ OwnC w' w.heap.size 57 v xs ∧ Below w.heap.size w w' := by
 obtain ⟨i0, hi, hz0, hz1, hz2⟩ := info_parts cell_info
 rcases A with _ | a
 · have h0 := hA.none_len
   have hx : xs = [] := by
    have := rowV_len xs; rw [h0] at this
    exact List.eq_nil_of_length_eq_zero (by simp at this; omega)
   subst hx
   obtain rfl : n = 0 := by simpa using hn
   have he := fun w => run_eql_slice_nil (P := Tryz.prog) w 26 57 none 0 cap 0 0 under_cells
   clear hA h0 hn hn'
   go_enter Tryz.func48, Tryz.ntmps48
   go_wp2_with fail
   go_ret
   exact ⟨_, rfl, World.ownsRow_nil _ _ _ _, Below.refl _ _⟩
 · have he := fun w => run_eql_slice_nil (P := Tryz.prog) w 26 57 (some a) n cap 0 0 under_cells
   have HA := hh_ hA; have HN := hh_ hn
   clear hA hn
   go_enter Tryz.func48, Tryz.ntmps48
   have hown0 : (w.alloc (.cells #[] 57)).ownsRow w.heap.size 57 3 (.slice (some ⟨w.heap.size, 0, none⟩) 0 0) 0 [] := World.ownsRow_made w #[] 0 le_ ml_ rfl; have hb0 : Below w.heap.size w (w.alloc (.cells #[] 57)) := br_.alloc le_ _
   have HO := hh_ hown0; have HB := hh_ hb0
   clear hown0 hb0
   go_wp2_with (at_builtin; refine wpList_append_lay rfl (.tmp 5) (.tmp 6) _ rfl w.heap.size 57 i0 _ 3 32 under_cells hi hz0 hz1 hz2 rfl (by omega) (.slice (some ⟨w.heap.size, 0, none⟩) 0 0) 0 [] rfl HO.out w.heap.size (some a) n cap (rowV xs) rfl (by rw [rowV_len, HN.out]) (HA.out.below HB.out) (rowV_one _) ml_ (by omega) HB.out.size ?_; intro v1 w1 hown1 hg1)
   have HO1 := hh_ hown1; have HB1 := hh_ (own_grown HO.out HB.out HB.out.size le_ hg1); clear hown1 hg1
   go_wp2_with fail
   go_ret
   refine ⟨_, rfl, ?_, HB1.out⟩; unfold OwnC; have := HO1.out; rw [Nat.zero_add, HN.out] at this; exact this
end Go.Proofs.YtikpmmipopmjaaaGreatDoor
namespace Go.Proofs.YtikpmmipopmjaaaGreatDoor
open Go.RowKit Go.Ms Go.Lib
theorem copyrow_any (w : World) (A : Option Addr) (n cap : Nat) (l : List Cl) (hn' : n ≤ 100000) (hn : l.length = n) (hA : Ext w w.heap.size A (rowV l)) :
    Calls Tryz.prog 14 #[.slice A n cap] w fun e w' => ∃ v, e = .returned v ∧ OwnC w' w.heap.size 57 v l ∧ Below w.heap.size w w' := by
 obtain ⟨i0, hi, hz0, hz1, hz2⟩ := info_parts cell_info
 have HA := hh_ hA; have HN := hh_ hn
 clear hA hn
 go_enter Tryz.func14, Tryz.ntmps14
 go_wp2_with (at_builtin; refine wpList_copy_ext rfl (.tmp 4) (.tmp 5) _ rfl w.heap.size 57 i0 _ 3 32 under_cells hi hz0 hz1 hz2 rfl (by omega) rfl w.heap.size A n cap (rowV l) rfl (by rw [rowV_len, HN.out]) HA.out (rowV_one _) ml_ (by omega) le_ ?_; intro v1 w1 hown1 hb1)
 have HO := hh_ hown1; have HB := hh_ hb1
 clear hown1 hb1
 go_wp2_with fail
 go_ret
 refine ⟨_, rfl, ?_, HB.out⟩; unfold OwnC; rw [HN.out]; exact HO.out
theorem rcopyrow_any (w : World) (A : Option Addr) (n cap : Nat) (l : List Cl) (hn' : n ≤ 100000) (hn : n = l.length) (hA : Lay w w.heap.size A (rowV l)) :
    Calls Tryz.prog 14 #[.slice A n cap] w fun e w' => ∃ v, e = .returned v ∧ OwnC w' w.heap.size 57 v l ∧ Below w.heap.size w w' := copyrow_any w A n cap l hn' hn.symm hA.ext
end Go.Proofs.YtikpmmipopmjaaaGreatDoor
