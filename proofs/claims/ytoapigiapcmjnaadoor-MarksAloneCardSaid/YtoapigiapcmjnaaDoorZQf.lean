/- The laid tables of unicode/utf8: a world for the witness. Schemas: an argument's lists, read as such. Schemas of a seed, plainly. A region that draws its order, whose last operation waits for all others: as XRel's rule, the last one carried out behind it. Seeds of schemas: one column, walked. Seeds of schemas: an argument's list of fives, read as such. Schemas: columns of one's own, stored; a schema cut. Schemas: a copy. Schemas: the examples, read (closed). Schemas: the examples, walked. Schemas: names of whatever length; schemas that lie in memory. Schemas: a number among numbers; four texts joined; the lines of a schema. Schemas, plainly: what is read has that text; what may be is read of its text as it was. Schemas, plainly: a kind's word as the reference looks for it. Schemas, plainly: what may be is read of its text as it was. Schemas of a seed, plainly: their texts are short, and have a line feed for each column. Seeds of schemas: the schema of a seed, walked. Marks: the laws' arguments opened: lists of places, lists of numbers. -/
import Derived.Test.YtoapigiapcmjnaaDoorZQa
import Derived.Lib.LaidU8
import Derived.Deep.DeepHandedRow
import Derived.OpenShut
import Derived.ShutString
import Derived.ProofKit
import Derived.Test.YtoapigiapcmjnaaDoorZQc
import Derived.Deep.Slices
import Derived.Deep.Fields
import Derived.ChangeSame
import Derived.Lib.SmallJoins
import Derived.Test.YtoapigiapcmjnaaDoorZQb
import Derived.Test.YtoapigiapcmjnaaDoorZQd
import Derived.Deep.DeepCutAuto
import Derived.Deep.RegionWith
import Derived.WalkKit
import Derived.Lib.ItoaLen
import Derived.Lib.ItoaMem
import Derived.Test.YtoapigiapcmjnaaDoorZm9
set_option linter.unusedVariables false
namespace Go.Proofs.YtoapigiapcmjnaaDoor
open Go.RowKit Go.Ms Go.Lib
theorem own : ownKnob Tryd.prog.godebug = none := by kernel_rfl
theorem laidOut : laidOutB Tryd.prog = true := by kernel_rfl
def putCells (cs : Array Value) : Obj → Obj
  | .cells _ t frozen => .cells cs t frozen
  | o => o
/-- A world that holds the two tables. -/
noncomputable def laidWorld (os : Os) : World :=
  { World.holding Tryd.prog os ⟨#[], #[], []⟩ with heap := ((World.holding Tryd.prog os ⟨#[], #[], []⟩).heap.modify 0 (putCells (firstTab.map (Value.int .u8)).toArray)).modify 1 (putCells ((List.range 16).flatMap fun i => [Value.int .u8 (accLo i), Value.int .u8 (accHi i)]).toArray) }
end Go.Proofs.YtoapigiapcmjnaaDoor
namespace Go.Ms
open Go.RowKit Go.Lib Go.ChangeShapes Go.WideShapes Go.Deep
def I64 (n : Int) : Prop := -9223372036854775808 ≤ n ∧ n ≤ 9223372036854775807
theorem I64.of {n : Int} (h : (Lit.int .i64 n).wf = true) : I64 n := bounds_i64 h
section
variable {H : Type} {enc : TypeId × Value → H} {P : Program} {w : World} {base : Nat} {spare : Nat → Bool} {held : Bool}
/-- The cells of an element, laid one behind the other. -/
theorem flat_at {α : Type} (f : α → List Value) (k : Nat) (hk : ∀ x, (f x).length = k) : ∀ (l : List α) (j : Nat) (u : Value), (l.flatMap f)[j]? = some u → 0 < k → ∃ x, l[j / k]? = some x ∧ (f x)[j % k]? = some u
  | [], j, u, h, _ => by simp at h
  | a :: t, j, u, h, h0 => by
    rw [List.flatMap_cons] at h
    by_cases hj : j < k
    · rw [List.getElem?_append_left (by rw [hk]; exact hj)] at h
      exact ⟨a, by rw [Nat.div_eq_of_lt hj]; rfl, by rw [Nat.mod_eq_of_lt hj]; exact h⟩
    · rw [List.getElem?_append_right (by rw [hk]; omega), hk] at h
      obtain ⟨x, h1, h2⟩ := flat_at f k hk t (j - k) u h h0
      refine ⟨x, ?_, ?_⟩
      · rw [Nat.div_eq_sub_div h0 (by omega)]; simpa using h1
      · rw [Nat.mod_eq_sub_mod (by omega)]; exact h2
/-- A list of elements of k cells each, every one of which reads as one. -/
theorem open_list_at {α : Type} (f : α → List Value) (ok : α → Prop) {t e : TypeId} {k : Nat} (hk : ∀ x, (f x).length = k) (hk0 : 0 < k) (ht : P.underlying t = some (.slice e)) (hC : P.cellsOf e = k)
    (hel : ∀ n cs' y, DataW.trod enc P w base spare held n e cs' = some y → ∃ x, cs' = f x ∧ ok x)
    {fuel : Nat} {v : Value} {x : DataW H × List MemPlace} (hf : DataW.trod enc P w base spare held fuel t [v] = some x) :
    ∃ (A : Option Addr) (len cap : Nat) (l : List α), v = .slice A len cap ∧ l.length = len ∧ len ≤ cap ∧ cap ≤ maxLen ∧ (∀ x ∈ l, ok x) ∧ ∀ j u, (l.flatMap f)[j]? = some u → ∃ a, A = some a ∧ a.block < w.heap.size ∧ w.cell? (a.add j) = some u := by
  rcases open_slice ht hf with ⟨hcs, _⟩ | ⟨a, len, cap, m, n, D, Pl, hcs, hb, hl, hm, hmm, hx, hi⟩
  · obtain rfl : v = .slice none 0 0 := by simpa using hcs
    exact ⟨none, 0, 0, [], rfl, rfl, Nat.le_refl _, by unfold maxLen; omega, by simp, by simp⟩
  · obtain rfl : v = .slice (some a) len cap := by simpa using hcs
    have hlm : len ≤ m := by rw [hmm]; split <;> omega
    have hex : ∀ i, i < len → ∃ x, ok x ∧ ∀ j u, (f x)[j]? = some u → w.cell? (a.add (i * k + j)) = some u := by
      intro i hil
      obtain ⟨cs', hc, ht'⟩ := hi i (by omega)
      obtain ⟨x, rfl, hok⟩ := hel _ _ _ ht'
      refine ⟨x, hok, fun j u hu => ?_⟩
      obtain ⟨_, _, hat⟩ := World.cells?_some hc
      have hj : j < k := by rw [← hk x]; exact (List.getElem?_eq_some_iff.1 hu).1
      have := hat j (by rw [hC]; exact hj)
      rw [hC] at this
      rw [← Go.Deep.add_add, this, hu]
    have hlist : ∃ l : List α, l.length = len ∧ (∀ x ∈ l, ok x) ∧ ∀ i x, l[i]? = some x → ∀ j u, (f x)[j]? = some u → w.cell? (a.add (i * k + j)) = some u := by
      refine ⟨List.ofFn fun i : Fin len => Classical.choose (hex i.1 i.2), by simp, ?_, ?_⟩
      · intro x hx
        obtain ⟨i, hi, rfl⟩ := List.getElem_of_mem hx
        rw [List.getElem_ofFn]
        exact (Classical.choose_spec (hex i (by simpa using hi))).1
      · intro i x hx
        obtain ⟨hi, rfl⟩ := List.getElem?_eq_some_iff.1 hx
        rw [List.getElem_ofFn]
        exact (Classical.choose_spec (hex i (by simpa using hi))).2
    obtain ⟨l, h1, h2, h3⟩ := hlist
    refine ⟨some a, len, cap, l, rfl, h1, hl, hm, h2, fun j u hu => ⟨a, rfl, ?_, ?_⟩⟩
    · have hj : 0 < l.length := by
        rcases l with _ | ⟨x, t⟩
        · simp at hu
        · simp
      obtain ⟨cs', hc, _⟩ := hi 0 (by omega)
      obtain ⟨_, hcl, hat⟩ := World.cells?_some hc
      have h0 := hat 0 (by rw [hC]; exact hk0)
      have hv0 : cs'[0]? = some (cs'[0]'(by rw [hcl, hC]; exact hk0)) := List.getElem?_eq_getElem _
      rw [hv0] at h0
      have := World.block_lt_of_cell? w _ h0
      simp [adr_block] at this
      exact this
    · obtain ⟨x, hx, hxu⟩ := flat_at f k hk l j u hu hk0
      have := h3 _ x hx _ u hxu
      rwa [Nat.div_add_mod' ] at this
/-- The same of an argument. -/
theorem open_list {α : Type} (f : α → List Value) (ok : α → Prop) {t e : TypeId} {k : Nat} (hk : ∀ x, (f x).length = k) (hk0 : 0 < k) (ht : P.underlying t = some (.slice e)) (hC : P.cellsOf e = k)
    (hel : ∀ n cs' y, DataW.trod enc P w base spare held n e cs' = some y → ∃ x, cs' = f x ∧ ok x)
    {r : Reach} {b0 : Nat} {v : Value} {d : DataW H} {p : List MemPlace} (hv : Value.okWide P w r b0 t v) (h : DataW.Trod enc P w base spare held t v d p) :
    ∃ (A : Option Addr) (len cap : Nat) (l : List α), v = .slice A len cap ∧ l.length = len ∧ len ≤ cap ∧ cap ≤ maxLen ∧ (∀ x ∈ l, ok x) ∧ ∀ j u, (l.flatMap f)[j]? = some u → ∃ a, A = some a ∧ a.block < w.heap.size ∧ w.cell? (a.add j) = some u := by
  obtain ⟨A, len, cap, rfl⟩ := okWide_slice ht hv
  obtain ⟨fuel, hf⟩ := h
  exact open_list_at f ok hk hk0 ht hC hel hf
end
end Go.Ms
namespace Go.Proofs.YtoapigiapcmjnaaDoor
open Go.RowKit Go.Ms Go.Lib Go.ChangeShapes Go.WideShapes Go.Deep
theorem len2 {α : Type} {l : List α} (h : l.length = 2) : ∃ a b, l = [a, b] := by
  match l, h with
  | [a, b], _ => exact ⟨a, b, rfl⟩
section
variable {H : Type} {enc : TypeId × Value → H} {w : World} {base : Nat} {spare : Nat → Bool} {held : Bool}
theorem cells_int : Tryd.prog.cellsOf 3 = 1 := by kernel_rfl
def oneI (n : Int) : List Value := [.int .i64 n]
theorem oneI_len (n : Int) : (oneI n).length = 1 := rfl
theorem int_el {n : Nat} {cs' : List Value} {y : DataW H × List MemPlace} (h : DataW.trod enc Tryd.prog w base spare held n 3 cs' = some y) : ∃ x : Int, cs' = oneI x ∧ I64 x := by
  obtain ⟨m, e, _, wm⟩ := DataW.trod_int Tryd.underlying3 h
  exact ⟨m, e, I64.of wm⟩
theorem ext_ints {B : Nat} {A : Option Addr} {l : List Int} (h : Ext w B A (l.flatMap oneI)) : Ext w B A (intV l) := by
  have e : intV l = l.flatMap oneI := by
    clear h
    induction l with
    | nil => rfl
    | cons a t ih => show .int .i64 a :: intV t = [.int .i64 a] ++ t.flatMap oneI; rw [ih]; rfl
  rw [e]; exact h
end
end Go.Proofs.YtoapigiapcmjnaaDoor
namespace Go.Ms
open Go.RowKit Go.Lib
end Go.Ms
set_option linter.unusedSimpArgs false
namespace Go.Ms
open Go.RowKit Go.Lib
end Go.Ms
set_option linter.unusedSimpArgs false
namespace Go.Rel
open Go Go.RowKit
section
end
end Go.Rel
set_option linter.unusedSimpArgs false
namespace Go.Ms
open Go.RowKit Go.Lib Go.Rel
end Go.Ms
namespace Go.Proofs.YtoapigiapcmjnaaDoor
open Go.RowKit Go.Ms Go.Lib Go.Rel
end Go.Proofs.YtoapigiapcmjnaaDoor
set_option linter.unusedSimpArgs false
namespace Go.Ms
open Go.RowKit Go.Lib
end Go.Ms
namespace Go.Proofs.YtoapigiapcmjnaaDoor
open Go.RowKit Go.Ms Go.Lib Go.ChangeShapes Go.WideShapes Go.Deep
section
end
end Go.Proofs.YtoapigiapcmjnaaDoor
set_option linter.unusedSimpArgs false
namespace Go.Ms
open Go.RowKit Go.Lib
end Go.Ms
namespace Go.Proofs.YtoapigiapcmjnaaDoor
open Go.RowKit Go.Ms Go.Lib
end Go.Proofs.YtoapigiapcmjnaaDoor
set_option linter.unusedSimpArgs false
namespace Go.Proofs.YtoapigiapcmjnaaDoor
open Go.RowKit Go.Ms Go.Lib
end Go.Proofs.YtoapigiapcmjnaaDoor
namespace Go.Ms
open Go.RowKit Go.Lib
end Go.Ms
set_option linter.unusedSimpArgs false
namespace Go.Proofs.YtoapigiapcmjnaaDoor
open Go.RowKit Go.Ms Go.Lib

end Go.Proofs.YtoapigiapcmjnaaDoor
set_option linter.unusedSimpArgs false
namespace Go.Ms
open Go.RowKit Go.Lib
end Go.Ms
namespace Go.Proofs.YtoapigiapcmjnaaDoor
open Go.RowKit Go.Ms Go.Lib
end Go.Proofs.YtoapigiapcmjnaaDoor
set_option linter.unusedSimpArgs false
namespace Go.Ms
open Go.RowKit Go.Lib
end Go.Ms
namespace Go.Proofs.YtoapigiapcmjnaaDoor
open Go.RowKit Go.Ms Go.Lib
end Go.Proofs.YtoapigiapcmjnaaDoor
set_option linter.unusedSimpArgs false
namespace Go.Ms
open Go.RowKit Go.Lib
end Go.Ms
set_option linter.unusedSimpArgs false
namespace Go.Ms
open Go.RowKit Go.Lib
end Go.Ms
set_option linter.unusedSimpArgs false
namespace Go.Ms
open Go.RowKit Go.Lib
end Go.Ms
set_option linter.unusedSimpArgs false
namespace Go.Ms
open Go.RowKit Go.Lib
end Go.Ms
set_option linter.unusedSimpArgs false
namespace Go.Ms
open Go.RowKit Go.Lib
/-- What lies at an address lies at a plain one. -/
theorem ext_lay {w : World} {B : Nat} {A : Option Addr} {xs : List Value} (h : Ext w B A xs) : Lay w B A xs := fun j u hu => by
  have hl : j < xs.length := (List.getElem?_eq_some_iff.1 hu).1
  obtain ⟨a, rfl, hb, h0⟩ := h 0 _ (List.getElem?_eq_getElem (by omega))
  obtain ⟨_, e, _, hj⟩ := h j u hu
  cases e
  obtain ⟨g, o, s⟩ := a
  have hs : s = none := by
    cases s with
    | none => rfl
    | some x =>
      exfalso
      have : (Addr.add ⟨g, o, some x⟩ 0) = ⟨g, o, some x⟩ := rfl
      rw [this] at h0
      unfold World.cell? at h0
      split at h0
      · simp at h0
      · cases h0
  subst hs
  refine ⟨g, o, rfl, hb, ?_⟩
  rw [Addr.add_lit] at hj
  exact hj
section
variable {tS tC tI : TypeId} {w : World} {B : Nat} {bx : Obj} {v1 v2 : Value} {cs : List Co} {ks : List Int} {wr : World}
end
end Go.Ms
namespace Go.Proofs.YtoapigiapcmjnaaDoor
open Go.RowKit Go.Ms Go.Lib
end Go.Proofs.YtoapigiapcmjnaaDoor
namespace Go.Ms
open Go.RowKit Go.Lib
def plF (x : Int × Int) : List Value := [.int .i64 x.1, .int .i64 x.2]
def PlIn (x : Int × Int) : Prop := I64 x.1 ∧ I64 x.2
theorem plF_len (x : Int × Int) : (plF x).length = 2 := rfl
theorem pl64_of {l : List (Int × Int)} (h : ∀ x ∈ l, PlIn x) : Pl64 l := fun x hx => h x hx
end Go.Ms
namespace Go.Proofs.YtoapigiapcmjnaaDoor
open Go.RowKit Go.Ms Go.Lib Go.ChangeShapes Go.WideShapes Go.Deep
section
variable {H : Type} {enc : TypeId × Value → H} {w : World} {base : Nat} {spare : Nat → Bool} {held : Bool}
theorem cells_place : Tryd.prog.cellsOf 30 = 2 := by kernel_rfl
theorem place_el {n : Nat} {cs' : List Value} {y : DataW H × List MemPlace} (h : DataW.trod enc Tryd.prog w base spare held n 30 cs' = some y) : ∃ x : Int × Int, cs' = plF x ∧ PlIn x := by
  obtain ⟨xs, n', _, _, hl, hxl, hf⟩ := DataW.trod_struct Tryd.underlying30 h
  rw [cells_place] at hl
  obtain ⟨y0, y1, rfl⟩ := len2 (show xs.length = 2 from hxl)
  obtain ⟨c0, c1, rfl⟩ := len2 hl
  have h0 : DataW.trod enc Tryd.prog w base spare held n' 3 (([c0, c1].drop 0).take (Tryd.prog.cellsOf 3)) = some y0 := hf 0 _ rfl
  rw [cells_int] at h0
  have h1 : DataW.trod enc Tryd.prog w base spare held n' 3 (([c0, c1].drop 1).take (Tryd.prog.cellsOf 3)) = some y1 := hf 1 _ rfl
  rw [cells_int] at h1
  obtain ⟨a, e0, _, wa⟩ := DataW.trod_int Tryd.underlying3 (show DataW.trod enc Tryd.prog w base spare held n' 3 [c0] = some y0 from h0)
  obtain ⟨b, e1, _, wb⟩ := DataW.trod_int Tryd.underlying3 (show DataW.trod enc Tryd.prog w base spare held n' 3 [c1] = some y1 from h1)
  obtain rfl : c0 = .int .i64 a := by simpa using e0
  obtain rfl : c1 = .int .i64 b := by simpa using e1
  exact ⟨(a, b), rfl, I64.of wa, I64.of wb⟩
end
end Go.Proofs.YtoapigiapcmjnaaDoor
