/- Marks, plainly: what a map of marks says of partitions that have a number each. Rows of bytes, as plain functions. Rows of bytes taken off; hex; plain functions. Hex read: plain. The reader of literals, as plain functions: place and error go along. Quote's answer, as a plain function; runes gone over. Cells: what the package answers, as plain functions of a kind, a number and a text. Rows: words for lists that lie in memory, cell by cell: cells, whole numbers, columns. Rows, plainly: what is checked, compared and picked; keys, put together and taken apart. Schemas, plainly: what is a name, what may be, the text of a schema, and how a text is read. Words for memory of one's own: all blocks but one stand; a struct of three fields behind a pointer. Small facts for the walks. Rows of bytes of one's own: appended to from a string or a row, read as a string. Cells: values, and what the functions of a kind do (those without strconv). Cells: reading bools; quoting. strings.Builder's writing methods at this dump (whose copyCheck lacks its panic's statement): after the shelf's own proofs of BuilderK and BuilderRune. Cells: quoting; texts that may be; hex. Cells: what of the library's variables is wanted; whole numbers as texts and back; rows of bytes. Cells: the bits of texts, and back; hex. Cells: the bits of texts taken off. Rows of bytes of one's own: appended to, and where they lie then. strings.Builder beside other rows of bytes: the methods, and which blocks stand. Literals, part by part: what the reader makes of them. Literals as rows of parts: read, and cut. A literal that is cut off: ErrTrunc. The reference's reader answers as the program's: plain facts. The reference's digit and half. Cells: hex. Cells: hex read. Numbers of 64 bits: the sign's bit turned; bytes put behind. Cells: whole numbers' bits. Cells: whole numbers' bits taken off. Cells: what a type's kind can do. Cells, plain: what is written is read; what is put together is taken apart. Cells, plain: what is taken off has just those bits; what was read was written so. Cells, plain: orders. Cells, plain: the laws. Cells: what each kind's fields answer, said by the plain functions; what 'of' gives, kind by kind. Cells: which types may be; nothing's cell of a type; what is checked. Cells: what is checked. Cells: what is checked, at nothing; whole. Cells, plain: the order. Cells: how two stand. Cells: Compare. Cells: what is taken off: words. Cells: what is taken off. Cells: what is taken off. Cells: what is taken off. Cells: what is taken off. Cells: what is taken off. Cells: what is written. Cells: the bits. Cells: what is read. Cells: what is taken off, whole. Cells: the laws' helpers; the chapter's examples. Cells: the chapter's examples. Cells: cut; three boxed cells. Cells: two and three boxed cells. Cells: a boxed type and a boxed cell; how long texts and bits are. Cells: a boxed type and two boxed cells. The reference's Valid. The reference of the cells: which types and cells may be; how two stand. The reference of the cells: Check. The reference's begins. What the reader takes for a literal is one: a row of parts between quotes. -/
import Derived.Maps.Own
import Derived.Maps.OwnSet
import Derived.Maps.Views
import Derived.Sort.KeysCollected
import Derived.Lib.ValidU
import Derived.Lib.RuneBytes
import Derived.Lib.Replace
import Derived.Lib.IndexBytes
import Derived.Lib.Bytealg
import Derived.Lib.Strings
import Derived.Lib.DecodeN
import Derived.Lib.ItoaNum
import Derived.Lib.ParseIntBTie
import Derived.Lib.Small
import Derived.WalkKit
import Derived.Below
import Derived.Deep.Draws
import Derived.Lib.Hide
import Derived.Laws.OwnMore
import Derived.Maps.AppendAt
import Derived.Lib.OthersKept
import Derived.Test.YtoapigiapcmjnaaDoorRows
import Derived.Test.YtoapigiapcmjnaaDoorShelf
import Derived.WalkSpells
import Derived.WalkLawsBesides
import Derived.Handy
import Derived.Outline
import Derived.Laws.BytesArg
import Derived.Deep.QuietTactic
import Derived.BigQuiet
import Derived.Deep.AppendSrc
import Derived.OwnWalk
import Derived.Deep.RegionLaw
import Derived.Shelf.Strings.BuilderK
import Derived.Shelf.Utf8.AppendRune
import Derived.MapKept
import Derived.StillTailTactics
import Derived.Maps.RangeWalk
import Derived.Deep.LoopGhost
import Derived.Deep.RegionWith
import Derived.Lib.SmallJoins
import Derived.Lib.ConvBytes
import Derived.Laws.BitsAllLaws
import Derived.Laws.Bits64
import Derived.IntWalk
import Derived.Deep.RegionHeld3
import Derived.Laws.EntriesVeiled
import GoSem.Op.String
import Derived.Deep.DeepCutAuto
import Derived.Lib.ItoaLen
set_option linter.unusedVariables false
set_option linter.unusedSimpArgs false
namespace Go.Ms
open Go.RowKit Go.Maps
/-- How many of the first ones there are. -/
def mkCnt : Nat → (Nat → Bool) → Nat
  | 0, _ => 0
  | n + 1, had => mkCnt n had + (if had n = true then 1 else 0)
def mkSet {α : Type} (f : Nat → α) (k : Nat) (x : α) : Nat → α := fun j => if j = k then x else f j
theorem mkSet_same {α : Type} (f : Nat → α) (k : Nat) (x : α) : mkSet f k x k = x := by unfold mkSet; rw [if_pos rfl]
theorem mkSet_other {α : Type} (f : Nat → α) {j k : Nat} (h : j ≠ k) (x : α) : mkSet f k x j = f j := by unfold mkSet; rw [if_neg h]
theorem mkCnt_le : ∀ (n : Nat) (had : Nat → Bool), mkCnt n had ≤ n
  | 0, _ => Nat.le_refl _
  | n + 1, had => by have := mkCnt_le n had; unfold mkCnt; split <;> omega
theorem mkCnt_far {k : Nat} (x : Bool) : ∀ (n : Nat) (had : Nat → Bool), n ≤ k → mkCnt n (mkSet had k x) = mkCnt n had
  | 0, _, _ => rfl
  | n + 1, had, h => by unfold mkCnt; rw [mkCnt_far x n had (by omega), mkSet_other _ (by omega)]
theorem mkCnt_set {k : Nat} : ∀ (n : Nat) (had : Nat → Bool), k < n → mkCnt n (mkSet had k true) = mkCnt n had + (if had k = true then 0 else 1)
  | 0, _, h => absurd h (by omega)
  | n + 1, had, h => by
    unfold mkCnt
    by_cases e : n = k
    · subst e
      rw [mkCnt_far true n had (Nat.le_refl _), mkSet_same]
      cases had n <;> simp
    · rw [mkCnt_set n had (by omega), mkSet_other _ e]
      omega
theorem mkCnt_room {n k : Nat} {had : Nat → Bool} (h : k < n) (hk : had k = false) : mkCnt n had < n := by
  have h1 := mkCnt_set (k := k) n had h
  have h2 := mkCnt_le n (mkSet had k true)
  rw [hk] at h1
  simp at h1
  omega
theorem mkCnt_none : ∀ (n : Nat), mkCnt n (fun _ => false) = 0
  | 0 => rfl
  | n + 1 => by unfold mkCnt; rw [mkCnt_none n]; rfl
/-- Which partitions a map has, and what stands there. -/
structure Means {H : Type} (N : Nat) (nm : Nat → ByteArray) (D : DataW H) (had : Nat → Bool) (most : Nat → Int) : Prop where
  tidy : Tidy D
  has : ∀ x : List UInt8, Maps.has D (.string x) = true ↔ ∃ k, k < N ∧ x = (nm k).data.toList ∧ had k = true
  at_ : ∀ k, k < N → had k = true → D.atKey (.string (nm k).data.toList) (.lit (.int .i64 0)) = .lit (.int .i64 (most k))
  size : Maps.size D = mkCnt N had
/-- Names that lie apart. -/
def NmApart (N : Nat) (nm : Nat → ByteArray) : Prop := ∀ i j, i < N → j < N → (nm i).data.toList = (nm j).data.toList → i = j
theorem Means.nil {H : Type} (N : Nat) (nm : Nat → ByteArray) (most : Nat → Int) : Means (H := H) N nm (.map []) (fun _ => false) most :=
  by
  refine ⟨tidy_empty, fun x => ?_, fun k _ h => (by cases h), by rw [mkCnt_none]; rfl⟩
  constructor
  · intro h
    simp [Maps.has] at h
  · rintro ⟨k, _, _, h⟩
    cases h
variable {H : Type} {N : Nat} {nm : Nat → ByteArray} {D : DataW H} {had : Nat → Bool} {most : Nat → Int}
theorem Means.has_at (h : Means N nm D had most) (ha : NmApart N nm) {k : Nat} (hk : k < N) : Maps.has D (.string (nm k).data.toList) = had k := by
  rw [Bool.eq_iff_iff, h.has]
  constructor
  · rintro ⟨j, hj, e, h2⟩
    rw [ha k j hk hj e]; exact h2
  · intro h2
    exact ⟨k, hk, rfl, h2⟩
theorem Means.put (h : Means N nm D had most) (ha : NmApart N nm) {k : Nat} (hk : k < N) (o : Int) :
    Means N nm (D.put (.string (nm k).data.toList) (.lit (.int .i64 o))) (mkSet had k true) (mkSet most k o) := by
  have hkl : WideAt.IsKeyLit (.string (nm k).data.toList) := trivial
  refine ⟨h.tidy.put hkl _, fun x => ?_, fun j hj hh => ?_, ?_⟩
  · by_cases e : x = (nm k).data.toList
    · subst e
      rw [has_put_same h.tidy.isMap hkl]
      exact ⟨fun _ => ⟨k, hk, rfl, mkSet_same _ _ _⟩, fun _ => rfl⟩
    · rw [has_put_other (by intro e2; injection e2 with e3; exact e e3), h.has]
      constructor
      · rintro ⟨j, hj, e1, h2⟩
        refine ⟨j, hj, e1, ?_⟩
        rw [mkSet_other _ (by rintro rfl; exact e e1)]; exact h2
      · rintro ⟨j, hj, e1, h2⟩
        rw [mkSet_other _ (by rintro rfl; exact e e1)] at h2
        exact ⟨j, hj, e1, h2⟩
  · by_cases e : j = k
    · subst e
      rw [atKey_put_same h.tidy.isMap hkl, mkSet_same]
    · rw [mkSet_other _ e] at hh
      rw [atKey_put_other (by intro e2; injection e2 with e3; exact e (ha j k hj hk e3)), h.at_ j hj hh, mkSet_other _ e]
  · rw [Maps.size_put h.tidy, h.has_at ha hk, h.size, mkCnt_set N had hk]
    cases had k <;> simp
/-- What a step does. -/
def mkFresh (had : Nat → Bool) (most : Nat → Int) (k : Nat) (o : Int) : Bool := !had k || decide (most k < o)
/-- The keys, sorted. -/
def mkList (nm : Nat → ByteArray) (had : Nat → Bool) : Nat → List (List UInt8)
  | 0 => []
  | n + 1 => mkList nm had n ++ (if had n = true then [(nm n).data.toList] else [])
theorem mkList_mem {x : List UInt8} : ∀ {n : Nat}, x ∈ mkList nm had n ↔ ∃ k, k < n ∧ x = (nm k).data.toList ∧ had k = true
  | 0 => by
    constructor
    · intro h; cases h
    · rintro ⟨k, h, _⟩; omega
  | n + 1 => by
    rw [mkList, List.mem_append, mkList_mem]
    constructor
    · rintro (⟨k, h1, h2, h3⟩ | h)
      · exact ⟨k, by omega, h2, h3⟩
      · split at h
        · rename_i e
          exact ⟨n, by omega, by simpa using h, e⟩
        · cases h
    · rintro ⟨k, h1, h2, h3⟩
      by_cases e : k = n
      · subst e
        rw [if_pos h3]
        exact .inr (by simp [h2])
      · exact .inl ⟨k, by omega, h2, h3⟩
/-- Names rise. -/
def NmUp (N : Nat) (nm : Nat → ByteArray) : Prop := ∀ i j, i < j → j < N → (nm i).data.toList < (nm j).data.toList
theorem NmUp.apart (h : NmUp N nm) : NmApart N nm := fun i j hi hj e => by
  rcases Nat.lt_trichotomy i j with h1 | h1 | h1
  · have := h i j h1 hj
    rw [e] at this
    exact absurd this (List.lt_irrefl _)
  · exact h1
  · have := h j i h1 hi
    rw [e] at this
    exact absurd this (List.lt_irrefl _)
theorem mkList_up (h : NmUp N nm) : ∀ {n : Nat}, n ≤ N → (mkList nm had n).Pairwise (fun a b => a < b)
  | 0, _ => List.Pairwise.nil
  | n + 1, hn => by
    rw [mkList, List.pairwise_append]
    refine ⟨mkList_up h (by omega), by split <;> simp, fun a ha b hb => ?_⟩
    obtain ⟨k, h1, rfl, _⟩ := mkList_mem.1 ha
    split at hb
    · obtain rfl : b = (nm n).data.toList := by simpa using hb
      exact h k n h1 (by omega)
    · cases hb
/-- The keys of such a map, sorted. -/
theorem Means.sorted (h : Means N nm D had most) (hu : NmUp N nm) (hk : ∀ es, D = .map es → ∀ p ∈ es, ∃ x, p.1 = .string x) {ss : List (List UInt8)} (hp : ss.Perm (strKeys D)) :
    ss.mergeSort leB = mkList nm had N := by
  have hup := mkList_up (had := had) hu (Nat.le_refl N)
  obtain ⟨es, e, hpw⟩ := h.tidy
  subst e
  have h1 : (mkList nm had N).Perm (strKeys (.map es)) := perm_strKeys hpw (hk es rfl) (hup.imp fun hab e => by subst e; exact List.lt_irrefl _ hab) (fun x => by rw [h.has, mkList_mem])
  rw [mergeSort_of_perm (hp.trans h1.symm)]
  exact List.mergeSort_of_pairwise (hup.imp fun hab => by simp only [leB, decide_eq_true_eq]; exact List.le_of_lt hab)
end Go.Ms
namespace Go.Ms
open Go.Lib
abbrev Bs := List UInt8

def isRune (r : Int) : Bool := (decide (0 ≤ r) && decide (r < 55296)) || (decide (57344 ≤ r) && decide (r ≤ 1114111))

def bt (l : Bs) (i : Nat) : Nat := (l.getD i 0).toNat









end Go.Ms
namespace Go.Ms
open Go.Lib

end Go.Ms
namespace Go.Ms
open Go.Lib
end Go.Ms
namespace Go.Ms
open Go.Lib
def hexS : Bs := [48, 49, 50, 51, 52, 53, 54, 55, 56, 57, 97, 98, 99, 100, 101, 102]
/-- A digit's number, or 0. -/
def hx (c : UInt8) : Int := max 0 (indexByte hexS c)
end Go.Ms
namespace Go.Ms
open Go.Lib
/-- Put's bytes. -/
def put (r : Int) : Bs := if isRune r = true then encodeRune r else []










end Go.Ms
namespace Go.Ms
open Go.Lib
/-- The first error holds. -/
def rdFail (e x : Int) : Int := if e = 0 then x else e
def rdTake (l : Bs) (p : Nat) (e : Int) : Int × Nat × Int := if e = 0 then (if p = l.length then (0, p, 3) else ((bt l p : Nat), p + 1, 0)) else (0, p, e)
/-- A digit's number; 16: it is none. -/
def hexv (c : Int) : Int := if 48 ≤ c ∧ c ≤ 57 then c - 48 else if 65 ≤ c ∧ c ≤ 70 then c - 55 else if 97 ≤ c ∧ c ≤ 102 then c - 87 else 16
def rdDigit (l : Bs) (p : Nat) (e : Int) : Int × Nat × Int :=
  if hexv (rdTake l p e).1 = 16 then (0, (rdTake l p e).2.1, rdFail (rdTake l p e).2.2 41) else (hexv (rdTake l p e).1, (rdTake l p e).2.1, (rdTake l p e).2.2)


/-- Four digits, the first error holding. -/
def h0 (l : Bs) (second : Bool) (p : Nat) (e : Int) : Int × Nat × Int :=
  ((rdDigit l p e).1, (rdDigit l p e).2.1, if second = true ∧ ¬ (rdDigit l p e).1 = 13 then rdFail (rdDigit l p e).2.2 41 else (rdDigit l p e).2.2)
def h1 (l : Bs) (second : Bool) (p : Nat) (e : Int) : Int × Nat × Int :=
  (16 * (h0 l second p e).1 + (rdDigit l (h0 l second p e).2.1 (h0 l second p e).2.2).1, (rdDigit l (h0 l second p e).2.1 (h0 l second p e).2.2).2.1,
   if second = decide (220 ≤ 16 * (h0 l second p e).1 + (rdDigit l (h0 l second p e).2.1 (h0 l second p e).2.2).1 ∧ 16 * (h0 l second p e).1 + (rdDigit l (h0 l second p e).2.1 (h0 l second p e).2.2).1 ≤ 223)
   then (rdDigit l (h0 l second p e).2.1 (h0 l second p e).2.2).2.2 else rdFail (rdDigit l (h0 l second p e).2.1 (h0 l second p e).2.2).2.2 41)
def h2 (l : Bs) (second : Bool) (p : Nat) (e : Int) : Int × Nat × Int :=
  (16 * (h1 l second p e).1 + (rdDigit l (h1 l second p e).2.1 (h1 l second p e).2.2).1, (rdDigit l (h1 l second p e).2.1 (h1 l second p e).2.2).2.1, (rdDigit l (h1 l second p e).2.1 (h1 l second p e).2.2).2.2)




end Go.Ms
namespace Go.Ms
open Go.Lib





end Go.Ms
namespace Go.Ms
open Go.Lib
end Go.Ms
namespace Go.Ms
open Go.RowKit Go.Lib
/-- A cell: nothing?, its number, its text. -/
abbrev Cl := Bool × Int × ByteArray
/-- A column's type. -/
abbrev Ty := Int × Bool
def intV (l : List Int) : List Value := l.map (Value.int .i64)
/-- The cells of a slice at an address are these values, and lie below block B. -/
def Lay (w : World) (B : Nat) (A : Option Addr) (xs : List Value) : Prop := ∀ j u, xs[j]? = some u → ∃ g o, A = some ⟨g, o, none⟩ ∧ g < B ∧ w.cell? ⟨g, o + j, none⟩ = some u
namespace Lay
variable {w w' : World} {B B' : Nat} {A : Option Addr} {xs : List Value}
theorem keep (h : Lay w B A xs) (hk : ∀ p : Addr, p.block < B → w'.cell? p = w.cell? p) : Lay w' B A xs := fun j u hu => by
  obtain ⟨g, o, e, hb, hc⟩ := h j u hu
  exact ⟨g, o, e, hb, (hk _ hb).trans hc⟩
theorem more (h : Lay w B A xs) (hB : B ≤ B') : Lay w B' A xs := fun j u hu => by
  obtain ⟨g, o, e, hb, hc⟩ := h j u hu
  exact ⟨g, o, e, by omega, hc⟩
theorem below (h : Lay w B A xs) (hb : Below B w w') : Lay w' B A xs := h.keep fun _ hp => hb.cell hp
theorem some_ (h : Lay w B A xs) (hx : 0 < xs.length) : ∃ g o, A = some ⟨g, o, none⟩ ∧ g < B ∧ ∀ j u, xs[j]? = some u → w.cell? ⟨g, o + j, none⟩ = some u := by
  obtain ⟨g, o, e, hb, _⟩ := h 0 _ (List.getElem?_eq_getElem hx)
  refine ⟨g, o, e, hb, fun j u hu => ?_⟩
  obtain ⟨g', o', e', _, hc⟩ := h j u hu
  rw [e] at e'
  cases e'
  exact hc
theorem of_own {base size n c : Nat} {e : TypeId} (h : w.ownsRow base e size (.slice A n c) n xs) (hB : w.heap.size ≤ B) : Lay w B A xs := fun j u hu => by
  have hj : j < xs.length := (List.getElem?_eq_some_iff.1 hu).1
  rcases h.2 with ⟨_, h0⟩ | ⟨g, cap, cur, hv, _, hg, _⟩
  · have := h.1; rw [h0] at this; omega
  · have hA : A = some ⟨g, 0, none⟩ := by injection hv
    subst hA
    have hlt : g < w.heap.size := (Array.getElem?_eq_some_iff.1 hg).1
    refine ⟨_, _, rfl, by omega, ?_⟩
    have := h.cells (g := g) rfl j u hu
    rw [Addr.add_lit] at this
    exact this
/-- The first ones of a list. -/
theorem take (h : Lay w B A xs) (n : Nat) : Lay w B A (xs.take n) := fun j u hu => by
  refine h j u ?_
  rw [List.getElem?_take] at hu
  split at hu
  · exact hu
  · cases hu
end Lay
theorem intV_at (l : List Int) (i : Nat) (p : Int) (h : l[i]? = some p) : (intV l)[i]? = some (.int .i64 p) := by simp [intV, h]
theorem Lay.num {w : World} {B : Nat} {A : Option Addr} {l : List Int} {i : Nat} {p : Int} (h : Lay w B A (intV l)) (hi : l[i]? = some p) :
    ∃ g o, A = some ⟨g, o, none⟩ ∧ g < B ∧ w.cell? ⟨g, o + i, none⟩ = some (.int .i64 p) := by
  have h1 := intV_at l i p hi
  have hl : i < l.length := (List.getElem?_eq_some_iff.1 hi).1
  obtain ⟨g, o, e, hb, hc⟩ := h.some_ (by simp [intV]; omega)
  exact ⟨g, o, e, hb, hc _ _ h1⟩
end Go.Ms
namespace Go.Ms
end Go.Ms
set_option linter.unusedSimpArgs false
namespace Go.Ms
open Go.RowKit Go.Lib
/-- A column: id, name, type, default. -/
abbrev Co := Int × ByteArray × Ty × Cl
def nmFirst (c : UInt8) : Bool := decide (97 ≤ c.toNat) && decide (c.toNat ≤ 122)
def nmByte (c : UInt8) : Bool := nmFirst c || (decide (48 ≤ c.toNat) && decide (c.toNat ≤ 57)) || decide (c.toNat = 95)
def isNm (s : Bs) : Bool := decide (1 ≤ s.length) && decide (s.length ≤ 32) && nmFirst (s.getD 0 0) && s.all nmByte
theorem cell_of_block {w : World} {b i : Nat} {cs : Array Value} {T : TypeId} {v : Value} (h : w.heap[b]? = some (.cells cs T (0, 0))) (hv : cs[i]? = some v) : w.cell? ⟨b, i, none⟩ = some v := by
  simp [World.cell?, h, hv]
theorem block_new (w : World) (o : Obj) : (w.alloc o).heap[w.heap.size]? = some o := by
  show (w.heap.push o)[w.heap.size]? = some o
  simp
theorem block_next {w : World} {b : Nat} {o : Obj} (h : w.heap[b]? = some o) (o' : Obj) : (w.alloc o').heap[b]? = some o :=
  (Below.heap_alloc w o' b (Array.getElem?_eq_some_iff.1 h).1).trans h
theorem block_kept {w w' : World} {b : Nat} {o : Obj} (h : w.heap[b]? = some o) (hb : Below w.heap.size w w') : w'.heap[b]? = some o :=
  (hb.block b (Array.getElem?_eq_some_iff.1 h).1).trans h
end Go.Ms
namespace Go.Ms
open Go.RowKit Go.Lib

/-- Every block that was there stands, but for block R. -/
structure Kept (R : Nat) (w w' : World) : Prop where
  os : w'.os = w.os
  tape : w'.tape = w.tape
  output : w'.output = w.output
  size : w.heap.size ≤ w'.heap.size
  block : ∀ k, k < w.heap.size → k ≠ R → w'.heap[k]? = w.heap[k]?

namespace Kept
variable {R B : Nat} {a w w' : World}
theorem refl (R : Nat) (w : World) : Kept R w w := ⟨rfl, rfl, rfl, Nat.le_refl _, fun _ _ _ => rfl⟩
theorem trans (h : Kept R a w) (k : Kept R w w') : Kept R a w' :=
  ⟨k.os.trans h.os, k.tape.trans h.tape, k.output.trans h.output, Nat.le_trans h.size k.size, fun i hi hr => (k.block i (Nat.lt_of_lt_of_le hi h.size) hr).trans (h.block i hi hr)⟩
theorem of_below (h : Below w.heap.size w w') : Kept R w w' := ⟨h.os, h.tape, h.output, h.size, fun k hk _ => h.block k hk⟩
theorem drewN (h : Kept R a w) (n : Nat) : Kept R a (w.drewN n) := ⟨h.os, h.tape, h.output, h.size, h.block⟩
theorem drew (h : Kept R a w) : Kept R a w.drew := ⟨h.os, h.tape, h.output, h.size, h.block⟩
theorem alloc (h : Kept R a w) (o : Obj) : Kept R a (w.alloc o) :=
  h.trans (of_below ((Below.refl _ w).alloc (Nat.le_refl _) o))
theorem setCell (h : Kept R a w) {p : Addr} (hp : p.block = R) (u : Value) : Kept R a (w.setCell p u) :=
  h.trans ⟨rfl, rfl, rfl, by simp [World.setCell], fun k _ hk => Below.heap_setCell _ _ _ _ (by omega)⟩
/-- Below a number up to R all stands. -/
theorem below (h : Kept R w w') (hR : B ≤ R) (hB : B ≤ w.heap.size) : Below B w w' := ⟨h.os, h.tape, h.output, h.size, fun k hk => h.block k (by omega) (by omega)⟩
end Kept

theorem ms_drewN {B : Nat} {a w : World} (h : Below B a w) (n : Nat) : Below B a (w.drewN n) := ⟨h.os, h.tape, h.output, h.size, h.block⟩

/-- Block b is just three cells, not frozen. -/
def Tri (T b : Nat) (x y z : Value) (w : World) : Prop := w.heap[b]? = some (.cells #[x, y, z] T (0, 0))
namespace Tri
variable {T b R B : Nat} {x y z u : Value} {w w' : World}
theorem lt (h : Tri T b x y z w) : b < w.heap.size := by
  rcases Nat.lt_or_ge b w.heap.size with hl | hg
  · exact hl
  · unfold Tri at h; rw [Array.getElem?_eq_none hg] at h; cases h
theorem c0 (h : Tri T b x y z w) : w.cell? ⟨b, 0, none⟩ = some x := by rw [Lib.cell_of_heap h]; rfl
theorem c1 (h : Tri T b x y z w) : w.cell? ⟨b, 1, none⟩ = some y := by rw [Lib.cell_of_heap h]; rfl
theorem c2 (h : Tri T b x y z w) : w.cell? ⟨b, 2, none⟩ = some z := by rw [Lib.cell_of_heap h]; rfl
theorem fr (h : Tri T b x y z w) (i : Nat) : w.frozen? ⟨b, i, none⟩ = false := Lib.frozen_of_heap h i
theorem drew (h : Tri T b x y z w) : Tri T b x y z w.drew := h
theorem drewN (h : Tri T b x y z w) (n : Nat) : Tri T b x y z (w.drewN n) := h
theorem alloc (h : Tri T b x y z w) (o : Obj) : Tri T b x y z (w.alloc o) := (Below.heap_alloc w o b h.lt).trans h
theorem below (h : Tri T b x y z w) (hb : Below B w w') (hB : b < B) : Tri T b x y z w' := (hb.block b hB).trans h
theorem kept (h : Tri T b x y z w) (hb : Kept R w w') (hB : b ≠ R) : Tri T b x y z w' := (hb.block b h.lt hB).trans h
end Tri


end Go.Ms
namespace Go.Proofs.YtoapigiapcmjnaaDoor
open Go.RowKit Go.Ms Go.Lib






theorem ba_ext {s : ByteArray} {l : Bs} (h : s.data.toList = l) : s = ⟨l.toArray⟩ := by
  subst h; cases s; simp

end Go.Proofs.YtoapigiapcmjnaaDoor
namespace Go.Ms
open Go.RowKit Go.Lib

theorem run_append_own_src {P : Program} (w : World) (base : Nat) (t tx ty e : TypeId) (i : TypeInfo) (z : Value) (size bytes : Nat) (ht : P.underlying t = some (.slice e)) (hi : P.info? e = some i) (hz : i.zero = some z)
    (hsize : i.size = size) (hby : i.bytes = bytes) (hzs : z.cells.size = size) (hsz : 0 < size)
    (v : Value) (n : Nat) (xs : List Value) (hown : w.ownsRow base e size v n xs) (x : Value) (m : Nat) (news : List Value) (hs : Src P size tx x m news w)
    (h63 : n + m ≤ maxLen) (hbytes : (n + m) * bytes ≤ 140737488355328) (hbase : base ≤ w.heap.size) :
    ∃ v' w', (Builtin.append_ #[t, tx] ty #[v, x]).run P w = .ok v' w' ∧ w'.ownsRow base e size v' (n + m) (xs ++ news) ∧ w.grownBy w' v.ownBlock := by
  subst hsize
  subst hby
  have hl := hs.newsLen
  have hsmall : n + m ≤ 9223372036854775807 := by simp only [maxLen] at h63; omega
  have hlen : (xs ++ news).length = (n + m) * i.size := by rw [List.length_append, hown.1, hl, Nat.add_mul]
  have grown : ∀ (old : Nat), old < n + m → ∀ (row : Option Nat),
      (w.drew.alloc (.cells ((xs ++ news).toArray ++ Builtin.zeroCells z.cells (grownCap w (n + m) old e - (n + m))) e)).ownsRow base e i.size
        (.slice (some ⟨w.heap.size, 0, none⟩) (n + m) (grownCap w (n + m) old e)) (n + m) (xs ++ news) ∧
      w.grownBy (w.drew.alloc (.cells ((xs ++ news).toArray ++ Builtin.zeroCells z.cells (grownCap w (n + m) old e - (n + m))) e)) row := by
    intro old ho row
    have hge := grownCap_ge w (n + m) old e
    have hcm : grownCap w (n + m) old e ≤ maxLen := grownCap_le_maxLen w (n + m) old e h63
    refine ⟨⟨hlen, .inr ⟨w.heap.size, _, _, rfl, hbase, heap_alloc_new w.drew _, hge, hcm, ?_, ?_⟩⟩, ⟨rfl, rfl, rfl, by simp, fun k hk _ => (World.grownBy_alloc w.drew _ none).block k hk (by simp)⟩⟩
    · simp only [Array.size_append, List.size_toArray, size_zeroCells, hzs, hlen, ← Nat.add_mul]
      congr 1
      omega
    · simp only [Array.toList_append]
      rw [← hlen]
      exact List.take_left
  rcases hown.2 with ⟨rfl, rfl⟩ | ⟨g, cap, cur, rfl, hbg, hg, hnc, hcm, hcs, htake⟩
  · have hx : xs = [] := List.eq_nil_of_length_eq_zero (by simpa using hown.1)
    subst hx
    by_cases hm : m = 0
    · subst hm
      have hn : news = [] := List.eq_nil_of_length_eq_zero (by simpa using hl)
      subst hn
      refine ⟨.slice none 0 0, w, ?_, World.ownsRow_nil w base e i.size, ⟨rfl, rfl, rfl, Nat.le_refl _, fun _ _ _ => rfl⟩⟩
      have hc := hs.cells
      rcases hs.kind with ⟨e', hk⟩ | hk <;>
        simp [Builtin.append_, run_underlying ht, run_underlying hk, sizeOf, typeInfo, hi, hs.len, hc]
    · have hr := run_append_grow_src (P := P) w t tx ty e i z ht hi hz none 0 0 [] (run_firstCells_none w.drew i.size 0 0 0) x m news hs (by omega) (by omega) (growslice_fits (by omega) (by simpa using hbytes))
      have hgr := grown 0 (by omega) (Value.ownBlock (.slice none 0 0))
      simp only [Nat.zero_add, List.nil_append] at hgr hr ⊢
      exact ⟨_, _, hr, hgr.1, hgr.2⟩
  · by_cases hroom : n + m ≤ cap
    · have hfit : n * i.size + news.length ≤ cur.size := by rw [hl, hcs, ← Nat.add_mul]; exact Nat.mul_le_mul_right _ hroom
      have hst := run_storeCells_at P g (n * i.size) e news 0 cur w hg (by simpa using hfit) hs.one
      simp only [Nat.add_zero] at hst
      have hr : (Builtin.append_ #[t, tx] ty #[.slice (some ⟨g, 0, none⟩) n cap, x]).run P w = .ok (.slice (some ⟨g, 0, none⟩) (n + m) cap) (w.setRow g (cur.toList.take (n * i.size) ++ news ++ cur.toList.drop (n * i.size + news.length)).toArray) := by
        rcases hs.kind with ⟨e', hk⟩ | hk <;>
          simp [Builtin.append_, run_underlying ht, run_underlying hk, sizeOf, typeInfo, hi, hs.len, hroom, hs.cells, Addr.add_lit, hst]
      refine ⟨_, _, hr, ⟨hlen, .inr ⟨g, cap, _, rfl, hbg, setRow_heap w g cur _ e _ hg, hroom, hcm, ?_, ?_⟩⟩, ⟨rfl, rfl, rfl, by simp, fun k _ hk => setRow_other w g k _ (fun e => hk (by simp [Value.ownBlock, e]))⟩⟩
      · simp only [List.size_toArray, List.length_append, List.length_take, List.length_drop, Array.length_toList]
        omega
      · rw [htake, ← hlen]
        exact List.take_left
    · have holds : ∀ j u, xs[j]? = some u → w.drew.cell? ((⟨g, 0, none⟩ : Addr).add j) = some u := fun j u hu => by simpa using hown.cells (g := g) rfl j u hu
      have hr := run_append_grow_src (P := P) w t tx ty e i z ht hi hz (some ⟨g, 0, none⟩) n cap xs (run_firstCells_some (P := P) w.drew i.size n ⟨g, 0, none⟩ n cap xs hown.1 holds) x m news hs (by omega) (by omega) (growslice_fits (by omega) hbytes)
      have hgr := grown cap (by omega) (Value.ownBlock (.slice (some ⟨g, 0, none⟩) n cap))
      exact ⟨_, _, hr, hgr.1, hgr.2⟩

end Go.Ms
namespace Go.Ms
open Go.Lib
end Go.Ms
namespace Go.Proofs.YtoapigiapcmjnaaDoor
open Go.RowKit Go.Ms Go.Lib

theorem cell_lt {w : World} {p : Addr} {v : Value} (h : w.cell? p = some v) : p.block < w.heap.size := by
  unfold World.cell? at h
  rcases Nat.lt_or_ge p.block w.heap.size with h1 | h1
  · exact h1
  · simp [Array.getElem?_eq_none h1] at h

end Go.Proofs.YtoapigiapcmjnaaDoor
namespace Go.Proofs.YtoapigiapcmjnaaDoor
open Go.RowKit Go.Ms Go.Lib


end Go.Proofs.YtoapigiapcmjnaaDoor
namespace Go.Proofs.YtoapigiapcmjnaaDoor
open Go.RowKit Go.Lib







end Go.Proofs.YtoapigiapcmjnaaDoor
namespace Go.Proofs.YtoapigiapcmjnaaDoor
open Go.RowKit Go.Ms Go.Lib









end Go.Proofs.YtoapigiapcmjnaaDoor
namespace Go.Proofs.YtoapigiapcmjnaaDoor
open Go.RowKit Go.Ms Go.Lib Go.MapKept







end Go.Proofs.YtoapigiapcmjnaaDoor
namespace Go.Proofs.YtoapigiapcmjnaaDoor
open Go.RowKit Go.Ms Go.Lib Go.MapKept


end Go.Proofs.YtoapigiapcmjnaaDoor
namespace Go.Proofs.YtoapigiapcmjnaaDoor
open Go.RowKit Go.Ms Go.Lib



end Go.Proofs.YtoapigiapcmjnaaDoor
namespace Go.Proofs.YtoapigiapcmjnaaDoor
open Go.RowKit Go.Ms Go.Lib Go.MapKept




section
open Go.ChangeMaps (setBlock)
end

end Go.Proofs.YtoapigiapcmjnaaDoor
namespace Go.Proofs.YtoapigiapcmjnaaDoor
open Go.RowKit Go.Ms Go.Lib

end Go.Proofs.YtoapigiapcmjnaaDoor
namespace Go.Proofs.YtoapigiapcmjnaaDoor
open Go.RowKit Go.Ms Go.Lib

end Go.Proofs.YtoapigiapcmjnaaDoor
namespace Go.Proofs.YtoapigiapcmjnaaDoor
open Go.RowKit Go.Ms Go.Lib Go.MapKept


end Go.Proofs.YtoapigiapcmjnaaDoor
namespace Go.Proofs.YtoapigiapcmjnaaDoor
open Go.RowKit Go.Ms Go.Lib

end Go.Proofs.YtoapigiapcmjnaaDoor
namespace Go.Proofs.YtoapigiapcmjnaaDoor
open Go.RowKit Go.Ms Go.Lib





end Go.Proofs.YtoapigiapcmjnaaDoor
namespace Go.Proofs.YtoapigiapcmjnaaDoor
open Go.RowKit Go.Ms Go.Lib

end Go.Proofs.YtoapigiapcmjnaaDoor
namespace Go.Proofs.YtoapigiapcmjnaaDoor
open Go.RowKit Go.Ms Go.Lib


end Go.Proofs.YtoapigiapcmjnaaDoor
namespace Go.Ms
open Go.RowKit Go.Lib



end Go.Ms
namespace Go.Proofs.YtoapigiapcmjnaaDoor
open Go.RowKit Go.Ms Go.Lib




end Go.Proofs.YtoapigiapcmjnaaDoor
namespace Go.Ms
open Go.Lib






end Go.Ms
namespace Go.Ms
open Go.Lib




end Go.Ms
namespace Go.Ms
open Go.Lib


end Go.Ms
namespace Go.Ms
open Go.Lib

/-! Reading from further on. -/

/-! Four digits, one by one. -/

/-! Can more bytes make a rune's bytes of some? -/
theorem w2 {n b0 b1 b2 b3 : Nat} (h0 : b0 < 256) (h1 : b1 < 256) (h2 : b2 < 256) (h3 : b3 < 256) : (decodeN n b0 b1 b2 b3).2 = 2 ↔ 194 ≤ b0 ∧ b0 < 224 ∧ 1 < n ∧ 128 ≤ b1 ∧ b1 < 192 := by
  unfold decodeN
  repeat' split
  all_goals constructor
  all_goals intro hh
  all_goals first | (exfalso; revert hh; decide) | omega | skip
set_option maxRecDepth 100000 in
theorem w3 {n b0 b1 b2 b3 : Nat} (h0 : b0 < 256) (h1 : b1 < 256) (h2 : b2 < 256) (h3 : b3 < 256) : (decodeN n b0 b1 b2 b3).2 = 3 ↔ 224 ≤ b0 ∧ b0 < 240 ∧ 2 < n ∧ 128 ≤ b1 ∧ b1 < 192 ∧ 128 ≤ b2 ∧ b2 < 192 ∧ (b0 = 224 → 160 ≤ b1) ∧ (b0 = 237 → b1 < 160) := by
  unfold decodeN
  repeat' split
  all_goals constructor
  all_goals intro hh
  all_goals first | (exfalso; revert hh; decide) | omega | skip
set_option maxRecDepth 100000 in
theorem w4 {n b0 b1 b2 b3 : Nat} (h0 : b0 < 256) (h1 : b1 < 256) (h2 : b2 < 256) (h3 : b3 < 256) : (decodeN n b0 b1 b2 b3).2 = 4 ↔ 240 ≤ b0 ∧ b0 < 245 ∧ 3 < n ∧ 128 ≤ b1 ∧ b1 < 192 ∧ 128 ≤ b2 ∧ b2 < 192 ∧ 128 ≤ b3 ∧ b3 < 192 ∧ (b0 = 240 → 144 ≤ b1) ∧ (b0 = 244 → b1 < 144) := by
  unfold decodeN
  repeat' split
  all_goals constructor
  all_goals intro hh
  all_goals first | (exfalso; revert hh; decide) | omega | skip
end Go.Ms
namespace Go.Proofs.YtoapigiapcmjnaaDoor
open Go.RowKit Go.Ms Go.Lib





end Go.Proofs.YtoapigiapcmjnaaDoor
namespace Go.Proofs.YtoapigiapcmjnaaDoor
open Go.RowKit Go.Ms Go.Lib


end Go.Proofs.YtoapigiapcmjnaaDoor
namespace Go.Proofs.YtoapigiapcmjnaaDoor
open Go.RowKit Go.Ms Go.Lib


end Go.Proofs.YtoapigiapcmjnaaDoor
namespace Go.Ms
end Go.Ms
namespace Go.Proofs.YtoapigiapcmjnaaDoor
open Go.RowKit Go.Ms Go.Lib


end Go.Proofs.YtoapigiapcmjnaaDoor
namespace Go.Ms
end Go.Ms
namespace Go.Proofs.YtoapigiapcmjnaaDoor
open Go.RowKit Go.Ms Go.Lib


end Go.Proofs.YtoapigiapcmjnaaDoor
set_option linter.unusedSimpArgs false
namespace Go.Proofs.YtoapigiapcmjnaaDoor
open Go.RowKit Go.Ms Go.Lib





end Go.Proofs.YtoapigiapcmjnaaDoor
namespace Go.Ms
open Go.Lib



end Go.Ms
namespace Go.Ms
open Go.Lib
end Go.Ms
namespace Go.Ms
open Go.Lib

end Go.Ms
namespace Go.Ms
open Go.Lib
end Go.Ms
namespace Go.Proofs.YtoapigiapcmjnaaDoor
open Go.RowKit Go.Ms Go.Lib

/-- The two bounds behind a 'plain'. -/
structure Pl (lo hi : Int) (a b : Nat) (w : World) : Prop where
  ca : w.cell? ⟨a, 0, none⟩ = some (.int .i64 lo)
  cb : w.cell? ⟨b, 0, none⟩ = some (.int .i64 hi)
theorem Pl.below {lo hi : Int} {a b : Nat} {w w' : World} (h : Pl lo hi a b w) (hb : Below w.heap.size w w') : Pl lo hi a b w' :=
  ⟨by rw [hb.cell (cell_lt h.ca)]; exact h.ca, by rw [hb.cell (cell_lt h.cb)]; exact h.cb⟩

end Go.Proofs.YtoapigiapcmjnaaDoor
namespace Go.Proofs.YtoapigiapcmjnaaDoor
open Go.RowKit Go.Ms Go.Lib

end Go.Proofs.YtoapigiapcmjnaaDoor
namespace Go.Proofs.YtoapigiapcmjnaaDoor
open Go.RowKit Go.Ms Go.Lib


end Go.Proofs.YtoapigiapcmjnaaDoor
namespace Go.Proofs.YtoapigiapcmjnaaDoor
open Go.RowKit Go.Ms Go.Lib

end Go.Proofs.YtoapigiapcmjnaaDoor
namespace Go.Ms
open Go.Lib
end Go.Ms
namespace Go.Proofs.YtoapigiapcmjnaaDoor
open Go.RowKit Go.Ms Go.Lib

end Go.Proofs.YtoapigiapcmjnaaDoor
namespace Go.Proofs.YtoapigiapcmjnaaDoor
open Go.RowKit Go.Ms Go.Lib

end Go.Proofs.YtoapigiapcmjnaaDoor
namespace Go.Proofs.YtoapigiapcmjnaaDoor
open Go.RowKit Go.Ms Go.Lib

end Go.Proofs.YtoapigiapcmjnaaDoor
namespace Go.Proofs.YtoapigiapcmjnaaDoor
open Go.RowKit Go.Ms Go.Lib

end Go.Proofs.YtoapigiapcmjnaaDoor
namespace Go.Proofs.YtoapigiapcmjnaaDoor
open Go.RowKit Go.Ms Go.Lib

end Go.Proofs.YtoapigiapcmjnaaDoor
namespace Go.Proofs.YtoapigiapcmjnaaDoor
open Go.RowKit Go.Ms Go.Lib

end Go.Proofs.YtoapigiapcmjnaaDoor
namespace Go.Proofs.YtoapigiapcmjnaaDoor
open Go.RowKit Go.Ms Go.Lib

end Go.Proofs.YtoapigiapcmjnaaDoor
namespace Go.Proofs.YtoapigiapcmjnaaDoor
open Go.RowKit Go.Ms Go.Lib

end Go.Proofs.YtoapigiapcmjnaaDoor
namespace Go.Proofs.YtoapigiapcmjnaaDoor
open Go.RowKit Go.Ms Go.Lib

end Go.Proofs.YtoapigiapcmjnaaDoor
namespace Go.Proofs.YtoapigiapcmjnaaDoor
open Go.RowKit Go.Ms Go.Lib

end Go.Proofs.YtoapigiapcmjnaaDoor
namespace Go.Proofs.YtoapigiapcmjnaaDoor
open Go.RowKit Go.Ms Go.Lib


end Go.Proofs.YtoapigiapcmjnaaDoor
namespace Go.Proofs.YtoapigiapcmjnaaDoor
open Go.RowKit Go.Ms Go.Lib

end Go.Proofs.YtoapigiapcmjnaaDoor
namespace Go.Proofs.YtoapigiapcmjnaaDoor
open Go.RowKit Go.Ms Go.Lib

end Go.Proofs.YtoapigiapcmjnaaDoor
namespace Go.Proofs.YtoapigiapcmjnaaDoor
open Go.RowKit Go.Ms Go.Lib

end Go.Proofs.YtoapigiapcmjnaaDoor
namespace Go.Proofs.YtoapigiapcmjnaaDoor
open Go.RowKit Go.Ms Go.Lib

end Go.Proofs.YtoapigiapcmjnaaDoor
namespace Go.Proofs.YtoapigiapcmjnaaDoor
open Go.RowKit Go.Ms Go.Lib

section
end
end Go.Proofs.YtoapigiapcmjnaaDoor
namespace Go.Ms
open Go.Lib
end Go.Ms
namespace Go.Proofs.YtoapigiapcmjnaaDoor
open Go.RowKit Go.Ms Go.Lib
section
end
end Go.Proofs.YtoapigiapcmjnaaDoor
namespace Go.Proofs.YtoapigiapcmjnaaDoor
open Go.RowKit Go.Ms Go.Lib

section
end
end Go.Proofs.YtoapigiapcmjnaaDoor
namespace Go.Proofs.YtoapigiapcmjnaaDoor
open Go.RowKit Go.Ms Go.Lib






end Go.Proofs.YtoapigiapcmjnaaDoor
namespace Go.Proofs.YtoapigiapcmjnaaDoor
open Go.RowKit Go.Ms Go.Lib


end Go.Proofs.YtoapigiapcmjnaaDoor
namespace Go.Proofs.YtoapigiapcmjnaaDoor
open Go.RowKit Go.Ms Go.Lib


end Go.Proofs.YtoapigiapcmjnaaDoor
namespace Go.Proofs.YtoapigiapcmjnaaDoor
open Go.RowKit Go.Ms Go.Lib


end Go.Proofs.YtoapigiapcmjnaaDoor
namespace Go.Proofs.YtoapigiapcmjnaaDoor
open Go.RowKit Go.Ms Go.Lib

end Go.Proofs.YtoapigiapcmjnaaDoor
namespace Go.Proofs.YtoapigiapcmjnaaDoor
open Go.RowKit Go.Ms Go.Lib


end Go.Proofs.YtoapigiapcmjnaaDoor
namespace Go.Ms
open Go.Lib



end Go.Ms
