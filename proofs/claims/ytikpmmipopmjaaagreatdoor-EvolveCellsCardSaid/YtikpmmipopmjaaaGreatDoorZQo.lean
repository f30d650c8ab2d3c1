/- Schemas, plainly: what is a name, what may be, the text of a schema, and how a text is read. Schemas: an argument's lists, read as such. Schemas, plainly: what may be, said place by place. Schemas that follow each other, plainly. -/
import Derived.Test.YtikpmmipopmjaaaGreatDoorZQb
import Derived.Test.YtikpmmipopmjaaaGreatDoorZQa
import Derived.Test.YtikpmmipopmjaaaGreatDoorZQn
import Derived.Deep.Slices
import Derived.Deep.Fields
import Derived.ChangeSame
import Derived.Lib.SmallJoins
import Derived.OpenShut
set_option linter.unusedVariables false
set_option linter.unusedSimpArgs false
namespace Go.Ms
open Go.RowKit Go.Lib
abbrev Co := Int × ByteArray × Ty × Cl
def coV (c : Co) : List Value := [.int .i64 c.1, .string c.2.1, .int .i64 c.2.2.1.1, .bool c.2.2.1.2, .bool c.2.2.2.1, .int .i64 c.2.2.2.2.1, .string c.2.2.2.2.2]
def colV (l : List Co) : List Value := l.flatMap coV
def coA (c : Co) : Value := .agg #[.int .i64 c.1, .string c.2.1, .int .i64 c.2.2.1.1, .bool c.2.2.1.2, .bool c.2.2.2.1, .int .i64 c.2.2.2.2.1, .string c.2.2.2.2.2]
def zCo : Co := (0, ⟨#[]⟩, (0, false), (false, 0, ⟨#[]⟩))
def nmFirst (c : UInt8) : Bool := decide (97 ≤ c.toNat) && decide (c.toNat ≤ 122)
def nmByte (c : UInt8) : Bool := nmFirst c || (decide (48 ≤ c.toNat) && decide (c.toNat ≤ 57)) || decide (c.toNat = 95)
def isNm (s : Bs) : Bool := decide (1 ≤ s.length) && decide (s.length ≤ 32) && nmFirst (s.getD 0 0) && s.all nmByte
def risesL : List Int → Int → Int → Bool
  | [], _, _ => true
  | n :: r, lo, hi => decide (lo ≤ n) && decide (n ≤ hi) && risesL r (n + 1) hi
def coOk (c : Co) : Bool := isNm c.2.1.data.toList && decide (cCheck c.2.2.1 c.2.2.2 = 0)
def coNames (l : List Co) : List ByteArray := l.map fun c => c.2.1
def coIds (l : List Co) : List Int := l.map fun c => c.1
def coTys (l : List Co) : List Ty := l.map fun c => c.2.2.1
def keyFull (cs : List Co) (k : Int) : Bool := !(cs.getD k.toNat zCo).2.2.1.2
def scOk (cs : List Co) (ks : List Int) : Bool :=
  cs.all coOk && decide (1 ≤ cs.length) && decide (cs.length ≤ 32) && decide ((coNames cs).Nodup) && risesL (coIds cs) 1 1048576 &&
    decide (ks.length ≤ 8) && risesL ks 0 (cs.length - 1) && ks.all (keyFull cs)
def scCheck (cs : List Co) (ks : List Int) : Int := if scOk cs ks = true then 0 else 2
def coFind (p : Co → Bool) (l : List Co) : Nat × Bool := match l.findIdx? p with
 | some i => (i, true)
 | none => (0, false)
def wordOf (k : Int) : Bs := if k = 1 then [98, 111, 111, 108] else if k = 2 then [105, 110, 116, 51, 50] else if k = 3 then [105, 110, 116, 54, 52] else if k = 4 then [115, 116, 114, 105, 110, 103] else if k = 5 then [98, 121, 116, 101, 115] else []
def coText (c : Co) : Bs := kTextD c.2.2.1.1 c.2.2.1.2 c.2.2.2.1 c.2.2.2.2.1 c.2.2.2.2.2.data.toList
def cutAt (c : UInt8) : Bs → Option (Bs × Bs)
  | [] => none
  | b :: r => if b = c then some ([], r) else match cutAt c r with
   | some x => some (b :: x.1, x.2)
   | none => none
def idOf (s : Bs) : Int := if itoa (kWhole s) = s ∧ 0 ≤ kWhole s ∧ kWhole s ≤ 1048576 then kWhole s else -1
def stripB (c : UInt8) (s : Bs) : Bs × Bool := if s.getLast? = some c then (s.dropLast, true) else (s, false)
def kindOf (w : Bs) : Int := if w = wordOf 1 then 1 else if w = wordOf 2 then 2 else if w = wordOf 3 then 3 else if w = wordOf 4 then 4 else if w = wordOf 5 then 5 else 0
def coRead (a b k t : Bs) : Option (Co × Bool) :=
  if isNm b = true ∧ 0 ≤ idOf a ∧ 1 ≤ kindOf (stripB 63 (stripB 42 k).1).1 ∧ (kReadD (kindOf (stripB 63 (stripB 42 k).1).1) (stripB 63 (stripB 42 k).1).2 t).2 = 0 then
    some ((idOf a, ⟨b.toArray⟩, (kindOf (stripB 63 (stripB 42 k).1).1, (stripB 63 (stripB 42 k).1).2), unCl (kReadD (kindOf (stripB 63 (stripB 42 k).1).1) (stripB 63 (stripB 42 k).1).2 t).1), (stripB 42 k).2)
  else none
def readCo (s : Bs) : Option (Co × Bool) := match cutAt 32 s with
 | none => none
 | some x => match cutAt 32 x.2 with
  | none => none
  | some y => match cutAt 32 y.2 with
   | none => none
   | some z => coRead x.1 y.1 z.1 z.2
def splitNl : Bs → List Bs × Bs
  | [] => ([], [])
  | c :: r => if c = 10 then ([] :: (splitNl r).1, (splitNl r).2) else match (splitNl r).1 with
   | [] => ([], c :: (splitNl r).2)
   | l :: ls => ((c :: l) :: ls, (splitNl r).2)
def readAll : List Co → List Int → List Bs → List Co × List Int × Bool
  | cs, ks, [] => (cs, ks, true)
  | cs, ks, l :: ls => match readCo l with
   | none => (cs, ks, false)
   | some x => readAll (cs ++ [x.1]) (if x.2 = true then ks ++ [(cs.length : Int)] else ks) ls
def parseR (s : Bs) : List Co × List Int × Bool :=
  ((readAll [] [] (splitNl s).1).1, (readAll [] [] (splitNl s).1).2.1, (readAll [] [] (splitNl s).1).2.2 && decide ((splitNl s).2 = []))
def parseD (s : Bs) : List Co × List Int × Nat × Int :=
  if 1048576 < s.length then ([], [], 0, 5)
  else if (parseR s).2.2 = true then (if scOk (parseR s).1 (parseR s).2.1 = true then ((parseR s).1, (parseR s).2.1, 0, 0) else ([], [], 0, 2))
  else ([], [], (parseR s).1.length, 4)
theorem cell_of_block {w : World} {b i : Nat} {cs : Array Value} {T : TypeId} {v : Value} (h : w.heap[b]? = some (.cells cs T (0, 0))) (hv : cs[i]? = some v) : w.cell? ⟨b, i, none⟩ = some v := by
 simp [World.cell?, h, hv]
theorem block_new (w : World) (o : Obj) : (w.alloc o).heap[w.heap.size]? = some o := by
 show (w.heap.push o)[w.heap.size]? = some o
 simp
theorem block_next {w : World} {b : Nat} {o : Obj} (h : w.heap[b]? = some o) (o' : Obj) : (w.alloc o').heap[b]? = some o :=
  (Below.heap_alloc w o' b (Array.getElem?_eq_some_iff.1 h).1).trans h
theorem block_kept {w w' : World} {b : Nat} {o : Obj} (h : w.heap[b]? = some o) (hb : Below w.heap.size w w') : w'.heap[b]? = some o :=
  (hb.block b (Array.getElem?_eq_some_iff.1 h).1).trans h
theorem colV_len (l : List Co) : (colV l).length = l.length * 7 := by
 induction l with
 | nil => rfl
 | cons a t ih => show (coV a ++ colV t).length = _; rw [List.length_append, ih, List.length_cons]; simp [coV]; omega
theorem colV_app (l m : List Co) : colV (l ++ m) = colV l ++ colV m := List.flatMap_append
theorem colV_at : ∀ (l : List Co) (i : Nat) (c : Co), l[i]? = some c → ∀ (j : Nat) (u : Value), (coV c)[j]? = some u → (colV l)[i * 7 + j]? = some u
  | [], i, c, h, j, u, hu => by simp at h
  | a :: t, 0, c, h, j, u, hu => by
   have h : a = c := by simpa using h
   subst h; have hj : j < (coV a).length := (List.getElem?_eq_some_iff.1 hu).1
   show (coV a ++ colV t)[0 * 7 + j]? = _
   rw [List.getElem?_append_left (by omega), Nat.zero_mul, Nat.zero_add]; exact hu
  | a :: t, i + 1, c, h, j, u, hu => by
   have ih := colV_at t i c (by simpa using h) j u hu
   show (coV a ++ colV t)[(i + 1) * 7 + j]? = _
   rw [List.getElem?_append_right (by simp [coV]; omega), ← ih]
   congr 1
   simp [coV]; omega
theorem colV_one (l : List Co) : ∀ u ∈ colV l, u.oneCell' = true := by
 intro u hu
 obtain ⟨c, _, hc⟩ := List.mem_flatMap.1 hu
 simp [coV] at hc
 rcases hc with rfl | rfl | rfl | rfl | rfl | rfl | rfl <;> rfl
theorem Lay.co {w : World} {B : Nat} {A : Option Addr} {l : List Co} {i : Nat} {c : Co} (h : Lay w B A (colV l)) (hi : l[i]? = some c) :
    ∃ g o, A = some ⟨g, o, none⟩ ∧ g < B ∧ w.cell? ⟨g, o + i * 7, none⟩ = some (.int .i64 c.1) ∧ w.cell? ⟨g, o + i * 7 + 1, none⟩ = some (.string c.2.1) ∧ w.cell? ⟨g, o + i * 7 + 2, none⟩ = some (.int .i64 c.2.2.1.1) ∧ w.cell? ⟨g, o + i * 7 + 3, none⟩ = some (.bool c.2.2.1.2) ∧
      w.cell? ⟨g, o + i * 7 + 4, none⟩ = some (.bool c.2.2.2.1) ∧ w.cell? ⟨g, o + i * 7 + 5, none⟩ = some (.int .i64 c.2.2.2.2.1) ∧ w.cell? ⟨g, o + i * 7 + 6, none⟩ = some (.string c.2.2.2.2.2) := by
 have hl : i < l.length := (List.getElem?_eq_some_iff.1 hi).1; obtain ⟨g, o, e, hb, hc⟩ := h.some_ (by rw [colV_len]; omega); have k := colV_at l i c hi; exact ⟨g, o, e, hb, hc _ _ (k 0 _ rfl), hc _ _ (k 1 _ rfl), hc _ _ (k 2 _ rfl), hc _ _ (k 3 _ rfl), hc _ _ (k 4 _ rfl), hc _ _ (k 5 _ rfl), hc _ _ (k 6 _ rfl)⟩
theorem Lay.cols {w : World} {B : Nat} {A : Option Addr} {l : List Co} (h : Lay w B A (colV l)) : Cols w B A (coTys l) (colV l) := by
 refine ⟨by rw [colV_len]; simp [coTys], h, fun i t ht => ?_⟩; simp only [coTys, List.getElem?_map, Option.map_eq_some_iff] at ht; obtain ⟨c, hc, rfl⟩ := ht; exact ⟨colV_at l i c hc 2 _ rfl, colV_at l i c hc 3 _ rfl⟩
end Go.Ms
namespace Go.Ms
open Go.RowKit Go.Lib Go.ChangeShapes Go.WideShapes Go.Deep
def I64 (n : Int) : Prop := -9223372036854775808 ≤ n ∧ n ≤ 9223372036854775807
theorem I64.of {n : Int} (h : (Lit.int .i64 n).wf = true) : I64 n := bounds_i64 h
section
variable {H : Type} {enc : TypeId × Value → H} {P : Program} {w : World} {base : Nat} {spare : Nat → Bool} {held : Bool}
theorem flat_at {α : Type} (f : α → List Value) (k : Nat) (hk : ∀ x, (f x).length = k) : ∀ (l : List α) (j : Nat) (u : Value), (l.flatMap f)[j]? = some u → 0 < k → ∃ x, l[j / k]? = some x ∧ (f x)[j % k]? = some u
  | [], j, u, h, _ => by simp at h
  | a :: t, j, u, h, h0 => by
   rw [List.flatMap_cons] at h
   by_cases hj : j < k
   · rw [List.getElem?_append_left (by rw [hk]; exact hj)] at h; exact ⟨a, by rw [Nat.div_eq_of_lt hj]; rfl, by rw [Nat.mod_eq_of_lt hj]; exact h⟩
   · rw [List.getElem?_append_right (by rw [hk]; omega), hk] at h; obtain ⟨x, h1, h2⟩ := flat_at f k hk t (j - k) u h h0; refine ⟨x, ?_, ?_⟩
     · rw [Nat.div_eq_sub_div h0 (by omega)]; simpa using h1
     · rw [Nat.mod_eq_sub_mod (by omega)]; exact h2
theorem open_list_at {α : Type} (f : α → List Value) (ok : α → Prop) {t e : TypeId} {k : Nat} (hk : ∀ x, (f x).length = k) (hk0 : 0 < k) (ht : P.underlying t = some (.slice e)) (hC : P.cellsOf e = k)
    (hel : ∀ n cs' y, DataW.trod enc P w base spare held n e cs' = some y → ∃ x, cs' = f x ∧ ok x)
    {fuel : Nat} {v : Value} {x : DataW H × List MemPlace} (hf : DataW.trod enc P w base spare held fuel t [v] = some x) :
    ∃ (A : Option Addr) (len cap : Nat) (l : List α), v = .slice A len cap ∧ l.length = len ∧ len ≤ cap ∧ cap ≤ maxLen ∧ (∀ x ∈ l, ok x) ∧ ∀ j u, (l.flatMap f)[j]? = some u → ∃ a, A = some a ∧ a.block < w.heap.size ∧ w.cell? (a.add j) = some u := by
 rcases open_slice ht hf with ⟨hcs, _⟩ | ⟨a, len, cap, m, n, D, Pl, hcs, hb, hl, hm, hmm, hx, hi⟩
 · obtain rfl : v = .slice none 0 0 := by simpa using hcs
   exact ⟨none, 0, 0, [], rfl, rfl, Nat.le_refl _, by unfold maxLen; omega, by simp, by simp⟩
 · obtain rfl : v = .slice (some a) len cap := by simpa using hcs
   have hlm : len ≤ m := by rw [hmm]; split <;> omega
   have hex : ∀ i, i < len → ∃ x, ok x ∧ ∀ j u, (f x)[j]? = some u → w.cell? (a.add (i * k + j)) = some u := by
    intro i hil
    obtain ⟨cs', hc, ht'⟩ := hi i (by omega); obtain ⟨x, rfl, hok⟩ := hel _ _ _ ht'; refine ⟨x, hok, fun j u hu => ?_⟩; obtain ⟨_, _, hat⟩ := World.cells?_some hc
    have hj : j < k := by rw [← hk x]; exact (List.getElem?_eq_some_iff.1 hu).1
    have := hat j (by rw [hC]; exact hj); rw [hC] at this; rw [← Go.Deep.add_add, this, hu]
   have hlist : ∃ l : List α, l.length = len ∧ (∀ x ∈ l, ok x) ∧ ∀ i x, l[i]? = some x → ∀ j u, (f x)[j]? = some u → w.cell? (a.add (i * k + j)) = some u := by
    refine ⟨List.ofFn fun i : Fin len => Classical.choose (hex i.1 i.2), by simp, ?_, ?_⟩
    · intro x hx
      obtain ⟨i, hi, rfl⟩ := List.getElem_of_mem hx; rw [List.getElem_ofFn]; exact (Classical.choose_spec (hex i (by simpa using hi))).1
    · intro i x hx
      obtain ⟨hi, rfl⟩ := List.getElem?_eq_some_iff.1 hx; rw [List.getElem_ofFn]; exact (Classical.choose_spec (hex i (by simpa using hi))).2
   obtain ⟨l, h1, h2, h3⟩ := hlist; refine ⟨some a, len, cap, l, rfl, h1, hl, hm, h2, fun j u hu => ⟨a, rfl, ?_, ?_⟩⟩
   · have hj : 0 < l.length := by
       rcases l with _ | ⟨x, t⟩
       · simp at hu
       · simp
     obtain ⟨cs', hc, _⟩ := hi 0 (by omega); obtain ⟨_, hcl, hat⟩ := World.cells?_some hc; have h0 := hat 0 (by rw [hC]; exact hk0); have hv0 : cs'[0]? = some (cs'[0]'(by rw [hcl, hC]; exact hk0)) := List.getElem?_eq_getElem _; rw [hv0] at h0; have := World.block_lt_of_cell? w _ h0
     simp [adr_block] at this
     exact this
   · obtain ⟨x, hx, hxu⟩ := flat_at f k hk l j u hu hk0; have := h3 _ x hx _ u hxu
     rwa [Nat.div_add_mod' ] at this
theorem open_list {α : Type} (f : α → List Value) (ok : α → Prop) {t e : TypeId} {k : Nat} (hk : ∀ x, (f x).length = k) (hk0 : 0 < k) (ht : P.underlying t = some (.slice e)) (hC : P.cellsOf e = k)
    (hel : ∀ n cs' y, DataW.trod enc P w base spare held n e cs' = some y → ∃ x, cs' = f x ∧ ok x)
    {r : Reach} {b0 : Nat} {v : Value} {d : DataW H} {p : List MemPlace} (hv : Value.okWide P w r b0 t v) (h : DataW.Trod enc P w base spare held t v d p) :
    ∃ (A : Option Addr) (len cap : Nat) (l : List α), v = .slice A len cap ∧ l.length = len ∧ len ≤ cap ∧ cap ≤ maxLen ∧ (∀ x ∈ l, ok x) ∧ ∀ j u, (l.flatMap f)[j]? = some u → ∃ a, A = some a ∧ a.block < w.heap.size ∧ w.cell? (a.add j) = some u := by
 obtain ⟨A, len, cap, rfl⟩ := okWide_slice ht hv; obtain ⟨fuel, hf⟩ := h; exact open_list_at f ok hk hk0 ht hC hel hf
end
end Go.Ms
namespace Go.Proofs.YtikpmmipopmjaaaGreatDoor
open Go.RowKit Go.Ms Go.Lib Go.ChangeShapes Go.WideShapes Go.Deep
section
variable {H : Type} {enc : TypeId × Value → H} {w : World} {base : Nat} {spare : Nat → Bool} {held : Bool}
theorem cells_int : Tryz.prog.cellsOf 3 = 1 := by kernel_rfl
def oneI (n : Int) : List Value := [.int .i64 n]
theorem oneI_len (n : Int) : (oneI n).length = 1 := rfl
theorem int_el {n : Nat} {cs' : List Value} {y : DataW H × List MemPlace} (h : DataW.trod enc Tryz.prog w base spare held n 3 cs' = some y) : ∃ x : Int, cs' = oneI x ∧ I64 x := by
 obtain ⟨m, e, _, wm⟩ := DataW.trod_int Tryz.underlying3 h; exact ⟨m, e, I64.of wm⟩
theorem ext_ints {B : Nat} {A : Option Addr} {l : List Int} (h : Ext w B A (l.flatMap oneI)) : Ext w B A (intV l) := by
 have e : intV l = l.flatMap oneI := by
  clear h
  induction l with
  | nil => rfl
  | cons a t ih => show .int .i64 a :: intV t = [.int .i64 a] ++ t.flatMap oneI; rw [ih]; rfl
 rw [e]; exact h
end
end Go.Proofs.YtikpmmipopmjaaaGreatDoor
namespace Go.Ms
open Go.RowKit Go.Lib
end Go.Ms
set_option linter.unusedSimpArgs false
namespace Go.Ms
open Go.Lib
theorem rises_iff : ∀ (l : List Int) (lo hi : Int), risesL l lo hi = true ↔ (∀ (i : Nat) x, l[i]? = some x → lo ≤ x ∧ x ≤ hi) ∧ ∀ (i : Nat) x y, l[i]? = some x → l[i + 1]? = some y → x < y
  | [], lo, hi => by simp [risesL]
  | n :: r, lo, hi => by
   have ih := rises_iff r (n + 1) hi; rw [risesL, Bool.and_eq_true, Bool.and_eq_true, decide_eq_true_eq, decide_eq_true_eq, ih]
   constructor
   · rintro ⟨⟨h1, h2⟩, h3, h4⟩; refine ⟨fun i x hx => ?_, fun i x y hx hy => ?_⟩
     · cases i with
      | zero => obtain rfl : n = x := by simpa using hx
                exact ⟨h1, h2⟩
      | succ i => have := h3 i x (by simpa using hx); exact ⟨by omega, this.2⟩
     · cases i with
      | zero =>
       obtain rfl : n = x := by simpa using hx
       have := h3 0 y (by simpa using hy); omega
      | succ i => exact h4 i x y (by simpa using hx) (by simpa using hy)
   · rintro ⟨h1, h2⟩; have h0 := h1 0 n rfl; refine ⟨h0, ?_, fun i x y hx hy => h2 (i + 1) x y (by simpa using hx) (by simpa using hy)⟩
     intro i
     induction i with
     | zero => intro x hx; have a := h2 0 n x rfl (by simpa using hx); have b := h1 1 x (by simpa using hx); exact ⟨by omega, b.2⟩
     | succ i ih2 =>
      intro x hx
      have hl : i + 1 < r.length := (List.getElem?_eq_some_iff.1 hx).1; have hp := ih2 _ (List.getElem?_eq_getElem (by omega : i < r.length)); have a := h2 (i + 1) _ x (by simpa using List.getElem?_eq_getElem (by omega : i < r.length)) (by simpa using hx); have b := h1 (i + 2) x (by simpa using hx); exact ⟨by omega, b.2⟩
def NamesApart (cs : List Co) : Prop := ∀ (i j : Nat) a b, i < j → cs[i]? = some a → cs[j]? = some b → a.2.1 ≠ b.2.1
theorem names_iff (cs : List Co) : (coNames cs).Nodup ↔ NamesApart cs := by
 unfold List.Nodup; rw [List.pairwise_iff_getElem]; unfold NamesApart coNames
 constructor
 · intro h i j a b hij ha hb
   obtain ⟨hi, rfl⟩ := List.getElem?_eq_some_iff.1 ha; obtain ⟨hj, rfl⟩ := List.getElem?_eq_some_iff.1 hb; have := h i j (by simpa using hi) (by simpa using hj) hij; rw [List.getElem_map, List.getElem_map] at this; exact this
 · intro h i j hi hj hij
   simp only [List.getElem_map]; simp only [List.length_map] at hi hj; exact h i j _ _ hij (List.getElem?_eq_getElem hi) (List.getElem?_eq_getElem hj)
structure ScOk (cs : List Co) (ks : List Int) : Prop where
  co : ∀ (i : Nat) c, cs[i]? = some c → isNm c.2.1.data.toList = true ∧ cCheck c.2.2.1 c.2.2.2 = 0
  one : 1 ≤ cs.length
  most : cs.length ≤ 32
  apart : NamesApart cs
  id : ∀ (i : Nat) c, cs[i]? = some c → 1 ≤ c.1 ∧ c.1 ≤ 1048576
  up : ∀ (i : Nat) a b, cs[i]? = some a → cs[i + 1]? = some b → a.1 < b.1
  keys : ks.length ≤ 8
  kin : ∀ (i : Nat) k, ks[i]? = some k → 0 ≤ k ∧ k < cs.length
  kup : ∀ (i : Nat) a b, ks[i]? = some a → ks[i + 1]? = some b → a < b
  full : ∀ (i : Nat) k c, ks[i]? = some k → cs[k.toNat]? = some c → c.2.2.1.2 = false
theorem scOk_iff (cs : List Co) (ks : List Int) : scOk cs ks = true ↔ ScOk cs ks := by
 unfold scOk; simp only [Bool.and_eq_true, decide_eq_true_eq, names_iff, rises_iff]
 have hid : ∀ (i : Nat) x, (coIds cs)[i]? = some x ↔ ∃ c, cs[i]? = some c ∧ c.1 = x := fun i x => by
  unfold coIds; rw [List.getElem?_map, Option.map_eq_some_iff]
 constructor
 · rintro ⟨⟨⟨⟨⟨⟨⟨h1, h2⟩, h3⟩, h4⟩, h5, h6⟩, h7⟩, h8, h9⟩, h10⟩
   have kin : ∀ (i : Nat) k, ks[i]? = some k → 0 ≤ k ∧ k < cs.length := fun i k hk => by have := h8 i k hk; omega
   refine ⟨fun i c hc => ?_, h2, h3, h4, fun i c hc => h5 i c.1 ((hid i c.1).2 ⟨c, hc, rfl⟩), fun i a b ha hb => h6 i a.1 b.1 ((hid _ _).2 ⟨a, ha, rfl⟩) ((hid _ _).2 ⟨b, hb, rfl⟩), h7, kin, h9, fun i k c hk hc => ?_⟩
   · have := List.all_eq_true.1 h1 c (List.mem_of_getElem? hc); unfold coOk at this
     simpa using this
   · have := List.all_eq_true.1 h10 k (List.mem_of_getElem? hk); unfold keyFull at this; rw [List.getD_eq_getElem?_getD, hc] at this
     simpa using this
 · intro h
   refine ⟨⟨⟨⟨⟨⟨⟨List.all_eq_true.2 fun c hc => ?_, h.one⟩, h.most⟩, h.apart⟩, fun i x hx => ?_, fun i x y hx hy => ?_⟩, h.keys⟩, fun i k hk => ?_, h.kup⟩, List.all_eq_true.2 fun k hk => ?_⟩
   · obtain ⟨i, hi⟩ := List.getElem?_of_mem hc; have := h.co i c hi; unfold coOk
     simp [this.1, this.2]
   · obtain ⟨c, hc, rfl⟩ := (hid i x).1 hx; exact h.id i c hc
   · obtain ⟨a, ha, rfl⟩ := (hid i x).1 hx; obtain ⟨b, hb, rfl⟩ := (hid _ y).1 hy; exact h.up i a b ha hb
   · have := h.kin i k hk; omega
   · obtain ⟨i, hi⟩ := List.getElem?_of_mem hk; obtain ⟨h0, h1⟩ := h.kin i k hi
     have hl : k.toNat < cs.length := by omega
     have := h.full i k _ hi (List.getElem?_eq_getElem hl); unfold keyFull; rw [List.getD_eq_getElem?_getD, List.getElem?_eq_getElem hl]
     simpa using this
theorem scCheck_ok {cs : List Co} {ks : List Int} (h : ScOk cs ks) : scCheck cs ks = 0 := by unfold scCheck; rw [if_pos ((scOk_iff cs ks).2 h)]
theorem scCheck_no {cs : List Co} {ks : List Int} (h : ¬ ScOk cs ks) : scCheck cs ks = 2 := by unfold scCheck; rw [if_neg (fun e => h ((scOk_iff cs ks).1 e))]
end Go.Ms
set_option linter.unusedSimpArgs false
namespace Go.Ms
abbrev Sc := List Co × List Int
def evSame (a b : Co) : Bool := decide (a.2.1 = b.2.1) && decide (a.2.2.2 = b.2.2.2) && (a.2.2.1.2 == b.2.2.1.2) && (decide (a.2.2.1.1 = b.2.2.1.1) || (decide (a.2.2.1.1 = 2) && decide (b.2.2.1.1 = 3)))
def evLast (cs : List Co) : Int := (cs.getLast?.map fun c => c.1).getD 0
def evKeys (s : Sc) : List Int := s.2.map fun k => (s.1.getD k.toNat zCo).1
def evAt (cs : List Co) (id : Int) : Option Nat := cs.findIdx? fun c => decide (c.1 = id)
def evCol (cs : List Co) (above : Int) (d : Co) : Bool := match evAt cs d.1 with
 | some k => evSame (cs.getD k zCo) d
 | none => decide (above < d.1)
def evFollows (a b : Sc) (above : Int) : Bool := b.1.all (evCol a.1 above) && decide (evKeys a = evKeys b)
def evStep (a b : Sc) : Int := if scOk a.1 a.2 = true ∧ scOk b.1 b.2 = true then (if evFollows a b (evLast a.1) = true then 0 else 120) else 2
def evLinks : Sc → Int → List Sc → Bool
  | _, _, [] => true
  | p, ab, s :: r => evFollows p s ab && evLinks s (max ab (evLast s.1)) r
def evChain (l : List Sc) : Int := if 64 < l.length then 5 else if (l.all fun s => scOk s.1 s.2) = true then (match l with
 | [] => 0
 | s :: r => if evLinks s (max 0 (evLast s.1)) r = true then 0 else 120) else 2
def evMoved (a b : List Co) (r : List Cl) : List Cl := b.map fun d => match evAt a d.1 with
 | some k => r.getD k zCl
 | none => d.2.2.2
def evMove (a b : Sc) (r : List Cl) : List Cl × Int := if evStep a b = 0 then (if rCheck (coTys a.1) r = 0 then (evMoved a.1 b.1 r, 0) else ([], rCheck (coTys a.1) r)) else ([], evStep a b)
def evAlong : Sc → List Sc → List Cl → List Cl
  | _, [], r => r
  | a, b :: l, r => evAlong b l (evMoved a.1 b.1 r)
def zSc : Sc := ([], [])
def evCarry (l : List Sc) (f t : Int) (r : List Cl) : List Cl × Int :=
  if evChain l = 0 then (if f < 1 ∨ t < f ∨ (l.length : Int) < t then ([], 131) else if rCheck (coTys (l.getD (f.toNat - 1) zSc).1) r = 0 then (evAlong (l.getD (f.toNat - 1) zSc) ((l.drop f.toNat).take (t - f).toNat) r, 0) else ([], rCheck (coTys (l.getD (f.toNat - 1) zSc).1) r)) else ([], evChain l)
theorem evAt_some {cs : List Co} {id : Int} {k : Nat} (h : evAt cs id = some k) : ∃ c, cs[k]? = some c ∧ c.1 = id := by
 unfold evAt at h; rw [List.findIdx?_eq_some_iff_getElem] at h; obtain ⟨h1, h2, _⟩ := h; exact ⟨_, List.getElem?_eq_getElem h1, by simpa using h2⟩
theorem evAt_none {cs : List Co} {id : Int} (h : evAt cs id = none) : ∀ c ∈ cs, c.1 ≠ id := by
 unfold evAt at h; rw [List.findIdx?_eq_none_iff] at h
 intro c hc
 simpa using h c hc
def IdsUp (cs : List Co) : Prop := ∀ (j i : Nat) a b, i < j → cs[i]? = some a → cs[j]? = some b → a.1 < b.1
theorem ids_up {cs : List Co} {ks : List Int} (h : ScOk cs ks) : IdsUp cs := by
 intro j
 induction j with
 | zero => intro i a b hij; omega
 | succ j ih =>
  intro i a b hij ha hb
  by_cases e : i = j
  · subst e; exact h.up i a b ha hb
  · have hl := (List.getElem?_eq_some_iff.1 hb).1; have h1 := ih i a _ (by omega) ha (List.getElem?_eq_getElem (by omega)); have h2 := h.up j _ b (List.getElem?_eq_getElem (by omega)) hb; omega
theorem evAt_of {cs : List Co} (hu : IdsUp cs) {k : Nat} {c : Co} (h : cs[k]? = some c) : evAt cs c.1 = some k := by
 cases he : evAt cs c.1 with
 | none => exact absurd rfl (evAt_none he c (List.mem_of_getElem? h))
 | some j =>
  obtain ⟨d, hd, e⟩ := evAt_some he
  rcases Nat.lt_trichotomy j k with h1 | h1 | h1
  · have := hu k j d c h1 hd h; omega
  · rw [h1]
  · have := hu j k c d h1 h hd; omega
theorem last_ge {cs : List Co} (hu : IdsUp cs) : ∀ c ∈ cs, c.1 ≤ evLast cs := by
 intro c hc
 obtain ⟨k, hk⟩ := List.getElem?_of_mem hc; have hl := (List.getElem?_eq_some_iff.1 hk).1; unfold evLast
 have hg : cs.getLast? = some (cs[cs.length - 1]'(by omega)) := by rw [List.getLast?_eq_getElem?, List.getElem?_eq_getElem (by omega)]
 rw [hg]; simp only [Option.map_some, Option.getD_some]
 by_cases e : k = cs.length - 1
 · have : cs[cs.length - 1]? = some c := by rw [← e]; exact hk
   obtain ⟨h1, h2⟩ := List.getElem?_eq_some_iff.1 this
   rw [h2]; exact Int.le_refl _
 · have := hu (cs.length - 1) k c _ (by omega) hk (List.getElem?_eq_getElem (by omega)); omega
theorem same_refl (c : Co) : evSame c c = true := by unfold evSame; simp
theorem same_trans {a b c : Co} (h1 : evSame a b = true) (h2 : evSame b c = true) : evSame a c = true := by
 unfold evSame at *; simp only [Bool.and_eq_true, Bool.or_eq_true, decide_eq_true_eq, beq_iff_eq] at *; obtain ⟨⟨⟨a1, a2⟩, a3⟩, a4⟩ := h1; obtain ⟨⟨⟨b1, b2⟩, b3⟩, b4⟩ := h2; refine ⟨⟨⟨a1.trans b1, a2.trans b2⟩, a3.trans b3⟩, ?_⟩
 rcases a4 with h | ⟨h, h'⟩ <;> rcases b4 with k | ⟨k, k'⟩
 · exact .inl (h.trans k)
 · exact .inr ⟨h.trans k, k'⟩
 · exact .inr ⟨h, k.symm.trans h'⟩
 · omega
theorem same_def {a b : Co} (h : evSame a b = true) : a.2.2.2 = b.2.2.2 := by
 unfold evSame at h; simp only [Bool.and_eq_true, decide_eq_true_eq] at h; exact h.1.1.2
theorem col_some {cs : List Co} {ab : Int} {d : Co} {k : Nat} {c : Co} (h : evCol cs ab d = true) (hk : evAt cs d.1 = some k) (hc : cs[k]? = some c) : evSame c d = true := by
 unfold evCol at h; rw [hk] at h
 simpa [List.getD_eq_getElem?_getD, hc] using h
theorem col_none {cs : List Co} {ab : Int} {d : Co} (h : evCol cs ab d = true) (hk : evAt cs d.1 = none) : ab < d.1 := by
 unfold evCol at h; rw [hk] at h
 simpa using h
theorem follows_trans {a b c : Sc} {p q o : Int} (ha : IdsUp a.1) (hb : IdsUp b.1) (h1 : evFollows a b p = true) (h2 : evFollows b c q = true) (hq : ∀ x ∈ a.1, x.1 ≤ q) (ho : o ≤ q) (ho2 : ∀ x ∈ b.1, evAt a.1 x.1 = none → o < x.1) : evFollows a c o = true := by
 unfold evFollows at *; simp only [Bool.and_eq_true, decide_eq_true_eq, List.all_eq_true] at *; refine ⟨fun d hd => ?_, h1.2.trans h2.2⟩; have hbc := h2.1 d hd; unfold evCol
 cases hk : evAt a.1 d.1 with
 | none =>
  simp only [decide_eq_true_eq]
  cases hj : evAt b.1 d.1 with
  | none => have := col_none hbc hj; omega
  | some j =>
   obtain ⟨x, hx, e⟩ := evAt_some hj; have := ho2 x (List.mem_of_getElem? hx) (by rw [e]; exact hk); omega
 | some k =>
  obtain ⟨x, hx, ex⟩ := evAt_some hk; simp only [List.getD_eq_getElem?_getD, hx, Option.getD_some]
  cases hj : evAt b.1 d.1 with
  | none =>
   have h3 := col_none hbc hj; have h4 := hq x (List.mem_of_getElem? hx); omega
  | some j =>
   obtain ⟨y, hy, ey⟩ := evAt_some hj; have h3 := col_some hbc hj hy; have h4 := h1.1 y (List.mem_of_getElem? hy); have h5 := col_some h4 (by rw [ey]; exact hk) hx; exact same_trans h5 h3
theorem moved_moved {a b c : Sc} {p q : Int} (hb : IdsUp b.1) (h1 : evFollows a b p = true) (h2 : evFollows b c q = true) (hq : ∀ x ∈ a.1, x.1 ≤ q) (r : List Cl) : evMoved b.1 c.1 (evMoved a.1 b.1 r) = evMoved a.1 c.1 r := by
 unfold evFollows at h1 h2; simp only [Bool.and_eq_true, decide_eq_true_eq, List.all_eq_true] at h1 h2; unfold evMoved
 apply List.map_congr_left
 intro d hd
 have hbc := h2.1 d hd
 cases hj : evAt b.1 d.1 with
 | none =>
  cases hk : evAt a.1 d.1 with
  | none => rfl
  | some k =>
   obtain ⟨x, hx, ex⟩ := evAt_some hk; have h3 := col_none hbc hj; have h4 := hq x (List.mem_of_getElem? hx); omega
 | some j =>
  obtain ⟨y, hy, ey⟩ := evAt_some hj; have h3 := col_some hbc hj hy; simp only [List.getD_eq_getElem?_getD, List.getElem?_map, hy, Option.map_some, Option.getD_some, ey]
  cases hk : evAt a.1 d.1 with
  | none => exact same_def h3
  | some k => rfl
theorem moved_self {a : List Co} (hu : IdsUp a) {r : List Cl} (hl : a.length = r.length) : evMoved a a r = r := by
 unfold evMoved
 apply List.ext_getElem?
 intro i
 rw [List.getElem?_map]
 cases hc : a[i]? with
 | none =>
  have := List.getElem?_eq_none_iff.1 hc; rw [Option.map_none, List.getElem?_eq_none (by omega)]
 | some c =>
  have h1 := (List.getElem?_eq_some_iff.1 hc).1; have he := evAt_of hu hc; rw [Option.map_some, he]; simp only [List.getD_eq_getElem?_getD]; rw [List.getElem?_eq_getElem (by omega : i < r.length)]; rfl
theorem moved_len (a b : List Co) (r : List Cl) : (evMoved a b r).length = b.length := by unfold evMoved; rw [List.length_map]
end Go.Ms
