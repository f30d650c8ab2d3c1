/- Schemas, plainly: what is a name, what may be, the text of a schema, and how a text is read. Schemas, plainly: what may be, said place by place. Texts cut at a byte: what the library's SplitN and the loops answer. Schemas, plainly: the columns that are read may be; how large what they hold is. -/
import Derived.Test.YthlinmkengoliaaGreatDoorZYa
import Derived.Lib.Split
import Derived.Test.YthlinmkengoliaaGreatDoorZA
set_option linter.unusedVariables false
set_option linter.unusedSimpArgs false
namespace Go.Ms
open Go.RowKit Go.Lib
abbrev Co := Int × ByteArray × Ty × Cl
def coV (c : Co) : List Value := [.int .i64 c.1, .string c.2.1, .int .i64 c.2.2.1.1, .bool c.2.2.1.2, .bool c.2.2.2.1, .int .i64 c.2.2.2.2.1, .string c.2.2.2.2.2]
def colV (l : List Co) : List Value := l.flatMap coV
def coA (c : Co) : Value := .agg #[.int .i64 c.1, .string c.2.1, .int .i64 c.2.2.1.1, .bool c.2.2.1.2, .bool c.2.2.2.1, .int .i64 c.2.2.2.2.1, .string c.2.2.2.2.2]
def zCo : Co := (0, ⟨#[]⟩, (0, false), (false, 0, ⟨#[]⟩))
def nmFirst (c : UInt8) : Bool := decide (97 ≤ c.toNat) && decide (c.toNat ≤ 122)
def nmByte (c : UInt8) : Bool := nmFirst c || (decide (48 ≤ c.toNat) && decide (c.toNat ≤ 57)) || decide (c.toNat = 95)
def isNm (s : Bs) : Bool := decide (1 ≤ s.length) && decide (s.length ≤ 32) && nmFirst (s.getD 0 0) && s.all nmByte
def risesL : List Int → Int → Int → Bool
  | [], _, _ => true
  | n :: r, lo, hi => decide (lo ≤ n) && decide (n ≤ hi) && risesL r (n + 1) hi
def coOk (c : Co) : Bool := isNm c.2.1.data.toList && decide (cCheck c.2.2.1 c.2.2.2 = 0)
def coNames (l : List Co) : List ByteArray := l.map fun c => c.2.1
def coIds (l : List Co) : List Int := l.map fun c => c.1
def coTys (l : List Co) : List Ty := l.map fun c => c.2.2.1
def keyFull (cs : List Co) (k : Int) : Bool := !(cs.getD k.toNat zCo).2.2.1.2
def scOk (cs : List Co) (ks : List Int) : Bool :=
  cs.all coOk && decide (1 ≤ cs.length) && decide (cs.length ≤ 32) && decide ((coNames cs).Nodup) && risesL (coIds cs) 1 1048576 &&
    decide (ks.length ≤ 8) && risesL ks 0 (cs.length - 1) && ks.all (keyFull cs)
def scCheck (cs : List Co) (ks : List Int) : Int := if scOk cs ks = true then 0 else 2
def coFind (p : Co → Bool) (l : List Co) : Nat × Bool := match l.findIdx? p with
 | some i => (i, true)
 | none => (0, false)
def wordOf (k : Int) : Bs := if k = 1 then [98, 111, 111, 108] else if k = 2 then [105, 110, 116, 51, 50] else if k = 3 then [105, 110, 116, 54, 52] else if k = 4 then [115, 116, 114, 105, 110, 103] else if k = 5 then [98, 121, 116, 101, 115] else []
def coText (c : Co) : Bs := kTextD c.2.2.1.1 c.2.2.1.2 c.2.2.2.1 c.2.2.2.2.1 c.2.2.2.2.2.data.toList
def coLine (key : Bool) (c : Co) : Bs :=
  itoa c.1 ++ 32 :: (c.2.1.data.toList ++ 32 :: (wordOf c.2.2.1.1 ++ (if c.2.2.1.2 = true then [63] else []) ++ (if key = true then [42] else []) ++ 32 :: coText c))
def scLines (ks : List Int) : Nat → List Co → Bs
  | _, [] => []
  | i, c :: r => coLine (ks.contains (i : Int)) c ++ 10 :: scLines ks (i + 1) r
def scText (cs : List Co) (ks : List Int) : Bs := if scOk cs ks = true then scLines ks 0 cs else []
def cutAt (c : UInt8) : Bs → Option (Bs × Bs)
  | [] => none
  | b :: r => if b = c then some ([], r) else match cutAt c r with
   | some x => some (b :: x.1, x.2)
   | none => none
def idOf (s : Bs) : Int := if itoa (kWhole s) = s ∧ 0 ≤ kWhole s ∧ kWhole s ≤ 1048576 then kWhole s else -1
def stripB (c : UInt8) (s : Bs) : Bs × Bool := if s.getLast? = some c then (s.dropLast, true) else (s, false)
def kindOf (w : Bs) : Int := if w = wordOf 1 then 1 else if w = wordOf 2 then 2 else if w = wordOf 3 then 3 else if w = wordOf 4 then 4 else if w = wordOf 5 then 5 else 0
def coRead (a b k t : Bs) : Option (Co × Bool) :=
  if isNm b = true ∧ 0 ≤ idOf a ∧ 1 ≤ kindOf (stripB 63 (stripB 42 k).1).1 ∧ (kReadD (kindOf (stripB 63 (stripB 42 k).1).1) (stripB 63 (stripB 42 k).1).2 t).2 = 0 then
    some ((idOf a, ⟨b.toArray⟩, (kindOf (stripB 63 (stripB 42 k).1).1, (stripB 63 (stripB 42 k).1).2), unCl (kReadD (kindOf (stripB 63 (stripB 42 k).1).1) (stripB 63 (stripB 42 k).1).2 t).1), (stripB 42 k).2)
  else none
def readCo (s : Bs) : Option (Co × Bool) := match cutAt 32 s with
 | none => none
 | some x => match cutAt 32 x.2 with
  | none => none
  | some y => match cutAt 32 y.2 with
   | none => none
   | some z => coRead x.1 y.1 z.1 z.2
def splitNl : Bs → List Bs × Bs
  | [] => ([], [])
  | c :: r => if c = 10 then ([] :: (splitNl r).1, (splitNl r).2) else match (splitNl r).1 with
   | [] => ([], c :: (splitNl r).2)
   | l :: ls => ((c :: l) :: ls, (splitNl r).2)
def readAll : List Co → List Int → List Bs → List Co × List Int × Bool
  | cs, ks, [] => (cs, ks, true)
  | cs, ks, l :: ls => match readCo l with
   | none => (cs, ks, false)
   | some x => readAll (cs ++ [x.1]) (if x.2 = true then ks ++ [(cs.length : Int)] else ks) ls
def parseR (s : Bs) : List Co × List Int × Bool :=
  ((readAll [] [] (splitNl s).1).1, (readAll [] [] (splitNl s).1).2.1, (readAll [] [] (splitNl s).1).2.2 && decide ((splitNl s).2 = []))
def parseD (s : Bs) : List Co × List Int × Nat × Int :=
  if 1048576 < s.length then ([], [], 0, 5)
  else if (parseR s).2.2 = true then (if scOk (parseR s).1 (parseR s).2.1 = true then ((parseR s).1, (parseR s).2.1, 0, 0) else ([], [], 0, 2))
  else ([], [], (parseR s).1.length, 4)
theorem cell_of_block {w : World} {b i : Nat} {cs : Array Value} {T : TypeId} {v : Value} (h : w.heap[b]? = some (.cells cs T (0, 0))) (hv : cs[i]? = some v) : w.cell? ⟨b, i, none⟩ = some v := by
 simp [World.cell?, h, hv]
theorem block_new (w : World) (o : Obj) : (w.alloc o).heap[w.heap.size]? = some o := by
 show (w.heap.push o)[w.heap.size]? = some o
 simp
theorem block_next {w : World} {b : Nat} {o : Obj} (h : w.heap[b]? = some o) (o' : Obj) : (w.alloc o').heap[b]? = some o :=
  (Below.heap_alloc w o' b (Array.getElem?_eq_some_iff.1 h).1).trans h
theorem block_kept {w w' : World} {b : Nat} {o : Obj} (h : w.heap[b]? = some o) (hb : Below w.heap.size w w') : w'.heap[b]? = some o :=
  (hb.block b (Array.getElem?_eq_some_iff.1 h).1).trans h
theorem colV_len (l : List Co) : (colV l).length = l.length * 7 := by
 induction l with
 | nil => rfl
 | cons a t ih => show (coV a ++ colV t).length = _; rw [List.length_append, ih, List.length_cons]; simp [coV]; omega
theorem colV_app (l m : List Co) : colV (l ++ m) = colV l ++ colV m := List.flatMap_append
theorem colV_at : ∀ (l : List Co) (i : Nat) (c : Co), l[i]? = some c → ∀ (j : Nat) (u : Value), (coV c)[j]? = some u → (colV l)[i * 7 + j]? = some u
  | [], i, c, h, j, u, hu => by simp at h
  | a :: t, 0, c, h, j, u, hu => by
   have h : a = c := by simpa using h
   subst h; have hj : j < (coV a).length := (List.getElem?_eq_some_iff.1 hu).1
   show (coV a ++ colV t)[0 * 7 + j]? = _
   rw [List.getElem?_append_left (by omega), Nat.zero_mul, Nat.zero_add]; exact hu
  | a :: t, i + 1, c, h, j, u, hu => by
   have ih := colV_at t i c (by simpa using h) j u hu
   show (coV a ++ colV t)[(i + 1) * 7 + j]? = _
   rw [List.getElem?_append_right (by simp [coV]; omega), ← ih]
   congr 1
   simp [coV]; omega
theorem colV_one (l : List Co) : ∀ u ∈ colV l, u.oneCell' = true := by
 intro u hu
 obtain ⟨c, _, hc⟩ := List.mem_flatMap.1 hu
 simp [coV] at hc
 rcases hc with rfl | rfl | rfl | rfl | rfl | rfl | rfl <;> rfl
theorem Lay.co {w : World} {B : Nat} {A : Option Addr} {l : List Co} {i : Nat} {c : Co} (h : Lay w B A (colV l)) (hi : l[i]? = some c) :
    ∃ g o, A = some ⟨g, o, none⟩ ∧ g < B ∧ w.cell? ⟨g, o + i * 7, none⟩ = some (.int .i64 c.1) ∧ w.cell? ⟨g, o + i * 7 + 1, none⟩ = some (.string c.2.1) ∧ w.cell? ⟨g, o + i * 7 + 2, none⟩ = some (.int .i64 c.2.2.1.1) ∧ w.cell? ⟨g, o + i * 7 + 3, none⟩ = some (.bool c.2.2.1.2) ∧
      w.cell? ⟨g, o + i * 7 + 4, none⟩ = some (.bool c.2.2.2.1) ∧ w.cell? ⟨g, o + i * 7 + 5, none⟩ = some (.int .i64 c.2.2.2.2.1) ∧ w.cell? ⟨g, o + i * 7 + 6, none⟩ = some (.string c.2.2.2.2.2) := by
 have hl : i < l.length := (List.getElem?_eq_some_iff.1 hi).1; obtain ⟨g, o, e, hb, hc⟩ := h.some_ (by rw [colV_len]; omega); have k := colV_at l i c hi; exact ⟨g, o, e, hb, hc _ _ (k 0 _ rfl), hc _ _ (k 1 _ rfl), hc _ _ (k 2 _ rfl), hc _ _ (k 3 _ rfl), hc _ _ (k 4 _ rfl), hc _ _ (k 5 _ rfl), hc _ _ (k 6 _ rfl)⟩
theorem Lay.cols {w : World} {B : Nat} {A : Option Addr} {l : List Co} (h : Lay w B A (colV l)) : Cols w B A (coTys l) (colV l) := by
 refine ⟨by rw [colV_len]; simp [coTys], h, fun i t ht => ?_⟩; simp only [coTys, List.getElem?_map, Option.map_eq_some_iff] at ht; obtain ⟨c, hc, rfl⟩ := ht; exact ⟨colV_at l i c hc 2 _ rfl, colV_at l i c hc 3 _ rfl⟩
end Go.Ms
set_option linter.unusedSimpArgs false
namespace Go.Ms
open Go.Lib
theorem rises_iff : ∀ (l : List Int) (lo hi : Int), risesL l lo hi = true ↔ (∀ (i : Nat) x, l[i]? = some x → lo ≤ x ∧ x ≤ hi) ∧ ∀ (i : Nat) x y, l[i]? = some x → l[i + 1]? = some y → x < y
  | [], lo, hi => by simp [risesL]
  | n :: r, lo, hi => by
   have ih := rises_iff r (n + 1) hi; rw [risesL, Bool.and_eq_true, Bool.and_eq_true, decide_eq_true_eq, decide_eq_true_eq, ih]
   constructor
   · rintro ⟨⟨h1, h2⟩, h3, h4⟩; refine ⟨fun i x hx => ?_, fun i x y hx hy => ?_⟩
     · cases i with
      | zero => obtain rfl : n = x := by simpa using hx
                exact ⟨h1, h2⟩
      | succ i => have := h3 i x (by simpa using hx); exact ⟨by omega, this.2⟩
     · cases i with
      | zero =>
       obtain rfl : n = x := by simpa using hx
       have := h3 0 y (by simpa using hy); omega
      | succ i => exact h4 i x y (by simpa using hx) (by simpa using hy)
   · rintro ⟨h1, h2⟩; have h0 := h1 0 n rfl; refine ⟨h0, ?_, fun i x y hx hy => h2 (i + 1) x y (by simpa using hx) (by simpa using hy)⟩
     intro i
     induction i with
     | zero => intro x hx; have a := h2 0 n x rfl (by simpa using hx); have b := h1 1 x (by simpa using hx); exact ⟨by omega, b.2⟩
     | succ i ih2 =>
      intro x hx
      have hl : i + 1 < r.length := (List.getElem?_eq_some_iff.1 hx).1; have hp := ih2 _ (List.getElem?_eq_getElem (by omega : i < r.length)); have a := h2 (i + 1) _ x (by simpa using List.getElem?_eq_getElem (by omega : i < r.length)) (by simpa using hx); have b := h1 (i + 2) x (by simpa using hx); exact ⟨by omega, b.2⟩
def NamesApart (cs : List Co) : Prop := ∀ (i j : Nat) a b, i < j → cs[i]? = some a → cs[j]? = some b → a.2.1 ≠ b.2.1
theorem names_iff (cs : List Co) : (coNames cs).Nodup ↔ NamesApart cs := by
 unfold List.Nodup; rw [List.pairwise_iff_getElem]; unfold NamesApart coNames
 constructor
 · intro h i j a b hij ha hb
   obtain ⟨hi, rfl⟩ := List.getElem?_eq_some_iff.1 ha; obtain ⟨hj, rfl⟩ := List.getElem?_eq_some_iff.1 hb; have := h i j (by simpa using hi) (by simpa using hj) hij; rw [List.getElem_map, List.getElem_map] at this; exact this
 · intro h i j hi hj hij
   simp only [List.getElem_map]; simp only [List.length_map] at hi hj; exact h i j _ _ hij (List.getElem?_eq_getElem hi) (List.getElem?_eq_getElem hj)
structure ScOk (cs : List Co) (ks : List Int) : Prop where
  co : ∀ (i : Nat) c, cs[i]? = some c → isNm c.2.1.data.toList = true ∧ cCheck c.2.2.1 c.2.2.2 = 0
  one : 1 ≤ cs.length
  most : cs.length ≤ 32
  apart : NamesApart cs
  id : ∀ (i : Nat) c, cs[i]? = some c → 1 ≤ c.1 ∧ c.1 ≤ 1048576
  up : ∀ (i : Nat) a b, cs[i]? = some a → cs[i + 1]? = some b → a.1 < b.1
  keys : ks.length ≤ 8
  kin : ∀ (i : Nat) k, ks[i]? = some k → 0 ≤ k ∧ k < cs.length
  kup : ∀ (i : Nat) a b, ks[i]? = some a → ks[i + 1]? = some b → a < b
  full : ∀ (i : Nat) k c, ks[i]? = some k → cs[k.toNat]? = some c → c.2.2.1.2 = false
theorem scOk_iff (cs : List Co) (ks : List Int) : scOk cs ks = true ↔ ScOk cs ks := by
 unfold scOk; simp only [Bool.and_eq_true, decide_eq_true_eq, names_iff, rises_iff]
 have hid : ∀ (i : Nat) x, (coIds cs)[i]? = some x ↔ ∃ c, cs[i]? = some c ∧ c.1 = x := fun i x => by
  unfold coIds; rw [List.getElem?_map, Option.map_eq_some_iff]
 constructor
 · rintro ⟨⟨⟨⟨⟨⟨⟨h1, h2⟩, h3⟩, h4⟩, h5, h6⟩, h7⟩, h8, h9⟩, h10⟩
   have kin : ∀ (i : Nat) k, ks[i]? = some k → 0 ≤ k ∧ k < cs.length := fun i k hk => by have := h8 i k hk; omega
   refine ⟨fun i c hc => ?_, h2, h3, h4, fun i c hc => h5 i c.1 ((hid i c.1).2 ⟨c, hc, rfl⟩), fun i a b ha hb => h6 i a.1 b.1 ((hid _ _).2 ⟨a, ha, rfl⟩) ((hid _ _).2 ⟨b, hb, rfl⟩), h7, kin, h9, fun i k c hk hc => ?_⟩
   · have := List.all_eq_true.1 h1 c (List.mem_of_getElem? hc); unfold coOk at this
     simpa using this
   · have := List.all_eq_true.1 h10 k (List.mem_of_getElem? hk); unfold keyFull at this; rw [List.getD_eq_getElem?_getD, hc] at this
     simpa using this
 · intro h
   refine ⟨⟨⟨⟨⟨⟨⟨List.all_eq_true.2 fun c hc => ?_, h.one⟩, h.most⟩, h.apart⟩, fun i x hx => ?_, fun i x y hx hy => ?_⟩, h.keys⟩, fun i k hk => ?_, h.kup⟩, List.all_eq_true.2 fun k hk => ?_⟩
   · obtain ⟨i, hi⟩ := List.getElem?_of_mem hc; have := h.co i c hi; unfold coOk
     simp [this.1, this.2]
   · obtain ⟨c, hc, rfl⟩ := (hid i x).1 hx; exact h.id i c hc
   · obtain ⟨a, ha, rfl⟩ := (hid i x).1 hx; obtain ⟨b, hb, rfl⟩ := (hid _ y).1 hy; exact h.up i a b ha hb
   · have := h.kin i k hk; omega
   · obtain ⟨i, hi⟩ := List.getElem?_of_mem hk; obtain ⟨h0, h1⟩ := h.kin i k hi
     have hl : k.toNat < cs.length := by omega
     have := h.full i k _ hi (List.getElem?_eq_getElem hl); unfold keyFull; rw [List.getD_eq_getElem?_getD, List.getElem?_eq_getElem hl]
     simpa using this
theorem scCheck_ok {cs : List Co} {ks : List Int} (h : ScOk cs ks) : scCheck cs ks = 0 := by unfold scCheck; rw [if_pos ((scOk_iff cs ks).2 h)]
theorem scCheck_no {cs : List Co} {ks : List Int} (h : ¬ ScOk cs ks) : scCheck cs ks = 2 := by unfold scCheck; rw [if_neg (fun e => h ((scOk_iff cs ks).1 e))]
theorem coFind_at {p : Co → Bool} {l : List Co} {k : Nat} {c : Co} (hc : l[k]? = some c) (hn : ∀ (j : Nat) d, j < k → l[j]? = some d → p d = false) (hp : p c = true) : coFind p l = (k, true) := by
 unfold coFind
 have : l.findIdx? p = some k := by
  rw [List.findIdx?_eq_some_iff_getElem]; obtain ⟨hk, rfl⟩ := List.getElem?_eq_some_iff.1 hc; exact ⟨hk, hp, fun j hj => by have := hn j _ hj (List.getElem?_eq_getElem (by omega)); simpa using this⟩
 rw [this]
theorem coFind_none {p : Co → Bool} {l : List Co} (hn : ∀ (j : Nat) d, l[j]? = some d → p d = false) : coFind p l = (0, false) := by
 unfold coFind
 have : l.findIdx? p = none := by
  rw [List.findIdx?_eq_none_iff]
  intro x hx
  obtain ⟨i, hi⟩ := List.getElem?_of_mem hx; exact hn i x hi
 rw [this]
end Go.Ms
set_option linter.unusedSimpArgs false
namespace Go.Ms
open Go.Lib
theorem cutAt_some {c : UInt8} : ∀ {s x y : Bs}, cutAt c s = some (x, y) → s = x ++ c :: y ∧ c ∉ x
  | [], x, y, h => by simp [cutAt] at h
  | b :: r, x, y, h => by
   unfold cutAt at h
   split at h
   · rename_i hb
     simp only [Option.some.injEq, Prod.mk.injEq] at h; obtain ⟨rfl, rfl⟩ := h; exact ⟨by rw [hb]; rfl, by simp⟩
   · rename_i hb
     split at h
     · rename_i z hz
       simp only [Option.some.injEq, Prod.mk.injEq] at h; obtain ⟨rfl, rfl⟩ := h; obtain ⟨h1, h2⟩ := cutAt_some (x := z.1) (y := z.2) hz; refine ⟨by rw [List.cons_append, ← h1], ?_⟩; simp only [List.mem_cons, not_or]; exact ⟨fun e => hb e.symm, h2⟩
     · cases h
theorem cutAt_none {c : UInt8} : ∀ {s : Bs}, cutAt c s = none ↔ c ∉ s
  | [] => by simp [cutAt]
  | b :: r => by
   have ih := cutAt_none (c := c) (s := r); unfold cutAt
   split
   · rename_i hb; subst hb; simp
   · rename_i hb
     split
     · rename_i z hz
       have : ¬ cutAt c r = none := by rw [hz]; simp
       rw [ih] at this; simp only [reduceCtorEq, List.mem_cons, not_or, false_iff, not_and]
       exact fun _ => this
     · rename_i hz
       simp only [List.mem_cons, not_or, true_iff]; exact ⟨fun e => hb e.symm, ih.1 hz⟩
theorem cutAt_app {c : UInt8} : ∀ {x y : Bs}, c ∉ x → cutAt c (x ++ c :: y) = some (x, y)
  | [], y, h => by simp [cutAt]
  | b :: r, y, h => by
   simp only [List.mem_cons, not_or] at h; rw [List.cons_append, cutAt, if_neg (fun e => h.1 e.symm), cutAt_app h.2]
theorem splitNl_hit : ∀ {x y : Bs}, (10 : UInt8) ∉ x → splitNl (x ++ 10 :: y) = (x :: (splitNl y).1, (splitNl y).2)
  | [], y, h => by simp [splitNl]
  | b :: r, y, h => by
   simp only [List.mem_cons, not_or] at h; rw [List.cons_append, splitNl, if_neg (fun e => h.1 e.symm), splitNl_hit h.2]
theorem splitNl_miss : ∀ {x : Bs}, (10 : UInt8) ∉ x → splitNl x = ([], x)
  | [], h => rfl
  | b :: r, h => by
   simp only [List.mem_cons, not_or] at h; rw [splitNl, if_neg (fun e => h.1 e.symm), splitNl_miss h.2]
theorem splitNl_back : ∀ (s : Bs), s = (splitNl s).1.flatMap (fun l => l ++ [10]) ++ (splitNl s).2
  | [] => rfl
  | c :: r => by
   have ih := splitNl_back r; unfold splitNl
   split
   · rename_i hc; subst hc
     simp only [List.flatMap_cons, List.nil_append, List.cons_append]; rw [← ih]
   · split
     · rename_i hl
       rw [hl] at ih; simp only [List.flatMap_nil, List.nil_append] at ih ⊢; rw [← ih]
     · rename_i l ls hl
       rw [hl] at ih; simp only [List.flatMap_cons, List.cons_append] at ih ⊢; rw [← ih]
theorem splitNl_no : ∀ (s : Bs), (∀ l ∈ (splitNl s).1, (10 : UInt8) ∉ l) ∧ (10 : UInt8) ∉ (splitNl s).2
  | [] => by simp [splitNl]
  | c :: r => by
   obtain ⟨h1, h2⟩ := splitNl_no r; unfold splitNl
   split
   · rename_i hc
     refine ⟨fun l hl => ?_, h2⟩; simp only [List.mem_cons] at hl
     rcases hl with rfl | hl
     · simp
     · exact h1 l hl
   · rename_i hc
     split
     · exact ⟨by simp, by simp only [List.mem_cons, not_or]; exact ⟨fun e => hc e.symm, h2⟩⟩
     · rename_i l ls hl
       rw [hl] at h1; refine ⟨fun x hx => ?_, h2⟩; simp only [List.mem_cons] at hx
       rcases hx with rfl | hx
       · simp only [List.mem_cons, not_or]; exact ⟨fun e => hc e.symm, h1 l (by simp)⟩
       · exact h1 x (by simp [hx])
end Go.Ms
set_option linter.unusedSimpArgs false
namespace Go.Ms
open Go.RowKit Go.Lib
theorem kIs_small {k n : Int} {s : Bs} (h : kIs k n s = true) : s.length ≤ 1024 ∧ -9223372036854775808 ≤ n ∧ n ≤ 9223372036854775807 := by
 unfold kIs at h
 by_cases h1 : k = 1
 · simp [h1] at h; obtain ⟨⟨rfl, h2⟩, h3⟩ := h; simp; omega
 by_cases h2 : k = 2
 · simp [h2] at h; obtain ⟨⟨rfl, h2⟩, h3⟩ := h; simp; omega
 by_cases h3 : k = 3
 · simp [h3] at h; obtain ⟨⟨rfl, h2⟩, h3⟩ := h; simp; omega
 by_cases h4 : k = 4
 · simp [h4] at h; obtain ⟨⟨rfl, h2⟩, h3⟩ := h; omega
 · simp [h1, h2, h3, h4] at h; obtain ⟨rfl, h2⟩ := h; omega
theorem kCheck_small {k : Int} {tn nu : Bool} {n : Int} {s : Bs} (h : kCheck k tn nu n s = 0) : s.length ≤ 1024 ∧ -9223372036854775808 ≤ n ∧ n ≤ 9223372036854775807 := by
 obtain ⟨_, h2⟩ := check_zero h; unfold kOk at h2
 cases nu with
 | true => simp at h2; obtain ⟨⟨_, rfl⟩, rfl⟩ := h2; simp
 | false => exact kIs_small (by simpa using h2)
theorem coOk_small {c : Co} (h : coOk c = true) : c.2.1.size ≤ 32 ∧ c.2.2.2.2.2.size ≤ 1024 ∧ -9223372036854775808 ≤ c.2.2.2.2.1 ∧ c.2.2.2.2.1 ≤ 9223372036854775807 := by
 unfold coOk at h; simp only [Bool.and_eq_true, decide_eq_true_eq] at h; obtain ⟨hn, hc⟩ := h; unfold isNm at hn; simp only [Bool.and_eq_true, decide_eq_true_eq] at hn
 have h1 : c.2.1.data.toList.length = c.2.1.size := by simp
 have h2 : c.2.2.2.2.2.data.toList.length = c.2.2.2.2.2.size := by simp
 have := kCheck_small hc; omega
theorem coRead_ok {a b k t : Bs} {c : Co} {key : Bool} (h : coRead a b k t = some (c, key)) : coOk c = true ∧ 0 ≤ c.1 ∧ c.1 ≤ 1048576 ∧ idOf a = c.1 ∧ c.2.1 = ⟨b.toArray⟩ ∧
    c.2.2.1 = (kindOf (stripB 63 (stripB 42 k).1).1, (stripB 63 (stripB 42 k).1).2) ∧ 1 ≤ kindOf (stripB 63 (stripB 42 k).1).1 ∧ key = (stripB 42 k).2 ∧ coText c = t := by
 unfold coRead at h
 by_cases hc : isNm b = true ∧ 0 ≤ idOf a ∧ 1 ≤ kindOf (stripB 63 (stripB 42 k).1).1 ∧ (kReadD (kindOf (stripB 63 (stripB 42 k).1).1) (stripB 63 (stripB 42 k).1).2 t).2 = 0
 · rw [if_pos hc] at h; obtain ⟨h1, h2, h3, h4⟩ := hc
   generalize hK : kindOf (stripB 63 (stripB 42 k).1).1 = K at h h3 h4 ⊢
   generalize hU : (stripB 63 (stripB 42 k).1).2 = U at h h4 ⊢
   obtain ⟨R, hR⟩ : ∃ R, kReadD K U t = R := ⟨_, rfl⟩; rw [hR] at h h4; obtain ⟨⟨nu, n, s⟩, er⟩ := R; simp only at h4; subst h4; obtain ⟨hz, ht⟩ := read_only hR; simp only [Option.some.injEq, Prod.mk.injEq] at h; obtain ⟨rfl, rfl⟩ := h
   have hi : idOf a ≤ 1048576 := by
    unfold idOf
    split
    · rename_i e; exact e.2.2
    · omega
   refine ⟨?_, h2, hi, rfl, rfl, rfl, h3, rfl, ht⟩; unfold coOk; simp only [Bool.and_eq_true, decide_eq_true_eq]; exact ⟨h1, hz⟩
 · exact absurd (h.symm.trans (if_neg hc)) (by simp)
theorem readCo_ok {s : Bs} {c : Co} {key : Bool} (h : readCo s = some (c, key)) : coOk c = true ∧ 0 ≤ c.1 ∧ c.1 ≤ 1048576 := by
 unfold readCo at h
 split at h
 · cases h
 split at h
 · cases h
 split at h
 · cases h
 obtain ⟨h1, h2, h3, _⟩ := coRead_ok h; exact ⟨h1, h2, h3⟩
theorem readAll_ok : ∀ (ls : List Bs) (cs : List Co) (ks : List Int), (∀ c ∈ cs, coOk c = true) → ∀ c ∈ (readAll cs ks ls).1, coOk c = true
  | [], cs, ks, h => h
  | l :: ls, cs, ks, h => by
   rw [readAll]
   cases hl : readCo l with
   | none => exact h
   | some x =>
    refine readAll_ok ls _ _ fun c hc => ?_
    rcases List.mem_append.1 hc with h1 | h1
    · exact h c h1
    · have : c = x.1 := by simpa using h1
      subst this; exact (readCo_ok (c := x.1) (key := x.2) hl).1
end Go.Ms
