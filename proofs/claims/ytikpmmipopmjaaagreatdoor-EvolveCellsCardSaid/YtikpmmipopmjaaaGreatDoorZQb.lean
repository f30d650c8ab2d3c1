/- Quote's answer, as a plain function; runes gone over. Cells: what the package answers, as plain functions of a kind, a number and a text. Rows, plainly: what is checked, compared and picked; keys, put together and taken apart. Words for memory of one's own: all blocks but one stand; a struct of three fields behind a pointer. Small facts for the walks. Rows of bytes of one's own: appended to from a string or a row, read as a string. Cells: values, and what the functions of a kind do (those without strconv). -/
import Derived.Test.YtikpmmipopmjaaaGreatDoorZQa
import Derived.Lib.ValidU
import Derived.Lib.ItoaNum
import Derived.Lib.ParseIntBTie
import Derived.Lib.Small
import Derived.Lib.Bytealg
import Derived.Below
import Derived.Lib.OthersKept
import Derived.Deep.Draws
import Derived.Test.YtikpmmipopmjaaaGreatDoorRows
import Derived.Test.YtikpmmipopmjaaaGreatDoorShelf
import Derived.WalkKit
import Derived.WalkSpells
import Derived.WalkLawsBesides
import Derived.Handy
import Derived.Outline
import Derived.Laws.BytesArg
import Derived.Lib.Hide
import Derived.Deep.QuietTactic
import Derived.BigQuiet
import Derived.Deep.AppendSrc
import Derived.OwnWalk
import Derived.Deep.RegionLaw
set_option linter.unusedVariables false
namespace Go.Ms
open Go.Lib
theorem decode_drop (s : ByteArray) (pos : Nat) : Utf8.decode s pos = decodeL (s.data.toList.drop pos) := by
 rw [decode_at, decodeL_eq]
 have hg : ∀ k, s.get! k = s.data.toList.getD k 0 := by
  intro k
  have hs : s = ⟨s.data.toList.toArray⟩ := by cases s; simp
  have key : ∀ s' : ByteArray, s' = ⟨s.data.toList.toArray⟩ → s'.get! k = s.data.toList.getD k 0 := fun s' h => by rw [h]; exact get!_list _ _
  exact key s hs
 simp only [hg, bt, List.length_drop, Array.length_toList, ByteArray.size_data, List.getD_eq_getElem?_getD, List.getElem?_drop, Nat.add_zero]
def esc2 (r : Int) : Option Int :=
  if r = 34 then some 34 else if r = 92 then some 92 else if r = 8 then some 98 else if r = 12 then some 102 else if r = 10 then some 110 else if r = 13 then some 114 else if r = 9 then some 116 else none
def hexd (n : Nat) : UInt8 := if n < 10 then (48 + n).toUInt8 else (87 + n).toUInt8
def qb (c : UInt8) : Bs :=
  match esc2 c.toNat with
  | some x => [92, x.toNat.toUInt8]
  | none => if c.toNat < 32 then [92, 117, 48, 48, hexd (c.toNat / 16), hexd (c.toNat % 16)] else [c]
def quoteD (l : Bs) : Bs := 34 :: (l.flatMap qb ++ [34])
theorem validGoD_more : ∀ (n : Nat) (l : Bs), l.length ≤ n → validGoD n l = validD l := by
 intro n
 induction n using Nat.strongRecOn with
 | ind n ih =>
  intro l hl
  cases n with
  | zero =>
   have : l = [] := List.eq_nil_of_length_eq_zero (by omega)
   subst this; rfl
  | succ n =>
   cases l with
   | nil => rfl
   | cons a t =>
    unfold validD; simp only [List.length_cons, validGoD]; have hw := decodeL_width (a :: t)
    have h2 : ((a :: t).drop (decodeL (a :: t)).2).length ≤ t.length := by simp; omega
    rw [ih n (by omega) _ (by simp at hl h2 ⊢; omega)]
    by_cases hn : t.length = n
    · rw [hn, ih n (by omega) _ (by rw [← hn]; exact h2)]
    · rw [ih t.length (by simp at hl; omega) _ h2]
theorem valid_step (l : Bs) (h : l ≠ []) : validD l = if (decodeL l).1 = 65533 ∧ (decodeL l).2 = 1 then false else validD (l.drop (decodeL l).2) := by
 obtain ⟨a, t, rfl⟩ := List.exists_cons_of_ne_nil h; have hw := decodeL_width (a :: t)
 show validGoD (a :: t).length (a :: t) = _
 simp only [List.length_cons, validGoD]; rw [validGoD_more _ _ (by simp; omega)]; rfl
theorem valid_next (l : Bs) (h : l ≠ []) : validD l = if (nextD l).2.2 = true then validD (l.drop (nextD l).2.1) else false := by
 rw [valid_step l h]; have hw := decodeL_width l; unfold nextD; rw [if_neg h]
 by_cases hc : (decodeL l).1 = 65533 ∧ (decodeL l).2 < 2
 · rw [if_pos hc, if_pos ⟨hc.1, by omega⟩]; simp
 · rw [if_neg hc, if_neg (by omega)]; simp
theorem valid_first (l : Bs) (h : l ≠ []) (hv : validD l = true) : ∃ r : Int, isRune r = true ∧ nextD l = (r.toNat, (encodeRune r).length, true) ∧ l = encodeRune r ++ l.drop (encodeRune r).length ∧ validD (l.drop (encodeRune r).length) = true := by
 rw [valid_next l h] at hv
 rcases next_cases l with e | ⟨r, h1, h2, h3⟩
 · rw [e] at hv; simp at hv
 · refine ⟨r, h1, h2, h3, ?_⟩; rw [h2] at hv
   simpa using hv
theorem next_dec (l : Bs) (r : Int) (h : l ≠ []) (h2 : nextD l = (r.toNat, (encodeRune r).length, true)) : decodeL l = (r.toNat, (encodeRune r).length) := by
 unfold nextD at h2; rw [if_neg h] at h2
 split at h2
 · simp at h2
 · simp only [Prod.mk.injEq] at h2; exact Prod.ext h2.1 h2.2.1
set_option maxRecDepth 100000 in
theorem qb_high (c : UInt8) (h : 128 ≤ c.toNat) : qb c = [c] := by
 unfold qb esc2; simp only [show ¬ ((c.toNat : Int) = 34) by omega, show ¬ ((c.toNat : Int) = 92) by omega, show ¬ ((c.toNat : Int) = 8) by omega, show ¬ ((c.toNat : Int) = 12) by omega, show ¬ ((c.toNat : Int) = 10) by omega, show ¬ ((c.toNat : Int) = 13) by omega, show ¬ ((c.toNat : Int) = 9) by omega, if_false]; rw [if_neg (by omega)]
theorem enc_ascii {r : Int} (h0 : 0 ≤ r) (h1 : r ≤ 127) : encodeRune r = [r.toNat.toUInt8] := by
 unfold encodeRune; rw [encodeRuneZ_one h0 h1]; rfl
theorem enc_high {r : Int} (h : isRune r = true) (h1 : 128 ≤ r) : ∀ c ∈ encodeRune r, 128 ≤ c.toNat := by
 rw [isRune_iff] at h
 have key : ∀ x : Int, x ∈ encodeRuneZ r → 128 ≤ x := by
  intro x hx
  by_cases c1 : r ≤ 2047
  · rw [encodeRuneZ_two (by omega) c1] at hx; simp at hx; omega
  by_cases c2 : r ≤ 65535
  · rw [encodeRuneZ_three (by omega)] at hx; simp at hx; omega
  · rw [encodeRuneZ_four (by omega) (by omega)] at hx; simp at hx; omega
 intro c hc
 unfold encodeRune at hc; rw [List.mem_map] at hc; obtain ⟨x, hx, rfl⟩ := hc; have := key x hx; have := encodeRuneZ_byte r x hx; rw [toU8_nat (by omega) (by omega)]; omega
theorem flat_high : ∀ l : Bs, (∀ c ∈ l, 128 ≤ c.toNat) → l.flatMap qb = l := by
 intro l h
 induction l with
 | nil => rfl
 | cons a t ih => rw [List.flatMap_cons, qb_high a (h a (by simp)), ih (fun c hc => h c (by simp [hc]))]; rfl
theorem u8_nat {r : Int} (h0 : 0 ≤ r) (h1 : r ≤ 127) : ((r.toNat.toUInt8).toNat : Int) = r := toU8_toNat h0 (by omega)
theorem q_esc {r x : Int} (h : isRune r = true) (hx : esc2 r = some x) : (encodeRune r).flatMap qb = [92, x.toNat.toUInt8] := by
 have hr : 0 ≤ r ∧ r ≤ 127 := by
  rw [isRune_iff] at h; unfold esc2 at hx
  repeat' split at hx
  all_goals first | omega | (cases hx)
 rw [enc_ascii hr.1 hr.2]; simp only [List.flatMap_cons, List.flatMap_nil, List.append_nil, qb]; rw [u8_nat hr.1 hr.2, hx]
theorem q_hex {r : Int} (h0 : 0 ≤ r) (hx : esc2 r = none) (h1 : r < 32) : (encodeRune r).flatMap qb = [92, 117, 48, 48, hexd (r.toNat / 16), hexd (r.toNat % 16)] := by
 rw [enc_ascii h0 (by omega)]; simp only [List.flatMap_cons, List.flatMap_nil, List.append_nil, qb]; rw [u8_nat h0 (by omega), hx]
 have e : (r.toNat.toUInt8).toNat = r.toNat := by have := u8_nat h0 (by omega : r ≤ 127); omega
 simp only [e]; rw [if_pos (by omega)]
theorem q_plain {r : Int} (h : isRune r = true) (hx : esc2 r = none) (h1 : ¬ r < 32) : (encodeRune r).flatMap qb = encodeRune r := by
 by_cases c : r ≤ 127
 · rw [enc_ascii (by omega) c]; simp only [List.flatMap_cons, List.flatMap_nil, List.append_nil, qb]; rw [u8_nat (by omega) c, hx]
   have e : (r.toNat.toUInt8).toNat = r.toNat := by have := u8_nat (by omega : 0 ≤ r) c; omega
   simp only [e]; rw [if_neg (by omega)]
 · exact flat_high _ (enc_high h (by omega))
end Go.Ms
namespace Go.Ms
open Go.Lib
def kQuote (l : Bs) : Bs := if validD l = true then quoteD l else []
def kWhole (l : Bs) : Int := match parseIntB 64 l with
 | .ok v => v
 | .range => intSat 64 l
 | _ => 0
def kTrue : Bs := [116, 114, 117, 101]
def kNull : Bs := [110, 117, 108, 108]
def kNum8 (U : Int) : List Int := [U / 72057594037927936, U / 281474976710656 % 256, U / 1099511627776 % 256, U / 4294967296 % 256, U / 16777216 % 256, U / 65536 % 256, U / 256 % 256, U % 256]
def kNum (U : Int) : Bs := (kNum8 U).map fun x => UInt8.ofNat x.toNat
def kMay (k : Int) : Bool := decide (1 ≤ k) && decide (k ≤ 5)
def kIs (k n : Int) (s : Bs) : Bool :=
  if k = 1 then decide (s = []) && decide (0 ≤ n) && decide (n ≤ 1)
  else if k = 2 then decide (s = []) && decide (-2147483648 ≤ n) && decide (n ≤ 2147483647)
  else if k = 3 then decide (s = []) && decide (-9223372036854775808 ≤ n) && decide (n ≤ 9223372036854775807)
  else if k = 4 then decide (n = 0) && decide (s.length ≤ 1024) && validD s
  else decide (n = 0) && decide (s.length ≤ 1024)
def kOk (k : Int) (tn nu : Bool) (n : Int) (s : Bs) : Bool := if nu = true then tn && decide (n = 0) && decide (s = []) else kIs k n s
def kCheck (k : Int) (tn nu : Bool) (n : Int) (s : Bs) : Int := if kMay k = true then (if kOk k tn nu n s = true then 0 else 90) else 2
def kText (k n : Int) (s : Bs) : Bs := if k = 1 then formatBool (n == 1) else if k = 2 ∨ k = 3 then itoa n else if k = 4 then kQuote s else hexD s
def kTextD (k : Int) (tn nu : Bool) (n : Int) (s : Bs) : Bs := if kCheck k tn nu n s = 0 then (if nu = true then kNull else kText k n s) else []
def kBits (k n : Int) (s : Bs) : Bs := if k = 1 then [UInt8.ofNat n.toNat] else if k = 2 ∨ k = 3 then kNum (n + 9223372036854775808) else rowD s
def kBitsD (k : Int) (tn nu : Bool) (n : Int) (s : Bs) : Bs := if kCheck k tn nu n s = 0 then (if nu = true then [0] else if tn = true then 1 :: kBits k n s else kBits k n s) else []
def kRead (k : Int) (l : Bs) : Int × Bs := if k = 1 then (if l = kTrue then 1 else 0, []) else if k = 2 ∨ k = 3 then (kWhole l, []) else if k = 4 then (0, (unquoteD l).1) else (0, unhexD l)
def kGuess (k : Int) (l : Bs) : Bool × Int × Bs := if l = kNull then (true, 0, []) else (false, (kRead k l).1, (kRead k l).2)
def kReadD (k : Int) (tn : Bool) (l : Bs) : (Bool × Int × Bs) × Int :=
  if kMay k = true then (if kCheck k tn (kGuess k l).1 (kGuess k l).2.1 (kGuess k l).2.2 = 0 ∧ kTextD k tn (kGuess k l).1 (kGuess k l).2.1 (kGuess k l).2.2 = l then (kGuess k l, 0) else ((false, 0, []), 4)) else ((false, 0, []), 2)
end Go.Ms
namespace Go.Ms
def zCl : Cl := (false, 0, ⟨#[]⟩)
def cCheck (t : Ty) (c : Cl) : Int := kCheck t.1 t.2 c.1 c.2.1 c.2.2.data.toList
def cBits (t : Ty) (c : Cl) : Bs := kBitsD t.1 t.2 c.1 c.2.1 c.2.2.data.toList
def unCl (x : Bool × Int × Bs) : Cl := (x.1, x.2.1, ⟨x.2.2.toArray⟩)
def rCheckL : List Ty → List Cl → Int
  | t :: ts, c :: cs => if cCheck t c = 0 then rCheckL ts cs else cCheck t c
  | _, _ => 0
def rCheck (ts : List Ty) (cs : List Cl) : Int := if ts.length = cs.length then rCheckL ts cs else 100
def rIn (ps : List Int) (n : Nat) : Bool := ps.all fun p => decide (0 ≤ p) && decide (p < n)
def rInE (ps : List Int) (n : Nat) : Int := if rIn ps n = true then 0 else 6
def zTy : Ty := (0, false)
def rKeyL (ts : List Ty) (cs : List Cl) (ps : List Int) : Bs := ps.flatMap fun p => cBits (ts.getD p.toNat zTy) (cs.getD p.toNat zCl)
def rKeyE (ts : List Ty) (cs : List Cl) (ps : List Int) : Int := if rCheck ts cs = 0 then rInE ps cs.length else rCheck ts cs
def rKey (ts : List Ty) (cs : List Cl) (ps : List Int) : Bs := if rKeyE ts cs ps = 0 then rKeyL ts cs ps else []
end Go.Ms
namespace Go.Ms
open Go.RowKit Go.Lib
structure Kept (R : Nat) (w w' : World) : Prop where
  os : w'.os = w.os
  tape : w'.tape = w.tape
  output : w'.output = w.output
  size : w.heap.size ≤ w'.heap.size
  block : ∀ k, k < w.heap.size → k ≠ R → w'.heap[k]? = w.heap[k]?
namespace Kept
variable {R B : Nat} {a w w' : World}
theorem refl (R : Nat) (w : World) : Kept R w w := ⟨rfl, rfl, rfl, Nat.le_refl _, fun _ _ _ => rfl⟩
theorem trans (h : Kept R a w) (k : Kept R w w') : Kept R a w' :=
  ⟨k.os.trans h.os, k.tape.trans h.tape, k.output.trans h.output, Nat.le_trans h.size k.size, fun i hi hr => (k.block i (Nat.lt_of_lt_of_le hi h.size) hr).trans (h.block i hi hr)⟩
theorem of_below (h : Below w.heap.size w w') : Kept R w w' := ⟨h.os, h.tape, h.output, h.size, fun k hk _ => h.block k hk⟩
theorem drewN (h : Kept R a w) (n : Nat) : Kept R a (w.drewN n) := ⟨h.os, h.tape, h.output, h.size, h.block⟩
theorem drew (h : Kept R a w) : Kept R a w.drew := ⟨h.os, h.tape, h.output, h.size, h.block⟩
theorem alloc (h : Kept R a w) (o : Obj) : Kept R a (w.alloc o) :=
  h.trans (of_below ((Below.refl _ w).alloc (Nat.le_refl _) o))
theorem setCell (h : Kept R a w) {p : Addr} (hp : p.block = R) (u : Value) : Kept R a (w.setCell p u) :=
  h.trans ⟨rfl, rfl, rfl, by simp [World.setCell], fun k _ hk => Below.heap_setCell _ _ _ _ (by omega)⟩
theorem below (h : Kept R w w') (hR : B ≤ R) (hB : B ≤ w.heap.size) : Below B w w' := ⟨h.os, h.tape, h.output, h.size, fun k hk => h.block k (by omega) (by omega)⟩
end Kept
theorem ms_drewN {B : Nat} {a w : World} (h : Below B a w) (n : Nat) : Below B a (w.drewN n) := ⟨h.os, h.tape, h.output, h.size, h.block⟩
def Tri (T b : Nat) (x y z : Value) (w : World) : Prop := w.heap[b]? = some (.cells #[x, y, z] T (0, 0))
namespace Tri
variable {T b R B : Nat} {x y z u : Value} {w w' : World}
theorem lt (h : Tri T b x y z w) : b < w.heap.size := by
 rcases Nat.lt_or_ge b w.heap.size with hl | hg
 · exact hl
 · unfold Tri at h; rw [Array.getElem?_eq_none hg] at h; cases h
theorem c0 (h : Tri T b x y z w) : w.cell? ⟨b, 0, none⟩ = some x := by rw [Lib.cell_of_heap h]; rfl
theorem c1 (h : Tri T b x y z w) : w.cell? ⟨b, 1, none⟩ = some y := by rw [Lib.cell_of_heap h]; rfl
theorem c2 (h : Tri T b x y z w) : w.cell? ⟨b, 2, none⟩ = some z := by rw [Lib.cell_of_heap h]; rfl
theorem fr (h : Tri T b x y z w) (i : Nat) : w.frozen? ⟨b, i, none⟩ = false := Lib.frozen_of_heap h i
theorem set1 (h : Tri T b x y z w) (u : Value) : Tri T b x u z (w.setCell ⟨b, 1, none⟩ u) := by
 unfold Tri at *; simp [World.setCell, Array.getElem?_modify, h]
theorem set2 (h : Tri T b x y z w) (u : Value) : Tri T b x y u (w.setCell ⟨b, 2, none⟩ u) := by
 unfold Tri at *; simp [World.setCell, Array.getElem?_modify, h]
theorem drew (h : Tri T b x y z w) : Tri T b x y z w.drew := h
theorem drewN (h : Tri T b x y z w) (n : Nat) : Tri T b x y z (w.drewN n) := h
theorem alloc (h : Tri T b x y z w) (o : Obj) : Tri T b x y z (w.alloc o) := (Below.heap_alloc w o b h.lt).trans h
theorem below (h : Tri T b x y z w) (hb : Below B w w') (hB : b < B) : Tri T b x y z w' := (hb.block b hB).trans h
theorem kept (h : Tri T b x y z w) (hb : Kept R w w') (hB : b ≠ R) : Tri T b x y z w' := (hb.block b h.lt hB).trans h
theorem others {e : TypeId} {b' : Nat} (h : Tri T b x y z w) (hb : OthersKept e (some b') w w') (hB : b ≠ b') (hT : T ≠ e) : Tri T b x y z w' :=
  hb b _ h (by intro e1; exact hB (Option.some.inj e1)) (by intro c fz e1; injection e1 with _ e2; exact hT e2)
end Tri
structure RdP (T b : Nat) (s : ByteArray) (p : Nat) (e : Int) (v : Value) (w : World) (en : Ending) (w' : World) : Prop where
  ret : en = .returned v
  tri : Tri T b (.string s) (.int .i64 p) (.int .i64 e) w'
  kept : Kept b w w'
theorem bld_keep {T e : TypeId} {B b : Nat} {bs : List Value} {w w' : World} (h : IsBuilderF T e B b bs w) (hk : ∀ (k : Nat) (c : Array Value) (t : TypeId) (fz : Nat × Nat), w.heap[k]? = some (Obj.cells c t fz) → (t = T ∨ t = e) → w'.heap[k]? = w.heap[k]?) :
    IsBuilderF T e B b bs w' := by
 have one : ∀ p, BuilderAtF T e B b p bs w → BuilderAtF T e B b p bs w' := by
  intro p ⟨hB, v, hb, hown, hne⟩
  refine ⟨hB, v, (hk b _ _ _ hb (.inl rfl)).trans hb, ⟨hown.1, ?_⟩, hne⟩
  rcases hown.2 with hn | ⟨g, cap, cur, fz, hv, hbg, hg, rest⟩
  · exact .inl hn
  · exact .inr ⟨g, cap, cur, fz, hv, hbg, (hk g _ _ _ hg (.inr rfl)).trans hg, rest⟩
 exact h.elim (fun x => .inl (one _ x)) (fun x => .inr (one _ x))
theorem bld_kept {T e : TypeId} {B b R : Nat} {bs : List Value} {w w' : World} (h : IsBuilderF T e B b bs w) (hk : Kept R w w') {T' : Nat} {x y z : Value} (hR : Tri T' R x y z w) (h1 : T' ≠ T) (h2 : T' ≠ e) : IsBuilderF T e B b bs w' := by
 refine bld_keep h (fun k c t fz hc ht => ?_); have hlt : k < w.heap.size := (Array.getElem?_eq_some_iff.1 hc).1; refine hk.block k hlt (fun e1 => ?_); subst e1; unfold Tri at hR; rw [hc] at hR
 injection hR with hR
 injection hR with _ e2
 rcases ht with rfl | rfl
 · exact h1 e2.symm
 · exact h2 e2.symm
theorem bld_below {T e : TypeId} {B b : Nat} {bs : List Value} {w w' : World} (h : IsBuilderF T e B b bs w) (hk : Below w.heap.size w w') : IsBuilderF T e B b bs w' :=
  bld_keep h (fun k _ _ _ hc _ => hk.block k (Array.getElem?_eq_some_iff.1 hc).1)
end Go.Ms
namespace Go.Proofs.YtikpmmipopmjaaaGreatDoor
open Go.RowKit Go.Ms Go.Lib
theorem conv_new {P : Program} (w : World) (n : Nat) (hn : n = w.heap.size) (src e : TypeId) (hs : P.underlying src = some (.slice e)) (he : P.underlying e = some (.int .u8)) (ns : List Int) (dst : TypeId) (hd : P.underlying dst = some .string) :
    (convert src dst (.slice (some ⟨n, 0, none⟩) ns.length ns.length)).run P (w.alloc (.cells (ns.map (Value.int .u8)).toArray e)) = .ok (.string (strOfNums ns)) (w.alloc (.cells (ns.map (Value.int .u8)).toArray e)) := by
 refine run_convert_bytes_arg _ src e hs he _ 0 _ _ ns rfl (fun i hi => ?_) dst hd; rw [Nat.zero_add, World.cell?_alloc_at _ _ _ _ hn]
 simp [hi]
theorem get_of (s : ByteArray) (k : Nat) (h : k < s.size) : s[k]'h = s.data.toList.getD k 0 := by
 cases s with
 | mk d =>
  have : k < d.size := h
  simp [List.getD_eq_getElem?_getD, this]
  rfl
theorem ext_list (s : ByteArray) (a b : Nat) : (s.extract a b).data.toList = (s.data.toList.take b).drop a := by
 rw [Lib.extract_data, List.drop_take]
def Tabs (w : World) : Prop := Lib.Utf8Tabs 1 2 w
theorem tabs_drewN {w : World} (h : Tabs w) (n : Nat) : Tabs (w.drewN n) := h
theorem tabs_below {w w' : World} (h : Tabs w) (hb : Below w.heap.size w w') : Tabs w' := Utf8Tabs_below h hb
theorem ba_ext {s : ByteArray} {l : Bs} (h : s.data.toList = l) : s = ⟨l.toArray⟩ := by
 subst h; cases s; simp
end Go.Proofs.YtikpmmipopmjaaaGreatDoor
namespace Go.Ms
open Go.RowKit Go.Lib
theorem run_append_own_src {P : Program} (w : World) (base : Nat) (t tx ty e : TypeId) (i : TypeInfo) (z : Value) (size bytes : Nat) (ht : P.underlying t = some (.slice e)) (hi : P.info? e = some i) (hz : i.zero = some z)
    (hsize : i.size = size) (hby : i.bytes = bytes) (hzs : z.cells.size = size) (hsz : 0 < size)
    (v : Value) (n : Nat) (xs : List Value) (hown : w.ownsRow base e size v n xs) (x : Value) (m : Nat) (news : List Value) (hs : Src P size tx x m news w)
    (h63 : n + m ≤ maxLen) (hbytes : (n + m) * bytes ≤ 140737488355328) (hbase : base ≤ w.heap.size) :
    ∃ v' w', (Builtin.append_ #[t, tx] ty #[v, x]).run P w = .ok v' w' ∧ w'.ownsRow base e size v' (n + m) (xs ++ news) ∧ w.grownBy w' v.ownBlock := by
 subst hsize
 subst hby
 have hl := hs.newsLen
 have hsmall : n + m ≤ 9223372036854775807 := by simp only [maxLen] at h63; omega
 have hlen : (xs ++ news).length = (n + m) * i.size := by rw [List.length_append, hown.1, hl, Nat.add_mul]
 have grown : ∀ (old : Nat), old < n + m → ∀ (row : Option Nat),
     (w.drew.alloc (.cells ((xs ++ news).toArray ++ Builtin.zeroCells z.cells (grownCap w (n + m) old e - (n + m))) e)).ownsRow base e i.size
       (.slice (some ⟨w.heap.size, 0, none⟩) (n + m) (grownCap w (n + m) old e)) (n + m) (xs ++ news) ∧
     w.grownBy (w.drew.alloc (.cells ((xs ++ news).toArray ++ Builtin.zeroCells z.cells (grownCap w (n + m) old e - (n + m))) e)) row := by
   intro old ho row
   have hge := grownCap_ge w (n + m) old e; have hcm : grownCap w (n + m) old e ≤ maxLen := grownCap_le_maxLen w (n + m) old e h63; refine ⟨⟨hlen, .inr ⟨w.heap.size, _, _, rfl, hbase, heap_alloc_new w.drew _, hge, hcm, ?_, ?_⟩⟩, ⟨rfl, rfl, rfl, by simp, fun k hk _ => (World.grownBy_alloc w.drew _ none).block k hk (by simp)⟩⟩
   · simp only [Array.size_append, List.size_toArray, size_zeroCells, hzs, hlen, ← Nat.add_mul]
     congr 1
     omega
   · simp only [Array.toList_append]; rw [← hlen]; exact List.take_left
 rcases hown.2 with ⟨rfl, rfl⟩ | ⟨g, cap, cur, rfl, hbg, hg, hnc, hcm, hcs, htake⟩
 · have hx : xs = [] := List.eq_nil_of_length_eq_zero (by simpa using hown.1); subst hx
   by_cases hm : m = 0
   · subst hm; have hn : news = [] := List.eq_nil_of_length_eq_zero (by simpa using hl); subst hn; refine ⟨.slice none 0 0, w, ?_, World.ownsRow_nil w base e i.size, ⟨rfl, rfl, rfl, Nat.le_refl _, fun _ _ _ => rfl⟩⟩; have hc := hs.cells
     rcases hs.kind with ⟨e', hk⟩ | hk <;>
       simp [Builtin.append_, run_underlying ht, run_underlying hk, sizeOf, typeInfo, hi, hs.len, hc]
   · have hr := run_append_grow_src (P := P) w t tx ty e i z ht hi hz none 0 0 [] (run_firstCells_none w.drew i.size 0 0 0) x m news hs (by omega) (by omega) (growslice_fits (by omega) (by simpa using hbytes)); have hgr := grown 0 (by omega) (Value.ownBlock (.slice none 0 0)); simp only [Nat.zero_add, List.nil_append] at hgr hr ⊢; exact ⟨_, _, hr, hgr.1, hgr.2⟩
 · by_cases hroom : n + m ≤ cap
   · have hfit : n * i.size + news.length ≤ cur.size := by rw [hl, hcs, ← Nat.add_mul]; exact Nat.mul_le_mul_right _ hroom
     have hst := run_storeCells_at P g (n * i.size) e news 0 cur w hg (by simpa using hfit) hs.one; simp only [Nat.add_zero] at hst
     have hr : (Builtin.append_ #[t, tx] ty #[.slice (some ⟨g, 0, none⟩) n cap, x]).run P w = .ok (.slice (some ⟨g, 0, none⟩) (n + m) cap) (w.setRow g (cur.toList.take (n * i.size) ++ news ++ cur.toList.drop (n * i.size + news.length)).toArray) := by
      rcases hs.kind with ⟨e', hk⟩ | hk <;>
        simp [Builtin.append_, run_underlying ht, run_underlying hk, sizeOf, typeInfo, hi, hs.len, hroom, hs.cells, Addr.add_lit, hst]
     refine ⟨_, _, hr, ⟨hlen, .inr ⟨g, cap, _, rfl, hbg, setRow_heap w g cur _ e _ hg, hroom, hcm, ?_, ?_⟩⟩, ⟨rfl, rfl, rfl, by simp, fun k _ hk => setRow_other w g k _ (fun e => hk (by simp [Value.ownBlock, e]))⟩⟩
     · simp only [List.size_toArray, List.length_append, List.length_take, List.length_drop, Array.length_toList]; omega
     · rw [htake, ← hlen]; exact List.take_left
   · have holds : ∀ j u, xs[j]? = some u → w.drew.cell? ((⟨g, 0, none⟩ : Addr).add j) = some u := fun j u hu => by simpa using hown.cells (g := g) rfl j u hu
     have hr := run_append_grow_src (P := P) w t tx ty e i z ht hi hz (some ⟨g, 0, none⟩) n cap xs (run_firstCells_some (P := P) w.drew i.size n ⟨g, 0, none⟩ n cap xs hown.1 holds) x m news hs (by omega) (by omega) (growslice_fits (by omega) hbytes); have hgr := grown cap (by omega) (Value.ownBlock (.slice (some ⟨g, 0, none⟩) n cap)); exact ⟨_, _, hr, hgr.1, hgr.2⟩
def OwnB (w : World) (base : Nat) (e : TypeId) (v : Value) (l : List UInt8) : Prop := w.ownsRow base e 1 v l.length (l.map fun b => Value.int .u8 b.toNat)
theorem OwnB.nil (w : World) (base : Nat) (e : TypeId) : OwnB w base e (.slice none 0 0) [] := World.ownsRow_nil w base e 1
theorem OwnB.kept {w w' : World} {base : Nat} {e : TypeId} {v : Value} {l : List UInt8} (h : OwnB w base e v l) (hb : Below w.heap.size w w') : OwnB w' base e v l :=
  World.ownsRow.kept h (row := none) ⟨hb.os, hb.tape, hb.output, hb.size, fun k hk _ => hb.block k hk⟩ (by cases hv : v.ownBlock <;> simp)
theorem OwnB.drewN {w : World} {base : Nat} {e : TypeId} {v : Value} {l : List UInt8} (h : OwnB w base e v l) (n : Nat) : OwnB (w.drewN n) base e v l := h
theorem OwnB.alloc {w : World} {base : Nat} {e : TypeId} {v : Value} {l : List UInt8} (h : OwnB w base e v l) (o : Obj) : OwnB (w.alloc o) base e v l := World.ownsRow.alloc h o
theorem OwnB.below {w0 w w' : World} {e : TypeId} {v : Value} {l : List UInt8} {B : Nat} (h : OwnB w B e v l) (hb : Below B w0 w) (hB : B ≤ w.heap.size) (hg : w.grownBy w' v.ownBlock) : Below B w0 w' := by
 exact hb.grown hg hB (fun k hk => (World.ownsRow.lt h k hk).1)
theorem append_bound {n m : Nat} (h : n + m ≤ 140737488355328) : n + m ≤ maxLen := by unfold maxLen; omega
theorem step_append_new {P : Program} {w : World} {ops : Array Oper} {o : Oper} {a : Act} {K : Act → World → Prop} {Q : Exit → Act → World → Prop} {E : Prop} (hgd : o.guard = none) (s x : Operand) (t : TypeId)
    (ho : o.op = .call { callee := .builtin .append, args := #[s, x], argTypes := #[t, t] })
    (base : Nat) (e : TypeId) (i : TypeInfo) (z : Value) (ht : P.underlying t = some (.slice e)) (hi : P.info? e = some i) (hz : i.zero = some z)
    (hsize : i.size = 1) (hby : i.bytes = 1) (hzs : z.cells.size = 1) (v : Value) (l : List UInt8) (hs : a.eval s = v) (hown : OwnB w base e v l) (ad : Addr) (m c : Nat) (hx : a.eval x = .slice (some ad) m c) (ns : List Int)
    (hm : ns.length = m) (hcell : ∀ j u, (ns.map (Value.int .u8))[j]? = some u → w.cell? (ad.add j) = some u) (hn : ∀ x ∈ ns, 0 ≤ x ∧ x < 256)
    (hb : l.length + m ≤ 140737488355328) (hbase : base ≤ w.heap.size)
    (h : ∀ v' w', OwnB w' base e v' (l ++ ns.map fun x => x.toNat.toUInt8) → w.grownBy w' v.ownBlock → K (a.put o.dst v') w') :
    if Region.wanted o (yielded ops a.tmps) = true then Oper.wp P o a w K Q else E := by
 subst hm
 have hw : Region.wanted o (yielded ops a.tmps) = true := by simp [Region.wanted, hgd]
 rw [if_pos hw]
 have hone : ∀ u ∈ ns.map (Value.int .u8), u.oneCell' = true := by
  intro u hu
  obtain ⟨_, _, rfl⟩ := List.mem_map.1 hu; rfl
 obtain ⟨v', w', hr, h2, h3⟩ := run_append_own_src (P := P) w base t t o.type e i z 1 1 ht hi hz hsize hby hzs (by omega) v l.length _ hown (.slice (some ad) ns.length c) ns.length (ns.map (Value.int .u8)) (Src.ofSlice w ht ad ns.length c _ (by simp) hcell hone) (append_bound hb) (by omega) hbase
 have he : (ns.map fun x => x.toNat.toUInt8).map (fun b => Value.int .u8 b.toNat) = ns.map (Value.int .u8) := by
  rw [List.map_map]
  apply List.map_congr_left
  intro x hx
  have := hn x hx
  have h2 : (x.toNat.toUInt8).toNat = x.toNat := by simp [Nat.toUInt8]; omega
  simp only [Function.comp, h2]; rw [show ((x.toNat : Nat) : Int) = x by omega]
 unfold Oper.wp execOp; simp only [ho, resolve, invoke, builtin, Sem.run_bind, Sem.run_pure, Result.andThen_ok, List.map_toArray, List.map_cons, List.map_nil, hs, hx, hr]; refine h v' w' ?_ h3; unfold OwnB; rw [List.length_append, List.map_append, he, List.length_map]; exact h2
theorem run_ownB_string {P : Program} {w : World} {base : Nat} {src dst e : TypeId} (hs : P.underlying src = some (.slice e)) (he : P.underlying e = some (.int .u8)) (hd : P.underlying dst = some .string) {v : Value} {l : List UInt8} (hown : OwnB w base e v l) :
    (convert src dst v).run P w = .ok (.string ⟨l.toArray⟩) w := by
 have hown' : w.ownsRow base e 1 v l.length (l.map fun b => Value.int .u8 b.toNat) := hown
 rcases hown'.2 with ⟨rfl, h0⟩ | ⟨g, cap, cur, rfl, hb, hg, hc⟩
 · have : l = [] := List.eq_nil_of_length_eq_zero h0; subst this; exact run_convert_bytes_nil w src e hs he 0 0 dst hd
 · have hcell := hown'.cells (g := g) rfl
   have := run_convert_bytes_arg (P := P) w src e hs he g 0 l.length cap (l.map fun b => (b.toNat : Int)) (by simp) (fun i hi => by
    have h1 := hcell i (.int .u8 (l[i]).toNat) (by simp [hi])
    have hadd : (⟨g, 0, none⟩ : Addr).add i = ⟨g, 0 + i, none⟩ := by unfold Addr.add; split <;> simp_all
    rw [hadd] at h1; rw [h1]
    simp [List.getD_eq_getElem?_getD, hi]) dst hd
   rw [this]
   congr 2
   have : (strOfNums (l.map fun b => (b.toNat : Int))).data.toList = l := by
    rw [strOfNums_data, List.map_map]
    have : ((fun n : Int => UInt8.ofNat n.toNat) ∘ fun b : UInt8 => ((b.toNat : Nat) : Int)) = id := by funext b; simp
    rw [this, List.map_id]
   cases hX : strOfNums (l.map fun b => (b.toNat : Int)) with
   | mk d => rw [hX] at this; simp only at this; subst this; simp
end Go.Ms
namespace Go.Ms
open Go.Lib
end Go.Ms
namespace Go.Proofs.YtikpmmipopmjaaaGreatDoor
open Go.RowKit Go.Ms Go.Lib
theorem cell_lt {w : World} {p : Addr} {v : Value} (h : w.cell? p = some v) : p.block < w.heap.size := by
 unfold World.cell? at h
 rcases Nat.lt_or_ge p.block w.heap.size with h1 | h1
 · exact h1
 · simp [Array.getElem?_eq_none h1] at h
theorem str_size (l : Bs) : (⟨l.toArray⟩ : ByteArray).size = l.length := List.size_toArray
theorem str_list (l : Bs) : (⟨l.toArray⟩ : ByteArray).toList = l := by rw [Lib.toList_data]
theorem kplain_any (a b : Nat) (lo hi n : Int) (nu : Bool) (s : Bs) (w : World) (ha : w.cell? ⟨a, 0, none⟩ = some (.int .i64 lo)) (hb : w.cell? ⟨b, 0, none⟩ = some (.int .i64 hi)) :
    Calls Tryz.prog 120 #[.agg #[.bool nu, .int .i64 n, .string ⟨s.toArray⟩], .pointer (some ⟨a, 0, none⟩), .pointer (some ⟨b, 0, none⟩)] w fun e w' => e = .returned (.bool (decide (s = []) && decide (lo ≤ n) && decide (n ≤ hi))) ∧ Below w.heap.size w w' := by
 have hla := cell_lt ha; have hlb := cell_lt hb
 cases s with
 | cons x r =>
  have e1 : (⟨(x :: r).toArray⟩ : ByteArray).toList.isEmpty = false := by rw [str_list]; rfl
  have e2 : ¬ (⟨(x :: r).toArray⟩ : ByteArray).toList = [] := by rw [str_list]; simp
  have hd : (decide (x :: r = []) && decide (lo ≤ n) && decide (n ≤ hi)) = false := by simp
  rw [hd]; clear hd
  generalize (⟨(x :: r).toArray⟩ : ByteArray) = S at *
  go_enter Tryz.func120, Tryz.ntmps120
  go_wp2
  go_ret
  exact ⟨rfl, (Below.refl _ _).alloc (Nat.le_refl _) _⟩
 | nil =>
  by_cases h1 : lo ≤ n
  · by_cases h2 : n ≤ hi
    · have hd : (decide (([] : Bs) = []) && decide (lo ≤ n) && decide (n ≤ hi)) = true := by simp [h1, h2]
      rw [hd]; clear hd
      go_enter Tryz.func120, Tryz.ntmps120
      go_wp2
      go_ret
      exact ⟨rfl, (Below.refl _ _).alloc (Nat.le_refl _) _⟩
    · have hd : (decide (([] : Bs) = []) && decide (lo ≤ n) && decide (n ≤ hi)) = false := by simp [h2]
      rw [hd]; clear hd
      go_enter Tryz.func120, Tryz.ntmps120
      go_wp2
      go_ret
      exact ⟨rfl, (Below.refl _ _).alloc (Nat.le_refl _) _⟩
  · have hd : (decide (([] : Bs) = []) && decide (lo ≤ n) && decide (n ≤ hi)) = false := by simp [h1]
    rw [hd]; clear hd
    go_enter Tryz.func120, Tryz.ntmps120
    go_wp2
    go_ret
    exact ⟨rfl, (Below.refl _ _).alloc (Nat.le_refl _) _⟩
theorem ksize_any (n : Int) (nu : Bool) (s : Bs) (w : World) (hs : s.length ≤ 100000) :
    Calls Tryz.prog 121 #[.agg #[.bool nu, .int .i64 n, .string ⟨s.toArray⟩]] w fun e w' => e = .returned (.bool (decide (n = 0) && decide (s.length ≤ 1024))) ∧ Below w.heap.size w w' := by
 have hz := str_size s
 generalize (⟨s.toArray⟩ : ByteArray) = S at *
 generalize s.length = L at *
 subst hz
 by_cases h1 : n = 0
 · subst h1
   by_cases h2 : S.size ≤ 1024
   · have h2' : (S.size : Int) ≤ 1024 := by omega
     rw [decide_eq_true h2]
     go_enter Tryz.func121, Tryz.ntmps121
     go_wp2
     go_ret
     exact ⟨rfl, (Below.refl _ _).alloc (Nat.le_refl _) _⟩
   · have h2' : ¬ (S.size : Int) ≤ 1024 := by omega
     rw [decide_eq_false h2]
     go_enter Tryz.func121, Tryz.ntmps121
     go_wp2
     go_ret
     exact ⟨rfl, (Below.refl _ _).alloc (Nat.le_refl _) _⟩
 · have h1' : (n == 0) = false := by simpa using h1
   rw [decide_eq_false h1]
   go_enter Tryz.func121, Tryz.ntmps121
   go_wp2
   go_ret
   exact ⟨rfl, (Below.refl _ _).alloc (Nat.le_refl _) _⟩
theorem tbool_any (n : Int) (nu : Bool) (s : Bs) (w : World) :
    Calls Tryz.prog 122 #[.agg #[.bool nu, .int .i64 n, .string ⟨s.toArray⟩]] w fun e w' => e = .returned (.string ⟨(formatBool (n == 1)).toArray⟩) ∧ Below w.heap.size w w' := by
 generalize (⟨s.toArray⟩ : ByteArray) = S at *
 go_enter Tryz.func122, Tryz.ntmps122
 go_wp2_with (go_at_call 123; refine (Tryz.strconv_FormatBool _ _).mono ?_; rintro e w' ⟨rfl, rfl⟩)
 go_ret
 exact ⟨rfl, (Below.refl _ _).alloc (Nat.le_refl _) _⟩
theorem bbool_any (n : Int) (nu : Bool) (s : Bs) (w : World) (h0 : 0 ≤ n) (h1 : n ≤ 1) :
    Calls Tryz.prog 125 #[.agg #[.bool nu, .int .i64 n, .string ⟨s.toArray⟩]] w fun e w' => e = .returned (.string (strOfNums [n])) ∧ Below w.heap.size w w' := by
 have kc := fun (w : World) (n : Nat) (hn : n = w.heap.size) (a : Int) => conv_new (P := Tryz.prog) w n hn 92 5 Tryz.underlying92 Tryz.underlying5 [a] 9 Tryz.underlying9
 simp only [List.map_cons, List.map_nil, List.length_cons, List.length_nil, Nat.zero_add] at kc; have u1 : IntKind.u8.wrap n = n := IntWalk.u8_in _ (by omega)
 generalize (⟨s.toArray⟩ : ByteArray) = S at *
 go_enter Tryz.func125, Tryz.ntmps125
 go_wp2
 go_ret
 exact ⟨rfl, ((Below.refl _ _).alloc (Nat.le_refl _) _).alloc (by simp) _⟩
end Go.Proofs.YtikpmmipopmjaaaGreatDoor
