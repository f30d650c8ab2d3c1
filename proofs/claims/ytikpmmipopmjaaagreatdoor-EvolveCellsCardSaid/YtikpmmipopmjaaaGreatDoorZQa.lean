/- Rows: words for lists that lie in memory, cell by cell: cells, whole numbers, columns. Rows of bytes, as plain functions. Rows of bytes taken off; hex; plain functions. Hex read: plain. The reader of literals, as plain functions: place and error go along. -/
import Derived.WalkKit
import Derived.Below
import Derived.Deep.Draws
import Derived.Lib.Hide
import Derived.Laws.OwnMore
import Derived.Maps.AppendAt
import Derived.Lib.ValidU
import Derived.Lib.RuneBytes
import Derived.Lib.Replace
import Derived.Lib.IndexBytes
import Derived.Lib.Bytealg
import Derived.Lib.Strings
import Derived.Lib.DecodeN
set_option linter.unusedVariables false
namespace Go.Ms
open Go.RowKit Go.Lib
abbrev Cl := Bool × Int × ByteArray
abbrev Ty := Int × Bool
def clV (c : Cl) : List Value := [.bool c.1, .int .i64 c.2.1, .string c.2.2]
def rowV (l : List Cl) : List Value := l.flatMap clV
def intV (l : List Int) : List Value := l.map (Value.int .i64)
def Lay (w : World) (B : Nat) (A : Option Addr) (xs : List Value) : Prop := ∀ j u, xs[j]? = some u → ∃ g o, A = some ⟨g, o, none⟩ ∧ g < B ∧ w.cell? ⟨g, o + j, none⟩ = some u
namespace Lay
variable {w w' : World} {B B' : Nat} {A : Option Addr} {xs : List Value}
theorem keep (h : Lay w B A xs) (hk : ∀ p : Addr, p.block < B → w'.cell? p = w.cell? p) : Lay w' B A xs := fun j u hu => by
 obtain ⟨g, o, e, hb, hc⟩ := h j u hu; exact ⟨g, o, e, hb, (hk _ hb).trans hc⟩
theorem more (h : Lay w B A xs) (hB : B ≤ B') : Lay w B' A xs := fun j u hu => by
 obtain ⟨g, o, e, hb, hc⟩ := h j u hu; exact ⟨g, o, e, by omega, hc⟩
theorem below (h : Lay w B A xs) (hb : Below B w w') : Lay w' B A xs := h.keep fun _ hp => hb.cell hp
theorem some_ (h : Lay w B A xs) (hx : 0 < xs.length) : ∃ g o, A = some ⟨g, o, none⟩ ∧ g < B ∧ ∀ j u, xs[j]? = some u → w.cell? ⟨g, o + j, none⟩ = some u := by
 obtain ⟨g, o, e, hb, _⟩ := h 0 _ (List.getElem?_eq_getElem hx); refine ⟨g, o, e, hb, fun j u hu => ?_⟩; obtain ⟨g', o', e', _, hc⟩ := h j u hu; rw [e] at e'
 cases e'
 exact hc
theorem of_own {base size n c : Nat} {e : TypeId} (h : w.ownsRow base e size (.slice A n c) n xs) (hB : w.heap.size ≤ B) : Lay w B A xs := fun j u hu => by
 have hj : j < xs.length := (List.getElem?_eq_some_iff.1 hu).1
 rcases h.2 with ⟨_, h0⟩ | ⟨g, cap, cur, hv, _, hg, _⟩
 · have := h.1; rw [h0] at this; omega
 · have hA : A = some ⟨g, 0, none⟩ := by injection hv
   subst hA; have hlt : g < w.heap.size := (Array.getElem?_eq_some_iff.1 hg).1; refine ⟨_, _, rfl, by omega, ?_⟩; have := h.cells (g := g) rfl j u hu; rw [Addr.add_lit] at this; exact this
theorem take (h : Lay w B A xs) (n : Nat) : Lay w B A (xs.take n) := fun j u hu => by
 refine h j u ?_; rw [List.getElem?_take] at hu
 split at hu
 · exact hu
 · cases hu
end Lay
theorem rowV_len (l : List Cl) : (rowV l).length = l.length * 3 := by
 induction l with
 | nil => rfl
 | cons a t ih => show (clV a ++ rowV t).length = _; rw [List.length_append, ih, List.length_cons]; simp [clV]; omega
theorem rowV_at : ∀ (l : List Cl) (i : Nat) (c : Cl), l[i]? = some c → (rowV l)[i * 3]? = some (.bool c.1) ∧ (rowV l)[i * 3 + 1]? = some (.int .i64 c.2.1) ∧ (rowV l)[i * 3 + 2]? = some (.string c.2.2)
  | [], i, c, h => by simp at h
  | a :: t, 0, c, h => by
   have h : a = c := by simpa using h
   subst h; exact ⟨rfl, rfl, rfl⟩
  | a :: t, i + 1, c, h => by
   obtain ⟨h1, h2, h3⟩ := rowV_at t i c (by simpa using h)
   have e : ∀ k, (rowV (a :: t))[(i + 1) * 3 + k]? = (rowV t)[i * 3 + k]? := fun k => by
    show (clV a ++ rowV t)[(i + 1) * 3 + k]? = _
    rw [List.getElem?_append_right (by simp [clV]; omega)]
    congr 1
    simp [clV]; omega
   exact ⟨(e 0).trans h1, (e 1).trans h2, (e 2).trans h3⟩
theorem rowV_app (l m : List Cl) : rowV (l ++ m) = rowV l ++ rowV m := List.flatMap_append
theorem intV_at (l : List Int) (i : Nat) (p : Int) (h : l[i]? = some p) : (intV l)[i]? = some (.int .i64 p) := by simp [intV, h]
theorem Lay.cl {w : World} {B : Nat} {A : Option Addr} {l : List Cl} {i : Nat} {c : Cl} (h : Lay w B A (rowV l)) (hi : l[i]? = some c) :
    ∃ g o, A = some ⟨g, o, none⟩ ∧ g < B ∧ w.cell? ⟨g, o + i * 3, none⟩ = some (.bool c.1) ∧ w.cell? ⟨g, o + i * 3 + 1, none⟩ = some (.int .i64 c.2.1) ∧ w.cell? ⟨g, o + i * 3 + 2, none⟩ = some (.string c.2.2) := by
 obtain ⟨h1, h2, h3⟩ := rowV_at l i c hi; have hl : i < l.length := (List.getElem?_eq_some_iff.1 hi).1; obtain ⟨g, o, e, hb, hc⟩ := h.some_ (by rw [rowV_len]; omega); exact ⟨g, o, e, hb, hc _ _ h1, hc _ _ h2, hc _ _ h3⟩
theorem Lay.num {w : World} {B : Nat} {A : Option Addr} {l : List Int} {i : Nat} {p : Int} (h : Lay w B A (intV l)) (hi : l[i]? = some p) :
    ∃ g o, A = some ⟨g, o, none⟩ ∧ g < B ∧ w.cell? ⟨g, o + i, none⟩ = some (.int .i64 p) := by
 have h1 := intV_at l i p hi; have hl : i < l.length := (List.getElem?_eq_some_iff.1 hi).1; obtain ⟨g, o, e, hb, hc⟩ := h.some_ (by simp [intV]; omega); exact ⟨g, o, e, hb, hc _ _ h1⟩
structure Cols (w : World) (B : Nat) (A : Option Addr) (ts : List Ty) (xs : List Value) : Prop where
  len : xs.length = ts.length * 7
  lay : Lay w B A xs
  kind : ∀ (i : Nat) t, ts[i]? = some t → xs[i * 7 + 2]? = some (.int .i64 t.1) ∧ xs[i * 7 + 3]? = some (.bool t.2)
theorem Cols.below {w w' : World} {B : Nat} {A : Option Addr} {ts : List Ty} {xs : List Value} (h : Cols w B A ts xs) (hb : Below B w w') : Cols w' B A ts xs := ⟨h.len, h.lay.below hb, h.kind⟩
theorem Cols.more {w : World} {B B' : Nat} {A : Option Addr} {ts : List Ty} {xs : List Value} (h : Cols w B A ts xs) (hB : B ≤ B') : Cols w B' A ts xs := ⟨h.len, h.lay.more hB, h.kind⟩
theorem Cols.ty {w : World} {B : Nat} {A : Option Addr} {ts : List Ty} {xs : List Value} {i : Nat} {t : Ty} (h : Cols w B A ts xs) (hi : ts[i]? = some t) :
    ∃ g o, A = some ⟨g, o, none⟩ ∧ g < B ∧ w.cell? ⟨g, o + i * 7 + 2, none⟩ = some (.int .i64 t.1) ∧ w.cell? ⟨g, o + i * 7 + 2 + 1, none⟩ = some (.bool t.2) := by
 obtain ⟨h1, h2⟩ := h.kind i t hi; have hl : i < ts.length := (List.getElem?_eq_some_iff.1 hi).1; obtain ⟨g, o, e, hb, hc⟩ := h.lay.some_ (by rw [h.len]; omega); exact ⟨g, o, e, hb, hc _ _ h1, hc _ _ h2⟩
end Go.Ms
namespace Go.Ms
open Go.Lib
abbrev Bs := List UInt8
def isRune (r : Int) : Bool := (decide (0 ≤ r) && decide (r < 55296)) || (decide (57344 ≤ r) && decide (r ≤ 1114111))
theorem isRune_iff (r : Int) : isRune r = true ↔ (0 ≤ r ∧ r < 55296) ∨ (57344 ≤ r ∧ r ≤ 1114111) := by simp [isRune]
def bt (l : Bs) (i : Nat) : Nat := (l.getD i 0).toNat
theorem bt_lt (l : Bs) (i : Nat) : bt l i < 256 := UInt8.toNat_lt _
theorem get!_list (l : Bs) (i : Nat) : ByteArray.get! ⟨l.toArray⟩ i = l.getD i 0 := by
 show (l.toArray)[i]! = _
 simp [List.getD_eq_getElem?_getD]
 rfl
theorem decodeL_eq (l : Bs) : decodeL l = decodeN l.length (bt l 0) (bt l 1) (bt l 2) (bt l 3) := by
 unfold decodeL; rw [decode_at]; simp only [get!_list, bt, Nat.zero_add, Nat.sub_zero]; rfl
theorem toU8_toNat {x : Int} (h0 : 0 ≤ x) (h1 : x < 256) : ((x.toNat.toUInt8).toNat : Int) = x := by
 simp [Nat.toUInt8]; omega
theorem u8_ext {a : UInt8} {x : Int} (h : (a.toNat : Int) = x) : x.toNat.toUInt8 = a := by
 subst h
 simp [Nat.toUInt8]
set_option maxRecDepth 100000 in
theorem dec_sound (l : Bs) (hl : l ≠ []) (h : ¬ ((decodeL l).1 = 65533 ∧ (decodeL l).2 < 2)) :
    isRune (decodeL l).1 = true ∧ (decodeL l).2 ≤ l.length ∧ l.take (decodeL l).2 = encodeRune (decodeL l).1 := by
 obtain ⟨p, hp⟩ : ∃ p, decodeL l = p := ⟨_, rfl⟩; rw [hp] at h ⊢; rw [decodeL_eq] at hp; obtain ⟨a, l, rfl⟩ := List.exists_cons_of_ne_nil hl; have ha := UInt8.toNat_lt a; have e0 : bt (a :: l) 0 = a.toNat := rfl; rw [e0] at hp; unfold decodeN at hp
 split at hp
 · rename_i c
   subst hp; refine ⟨by rw [isRune_iff]; simp only; omega, by simp, ?_⟩
   simp only
   unfold encodeRune; rw [encodeRuneZ_one (by omega) (by omega)]
   simp [Nat.toUInt8]
 split at hp
 · rename_i c c1
   obtain ⟨p1, p2, p3⟩ := c1
   match l, p2 with
   | b :: l, _ =>
    have e1 : bt (a :: b :: l) 1 = b.toNat := rfl; rw [e1] at hp p3; have hb := UInt8.toNat_lt b
    split at hp
    · subst hp; refine ⟨by rw [isRune_iff]; simp only; omega, by simp, ?_⟩
      simp only
      unfold encodeRune; rw [encodeRuneZ_two (by omega) (by omega)]; simp only [List.take_succ_cons, List.take_zero, List.map_cons, List.map_nil]; rw [u8_ext (a := a) (by omega), u8_ext (a := b) (by omega)]
    · subst hp; exact absurd ⟨rfl, by decide⟩ h
 split at hp
 · rename_i c c1 c2
   obtain ⟨p1, ⟨p2, p3⟩, p4, p5⟩ := c2
   match l, p4 with
   | b :: d :: l, _ =>
    have e1 : bt (a :: b :: d :: l) 1 = b.toNat := rfl; have e2 : bt (a :: b :: d :: l) 2 = d.toNat := rfl; rw [e1] at hp p3; rw [e2] at hp p5; have hb := UInt8.toNat_lt b; have hd := UInt8.toNat_lt d
    split at hp
    · subst hp; refine ⟨by rw [isRune_iff]; simp only; omega, by simp, ?_⟩
      simp only
      unfold encodeRune; rw [encodeRuneZ_three (by omega)]; simp only [List.take_succ_cons, List.take_zero, List.map_cons, List.map_nil]; rw [u8_ext (a := a) (by omega), u8_ext (a := b) (by omega), u8_ext (a := d) (by omega)]
    · subst hp; exact absurd ⟨rfl, by decide⟩ h
 split at hp
 · rename_i c c1 c2 c3
   obtain ⟨p1, ⟨p2, p3⟩, ⟨p4, p5⟩, p6, p7⟩ := c3
   match l, p6 with
   | b :: d :: f :: l, _ =>
    have e1 : bt (a :: b :: d :: f :: l) 1 = b.toNat := rfl; have e2 : bt (a :: b :: d :: f :: l) 2 = d.toNat := rfl; have e3 : bt (a :: b :: d :: f :: l) 3 = f.toNat := rfl; rw [e1] at hp p3; rw [e2] at hp p5; rw [e3] at hp p7; have hb := UInt8.toNat_lt b; have hd := UInt8.toNat_lt d; have hf := UInt8.toNat_lt f
    split at hp
    · subst hp; refine ⟨by rw [isRune_iff]; simp only; omega, by simp, ?_⟩
      simp only
      unfold encodeRune; rw [encodeRuneZ_four (by omega) (by omega)]; simp only [List.take_succ_cons, List.take_zero, List.map_cons, List.map_nil]; rw [u8_ext (a := a) (by omega), u8_ext (a := b) (by omega), u8_ext (a := d) (by omega), u8_ext (a := f) (by omega)]
    · subst hp; exact absurd ⟨rfl, by decide⟩ h
 · subst hp; exact absurd ⟨rfl, by decide⟩ h
theorem toU8_nat {x : Int} (h0 : 0 ≤ x) (h1 : x < 256) : (x.toNat.toUInt8).toNat = x.toNat := by
 have := toU8_toNat h0 h1; omega
set_option maxRecDepth 100000 in
theorem dec_enc (r : Int) (m : Bs) (h : isRune r = true) : decodeL (encodeRune r ++ m) = (r.toNat, (encodeRune r).length) := by
 rw [isRune_iff] at h; rw [decodeL_eq]; unfold encodeRune
 by_cases c0 : r ≤ 127
 · rw [encodeRuneZ_one (by omega) c0]; simp only [List.map_cons, List.map_nil, List.cons_append, List.nil_append, bt, List.getD_cons_zero, List.getD_cons_succ, List.length_cons, List.length_nil]; rw [toU8_nat (by omega) (by omega)]; unfold decodeN; rw [if_pos (by omega)]
 by_cases c1 : r ≤ 2047
 · rw [encodeRuneZ_two (by omega) c1]; simp only [List.map_cons, List.map_nil, List.cons_append, List.nil_append, bt, List.getD_cons_zero, List.getD_cons_succ, List.length_cons, List.length_nil]; rw [toU8_nat (by omega) (by omega), toU8_nat (by omega) (by omega)]; unfold decodeN; rw [if_neg (by omega), if_pos ⟨by omega, by omega, by omega⟩, if_pos (by omega)]
   apply Prod.ext <;> simp only <;> omega
 by_cases c2 : r ≤ 65535
 · rw [encodeRuneZ_three (by omega)]; simp only [List.map_cons, List.map_nil, List.cons_append, List.nil_append, bt, List.getD_cons_zero, List.getD_cons_succ, List.length_cons, List.length_nil]; rw [toU8_nat (by omega) (by omega), toU8_nat (by omega) (by omega), toU8_nat (by omega) (by omega)]; unfold decodeN; rw [if_neg (by omega), if_neg (by omega), if_pos ⟨by omega, ⟨by omega, by omega⟩, by omega, by omega⟩, if_pos (by omega)]
   apply Prod.ext <;> simp only <;> omega
 · rw [encodeRuneZ_four (by omega) (by omega)]; simp only [List.map_cons, List.map_nil, List.cons_append, List.nil_append, bt, List.getD_cons_zero, List.getD_cons_succ, List.length_cons, List.length_nil]; rw [toU8_nat (by omega) (by omega), toU8_nat (by omega) (by omega), toU8_nat (by omega) (by omega), toU8_nat (by omega) (by omega)]; unfold decodeN; rw [if_neg (by omega), if_neg (by omega), if_neg (by omega), if_pos ⟨by omega, ⟨by omega, by omega⟩, ⟨by omega, by omega⟩, by omega, by omega⟩, if_pos (by omega)]
   apply Prod.ext <;> simp only <;> omega
end Go.Ms
namespace Go.Ms
open Go.Lib
def escb (c : UInt8) : Bs := if c = 0 then [0, 255] else [c]
def escD (l : Bs) : Bs := l.flatMap escb
theorem index_ne {b : UInt8} {l : Bs} (h : b ≠ 0) : index (b :: l) [0] = if index l [0] == -1 then -1 else index l [0] + 1 := by
 have : ([0] : Bs).isPrefixOf (b :: l) = false := by simp [List.isPrefixOf]; exact fun e => h e.symm
 rw [index, this]; rfl
theorem index_eq {l : Bs} : index ((0 : UInt8) :: l) [0] = 0 := by
 rw [index]
 simp [List.isPrefixOf]
theorem count_ne {b : UInt8} {l : Bs} (h : b ≠ 0) : count (b :: l) [0] = count l [0] := by
 by_cases hi : index l [0] = -1
 · rw [count_miss hi, count_miss (by rw [index_ne h, hi]; rfl)]
 · have hge := index_ge l [0]; obtain ⟨i, hi'⟩ : ∃ i : Nat, index l [0] = i := ⟨(index l [0]).toNat, by omega⟩; rw [count_hit (by simp) hi', count_hit (i := i + 1) (by simp) (by rw [index_ne h, hi', if_neg (by simp)]; rfl)]; rfl
theorem rk_ne (new : Bs) {b : UInt8} {l : Bs} (h : b ≠ 0) (k : Nat) : replaceK [0] new k (b :: l) = b :: replaceK [0] new k l := by
 cases k with
 | zero => rfl
 | succ k =>
  rw [replaceK, replaceK, index_ne h]
  by_cases hi : index l [0] = -1
  · rw [hi]; simp
  · have hge := index_ge l [0]; obtain ⟨i, hi'⟩ : ∃ i : Nat, index l [0] = i := ⟨(index l [0]).toNat, by omega⟩
    have g1 : ¬ (((i : Int)) == -1) = true := by rw [beq_iff_eq]; omega
    have g2 : ¬ (((i : Int) + 1) == -1) = true := by rw [beq_iff_eq]; omega
    rw [hi', if_neg g1, if_neg g2, if_neg g1]; rw [show ((i : Int) + 1).toNat = i + 1 by omega, show (i : Int).toNat = i by omega]; rfl
theorem rk_esc : ∀ l : Bs, replaceK [0] [0, 255] (count l [0]) l = escD l
  | [] => by rw [count_miss (by rfl)]; rfl
  | b :: l => by
   by_cases h : b = 0
   · subst h; rw [count_hit (i := 0) (by simp) index_eq, Nat.add_comm, replaceK_hit _ _ _ _ 0 index_eq]
     show [] ++ [0, 255] ++ replaceK [0] [0, 255] (count l [0]) l = _
     rw [rk_esc l]; rfl
   · rw [count_ne h, rk_ne _ h, rk_esc l]; unfold escD; rw [List.flatMap_cons]; unfold escb; rw [if_neg h]; rfl
theorem replaceAll_esc (l : Bs) : replaceAll l [0] [0, 255] = escD l := by
 unfold replaceAll replace replaceNum; rw [if_neg (by decide), if_pos (.inl (by decide))]; exact rk_esc l
def rowD (l : Bs) : Bs := escD l ++ [0, 0]
theorem escD_len (l : Bs) : (escD l).length ≤ 2 * l.length := by
 induction l with
 | nil => simp [escD]
 | cons b l ih =>
  unfold escD at ih ⊢; rw [List.flatMap_cons, List.length_append, List.length_cons]
  have : (escb b).length ≤ 2 := by unfold escb; split <;> simp
  omega
end Go.Ms
namespace Go.Ms
open Go.Lib
def hexb (c : UInt8) : Bs := [if c.toNat / 16 < 10 then (48 + c.toNat / 16).toUInt8 else (87 + c.toNat / 16).toUInt8, if c.toNat % 16 < 10 then (48 + c.toNat % 16).toUInt8 else (87 + c.toNat % 16).toUInt8]
def hexD (l : Bs) : Bs := 120 :: l.flatMap hexb
end Go.Ms
namespace Go.Ms
open Go.Lib
def hexS : Bs := [48, 49, 50, 51, 52, 53, 54, 55, 56, 57, 97, 98, 99, 100, 101, 102]
def hx (c : UInt8) : Int := max 0 (indexByte hexS c)
theorem hx_all : ∀ c : Fin 256, 0 ≤ hx c.val.toUInt8 ∧ hx c.val.toUInt8 < 16 := by decide +kernel
theorem hx_bd (c : UInt8) : 0 ≤ hx c ∧ hx c < 16 := by
 have := hx_all ⟨c.toNat, UInt8.toNat_lt c⟩
 simpa using this
def unhexG : Bs → Bs
  | a :: b :: t => (16 * hx a + hx b).toNat.toUInt8 :: unhexG t
  | _ => []
def unhexD (l : Bs) : Bs := unhexG (trimPrefix l [120])
theorem unhexG_short {l : Bs} (h : l.length ≤ 1) : unhexG l = [] := by
 match l, h with
 | [], _ => rfl
 | [a], _ => rfl
end Go.Ms
namespace Go.Ms
open Go.Lib
def put (r : Int) : Bs := if isRune r = true then encodeRune r else []
def nextD (l : Bs) : Nat × Nat × Bool := if l = [] then (0, 0, false) else if (decodeL l).1 = 65533 ∧ (decodeL l).2 < 2 then (0, 0, false) else ((decodeL l).1, (decodeL l).2, true)
def numberD (l : Bs) : Int :=
  if l.length = 1 then bt l 0
  else if l.length = 2 then 64 * (bt l 0 % 32 : Nat) + (bt l 1 % 64 : Nat)
  else if l.length = 3 then 64 * (64 * (bt l 0 % 16 : Nat) + (bt l 1 % 64 : Nat)) + (bt l 2 % 64 : Nat)
  else 64 * (64 * (64 * (bt l 0 % 8 : Nat) + (bt l 1 % 64 : Nat)) + (bt l 2 % 64 : Nat)) + (bt l 3 % 64 : Nat)
theorem encodeRune_length (r : Int) : 1 ≤ (encodeRune r).length ∧ (encodeRune r).length ≤ 4 := by
 have := encodeRuneZ_length r
 simpa [encodeRune] using this
def hit (l : Bs) (n : Nat) : Bool := isRune (numberD (l.take n)) && put (numberD (l.take n)) == l.take n
theorem isRune_nat {r : Int} (h : isRune r = true) : ((r.toNat : Nat) : Int) = r := by rw [isRune_iff] at h; omega
theorem enc_65533 : (encodeRune 65533).length = 3 := by decide
theorem next_enc (r : Int) (m : Bs) (h : isRune r = true) : nextD (encodeRune r ++ m) = (r.toNat, (encodeRune r).length, true) := by
 have hl := encodeRune_length r
 have hne : encodeRune r ++ m ≠ [] := by intro e; rw [List.append_eq_nil_iff] at e; rw [e.1] at hl; simp at hl
 unfold nextD; rw [if_neg hne, dec_enc r m h, if_neg]
 intro ⟨h1, h2⟩
 simp only at h1 h2
 have : r = 65533 := by have := isRune_nat h; omega
 rw [this, enc_65533] at h2; omega
theorem next_cases (l : Bs) : nextD l = (0, 0, false) ∨ ∃ r : Int, isRune r = true ∧ nextD l = (r.toNat, (encodeRune r).length, true) ∧ l = encodeRune r ++ l.drop (encodeRune r).length := by
 unfold nextD
 by_cases hl : l = []
 · exact .inl (by rw [if_pos hl])
 rw [if_neg hl]
 by_cases h : (decodeL l).1 = 65533 ∧ (decodeL l).2 < 2
 · exact .inl (by rw [if_pos h])
 · rw [if_neg h]; obtain ⟨a, b, c⟩ := dec_sound l hl h
   have e : (encodeRune (decodeL l).1).length = (decodeL l).2 := by rw [← c]; simp; omega
   refine .inr ⟨((decodeL l).1 : Nat), a, by rw [e]; simp, ?_⟩; rw [e, ← c]
   simp
end Go.Ms
namespace Go.Ms
open Go.Lib
def rdFail (e x : Int) : Int := if e = 0 then x else e
def rdTake (l : Bs) (p : Nat) (e : Int) : Int × Nat × Int := if e = 0 then (if p = l.length then (0, p, 3) else ((bt l p : Nat), p + 1, 0)) else (0, p, e)
def rdWant (l : Bs) (c : Int) (p : Nat) (e : Int) : Nat × Int := ((rdTake l p e).2.1, if (rdTake l p e).1 = c then (rdTake l p e).2.2 else rdFail (rdTake l p e).2.2 41)
def hexv (c : Int) : Int := if 48 ≤ c ∧ c ≤ 57 then c - 48 else if 65 ≤ c ∧ c ≤ 70 then c - 55 else if 97 ≤ c ∧ c ≤ 102 then c - 87 else 16
def rdDigit (l : Bs) (p : Nat) (e : Int) : Int × Nat × Int :=
  if hexv (rdTake l p e).1 = 16 then (0, (rdTake l p e).2.1, rdFail (rdTake l p e).2.2 41) else (hexv (rdTake l p e).1, (rdTake l p e).2.1, (rdTake l p e).2.2)
theorem rdTake_bd (l : Bs) (p : Nat) (e : Int) : 0 ≤ (rdTake l p e).1 ∧ (rdTake l p e).1 < 256 := by
 have := bt_lt l p; unfold rdTake
 repeat' split
 all_goals (simp only; omega)
theorem rdTake_le (l : Bs) (p : Nat) (e : Int) (h : p ≤ l.length) : p ≤ (rdTake l p e).2.1 ∧ (rdTake l p e).2.1 ≤ l.length := by
 unfold rdTake
 repeat' split
 all_goals (simp only; omega)
theorem hexv_bd (c : Int) : 0 ≤ hexv c ∧ hexv c ≤ 16 := by
 unfold hexv
 repeat' split
 all_goals omega
theorem rdDigit_bd (l : Bs) (p : Nat) (e : Int) : 0 ≤ (rdDigit l p e).1 ∧ (rdDigit l p e).1 < 16 := by
 have := hexv_bd (rdTake l p e).1; unfold rdDigit
 split
 all_goals (simp only; omega)
theorem rdDigit_le (l : Bs) (p : Nat) (e : Int) (h : p ≤ l.length) : p ≤ (rdDigit l p e).2.1 ∧ (rdDigit l p e).2.1 ≤ l.length := by
 have := rdTake_le l p e h; unfold rdDigit
 split
 all_goals (simp only; omega)
def h0 (l : Bs) (second : Bool) (p : Nat) (e : Int) : Int × Nat × Int :=
  ((rdDigit l p e).1, (rdDigit l p e).2.1, if second = true ∧ ¬ (rdDigit l p e).1 = 13 then rdFail (rdDigit l p e).2.2 41 else (rdDigit l p e).2.2)
def h1 (l : Bs) (second : Bool) (p : Nat) (e : Int) : Int × Nat × Int :=
  (16 * (h0 l second p e).1 + (rdDigit l (h0 l second p e).2.1 (h0 l second p e).2.2).1, (rdDigit l (h0 l second p e).2.1 (h0 l second p e).2.2).2.1,
   if second = decide (220 ≤ 16 * (h0 l second p e).1 + (rdDigit l (h0 l second p e).2.1 (h0 l second p e).2.2).1 ∧ 16 * (h0 l second p e).1 + (rdDigit l (h0 l second p e).2.1 (h0 l second p e).2.2).1 ≤ 223)
   then (rdDigit l (h0 l second p e).2.1 (h0 l second p e).2.2).2.2 else rdFail (rdDigit l (h0 l second p e).2.1 (h0 l second p e).2.2).2.2 41)
def h2 (l : Bs) (second : Bool) (p : Nat) (e : Int) : Int × Nat × Int :=
  (16 * (h1 l second p e).1 + (rdDigit l (h1 l second p e).2.1 (h1 l second p e).2.2).1, (rdDigit l (h1 l second p e).2.1 (h1 l second p e).2.2).2.1, (rdDigit l (h1 l second p e).2.1 (h1 l second p e).2.2).2.2)
def rdHalf (l : Bs) (second : Bool) (p : Nat) (e : Int) : Int × Nat × Int :=
  (16 * (h2 l second p e).1 + (rdDigit l (h2 l second p e).2.1 (h2 l second p e).2.2).1, (rdDigit l (h2 l second p e).2.1 (h2 l second p e).2.2).2.1, (rdDigit l (h2 l second p e).2.1 (h2 l second p e).2.2).2.2)
theorem h0_bd (l : Bs) (second : Bool) (p : Nat) (e : Int) : 0 ≤ (h0 l second p e).1 ∧ (h0 l second p e).1 < 16 := rdDigit_bd l p e
theorem h0_le (l : Bs) (second : Bool) (p : Nat) (e : Int) (h : p ≤ l.length) : p ≤ (h0 l second p e).2.1 ∧ (h0 l second p e).2.1 ≤ l.length := rdDigit_le l p e h
theorem h1_bd (l : Bs) (second : Bool) (p : Nat) (e : Int) : 0 ≤ (h1 l second p e).1 ∧ (h1 l second p e).1 < 256 := by
 have := h0_bd l second p e; have := rdDigit_bd l (h0 l second p e).2.1 (h0 l second p e).2.2
 unfold h1; simp only; omega
theorem h1_le (l : Bs) (second : Bool) (p : Nat) (e : Int) (h : p ≤ l.length) : p ≤ (h1 l second p e).2.1 ∧ (h1 l second p e).2.1 ≤ l.length := by
 have a := h0_le l second p e h; have := rdDigit_le l (h0 l second p e).2.1 (h0 l second p e).2.2 a.2
 unfold h1; simp only; omega
theorem h2_bd (l : Bs) (second : Bool) (p : Nat) (e : Int) : 0 ≤ (h2 l second p e).1 ∧ (h2 l second p e).1 < 4096 := by
 have := h1_bd l second p e; have := rdDigit_bd l (h1 l second p e).2.1 (h1 l second p e).2.2
 unfold h2; simp only; omega
theorem h2_le (l : Bs) (second : Bool) (p : Nat) (e : Int) (h : p ≤ l.length) : p ≤ (h2 l second p e).2.1 ∧ (h2 l second p e).2.1 ≤ l.length := by
 have a := h1_le l second p e h; have := rdDigit_le l (h1 l second p e).2.1 (h1 l second p e).2.2 a.2
 unfold h2; simp only; omega
theorem rdHalf_bd (l : Bs) (second : Bool) (p : Nat) (e : Int) : 0 ≤ (rdHalf l second p e).1 ∧ (rdHalf l second p e).1 < 65536 := by
 have := h2_bd l second p e; have := rdDigit_bd l (h2 l second p e).2.1 (h2 l second p e).2.2
 unfold rdHalf; simp only; omega
theorem rdHalf_le (l : Bs) (second : Bool) (p : Nat) (e : Int) (h : p ≤ l.length) : p ≤ (rdHalf l second p e).2.1 ∧ (rdHalf l second p e).2.1 ≤ l.length := by
 have a := h2_le l second p e h; have := rdDigit_le l (h2 l second p e).2.1 (h2 l second p e).2.2 a.2
 unfold rdHalf; simp only; omega
def fullD (l : Bs) : Bool :=
  decide (firstT (bt l 0) % 8 ≤ l.length) || (decide (1 < l.length) && (decide (bt l 1 < accLo (firstT (bt l 0) / 16)) || decide (accHi (firstT (bt l 0) / 16) < bt l 1))) || (decide (2 < l.length) && (decide (bt l 2 < 128) || decide (191 < bt l 2)))
def rdPlain (l : Bs) (p : Nat) (e : Int) : Bs × Nat × Int :=
  if bt l p < 32 then ([], p, rdFail e 41)
  else if (nextD (l.drop p)).2.2 = true then ((l.drop p).take (nextD (l.drop p)).2.1, p + (nextD (l.drop p)).2.1, e)
  else if fullD (l.drop p) = true then ([], p, rdFail e 40) else ([], p, rdFail e 3)
def unesc (c : Int) : Option Int :=
  if c = 34 then some 34 else if c = 92 then some 92 else if c = 98 then some 8 else if c = 102 then some 12 else if c = 110 then some 10 else if c = 114 then some 13 else if c = 116 then some 9 else none
def rdPair (l : Bs) (p3 : Nat) (e3 n : Int) : Bs × Nat × Int :=
  let w1 := rdWant l 92 p3 e3
  let w2 := rdWant l 117 w1.1 w1.2
  let h := rdHalf l true w2.1 w2.2
  if h.2.2 = 0 then (encodeRune (65536 + (n - 55296) * 1024 + h.1 - 56320), h.2.1, h.2.2) else ([], h.2.1, h.2.2)
def rdLong (l : Bs) (p e : Nat × Int) : Bs × Nat × Int :=
  let h := rdHalf l false p.1 e.2
  if 55296 ≤ h.1 ∧ h.1 < 56320 then rdPair l h.2.1 h.2.2 h.1
  else if h.2.2 = 0 then (encodeRune h.1, h.2.1, h.2.2) else ([], h.2.1, h.2.2)
def rdEscape (l : Bs) (p : Nat) (e : Int) : Bs × Nat × Int :=
  let t := rdTake l p e
  if t.1 = 47 then ([47], t.2.1, t.2.2)
  else match unesc t.1 with
   | some k => (encodeRune k, t.2.1, t.2.2)
   | none => rdLong l (t.2.1, 0) (0, if t.1 = 117 then t.2.2 else rdFail t.2.2 41)
theorem rdWant_le (l : Bs) (c : Int) (p : Nat) (e : Int) (h : p ≤ l.length) : p ≤ (rdWant l c p e).1 ∧ (rdWant l c p e).1 ≤ l.length := rdTake_le l p e h
theorem rdPair_le (l : Bs) (p3 : Nat) (e3 n : Int) (h : p3 ≤ l.length) : p3 ≤ (rdPair l p3 e3 n).2.1 ∧ (rdPair l p3 e3 n).2.1 ≤ l.length := by
 have a := rdWant_le l 92 p3 e3 h; have b := rdWant_le l 117 (rdWant l 92 p3 e3).1 (rdWant l 92 p3 e3).2 a.2; have c := rdHalf_le l true (rdWant l 117 (rdWant l 92 p3 e3).1 (rdWant l 92 p3 e3).2).1 (rdWant l 117 (rdWant l 92 p3 e3).1 (rdWant l 92 p3 e3).2).2 b.2; unfold rdPair
 simp only
 split <;> (simp only; omega)
theorem rdLong_le (l : Bs) (p e : Nat × Int) (h : p.1 ≤ l.length) : p.1 ≤ (rdLong l p e).2.1 ∧ (rdLong l p e).2.1 ≤ l.length := by
 have a := rdHalf_le l false p.1 e.2 h; unfold rdLong
 simp only
 split
 · have b := rdPair_le l (rdHalf l false p.1 e.2).2.1 (rdHalf l false p.1 e.2).2.2 (rdHalf l false p.1 e.2).1 a.2; omega
 · split <;> (simp only; omega)
theorem rdEscape_le (l : Bs) (p : Nat) (e : Int) (h : p ≤ l.length) : p ≤ (rdEscape l p e).2.1 ∧ (rdEscape l p e).2.1 ≤ l.length := by
 have a := rdTake_le l p e h; unfold rdEscape
 simp only
 split
 · simp only; omega
 · split
   · simp only; omega
   · have b := rdLong_le l ((rdTake l p e).2.1, 0) (0, if (rdTake l p e).1 = 117 then (rdTake l p e).2.2 else rdFail (rdTake l p e).2.2 41) a.2; simp only at b; omega
theorem rdPlain_le (l : Bs) (p : Nat) (e : Int) (h : p < l.length) : p ≤ (rdPlain l p e).2.1 ∧ (rdPlain l p e).2.1 ≤ l.length ∧ (e = 0 → (rdPlain l p e).2.2 = 0 → p < (rdPlain l p e).2.1) := by
 unfold rdPlain
 split
 · refine ⟨by simp, by simp only; omega, fun he h1 => ?_⟩
   simp only [rdFail, he, if_true] at h1; omega
 · split
   · rename_i hn
     rcases next_cases (l.drop p) with e1 | ⟨r, h1, h2, h3⟩
     · rw [e1] at hn; simp at hn
     · have hl := encodeRune_length r; have := congrArg List.length h3; simp only [List.length_append, List.length_drop] at this; rw [h2]; refine ⟨by simp only; omega, by simp only; omega, fun _ _ => by simp only; omega⟩
   · split
     · refine ⟨by simp, by simp only; omega, fun he h1 => ?_⟩
       simp only [rdFail, he, if_true] at h1; omega
     · refine ⟨by simp, by simp only; omega, fun he h1 => ?_⟩
       simp only [rdFail, he, if_true] at h1; omega
theorem rdEscape_len (l : Bs) (p : Nat) (e : Int) : (rdEscape l p e).1.length ≤ 4 := by
 unfold rdEscape rdLong rdPair
 simp only
 repeat' split
 all_goals first | exact (encodeRune_length _).2 | simp
theorem rdPlain_len (l : Bs) (p : Nat) (e : Int) : (rdPlain l p e).1.length ≤ 4 := by
 unfold rdPlain
 repeat' split
 · simp
 · rename_i hn
   rcases next_cases (l.drop p) with e1 | ⟨r, h1, h2, h3⟩
   · rw [e1] at hn; simp at hn
   · have hl := encodeRune_length r
     rw [h2]; simp only [List.length_take]; omega
 · simp
 · simp
def uqGo (l : Bs) : Nat → Bs → Nat → Int → Bs × Nat × Int
  | 0, _, _, _ => ([], 0, 0)
  | n + 1, acc, p, e =>
   if e = 0 then
     if p = l.length then ([], 0, 3)
     else if bt l p = 34 then (acc, p + 1, 0)
     else if bt l p = 92 then uqGo l n (acc ++ (rdEscape l (p + 1) 0).1) (rdEscape l (p + 1) 0).2.1 (rdEscape l (p + 1) 0).2.2
     else uqGo l n (acc ++ (rdPlain l p 0).1) (rdPlain l p 0).2.1 (rdPlain l p 0).2.2
   else ([], 0, e)
theorem uqGo_succ (l : Bs) (n : Nat) (acc : Bs) (p : Nat) (e : Int) : uqGo l (n + 1) acc p e = if e = 0 then (if p = l.length then ([], 0, 3) else if bt l p = 34 then (acc, p + 1, 0)
      else if bt l p = 92 then uqGo l n (acc ++ (rdEscape l (p + 1) 0).1) (rdEscape l (p + 1) 0).2.1 (rdEscape l (p + 1) 0).2.2
      else uqGo l n (acc ++ (rdPlain l p 0).1) (rdPlain l p 0).2.1 (rdPlain l p 0).2.2) else ([], 0, e) := rfl
def unquoteD (l : Bs) : Bs × Nat × Int := uqGo l (l.length + 2) [] (rdWant l 34 0 0).1 (rdWant l 34 0 0).2
end Go.Ms
