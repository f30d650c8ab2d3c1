/- The reader of literals, as plain functions: place and error go along. Words for memory of one's own: all blocks but one stand; a struct of three fields behind a pointer. Small facts for the walks. -/
import Derived.Lib.ValidU
import Derived.Lib.RuneBytes
import Derived.Lib.DecodeN
import Derived.Below
import Derived.Lib.OthersKept
import Derived.Deep.Draws
import Derived.Test.YtikpmmipopmjaaaGreatDoorRows
import Derived.Test.YtikpmmipopmjaaaGreatDoorShelfY
import Derived.WalkKit
import Derived.WalkSpells
import Derived.WalkLawsBesides
import Derived.Handy
import Derived.Outline
import Derived.Laws.BytesArg
import Derived.Lib.Hide
import Derived.Deep.QuietTactic
import Derived.BigQuiet
set_option linter.unusedVariables false
namespace Go.Ms
open Go.Lib
abbrev Bs := List UInt8
def isRune (r : Int) : Bool := (decide (0 ≤ r) && decide (r < 55296)) || (decide (57344 ≤ r) && decide (r ≤ 1114111))
theorem isRune_iff (r : Int) : isRune r = true ↔ (0 ≤ r ∧ r < 55296) ∨ (57344 ≤ r ∧ r ≤ 1114111) := by simp [isRune]
def bt (l : Bs) (i : Nat) : Nat := (l.getD i 0).toNat
theorem bt_lt (l : Bs) (i : Nat) : bt l i < 256 := UInt8.toNat_lt _
theorem get!_list (l : Bs) (i : Nat) : ByteArray.get! ⟨l.toArray⟩ i = l.getD i 0 := by
 show (l.toArray)[i]! = _
 simp [List.getD_eq_getElem?_getD]
 rfl
theorem decodeL_eq (l : Bs) : decodeL l = decodeN l.length (bt l 0) (bt l 1) (bt l 2) (bt l 3) := by
 unfold decodeL; rw [decode_at]; simp only [get!_list, bt, Nat.zero_add, Nat.sub_zero]; rfl
theorem toU8_toNat {x : Int} (h0 : 0 ≤ x) (h1 : x < 256) : ((x.toNat.toUInt8).toNat : Int) = x := by
 simp [Nat.toUInt8]; omega
theorem u8_ext {a : UInt8} {x : Int} (h : (a.toNat : Int) = x) : x.toNat.toUInt8 = a := by
 subst h
 simp [Nat.toUInt8]
set_option maxRecDepth 100000 in
theorem dec_sound (l : Bs) (hl : l ≠ []) (h : ¬ ((decodeL l).1 = 65533 ∧ (decodeL l).2 < 2)) :
    isRune (decodeL l).1 = true ∧ (decodeL l).2 ≤ l.length ∧ l.take (decodeL l).2 = encodeRune (decodeL l).1 := by
 obtain ⟨p, hp⟩ : ∃ p, decodeL l = p := ⟨_, rfl⟩; rw [hp] at h ⊢; rw [decodeL_eq] at hp; obtain ⟨a, l, rfl⟩ := List.exists_cons_of_ne_nil hl; have ha := UInt8.toNat_lt a; have e0 : bt (a :: l) 0 = a.toNat := rfl; rw [e0] at hp; unfold decodeN at hp
 split at hp
 · rename_i c
   subst hp; refine ⟨by rw [isRune_iff]; simp only; omega, by simp, ?_⟩
   simp only
   unfold encodeRune; rw [encodeRuneZ_one (by omega) (by omega)]
   simp [Nat.toUInt8]
 split at hp
 · rename_i c c1
   obtain ⟨p1, p2, p3⟩ := c1
   match l, p2 with
   | b :: l, _ =>
    have e1 : bt (a :: b :: l) 1 = b.toNat := rfl; rw [e1] at hp p3; have hb := UInt8.toNat_lt b
    split at hp
    · subst hp; refine ⟨by rw [isRune_iff]; simp only; omega, by simp, ?_⟩
      simp only
      unfold encodeRune; rw [encodeRuneZ_two (by omega) (by omega)]; simp only [List.take_succ_cons, List.take_zero, List.map_cons, List.map_nil]; rw [u8_ext (a := a) (by omega), u8_ext (a := b) (by omega)]
    · subst hp; exact absurd ⟨rfl, by decide⟩ h
 split at hp
 · rename_i c c1 c2
   obtain ⟨p1, ⟨p2, p3⟩, p4, p5⟩ := c2
   match l, p4 with
   | b :: d :: l, _ =>
    have e1 : bt (a :: b :: d :: l) 1 = b.toNat := rfl; have e2 : bt (a :: b :: d :: l) 2 = d.toNat := rfl; rw [e1] at hp p3; rw [e2] at hp p5; have hb := UInt8.toNat_lt b; have hd := UInt8.toNat_lt d
    split at hp
    · subst hp; refine ⟨by rw [isRune_iff]; simp only; omega, by simp, ?_⟩
      simp only
      unfold encodeRune; rw [encodeRuneZ_three (by omega)]; simp only [List.take_succ_cons, List.take_zero, List.map_cons, List.map_nil]; rw [u8_ext (a := a) (by omega), u8_ext (a := b) (by omega), u8_ext (a := d) (by omega)]
    · subst hp; exact absurd ⟨rfl, by decide⟩ h
 split at hp
 · rename_i c c1 c2 c3
   obtain ⟨p1, ⟨p2, p3⟩, ⟨p4, p5⟩, p6, p7⟩ := c3
   match l, p6 with
   | b :: d :: f :: l, _ =>
    have e1 : bt (a :: b :: d :: f :: l) 1 = b.toNat := rfl; have e2 : bt (a :: b :: d :: f :: l) 2 = d.toNat := rfl; have e3 : bt (a :: b :: d :: f :: l) 3 = f.toNat := rfl; rw [e1] at hp p3; rw [e2] at hp p5; rw [e3] at hp p7; have hb := UInt8.toNat_lt b; have hd := UInt8.toNat_lt d; have hf := UInt8.toNat_lt f
    split at hp
    · subst hp; refine ⟨by rw [isRune_iff]; simp only; omega, by simp, ?_⟩
      simp only
      unfold encodeRune; rw [encodeRuneZ_four (by omega) (by omega)]; simp only [List.take_succ_cons, List.take_zero, List.map_cons, List.map_nil]; rw [u8_ext (a := a) (by omega), u8_ext (a := b) (by omega), u8_ext (a := d) (by omega), u8_ext (a := f) (by omega)]
    · subst hp; exact absurd ⟨rfl, by decide⟩ h
 · subst hp; exact absurd ⟨rfl, by decide⟩ h
theorem toU8_nat {x : Int} (h0 : 0 ≤ x) (h1 : x < 256) : (x.toNat.toUInt8).toNat = x.toNat := by
 have := toU8_toNat h0 h1; omega
set_option maxRecDepth 100000 in
theorem dec_enc (r : Int) (m : Bs) (h : isRune r = true) : decodeL (encodeRune r ++ m) = (r.toNat, (encodeRune r).length) := by
 rw [isRune_iff] at h; rw [decodeL_eq]; unfold encodeRune
 by_cases c0 : r ≤ 127
 · rw [encodeRuneZ_one (by omega) c0]; simp only [List.map_cons, List.map_nil, List.cons_append, List.nil_append, bt, List.getD_cons_zero, List.getD_cons_succ, List.length_cons, List.length_nil]; rw [toU8_nat (by omega) (by omega)]; unfold decodeN; rw [if_pos (by omega)]
 by_cases c1 : r ≤ 2047
 · rw [encodeRuneZ_two (by omega) c1]; simp only [List.map_cons, List.map_nil, List.cons_append, List.nil_append, bt, List.getD_cons_zero, List.getD_cons_succ, List.length_cons, List.length_nil]; rw [toU8_nat (by omega) (by omega), toU8_nat (by omega) (by omega)]; unfold decodeN; rw [if_neg (by omega), if_pos ⟨by omega, by omega, by omega⟩, if_pos (by omega)]
   apply Prod.ext <;> simp only <;> omega
 by_cases c2 : r ≤ 65535
 · rw [encodeRuneZ_three (by omega)]; simp only [List.map_cons, List.map_nil, List.cons_append, List.nil_append, bt, List.getD_cons_zero, List.getD_cons_succ, List.length_cons, List.length_nil]; rw [toU8_nat (by omega) (by omega), toU8_nat (by omega) (by omega), toU8_nat (by omega) (by omega)]; unfold decodeN; rw [if_neg (by omega), if_neg (by omega), if_pos ⟨by omega, ⟨by omega, by omega⟩, by omega, by omega⟩, if_pos (by omega)]
   apply Prod.ext <;> simp only <;> omega
 · rw [encodeRuneZ_four (by omega) (by omega)]; simp only [List.map_cons, List.map_nil, List.cons_append, List.nil_append, bt, List.getD_cons_zero, List.getD_cons_succ, List.length_cons, List.length_nil]; rw [toU8_nat (by omega) (by omega), toU8_nat (by omega) (by omega), toU8_nat (by omega) (by omega), toU8_nat (by omega) (by omega)]; unfold decodeN; rw [if_neg (by omega), if_neg (by omega), if_neg (by omega), if_pos ⟨by omega, ⟨by omega, by omega⟩, ⟨by omega, by omega⟩, by omega, by omega⟩, if_pos (by omega)]
   apply Prod.ext <;> simp only <;> omega
end Go.Ms
namespace Go.Ms
open Go.Lib
def put (r : Int) : Bs := if isRune r = true then encodeRune r else []
theorem put_rune {r : Int} (h : isRune r = true) : put r = encodeRune r := by simp [put, h]
theorem put_none {r : Int} (h : isRune r = false) : put r = [] := by simp [put, h]
def nextD (l : Bs) : Nat × Nat × Bool := if l = [] then (0, 0, false) else if (decodeL l).1 = 65533 ∧ (decodeL l).2 < 2 then (0, 0, false) else ((decodeL l).1, (decodeL l).2, true)
def numberD (l : Bs) : Int :=
  if l.length = 1 then bt l 0
  else if l.length = 2 then 64 * (bt l 0 % 32 : Nat) + (bt l 1 % 64 : Nat)
  else if l.length = 3 then 64 * (64 * (bt l 0 % 16 : Nat) + (bt l 1 % 64 : Nat)) + (bt l 2 % 64 : Nat)
  else 64 * (64 * (64 * (bt l 0 % 8 : Nat) + (bt l 1 % 64 : Nat)) + (bt l 2 % 64 : Nat)) + (bt l 3 % 64 : Nat)
theorem encodeRune_length (r : Int) : 1 ≤ (encodeRune r).length ∧ (encodeRune r).length ≤ 4 := by
 have := encodeRuneZ_length r
 simpa [encodeRune] using this
set_option maxRecDepth 100000 in
theorem number_enc (r : Int) (h : isRune r = true) : numberD (encodeRune r) = r := by
 rw [isRune_iff] at h; unfold encodeRune
 by_cases c0 : r ≤ 127
 · rw [encodeRuneZ_one (by omega) c0]; simp only [numberD, List.map_cons, List.map_nil, bt, List.getD_cons_zero, List.getD_cons_succ, List.length_cons, List.length_nil]; rw [toU8_nat (by omega) (by omega)]
   simp; omega
 by_cases c1 : r ≤ 2047
 · rw [encodeRuneZ_two (by omega) c1]; simp only [numberD, List.map_cons, List.map_nil, bt, List.getD_cons_zero, List.getD_cons_succ, List.length_cons, List.length_nil]; rw [toU8_nat (by omega) (by omega), toU8_nat (by omega) (by omega)]
   simp; omega
 by_cases c2 : r ≤ 65535
 · rw [encodeRuneZ_three (by omega)]; simp only [numberD, List.map_cons, List.map_nil, bt, List.getD_cons_zero, List.getD_cons_succ, List.length_cons, List.length_nil]; rw [toU8_nat (by omega) (by omega), toU8_nat (by omega) (by omega), toU8_nat (by omega) (by omega)]
   simp; omega
 · rw [encodeRuneZ_four (by omega) (by omega)]; simp only [numberD, List.map_cons, List.map_nil, bt, List.getD_cons_zero, List.getD_cons_succ, List.length_cons, List.length_nil]; rw [toU8_nat (by omega) (by omega), toU8_nat (by omega) (by omega), toU8_nat (by omega) (by omega), toU8_nat (by omega) (by omega)]
   simp; omega
def hit (l : Bs) (n : Nat) : Bool := isRune (numberD (l.take n)) && put (numberD (l.take n)) == l.take n
theorem hit_iff (l : Bs) (n : Nat) : hit l n = true ↔ isRune (numberD (l.take n)) = true ∧ encodeRune (numberD (l.take n)) = l.take n := by
 unfold hit
 constructor
 · intro h
   simp only [Bool.and_eq_true, beq_iff_eq] at h; exact ⟨h.1, by rw [← put_rune h.1]; exact h.2⟩
 · intro h
   simp only [Bool.and_eq_true, beq_iff_eq]; exact ⟨h.1, by rw [put_rune h.1]; exact h.2⟩
theorem isRune_nat {r : Int} (h : isRune r = true) : ((r.toNat : Nat) : Int) = r := by rw [isRune_iff] at h; omega
theorem enc_65533 : (encodeRune 65533).length = 3 := by decide
theorem next_enc (r : Int) (m : Bs) (h : isRune r = true) : nextD (encodeRune r ++ m) = (r.toNat, (encodeRune r).length, true) := by
 have hl := encodeRune_length r
 have hne : encodeRune r ++ m ≠ [] := by intro e; rw [List.append_eq_nil_iff] at e; rw [e.1] at hl; simp at hl
 unfold nextD; rw [if_neg hne, dec_enc r m h, if_neg]
 intro ⟨h1, h2⟩
 simp only at h1 h2
 have : r = 65533 := by have := isRune_nat h; omega
 rw [this, enc_65533] at h2; omega
theorem next_cases (l : Bs) : nextD l = (0, 0, false) ∨ ∃ r : Int, isRune r = true ∧ nextD l = (r.toNat, (encodeRune r).length, true) ∧ l = encodeRune r ++ l.drop (encodeRune r).length := by
 unfold nextD
 by_cases hl : l = []
 · exact .inl (by rw [if_pos hl])
 rw [if_neg hl]
 by_cases h : (decodeL l).1 = 65533 ∧ (decodeL l).2 < 2
 · exact .inl (by rw [if_pos h])
 · rw [if_neg h]; obtain ⟨a, b, c⟩ := dec_sound l hl h
   have e : (encodeRune (decodeL l).1).length = (decodeL l).2 := by rw [← c]; simp; omega
   refine .inr ⟨((decodeL l).1 : Nat), a, by rw [e]; simp, ?_⟩; rw [e, ← c]
   simp
theorem hit_next (l : Bs) (n : Nat) (hn : n ≤ l.length) (h : hit l n = true) : nextD l = ((numberD (l.take n)).toNat, n, true) := by
 rw [hit_iff] at h
 have e : l = encodeRune (numberD (l.take n)) ++ l.drop n := by rw [h.2]; simp
 have el : (encodeRune (numberD (l.take n))).length = n := by rw [h.2]; simp; omega
 have := next_enc _ (l.drop n) h.1; rw [← e, el] at this; exact this
theorem no_hit (l : Bs) (h : ∀ n, 1 ≤ n → n ≤ 4 → n ≤ l.length → hit l n = false) : nextD l = (0, 0, false) := by
 rcases next_cases l with e | ⟨r, h1, h2, h3⟩
 · exact e
 · exfalso
   have hl := encodeRune_length r
   have hll : (encodeRune r).length ≤ l.length := by have := congrArg List.length h3; rw [List.length_append] at this; omega
   have ht : l.take (encodeRune r).length = encodeRune r := by have := congrArg (List.take (encodeRune r).length) h3; rw [this]; simp
   have := h _ hl.1 hl.2 hll; rw [Bool.eq_false_iff] at this
   apply this
   rw [hit_iff, ht, number_enc r h1]; exact ⟨h1, rfl⟩
end Go.Ms
namespace Go.Ms
open Go.Lib
def rdFail (e x : Int) : Int := if e = 0 then x else e
def rdTake (l : Bs) (p : Nat) (e : Int) : Int × Nat × Int := if e = 0 then (if p = l.length then (0, p, 3) else ((bt l p : Nat), p + 1, 0)) else (0, p, e)
def rdWant (l : Bs) (c : Int) (p : Nat) (e : Int) : Nat × Int := ((rdTake l p e).2.1, if (rdTake l p e).1 = c then (rdTake l p e).2.2 else rdFail (rdTake l p e).2.2 41)
def hexv (c : Int) : Int := if 48 ≤ c ∧ c ≤ 57 then c - 48 else if 65 ≤ c ∧ c ≤ 70 then c - 55 else if 97 ≤ c ∧ c ≤ 102 then c - 87 else 16
def rdDigit (l : Bs) (p : Nat) (e : Int) : Int × Nat × Int :=
  if hexv (rdTake l p e).1 = 16 then (0, (rdTake l p e).2.1, rdFail (rdTake l p e).2.2 41) else (hexv (rdTake l p e).1, (rdTake l p e).2.1, (rdTake l p e).2.2)
theorem rdTake_bd (l : Bs) (p : Nat) (e : Int) : 0 ≤ (rdTake l p e).1 ∧ (rdTake l p e).1 < 256 := by
 have := bt_lt l p; unfold rdTake
 repeat' split
 all_goals (simp only; omega)
theorem rdTake_le (l : Bs) (p : Nat) (e : Int) (h : p ≤ l.length) : p ≤ (rdTake l p e).2.1 ∧ (rdTake l p e).2.1 ≤ l.length := by
 unfold rdTake
 repeat' split
 all_goals (simp only; omega)
theorem hexv_bd (c : Int) : 0 ≤ hexv c ∧ hexv c ≤ 16 := by
 unfold hexv
 repeat' split
 all_goals omega
theorem rdDigit_bd (l : Bs) (p : Nat) (e : Int) : 0 ≤ (rdDigit l p e).1 ∧ (rdDigit l p e).1 < 16 := by
 have := hexv_bd (rdTake l p e).1; unfold rdDigit
 split
 all_goals (simp only; omega)
theorem rdDigit_le (l : Bs) (p : Nat) (e : Int) (h : p ≤ l.length) : p ≤ (rdDigit l p e).2.1 ∧ (rdDigit l p e).2.1 ≤ l.length := by
 have := rdTake_le l p e h; unfold rdDigit
 split
 all_goals (simp only; omega)
def h0 (l : Bs) (second : Bool) (p : Nat) (e : Int) : Int × Nat × Int :=
  ((rdDigit l p e).1, (rdDigit l p e).2.1, if second = true ∧ ¬ (rdDigit l p e).1 = 13 then rdFail (rdDigit l p e).2.2 41 else (rdDigit l p e).2.2)
def h1 (l : Bs) (second : Bool) (p : Nat) (e : Int) : Int × Nat × Int :=
  (16 * (h0 l second p e).1 + (rdDigit l (h0 l second p e).2.1 (h0 l second p e).2.2).1, (rdDigit l (h0 l second p e).2.1 (h0 l second p e).2.2).2.1,
   if second = decide (220 ≤ 16 * (h0 l second p e).1 + (rdDigit l (h0 l second p e).2.1 (h0 l second p e).2.2).1 ∧ 16 * (h0 l second p e).1 + (rdDigit l (h0 l second p e).2.1 (h0 l second p e).2.2).1 ≤ 223)
   then (rdDigit l (h0 l second p e).2.1 (h0 l second p e).2.2).2.2 else rdFail (rdDigit l (h0 l second p e).2.1 (h0 l second p e).2.2).2.2 41)
def h2 (l : Bs) (second : Bool) (p : Nat) (e : Int) : Int × Nat × Int :=
  (16 * (h1 l second p e).1 + (rdDigit l (h1 l second p e).2.1 (h1 l second p e).2.2).1, (rdDigit l (h1 l second p e).2.1 (h1 l second p e).2.2).2.1, (rdDigit l (h1 l second p e).2.1 (h1 l second p e).2.2).2.2)
def rdHalf (l : Bs) (second : Bool) (p : Nat) (e : Int) : Int × Nat × Int :=
  (16 * (h2 l second p e).1 + (rdDigit l (h2 l second p e).2.1 (h2 l second p e).2.2).1, (rdDigit l (h2 l second p e).2.1 (h2 l second p e).2.2).2.1, (rdDigit l (h2 l second p e).2.1 (h2 l second p e).2.2).2.2)
theorem h0_bd (l : Bs) (second : Bool) (p : Nat) (e : Int) : 0 ≤ (h0 l second p e).1 ∧ (h0 l second p e).1 < 16 := rdDigit_bd l p e
theorem h0_le (l : Bs) (second : Bool) (p : Nat) (e : Int) (h : p ≤ l.length) : p ≤ (h0 l second p e).2.1 ∧ (h0 l second p e).2.1 ≤ l.length := rdDigit_le l p e h
theorem h1_bd (l : Bs) (second : Bool) (p : Nat) (e : Int) : 0 ≤ (h1 l second p e).1 ∧ (h1 l second p e).1 < 256 := by
 have := h0_bd l second p e; have := rdDigit_bd l (h0 l second p e).2.1 (h0 l second p e).2.2
 unfold h1; simp only; omega
theorem h1_le (l : Bs) (second : Bool) (p : Nat) (e : Int) (h : p ≤ l.length) : p ≤ (h1 l second p e).2.1 ∧ (h1 l second p e).2.1 ≤ l.length := by
 have a := h0_le l second p e h; have := rdDigit_le l (h0 l second p e).2.1 (h0 l second p e).2.2 a.2
 unfold h1; simp only; omega
theorem h2_bd (l : Bs) (second : Bool) (p : Nat) (e : Int) : 0 ≤ (h2 l second p e).1 ∧ (h2 l second p e).1 < 4096 := by
 have := h1_bd l second p e; have := rdDigit_bd l (h1 l second p e).2.1 (h1 l second p e).2.2
 unfold h2; simp only; omega
theorem h2_le (l : Bs) (second : Bool) (p : Nat) (e : Int) (h : p ≤ l.length) : p ≤ (h2 l second p e).2.1 ∧ (h2 l second p e).2.1 ≤ l.length := by
 have a := h1_le l second p e h; have := rdDigit_le l (h1 l second p e).2.1 (h1 l second p e).2.2 a.2
 unfold h2; simp only; omega
theorem rdHalf_bd (l : Bs) (second : Bool) (p : Nat) (e : Int) : 0 ≤ (rdHalf l second p e).1 ∧ (rdHalf l second p e).1 < 65536 := by
 have := h2_bd l second p e; have := rdDigit_bd l (h2 l second p e).2.1 (h2 l second p e).2.2
 unfold rdHalf; simp only; omega
theorem rdHalf_le (l : Bs) (second : Bool) (p : Nat) (e : Int) (h : p ≤ l.length) : p ≤ (rdHalf l second p e).2.1 ∧ (rdHalf l second p e).2.1 ≤ l.length := by
 have a := h2_le l second p e h; have := rdDigit_le l (h2 l second p e).2.1 (h2 l second p e).2.2 a.2
 unfold rdHalf; simp only; omega
def fullD (l : Bs) : Bool :=
  decide (firstT (bt l 0) % 8 ≤ l.length) || (decide (1 < l.length) && (decide (bt l 1 < accLo (firstT (bt l 0) / 16)) || decide (accHi (firstT (bt l 0) / 16) < bt l 1))) || (decide (2 < l.length) && (decide (bt l 2 < 128) || decide (191 < bt l 2)))
def rdPlain (l : Bs) (p : Nat) (e : Int) : Bs × Nat × Int :=
  if bt l p < 32 then ([], p, rdFail e 41)
  else if (nextD (l.drop p)).2.2 = true then ((l.drop p).take (nextD (l.drop p)).2.1, p + (nextD (l.drop p)).2.1, e)
  else if fullD (l.drop p) = true then ([], p, rdFail e 40) else ([], p, rdFail e 3)
def unesc (c : Int) : Option Int :=
  if c = 34 then some 34 else if c = 92 then some 92 else if c = 98 then some 8 else if c = 102 then some 12 else if c = 110 then some 10 else if c = 114 then some 13 else if c = 116 then some 9 else none
def rdPair (l : Bs) (p3 : Nat) (e3 n : Int) : Bs × Nat × Int :=
  let w1 := rdWant l 92 p3 e3
  let w2 := rdWant l 117 w1.1 w1.2
  let h := rdHalf l true w2.1 w2.2
  if h.2.2 = 0 then (encodeRune (65536 + (n - 55296) * 1024 + h.1 - 56320), h.2.1, h.2.2) else ([], h.2.1, h.2.2)
def rdLong (l : Bs) (p e : Nat × Int) : Bs × Nat × Int :=
  let h := rdHalf l false p.1 e.2
  if 55296 ≤ h.1 ∧ h.1 < 56320 then rdPair l h.2.1 h.2.2 h.1
  else if h.2.2 = 0 then (encodeRune h.1, h.2.1, h.2.2) else ([], h.2.1, h.2.2)
def rdEscape (l : Bs) (p : Nat) (e : Int) : Bs × Nat × Int :=
  let t := rdTake l p e
  if t.1 = 47 then ([47], t.2.1, t.2.2)
  else match unesc t.1 with
   | some k => (encodeRune k, t.2.1, t.2.2)
   | none => rdLong l (t.2.1, 0) (0, if t.1 = 117 then t.2.2 else rdFail t.2.2 41)
theorem rdWant_le (l : Bs) (c : Int) (p : Nat) (e : Int) (h : p ≤ l.length) : p ≤ (rdWant l c p e).1 ∧ (rdWant l c p e).1 ≤ l.length := rdTake_le l p e h
theorem rdPair_le (l : Bs) (p3 : Nat) (e3 n : Int) (h : p3 ≤ l.length) : p3 ≤ (rdPair l p3 e3 n).2.1 ∧ (rdPair l p3 e3 n).2.1 ≤ l.length := by
 have a := rdWant_le l 92 p3 e3 h; have b := rdWant_le l 117 (rdWant l 92 p3 e3).1 (rdWant l 92 p3 e3).2 a.2; have c := rdHalf_le l true (rdWant l 117 (rdWant l 92 p3 e3).1 (rdWant l 92 p3 e3).2).1 (rdWant l 117 (rdWant l 92 p3 e3).1 (rdWant l 92 p3 e3).2).2 b.2; unfold rdPair
 simp only
 split <;> (simp only; omega)
theorem rdLong_le (l : Bs) (p e : Nat × Int) (h : p.1 ≤ l.length) : p.1 ≤ (rdLong l p e).2.1 ∧ (rdLong l p e).2.1 ≤ l.length := by
 have a := rdHalf_le l false p.1 e.2 h; unfold rdLong
 simp only
 split
 · have b := rdPair_le l (rdHalf l false p.1 e.2).2.1 (rdHalf l false p.1 e.2).2.2 (rdHalf l false p.1 e.2).1 a.2; omega
 · split <;> (simp only; omega)
theorem rdEscape_le (l : Bs) (p : Nat) (e : Int) (h : p ≤ l.length) : p ≤ (rdEscape l p e).2.1 ∧ (rdEscape l p e).2.1 ≤ l.length := by
 have a := rdTake_le l p e h; unfold rdEscape
 simp only
 split
 · simp only; omega
 · split
   · simp only; omega
   · have b := rdLong_le l ((rdTake l p e).2.1, 0) (0, if (rdTake l p e).1 = 117 then (rdTake l p e).2.2 else rdFail (rdTake l p e).2.2 41) a.2; simp only at b; omega
theorem rdPlain_le (l : Bs) (p : Nat) (e : Int) (h : p < l.length) : p ≤ (rdPlain l p e).2.1 ∧ (rdPlain l p e).2.1 ≤ l.length ∧ (e = 0 → (rdPlain l p e).2.2 = 0 → p < (rdPlain l p e).2.1) := by
 unfold rdPlain
 split
 · refine ⟨by simp, by simp only; omega, fun he h1 => ?_⟩
   simp only [rdFail, he, if_true] at h1; omega
 · split
   · rename_i hn
     rcases next_cases (l.drop p) with e1 | ⟨r, h1, h2, h3⟩
     · rw [e1] at hn; simp at hn
     · have hl := encodeRune_length r; have := congrArg List.length h3; simp only [List.length_append, List.length_drop] at this; rw [h2]; refine ⟨by simp only; omega, by simp only; omega, fun _ _ => by simp only; omega⟩
   · split
     · refine ⟨by simp, by simp only; omega, fun he h1 => ?_⟩
       simp only [rdFail, he, if_true] at h1; omega
     · refine ⟨by simp, by simp only; omega, fun he h1 => ?_⟩
       simp only [rdFail, he, if_true] at h1; omega
theorem rdEscape_len (l : Bs) (p : Nat) (e : Int) : (rdEscape l p e).1.length ≤ 4 := by
 unfold rdEscape rdLong rdPair
 simp only
 repeat' split
 all_goals first | exact (encodeRune_length _).2 | simp
theorem rdPlain_len (l : Bs) (p : Nat) (e : Int) : (rdPlain l p e).1.length ≤ 4 := by
 unfold rdPlain
 repeat' split
 · simp
 · rename_i hn
   rcases next_cases (l.drop p) with e1 | ⟨r, h1, h2, h3⟩
   · rw [e1] at hn; simp at hn
   · have hl := encodeRune_length r
     rw [h2]; simp only [List.length_take]; omega
 · simp
 · simp
def uqGo (l : Bs) : Nat → Bs → Nat → Int → Bs × Nat × Int
  | 0, _, _, _ => ([], 0, 0)
  | n + 1, acc, p, e =>
   if e = 0 then
     if p = l.length then ([], 0, 3)
     else if bt l p = 34 then (acc, p + 1, 0)
     else if bt l p = 92 then uqGo l n (acc ++ (rdEscape l (p + 1) 0).1) (rdEscape l (p + 1) 0).2.1 (rdEscape l (p + 1) 0).2.2
     else uqGo l n (acc ++ (rdPlain l p 0).1) (rdPlain l p 0).2.1 (rdPlain l p 0).2.2
   else ([], 0, e)
theorem uqGo_succ (l : Bs) (n : Nat) (acc : Bs) (p : Nat) (e : Int) : uqGo l (n + 1) acc p e = if e = 0 then (if p = l.length then ([], 0, 3) else if bt l p = 34 then (acc, p + 1, 0)
      else if bt l p = 92 then uqGo l n (acc ++ (rdEscape l (p + 1) 0).1) (rdEscape l (p + 1) 0).2.1 (rdEscape l (p + 1) 0).2.2
      else uqGo l n (acc ++ (rdPlain l p 0).1) (rdPlain l p 0).2.1 (rdPlain l p 0).2.2) else ([], 0, e) := rfl
def unquoteD (l : Bs) : Bs × Nat × Int := uqGo l (l.length + 2) [] (rdWant l 34 0 0).1 (rdWant l 34 0 0).2
end Go.Ms
namespace Go.Ms
open Go.RowKit Go.Lib
structure Kept (R : Nat) (w w' : World) : Prop where
  os : w'.os = w.os
  tape : w'.tape = w.tape
  output : w'.output = w.output
  size : w.heap.size ≤ w'.heap.size
  block : ∀ k, k < w.heap.size → k ≠ R → w'.heap[k]? = w.heap[k]?
namespace Kept
variable {R B : Nat} {a w w' : World}
theorem refl (R : Nat) (w : World) : Kept R w w := ⟨rfl, rfl, rfl, Nat.le_refl _, fun _ _ _ => rfl⟩
theorem trans (h : Kept R a w) (k : Kept R w w') : Kept R a w' :=
  ⟨k.os.trans h.os, k.tape.trans h.tape, k.output.trans h.output, Nat.le_trans h.size k.size, fun i hi hr => (k.block i (Nat.lt_of_lt_of_le hi h.size) hr).trans (h.block i hi hr)⟩
theorem of_below (h : Below w.heap.size w w') : Kept R w w' := ⟨h.os, h.tape, h.output, h.size, fun k hk _ => h.block k hk⟩
theorem drewN (h : Kept R a w) (n : Nat) : Kept R a (w.drewN n) := ⟨h.os, h.tape, h.output, h.size, h.block⟩
theorem drew (h : Kept R a w) : Kept R a w.drew := ⟨h.os, h.tape, h.output, h.size, h.block⟩
theorem alloc (h : Kept R a w) (o : Obj) : Kept R a (w.alloc o) :=
  h.trans (of_below ((Below.refl _ w).alloc (Nat.le_refl _) o))
theorem setCell (h : Kept R a w) {p : Addr} (hp : p.block = R) (u : Value) : Kept R a (w.setCell p u) :=
  h.trans ⟨rfl, rfl, rfl, by simp [World.setCell], fun k _ hk => Below.heap_setCell _ _ _ _ (by omega)⟩
theorem below (h : Kept R w w') (hR : B ≤ R) (hB : B ≤ w.heap.size) : Below B w w' := ⟨h.os, h.tape, h.output, h.size, fun k hk => h.block k (by omega) (by omega)⟩
end Kept
theorem ms_drewN {B : Nat} {a w : World} (h : Below B a w) (n : Nat) : Below B a (w.drewN n) := ⟨h.os, h.tape, h.output, h.size, h.block⟩
def Tri (T b : Nat) (x y z : Value) (w : World) : Prop := w.heap[b]? = some (.cells #[x, y, z] T (0, 0))
namespace Tri
variable {T b R B : Nat} {x y z u : Value} {w w' : World}
theorem lt (h : Tri T b x y z w) : b < w.heap.size := by
 rcases Nat.lt_or_ge b w.heap.size with hl | hg
 · exact hl
 · unfold Tri at h; rw [Array.getElem?_eq_none hg] at h; cases h
theorem c0 (h : Tri T b x y z w) : w.cell? ⟨b, 0, none⟩ = some x := by rw [Lib.cell_of_heap h]; rfl
theorem c1 (h : Tri T b x y z w) : w.cell? ⟨b, 1, none⟩ = some y := by rw [Lib.cell_of_heap h]; rfl
theorem c2 (h : Tri T b x y z w) : w.cell? ⟨b, 2, none⟩ = some z := by rw [Lib.cell_of_heap h]; rfl
theorem fr (h : Tri T b x y z w) (i : Nat) : w.frozen? ⟨b, i, none⟩ = false := Lib.frozen_of_heap h i
theorem set1 (h : Tri T b x y z w) (u : Value) : Tri T b x u z (w.setCell ⟨b, 1, none⟩ u) := by
 unfold Tri at *; simp [World.setCell, Array.getElem?_modify, h]
theorem set2 (h : Tri T b x y z w) (u : Value) : Tri T b x y u (w.setCell ⟨b, 2, none⟩ u) := by
 unfold Tri at *; simp [World.setCell, Array.getElem?_modify, h]
theorem drew (h : Tri T b x y z w) : Tri T b x y z w.drew := h
theorem drewN (h : Tri T b x y z w) (n : Nat) : Tri T b x y z (w.drewN n) := h
theorem alloc (h : Tri T b x y z w) (o : Obj) : Tri T b x y z (w.alloc o) := (Below.heap_alloc w o b h.lt).trans h
theorem below (h : Tri T b x y z w) (hb : Below B w w') (hB : b < B) : Tri T b x y z w' := (hb.block b hB).trans h
theorem kept (h : Tri T b x y z w) (hb : Kept R w w') (hB : b ≠ R) : Tri T b x y z w' := (hb.block b h.lt hB).trans h
theorem others {e : TypeId} {b' : Nat} (h : Tri T b x y z w) (hb : OthersKept e (some b') w w') (hB : b ≠ b') (hT : T ≠ e) : Tri T b x y z w' :=
  hb b _ h (by intro e1; exact hB (Option.some.inj e1)) (by intro c fz e1; injection e1 with _ e2; exact hT e2)
end Tri
structure RdP (T b : Nat) (s : ByteArray) (p : Nat) (e : Int) (v : Value) (w : World) (en : Ending) (w' : World) : Prop where
  ret : en = .returned v
  tri : Tri T b (.string s) (.int .i64 p) (.int .i64 e) w'
  kept : Kept b w w'
theorem bld_keep {T e : TypeId} {B b : Nat} {bs : List Value} {w w' : World} (h : IsBuilderF T e B b bs w) (hk : ∀ (k : Nat) (c : Array Value) (t : TypeId) (fz : Nat × Nat), w.heap[k]? = some (Obj.cells c t fz) → (t = T ∨ t = e) → w'.heap[k]? = w.heap[k]?) :
    IsBuilderF T e B b bs w' := by
 have one : ∀ p, BuilderAtF T e B b p bs w → BuilderAtF T e B b p bs w' := by
  intro p ⟨hB, v, hb, hown, hne⟩
  refine ⟨hB, v, (hk b _ _ _ hb (.inl rfl)).trans hb, ⟨hown.1, ?_⟩, hne⟩
  rcases hown.2 with hn | ⟨g, cap, cur, fz, hv, hbg, hg, rest⟩
  · exact .inl hn
  · exact .inr ⟨g, cap, cur, fz, hv, hbg, (hk g _ _ _ hg (.inr rfl)).trans hg, rest⟩
 exact h.elim (fun x => .inl (one _ x)) (fun x => .inr (one _ x))
theorem bld_kept {T e : TypeId} {B b R : Nat} {bs : List Value} {w w' : World} (h : IsBuilderF T e B b bs w) (hk : Kept R w w') {T' : Nat} {x y z : Value} (hR : Tri T' R x y z w) (h1 : T' ≠ T) (h2 : T' ≠ e) : IsBuilderF T e B b bs w' := by
 refine bld_keep h (fun k c t fz hc ht => ?_); have hlt : k < w.heap.size := (Array.getElem?_eq_some_iff.1 hc).1; refine hk.block k hlt (fun e1 => ?_); subst e1; unfold Tri at hR; rw [hc] at hR
 injection hR with hR
 injection hR with _ e2
 rcases ht with rfl | rfl
 · exact h1 e2.symm
 · exact h2 e2.symm
theorem bld_below {T e : TypeId} {B b : Nat} {bs : List Value} {w w' : World} (h : IsBuilderF T e B b bs w) (hk : Below w.heap.size w w') : IsBuilderF T e B b bs w' :=
  bld_keep h (fun k _ _ _ hc _ => hk.block k (Array.getElem?_eq_some_iff.1 hc).1)
end Go.Ms
namespace Go.Proofs.YtikpmmipopmjaaaGreatDoor
open Go.RowKit Go.Ms Go.Lib
theorem strNums_enc (r : Int) : strOfNums (encodeRuneZ r) = ⟨(encodeRune r).toArray⟩ := by
 unfold strOfNums encodeRune; rfl
theorem conv_new {P : Program} (w : World) (n : Nat) (hn : n = w.heap.size) (src e : TypeId) (hs : P.underlying src = some (.slice e)) (he : P.underlying e = some (.int .u8)) (ns : List Int) (dst : TypeId) (hd : P.underlying dst = some .string) :
    (convert src dst (.slice (some ⟨n, 0, none⟩) ns.length ns.length)).run P (w.alloc (.cells (ns.map (Value.int .u8)).toArray e)) = .ok (.string (strOfNums ns)) (w.alloc (.cells (ns.map (Value.int .u8)).toArray e)) := by
 refine run_convert_bytes_arg _ src e hs he _ 0 _ _ ns rfl (fun i hi => ?_) dst hd; rw [Nat.zero_add, World.cell?_alloc_at _ _ _ _ hn]
 simp [hi]
theorem get_of (s : ByteArray) (k : Nat) (h : k < s.size) : s[k]'h = s.data.toList.getD k 0 := by
 cases s with
 | mk d =>
  have : k < d.size := h
  simp [List.getD_eq_getElem?_getD, this]
  rfl
theorem ret_int {k : IntKind} {a b : Int} (h : a = b) : Ending.returned (.int k a) = .returned (.int k b) := by rw [h]
theorem ret3n {a a' : Int} {b b' : Int} {c c' : Bool} (h : a = a') (h1 : b = b') (h2 : c = c') : Ending.returned (.tuple #[.int .i32 a, .int .i64 b, .bool c]) = .returned (.tuple #[.int .i32 a', .int .i64 b', .bool c']) := by rw [h, h1, h2]
theorem ext_list (s : ByteArray) (a b : Nat) : (s.extract a b).data.toList = (s.data.toList.take b).drop a := by
 rw [Lib.extract_data, List.drop_take]
def Tabs (w : World) : Prop := Lib.Utf8Tabs 1 2 w
theorem tabs_drewN {w : World} (h : Tabs w) (n : Nat) : Tabs (w.drewN n) := h
theorem tabs_below {w w' : World} (h : Tabs w) (hb : Below w.heap.size w w') : Tabs w' := Utf8Tabs_below h hb
theorem ba_ext {s : ByteArray} {l : Bs} (h : s.data.toList = l) : s = ⟨l.toArray⟩ := by
 subst h; cases s; simp
end Go.Proofs.YtikpmmipopmjaaaGreatDoor
