/- The reader of literals, as plain functions: place and error go along. Quote's answer, as a plain function; runes gone over. Rows of bytes, as plain functions. Rows of bytes taken off; hex; plain functions. Literals, part by part: what the reader makes of them. Literals as rows of parts: read, and cut. Hex read: plain. Numbers of 64 bits: the sign's bit turned; bytes put behind. Cells: what the package answers, as plain functions of a kind, a number and a text. Cells, plain: what is written is read; what is put together is taken apart. Cells, plain: what is taken off has just those bits; what was read was written so. Cells, plain: orders. Cells, plain: the laws. Cells, plain: the order. -/
import Derived.Lib.ValidU
import Derived.Lib.RuneBytes
import Derived.Lib.DecodeN
import Derived.Lib.Replace
import Derived.Lib.IndexBytes
import Derived.Lib.Bytealg
import Derived.Lib.Strings
import Derived.Laws.BitsAllLaws
import Derived.Laws.Bits64
import Derived.IntWalk
import Derived.Lib.ItoaNum
import Derived.Lib.ParseIntBTie
import Derived.Lib.Small
import GoSem.Op.String
set_option linter.unusedVariables false
namespace Go.Ms
open Go.Lib
abbrev Bs := List UInt8

def isRune (r : Int) : Bool := (decide (0 ≤ r) && decide (r < 55296)) || (decide (57344 ≤ r) && decide (r ≤ 1114111))
theorem isRune_iff (r : Int) : isRune r = true ↔ (0 ≤ r ∧ r < 55296) ∨ (57344 ≤ r ∧ r ≤ 1114111) := by simp [isRune]

def bt (l : Bs) (i : Nat) : Nat := (l.getD i 0).toNat
theorem bt_lt (l : Bs) (i : Nat) : bt l i < 256 := UInt8.toNat_lt _

theorem get!_list (l : Bs) (i : Nat) : ByteArray.get! ⟨l.toArray⟩ i = l.getD i 0 := by
  show (l.toArray)[i]! = _
  simp [List.getD_eq_getElem?_getD]
  rfl

theorem decodeL_eq (l : Bs) : decodeL l = decodeN l.length (bt l 0) (bt l 1) (bt l 2) (bt l 3) := by
  unfold decodeL
  rw [decode_at]
  simp only [get!_list, bt, Nat.zero_add, Nat.sub_zero]
  rfl

theorem enc_toNat {r : Int} : (encodeRune r).map UInt8.toNat = (encodeRuneZ r).map Int.toNat := by
  unfold encodeRune
  rw [List.map_map]
  apply List.map_congr_left
  intro x hx
  have := encodeRuneZ_byte r x hx
  simp [Function.comp, Nat.toUInt8]
  omega

theorem toU8_toNat {x : Int} (h0 : 0 ≤ x) (h1 : x < 256) : ((x.toNat.toUInt8).toNat : Int) = x := by
  simp [Nat.toUInt8]; omega

theorem u8_ext {a : UInt8} {x : Int} (h : (a.toNat : Int) = x) : x.toNat.toUInt8 = a := by
  subst h
  simp [Nat.toUInt8]

set_option maxRecDepth 100000 in
/-- What the decoder takes for a rune is one, and stands there as its bytes. -/
theorem dec_sound (l : Bs) (hl : l ≠ []) (h : ¬ ((decodeL l).1 = 65533 ∧ (decodeL l).2 < 2)) :
    isRune (decodeL l).1 = true ∧ (decodeL l).2 ≤ l.length ∧ l.take (decodeL l).2 = encodeRune (decodeL l).1 := by
  obtain ⟨p, hp⟩ : ∃ p, decodeL l = p := ⟨_, rfl⟩
  rw [hp] at h ⊢
  rw [decodeL_eq] at hp
  obtain ⟨a, l, rfl⟩ := List.exists_cons_of_ne_nil hl
  have ha := UInt8.toNat_lt a
  have e0 : bt (a :: l) 0 = a.toNat := rfl
  rw [e0] at hp
  unfold decodeN at hp
  split at hp
  · rename_i c
    subst hp
    refine ⟨by rw [isRune_iff]; simp only; omega, by simp, ?_⟩
    simp only
    unfold encodeRune
    rw [encodeRuneZ_one (by omega) (by omega)]
    simp [Nat.toUInt8]
  split at hp
  · rename_i c c1
    obtain ⟨p1, p2, p3⟩ := c1
    match l, p2 with
    | b :: l, _ =>
      have e1 : bt (a :: b :: l) 1 = b.toNat := rfl
      rw [e1] at hp p3
      have hb := UInt8.toNat_lt b
      split at hp
      · subst hp
        refine ⟨by rw [isRune_iff]; simp only; omega, by simp, ?_⟩
        simp only
        unfold encodeRune
        rw [encodeRuneZ_two (by omega) (by omega)]
        simp only [List.take_succ_cons, List.take_zero, List.map_cons, List.map_nil]
        rw [u8_ext (a := a) (by omega), u8_ext (a := b) (by omega)]
      · subst hp; exact absurd ⟨rfl, by decide⟩ h
  split at hp
  · rename_i c c1 c2
    obtain ⟨p1, ⟨p2, p3⟩, p4, p5⟩ := c2
    match l, p4 with
    | b :: d :: l, _ =>
      have e1 : bt (a :: b :: d :: l) 1 = b.toNat := rfl
      have e2 : bt (a :: b :: d :: l) 2 = d.toNat := rfl
      rw [e1] at hp p3
      rw [e2] at hp p5
      have hb := UInt8.toNat_lt b
      have hd := UInt8.toNat_lt d
      split at hp
      · subst hp
        refine ⟨by rw [isRune_iff]; simp only; omega, by simp, ?_⟩
        simp only
        unfold encodeRune
        rw [encodeRuneZ_three (by omega)]
        simp only [List.take_succ_cons, List.take_zero, List.map_cons, List.map_nil]
        rw [u8_ext (a := a) (by omega), u8_ext (a := b) (by omega), u8_ext (a := d) (by omega)]
      · subst hp; exact absurd ⟨rfl, by decide⟩ h
  split at hp
  · rename_i c c1 c2 c3
    obtain ⟨p1, ⟨p2, p3⟩, ⟨p4, p5⟩, p6, p7⟩ := c3
    match l, p6 with
    | b :: d :: f :: l, _ =>
      have e1 : bt (a :: b :: d :: f :: l) 1 = b.toNat := rfl
      have e2 : bt (a :: b :: d :: f :: l) 2 = d.toNat := rfl
      have e3 : bt (a :: b :: d :: f :: l) 3 = f.toNat := rfl
      rw [e1] at hp p3
      rw [e2] at hp p5
      rw [e3] at hp p7
      have hb := UInt8.toNat_lt b
      have hd := UInt8.toNat_lt d
      have hf := UInt8.toNat_lt f
      split at hp
      · subst hp
        refine ⟨by rw [isRune_iff]; simp only; omega, by simp, ?_⟩
        simp only
        unfold encodeRune
        rw [encodeRuneZ_four (by omega) (by omega)]
        simp only [List.take_succ_cons, List.take_zero, List.map_cons, List.map_nil]
        rw [u8_ext (a := a) (by omega), u8_ext (a := b) (by omega), u8_ext (a := d) (by omega), u8_ext (a := f) (by omega)]
      · subst hp; exact absurd ⟨rfl, by decide⟩ h
  · subst hp; exact absurd ⟨rfl, by decide⟩ h

theorem toU8_nat {x : Int} (h0 : 0 ≤ x) (h1 : x < 256) : (x.toNat.toUInt8).toNat = x.toNat := by
  have := toU8_toNat h0 h1; omega

set_option maxRecDepth 100000 in
/-- The bytes of a rune are taken for it, whatever stands behind. -/
theorem dec_enc (r : Int) (m : Bs) (h : isRune r = true) : decodeL (encodeRune r ++ m) = (r.toNat, (encodeRune r).length) := by
  rw [isRune_iff] at h
  rw [decodeL_eq]
  unfold encodeRune
  by_cases c0 : r ≤ 127
  · rw [encodeRuneZ_one (by omega) c0]
    simp only [List.map_cons, List.map_nil, List.cons_append, List.nil_append, bt, List.getD_cons_zero, List.getD_cons_succ, List.length_cons, List.length_nil]
    rw [toU8_nat (by omega) (by omega)]
    unfold decodeN
    rw [if_pos (by omega)]
  by_cases c1 : r ≤ 2047
  · rw [encodeRuneZ_two (by omega) c1]
    simp only [List.map_cons, List.map_nil, List.cons_append, List.nil_append, bt, List.getD_cons_zero, List.getD_cons_succ, List.length_cons, List.length_nil]
    rw [toU8_nat (by omega) (by omega), toU8_nat (by omega) (by omega)]
    unfold decodeN
    rw [if_neg (by omega), if_pos ⟨by omega, by omega, by omega⟩, if_pos (by omega)]
    apply Prod.ext <;> simp only <;> omega
  by_cases c2 : r ≤ 65535
  · rw [encodeRuneZ_three (by omega)]
    simp only [List.map_cons, List.map_nil, List.cons_append, List.nil_append, bt, List.getD_cons_zero, List.getD_cons_succ, List.length_cons, List.length_nil]
    rw [toU8_nat (by omega) (by omega), toU8_nat (by omega) (by omega), toU8_nat (by omega) (by omega)]
    unfold decodeN
    rw [if_neg (by omega), if_neg (by omega), if_pos ⟨by omega, ⟨by omega, by omega⟩, by omega, by omega⟩, if_pos (by omega)]
    apply Prod.ext <;> simp only <;> omega
  · rw [encodeRuneZ_four (by omega) (by omega)]
    simp only [List.map_cons, List.map_nil, List.cons_append, List.nil_append, bt, List.getD_cons_zero, List.getD_cons_succ, List.length_cons, List.length_nil]
    rw [toU8_nat (by omega) (by omega), toU8_nat (by omega) (by omega), toU8_nat (by omega) (by omega), toU8_nat (by omega) (by omega)]
    unfold decodeN
    rw [if_neg (by omega), if_neg (by omega), if_neg (by omega), if_pos ⟨by omega, ⟨by omega, by omega⟩, ⟨by omega, by omega⟩, by omega, by omega⟩, if_pos (by omega)]
    apply Prod.ext <;> simp only <;> omega

end Go.Ms
namespace Go.Ms
open Go.Lib
/-- Put's bytes. -/
def put (r : Int) : Bs := if isRune r = true then encodeRune r else []
theorem put_rune {r : Int} (h : isRune r = true) : put r = encodeRune r := by simp [put, h]
theorem put_none {r : Int} (h : isRune r = false) : put r = [] := by simp [put, h]
/-- Next's answer. -/
def nextD (l : Bs) : Nat × Nat × Bool := if l = [] then (0, 0, false) else if (decodeL l).1 = 65533 ∧ (decodeL l).2 < 2 then (0, 0, false) else ((decodeL l).1, (decodeL l).2, true)

/-- What bytes say, were they a rune's. -/
def numberD (l : Bs) : Int :=
  if l.length = 1 then bt l 0
  else if l.length = 2 then 64 * (bt l 0 % 32 : Nat) + (bt l 1 % 64 : Nat)
  else if l.length = 3 then 64 * (64 * (bt l 0 % 16 : Nat) + (bt l 1 % 64 : Nat)) + (bt l 2 % 64 : Nat)
  else 64 * (64 * (64 * (bt l 0 % 8 : Nat) + (bt l 1 % 64 : Nat)) + (bt l 2 % 64 : Nat)) + (bt l 3 % 64 : Nat)

theorem encodeRune_length (r : Int) : 1 ≤ (encodeRune r).length ∧ (encodeRune r).length ≤ 4 := by
  have := encodeRuneZ_length r
  simpa [encodeRune] using this

set_option maxRecDepth 100000 in
theorem number_enc (r : Int) (h : isRune r = true) : numberD (encodeRune r) = r := by
  rw [isRune_iff] at h
  unfold encodeRune
  by_cases c0 : r ≤ 127
  · rw [encodeRuneZ_one (by omega) c0]
    simp only [numberD, List.map_cons, List.map_nil, bt, List.getD_cons_zero, List.getD_cons_succ, List.length_cons, List.length_nil]
    rw [toU8_nat (by omega) (by omega)]
    simp; omega
  by_cases c1 : r ≤ 2047
  · rw [encodeRuneZ_two (by omega) c1]
    simp only [numberD, List.map_cons, List.map_nil, bt, List.getD_cons_zero, List.getD_cons_succ, List.length_cons, List.length_nil]
    rw [toU8_nat (by omega) (by omega), toU8_nat (by omega) (by omega)]
    simp; omega
  by_cases c2 : r ≤ 65535
  · rw [encodeRuneZ_three (by omega)]
    simp only [numberD, List.map_cons, List.map_nil, bt, List.getD_cons_zero, List.getD_cons_succ, List.length_cons, List.length_nil]
    rw [toU8_nat (by omega) (by omega), toU8_nat (by omega) (by omega), toU8_nat (by omega) (by omega)]
    simp; omega
  · rw [encodeRuneZ_four (by omega) (by omega)]
    simp only [numberD, List.map_cons, List.map_nil, bt, List.getD_cons_zero, List.getD_cons_succ, List.length_cons, List.length_nil]
    rw [toU8_nat (by omega) (by omega), toU8_nat (by omega) (by omega), toU8_nat (by omega) (by omega), toU8_nat (by omega) (by omega)]
    simp; omega

/-- Are so many bytes those of the rune that they would be? -/
def hit (l : Bs) (n : Nat) : Bool := isRune (numberD (l.take n)) && put (numberD (l.take n)) == l.take n
theorem hit_iff (l : Bs) (n : Nat) : hit l n = true ↔ isRune (numberD (l.take n)) = true ∧ encodeRune (numberD (l.take n)) = l.take n := by
  unfold hit
  constructor
  · intro h
    simp only [Bool.and_eq_true, beq_iff_eq] at h
    exact ⟨h.1, by rw [← put_rune h.1]; exact h.2⟩
  · intro h
    simp only [Bool.and_eq_true, beq_iff_eq]
    exact ⟨h.1, by rw [put_rune h.1]; exact h.2⟩

theorem isRune_nat {r : Int} (h : isRune r = true) : ((r.toNat : Nat) : Int) = r := by rw [isRune_iff] at h; omega

/-- The rune 65533 has three bytes. -/
theorem enc_65533 : (encodeRune 65533).length = 3 := by decide

theorem next_enc (r : Int) (m : Bs) (h : isRune r = true) : nextD (encodeRune r ++ m) = (r.toNat, (encodeRune r).length, true) := by
  have hl := encodeRune_length r
  have hne : encodeRune r ++ m ≠ [] := by intro e; rw [List.append_eq_nil_iff] at e; rw [e.1] at hl; simp at hl
  unfold nextD
  rw [if_neg hne, dec_enc r m h, if_neg]
  intro ⟨h1, h2⟩
  simp only at h1 h2
  have : r = 65533 := by have := isRune_nat h; omega
  rw [this, enc_65533] at h2
  omega

theorem next_cases (l : Bs) : nextD l = (0, 0, false) ∨ ∃ r : Int, isRune r = true ∧ nextD l = (r.toNat, (encodeRune r).length, true) ∧ l = encodeRune r ++ l.drop (encodeRune r).length := by
  unfold nextD
  by_cases hl : l = []
  · exact .inl (by rw [if_pos hl])
  rw [if_neg hl]
  by_cases h : (decodeL l).1 = 65533 ∧ (decodeL l).2 < 2
  · exact .inl (by rw [if_pos h])
  · rw [if_neg h]
    obtain ⟨a, b, c⟩ := dec_sound l hl h
    have e : (encodeRune (decodeL l).1).length = (decodeL l).2 := by rw [← c]; simp; omega
    refine .inr ⟨((decodeL l).1 : Nat), a, by rw [e]; simp, ?_⟩
    rw [e, ← c]
    simp

theorem hit_next (l : Bs) (n : Nat) (hn : n ≤ l.length) (h : hit l n = true) : nextD l = ((numberD (l.take n)).toNat, n, true) := by
  rw [hit_iff] at h
  have e : l = encodeRune (numberD (l.take n)) ++ l.drop n := by rw [h.2]; simp
  have el : (encodeRune (numberD (l.take n))).length = n := by rw [h.2]; simp; omega
  have := next_enc _ (l.drop n) h.1
  rw [← e, el] at this
  exact this

theorem no_hit (l : Bs) (h : ∀ n, 1 ≤ n → n ≤ 4 → n ≤ l.length → hit l n = false) : nextD l = (0, 0, false) := by
  rcases next_cases l with e | ⟨r, h1, h2, h3⟩
  · exact e
  · exfalso
    have hl := encodeRune_length r
    have hll : (encodeRune r).length ≤ l.length := by have := congrArg List.length h3; rw [List.length_append] at this; omega
    have ht : l.take (encodeRune r).length = encodeRune r := by have := congrArg (List.take (encodeRune r).length) h3; rw [this]; simp
    have := h _ hl.1 hl.2 hll
    rw [Bool.eq_false_iff] at this
    apply this
    rw [hit_iff, ht, number_enc r h1]
    exact ⟨h1, rfl⟩
end Go.Ms
namespace Go.Ms
open Go.Lib
/-- The first error holds. -/
def rdFail (e x : Int) : Int := if e = 0 then x else e
def rdTake (l : Bs) (p : Nat) (e : Int) : Int × Nat × Int := if e = 0 then (if p = l.length then (0, p, 3) else ((bt l p : Nat), p + 1, 0)) else (0, p, e)
def rdWant (l : Bs) (c : Int) (p : Nat) (e : Int) : Nat × Int := ((rdTake l p e).2.1, if (rdTake l p e).1 = c then (rdTake l p e).2.2 else rdFail (rdTake l p e).2.2 41)
/-- A digit's number; 16: it is none. -/
def hexv (c : Int) : Int := if 48 ≤ c ∧ c ≤ 57 then c - 48 else if 65 ≤ c ∧ c ≤ 70 then c - 55 else if 97 ≤ c ∧ c ≤ 102 then c - 87 else 16
def rdDigit (l : Bs) (p : Nat) (e : Int) : Int × Nat × Int :=
  if hexv (rdTake l p e).1 = 16 then (0, (rdTake l p e).2.1, rdFail (rdTake l p e).2.2 41) else (hexv (rdTake l p e).1, (rdTake l p e).2.1, (rdTake l p e).2.2)

theorem rdTake_bd (l : Bs) (p : Nat) (e : Int) : 0 ≤ (rdTake l p e).1 ∧ (rdTake l p e).1 < 256 := by
  have := bt_lt l p
  unfold rdTake
  repeat' split
  all_goals (simp only; omega)
theorem rdTake_le (l : Bs) (p : Nat) (e : Int) (h : p ≤ l.length) : p ≤ (rdTake l p e).2.1 ∧ (rdTake l p e).2.1 ≤ l.length := by
  unfold rdTake
  repeat' split
  all_goals (simp only; omega)
theorem hexv_bd (c : Int) : 0 ≤ hexv c ∧ hexv c ≤ 16 := by
  unfold hexv
  repeat' split
  all_goals omega
theorem rdDigit_bd (l : Bs) (p : Nat) (e : Int) : 0 ≤ (rdDigit l p e).1 ∧ (rdDigit l p e).1 < 16 := by
  have := hexv_bd (rdTake l p e).1
  unfold rdDigit
  split
  all_goals (simp only; omega)
theorem rdDigit_le (l : Bs) (p : Nat) (e : Int) (h : p ≤ l.length) : p ≤ (rdDigit l p e).2.1 ∧ (rdDigit l p e).2.1 ≤ l.length := by
  have := rdTake_le l p e h
  unfold rdDigit
  split
  all_goals (simp only; omega)

/-- Four digits, the first error holding. -/
def h0 (l : Bs) (second : Bool) (p : Nat) (e : Int) : Int × Nat × Int :=
  ((rdDigit l p e).1, (rdDigit l p e).2.1, if second = true ∧ ¬ (rdDigit l p e).1 = 13 then rdFail (rdDigit l p e).2.2 41 else (rdDigit l p e).2.2)
def h1 (l : Bs) (second : Bool) (p : Nat) (e : Int) : Int × Nat × Int :=
  (16 * (h0 l second p e).1 + (rdDigit l (h0 l second p e).2.1 (h0 l second p e).2.2).1, (rdDigit l (h0 l second p e).2.1 (h0 l second p e).2.2).2.1,
   if second = decide (220 ≤ 16 * (h0 l second p e).1 + (rdDigit l (h0 l second p e).2.1 (h0 l second p e).2.2).1 ∧ 16 * (h0 l second p e).1 + (rdDigit l (h0 l second p e).2.1 (h0 l second p e).2.2).1 ≤ 223)
   then (rdDigit l (h0 l second p e).2.1 (h0 l second p e).2.2).2.2 else rdFail (rdDigit l (h0 l second p e).2.1 (h0 l second p e).2.2).2.2 41)
def h2 (l : Bs) (second : Bool) (p : Nat) (e : Int) : Int × Nat × Int :=
  (16 * (h1 l second p e).1 + (rdDigit l (h1 l second p e).2.1 (h1 l second p e).2.2).1, (rdDigit l (h1 l second p e).2.1 (h1 l second p e).2.2).2.1, (rdDigit l (h1 l second p e).2.1 (h1 l second p e).2.2).2.2)
def rdHalf (l : Bs) (second : Bool) (p : Nat) (e : Int) : Int × Nat × Int :=
  (16 * (h2 l second p e).1 + (rdDigit l (h2 l second p e).2.1 (h2 l second p e).2.2).1, (rdDigit l (h2 l second p e).2.1 (h2 l second p e).2.2).2.1, (rdDigit l (h2 l second p e).2.1 (h2 l second p e).2.2).2.2)

theorem h0_bd (l : Bs) (second : Bool) (p : Nat) (e : Int) : 0 ≤ (h0 l second p e).1 ∧ (h0 l second p e).1 < 16 := rdDigit_bd l p e
theorem h0_le (l : Bs) (second : Bool) (p : Nat) (e : Int) (h : p ≤ l.length) : p ≤ (h0 l second p e).2.1 ∧ (h0 l second p e).2.1 ≤ l.length := rdDigit_le l p e h
theorem h1_bd (l : Bs) (second : Bool) (p : Nat) (e : Int) : 0 ≤ (h1 l second p e).1 ∧ (h1 l second p e).1 < 256 := by
  have := h0_bd l second p e
  have := rdDigit_bd l (h0 l second p e).2.1 (h0 l second p e).2.2
  unfold h1; simp only; omega
theorem h1_le (l : Bs) (second : Bool) (p : Nat) (e : Int) (h : p ≤ l.length) : p ≤ (h1 l second p e).2.1 ∧ (h1 l second p e).2.1 ≤ l.length := by
  have a := h0_le l second p e h
  have := rdDigit_le l (h0 l second p e).2.1 (h0 l second p e).2.2 a.2
  unfold h1; simp only; omega
theorem h2_bd (l : Bs) (second : Bool) (p : Nat) (e : Int) : 0 ≤ (h2 l second p e).1 ∧ (h2 l second p e).1 < 4096 := by
  have := h1_bd l second p e
  have := rdDigit_bd l (h1 l second p e).2.1 (h1 l second p e).2.2
  unfold h2; simp only; omega
theorem h2_le (l : Bs) (second : Bool) (p : Nat) (e : Int) (h : p ≤ l.length) : p ≤ (h2 l second p e).2.1 ∧ (h2 l second p e).2.1 ≤ l.length := by
  have a := h1_le l second p e h
  have := rdDigit_le l (h1 l second p e).2.1 (h1 l second p e).2.2 a.2
  unfold h2; simp only; omega
theorem rdHalf_bd (l : Bs) (second : Bool) (p : Nat) (e : Int) : 0 ≤ (rdHalf l second p e).1 ∧ (rdHalf l second p e).1 < 65536 := by
  have := h2_bd l second p e
  have := rdDigit_bd l (h2 l second p e).2.1 (h2 l second p e).2.2
  unfold rdHalf; simp only; omega
theorem rdHalf_le (l : Bs) (second : Bool) (p : Nat) (e : Int) (h : p ≤ l.length) : p ≤ (rdHalf l second p e).2.1 ∧ (rdHalf l second p e).2.1 ≤ l.length := by
  have a := h2_le l second p e h
  have := rdDigit_le l (h2 l second p e).2.1 (h2 l second p e).2.2 a.2
  unfold rdHalf; simp only; omega

/-- utf8.FullRuneInString. -/
def fullD (l : Bs) : Bool :=
  decide (firstT (bt l 0) % 8 ≤ l.length) || (decide (1 < l.length) && (decide (bt l 1 < accLo (firstT (bt l 0) / 16)) || decide (accHi (firstT (bt l 0) / 16) < bt l 1))) || (decide (2 < l.length) && (decide (bt l 2 < 128) || decide (191 < bt l 2)))
/-- A rune that stands as it is. -/
def rdPlain (l : Bs) (p : Nat) (e : Int) : Bs × Nat × Int :=
  if bt l p < 32 then ([], p, rdFail e 41)
  else if (nextD (l.drop p)).2.2 = true then ((l.drop p).take (nextD (l.drop p)).2.1, p + (nextD (l.drop p)).2.1, e)
  else if fullD (l.drop p) = true then ([], p, rdFail e 40) else ([], p, rdFail e 3)

/-- The rune that a byte behind a backslash says. -/
def unesc (c : Int) : Option Int :=
  if c = 34 then some 34 else if c = 92 then some 92 else if c = 98 then some 8 else if c = 102 then some 12 else if c = 110 then some 10 else if c = 114 then some 13 else if c = 116 then some 9 else none
def rdPair (l : Bs) (p3 : Nat) (e3 n : Int) : Bs × Nat × Int :=
  let w1 := rdWant l 92 p3 e3
  let w2 := rdWant l 117 w1.1 w1.2
  let h := rdHalf l true w2.1 w2.2
  if h.2.2 = 0 then (encodeRune (65536 + (n - 55296) * 1024 + h.1 - 56320), h.2.1, h.2.2) else ([], h.2.1, h.2.2)
def rdLong (l : Bs) (p e : Nat × Int) : Bs × Nat × Int :=
  let h := rdHalf l false p.1 e.2
  if 55296 ≤ h.1 ∧ h.1 < 56320 then rdPair l h.2.1 h.2.2 h.1
  else if h.2.2 = 0 then (encodeRune h.1, h.2.1, h.2.2) else ([], h.2.1, h.2.2)
def rdEscape (l : Bs) (p : Nat) (e : Int) : Bs × Nat × Int :=
  let t := rdTake l p e
  if t.1 = 47 then ([47], t.2.1, t.2.2)
  else match unesc t.1 with
    | some k => (encodeRune k, t.2.1, t.2.2)
    | none => rdLong l (t.2.1, 0) (0, if t.1 = 117 then t.2.2 else rdFail t.2.2 41)

theorem rdWant_le (l : Bs) (c : Int) (p : Nat) (e : Int) (h : p ≤ l.length) : p ≤ (rdWant l c p e).1 ∧ (rdWant l c p e).1 ≤ l.length := rdTake_le l p e h
theorem rdPair_le (l : Bs) (p3 : Nat) (e3 n : Int) (h : p3 ≤ l.length) : p3 ≤ (rdPair l p3 e3 n).2.1 ∧ (rdPair l p3 e3 n).2.1 ≤ l.length := by
  have a := rdWant_le l 92 p3 e3 h
  have b := rdWant_le l 117 (rdWant l 92 p3 e3).1 (rdWant l 92 p3 e3).2 a.2
  have c := rdHalf_le l true (rdWant l 117 (rdWant l 92 p3 e3).1 (rdWant l 92 p3 e3).2).1 (rdWant l 117 (rdWant l 92 p3 e3).1 (rdWant l 92 p3 e3).2).2 b.2
  unfold rdPair
  simp only
  split <;> (simp only; omega)
theorem rdLong_le (l : Bs) (p e : Nat × Int) (h : p.1 ≤ l.length) : p.1 ≤ (rdLong l p e).2.1 ∧ (rdLong l p e).2.1 ≤ l.length := by
  have a := rdHalf_le l false p.1 e.2 h
  unfold rdLong
  simp only
  split
  · have b := rdPair_le l (rdHalf l false p.1 e.2).2.1 (rdHalf l false p.1 e.2).2.2 (rdHalf l false p.1 e.2).1 a.2
    omega
  · split <;> (simp only; omega)
theorem rdEscape_le (l : Bs) (p : Nat) (e : Int) (h : p ≤ l.length) : p ≤ (rdEscape l p e).2.1 ∧ (rdEscape l p e).2.1 ≤ l.length := by
  have a := rdTake_le l p e h
  unfold rdEscape
  simp only
  split
  · simp only; omega
  · split
    · simp only; omega
    · have b := rdLong_le l ((rdTake l p e).2.1, 0) (0, if (rdTake l p e).1 = 117 then (rdTake l p e).2.2 else rdFail (rdTake l p e).2.2 41) a.2
      simp only at b
      omega
theorem rdPlain_le (l : Bs) (p : Nat) (e : Int) (h : p < l.length) : p ≤ (rdPlain l p e).2.1 ∧ (rdPlain l p e).2.1 ≤ l.length ∧ (e = 0 → (rdPlain l p e).2.2 = 0 → p < (rdPlain l p e).2.1) := by
  unfold rdPlain
  split
  · refine ⟨by simp, by simp only; omega, fun he h1 => ?_⟩
    simp only [rdFail, he, if_true] at h1; omega
  · split
    · rename_i hn
      rcases next_cases (l.drop p) with e1 | ⟨r, h1, h2, h3⟩
      · rw [e1] at hn; simp at hn
      · have hl := encodeRune_length r
        have := congrArg List.length h3
        simp only [List.length_append, List.length_drop] at this
        rw [h2]
        refine ⟨by simp only; omega, by simp only; omega, fun _ _ => by simp only; omega⟩
    · split
      · refine ⟨by simp, by simp only; omega, fun he h1 => ?_⟩
        simp only [rdFail, he, if_true] at h1; omega
      · refine ⟨by simp, by simp only; omega, fun he h1 => ?_⟩
        simp only [rdFail, he, if_true] at h1; omega
/-- A piece's length: at most four bytes. -/
theorem rdEscape_len (l : Bs) (p : Nat) (e : Int) : (rdEscape l p e).1.length ≤ 4 := by
  unfold rdEscape rdLong rdPair
  simp only
  repeat' split
  all_goals first | exact (encodeRune_length _).2 | simp
theorem rdPlain_len (l : Bs) (p : Nat) (e : Int) : (rdPlain l p e).1.length ≤ 4 := by
  unfold rdPlain
  repeat' split
  · simp
  · rename_i hn
    rcases next_cases (l.drop p) with e1 | ⟨r, h1, h2, h3⟩
    · rw [e1] at hn; simp at hn
    · have hl := encodeRune_length r
      rw [h2]; simp only [List.length_take]; omega
  · simp
  · simp
/-- Unquote's loop: text so far, place, error. -/
def uqGo (l : Bs) : Nat → Bs → Nat → Int → Bs × Nat × Int
  | 0, _, _, _ => ([], 0, 0)
  | n + 1, acc, p, e =>
    if e = 0 then
      if p = l.length then ([], 0, 3)
      else if bt l p = 34 then (acc, p + 1, 0)
      else if bt l p = 92 then uqGo l n (acc ++ (rdEscape l (p + 1) 0).1) (rdEscape l (p + 1) 0).2.1 (rdEscape l (p + 1) 0).2.2
      else uqGo l n (acc ++ (rdPlain l p 0).1) (rdPlain l p 0).2.1 (rdPlain l p 0).2.2
    else ([], 0, e)
theorem uqGo_succ (l : Bs) (n : Nat) (acc : Bs) (p : Nat) (e : Int) : uqGo l (n + 1) acc p e = if e = 0 then (if p = l.length then ([], 0, 3) else if bt l p = 34 then (acc, p + 1, 0)
      else if bt l p = 92 then uqGo l n (acc ++ (rdEscape l (p + 1) 0).1) (rdEscape l (p + 1) 0).2.1 (rdEscape l (p + 1) 0).2.2
      else uqGo l n (acc ++ (rdPlain l p 0).1) (rdPlain l p 0).2.1 (rdPlain l p 0).2.2) else ([], 0, e) := rfl
def unquoteD (l : Bs) : Bs × Nat × Int := uqGo l (l.length + 2) [] (rdWant l 34 0 0).1 (rdWant l 34 0 0).2
end Go.Ms
namespace Go.Ms
open Go.Lib

theorem decode_drop (s : ByteArray) (pos : Nat) : Utf8.decode s pos = decodeL (s.data.toList.drop pos) := by
  rw [decode_at, decodeL_eq]
  have hg : ∀ k, s.get! k = s.data.toList.getD k 0 := by
    intro k
    have hs : s = ⟨s.data.toList.toArray⟩ := by cases s; simp
    have key : ∀ s' : ByteArray, s' = ⟨s.data.toList.toArray⟩ → s'.get! k = s.data.toList.getD k 0 := fun s' h => by rw [h]; exact get!_list _ _
    exact key s hs
  simp only [hg, bt, List.length_drop, Array.length_toList, ByteArray.size_data, List.getD_eq_getElem?_getD, List.getElem?_drop, Nat.add_zero]

/-- Runes that have an escape of two bytes, and its second one. -/
def esc2 (r : Int) : Option Int :=
  if r = 34 then some 34 else if r = 92 then some 92 else if r = 8 then some 98 else if r = 12 then some 102 else if r = 10 then some 110 else if r = 13 then some 114 else if r = 9 then some 116 else none
def hexd (n : Nat) : UInt8 := if n < 10 then (48 + n).toUInt8 else (87 + n).toUInt8
/-- A byte's piece of the tidy literal. -/
def qb (c : UInt8) : Bs :=
  match esc2 c.toNat with
  | some x => [92, x.toNat.toUInt8]
  | none => if c.toNat < 32 then [92, 117, 48, 48, hexd (c.toNat / 16), hexd (c.toNat % 16)] else [c]
def quoteD (l : Bs) : Bs := 34 :: (l.flatMap qb ++ [34])

theorem validGoD_more : ∀ (n : Nat) (l : Bs), l.length ≤ n → validGoD n l = validD l := by
  intro n
  induction n using Nat.strongRecOn with
  | ind n ih =>
    intro l hl
    cases n with
    | zero =>
      have : l = [] := List.eq_nil_of_length_eq_zero (by omega)
      subst this; rfl
    | succ n =>
      cases l with
      | nil => rfl
      | cons a t =>
        unfold validD
        simp only [List.length_cons, validGoD]
        have hw := decodeL_width (a :: t)
        have h2 : ((a :: t).drop (decodeL (a :: t)).2).length ≤ t.length := by simp; omega
        rw [ih n (by omega) _ (by simp at hl h2 ⊢; omega)]
        by_cases hn : t.length = n
        · rw [hn, ih n (by omega) _ (by rw [← hn]; exact h2)]
        · rw [ih t.length (by simp at hl; omega) _ h2]

theorem valid_nil : validD [] = true := rfl
theorem valid_step (l : Bs) (h : l ≠ []) : validD l = if (decodeL l).1 = 65533 ∧ (decodeL l).2 = 1 then false else validD (l.drop (decodeL l).2) := by
  obtain ⟨a, t, rfl⟩ := List.exists_cons_of_ne_nil h
  have hw := decodeL_width (a :: t)
  show validGoD (a :: t).length (a :: t) = _
  simp only [List.length_cons, validGoD]
  rw [validGoD_more _ _ (by simp; omega)]
  rfl
theorem valid_next (l : Bs) (h : l ≠ []) : validD l = if (nextD l).2.2 = true then validD (l.drop (nextD l).2.1) else false := by
  rw [valid_step l h]
  have hw := decodeL_width l
  unfold nextD
  rw [if_neg h]
  by_cases hc : (decodeL l).1 = 65533 ∧ (decodeL l).2 < 2
  · rw [if_pos hc, if_pos ⟨hc.1, by omega⟩]; simp
  · rw [if_neg hc, if_neg (by omega)]; simp
theorem valid_enc (r : Int) (m : Bs) (h : isRune r = true) : validD (encodeRune r ++ m) = validD m := by
  have hl := encodeRune_length r
  rw [valid_next _ (by intro e; rw [List.append_eq_nil_iff] at e; rw [e.1] at hl; simp at hl), next_enc r m h]
  simp
/-- Of what is valid and not nothing a rune comes first. -/
theorem valid_first (l : Bs) (h : l ≠ []) (hv : validD l = true) : ∃ r : Int, isRune r = true ∧ nextD l = (r.toNat, (encodeRune r).length, true) ∧ l = encodeRune r ++ l.drop (encodeRune r).length ∧ validD (l.drop (encodeRune r).length) = true := by
  rw [valid_next l h] at hv
  rcases next_cases l with e | ⟨r, h1, h2, h3⟩
  · rw [e] at hv; simp at hv
  · refine ⟨r, h1, h2, h3, ?_⟩
    rw [h2] at hv
    simpa using hv
/-- Put or decoded. -/
theorem next_dec (l : Bs) (r : Int) (h : l ≠ []) (h2 : nextD l = (r.toNat, (encodeRune r).length, true)) : decodeL l = (r.toNat, (encodeRune r).length) := by
  unfold nextD at h2
  rw [if_neg h] at h2
  split at h2
  · simp at h2
  · simp only [Prod.mk.injEq] at h2
    exact Prod.ext h2.1 h2.2.1

set_option maxRecDepth 100000 in
theorem qb_high (c : UInt8) (h : 128 ≤ c.toNat) : qb c = [c] := by
  unfold qb esc2
  simp only [show ¬ ((c.toNat : Int) = 34) by omega, show ¬ ((c.toNat : Int) = 92) by omega, show ¬ ((c.toNat : Int) = 8) by omega, show ¬ ((c.toNat : Int) = 12) by omega, show ¬ ((c.toNat : Int) = 10) by omega, show ¬ ((c.toNat : Int) = 13) by omega, show ¬ ((c.toNat : Int) = 9) by omega, if_false]
  rw [if_neg (by omega)]
theorem enc_ascii {r : Int} (h0 : 0 ≤ r) (h1 : r ≤ 127) : encodeRune r = [r.toNat.toUInt8] := by
  unfold encodeRune; rw [encodeRuneZ_one h0 h1]; rfl
theorem enc_high {r : Int} (h : isRune r = true) (h1 : 128 ≤ r) : ∀ c ∈ encodeRune r, 128 ≤ c.toNat := by
  rw [isRune_iff] at h
  have key : ∀ x : Int, x ∈ encodeRuneZ r → 128 ≤ x := by
    intro x hx
    by_cases c1 : r ≤ 2047
    · rw [encodeRuneZ_two (by omega) c1] at hx; simp at hx; omega
    by_cases c2 : r ≤ 65535
    · rw [encodeRuneZ_three (by omega)] at hx; simp at hx; omega
    · rw [encodeRuneZ_four (by omega) (by omega)] at hx; simp at hx; omega
  intro c hc
  unfold encodeRune at hc
  rw [List.mem_map] at hc
  obtain ⟨x, hx, rfl⟩ := hc
  have := key x hx
  have := encodeRuneZ_byte r x hx
  rw [toU8_nat (by omega) (by omega)]
  omega
theorem flat_high : ∀ l : Bs, (∀ c ∈ l, 128 ≤ c.toNat) → l.flatMap qb = l := by
  intro l h
  induction l with
  | nil => rfl
  | cons a t ih => rw [List.flatMap_cons, qb_high a (h a (by simp)), ih (fun c hc => h c (by simp [hc]))]; rfl
theorem u8_nat {r : Int} (h0 : 0 ≤ r) (h1 : r ≤ 127) : ((r.toNat.toUInt8).toNat : Int) = r := toU8_toNat h0 (by omega)
theorem q_esc {r x : Int} (h : isRune r = true) (hx : esc2 r = some x) : (encodeRune r).flatMap qb = [92, x.toNat.toUInt8] := by
  have hr : 0 ≤ r ∧ r ≤ 127 := by
    rw [isRune_iff] at h
    unfold esc2 at hx
    repeat' split at hx
    all_goals first | omega | (cases hx)
  rw [enc_ascii hr.1 hr.2]
  simp only [List.flatMap_cons, List.flatMap_nil, List.append_nil, qb]
  rw [u8_nat hr.1 hr.2, hx]
theorem q_hex {r : Int} (h0 : 0 ≤ r) (hx : esc2 r = none) (h1 : r < 32) : (encodeRune r).flatMap qb = [92, 117, 48, 48, hexd (r.toNat / 16), hexd (r.toNat % 16)] := by
  rw [enc_ascii h0 (by omega)]
  simp only [List.flatMap_cons, List.flatMap_nil, List.append_nil, qb]
  rw [u8_nat h0 (by omega), hx]
  have e : (r.toNat.toUInt8).toNat = r.toNat := by have := u8_nat h0 (by omega : r ≤ 127); omega
  simp only [e]
  rw [if_pos (by omega)]
theorem q_plain {r : Int} (h : isRune r = true) (hx : esc2 r = none) (h1 : ¬ r < 32) : (encodeRune r).flatMap qb = encodeRune r := by
  by_cases c : r ≤ 127
  · rw [enc_ascii (by omega) c]
    simp only [List.flatMap_cons, List.flatMap_nil, List.append_nil, qb]
    rw [u8_nat (by omega) c, hx]
    have e : (r.toNat.toUInt8).toNat = r.toNat := by have := u8_nat (by omega : 0 ≤ r) c; omega
    simp only [e]
    rw [if_neg (by omega)]
  · exact flat_high _ (enc_high h (by omega))
end Go.Ms
namespace Go.Ms
open Go.Lib

def escb (c : UInt8) : Bs := if c = 0 then [0, 255] else [c]
/-- A text's bits, without its end. -/
def escD (l : Bs) : Bs := l.flatMap escb
theorem index_ne {b : UInt8} {l : Bs} (h : b ≠ 0) : index (b :: l) [0] = if index l [0] == -1 then -1 else index l [0] + 1 := by
  have : ([0] : Bs).isPrefixOf (b :: l) = false := by simp [List.isPrefixOf]; exact fun e => h e.symm
  rw [index, this]
  rfl
theorem index_eq {l : Bs} : index ((0 : UInt8) :: l) [0] = 0 := by
  rw [index]
  simp [List.isPrefixOf]
theorem count_ne {b : UInt8} {l : Bs} (h : b ≠ 0) : count (b :: l) [0] = count l [0] := by
  by_cases hi : index l [0] = -1
  · rw [count_miss hi, count_miss (by rw [index_ne h, hi]; rfl)]
  · have hge := index_ge l [0]
    obtain ⟨i, hi'⟩ : ∃ i : Nat, index l [0] = i := ⟨(index l [0]).toNat, by omega⟩
    rw [count_hit (by simp) hi', count_hit (i := i + 1) (by simp) (by rw [index_ne h, hi', if_neg (by simp)]; rfl)]
    rfl
theorem rk_ne (new : Bs) {b : UInt8} {l : Bs} (h : b ≠ 0) (k : Nat) : replaceK [0] new k (b :: l) = b :: replaceK [0] new k l := by
  cases k with
  | zero => rfl
  | succ k =>
    rw [replaceK, replaceK, index_ne h]
    by_cases hi : index l [0] = -1
    · rw [hi]; simp
    · have hge := index_ge l [0]
      obtain ⟨i, hi'⟩ : ∃ i : Nat, index l [0] = i := ⟨(index l [0]).toNat, by omega⟩
      have g1 : ¬ (((i : Int)) == -1) = true := by rw [beq_iff_eq]; omega
      have g2 : ¬ (((i : Int) + 1) == -1) = true := by rw [beq_iff_eq]; omega
      rw [hi', if_neg g1, if_neg g2, if_neg g1]
      rw [show ((i : Int) + 1).toNat = i + 1 by omega, show (i : Int).toNat = i by omega]
      rfl
theorem rk_esc : ∀ l : Bs, replaceK [0] [0, 255] (count l [0]) l = escD l
  | [] => by rw [count_miss (by rfl)]; rfl
  | b :: l => by
    by_cases h : b = 0
    · subst h
      rw [count_hit (i := 0) (by simp) index_eq, Nat.add_comm, replaceK_hit _ _ _ _ 0 index_eq]
      show [] ++ [0, 255] ++ replaceK [0] [0, 255] (count l [0]) l = _
      rw [rk_esc l]
      rfl
    · rw [count_ne h, rk_ne _ h, rk_esc l]
      unfold escD
      rw [List.flatMap_cons]
      unfold escb
      rw [if_neg h]
      rfl
theorem replaceAll_esc (l : Bs) : replaceAll l [0] [0, 255] = escD l := by
  unfold replaceAll replace replaceNum
  rw [if_neg (by decide), if_pos (.inl (by decide))]
  exact rk_esc l
/-- A text's bits. -/
def rowD (l : Bs) : Bs := escD l ++ [0, 0]
theorem escD_len (l : Bs) : (escD l).length ≤ 2 * l.length := by
  induction l with
  | nil => simp [escD]
  | cons b l ih =>
    unfold escD at ih ⊢
    rw [List.flatMap_cons, List.length_append, List.length_cons]
    have : (escb b).length ≤ 2 := by unfold escb; split <;> simp
    omega
end Go.Ms
namespace Go.Ms
open Go.Lib
/-- A text's bits taken off: what they say, how many they are, an error. -/
def unrowG (l : Bs) : Nat → Nat → Bs → Bs × Nat × Int
  | 0, _, _ => ([], 0, 3)
  | f + 1, i, acc =>
    if l.length ≤ i then ([], 0, 3)
    else if bt l i = 0 then
      (if l.length ≤ i + 1 then ([], 0, 3)
       else if bt l (i + 1) = 0 then (acc, i + 2, 0)
       else if bt l (i + 1) = 255 then (if acc.length = 1024 then ([], 0, 4) else unrowG l f (i + 2) (acc ++ [0]))
       else ([], 0, 4))
    else if acc.length = 1024 then ([], 0, 4) else unrowG l f (i + 1) (acc ++ [l.getD i 0])
theorem unrowG_succ (l : Bs) (f i : Nat) (acc : Bs) : unrowG l (f + 1) i acc = if l.length ≤ i then ([], 0, 3)
    else if bt l i = 0 then
      (if l.length ≤ i + 1 then ([], 0, 3)
       else if bt l (i + 1) = 0 then (acc, i + 2, 0)
       else if bt l (i + 1) = 255 then (if acc.length = 1024 then ([], 0, 4) else unrowG l f (i + 2) (acc ++ [0]))
       else ([], 0, 4))
    else if acc.length = 1024 then ([], 0, 4) else unrowG l f (i + 1) (acc ++ [l.getD i 0]) := rfl
def unrowD (l : Bs) : Bs × Nat × Int := unrowG l (l.length + 1) 0 []
def hexb (c : UInt8) : Bs := [if c.toNat / 16 < 10 then (48 + c.toNat / 16).toUInt8 else (87 + c.toNat / 16).toUInt8, if c.toNat % 16 < 10 then (48 + c.toNat % 16).toUInt8 else (87 + c.toNat % 16).toUInt8]
def hexD (l : Bs) : Bs := 120 :: l.flatMap hexb
end Go.Ms
namespace Go.Ms
open Go.Lib

theorem drop_cons {l : Bs} {p : Nat} {c : UInt8} {r : Bs} (h : l.drop p = c :: r) : p < l.length ∧ bt l p = c.toNat ∧ l.drop (p + 1) = r := by
  have hp : p < l.length := by
    rcases Nat.lt_or_ge p l.length with h1 | h1
    · exact h1
    · rw [List.drop_of_length_le h1] at h; cases h
  rw [List.drop_eq_getElem_cons hp] at h
  injection h with h1 h2
  refine ⟨hp, ?_, h2⟩
  unfold bt
  rw [List.getD_eq_getElem?_getD, List.getElem?_eq_getElem hp, ← h1]; rfl
theorem drop_app {l q r : Bs} {p : Nat} (h : l.drop p = q ++ r) : l.drop (p + q.length) = r := by
  rw [← List.drop_drop, h]; simp
theorem take_cons {l : Bs} {p : Nat} {c : UInt8} {r : Bs} (h : l.drop p = c :: r) : rdTake l p 0 = (((c.toNat : Nat) : Int), p + 1, (0 : Int)) := by
  obtain ⟨h1, h2, _⟩ := drop_cons h
  unfold rdTake
  rw [if_pos rfl, if_neg (by omega), h2]
theorem take_end {l : Bs} {p : Nat} (hp : p ≤ l.length) (h : l.drop p = []) : rdTake l p 0 = ((0 : Int), p, (3 : Int)) := by
  have : p = l.length := by
    have := congrArg List.length h; simp at this; omega
  unfold rdTake
  rw [if_pos rfl, if_pos this]
theorem take_err (l : Bs) (p : Nat) {e : Int} (he : e ≠ 0) : rdTake l p e = ((0 : Int), p, e) := by
  unfold rdTake; rw [if_neg he]
theorem fail_err {e x : Int} (he : e ≠ 0) : rdFail e x = e := by unfold rdFail; rw [if_neg he]
theorem hexv0 : hexv 0 = 16 := by decide

theorem digit_cons {l : Bs} {p : Nat} {c : UInt8} {r : Bs} (h : l.drop p = c :: r) (hc : hexv c.toNat ≠ 16) : rdDigit l p 0 = (hexv c.toNat, p + 1, (0 : Int)) := by
  unfold rdDigit
  rw [take_cons h]
  simp only
  rw [if_neg hc]
theorem digit_bad {l : Bs} {p : Nat} {c : UInt8} {r : Bs} (h : l.drop p = c :: r) (hc : hexv c.toNat = 16) : rdDigit l p 0 = ((0 : Int), p + 1, (41 : Int)) := by
  unfold rdDigit
  rw [take_cons h]
  simp only
  rw [if_pos hc]
  rfl
theorem digit_end {l : Bs} {p : Nat} (hp : p ≤ l.length) (h : l.drop p = []) : rdDigit l p 0 = ((0 : Int), p, (3 : Int)) := by
  unfold rdDigit
  rw [take_end hp h]
  simp only
  rw [if_pos hexv0, fail_err (by omega)]
theorem digit_err (l : Bs) (p : Nat) {e : Int} (he : e ≠ 0) : rdDigit l p e = ((0 : Int), p, e) := by
  unfold rdDigit
  rw [take_err l p he]
  simp only
  rw [if_pos hexv0, fail_err he]

/-- Four digits' number. -/
def num4 (a b c d : Int) : Int := 16 * (16 * (16 * a + b) + c) + d
def okPair (second : Bool) (a b : Int) : Prop := ¬ (second = true ∧ ¬ a = 13) ∧ second = decide (220 ≤ 16 * a + b ∧ 16 * a + b ≤ 223)
theorem half_ok {l : Bs} {p : Nat} {c1 c2 c3 c4 : UInt8} {r : Bs} (second : Bool) (h : l.drop p = c1 :: c2 :: c3 :: c4 :: r)
    (k1 : hexv c1.toNat ≠ 16) (k2 : hexv c2.toNat ≠ 16) (k3 : hexv c3.toNat ≠ 16) (k4 : hexv c4.toNat ≠ 16) (ho : okPair second (hexv c1.toNat) (hexv c2.toNat)) :
    rdHalf l second p 0 = (num4 (hexv c1.toNat) (hexv c2.toNat) (hexv c3.toNat) (hexv c4.toNat), p + 4, (0 : Int)) := by
  have e1 := (drop_cons h).2.2
  have e2 := (drop_cons e1).2.2
  have e3 := (drop_cons e2).2.2
  have g0 : h0 l second p 0 = (hexv c1.toNat, p + 1, (0 : Int)) := by
    unfold h0; rw [digit_cons h k1]; simp only; rw [if_neg ho.1]
  have g1 : h1 l second p 0 = (16 * hexv c1.toNat + hexv c2.toNat, p + 2, (0 : Int)) := by
    unfold h1; rw [g0]; simp only; rw [digit_cons e1 k2]; simp only; rw [if_pos ho.2]
  have g2 : h2 l second p 0 = (16 * (16 * hexv c1.toNat + hexv c2.toNat) + hexv c3.toNat, p + 3, (0 : Int)) := by
    unfold h2; rw [g1]; simp only; rw [digit_cons e2 k3]
  unfold rdHalf
  rw [g2]
  simp only
  rw [digit_cons e3 k4]
  rfl
theorem half_err (l : Bs) (second : Bool) (p : Nat) {e : Int} (he : e ≠ 0) : (rdHalf l second p e).2.2 = e ∧ (rdHalf l second p e).2.1 = p := by
  have g0 : (h0 l second p e).2.2 = e ∧ (h0 l second p e).2.1 = p := by
    unfold h0; rw [digit_err l p he]; simp only; refine ⟨?_, trivial⟩; split
    · exact fail_err he
    · rfl
  have g1 : (h1 l second p e).2.2 = e ∧ (h1 l second p e).2.1 = p := by
    unfold h1; rw [g0.1, g0.2, digit_err l p he]; simp only; refine ⟨?_, trivial⟩; split
    · rfl
    · exact fail_err he
  have g2 : (h2 l second p e).2.2 = e ∧ (h2 l second p e).2.1 = p := by
    unfold h2; rw [g1.1, g1.2, digit_err l p he]; exact ⟨rfl, rfl⟩
  unfold rdHalf; rw [g2.1, g2.2, digit_err l p he]; exact ⟨rfl, rfl⟩
theorem want_ok {l : Bs} {p : Nat} {c : UInt8} {r : Bs} (h : l.drop p = c :: r) : rdWant l c.toNat p 0 = (p + 1, (0 : Int)) := by
  unfold rdWant; rw [take_cons h]; simp
theorem want_bad {l : Bs} {p : Nat} {c : UInt8} {r : Bs} {x : Int} (h : l.drop p = c :: r) (hx : ((c.toNat : Nat) : Int) ≠ x) : rdWant l x p 0 = (p + 1, (41 : Int)) := by
  unfold rdWant; rw [take_cons h]; simp only; rw [if_neg hx]; rfl
theorem want_end {l : Bs} {p : Nat} {x : Int} (hp : p ≤ l.length) (h : l.drop p = []) (hx : x ≠ 0) : rdWant l x p 0 = (p, (3 : Int)) := by
  unfold rdWant; rw [take_end hp h]; simp only; rw [if_neg (Ne.symm hx)]; rfl
theorem want_err (l : Bs) (x : Int) (p : Nat) {e : Int} (he : e ≠ 0) : rdWant l x p e = (p, e) := by
  unfold rdWant; rw [take_err l p he]; simp only; split
  · rfl
  · rw [fail_err he]

/-- A part of a literal, and what it says. -/
inductive Part : Bs → Bs → Prop
  | rune (r : Int) (h : isRune r = true) (h1 : 32 ≤ r) (h2 : r ≠ 34) (h3 : r ≠ 92) : Part (encodeRune r) (encodeRune r)
  | slash : Part [92, 47] [47]
  | short (c : UInt8) (k : Int) (h : unesc c.toNat = some k) : Part [92, c] (encodeRune k)
  | four (c1 c2 c3 c4 : UInt8) (k1 : hexv c1.toNat ≠ 16) (k2 : hexv c2.toNat ≠ 16) (k3 : hexv c3.toNat ≠ 16) (k4 : hexv c4.toNat ≠ 16)
      (ho : okPair false (hexv c1.toNat) (hexv c2.toNat)) (hn : ¬ (55296 ≤ num4 (hexv c1.toNat) (hexv c2.toNat) (hexv c3.toNat) (hexv c4.toNat) ∧ num4 (hexv c1.toNat) (hexv c2.toNat) (hexv c3.toNat) (hexv c4.toNat) < 56320)) :
      Part [92, 117, c1, c2, c3, c4] (encodeRune (num4 (hexv c1.toNat) (hexv c2.toNat) (hexv c3.toNat) (hexv c4.toNat)))
  | pair (c1 c2 c3 c4 d1 d2 d3 d4 : UInt8) (k1 : hexv c1.toNat ≠ 16) (k2 : hexv c2.toNat ≠ 16) (k3 : hexv c3.toNat ≠ 16) (k4 : hexv c4.toNat ≠ 16)
      (j1 : hexv d1.toNat ≠ 16) (j2 : hexv d2.toNat ≠ 16) (j3 : hexv d3.toNat ≠ 16) (j4 : hexv d4.toNat ≠ 16)
      (ho : okPair false (hexv c1.toNat) (hexv c2.toNat)) (hn : 55296 ≤ num4 (hexv c1.toNat) (hexv c2.toNat) (hexv c3.toNat) (hexv c4.toNat) ∧ num4 (hexv c1.toNat) (hexv c2.toNat) (hexv c3.toNat) (hexv c4.toNat) < 56320)
      (hp : okPair true (hexv d1.toNat) (hexv d2.toNat)) :
      Part [92, 117, c1, c2, c3, c4, 92, 117, d1, d2, d3, d4]
        (encodeRune (65536 + (num4 (hexv c1.toNat) (hexv c2.toNat) (hexv c3.toNat) (hexv c4.toNat) - 55296) * 1024 + num4 (hexv d1.toNat) (hexv d2.toNat) (hexv d3.toNat) (hexv d4.toNat) - 56320))

theorem enc_head {r : Int} (h : isRune r = true) : ∃ c t, encodeRune r = c :: t ∧ (r ≤ 127 → ((c.toNat : Nat) : Int) = r) ∧ (128 ≤ r → 128 ≤ c.toNat) := by
  have hl := encodeRune_length r
  obtain ⟨c, t, e⟩ := List.exists_cons_of_ne_nil (l := encodeRune r) (by intro e; rw [e] at hl; simp at hl)
  refine ⟨c, t, e, fun h1 => ?_, fun h1 => ?_⟩
  · have hb := (isRune_iff r).1 h
    rw [enc_ascii (by omega) h1] at e
    injection e with e1 _
    rw [← e1]; exact u8_nat (by omega) h1
  · exact enc_high h h1 c (by rw [e]; simp)
theorem unesc_lt {c k : Int} (h : unesc c = some k) : c ≠ 47 ∧ c ≠ 117 ∧ 0 ≤ k ∧ k < 128 := by
  unfold unesc at h
  repeat' split at h
  all_goals first | (cases h; done) | (injection h with h; omega)

/-- The loop goes over a part. -/
theorem go_part {l q t rest : Bs} (hq : Part q t) {p n : Nat} {acc : Bs} (h : l.drop p = q ++ rest) : uqGo l (n + 1) acc p 0 = uqGo l n (acc ++ t) (p + q.length) 0 := by
  cases hq with
  | rune r hr h1 h2 h3 =>
    obtain ⟨c, tl, e, ea, eh⟩ := enc_head hr
    have hc := h
    rw [e, List.cons_append] at hc
    obtain ⟨g1, g2, _⟩ := drop_cons hc
    have hb := (isRune_iff r).1 hr
    have hx : 32 ≤ c.toNat ∧ c.toNat ≠ 34 ∧ c.toNat ≠ 92 := by
      by_cases c1 : r ≤ 127
      · have := ea c1; omega
      · have := eh (by omega); omega
    rw [uqGo_succ, if_pos rfl, if_neg (by omega), if_neg (by omega), if_neg (by omega)]
    have hn := next_enc r rest hr
    have hp : rdPlain l p 0 = (encodeRune r, p + (encodeRune r).length, (0 : Int)) := by
      unfold rdPlain
      rw [if_neg (by omega), h, hn]
      simp
    rw [hp]
  | slash =>
    obtain ⟨g1, g2, g3⟩ := drop_cons h
    rw [uqGo_succ, if_pos rfl, if_neg (by omega), if_neg (by rw [g2]; decide), if_pos (by rw [g2]; rfl)]
    have he : rdEscape l (p + 1) 0 = ([47], p + 2, (0 : Int)) := by
      unfold rdEscape
      simp only [take_cons g3]
      rfl
    rw [he]
    rfl
  | short c k hk =>
    obtain ⟨g1, g2, g3⟩ := drop_cons h
    rw [uqGo_succ, if_pos rfl, if_neg (by omega), if_neg (by rw [g2]; decide), if_pos (by rw [g2]; rfl)]
    have he : rdEscape l (p + 1) 0 = (encodeRune k, p + 2, (0 : Int)) := by
      unfold rdEscape
      simp only [take_cons g3]
      rw [if_neg (unesc_lt hk).1, hk]
    rw [he]
    rfl
  | four c1 c2 c3 c4 k1 k2 k3 k4 ho hn =>
    obtain ⟨g1, g2, g3⟩ := drop_cons h
    obtain ⟨_, _, g4⟩ := drop_cons g3
    rw [uqGo_succ, if_pos rfl, if_neg (by omega), if_neg (by rw [g2]; decide), if_pos (by rw [g2]; rfl)]
    have hh := half_ok false g4 k1 k2 k3 k4 ho
    have he : rdEscape l (p + 1) 0 = (encodeRune (num4 (hexv c1.toNat) (hexv c2.toNat) (hexv c3.toNat) (hexv c4.toNat)), p + 6, (0 : Int)) := by
      unfold rdEscape rdLong
      simp only [take_cons g3]
      rw [if_neg (by decide)]
      simp only [show (((117 : UInt8).toNat : Nat) : Int) = 117 from rfl, if_true, show unesc 117 = none from by decide]
      rw [hh]
      simp only
      rw [if_neg hn]
      rfl
    rw [he]
    rfl
  | pair c1 c2 c3 c4 d1 d2 d3 d4 k1 k2 k3 k4 j1 j2 j3 j4 ho hn hp =>
    obtain ⟨g1, g2, g3⟩ := drop_cons h
    obtain ⟨_, _, g4⟩ := drop_cons g3
    have g5 : l.drop (p + 1 + 1 + 4) = 92 :: 117 :: d1 :: d2 :: d3 :: d4 :: rest := by
      have := drop_app (q := [c1, c2, c3, c4]) (r := 92 :: 117 :: d1 :: d2 :: d3 :: d4 :: rest) (p := p + 1 + 1) (l := l) (by rw [g4]; rfl)
      exact this
    obtain ⟨_, _, g6⟩ := drop_cons g5
    obtain ⟨_, _, g7⟩ := drop_cons g6
    rw [uqGo_succ, if_pos rfl, if_neg (by omega), if_neg (by rw [g2]; decide), if_pos (by rw [g2]; rfl)]
    have hh := half_ok false g4 k1 k2 k3 k4 ho
    have hh2 := half_ok true g7 j1 j2 j3 j4 hp
    have w1 : rdWant l 92 (p + 1 + 1 + 4) 0 = (p + 1 + 1 + 4 + 1, (0 : Int)) := want_ok g5
    have w2 : rdWant l 117 (p + 1 + 1 + 4 + 1) 0 = (p + 1 + 1 + 4 + 1 + 1, (0 : Int)) := want_ok g6
    have he : rdEscape l (p + 1) 0 = (encodeRune (65536 + (num4 (hexv c1.toNat) (hexv c2.toNat) (hexv c3.toNat) (hexv c4.toNat) - 55296) * 1024 + num4 (hexv d1.toNat) (hexv d2.toNat) (hexv d3.toNat) (hexv d4.toNat) - 56320), p + 12, (0 : Int)) := by
      unfold rdEscape rdLong rdPair
      simp only [take_cons g3]
      rw [if_neg (by decide)]
      simp only [show (((117 : UInt8).toNat : Nat) : Int) = 117 from rfl, if_true, show unesc 117 = none from by decide]
      rw [hh]
      simp only
      rw [if_pos hn, w1]
      simp only
      rw [w2]
      simp only
      rw [hh2]
      simp
    rw [he]
    rfl
end Go.Ms
namespace Go.Ms
open Go.Lib

/-- A row of parts, and what it says. -/
inductive Lits : Nat → Bs → Bs → Prop
  | nil : Lits 0 [] []
  | cons {n : Nat} {q t q' t' : Bs} (h : Part q t) (h' : Lits n q' t') : Lits (n + 1) (q ++ q') (t ++ t')

theorem Part.pos {q t : Bs} (h : Part q t) : 1 ≤ q.length := by
  cases h
  case rune r _ _ _ _ => exact (encodeRune_length r).1
  all_goals simp
theorem Lits.le {k : Nat} {q t : Bs} (h : Lits k q t) : k ≤ q.length := by
  induction h with
  | nil => simp
  | cons h _ ih => have := h.pos; simp only [List.length_append]; omega
theorem Lits.app {k : Nat} {q t : Bs} (h : Lits k q t) {k' : Nat} {q' t' : Bs} (h' : Lits k' q' t') : ∃ m, Lits m (q ++ q') (t ++ t') := by
  induction h with
  | nil => exact ⟨_, h'⟩
  | cons h _ ih => obtain ⟨m, hm⟩ := ih; exact ⟨m + 1, by rw [List.append_assoc, List.append_assoc]; exact .cons h hm⟩
theorem Lits.one {q t : Bs} (h : Part q t) : Lits 1 q t := by
  have := Lits.cons h .nil
  simpa using this

theorem go_lits {l q t : Bs} {k : Nat} (h : Lits k q t) : ∀ {p n : Nat} {acc rest : Bs}, l.drop p = q ++ rest → uqGo l (n + k) acc p 0 = uqGo l n (acc ++ t) (p + q.length) 0 := by
  induction h with
  | nil => intro p n acc rest _; simp
  | cons h _ ih =>
    intro p n acc rest hd
    rw [List.append_assoc] at hd
    rw [← Nat.add_assoc, go_part h hd, ih (drop_app hd)]
    simp [Nat.add_assoc]
theorem go_quote {l : Bs} {p n : Nat} {acc more : Bs} (h : l.drop p = 34 :: more) : uqGo l (n + 1) acc p 0 = (acc, p + 1, 0) := by
  obtain ⟨h1, h2, _⟩ := drop_cons h
  rw [uqGo_succ, if_pos rfl, if_neg (by omega), if_pos (by rw [h2]; rfl)]
theorem go_err (l : Bs) (n : Nat) (acc : Bs) (p : Nat) {e : Int} (he : e ≠ 0) : uqGo l (n + 1) acc p e = ([], 0, e) := by
  rw [uqGo_succ, if_neg he]
theorem unquote_lits {k : Nat} {q t more : Bs} (h : Lits k q t) : unquoteD (34 :: (q ++ 34 :: more)) = (t, q.length + 2, 0) := by
  have hk := h.le
  have hw : rdWant (34 :: (q ++ 34 :: more)) 34 0 0 = (1, 0) := want_ok (c := 34) (r := q ++ 34 :: more) rfl
  unfold unquoteD
  rw [hw]
  show uqGo _ _ [] 1 0 = _
  obtain ⟨m, hm⟩ : ∃ m, (34 :: (q ++ 34 :: more)).length + 2 = (m + 1) + k := ⟨q.length + more.length + 3 - k, by simp; omega⟩
  have hd : (34 :: (q ++ 34 :: more)).drop 1 = q ++ 34 :: more := rfl
  rw [hm, go_lits h hd, go_quote (drop_app hd)]
  simp; omega

theorem dig_hex : ∀ k : Fin 16, hexv ((hexd k.val).toNat : Int) = (k.val : Int) := by decide
theorem unesc_esc2 {r x : Int} (h : esc2 r = some x) : unesc ((x.toNat.toUInt8).toNat : Int) = some r := by
  unfold esc2 at h
  repeat' split at h
  all_goals first | (cases h; done) | (injection h with h; subst h; subst_vars; rfl)
/-- A rune's piece of the tidy literal is a part that says it. -/
theorem part_q {r : Int} (h : isRune r = true) : Part ((encodeRune r).flatMap qb) (encodeRune r) := by
  cases hx : esc2 r with
  | some x => rw [q_esc h hx]; exact .short _ _ (unesc_esc2 hx)
  | none =>
    have hb := (isRune_iff r).1 h
    by_cases h1 : r < 32
    · rw [q_hex (by omega) hx h1]
      have e1 := dig_hex ⟨r.toNat / 16, by omega⟩
      have e2 := dig_hex ⟨r.toNat % 16, by omega⟩
      simp only at e1 e2
      have hn : num4 (hexv ((48 : UInt8).toNat : Int)) (hexv ((48 : UInt8).toNat : Int)) (hexv ((hexd (r.toNat / 16)).toNat : Int)) (hexv ((hexd (r.toNat % 16)).toNat : Int)) = r := by
        rw [e1, e2, show hexv ((48 : UInt8).toNat : Int) = 0 from by decide]
        unfold num4; omega
      have := Part.four 48 48 (hexd (r.toNat / 16)) (hexd (r.toNat % 16)) (by decide) (by decide) (by rw [e1]; omega) (by rw [e2]; omega) (by unfold okPair; decide) (by rw [hn]; omega)
      rwa [hn] at this
    · rw [q_plain h hx h1]
      refine .rune r h (by omega) (fun e => ?_) (fun e => ?_)
      all_goals (subst e; simp [esc2] at hx)
theorem lits_q : ∀ (n : Nat) (t : Bs), t.length ≤ n → validD t = true → ∃ k, Lits k (t.flatMap qb) t := by
  intro n
  induction n with
  | zero => intro t h _; have : t = [] := List.eq_nil_of_length_eq_zero (by omega); subst this; exact ⟨0, .nil⟩
  | succ n ih =>
    intro t h hv
    by_cases ht : t = []
    · subst ht; exact ⟨0, .nil⟩
    obtain ⟨r, h1, _, h3, h4⟩ := valid_first t ht hv
    have hl := (encodeRune_length r).1
    obtain ⟨k, hk⟩ := ih (t.drop (encodeRune r).length) (by simp; omega) h4
    refine ⟨k + 1, ?_⟩
    have := Lits.cons (part_q h1) hk
    rw [← List.flatMap_append, ← h3] at this
    exact this
/-- A text is read of its tidy literal as it was, whatever stands behind. -/
theorem unquote_quote {t : Bs} (more : Bs) (h : validD t = true) : unquoteD (quoteD t ++ more) = (t, (quoteD t).length, 0) := by
  obtain ⟨k, hk⟩ := lits_q t.length t (Nat.le_refl _) h
  have := unquote_lits (more := more) hk
  unfold quoteD
  simpa using this
end Go.Ms
namespace Go.Ms
open Go.Lib
def hexS : Bs := [48, 49, 50, 51, 52, 53, 54, 55, 56, 57, 97, 98, 99, 100, 101, 102]
/-- A digit's number, or 0. -/
def hx (c : UInt8) : Int := max 0 (indexByte hexS c)
theorem hx_all : ∀ c : Fin 256, 0 ≤ hx c.val.toUInt8 ∧ hx c.val.toUInt8 < 16 := by decide +kernel
theorem hx_bd (c : UInt8) : 0 ≤ hx c ∧ hx c < 16 := by
  have := hx_all ⟨c.toNat, UInt8.toNat_lt c⟩
  simpa using this
def unhexG : Bs → Bs
  | a :: b :: t => (16 * hx a + hx b).toNat.toUInt8 :: unhexG t
  | _ => []
def unhexD (l : Bs) : Bs := unhexG (trimPrefix l [120])
theorem unhexG_short {l : Bs} (h : l.length ≤ 1) : unhexG l = [] := by
  match l, h with
  | [], _ => rfl
  | [a], _ => rfl
end Go.Ms
namespace Go.Ms
theorem xor63 (a : Nat) (h : a < 18446744073709551616) : a ^^^ 9223372036854775808 = if a < 9223372036854775808 then a + 9223372036854775808 else a - 9223372036854775808 := by
  have hm : (a ^^^ 9223372036854775808) % 9223372036854775808 = a % 9223372036854775808 := by
    have := Nat.xor_mod_two_pow (a := a) (b := 9223372036854775808) (n := 63)
    rw [show (2 : Nat) ^ 63 = 9223372036854775808 from rfl] at this
    rw [this, Nat.mod_self, Nat.xor_zero]
  have hd : (a ^^^ 9223372036854775808) / 9223372036854775808 = (a / 9223372036854775808) ^^^ 1 := by
    have := Nat.xor_div_two_pow (a := a) (b := 9223372036854775808) (n := 63)
    rw [show (2 : Nat) ^ 63 = 9223372036854775808 from rfl] at this
    rw [this, Nat.div_self (by omega)]
  by_cases c : a < 9223372036854775808
  · rw [if_pos c]
    rw [Nat.div_eq_of_lt c, Nat.zero_xor] at hd
    omega
  · rw [if_neg c]
    have h1 : a / 9223372036854775808 = 1 := by omega
    rw [h1, Nat.xor_self] at hd
    omega
/-- The sign's bit turned: a number with a sign, moved up. -/
theorem flip_up (n : Int) (h0 : -9223372036854775808 ≤ n) (h1 : n ≤ 9223372036854775807) : bits .xor .u64 (IntKind.u64.wrap n) 9223372036854775808 = n + 9223372036854775808 := by
  have hw : IntKind.u64.wrap n = if n < 0 then n + 18446744073709551616 else n := by
    rw [IntKind.wrap_u64]; split <;> omega
  rw [hw]
  by_cases c : n < 0
  · rw [if_pos c, u64_xor _ _ (by omega) (by omega) (by omega) (by omega), show (9223372036854775808 : Int).toNat = 9223372036854775808 from rfl, xor63 _ (by omega), if_neg (by omega)]
    omega
  · rw [if_neg c, u64_xor _ _ (by omega) (by omega) (by omega) (by omega), show (9223372036854775808 : Int).toNat = 9223372036854775808 from rfl, xor63 _ (by omega), if_pos (by omega)]
    omega
/-- And back. -/
theorem flip_down (u : Int) (h0 : 0 ≤ u) (h1 : u < 18446744073709551616) : IntKind.i64.wrap (bits .xor .u64 u 9223372036854775808) = u - 9223372036854775808 := by
  rw [u64_xor _ _ h0 h1 (by omega) (by omega), show (9223372036854775808 : Int).toNat = 9223372036854775808 from rfl, xor63 _ (by omega), IntKind.wrap_i64]
  split <;> omega
end Go.Ms
namespace Go.Ms
open Go.Lib
/-- A text's tidy literal, or nothing. -/
def kQuote (l : Bs) : Bs := if validD l = true then quoteD l else []
/-- The number that ParseInt answers first. -/
def kWhole (l : Bs) : Int := match parseIntB 64 l with
  | .ok v => v
  | .range => intSat 64 l
  | _ => 0
def kTrue : Bs := [116, 114, 117, 101]
def kNull : Bs := [110, 117, 108, 108]
def kBe (l : Bs) : Nat := l.foldl (fun u c => 256 * u + c.toNat) 0
def kNum8 (U : Int) : List Int := [U / 72057594037927936, U / 281474976710656 % 256, U / 1099511627776 % 256, U / 4294967296 % 256, U / 16777216 % 256, U / 65536 % 256, U / 256 % 256, U % 256]
def kNum (U : Int) : Bs := (kNum8 U).map fun x => UInt8.ofNat x.toNat
def kMay (k : Int) : Bool := decide (1 ≤ k) && decide (k ≤ 5)
/-- Is a cell that is not nothing of the kind? -/
def kIs (k n : Int) (s : Bs) : Bool :=
  if k = 1 then decide (s = []) && decide (0 ≤ n) && decide (n ≤ 1)
  else if k = 2 then decide (s = []) && decide (-2147483648 ≤ n) && decide (n ≤ 2147483647)
  else if k = 3 then decide (s = []) && decide (-9223372036854775808 ≤ n) && decide (n ≤ 9223372036854775807)
  else if k = 4 then decide (n = 0) && decide (s.length ≤ 1024) && validD s
  else decide (n = 0) && decide (s.length ≤ 1024)
def kOk (k : Int) (tn nu : Bool) (n : Int) (s : Bs) : Bool := if nu = true then tn && decide (n = 0) && decide (s = []) else kIs k n s
def kCheck (k : Int) (tn nu : Bool) (n : Int) (s : Bs) : Int := if kMay k = true then (if kOk k tn nu n s = true then 0 else 90) else 2
def kText (k n : Int) (s : Bs) : Bs := if k = 1 then formatBool (n == 1) else if k = 2 ∨ k = 3 then itoa n else if k = 4 then kQuote s else hexD s
def kTextD (k : Int) (tn nu : Bool) (n : Int) (s : Bs) : Bs := if kCheck k tn nu n s = 0 then (if nu = true then kNull else kText k n s) else []
def kBits (k n : Int) (s : Bs) : Bs := if k = 1 then [UInt8.ofNat n.toNat] else if k = 2 ∨ k = 3 then kNum (n + 9223372036854775808) else rowD s
def kBitsD (k : Int) (tn nu : Bool) (n : Int) (s : Bs) : Bs := if kCheck k tn nu n s = 0 then (if nu = true then [0] else if tn = true then 1 :: kBits k n s else kBits k n s) else []
/-- The number, and the text, that a kind's reader makes of a text. -/
def kRead (k : Int) (l : Bs) : Int × Bs := if k = 1 then (if l = kTrue then 1 else 0, []) else if k = 2 ∨ k = 3 then (kWhole l, []) else if k = 4 then (0, (unquoteD l).1) else (0, unhexD l)
def kGuess (k : Int) (l : Bs) : Bool × Int × Bs := if l = kNull then (true, 0, []) else (false, (kRead k l).1, (kRead k l).2)
def kReadD (k : Int) (tn : Bool) (l : Bs) : (Bool × Int × Bs) × Int :=
  if kMay k = true then (if kCheck k tn (kGuess k l).1 (kGuess k l).2.1 (kGuess k l).2.2 = 0 ∧ kTextD k tn (kGuess k l).1 (kGuess k l).2.1 (kGuess k l).2.2 = l then (kGuess k l, 0) else ((false, 0, []), 4)) else ((false, 0, []), 2)
def kUnbool (l : Bs) : Int × Nat × Int := if l = [] then (0, 0, 3) else if 1 < bt l 0 then (0, 0, 4) else ((bt l 0 : Nat), 1, 0)
def kUnnum (l : Bs) : Int × Nat × Int := if l.length < 8 then (0, 0, 3) else ((kBe (l.take 8) : Int) - 9223372036854775808, 8, 0)
/-- What a kind takes off: number, text, how many bytes, an error. -/
def kUn (k : Int) (l : Bs) : Int × Bs × Nat × Int := if k = 1 then ((kUnbool l).1, [], (kUnbool l).2.1, (kUnbool l).2.2) else if k = 2 ∨ k = 3 then ((kUnnum l).1, [], (kUnnum l).2.1, (kUnnum l).2.2) else (0, (unrowD l).1, (unrowD l).2.1, (unrowD l).2.2)
def kFin (k : Int) (tn : Bool) (d : Nat) (x : Int × Bs × Nat × Int) : (Bool × Int × Bs) × Nat × Int :=
  if x.2.2.2 = 0 then (if kCheck k tn false x.1 x.2.1 = 0 then ((false, x.1, x.2.1), d + x.2.2.1, 0) else ((false, 0, []), 0, 4)) else ((false, 0, []), 0, x.2.2.2)
def kUnD (k : Int) (tn : Bool) (l : Bs) : (Bool × Int × Bs) × Nat × Int :=
  if kMay k = true then
    (if tn = true then (if (kUnbool l).2.2 = 0 then (if (kUnbool l).1 = 0 then ((true, 0, []), 1, 0) else kFin k tn 1 (kUn k (l.drop 1))) else ((false, 0, []), 0, (kUnbool l).2.2))
     else kFin k tn 0 (kUn k l))
  else ((false, 0, []), 0, 2)
def kCmpN (a b : Int) : Int := if a < b then -1 else if b < a then 1 else 0
def kCmp (an : Bool) (a : Int) (s : Bs) (bn : Bool) (b : Int) (t : Bs) : Int :=
  if an = bn then (if kCmpN a b = 0 then compareBytes s t else kCmpN a b) else if an = true then -1 else 1
theorem kqb_len (c : UInt8) : (qb c).length ≤ 6 := by
  unfold qb
  repeat' split
  all_goals simp
theorem kflat_len (l : Bs) : (l.flatMap qb).length ≤ 6 * l.length := by
  induction l with
  | nil => simp
  | cons a t ih => rw [List.flatMap_cons, List.length_append, List.length_cons]; have := kqb_len a; omega
end Go.Ms
namespace Go.Ms
open Go.Lib
theorem pu_app (M : Nat) : ∀ (l r : Bs) (acc : Nat), parseUintM M acc (l ++ r) = match parseUintM M acc l with
    | .ok a => parseUintM M a r
    | e => e
  | [], r, acc => rfl
  | c :: l, r, acc => by
    rw [List.cons_append, parseUintM, parseUintM]
    split
    · split
      · rfl
      · split
        · rfl
        · exact pu_app M l r _
    · rfl
theorem pu_dec : ∀ (u : Nat), u ≤ 18446744073709551615 → parseUintM 18446744073709551615 0 (decDigits u) = .ok u := by
  intro u
  induction u using Nat.strongRecOn with
  | _ u ih =>
    intro hu
    by_cases h : u < 10
    · rw [decDigits, dif_pos h]
      have e : (UInt8.ofNat (48 + u)).toNat = 48 + u := by simp; omega
      simp only [parseUintM, e]
      rw [if_pos ⟨by omega, by omega⟩, if_neg (by omega), if_neg (by omega)]
      congr 1; omega
    · rw [decDigits, dif_neg h, pu_app, ih (u / 10) (by omega) (by omega)]
      have e : (UInt8.ofNat (48 + u % 10)).toNat = 48 + u % 10 := by simp; omega
      simp only [parseUintM, e]
      rw [if_pos ⟨by omega, by omega⟩, if_neg (by omega), if_neg (by omega)]
      congr 1; omega
theorem dec_ne (u : Nat) : decDigits u ≠ [] := by
  rw [decDigits]; split <;> simp
theorem dec_head (u : Nat) : ∃ c r, decDigits u = c :: r ∧ 48 ≤ c.toNat ∧ c.toNat ≤ 57 := by
  induction u using Nat.strongRecOn with
  | _ u ih =>
    by_cases h : u < 10
    · rw [decDigits, dif_pos h]
      have e : (UInt8.ofNat (48 + u)).toNat = 48 + u := by simp; omega
      exact ⟨_, _, rfl, by omega, by omega⟩
    · rw [decDigits, dif_neg h]
      obtain ⟨c, r, h1, h2⟩ := ih (u / 10) (by omega)
      rw [h1]
      exact ⟨c, _, rfl, h2⟩
theorem pb_dec (u : Nat) (h : u ≤ 18446744073709551615) : parseUintB 64 (decDigits u) = .ok u := by
  unfold parseUintB
  rw [if_neg (dec_ne u), show (2 : Nat) ^ 64 - 1 = 18446744073709551615 by decide, pu_dec u h]
theorem whole_itoa {n : Int} (h0 : -9223372036854775808 ≤ n) (h1 : n ≤ 9223372036854775807) : kWhole (itoa n) = n := by
  have e : (2 : Nat) ^ (64 - 1) = 9223372036854775808 := by decide
  unfold kWhole itoa
  by_cases hn : n < 0
  · rw [if_pos hn, parseIntB_minus, pb_dec _ (by omega), e]
    simp only [signedC]
    rw [if_neg (by omega)]
    simp only
    omega
  · rw [if_neg hn]
    obtain ⟨c, r, hc, h2, h3⟩ := dec_head n.toNat
    rw [hc, parseIntB_plain 64 c r (by omega) (by omega), ← hc, pb_dec _ (by omega), e]
    simp only [signlessC]
    rw [if_neg (by omega)]
    simp only
    omega

theorem hx_low : ∀ k : Fin 256, 16 * hx ((hexb k.val.toUInt8).getD 0 0) + hx ((hexb k.val.toUInt8).getD 1 0) = k.val := by decide +kernel
theorem unhexG_hex : ∀ l : Bs, unhexG (l.flatMap hexb) = l
  | [] => rfl
  | c :: l => by
    have h := hx_low ⟨c.toNat, UInt8.toNat_lt c⟩
    simp only [UInt8.ofNat_toNat, Nat.toUInt8] at h
    obtain ⟨a, b, hab⟩ : ∃ a b, hexb c = [a, b] := ⟨_, _, rfl⟩
    rw [List.flatMap_cons, hab]
    rw [hab] at h
    have h' : 16 * hx a + hx b = (c.toNat : Int) := h
    show (16 * hx a + hx b).toNat.toUInt8 :: unhexG (l.flatMap hexb) = _
    rw [h', unhexG_hex l]
    simp
theorem unhex_hex (l : Bs) : unhexD (hexD l) = l := by
  unfold unhexD hexD
  have : trimPrefix (120 :: l.flatMap hexb) [120] = l.flatMap hexb := by simp [trimPrefix, hasPrefix]
  rw [this, unhexG_hex]

theorem drop_hd {l r : Bs} {i : Nat} {c : UInt8} (h : l.drop i = c :: r) : i < l.length ∧ bt l i = c.toNat ∧ l.drop (i + 1) = r ∧ l.getD i 0 = c := by
  have hp : i < l.length := by
    rcases Nat.lt_or_ge i l.length with h1 | h1
    · exact h1
    · rw [List.drop_of_length_le h1] at h; cases h
  rw [List.drop_eq_getElem_cons hp] at h
  injection h with h1 h2
  have hg : l.getD i 0 = c := by rw [List.getD_eq_getElem?_getD, List.getElem?_eq_getElem hp, ← h1]; rfl
  exact ⟨hp, by unfold bt; rw [hg], h2, hg⟩
theorem unrow_go {l m : Bs} : ∀ (s acc : Bs) (f i : Nat), l.drop i = escD s ++ 0 :: 0 :: m → acc.length + s.length ≤ 1024 → s.length < f → unrowG l f i acc = (acc ++ s, i + (escD s).length + 2, 0)
  | [], acc, f, i, h, hl, hf => by
    obtain ⟨f, rfl⟩ : ∃ g, f = g + 1 := ⟨f - 1, by simp at hf; omega⟩
    have h' : l.drop i = 0 :: 0 :: m := h
    obtain ⟨h1, h2, h3, _⟩ := drop_hd h'
    obtain ⟨h4, h5, _, _⟩ := drop_hd h3
    have h2' : bt l i = 0 := h2
    have h5' : bt l (i + 1) = 0 := h5
    rw [unrowG_succ, if_neg (by omega), if_pos h2', if_neg (by omega), if_pos h5']
    simp [escD]
  | c :: s, acc, f, i, h, hl, hf => by
    obtain ⟨f, rfl⟩ : ∃ g, f = g + 1 := ⟨f - 1, by simp at hf; omega⟩
    simp only [List.length_cons] at hl hf
    by_cases hc : c = 0
    · subst hc
      have he : escD ((0 : UInt8) :: s) = 0 :: 255 :: escD s := rfl
      rw [he] at h ⊢
      obtain ⟨h1, h2, h3, _⟩ := drop_hd h
      obtain ⟨h4, h5, h6, _⟩ := drop_hd h3
      have h5' : bt l (i + 1) = 255 := h5
      have h2' : bt l i = 0 := h2
      rw [unrowG_succ, if_neg (by omega), if_pos h2', if_neg (by omega), if_neg (by omega), if_pos h5', if_neg (by omega)]
      rw [unrow_go s (acc ++ [0]) f (i + 2) h6 (by simp; omega) (by omega)]
      simp; omega
    · have he : escD (c :: s) = c :: escD s := by unfold escD; rw [List.flatMap_cons]; unfold escb; rw [if_neg hc]; rfl
      rw [he] at h ⊢
      obtain ⟨h1, h2, h3, h4⟩ := drop_hd h
      have hcn : ¬ c.toNat = 0 := fun e => hc (UInt8.toNat_inj.1 e)
      rw [unrowG_succ, if_neg (by omega), if_neg (by omega), if_neg (by omega), h4]
      rw [unrow_go s (acc ++ [c]) f (i + 1) h3 (by simp; omega) (by omega)]
      simp; omega
theorem escD_ge (l : Bs) : l.length ≤ (escD l).length := by
  induction l with
  | nil => simp
  | cons c l ih =>
    unfold escD at ih ⊢
    rw [List.flatMap_cons, List.length_append, List.length_cons]
    have : 1 ≤ (escb c).length := by unfold escb; split <;> simp
    omega
theorem unrow_row {s : Bs} (m : Bs) (h : s.length ≤ 1024) : unrowD (rowD s ++ m) = (s, (rowD s).length, 0) := by
  unfold unrowD
  have hge := escD_ge s
  rw [unrow_go (l := rowD s ++ m) (m := m) s [] _ 0 (by unfold rowD; simp) (by simpa using h) (by unfold rowD; simp; omega)]
  unfold rowD; simp

theorem u8n {x : Int} (h0 : 0 ≤ x) (h1 : x < 256) : ((UInt8.ofNat x.toNat).toNat : Int) = x := by simp; omega
theorem be_num {U : Int} (h0 : 0 ≤ U) (h1 : U < 18446744073709551616) : (kBe (kNum U) : Int) = U := by
  unfold kNum kNum8 kBe
  simp only [List.map_cons, List.map_nil, List.foldl_cons, List.foldl_nil]
  have e1 := u8n (x := U / 72057594037927936) (by omega) (by omega)
  have e2 := u8n (x := U / 281474976710656 % 256) (by omega) (by omega)
  have e3 := u8n (x := U / 1099511627776 % 256) (by omega) (by omega)
  have e4 := u8n (x := U / 4294967296 % 256) (by omega) (by omega)
  have e5 := u8n (x := U / 16777216 % 256) (by omega) (by omega)
  have e6 := u8n (x := U / 65536 % 256) (by omega) (by omega)
  have e7 := u8n (x := U / 256 % 256) (by omega) (by omega)
  have e8 := u8n (x := U % 256) (by omega) (by omega)
  generalize (UInt8.ofNat (U / 72057594037927936).toNat).toNat = a at *
  generalize (UInt8.ofNat (U / 281474976710656 % 256).toNat).toNat = b at *
  generalize (UInt8.ofNat (U / 1099511627776 % 256).toNat).toNat = c at *
  generalize (UInt8.ofNat (U / 4294967296 % 256).toNat).toNat = d at *
  generalize (UInt8.ofNat (U / 16777216 % 256).toNat).toNat = e at *
  generalize (UInt8.ofNat (U / 65536 % 256).toNat).toNat = f at *
  generalize (UInt8.ofNat (U / 256 % 256).toNat).toNat = g at *
  generalize (UInt8.ofNat (U % 256).toNat).toNat = h at *
  omega
theorem num_len (U : Int) : (kNum U).length = 8 := rfl
end Go.Ms
namespace Go.Ms
open Go.Lib
theorem escD_app (a b : Bs) : escD (a ++ b) = escD a ++ escD b := by unfold escD; rw [List.flatMap_append]
theorem take_add2 {l : Bs} {i : Nat} {c : UInt8} (h : i < l.length) (hc : l.getD i 0 = c) : l.take (i + 1) = l.take i ++ [c] := by
  rw [List.take_succ_eq_append_getElem h]
  rw [List.getD_eq_getElem?_getD, List.getElem?_eq_getElem h] at hc
  simp at hc
  rw [hc]
theorem bt_eq {l : Bs} {i : Nat} {n : Nat} (hn : n < 256) (h : bt l i = n) : l.getD i 0 = UInt8.ofNat n := by
  unfold bt at h
  rw [← h]; simp
theorem unrow_back {l : Bs} : ∀ (f i : Nat) (acc s : Bs) (n : Nat), unrowG l f i acc = (s, n, 0) → escD acc = l.take i → i ≤ l.length → acc.length ≤ 1024 → n ≤ l.length ∧ rowD s = l.take n ∧ s.length ≤ 1024
  | 0, i, acc, s, n, h, _, _, _ => by simp [unrowG] at h
  | f + 1, i, acc, s, n, h, he, hi, ha => by
    rw [unrowG_succ] at h
    split at h
    · cases h
    rename_i h1
    split at h
    · rename_i h2
      split at h
      · cases h
      rename_i h3
      split at h
      · rename_i h4
        have g1 := take_add2 (l := l) (i := i) (by omega) (bt_eq (by omega) h2)
        have g2 := take_add2 (l := l) (i := i + 1) (by omega) (bt_eq (by omega) h4)
        injection h with h5 h6
        injection h6 with h7 h8
        subst h5 h7
        refine ⟨by omega, ?_, ha⟩
        unfold rowD
        rw [show i + 2 = i + 1 + 1 by omega, g2, g1, he]
        simp
      · split at h
        · rename_i h4 h5
          split at h
          · cases h
          · rename_i h6
            have g1 := take_add2 (l := l) (i := i) (by omega) (bt_eq (by omega) h2)
            have g2 := take_add2 (l := l) (i := i + 1) (by omega) (bt_eq (by omega) h5)
            refine unrow_back f (i + 2) (acc ++ [0]) s n h ?_ (by omega) (by simp; omega)
            rw [escD_app, show i + 2 = i + 1 + 1 by omega, g2, g1, he]
            simp [escD, escb]
        · cases h
    · rename_i h2
      split at h
      · cases h
      · rename_i h6
        refine unrow_back f (i + 1) (acc ++ [l.getD i 0]) s n h ?_ (by omega) (by simp; omega)
        rw [escD_app, take_add2 (by omega) rfl, he]
        have hne : ¬ l.getD i 0 = 0 := fun e => h2 (by unfold bt; rw [e]; rfl)
        show _ ++ List.flatMap escb [l.getD i 0] = _
        rw [List.flatMap_cons, List.flatMap_nil, List.append_nil]
        unfold escb
        rw [if_neg hne]
theorem row_unrow {l s : Bs} {n : Nat} (h : unrowD l = (s, n, 0)) : n ≤ l.length ∧ rowD s = l.take n ∧ s.length ≤ 1024 :=
  unrow_back _ 0 [] s n h (by simp [escD]) (by omega) (by simp)
theorem unrow_err {l : Bs} : ∀ (f i : Nat) (acc : Bs), (unrowG l f i acc).2.2 ≠ 0 → (unrowG l f i acc).1 = [] ∧ (unrowG l f i acc).2.1 = 0
  | 0, _, _, _ => ⟨rfl, rfl⟩
  | f + 1, i, acc, h => by
    rw [unrowG_succ] at h ⊢
    repeat' split
    all_goals first | exact ⟨rfl, rfl⟩ | skip
    all_goals simp_all
    all_goals exact unrow_err f _ _ h
theorem num_be {l : Bs} (h : l.length = 8) : kNum (kBe l) = l := by
  match l, h with
  | [a, b, c, d, e, f, g, i], _ =>
    have ha := UInt8.toNat_lt a; have hb := UInt8.toNat_lt b; have hc := UInt8.toNat_lt c; have hd := UInt8.toNat_lt d
    have he := UInt8.toNat_lt e; have hf := UInt8.toNat_lt f; have hg := UInt8.toNat_lt g; have hi := UInt8.toNat_lt i
    have key : ∀ (x : UInt8) (y : Int), y = (x.toNat : Int) → UInt8.ofNat y.toNat = x := by intro x y hy; subst hy; simp
    unfold kNum kNum8 kBe
    simp only [List.map_cons, List.map_nil, List.foldl_cons, List.foldl_nil]
    rw [key a _ (by omega), key b _ (by omega), key c _ (by omega), key d _ (by omega), key e _ (by omega), key f _ (by omega), key g _ (by omega), key i _ (by omega)]
theorem be_bd {l : Bs} (h : l.length = 8) : kBe l < 18446744073709551616 := by
  match l, h with
  | [a, b, c, d, e, f, g, i], _ =>
    have ha := UInt8.toNat_lt a; have hb := UInt8.toNat_lt b; have hc := UInt8.toNat_lt c; have hd := UInt8.toNat_lt d
    have he := UInt8.toNat_lt e; have hf := UInt8.toNat_lt f; have hg := UInt8.toNat_lt g; have hi := UInt8.toNat_lt i
    unfold kBe
    simp only [List.foldl_cons, List.foldl_nil]
    omega
end Go.Ms
namespace Go.Ms
open Go.Lib
theorem u8_lt (a b : UInt8) : a < b ↔ a.toNat < b.toNat := UInt8.lt_iff_toNat_lt
theorem u8_eq {a b : UInt8} (h : a.toNat = b.toNat) : a = b := UInt8.toNat_inj.1 h
theorem cb_bd : ∀ a b : Bs, -1 ≤ compareBytes a b ∧ compareBytes a b ≤ 1
  | [], [] => by simp [compareBytes]
  | [], _ :: _ => by simp [compareBytes]
  | _ :: _, [] => by simp [compareBytes]
  | x :: a, y :: b => by
    have := cb_bd a b
    unfold compareBytes
    split
    · omega
    · split <;> omega
theorem cb_self : ∀ a : Bs, compareBytes a a = 0
  | [] => rfl
  | x :: a => by
    have := cb_self a
    unfold compareBytes
    rw [if_neg (UInt8.lt_irrefl x), if_neg (UInt8.lt_irrefl x), this]
theorem cb_zero : ∀ {a b : Bs}, compareBytes a b = 0 → a = b
  | [], [], _ => rfl
  | [], _ :: _, h => by simp [compareBytes] at h
  | _ :: _, [], h => by simp [compareBytes] at h
  | x :: a, y :: b, h => by
    unfold compareBytes at h
    split at h
    · cases h
    · split at h
      · cases h
      · rename_i h1 h2
        rw [u8_lt] at h1 h2
        rw [cb_zero h, u8_eq (a := x) (b := y) (by omega)]
theorem cb_neg : ∀ a b : Bs, compareBytes b a = -compareBytes a b
  | [], [] => rfl
  | [], _ :: _ => rfl
  | _ :: _, [] => rfl
  | x :: a, y :: b => by
    have ih := cb_neg a b
    unfold compareBytes
    simp only [u8_lt]
    by_cases h1 : x.toNat < y.toNat
    · rw [if_pos h1, if_neg (by omega), if_pos h1]; rfl
    · by_cases h2 : y.toNat < x.toNat
      · rw [if_pos h2, if_neg h1, if_pos h2]
      · rw [if_neg h1, if_neg h2, if_neg h1, if_neg h2, ih]
theorem cb_trans : ∀ {a b c : Bs}, compareBytes a b ≤ 0 → compareBytes b c ≤ 0 → compareBytes a c ≤ 0
  | [], b, [], _, _ => by simp [compareBytes]
  | [], b, _ :: _, _, _ => by simp [compareBytes]
  | _ :: _, [], c, h, _ => by simp [compareBytes] at h
  | _ :: _, _ :: _, [], _, h => by simp [compareBytes] at h
  | x :: a, y :: b, z :: c, h1, h2 => by
    unfold compareBytes at *
    simp only [u8_lt] at *
    by_cases g1 : x.toNat < y.toNat
    · by_cases g2 : y.toNat < z.toNat
      · rw [if_pos (by omega)]; omega
      · by_cases g3 : z.toNat < y.toNat
        · rw [if_neg g2, if_pos g3] at h2; omega
        · rw [if_pos (by omega)]; omega
    · by_cases g1' : y.toNat < x.toNat
      · rw [if_neg g1, if_pos g1'] at h1; omega
      · rw [if_neg g1, if_neg g1'] at h1
        by_cases g2 : y.toNat < z.toNat
        · rw [if_pos (by omega)]; omega
        · by_cases g3 : z.toNat < y.toNat
          · rw [if_neg g2, if_pos g3] at h2; omega
          · rw [if_neg g2, if_neg g3] at h2
            rw [if_neg (by omega), if_neg (by omega)]
            exact cb_trans h1 h2
theorem bl_cb : ∀ a b : Bs, Op.bytesLess a b = decide (compareBytes a b < 0)
  | [], [] => by simp [Op.bytesLess, compareBytes]
  | [], _ :: _ => by simp [Op.bytesLess, compareBytes]
  | _ :: _, [] => by simp [Op.bytesLess, compareBytes]
  | x :: a, y :: b => by
    have ih := bl_cb a b
    unfold Op.bytesLess compareBytes
    rw [ih]
    by_cases h1 : x < y
    · simp [h1]
    · by_cases h2 : y < x
      · have hne : (x == y) = false := by
          rw [beq_eq_false_iff_ne]; intro e; subst e; exact UInt8.lt_irrefl x h2
        simp [h1, h2, hne]
      · have he : x = y := by rw [u8_lt] at h1 h2; exact u8_eq (by omega)
        subst he
        simp [UInt8.lt_irrefl]

theorem cb_cons (x : UInt8) (a b : Bs) : compareBytes (x :: a) (x :: b) = compareBytes a b := by
  rw [compareBytes, if_neg (UInt8.lt_irrefl x), if_neg (UInt8.lt_irrefl x)]
theorem cb_app : ∀ (x a b : Bs), compareBytes (x ++ a) (x ++ b) = compareBytes a b
  | [], _, _ => rfl
  | c :: x, a, b => by rw [List.cons_append, List.cons_append, cb_cons, cb_app x a b]
theorem cb_lt {x y : UInt8} (a b : Bs) (h : x.toNat < y.toNat) : compareBytes (x :: a) (y :: b) = -1 := by
  rw [compareBytes, if_pos ((u8_lt _ _).2 h)]
theorem cb_gt {x y : UInt8} (a b : Bs) (h : y.toNat < x.toNat) : compareBytes (x :: a) (y :: b) = 1 := by
  rw [compareBytes, if_neg (by rw [u8_lt]; omega), if_pos ((u8_lt _ _).2 h)]
/-- The bits of texts stand as the texts do. -/
theorem cb_row : ∀ a b : Bs, compareBytes (rowD a) (rowD b) = compareBytes a b
  | [], [] => by rw [cb_self]; rfl
  | [], y :: b => by
    by_cases h : y = 0
    · subst h; rfl
    · have : rowD (y :: b) = y :: rowD b := by unfold rowD escD; rw [List.flatMap_cons]; unfold escb; rw [if_neg h]; rfl
      rw [this]
      have h0 : ¬ y.toNat = 0 := fun e => h (UInt8.toNat_inj.1 e)
      show compareBytes (0 :: [0]) (y :: rowD b) = -1
      exact cb_lt _ _ (by show 0 < _; omega)
  | x :: a, [] => by
    by_cases h : x = 0
    · subst h; rfl
    · have : rowD (x :: a) = x :: rowD a := by unfold rowD escD; rw [List.flatMap_cons]; unfold escb; rw [if_neg h]; rfl
      rw [this]
      have h0 : ¬ x.toNat = 0 := fun e => h (UInt8.toNat_inj.1 e)
      show compareBytes (x :: rowD a) (0 :: [0]) = 1
      exact cb_gt _ _ (by show 0 < _; omega)
  | x :: a, y :: b => by
    have ih := cb_row a b
    have e : ∀ (z : UInt8) (l : Bs), ∃ t, rowD (z :: l) = z :: (t ++ rowD l) ∧ (z = 0 → t = [255]) ∧ (z ≠ 0 → t = []) := by
      intro z l
      by_cases h : z = 0
      · subst h; exact ⟨[255], rfl, fun _ => rfl, fun h => absurd rfl h⟩
      · exact ⟨[], by unfold rowD escD; rw [List.flatMap_cons]; unfold escb; rw [if_neg h]; rfl, fun e => absurd e h, fun _ => rfl⟩
    obtain ⟨t, ht, t1, t2⟩ := e x a
    obtain ⟨u, hu, u1, u2⟩ := e y b
    rw [ht, hu]
    by_cases h1 : x.toNat < y.toNat
    · rw [cb_lt _ _ h1, cb_lt _ _ h1]
    · by_cases h2 : y.toNat < x.toNat
      · rw [cb_gt _ _ h2, cb_gt _ _ h2]
      · have he : x = y := u8_eq (by omega)
        subst he
        have htu : t = u := by
          by_cases h : x = 0
          · rw [t1 h, u1 h]
          · rw [t2 h, u2 h]
        rw [htu, cb_cons, cb_cons, cb_app, ih]
theorem pre_app : ∀ (x a b : Bs), (x ++ a).isPrefixOf (x ++ b) = a.isPrefixOf b
  | [], _, _ => rfl
  | c :: x, a, b => by simp [pre_app x a b]
/-- None are the beginning of others. -/
theorem pre_row : ∀ a b : Bs, (rowD a).isPrefixOf (rowD b) = true → a = b
  | [], [], _ => rfl
  | [], y :: b, h => by
    exfalso
    by_cases hy : y = 0
    · subst hy
      have e : rowD ((0 : UInt8) :: b) = 0 :: 255 :: rowD b := rfl
      rw [e] at h
      simp [rowD, escD, List.isPrefixOf] at h
    · have e : rowD (y :: b) = y :: rowD b := by unfold rowD escD; rw [List.flatMap_cons]; unfold escb; rw [if_neg hy]; rfl
      rw [e] at h
      simp [rowD, escD, List.isPrefixOf] at h
      exact hy h.1.symm
  | x :: a, [], h => by
    exfalso
    by_cases hy : x = 0
    · subst hy
      have e : rowD ((0 : UInt8) :: a) = 0 :: 255 :: rowD a := rfl
      rw [e] at h
      simp [rowD, escD, List.isPrefixOf] at h
    · have e : rowD (x :: a) = x :: rowD a := by unfold rowD escD; rw [List.flatMap_cons]; unfold escb; rw [if_neg hy]; rfl
      rw [e] at h
      simp [rowD, escD, List.isPrefixOf] at h
      exact hy h.1
  | x :: a, y :: b, h => by
    have e : ∀ (z : UInt8) (l : Bs), ∃ t, rowD (z :: l) = z :: (t ++ rowD l) ∧ (z = 0 → t = [255]) ∧ (z ≠ 0 → t = []) := by
      intro z l
      by_cases h : z = 0
      · subst h; exact ⟨[255], rfl, fun _ => rfl, fun h => absurd rfl h⟩
      · exact ⟨[], by unfold rowD escD; rw [List.flatMap_cons]; unfold escb; rw [if_neg h]; rfl, fun e => absurd e h, fun _ => rfl⟩
    obtain ⟨t, ht, t1, t2⟩ := e x a
    obtain ⟨u, hu, u1, u2⟩ := e y b
    rw [ht, hu, List.isPrefixOf, Bool.and_eq_true, beq_iff_eq] at h
    obtain ⟨he, h⟩ := h
    subst he
    have htu : t = u := by
      by_cases h : x = 0
      · rw [t1 h, u1 h]
      · rw [t2 h, u2 h]
    subst htu
    rw [pre_app] at h
    rw [pre_row a b h]
theorem cn_step (M U V : Int) (hM : 0 < M) : kCmpN U V = if U / M < V / M then -1 else if V / M < U / M then 1 else kCmpN (U % M) (V % M) := by
  have e1 := Int.mul_ediv_add_emod U M
  have e2 := Int.mul_ediv_add_emod V M
  have a1 := Int.emod_nonneg U (show M ≠ 0 by omega)
  have a2 := Int.emod_nonneg V (show M ≠ 0 by omega)
  have b1 := Int.emod_lt_of_pos U hM
  have b2 := Int.emod_lt_of_pos V hM
  generalize U / M = p at *
  generalize V / M = q at *
  generalize U % M = r at *
  generalize V % M = t at *
  unfold kCmpN
  by_cases c : p < q
  · have h : M * (p + 1) ≤ M * q := Int.mul_le_mul_of_nonneg_left (by omega) (by omega)
    rw [Int.mul_add] at h
    generalize M * p = x at *
    generalize M * q = y at *
    rw [if_pos c, if_pos (by omega)]
  · rw [if_neg c]
    by_cases c2 : q < p
    · have h : M * (q + 1) ≤ M * p := Int.mul_le_mul_of_nonneg_left (by omega) (by omega)
      rw [Int.mul_add] at h
      generalize M * p = x at *
      generalize M * q = y at *
      rw [if_pos c2, if_neg (by omega), if_pos (by omega)]
    · rw [if_neg c2]
      have : p = q := by omega
      subst this
      generalize M * p = x at *
      by_cases d : r < t
      · rw [if_pos d, if_pos (by omega)]
      · rw [if_neg d, if_neg (by omega)]
        by_cases d2 : t < r
        · rw [if_pos d2, if_pos (by omega)]
        · rw [if_neg d2, if_neg (by omega)]
theorem cb_key (x y : Int) (a b : Bs) (hx : 0 ≤ x) (hx' : x < 256) (hy : 0 ≤ y) (hy' : y < 256) : compareBytes (UInt8.ofNat x.toNat :: a) (UInt8.ofNat y.toNat :: b) = if x < y then -1 else if y < x then 1 else compareBytes a b := by
  have e1 := u8n hx hx'
  have e2 := u8n hy hy'
  by_cases c : x < y
  · rw [if_pos c, cb_lt _ _ (by omega)]
  · rw [if_neg c]
    by_cases c2 : y < x
    · rw [if_pos c2, cb_gt _ _ (by omega)]
    · rw [if_neg c2]
      have : x = y := by omega
      subst this
      rw [cb_cons]
theorem cb_digit (M U V : Int) (a b : Bs) (hM : 0 < M) (h0 : 0 ≤ U / M) (h1 : U / M < 256) (g0 : 0 ≤ V / M) (g1 : V / M < 256) (h : compareBytes a b = kCmpN (U % M) (V % M)) : compareBytes (UInt8.ofNat (U / M).toNat :: a) (UInt8.ofNat (V / M).toNat :: b) = kCmpN U V := by
  rw [cb_key _ _ _ _ h0 h1 g0 g1, cn_step M U V hM, h]
theorem num_nest (U : Int) (h0 : 0 ≤ U) : kNum U = [UInt8.ofNat (U / 72057594037927936).toNat, UInt8.ofNat (U % 72057594037927936 / 281474976710656).toNat, UInt8.ofNat (U % 72057594037927936 % 281474976710656 / 1099511627776).toNat, UInt8.ofNat (U % 72057594037927936 % 281474976710656 % 1099511627776 / 4294967296).toNat,
    UInt8.ofNat (U % 72057594037927936 % 281474976710656 % 1099511627776 % 4294967296 / 16777216).toNat, UInt8.ofNat (U % 72057594037927936 % 281474976710656 % 1099511627776 % 4294967296 % 16777216 / 65536).toNat, UInt8.ofNat (U % 72057594037927936 % 281474976710656 % 1099511627776 % 4294967296 % 16777216 % 65536 / 256).toNat, UInt8.ofNat (U % 72057594037927936 % 281474976710656 % 1099511627776 % 4294967296 % 16777216 % 65536 % 256 / 1).toNat] := by
  have e2 : U % 72057594037927936 / 281474976710656 = U / 281474976710656 % 256 := by omega
  have e3 : U % 72057594037927936 % 281474976710656 / 1099511627776 = U / 1099511627776 % 256 := by omega
  have e4 : U % 72057594037927936 % 281474976710656 % 1099511627776 / 4294967296 = U / 4294967296 % 256 := by omega
  have e5 : U % 72057594037927936 % 281474976710656 % 1099511627776 % 4294967296 / 16777216 = U / 16777216 % 256 := by omega
  have e6 : U % 72057594037927936 % 281474976710656 % 1099511627776 % 4294967296 % 16777216 / 65536 = U / 65536 % 256 := by omega
  have e7 : U % 72057594037927936 % 281474976710656 % 1099511627776 % 4294967296 % 16777216 % 65536 / 256 = U / 256 % 256 := by omega
  have e8 : U % 72057594037927936 % 281474976710656 % 1099511627776 % 4294967296 % 16777216 % 65536 % 256 / 1 = U % 256 := by omega
  rw [e2, e3, e4, e5, e6, e7, e8]
  rfl
/-- The bits of numbers stand as the numbers do. -/
theorem cb_num {U V : Int} (h0 : 0 ≤ U) (h1 : U < 18446744073709551616) (g0 : 0 ≤ V) (g1 : V < 18446744073709551616) : compareBytes (kNum U) (kNum V) = kCmpN U V := by
  rw [num_nest U h0, num_nest V g0]
  have a0 : 0 ≤ U / 72057594037927936 := by omega
  have a1 : U / 72057594037927936 < 256 := by omega
  have c0 : 0 ≤ V / 72057594037927936 := by omega
  have c1 : V / 72057594037927936 < 256 := by omega
  refine cb_digit _ _ _ _ _ (by decide) a0 a1 c0 c1 ?_
  have d0 : 0 ≤ U % 72057594037927936 := by omega
  have d1 : U % 72057594037927936 < 72057594037927936 := by omega
  have f0 : 0 ≤ V % 72057594037927936 := by omega
  have f1 : V % 72057594037927936 < 72057594037927936 := by omega
  generalize U % 72057594037927936 = U at *
  generalize V % 72057594037927936 = V at *
  clear h0 h1 g0 g1 a0 a1 c0 c1
  refine cb_digit _ _ _ _ _ (by decide) (by omega) (by omega) (by omega) (by omega) ?_
  clear d0 d1 f0 f1
  refine cb_digit _ _ _ _ _ (by decide) (by omega) (by omega) (by omega) (by omega) ?_
  refine cb_digit _ _ _ _ _ (by decide) (by omega) (by omega) (by omega) (by omega) ?_
  refine cb_digit _ _ _ _ _ (by decide) (by omega) (by omega) (by omega) (by omega) ?_
  refine cb_digit _ _ _ _ _ (by decide) (by omega) (by omega) (by omega) (by omega) ?_
  refine cb_digit _ _ _ _ _ (by decide) (by omega) (by omega) (by omega) (by omega) ?_
  refine cb_digit _ _ _ _ _ (by decide) (by omega) (by omega) (by omega) (by omega) ?_
  rw [Int.emod_one, Int.emod_one]
  rfl
end Go.Ms
namespace Go.Ms
open Go.Lib
theorem may_cases {k : Int} (h : kMay k = true) : k = 1 ∨ k = 2 ∨ k = 3 ∨ k = 4 ∨ k = 5 := by
  unfold kMay at h
  rw [Bool.and_eq_true, decide_eq_true_iff, decide_eq_true_iff] at h
  omega
theorem check_zero {k : Int} {tn nu : Bool} {n : Int} {s : Bs} (h : kCheck k tn nu n s = 0) : kMay k = true ∧ kOk k tn nu n s = true := by
  unfold kCheck at h
  split at h
  · rename_i h1
    split at h
    · rename_i h2; exact ⟨h1, h2⟩
    · omega
  · omega
theorem check_of {k : Int} {tn nu : Bool} {n : Int} {s : Bs} (h : kMay k = true) (h2 : kOk k tn nu n s = true) : kCheck k tn nu n s = 0 := by
  unfold kCheck; rw [if_pos h, if_pos h2]
theorem is1 {n : Int} {s : Bs} : kIs 1 n s = true ↔ s = [] ∧ 0 ≤ n ∧ n ≤ 1 := by simp [kIs, and_assoc]
theorem is2 {n : Int} {s : Bs} : kIs 2 n s = true ↔ s = [] ∧ -2147483648 ≤ n ∧ n ≤ 2147483647 := by simp [kIs, and_assoc]
theorem is3 {n : Int} {s : Bs} : kIs 3 n s = true ↔ s = [] ∧ -9223372036854775808 ≤ n ∧ n ≤ 9223372036854775807 := by simp [kIs, and_assoc]
theorem is4 {n : Int} {s : Bs} : kIs 4 n s = true ↔ n = 0 ∧ s.length ≤ 1024 ∧ validD s = true := by simp [kIs, and_assoc]
theorem is5 {n : Int} {s : Bs} : kIs 5 n s = true ↔ n = 0 ∧ s.length ≤ 1024 := by simp [kIs]
theorem is23 {k n : Int} {s : Bs} (hk : k = 2 ∨ k = 3) (h : kIs k n s = true) : s = [] ∧ -9223372036854775808 ≤ n ∧ n ≤ 9223372036854775807 := by
  rcases hk with rfl | rfl
  · have := is2.1 h; exact ⟨this.1, by omega, by omega⟩
  · exact is3.1 h
theorem is45 {k n : Int} {s : Bs} (hk : k = 4 ∨ k = 5) (h : kIs k n s = true) : n = 0 ∧ s.length ≤ 1024 := by
  rcases hk with rfl | rfl
  · exact ⟨(is4.1 h).1, (is4.1 h).2.1⟩
  · exact is5.1 h
theorem itoa_head (n : Int) : ∃ c r, itoa n = c :: r ∧ (c.toNat = 45 ∨ (48 ≤ c.toNat ∧ c.toNat ≤ 57)) := by
  unfold itoa
  split
  · exact ⟨45, _, rfl, .inl rfl⟩
  · obtain ⟨c, r, h, h1⟩ := dec_head n.toNat
    exact ⟨c, r, h, .inr h1⟩
theorem text_null {k n : Int} {s : Bs} (hk : kMay k = true) (h : kIs k n s = true) : kText k n s ≠ kNull := by
  rcases may_cases hk with rfl | rfl | rfl | rfl | rfl
  · show formatBool (n == 1) ≠ kNull
    cases (n == 1) <;> decide
  · show itoa n ≠ kNull
    obtain ⟨c, r, hc, h1⟩ := itoa_head n
    rw [hc]; intro e; injection e with e1 _; subst e1; revert h1; decide
  · show itoa n ≠ kNull
    obtain ⟨c, r, hc, h1⟩ := itoa_head n
    rw [hc]; intro e; injection e with e1 _; subst e1; revert h1; decide
  · show kQuote s ≠ kNull
    unfold kQuote; rw [if_pos (is4.1 h).2.2]
    intro e; injection e with e1 _; revert e1; decide
  · show hexD s ≠ kNull
    intro e; injection e with e1 _; revert e1; decide
theorem read_text {k n : Int} {s : Bs} (hk : kMay k = true) (h : kIs k n s = true) : kRead k (kText k n s) = (n, s) := by
  rcases may_cases hk with rfl | rfl | rfl | rfl | rfl
  · obtain ⟨rfl, h0, h1⟩ := is1.1 h
    have : n = 0 ∨ n = 1 := by omega
    rcases this with rfl | rfl <;> decide
  · obtain ⟨rfl, h0, h1⟩ := is23 (.inl rfl) h
    show (kWhole (itoa n), ([] : Bs)) = _
    rw [whole_itoa h0 h1]
  · obtain ⟨rfl, h0, h1⟩ := is23 (.inr rfl) h
    show (kWhole (itoa n), ([] : Bs)) = _
    rw [whole_itoa h0 h1]
  · obtain ⟨rfl, h0, h1⟩ := is4.1 h
    show ((0 : Int), (unquoteD (kQuote s)).1) = _
    unfold kQuote; rw [if_pos h1]
    have := unquote_quote [] h1
    rw [List.append_nil] at this
    rw [this]
  · obtain ⟨rfl, h0⟩ := is5.1 h
    show ((0 : Int), unhexD (hexD s)) = _
    rw [unhex_hex]
theorem ok_null {k : Int} {tn : Bool} {n : Int} {s : Bs} (h : kOk k tn true n s = true) : tn = true ∧ n = 0 ∧ s = [] := by
  simpa [kOk, and_assoc] using h
theorem ok_some {k : Int} {tn : Bool} {n : Int} {s : Bs} (h : kOk k tn false n s = true) : kIs k n s = true := by
  simpa [kOk] using h
/-- A cell's text is read as it was. -/
theorem read_back {k : Int} {tn nu : Bool} {n : Int} {s : Bs} (h : kCheck k tn nu n s = 0) : kReadD k tn (kTextD k tn nu n s) = ((nu, n, s), 0) := by
  obtain ⟨hk, ho⟩ := check_zero h
  cases nu with
  | true =>
    obtain ⟨rfl, rfl, rfl⟩ := ok_null ho
    have ht : kTextD k true true 0 [] = kNull := by unfold kTextD; rw [if_pos h, if_pos rfl]
    rw [ht]
    unfold kReadD kGuess
    rw [if_pos hk, if_pos rfl]
    exact if_pos ⟨h, ht⟩
  | false =>
    have hi := ok_some ho
    have ht : kTextD k tn false n s = kText k n s := by unfold kTextD; rw [if_pos h, if_neg (by simp)]
    rw [ht]
    have hg : kGuess k (kText k n s) = (false, n, s) := by unfold kGuess; rw [if_neg (text_null hk hi), read_text hk hi]
    unfold kReadD
    rw [if_pos hk, hg]
    exact if_pos ⟨h, ht⟩
theorem bits_len (k n : Int) (s : Bs) (h : k = 2 ∨ k = 3) : (kBits k n s).length = 8 := by
  rcases h with rfl | rfl <;> rfl
theorem un_bits {k n : Int} {s : Bs} (m : Bs) (hk : kMay k = true) (h : kIs k n s = true) : kUn k (kBits k n s ++ m) = (n, s, (kBits k n s).length, 0) := by
  rcases may_cases hk with rfl | rfl | rfl | rfl | rfl
  · obtain ⟨rfl, h0, h1⟩ := is1.1 h
    have : n = 0 ∨ n = 1 := by omega
    rcases this with rfl | rfl <;> rfl
  · obtain ⟨rfl, h0, h1⟩ := is23 (.inl rfl) h
    have e : kBits 2 n [] = kNum (n + 9223372036854775808) := rfl
    have l := num_len (n + 9223372036854775808)
    rw [e]
    show ((kUnnum _).1, ([] : Bs), (kUnnum _).2.1, (kUnnum _).2.2) = _
    unfold kUnnum
    rw [if_neg (by simp [l]), List.take_append_of_le_length (by omega), List.take_of_length_le (by omega), be_num (by omega) (by omega), l]
    simp only [Prod.mk.injEq, and_true]
    omega
  · obtain ⟨rfl, h0, h1⟩ := is23 (.inr rfl) h
    have e : kBits 3 n [] = kNum (n + 9223372036854775808) := rfl
    have l := num_len (n + 9223372036854775808)
    rw [e]
    show ((kUnnum _).1, ([] : Bs), (kUnnum _).2.1, (kUnnum _).2.2) = _
    unfold kUnnum
    rw [if_neg (by simp [l]), List.take_append_of_le_length (by omega), List.take_of_length_le (by omega), be_num (by omega) (by omega), l]
    simp only [Prod.mk.injEq, and_true]
    omega
  · obtain ⟨rfl, h0⟩ := is45 (.inl rfl) h
    show ((0 : Int), (unrowD (rowD s ++ m)).1, (unrowD (rowD s ++ m)).2.1, (unrowD (rowD s ++ m)).2.2) = _
    rw [unrow_row m h0]; rfl
  · obtain ⟨rfl, h0⟩ := is45 (.inr rfl) h
    show ((0 : Int), (unrowD (rowD s ++ m)).1, (unrowD (rowD s ++ m)).2.1, (unrowD (rowD s ++ m)).2.2) = _
    rw [unrow_row m h0]; rfl
/-- Its bits are taken off as they were. -/
theorem unbits_back {k : Int} {tn nu : Bool} {n : Int} {s : Bs} (m : Bs) (h : kCheck k tn nu n s = 0) : kUnD k tn (kBitsD k tn nu n s ++ m) = ((nu, n, s), (kBitsD k tn nu n s).length, 0) := by
  obtain ⟨hk, ho⟩ := check_zero h
  cases nu with
  | true =>
    obtain ⟨rfl, rfl, rfl⟩ := ok_null ho
    have ht : kBitsD k true true 0 [] = [0] := by unfold kBitsD; rw [if_pos h, if_pos rfl]
    rw [ht]
    unfold kUnD
    rw [if_pos hk, if_pos rfl]
    rfl
  | false =>
    have hi := ok_some ho
    cases tn with
    | true =>
      have ht : kBitsD k true false n s = 1 :: kBits k n s := by unfold kBitsD; rw [if_pos h, if_neg (by simp), if_pos rfl]
      rw [ht]
      unfold kUnD
      rw [if_pos hk, if_pos rfl]
      have e1 : kUnbool (1 :: kBits k n s ++ m) = (1, 1, 0) := rfl
      rw [e1, if_pos rfl, if_neg (by decide)]
      have e2 : (1 :: kBits k n s ++ m).drop 1 = kBits k n s ++ m := rfl
      rw [e2, un_bits m hk hi]
      unfold kFin
      simp only [if_true]
      rw [if_pos h, List.length_cons, Nat.add_comm]
    | false =>
      have ht : kBitsD k false false n s = kBits k n s := by unfold kBitsD; rw [if_pos h, if_neg (by simp), if_neg (by simp)]
      rw [ht]
      unfold kUnD
      rw [if_pos hk, if_neg (by simp), un_bits m hk hi]
      unfold kFin
      simp only [if_true]
      rw [if_pos h, Nat.zero_add]
/-- What is read is written so. -/
theorem read_only {k : Int} {tn nu : Bool} {n : Int} {s l : Bs} (h : kReadD k tn l = ((nu, n, s), 0)) : kCheck k tn nu n s = 0 ∧ kTextD k tn nu n s = l := by
  unfold kReadD at h
  split at h
  · split at h
    · rename_i h1
      injection h with h2 _
      rw [h2] at h1
      exact h1
    · injection h with _ h2; omega
  · injection h with _ h2; omega
theorem read_err {k : Int} {tn : Bool} {l : Bs} (h : (kReadD k tn l).2 ≠ 0) : (kReadD k tn l).1 = (false, 0, []) := by
  unfold kReadD at h ⊢
  split
  · split
    · rename_i h1 h2; rw [if_pos h1, if_pos h2] at h; exact absurd rfl h
    · rfl
  · rfl
theorem un_only {k n : Int} {s l : Bs} {d : Nat} (hk : kMay k = true) (h : kUn k l = (n, s, d, 0)) (hi : kIs k n s = true) : d ≤ l.length ∧ kBits k n s = l.take d := by
  rcases may_cases hk with rfl | rfl | rfl | rfl | rfl
  · have h' : ((kUnbool l).1, ([] : Bs), (kUnbool l).2.1, (kUnbool l).2.2) = (n, s, d, 0) := h
    unfold kUnbool at h'
    split at h'
    · injection h' with _ h'; injection h' with _ h'; injection h' with _ h'; exact absurd h' (by decide)
    · split at h'
      · injection h' with _ h'; injection h' with _ h'; injection h' with _ h'; exact absurd h' (by decide)
      · rename_i h1 h2
        injection h' with g1 h'; injection h' with g2 h'; injection h' with g3 h'
        match l, h1 with
        | c :: l, _ =>
          have hd : d = 1 := g3.symm
          subst hd
          refine ⟨by simp, ?_⟩
          have hn : n = (c.toNat : Int) := g1.symm
          subst hn
          show [UInt8.ofNat ((c.toNat : Int)).toNat] = _
          simp
  · have h' : ((kUnnum l).1, ([] : Bs), (kUnnum l).2.1, (kUnnum l).2.2) = (n, s, d, 0) := h
    unfold kUnnum at h'
    split at h'
    · injection h' with _ h'; injection h' with _ h'; injection h' with _ h'; exact absurd h' (by decide)
    · injection h' with g1 h'; injection h' with g2 h'; injection h' with g3 h'
      have hd : d = 8 := g3.symm
      subst hd
      refine ⟨by omega, ?_⟩
      have g1' : (kBe (l.take 8) : Int) - 9223372036854775808 = n := g1
      show kNum (n + 9223372036854775808) = _
      rw [show n + 9223372036854775808 = (kBe (l.take 8) : Int) by omega]
      exact num_be (by simp; omega)
  · have h' : ((kUnnum l).1, ([] : Bs), (kUnnum l).2.1, (kUnnum l).2.2) = (n, s, d, 0) := h
    unfold kUnnum at h'
    split at h'
    · injection h' with _ h'; injection h' with _ h'; injection h' with _ h'; exact absurd h' (by decide)
    · injection h' with g1 h'; injection h' with g2 h'; injection h' with g3 h'
      have hd : d = 8 := g3.symm
      subst hd
      refine ⟨by omega, ?_⟩
      have g1' : (kBe (l.take 8) : Int) - 9223372036854775808 = n := g1
      show kNum (n + 9223372036854775808) = _
      rw [show n + 9223372036854775808 = (kBe (l.take 8) : Int) by omega]
      exact num_be (by simp; omega)
  · have h' : ((0 : Int), (unrowD l).1, (unrowD l).2.1, (unrowD l).2.2) = (n, s, d, 0) := h
    injection h' with g1 h'; injection h' with g2 h'; injection h' with g3 g4
    have := row_unrow (l := l) (s := s) (n := d) (by rw [← g2, ← g3, ← g4])
    exact ⟨this.1, this.2.1⟩
  · have h' : ((0 : Int), (unrowD l).1, (unrowD l).2.1, (unrowD l).2.2) = (n, s, d, 0) := h
    injection h' with g1 h'; injection h' with g2 h'; injection h' with g3 g4
    have := row_unrow (l := l) (s := s) (n := d) (by rw [← g2, ← g3, ← g4])
    exact ⟨this.1, this.2.1⟩
theorem fin_zero {k : Int} {tn nu : Bool} {n : Int} {s : Bs} {b d : Nat} {x : Int × Bs × Nat × Int} (h : kFin k tn b x = ((nu, n, s), d, 0)) : nu = false ∧ kCheck k tn false n s = 0 ∧ ∃ d', d = b + d' ∧ x = (n, s, d', 0) := by
  unfold kFin at h
  split at h
  · rename_i h1
    split at h
    · rename_i h2
      injection h with h3 h4; injection h3 with h5 h6; injection h6 with h7 h8; injection h4 with h9 _
      obtain ⟨a, b', c, e⟩ := x
      simp only at h1 h2 h7 h8 h9
      subst h1 h7 h8
      exact ⟨h5.symm, h2, c, h9.symm, rfl⟩
    · injection h with _ h; injection h with _ h; omega
  · rename_i h1
    injection h with _ h; injection h with _ h
    exact absurd h h1
theorem fin_err {k : Int} {tn : Bool} {b : Nat} {x : Int × Bs × Nat × Int} (h : (kFin k tn b x).2.2 ≠ 0) : (kFin k tn b x).1 = (false, 0, []) ∧ (kFin k tn b x).2.1 = 0 := by
  unfold kFin at h ⊢
  split
  · split
    · rename_i h1 h2; rw [if_pos h1, if_pos h2] at h; exact absurd rfl h
    · exact ⟨rfl, rfl⟩
  · exact ⟨rfl, rfl⟩
theorem unbool_inv {l : Bs} (h : (kUnbool l).2.2 = 0) : ∃ c r, l = c :: r ∧ c.toNat ≤ 1 ∧ kUnbool l = (((c.toNat : Nat) : Int), 1, 0) := by
  unfold kUnbool at h ⊢
  split at h
  · cases h
  · rename_i h1
    split at h
    · cases h
    · rename_i h2
      rw [if_neg h1, if_neg h2]
      match l, h1 with
      | c :: l, _ => exact ⟨c, l, rfl, by have : ¬ 1 < c.toNat := h2; omega, rfl⟩
/-- What is taken off has just those bits. -/
theorem unbits_only {k : Int} {tn nu : Bool} {n : Int} {s l : Bs} {d : Nat} (h : kUnD k tn l = ((nu, n, s), d, 0)) : kCheck k tn nu n s = 0 ∧ d ≤ l.length ∧ kBitsD k tn nu n s = l.take d := by
  unfold kUnD at h
  split at h
  · rename_i hk
    split at h
    · rename_i ht
      subst ht
      split at h
      · rename_i h1
        obtain ⟨c, r, rfl, hc, hu⟩ := unbool_inv h1
        split at h
        · rename_i h2
          rw [hu] at h2
          have hc0 : c = 0 := u8_eq (by simp only at h2; show c.toNat = 0; omega)
          subst hc0
          injection h with h3 h4; injection h3 with h5 h6; injection h6 with h7 h8; injection h4 with h9 _
          subst h5 h7 h8 h9
          have hc : kCheck k true true 0 [] = 0 := check_of hk rfl
          refine ⟨hc, by simp, ?_⟩
          unfold kBitsD; rw [if_pos hc, if_pos rfl]; rfl
        · rename_i h2
          rw [hu] at h2
          have hc1 : c = 1 := u8_eq (by simp only at h2; show c.toNat = 1; omega)
          subst hc1
          obtain ⟨rfl, hc, d', rfl, hx⟩ := fin_zero h
          have hd : ((1 : UInt8) :: r).drop 1 = r := rfl
          rw [hd] at hx
          have hh := un_only hk hx (ok_some (check_zero hc).2)
          refine ⟨hc, by simp; omega, ?_⟩
          unfold kBitsD; rw [if_pos hc, if_neg (by simp), if_pos rfl, hh.2, Nat.add_comm, List.take_succ_cons]
      · rename_i h1
        injection h with _ h; injection h with _ h
        exact absurd h h1
    · rename_i ht
      have ht' : tn = false := by simpa using ht
      subst ht'
      obtain ⟨rfl, hc, d', rfl, hx⟩ := fin_zero h
      have hh := un_only hk hx (ok_some (check_zero hc).2)
      refine ⟨hc, by omega, ?_⟩
      unfold kBitsD; rw [if_pos hc, if_neg (by simp), if_neg (by simp), hh.2, Nat.zero_add]
  · injection h with _ h; injection h with _ h; omega
theorem unbits_err {k : Int} {tn : Bool} {l : Bs} (h : (kUnD k tn l).2.2 ≠ 0) : (kUnD k tn l).1 = (false, 0, []) ∧ (kUnD k tn l).2.1 = 0 := by
  unfold kUnD at h ⊢
  split
  · rename_i hk
    rw [if_pos hk] at h
    split
    · rename_i ht
      rw [if_pos ht] at h
      split
      · rename_i h1
        rw [if_pos h1] at h
        split
        · rename_i h2; rw [if_pos h2] at h; exact absurd rfl h
        · rename_i h2; rw [if_neg h2] at h; exact fin_err h
      · exact ⟨rfl, rfl⟩
    · rename_i ht
      rw [if_neg ht] at h
      exact fin_err h
  · exact ⟨rfl, rfl⟩
end Go.Ms
namespace Go.Ms
open Go.Lib
theorem cn_bd (a b : Int) : -1 ≤ kCmpN a b ∧ kCmpN a b ≤ 1 := by unfold kCmpN; split <;> (try split) <;> omega
theorem cn_zero {a b : Int} : kCmpN a b = 0 ↔ a = b := by unfold kCmpN; split <;> (try split) <;> omega
theorem cn_neg (a b : Int) : kCmpN b a = -kCmpN a b := by unfold kCmpN; split <;> (try split) <;> (try split) <;> omega
theorem cn_le {a b : Int} : kCmpN a b ≤ 0 ↔ a ≤ b := by unfold kCmpN; split <;> (try split) <;> omega
theorem cmp_bd (an : Bool) (a : Int) (s : Bs) (bn : Bool) (b : Int) (t : Bs) : -1 ≤ kCmp an a s bn b t ∧ kCmp an a s bn b t ≤ 1 := by
  have h1 := cn_bd a b
  have h2 := cb_bd s t
  unfold kCmp
  split
  · split <;> omega
  · split <;> omega
theorem cmp_neg (an : Bool) (a : Int) (s : Bs) (bn : Bool) (b : Int) (t : Bs) : kCmp bn b t an a s = -kCmp an a s bn b t := by
  have h1 := cn_neg a b
  have h2 := cb_neg s t
  unfold kCmp
  by_cases e : an = bn
  · rw [if_pos e, if_pos e.symm, h1, h2]
    by_cases z : kCmpN a b = 0
    · rw [if_pos z, if_pos (by omega)]
    · rw [if_neg z, if_neg (by omega)]
  · rw [if_neg e, if_neg (fun x => e x.symm)]
    cases an <;> cases bn <;> simp_all
theorem cmp_zero (an : Bool) (a : Int) (s : Bs) (bn : Bool) (b : Int) (t : Bs) : kCmp an a s bn b t = 0 ↔ (an = bn ∧ a = b ∧ s = t) := by
  unfold kCmp
  by_cases e : an = bn
  · rw [if_pos e]
    by_cases z : kCmpN a b = 0
    · rw [if_pos z]
      exact ⟨fun h => ⟨e, cn_zero.1 z, cb_zero h⟩, fun ⟨_, _, h⟩ => by subst h; exact cb_self _⟩
    · rw [if_neg z]
      exact ⟨fun h => absurd h z, fun ⟨_, h, _⟩ => cn_zero.2 h⟩
  · rw [if_neg e]
    refine ⟨fun h => ?_, fun ⟨h, _⟩ => absurd h e⟩
    split at h <;> omega
theorem cmp_trans {an : Bool} {a : Int} {s : Bs} {bn : Bool} {b : Int} {t : Bs} {cn : Bool} {c : Int} {u : Bs} (h1 : kCmp an a s bn b t ≤ 0) (h2 : kCmp bn b t cn c u ≤ 0) : kCmp an a s cn c u ≤ 0 := by
  unfold kCmp at *
  cases an <;> cases bn <;> cases cn <;> simp only [if_true, if_false, Bool.false_eq_true, Bool.true_eq_false] at h1 h2 ⊢ <;> try omega
  all_goals
    by_cases z1 : kCmpN a b = 0
    · have e1 := cn_zero.1 z1
      subst e1
      rw [if_pos z1] at h1
      by_cases z2 : kCmpN a c = 0
      · rw [if_pos z2] at h2 ⊢
        exact cb_trans h1 h2
      · rw [if_neg z2] at h2 ⊢
        exact h2
    · rw [if_neg z1] at h1
      have g1 := cn_le.1 h1
      have n1 : a ≠ b := fun e => z1 (cn_zero.2 e)
      by_cases z2 : kCmpN b c = 0
      · have e2 := cn_zero.1 z2
        subst e2
        rw [if_neg z1]
        exact h1
      · rw [if_neg z2] at h2
        have g2 := cn_le.1 h2
        rw [if_neg (fun z => by have := cn_zero.1 z; omega)]
        exact cn_le.2 (by omega)
theorem cn_shift (a b : Int) : kCmpN (a + 9223372036854775808) (b + 9223372036854775808) = kCmpN a b := by
  unfold kCmpN; split <;> (try split) <;> (try split) <;> (try split) <;> omega
theorem bits_cmp {k n m : Int} {s t : Bs} (hk : kMay k = true) (ha : kIs k n s = true) (hb : kIs k m t = true) : compareBytes (kBits k n s) (kBits k m t) = kCmp false n s false m t := by
  unfold kCmp
  rw [if_pos rfl]
  rcases may_cases hk with rfl | rfl | rfl | rfl | rfl
  · obtain ⟨rfl, h0, h1⟩ := is1.1 ha
    obtain ⟨rfl, g0, g1⟩ := is1.1 hb
    have hn : n = 0 ∨ n = 1 := by omega
    have hm : m = 0 ∨ m = 1 := by omega
    rcases hn with rfl | rfl <;> rcases hm with rfl | rfl <;> decide
  · obtain ⟨rfl, h0, h1⟩ := is23 (.inl rfl) ha
    obtain ⟨rfl, g0, g1⟩ := is23 (.inl rfl) hb
    show compareBytes (kNum _) (kNum _) = _
    rw [cb_num (by omega) (by omega) (by omega) (by omega), cn_shift, cb_self]
    split <;> simp_all
  · obtain ⟨rfl, h0, h1⟩ := is23 (.inr rfl) ha
    obtain ⟨rfl, g0, g1⟩ := is23 (.inr rfl) hb
    show compareBytes (kNum _) (kNum _) = _
    rw [cb_num (by omega) (by omega) (by omega) (by omega), cn_shift, cb_self]
    split <;> simp_all
  · obtain ⟨rfl, h0⟩ := is45 (.inl rfl) ha
    obtain ⟨rfl, g0⟩ := is45 (.inl rfl) hb
    show compareBytes (rowD _) (rowD _) = _
    rw [cb_row]
    rfl
  · obtain ⟨rfl, h0⟩ := is45 (.inr rfl) ha
    obtain ⟨rfl, g0⟩ := is45 (.inr rfl) hb
    show compareBytes (rowD _) (rowD _) = _
    rw [cb_row]
    rfl
theorem pre_len : ∀ {a b : Bs}, a.isPrefixOf b = true → a.length = b.length → a = b
  | [], [], _, _ => rfl
  | [], _ :: _, _, h => by simp at h
  | _ :: _, [], h, _ => by simp [List.isPrefixOf] at h
  | x :: a, y :: b, h, hl => by
    rw [List.isPrefixOf, Bool.and_eq_true, beq_iff_eq] at h
    rw [h.1, pre_len h.2 (by simpa using hl)]
theorem bits_pre {k n m : Int} {s t : Bs} (hk : kMay k = true) (ha : kIs k n s = true) (hb : kIs k m t = true) (h : (kBits k n s).isPrefixOf (kBits k m t) = true) : kBits k n s = kBits k m t := by
  rcases may_cases hk with rfl | rfl | rfl | rfl | rfl
  · exact pre_len h rfl
  · exact pre_len h rfl
  · exact pre_len h rfl
  · rw [show kBits 4 n s = rowD s from rfl, show kBits 4 m t = rowD t from rfl] at h ⊢
    rw [pre_row s t h]
  · rw [show kBits 5 n s = rowD s from rfl, show kBits 5 m t = rowD t from rfl] at h ⊢
    rw [pre_row s t h]
/-- Bits stand as their cells do, and none are the beginning of others. -/
theorem bitsD_cmp {k : Int} {tn an bn : Bool} {n m : Int} {s t : Bs} (ha : kCheck k tn an n s = 0) (hb : kCheck k tn bn m t = 0) :
    compareBytes (kBitsD k tn an n s) (kBitsD k tn bn m t) = kCmp an n s bn m t ∧ ((kBitsD k tn an n s).isPrefixOf (kBitsD k tn bn m t) = true → kCmp an n s bn m t = 0) := by
  obtain ⟨hk, oa⟩ := check_zero ha
  obtain ⟨_, ob⟩ := check_zero hb
  unfold kBitsD
  rw [if_pos ha, if_pos hb]
  cases an with
  | true =>
    obtain ⟨rfl, rfl, rfl⟩ := ok_null oa
    cases bn with
    | true =>
      obtain ⟨_, rfl, rfl⟩ := ok_null ob
      exact ⟨by rfl, fun _ => by rfl⟩
    | false =>
      simp only [if_true, Bool.false_eq_true, if_false]
      refine ⟨by rw [cb_lt _ _ (by decide)]; rfl, fun h => ?_⟩
      simp [List.isPrefixOf] at h
  | false =>
    have ia := ok_some oa
    cases bn with
    | true =>
      obtain ⟨rfl, rfl, rfl⟩ := ok_null ob
      simp only [if_true, Bool.false_eq_true, if_false]
      refine ⟨by rw [cb_gt _ _ (by decide)]; rfl, fun h => ?_⟩
      simp [List.isPrefixOf] at h
    | false =>
      have ib := ok_some ob
      have hc := bits_cmp hk ia ib
      cases tn with
      | true =>
        simp only [if_true, Bool.false_eq_true, if_false]
        rw [cb_cons]
        refine ⟨hc, fun h => ?_⟩
        rw [List.isPrefixOf, Bool.and_eq_true] at h
        rw [← hc, bits_pre hk ia ib h.2, cb_self]
      | false =>
        simp only [Bool.false_eq_true, if_false]
        refine ⟨hc, fun h => ?_⟩
        rw [← hc, bits_pre hk ia ib h, cb_self]
end Go.Ms
