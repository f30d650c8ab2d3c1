import Derived.Lib.ValidU
import Derived.Lib.RuneBytes
set_option linter.unusedVariables false
namespace Go.Ms
open Go.Lib
abbrev Bs := List UInt8

def isRune (r : Int) : Bool := (decide (0 ≤ r) && decide (r < 55296)) || (decide (57344 ≤ r) && decide (r ≤ 1114111))
theorem isRune_iff (r : Int) : isRune r = true ↔ (0 ≤ r ∧ r < 55296) ∨ (57344 ≤ r ∧ r ≤ 1114111) := by simp [isRune]

def bt (l : Bs) (i : Nat) : Nat := (l.getD i 0).toNat
theorem bt_lt (l : Bs) (i : Nat) : bt l i < 256 := UInt8.toNat_lt _

theorem get!_list (l : Bs) (i : Nat) : ByteArray.get! ⟨l.toArray⟩ i = l.getD i 0 := by
  show (l.toArray)[i]! = _
  simp [List.getD_eq_getElem?_getD]
  rfl

theorem decodeL_eq (l : Bs) : decodeL l = decodeN l.length (bt l 0) (bt l 1) (bt l 2) (bt l 3) := by
  unfold decodeL
  rw [decode_at]
  simp only [get!_list, bt, Nat.zero_add, Nat.sub_zero]
  rfl

theorem enc_toNat {r : Int} : (encodeRune r).map UInt8.toNat = (encodeRuneZ r).map Int.toNat := by
  unfold encodeRune
  rw [List.map_map]
  apply List.map_congr_left
  intro x hx
  have := encodeRuneZ_byte r x hx
  simp [Function.comp, Nat.toUInt8]
  omega

theorem toU8_toNat {x : Int} (h0 : 0 ≤ x) (h1 : x < 256) : ((x.toNat.toUInt8).toNat : Int) = x := by
  simp [Nat.toUInt8]; omega

theorem u8_ext {a : UInt8} {x : Int} (h : (a.toNat : Int) = x) : x.toNat.toUInt8 = a := by
  subst h
  simp [Nat.toUInt8]

set_option maxRecDepth 100000 in
/-- What the decoder takes for a rune is one, and stands there as its bytes. -/
theorem dec_sound (l : Bs) (hl : l ≠ []) (h : ¬ ((decodeL l).1 = 65533 ∧ (decodeL l).2 < 2)) :
    isRune (decodeL l).1 = true ∧ (decodeL l).2 ≤ l.length ∧ l.take (decodeL l).2 = encodeRune (decodeL l).1 := by
  obtain ⟨p, hp⟩ : ∃ p, decodeL l = p := ⟨_, rfl⟩
  rw [hp] at h ⊢
  rw [decodeL_eq] at hp
  obtain ⟨a, l, rfl⟩ := List.exists_cons_of_ne_nil hl
  have ha := UInt8.toNat_lt a
  have e0 : bt (a :: l) 0 = a.toNat := rfl
  rw [e0] at hp
  unfold decodeN at hp
  split at hp
  · rename_i c
    subst hp
    refine ⟨by rw [isRune_iff]; simp only; omega, by simp, ?_⟩
    simp only
    unfold encodeRune
    rw [encodeRuneZ_one (by omega) (by omega)]
    simp [Nat.toUInt8]
  split at hp
  · rename_i c c1
    obtain ⟨p1, p2, p3⟩ := c1
    match l, p2 with
    | b :: l, _ =>
      have e1 : bt (a :: b :: l) 1 = b.toNat := rfl
      rw [e1] at hp p3
      have hb := UInt8.toNat_lt b
      split at hp
      · subst hp
        refine ⟨by rw [isRune_iff]; simp only; omega, by simp, ?_⟩
        simp only
        unfold encodeRune
        rw [encodeRuneZ_two (by omega) (by omega)]
        simp only [List.take_succ_cons, List.take_zero, List.map_cons, List.map_nil]
        rw [u8_ext (a := a) (by omega), u8_ext (a := b) (by omega)]
      · subst hp; exact absurd ⟨rfl, by decide⟩ h
  split at hp
  · rename_i c c1 c2
    obtain ⟨p1, ⟨p2, p3⟩, p4, p5⟩ := c2
    match l, p4 with
    | b :: d :: l, _ =>
      have e1 : bt (a :: b :: d :: l) 1 = b.toNat := rfl
      have e2 : bt (a :: b :: d :: l) 2 = d.toNat := rfl
      rw [e1] at hp p3
      rw [e2] at hp p5
      have hb := UInt8.toNat_lt b
      have hd := UInt8.toNat_lt d
      split at hp
      · subst hp
        refine ⟨by rw [isRune_iff]; simp only; omega, by simp, ?_⟩
        simp only
        unfold encodeRune
        rw [encodeRuneZ_three (by omega)]
        simp only [List.take_succ_cons, List.take_zero, List.map_cons, List.map_nil]
        rw [u8_ext (a := a) (by omega), u8_ext (a := b) (by omega), u8_ext (a := d) (by omega)]
      · subst hp; exact absurd ⟨rfl, by decide⟩ h
  split at hp
  · rename_i c c1 c2 c3
    obtain ⟨p1, ⟨p2, p3⟩, ⟨p4, p5⟩, p6, p7⟩ := c3
    match l, p6 with
    | b :: d :: f :: l, _ =>
      have e1 : bt (a :: b :: d :: f :: l) 1 = b.toNat := rfl
      have e2 : bt (a :: b :: d :: f :: l) 2 = d.toNat := rfl
      have e3 : bt (a :: b :: d :: f :: l) 3 = f.toNat := rfl
      rw [e1] at hp p3
      rw [e2] at hp p5
      rw [e3] at hp p7
      have hb := UInt8.toNat_lt b
      have hd := UInt8.toNat_lt d
      have hf := UInt8.toNat_lt f
      split at hp
      · subst hp
        refine ⟨by rw [isRune_iff]; simp only; omega, by simp, ?_⟩
        simp only
        unfold encodeRune
        rw [encodeRuneZ_four (by omega) (by omega)]
        simp only [List.take_succ_cons, List.take_zero, List.map_cons, List.map_nil]
        rw [u8_ext (a := a) (by omega), u8_ext (a := b) (by omega), u8_ext (a := d) (by omega), u8_ext (a := f) (by omega)]
      · subst hp; exact absurd ⟨rfl, by decide⟩ h
  · subst hp; exact absurd ⟨rfl, by decide⟩ h

theorem toU8_nat {x : Int} (h0 : 0 ≤ x) (h1 : x < 256) : (x.toNat.toUInt8).toNat = x.toNat := by
  have := toU8_toNat h0 h1; omega

set_option maxRecDepth 100000 in
/-- The bytes of a rune are taken for it, whatever stands behind. -/
theorem dec_enc (r : Int) (m : Bs) (h : isRune r = true) : decodeL (encodeRune r ++ m) = (r.toNat, (encodeRune r).length) := by
  rw [isRune_iff] at h
  rw [decodeL_eq]
  unfold encodeRune
  by_cases c0 : r ≤ 127
  · rw [encodeRuneZ_one (by omega) c0]
    simp only [List.map_cons, List.map_nil, List.cons_append, List.nil_append, bt, List.getD_cons_zero, List.getD_cons_succ, List.length_cons, List.length_nil]
    rw [toU8_nat (by omega) (by omega)]
    unfold decodeN
    rw [if_pos (by omega)]
  by_cases c1 : r ≤ 2047
  · rw [encodeRuneZ_two (by omega) c1]
    simp only [List.map_cons, List.map_nil, List.cons_append, List.nil_append, bt, List.getD_cons_zero, List.getD_cons_succ, List.length_cons, List.length_nil]
    rw [toU8_nat (by omega) (by omega), toU8_nat (by omega) (by omega)]
    unfold decodeN
    rw [if_neg (by omega), if_pos ⟨by omega, by omega, by omega⟩, if_pos (by omega)]
    apply Prod.ext <;> simp only <;> omega
  by_cases c2 : r ≤ 65535
  · rw [encodeRuneZ_three (by omega)]
    simp only [List.map_cons, List.map_nil, List.cons_append, List.nil_append, bt, List.getD_cons_zero, List.getD_cons_succ, List.length_cons, List.length_nil]
    rw [toU8_nat (by omega) (by omega), toU8_nat (by omega) (by omega), toU8_nat (by omega) (by omega)]
    unfold decodeN
    rw [if_neg (by omega), if_neg (by omega), if_pos ⟨by omega, ⟨by omega, by omega⟩, by omega, by omega⟩, if_pos (by omega)]
    apply Prod.ext <;> simp only <;> omega
  · rw [encodeRuneZ_four (by omega) (by omega)]
    simp only [List.map_cons, List.map_nil, List.cons_append, List.nil_append, bt, List.getD_cons_zero, List.getD_cons_succ, List.length_cons, List.length_nil]
    rw [toU8_nat (by omega) (by omega), toU8_nat (by omega) (by omega), toU8_nat (by omega) (by omega), toU8_nat (by omega) (by omega)]
    unfold decodeN
    rw [if_neg (by omega), if_neg (by omega), if_neg (by omega), if_pos ⟨by omega, ⟨by omega, by omega⟩, ⟨by omega, by omega⟩, by omega, by omega⟩, if_pos (by omega)]
    apply Prod.ext <;> simp only <;> omega

end Go.Ms
