import Derived.Test.YtnjljcgapijadaaDoorPl
set_option linter.unusedVariables false
namespace Go.Ms
open Go.Lib
/-- Put's bytes. -/
def put (r : Int) : Bs := if isRune r = true then encodeRune r else []
theorem put_rune {r : Int} (h : isRune r = true) : put r = encodeRune r := by simp [put, h]
theorem put_none {r : Int} (h : isRune r = false) : put r = [] := by simp [put, h]
/-- Next's answer. -/
def nextD (l : Bs) : Nat × Nat × Bool := if l = [] then (0, 0, false) else if (decodeL l).1 = 65533 ∧ (decodeL l).2 < 2 then (0, 0, false) else ((decodeL l).1, (decodeL l).2, true)

/-- What bytes say, were they a rune's. -/
def numberD (l : Bs) : Int :=
  if l.length = 1 then bt l 0
  else if l.length = 2 then 64 * (bt l 0 % 32 : Nat) + (bt l 1 % 64 : Nat)
  else if l.length = 3 then 64 * (64 * (bt l 0 % 16 : Nat) + (bt l 1 % 64 : Nat)) + (bt l 2 % 64 : Nat)
  else 64 * (64 * (64 * (bt l 0 % 8 : Nat) + (bt l 1 % 64 : Nat)) + (bt l 2 % 64 : Nat)) + (bt l 3 % 64 : Nat)

theorem encodeRune_length (r : Int) : 1 ≤ (encodeRune r).length ∧ (encodeRune r).length ≤ 4 := by
  have := encodeRuneZ_length r
  simpa [encodeRune] using this

set_option maxRecDepth 100000 in
theorem number_enc (r : Int) (h : isRune r = true) : numberD (encodeRune r) = r := by
  rw [isRune_iff] at h
  unfold encodeRune
  by_cases c0 : r ≤ 127
  · rw [encodeRuneZ_one (by omega) c0]
    simp only [numberD, List.map_cons, List.map_nil, bt, List.getD_cons_zero, List.getD_cons_succ, List.length_cons, List.length_nil]
    rw [toU8_nat (by omega) (by omega)]
    simp; omega
  by_cases c1 : r ≤ 2047
  · rw [encodeRuneZ_two (by omega) c1]
    simp only [numberD, List.map_cons, List.map_nil, bt, List.getD_cons_zero, List.getD_cons_succ, List.length_cons, List.length_nil]
    rw [toU8_nat (by omega) (by omega), toU8_nat (by omega) (by omega)]
    simp; omega
  by_cases c2 : r ≤ 65535
  · rw [encodeRuneZ_three (by omega)]
    simp only [numberD, List.map_cons, List.map_nil, bt, List.getD_cons_zero, List.getD_cons_succ, List.length_cons, List.length_nil]
    rw [toU8_nat (by omega) (by omega), toU8_nat (by omega) (by omega), toU8_nat (by omega) (by omega)]
    simp; omega
  · rw [encodeRuneZ_four (by omega) (by omega)]
    simp only [numberD, List.map_cons, List.map_nil, bt, List.getD_cons_zero, List.getD_cons_succ, List.length_cons, List.length_nil]
    rw [toU8_nat (by omega) (by omega), toU8_nat (by omega) (by omega), toU8_nat (by omega) (by omega), toU8_nat (by omega) (by omega)]
    simp; omega

/-- Are so many bytes those of the rune that they would be? -/
def hit (l : Bs) (n : Nat) : Bool := isRune (numberD (l.take n)) && put (numberD (l.take n)) == l.take n
theorem hit_iff (l : Bs) (n : Nat) : hit l n = true ↔ isRune (numberD (l.take n)) = true ∧ encodeRune (numberD (l.take n)) = l.take n := by
  unfold hit
  constructor
  · intro h
    simp only [Bool.and_eq_true, beq_iff_eq] at h
    exact ⟨h.1, by rw [← put_rune h.1]; exact h.2⟩
  · intro h
    simp only [Bool.and_eq_true, beq_iff_eq]
    exact ⟨h.1, by rw [put_rune h.1]; exact h.2⟩

theorem isRune_nat {r : Int} (h : isRune r = true) : ((r.toNat : Nat) : Int) = r := by rw [isRune_iff] at h; omega

/-- The rune 65533 has three bytes. -/
theorem enc_65533 : (encodeRune 65533).length = 3 := by decide

theorem next_enc (r : Int) (m : Bs) (h : isRune r = true) : nextD (encodeRune r ++ m) = (r.toNat, (encodeRune r).length, true) := by
  have hl := encodeRune_length r
  have hne : encodeRune r ++ m ≠ [] := by intro e; rw [List.append_eq_nil_iff] at e; rw [e.1] at hl; simp at hl
  unfold nextD
  rw [if_neg hne, dec_enc r m h, if_neg]
  intro ⟨h1, h2⟩
  simp only at h1 h2
  have : r = 65533 := by have := isRune_nat h; omega
  rw [this, enc_65533] at h2
  omega

theorem next_cases (l : Bs) : nextD l = (0, 0, false) ∨ ∃ r : Int, isRune r = true ∧ nextD l = (r.toNat, (encodeRune r).length, true) ∧ l = encodeRune r ++ l.drop (encodeRune r).length := by
  unfold nextD
  by_cases hl : l = []
  · exact .inl (by rw [if_pos hl])
  rw [if_neg hl]
  by_cases h : (decodeL l).1 = 65533 ∧ (decodeL l).2 < 2
  · exact .inl (by rw [if_pos h])
  · rw [if_neg h]
    obtain ⟨a, b, c⟩ := dec_sound l hl h
    have e : (encodeRune (decodeL l).1).length = (decodeL l).2 := by rw [← c]; simp; omega
    refine .inr ⟨((decodeL l).1 : Nat), a, by rw [e]; simp, ?_⟩
    rw [e, ← c]
    simp

theorem hit_next (l : Bs) (n : Nat) (hn : n ≤ l.length) (h : hit l n = true) : nextD l = ((numberD (l.take n)).toNat, n, true) := by
  rw [hit_iff] at h
  have e : l = encodeRune (numberD (l.take n)) ++ l.drop n := by rw [h.2]; simp
  have el : (encodeRune (numberD (l.take n))).length = n := by rw [h.2]; simp; omega
  have := next_enc _ (l.drop n) h.1
  rw [← e, el] at this
  exact this

theorem no_hit (l : Bs) (h : ∀ n, 1 ≤ n → n ≤ 4 → n ≤ l.length → hit l n = false) : nextD l = (0, 0, false) := by
  rcases next_cases l with e | ⟨r, h1, h2, h3⟩
  · exact e
  · exfalso
    have hl := encodeRune_length r
    have hll : (encodeRune r).length ≤ l.length := by have := congrArg List.length h3; rw [List.length_append] at this; omega
    have ht : l.take (encodeRune r).length = encodeRune r := by have := congrArg (List.take (encodeRune r).length) h3; rw [this]; simp
    have := h _ hl.1 hl.2 hll
    rw [Bool.eq_false_iff] at this
    apply this
    rw [hit_iff, ht, number_enc r h1]
    exact ⟨h1, rfl⟩
end Go.Ms
