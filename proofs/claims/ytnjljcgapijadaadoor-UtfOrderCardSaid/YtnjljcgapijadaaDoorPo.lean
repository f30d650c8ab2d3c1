/- Runes stand as their bytes do. -/
import Derived.Test.YtnjljcgapijadaaDoorPm
import GoSem.Op.String
set_option linter.unusedVariables false
namespace Go.Ms
open Go.Lib
def lessZ : List Int → List Int → Bool
  | _, [] => false
  | [], _ :: _ => true
  | a :: x, b :: y => decide (a < b) || (decide (a = b) && lessZ x y)
theorem less_map : ∀ l m : List Int, (∀ x ∈ l, 0 ≤ x ∧ x < 256) → (∀ x ∈ m, 0 ≤ x ∧ x < 256) → Op.bytesLess (l.map fun x => x.toNat.toUInt8) (m.map fun x => x.toNat.toUInt8) = lessZ l m := by
  intro l
  induction l with
  | nil => intro m _ _; cases m <;> rfl
  | cons a l ih =>
    intro m hl hm
    cases m with
    | nil => rfl
    | cons b m =>
      have ha := hl a (by simp)
      have hb := hm b (by simp)
      have h1 := toU8_nat ha.1 ha.2
      have h2 := toU8_nat hb.1 hb.2
      simp only [List.map_cons, Op.bytesLess, lessZ]
      rw [ih m (fun x hx => hl x (by simp [hx])) (fun x hx => hm x (by simp [hx]))]
      congr 1
      · rw [decide_eq_decide, UInt8.lt_iff_toNat_lt, h1, h2]; omega
      · congr 1
        rw [Bool.eq_iff_iff, beq_iff_eq, decide_eq_true_eq, ← UInt8.toNat_inj, h1, h2]; omega
set_option maxRecDepth 100000 in
set_option maxHeartbeats 1000000 in
theorem less_enc (a b : Int) (ha : isRune a = true) (hb : isRune b = true) : Op.bytesLess (encodeRune a) (encodeRune b) = decide (a < b) := by
  unfold encodeRune
  rw [less_map _ _ (encodeRuneZ_byte a) (encodeRuneZ_byte b)]
  rw [isRune_iff] at ha hb
  by_cases a0 : a ≤ 127
  · rw [encodeRuneZ_one (by omega) a0]
    by_cases b0 : b ≤ 127
    · rw [encodeRuneZ_one (by omega) b0]; simp [lessZ]
    by_cases b1 : b ≤ 2047
    · rw [encodeRuneZ_two (by omega) b1]; rw [Bool.eq_iff_iff]; simp [lessZ]; omega
    by_cases b2 : b ≤ 65535
    · rw [encodeRuneZ_three (by omega)]; rw [Bool.eq_iff_iff]; simp [lessZ]; omega
    · rw [encodeRuneZ_four (by omega) (by omega)]; rw [Bool.eq_iff_iff]; simp [lessZ]; omega
  by_cases a1 : a ≤ 2047
  · rw [encodeRuneZ_two (by omega) a1]
    by_cases b0 : b ≤ 127
    · rw [encodeRuneZ_one (by omega) b0]; rw [Bool.eq_iff_iff]; simp [lessZ]; omega
    by_cases b1 : b ≤ 2047
    · rw [encodeRuneZ_two (by omega) b1]; rw [Bool.eq_iff_iff]; simp [lessZ]; omega
    by_cases b2 : b ≤ 65535
    · rw [encodeRuneZ_three (by omega)]; rw [Bool.eq_iff_iff]; simp [lessZ]; omega
    · rw [encodeRuneZ_four (by omega) (by omega)]; rw [Bool.eq_iff_iff]; simp [lessZ]; omega
  by_cases a2 : a ≤ 65535
  · rw [encodeRuneZ_three (by omega)]
    by_cases b0 : b ≤ 127
    · rw [encodeRuneZ_one (by omega) b0]; rw [Bool.eq_iff_iff]; simp [lessZ]; omega
    by_cases b1 : b ≤ 2047
    · rw [encodeRuneZ_two (by omega) b1]; rw [Bool.eq_iff_iff]; simp [lessZ]; omega
    by_cases b2 : b ≤ 65535
    · rw [encodeRuneZ_three (by omega)]; rw [Bool.eq_iff_iff]; simp [lessZ]; omega
    · rw [encodeRuneZ_four (by omega) (by omega)]; rw [Bool.eq_iff_iff]; simp [lessZ]; omega
  · rw [encodeRuneZ_four (by omega) (by omega)]
    by_cases b0 : b ≤ 127
    · rw [encodeRuneZ_one (by omega) b0]; rw [Bool.eq_iff_iff]; simp [lessZ]; omega
    by_cases b1 : b ≤ 2047
    · rw [encodeRuneZ_two (by omega) b1]; rw [Bool.eq_iff_iff]; simp [lessZ]; omega
    by_cases b2 : b ≤ 65535
    · rw [encodeRuneZ_three (by omega)]; rw [Bool.eq_iff_iff]; simp [lessZ]; omega
    · rw [encodeRuneZ_four (by omega) (by omega)]; rw [Bool.eq_iff_iff]; simp [lessZ]; omega
theorem eq_enc (a b : Int) (ha : isRune a = true) (hb : isRune b = true) : (encodeRune a == encodeRune b) = (a == b) := by
  rw [Bool.eq_iff_iff, beq_iff_eq, beq_iff_eq]
  constructor
  · intro h
    have := number_enc a ha
    rw [h, number_enc b hb] at this
    exact this.symm
  · intro h; rw [h]
end Go.Ms
