/- The reader of literals, as plain functions: place and error go along. -/
import Derived.Test.YtnjljcgapijadaaDoorPm
import Derived.Lib.DecodeN
set_option linter.unusedVariables false
namespace Go.Ms
open Go.Lib
/-- The first error holds. -/
def rdFail (e x : Int) : Int := if e = 0 then x else e
def rdTake (l : Bs) (p : Nat) (e : Int) : Int × Nat × Int := if e = 0 then (if p = l.length then (0, p, 3) else ((bt l p : Nat), p + 1, 0)) else (0, p, e)
def rdWant (l : Bs) (c : Int) (p : Nat) (e : Int) : Nat × Int := ((rdTake l p e).2.1, if (rdTake l p e).1 = c then (rdTake l p e).2.2 else rdFail (rdTake l p e).2.2 41)
/-- A digit's number; 16: it is none. -/
def hexv (c : Int) : Int := if 48 ≤ c ∧ c ≤ 57 then c - 48 else if 65 ≤ c ∧ c ≤ 70 then c - 55 else if 97 ≤ c ∧ c ≤ 102 then c - 87 else 16
def rdDigit (l : Bs) (p : Nat) (e : Int) : Int × Nat × Int :=
  if hexv (rdTake l p e).1 = 16 then (0, (rdTake l p e).2.1, rdFail (rdTake l p e).2.2 41) else (hexv (rdTake l p e).1, (rdTake l p e).2.1, (rdTake l p e).2.2)

theorem rdTake_bd (l : Bs) (p : Nat) (e : Int) : 0 ≤ (rdTake l p e).1 ∧ (rdTake l p e).1 < 256 := by
  have := bt_lt l p
  unfold rdTake
  repeat' split
  all_goals (simp only; omega)
theorem rdTake_le (l : Bs) (p : Nat) (e : Int) (h : p ≤ l.length) : p ≤ (rdTake l p e).2.1 ∧ (rdTake l p e).2.1 ≤ l.length := by
  unfold rdTake
  repeat' split
  all_goals (simp only; omega)
theorem hexv_bd (c : Int) : 0 ≤ hexv c ∧ hexv c ≤ 16 := by
  unfold hexv
  repeat' split
  all_goals omega
theorem rdDigit_bd (l : Bs) (p : Nat) (e : Int) : 0 ≤ (rdDigit l p e).1 ∧ (rdDigit l p e).1 < 16 := by
  have := hexv_bd (rdTake l p e).1
  unfold rdDigit
  split
  all_goals (simp only; omega)
theorem rdDigit_le (l : Bs) (p : Nat) (e : Int) (h : p ≤ l.length) : p ≤ (rdDigit l p e).2.1 ∧ (rdDigit l p e).2.1 ≤ l.length := by
  have := rdTake_le l p e h
  unfold rdDigit
  split
  all_goals (simp only; omega)

/-- Four digits, the first error holding. -/
def h0 (l : Bs) (second : Bool) (p : Nat) (e : Int) : Int × Nat × Int :=
  ((rdDigit l p e).1, (rdDigit l p e).2.1, if second = true ∧ ¬ (rdDigit l p e).1 = 13 then rdFail (rdDigit l p e).2.2 41 else (rdDigit l p e).2.2)
def h1 (l : Bs) (second : Bool) (p : Nat) (e : Int) : Int × Nat × Int :=
  (16 * (h0 l second p e).1 + (rdDigit l (h0 l second p e).2.1 (h0 l second p e).2.2).1, (rdDigit l (h0 l second p e).2.1 (h0 l second p e).2.2).2.1,
   if second = decide (220 ≤ 16 * (h0 l second p e).1 + (rdDigit l (h0 l second p e).2.1 (h0 l second p e).2.2).1 ∧ 16 * (h0 l second p e).1 + (rdDigit l (h0 l second p e).2.1 (h0 l second p e).2.2).1 ≤ 223)
   then (rdDigit l (h0 l second p e).2.1 (h0 l second p e).2.2).2.2 else rdFail (rdDigit l (h0 l second p e).2.1 (h0 l second p e).2.2).2.2 41)
def h2 (l : Bs) (second : Bool) (p : Nat) (e : Int) : Int × Nat × Int :=
  (16 * (h1 l second p e).1 + (rdDigit l (h1 l second p e).2.1 (h1 l second p e).2.2).1, (rdDigit l (h1 l second p e).2.1 (h1 l second p e).2.2).2.1, (rdDigit l (h1 l second p e).2.1 (h1 l second p e).2.2).2.2)
def rdHalf (l : Bs) (second : Bool) (p : Nat) (e : Int) : Int × Nat × Int :=
  (16 * (h2 l second p e).1 + (rdDigit l (h2 l second p e).2.1 (h2 l second p e).2.2).1, (rdDigit l (h2 l second p e).2.1 (h2 l second p e).2.2).2.1, (rdDigit l (h2 l second p e).2.1 (h2 l second p e).2.2).2.2)

theorem h0_bd (l : Bs) (second : Bool) (p : Nat) (e : Int) : 0 ≤ (h0 l second p e).1 ∧ (h0 l second p e).1 < 16 := rdDigit_bd l p e
theorem h0_le (l : Bs) (second : Bool) (p : Nat) (e : Int) (h : p ≤ l.length) : p ≤ (h0 l second p e).2.1 ∧ (h0 l second p e).2.1 ≤ l.length := rdDigit_le l p e h
theorem h1_bd (l : Bs) (second : Bool) (p : Nat) (e : Int) : 0 ≤ (h1 l second p e).1 ∧ (h1 l second p e).1 < 256 := by
  have := h0_bd l second p e
  have := rdDigit_bd l (h0 l second p e).2.1 (h0 l second p e).2.2
  unfold h1; simp only; omega
theorem h1_le (l : Bs) (second : Bool) (p : Nat) (e : Int) (h : p ≤ l.length) : p ≤ (h1 l second p e).2.1 ∧ (h1 l second p e).2.1 ≤ l.length := by
  have a := h0_le l second p e h
  have := rdDigit_le l (h0 l second p e).2.1 (h0 l second p e).2.2 a.2
  unfold h1; simp only; omega
theorem h2_bd (l : Bs) (second : Bool) (p : Nat) (e : Int) : 0 ≤ (h2 l second p e).1 ∧ (h2 l second p e).1 < 4096 := by
  have := h1_bd l second p e
  have := rdDigit_bd l (h1 l second p e).2.1 (h1 l second p e).2.2
  unfold h2; simp only; omega
theorem h2_le (l : Bs) (second : Bool) (p : Nat) (e : Int) (h : p ≤ l.length) : p ≤ (h2 l second p e).2.1 ∧ (h2 l second p e).2.1 ≤ l.length := by
  have a := h1_le l second p e h
  have := rdDigit_le l (h1 l second p e).2.1 (h1 l second p e).2.2 a.2
  unfold h2; simp only; omega
theorem rdHalf_bd (l : Bs) (second : Bool) (p : Nat) (e : Int) : 0 ≤ (rdHalf l second p e).1 ∧ (rdHalf l second p e).1 < 65536 := by
  have := h2_bd l second p e
  have := rdDigit_bd l (h2 l second p e).2.1 (h2 l second p e).2.2
  unfold rdHalf; simp only; omega
theorem rdHalf_le (l : Bs) (second : Bool) (p : Nat) (e : Int) (h : p ≤ l.length) : p ≤ (rdHalf l second p e).2.1 ∧ (rdHalf l second p e).2.1 ≤ l.length := by
  have a := h2_le l second p e h
  have := rdDigit_le l (h2 l second p e).2.1 (h2 l second p e).2.2 a.2
  unfold rdHalf; simp only; omega

/-- utf8.FullRuneInString. -/
def fullD (l : Bs) : Bool :=
  decide (firstT (bt l 0) % 8 ≤ l.length) || (decide (1 < l.length) && (decide (bt l 1 < accLo (firstT (bt l 0) / 16)) || decide (accHi (firstT (bt l 0) / 16) < bt l 1))) || (decide (2 < l.length) && (decide (bt l 2 < 128) || decide (191 < bt l 2)))
/-- A rune that stands as it is. -/
def rdPlain (l : Bs) (p : Nat) (e : Int) : Bs × Nat × Int :=
  if bt l p < 32 then ([], p, rdFail e 41)
  else if (nextD (l.drop p)).2.2 = true then ((l.drop p).take (nextD (l.drop p)).2.1, p + (nextD (l.drop p)).2.1, e)
  else if fullD (l.drop p) = true then ([], p, rdFail e 40) else ([], p, rdFail e 3)

/-- The rune that a byte behind a backslash says. -/
def unesc (c : Int) : Option Int :=
  if c = 34 then some 34 else if c = 92 then some 92 else if c = 98 then some 8 else if c = 102 then some 12 else if c = 110 then some 10 else if c = 114 then some 13 else if c = 116 then some 9 else none
def rdPair (l : Bs) (p3 : Nat) (e3 n : Int) : Bs × Nat × Int :=
  let w1 := rdWant l 92 p3 e3
  let w2 := rdWant l 117 w1.1 w1.2
  let h := rdHalf l true w2.1 w2.2
  if h.2.2 = 0 then (encodeRune (65536 + (n - 55296) * 1024 + h.1 - 56320), h.2.1, h.2.2) else ([], h.2.1, h.2.2)
def rdLong (l : Bs) (p e : Nat × Int) : Bs × Nat × Int :=
  let h := rdHalf l false p.1 e.2
  if 55296 ≤ h.1 ∧ h.1 < 56320 then rdPair l h.2.1 h.2.2 h.1
  else if h.2.2 = 0 then (encodeRune h.1, h.2.1, h.2.2) else ([], h.2.1, h.2.2)
def rdEscape (l : Bs) (p : Nat) (e : Int) : Bs × Nat × Int :=
  let t := rdTake l p e
  if t.1 = 47 then ([47], t.2.1, t.2.2)
  else match unesc t.1 with
    | some k => (encodeRune k, t.2.1, t.2.2)
    | none => rdLong l (t.2.1, 0) (0, if t.1 = 117 then t.2.2 else rdFail t.2.2 41)

theorem rdWant_le (l : Bs) (c : Int) (p : Nat) (e : Int) (h : p ≤ l.length) : p ≤ (rdWant l c p e).1 ∧ (rdWant l c p e).1 ≤ l.length := rdTake_le l p e h
theorem rdPair_le (l : Bs) (p3 : Nat) (e3 n : Int) (h : p3 ≤ l.length) : p3 ≤ (rdPair l p3 e3 n).2.1 ∧ (rdPair l p3 e3 n).2.1 ≤ l.length := by
  have a := rdWant_le l 92 p3 e3 h
  have b := rdWant_le l 117 (rdWant l 92 p3 e3).1 (rdWant l 92 p3 e3).2 a.2
  have c := rdHalf_le l true (rdWant l 117 (rdWant l 92 p3 e3).1 (rdWant l 92 p3 e3).2).1 (rdWant l 117 (rdWant l 92 p3 e3).1 (rdWant l 92 p3 e3).2).2 b.2
  unfold rdPair
  simp only
  split <;> (simp only; omega)
theorem rdLong_le (l : Bs) (p e : Nat × Int) (h : p.1 ≤ l.length) : p.1 ≤ (rdLong l p e).2.1 ∧ (rdLong l p e).2.1 ≤ l.length := by
  have a := rdHalf_le l false p.1 e.2 h
  unfold rdLong
  simp only
  split
  · have b := rdPair_le l (rdHalf l false p.1 e.2).2.1 (rdHalf l false p.1 e.2).2.2 (rdHalf l false p.1 e.2).1 a.2
    omega
  · split <;> (simp only; omega)
theorem rdEscape_le (l : Bs) (p : Nat) (e : Int) (h : p ≤ l.length) : p ≤ (rdEscape l p e).2.1 ∧ (rdEscape l p e).2.1 ≤ l.length := by
  have a := rdTake_le l p e h
  unfold rdEscape
  simp only
  split
  · simp only; omega
  · split
    · simp only; omega
    · have b := rdLong_le l ((rdTake l p e).2.1, 0) (0, if (rdTake l p e).1 = 117 then (rdTake l p e).2.2 else rdFail (rdTake l p e).2.2 41) a.2
      simp only at b
      omega
theorem rdPlain_le (l : Bs) (p : Nat) (e : Int) (h : p < l.length) : p ≤ (rdPlain l p e).2.1 ∧ (rdPlain l p e).2.1 ≤ l.length ∧ (e = 0 → (rdPlain l p e).2.2 = 0 → p < (rdPlain l p e).2.1) := by
  unfold rdPlain
  split
  · refine ⟨by simp, by simp only; omega, fun he h1 => ?_⟩
    simp only [rdFail, he, if_true] at h1; omega
  · split
    · rename_i hn
      rcases next_cases (l.drop p) with e1 | ⟨r, h1, h2, h3⟩
      · rw [e1] at hn; simp at hn
      · have hl := encodeRune_length r
        have := congrArg List.length h3
        simp only [List.length_append, List.length_drop] at this
        rw [h2]
        refine ⟨by simp only; omega, by simp only; omega, fun _ _ => by simp only; omega⟩
    · split
      · refine ⟨by simp, by simp only; omega, fun he h1 => ?_⟩
        simp only [rdFail, he, if_true] at h1; omega
      · refine ⟨by simp, by simp only; omega, fun he h1 => ?_⟩
        simp only [rdFail, he, if_true] at h1; omega
/-- A piece's length: at most four bytes. -/
theorem rdEscape_len (l : Bs) (p : Nat) (e : Int) : (rdEscape l p e).1.length ≤ 4 := by
  unfold rdEscape rdLong rdPair
  simp only
  repeat' split
  all_goals first | exact (encodeRune_length _).2 | simp
theorem rdPlain_len (l : Bs) (p : Nat) (e : Int) : (rdPlain l p e).1.length ≤ 4 := by
  unfold rdPlain
  repeat' split
  · simp
  · rename_i hn
    rcases next_cases (l.drop p) with e1 | ⟨r, h1, h2, h3⟩
    · rw [e1] at hn; simp at hn
    · have hl := encodeRune_length r
      rw [h2]; simp only [List.length_take]; omega
  · simp
  · simp
/-- Unquote's loop: text so far, place, error. -/
def uqGo (l : Bs) : Nat → Bs → Nat → Int → Bs × Nat × Int
  | 0, _, _, _ => ([], 0, 0)
  | n + 1, acc, p, e =>
    if e = 0 then
      if p = l.length then ([], 0, 3)
      else if bt l p = 34 then (acc, p + 1, 0)
      else if bt l p = 92 then uqGo l n (acc ++ (rdEscape l (p + 1) 0).1) (rdEscape l (p + 1) 0).2.1 (rdEscape l (p + 1) 0).2.2
      else uqGo l n (acc ++ (rdPlain l p 0).1) (rdPlain l p 0).2.1 (rdPlain l p 0).2.2
    else ([], 0, e)
theorem uqGo_succ (l : Bs) (n : Nat) (acc : Bs) (p : Nat) (e : Int) : uqGo l (n + 1) acc p e = if e = 0 then (if p = l.length then ([], 0, 3) else if bt l p = 34 then (acc, p + 1, 0)
      else if bt l p = 92 then uqGo l n (acc ++ (rdEscape l (p + 1) 0).1) (rdEscape l (p + 1) 0).2.1 (rdEscape l (p + 1) 0).2.2
      else uqGo l n (acc ++ (rdPlain l p 0).1) (rdPlain l p 0).2.1 (rdPlain l p 0).2.2) else ([], 0, e) := rfl
def unquoteD (l : Bs) : Bs × Nat × Int := uqGo l (l.length + 2) [] (rdWant l 34 0 0).1 (rdWant l 34 0 0).2
end Go.Ms
