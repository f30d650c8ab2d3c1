/- Literals, part by part: what the reader makes of them. -/
import Derived.Test.YtnjljcgapijadaaDoorPs
set_option linter.unusedVariables false
namespace Go.Ms
open Go.Lib

theorem drop_cons {l : Bs} {p : Nat} {c : UInt8} {r : Bs} (h : l.drop p = c :: r) : p < l.length ∧ bt l p = c.toNat ∧ l.drop (p + 1) = r := by
  have hp : p < l.length := by
    rcases Nat.lt_or_ge p l.length with h1 | h1
    · exact h1
    · rw [List.drop_of_length_le h1] at h; cases h
  rw [List.drop_eq_getElem_cons hp] at h
  injection h with h1 h2
  refine ⟨hp, ?_, h2⟩
  unfold bt
  rw [List.getD_eq_getElem?_getD, List.getElem?_eq_getElem hp, ← h1]; rfl
theorem drop_app {l q r : Bs} {p : Nat} (h : l.drop p = q ++ r) : l.drop (p + q.length) = r := by
  rw [← List.drop_drop, h]; simp
theorem take_cons {l : Bs} {p : Nat} {c : UInt8} {r : Bs} (h : l.drop p = c :: r) : rdTake l p 0 = (((c.toNat : Nat) : Int), p + 1, (0 : Int)) := by
  obtain ⟨h1, h2, _⟩ := drop_cons h
  unfold rdTake
  rw [if_pos rfl, if_neg (by omega), h2]
theorem take_end {l : Bs} {p : Nat} (hp : p ≤ l.length) (h : l.drop p = []) : rdTake l p 0 = ((0 : Int), p, (3 : Int)) := by
  have : p = l.length := by
    have := congrArg List.length h; simp at this; omega
  unfold rdTake
  rw [if_pos rfl, if_pos this]
theorem take_err (l : Bs) (p : Nat) {e : Int} (he : e ≠ 0) : rdTake l p e = ((0 : Int), p, e) := by
  unfold rdTake; rw [if_neg he]
theorem fail_err {e x : Int} (he : e ≠ 0) : rdFail e x = e := by unfold rdFail; rw [if_neg he]
theorem hexv0 : hexv 0 = 16 := by decide

theorem digit_cons {l : Bs} {p : Nat} {c : UInt8} {r : Bs} (h : l.drop p = c :: r) (hc : hexv c.toNat ≠ 16) : rdDigit l p 0 = (hexv c.toNat, p + 1, (0 : Int)) := by
  unfold rdDigit
  rw [take_cons h]
  simp only
  rw [if_neg hc]
theorem digit_bad {l : Bs} {p : Nat} {c : UInt8} {r : Bs} (h : l.drop p = c :: r) (hc : hexv c.toNat = 16) : rdDigit l p 0 = ((0 : Int), p + 1, (41 : Int)) := by
  unfold rdDigit
  rw [take_cons h]
  simp only
  rw [if_pos hc]
  rfl
theorem digit_end {l : Bs} {p : Nat} (hp : p ≤ l.length) (h : l.drop p = []) : rdDigit l p 0 = ((0 : Int), p, (3 : Int)) := by
  unfold rdDigit
  rw [take_end hp h]
  simp only
  rw [if_pos hexv0, fail_err (by omega)]
theorem digit_err (l : Bs) (p : Nat) {e : Int} (he : e ≠ 0) : rdDigit l p e = ((0 : Int), p, e) := by
  unfold rdDigit
  rw [take_err l p he]
  simp only
  rw [if_pos hexv0, fail_err he]

/-- Four digits' number. -/
def num4 (a b c d : Int) : Int := 16 * (16 * (16 * a + b) + c) + d
def okPair (second : Bool) (a b : Int) : Prop := ¬ (second = true ∧ ¬ a = 13) ∧ second = decide (220 ≤ 16 * a + b ∧ 16 * a + b ≤ 223)
theorem half_ok {l : Bs} {p : Nat} {c1 c2 c3 c4 : UInt8} {r : Bs} (second : Bool) (h : l.drop p = c1 :: c2 :: c3 :: c4 :: r)
    (k1 : hexv c1.toNat ≠ 16) (k2 : hexv c2.toNat ≠ 16) (k3 : hexv c3.toNat ≠ 16) (k4 : hexv c4.toNat ≠ 16) (ho : okPair second (hexv c1.toNat) (hexv c2.toNat)) :
    rdHalf l second p 0 = (num4 (hexv c1.toNat) (hexv c2.toNat) (hexv c3.toNat) (hexv c4.toNat), p + 4, (0 : Int)) := by
  have e1 := (drop_cons h).2.2
  have e2 := (drop_cons e1).2.2
  have e3 := (drop_cons e2).2.2
  have g0 : h0 l second p 0 = (hexv c1.toNat, p + 1, (0 : Int)) := by
    unfold h0; rw [digit_cons h k1]; simp only; rw [if_neg ho.1]
  have g1 : h1 l second p 0 = (16 * hexv c1.toNat + hexv c2.toNat, p + 2, (0 : Int)) := by
    unfold h1; rw [g0]; simp only; rw [digit_cons e1 k2]; simp only; rw [if_pos ho.2]
  have g2 : h2 l second p 0 = (16 * (16 * hexv c1.toNat + hexv c2.toNat) + hexv c3.toNat, p + 3, (0 : Int)) := by
    unfold h2; rw [g1]; simp only; rw [digit_cons e2 k3]
  unfold rdHalf
  rw [g2]
  simp only
  rw [digit_cons e3 k4]
  rfl
theorem half_err (l : Bs) (second : Bool) (p : Nat) {e : Int} (he : e ≠ 0) : (rdHalf l second p e).2.2 = e ∧ (rdHalf l second p e).2.1 = p := by
  have g0 : (h0 l second p e).2.2 = e ∧ (h0 l second p e).2.1 = p := by
    unfold h0; rw [digit_err l p he]; simp only; refine ⟨?_, trivial⟩; split
    · exact fail_err he
    · rfl
  have g1 : (h1 l second p e).2.2 = e ∧ (h1 l second p e).2.1 = p := by
    unfold h1; rw [g0.1, g0.2, digit_err l p he]; simp only; refine ⟨?_, trivial⟩; split
    · rfl
    · exact fail_err he
  have g2 : (h2 l second p e).2.2 = e ∧ (h2 l second p e).2.1 = p := by
    unfold h2; rw [g1.1, g1.2, digit_err l p he]; exact ⟨rfl, rfl⟩
  unfold rdHalf; rw [g2.1, g2.2, digit_err l p he]; exact ⟨rfl, rfl⟩
theorem want_ok {l : Bs} {p : Nat} {c : UInt8} {r : Bs} (h : l.drop p = c :: r) : rdWant l c.toNat p 0 = (p + 1, (0 : Int)) := by
  unfold rdWant; rw [take_cons h]; simp
theorem want_bad {l : Bs} {p : Nat} {c : UInt8} {r : Bs} {x : Int} (h : l.drop p = c :: r) (hx : ((c.toNat : Nat) : Int) ≠ x) : rdWant l x p 0 = (p + 1, (41 : Int)) := by
  unfold rdWant; rw [take_cons h]; simp only; rw [if_neg hx]; rfl
theorem want_end {l : Bs} {p : Nat} {x : Int} (hp : p ≤ l.length) (h : l.drop p = []) (hx : x ≠ 0) : rdWant l x p 0 = (p, (3 : Int)) := by
  unfold rdWant; rw [take_end hp h]; simp only; rw [if_neg (Ne.symm hx)]; rfl
theorem want_err (l : Bs) (x : Int) (p : Nat) {e : Int} (he : e ≠ 0) : rdWant l x p e = (p, e) := by
  unfold rdWant; rw [take_err l p he]; simp only; split
  · rfl
  · rw [fail_err he]

/-- A part of a literal, and what it says. -/
inductive Part : Bs → Bs → Prop
  | rune (r : Int) (h : isRune r = true) (h1 : 32 ≤ r) (h2 : r ≠ 34) (h3 : r ≠ 92) : Part (encodeRune r) (encodeRune r)
  | slash : Part [92, 47] [47]
  | short (c : UInt8) (k : Int) (h : unesc c.toNat = some k) : Part [92, c] (encodeRune k)
  | four (c1 c2 c3 c4 : UInt8) (k1 : hexv c1.toNat ≠ 16) (k2 : hexv c2.toNat ≠ 16) (k3 : hexv c3.toNat ≠ 16) (k4 : hexv c4.toNat ≠ 16)
      (ho : okPair false (hexv c1.toNat) (hexv c2.toNat)) (hn : ¬ (55296 ≤ num4 (hexv c1.toNat) (hexv c2.toNat) (hexv c3.toNat) (hexv c4.toNat) ∧ num4 (hexv c1.toNat) (hexv c2.toNat) (hexv c3.toNat) (hexv c4.toNat) < 56320)) :
      Part [92, 117, c1, c2, c3, c4] (encodeRune (num4 (hexv c1.toNat) (hexv c2.toNat) (hexv c3.toNat) (hexv c4.toNat)))
  | pair (c1 c2 c3 c4 d1 d2 d3 d4 : UInt8) (k1 : hexv c1.toNat ≠ 16) (k2 : hexv c2.toNat ≠ 16) (k3 : hexv c3.toNat ≠ 16) (k4 : hexv c4.toNat ≠ 16)
      (j1 : hexv d1.toNat ≠ 16) (j2 : hexv d2.toNat ≠ 16) (j3 : hexv d3.toNat ≠ 16) (j4 : hexv d4.toNat ≠ 16)
      (ho : okPair false (hexv c1.toNat) (hexv c2.toNat)) (hn : 55296 ≤ num4 (hexv c1.toNat) (hexv c2.toNat) (hexv c3.toNat) (hexv c4.toNat) ∧ num4 (hexv c1.toNat) (hexv c2.toNat) (hexv c3.toNat) (hexv c4.toNat) < 56320)
      (hp : okPair true (hexv d1.toNat) (hexv d2.toNat)) :
      Part [92, 117, c1, c2, c3, c4, 92, 117, d1, d2, d3, d4]
        (encodeRune (65536 + (num4 (hexv c1.toNat) (hexv c2.toNat) (hexv c3.toNat) (hexv c4.toNat) - 55296) * 1024 + num4 (hexv d1.toNat) (hexv d2.toNat) (hexv d3.toNat) (hexv d4.toNat) - 56320))

theorem enc_head {r : Int} (h : isRune r = true) : ∃ c t, encodeRune r = c :: t ∧ (r ≤ 127 → ((c.toNat : Nat) : Int) = r) ∧ (128 ≤ r → 128 ≤ c.toNat) := by
  have hl := encodeRune_length r
  obtain ⟨c, t, e⟩ := List.exists_cons_of_ne_nil (l := encodeRune r) (by intro e; rw [e] at hl; simp at hl)
  refine ⟨c, t, e, fun h1 => ?_, fun h1 => ?_⟩
  · have hb := (isRune_iff r).1 h
    rw [enc_ascii (by omega) h1] at e
    injection e with e1 _
    rw [← e1]; exact u8_nat (by omega) h1
  · exact enc_high h h1 c (by rw [e]; simp)
theorem unesc_lt {c k : Int} (h : unesc c = some k) : c ≠ 47 ∧ c ≠ 117 ∧ 0 ≤ k ∧ k < 128 := by
  unfold unesc at h
  repeat' split at h
  all_goals first | (cases h; done) | (injection h with h; omega)

/-- The loop goes over a part. -/
theorem go_part {l q t rest : Bs} (hq : Part q t) {p n : Nat} {acc : Bs} (h : l.drop p = q ++ rest) : uqGo l (n + 1) acc p 0 = uqGo l n (acc ++ t) (p + q.length) 0 := by
  cases hq with
  | rune r hr h1 h2 h3 =>
    obtain ⟨c, tl, e, ea, eh⟩ := enc_head hr
    have hc := h
    rw [e, List.cons_append] at hc
    obtain ⟨g1, g2, _⟩ := drop_cons hc
    have hb := (isRune_iff r).1 hr
    have hx : 32 ≤ c.toNat ∧ c.toNat ≠ 34 ∧ c.toNat ≠ 92 := by
      by_cases c1 : r ≤ 127
      · have := ea c1; omega
      · have := eh (by omega); omega
    rw [uqGo_succ, if_pos rfl, if_neg (by omega), if_neg (by omega), if_neg (by omega)]
    have hn := next_enc r rest hr
    have hp : rdPlain l p 0 = (encodeRune r, p + (encodeRune r).length, (0 : Int)) := by
      unfold rdPlain
      rw [if_neg (by omega), h, hn]
      simp
    rw [hp]
  | slash =>
    obtain ⟨g1, g2, g3⟩ := drop_cons h
    rw [uqGo_succ, if_pos rfl, if_neg (by omega), if_neg (by rw [g2]; decide), if_pos (by rw [g2]; rfl)]
    have he : rdEscape l (p + 1) 0 = ([47], p + 2, (0 : Int)) := by
      unfold rdEscape
      simp only [take_cons g3]
      rfl
    rw [he]
    rfl
  | short c k hk =>
    obtain ⟨g1, g2, g3⟩ := drop_cons h
    rw [uqGo_succ, if_pos rfl, if_neg (by omega), if_neg (by rw [g2]; decide), if_pos (by rw [g2]; rfl)]
    have he : rdEscape l (p + 1) 0 = (encodeRune k, p + 2, (0 : Int)) := by
      unfold rdEscape
      simp only [take_cons g3]
      rw [if_neg (unesc_lt hk).1, hk]
    rw [he]
    rfl
  | four c1 c2 c3 c4 k1 k2 k3 k4 ho hn =>
    obtain ⟨g1, g2, g3⟩ := drop_cons h
    obtain ⟨_, _, g4⟩ := drop_cons g3
    rw [uqGo_succ, if_pos rfl, if_neg (by omega), if_neg (by rw [g2]; decide), if_pos (by rw [g2]; rfl)]
    have hh := half_ok false g4 k1 k2 k3 k4 ho
    have he : rdEscape l (p + 1) 0 = (encodeRune (num4 (hexv c1.toNat) (hexv c2.toNat) (hexv c3.toNat) (hexv c4.toNat)), p + 6, (0 : Int)) := by
      unfold rdEscape rdLong
      simp only [take_cons g3]
      rw [if_neg (by decide)]
      simp only [show (((117 : UInt8).toNat : Nat) : Int) = 117 from rfl, if_true, show unesc 117 = none from by decide]
      rw [hh]
      simp only
      rw [if_neg hn]
      rfl
    rw [he]
    rfl
  | pair c1 c2 c3 c4 d1 d2 d3 d4 k1 k2 k3 k4 j1 j2 j3 j4 ho hn hp =>
    obtain ⟨g1, g2, g3⟩ := drop_cons h
    obtain ⟨_, _, g4⟩ := drop_cons g3
    have g5 : l.drop (p + 1 + 1 + 4) = 92 :: 117 :: d1 :: d2 :: d3 :: d4 :: rest := by
      have := drop_app (q := [c1, c2, c3, c4]) (r := 92 :: 117 :: d1 :: d2 :: d3 :: d4 :: rest) (p := p + 1 + 1) (l := l) (by rw [g4]; rfl)
      exact this
    obtain ⟨_, _, g6⟩ := drop_cons g5
    obtain ⟨_, _, g7⟩ := drop_cons g6
    rw [uqGo_succ, if_pos rfl, if_neg (by omega), if_neg (by rw [g2]; decide), if_pos (by rw [g2]; rfl)]
    have hh := half_ok false g4 k1 k2 k3 k4 ho
    have hh2 := half_ok true g7 j1 j2 j3 j4 hp
    have w1 : rdWant l 92 (p + 1 + 1 + 4) 0 = (p + 1 + 1 + 4 + 1, (0 : Int)) := want_ok g5
    have w2 : rdWant l 117 (p + 1 + 1 + 4 + 1) 0 = (p + 1 + 1 + 4 + 1 + 1, (0 : Int)) := want_ok g6
    have he : rdEscape l (p + 1) 0 = (encodeRune (65536 + (num4 (hexv c1.toNat) (hexv c2.toNat) (hexv c3.toNat) (hexv c4.toNat) - 55296) * 1024 + num4 (hexv d1.toNat) (hexv d2.toNat) (hexv d3.toNat) (hexv d4.toNat) - 56320), p + 12, (0 : Int)) := by
      unfold rdEscape rdLong rdPair
      simp only [take_cons g3]
      rw [if_neg (by decide)]
      simp only [show (((117 : UInt8).toNat : Nat) : Int) = 117 from rfl, if_true, show unesc 117 = none from by decide]
      rw [hh]
      simp only
      rw [if_pos hn, w1]
      simp only
      rw [w2]
      simp only
      rw [hh2]
      simp
    rw [he]
    rfl
end Go.Ms
