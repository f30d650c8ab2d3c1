/- What the reader takes for a literal is one: a row of parts between quotes. A literal that is cut off anywhere is ErrTrunc. The short escapes. What the reference answers of an escape, way by way. The steps of Unquote's loop, as the reference takes them. -/
import Derived.Test.YthgmdlibnjkdoaaGreatDoorZA
import Derived.Test.YthgmdlibnjkdoaaGreatDoorZUa
set_option linter.unusedVariables false
namespace Go.Ms
open Go.Lib



end Go.Ms
namespace Go.Ms
open Go.Lib

theorem esc_three {l : Bs} {p n : Nat} {acc r : Bs} (h : l.drop p = 92 :: r) (he : (rdEscape l (p + 1) 0).2.2 = 3) : uqGo l (n + 2) acc p 0 = ([], 0, 3) := by
  obtain ⟨g1, g2, _⟩ := drop_cons h
  rw [uqGo_succ, if_pos rfl, if_neg (by omega), if_neg (by rw [g2]; decide), if_pos (by rw [g2]; rfl), he, go_err _ _ _ _ (by decide)]
theorem end_three {l : Bs} {p n : Nat} {acc : Bs} (hp : p ≤ l.length) (h : l.drop p = []) : uqGo l (n + 1) acc p 0 = ([], 0, 3) := by
  have : p = l.length := by
    have := congrArg List.length h; simp at this; omega
  rw [uqGo_succ, if_pos rfl, if_pos this]
theorem w1_three {l : Bs} {p : Nat} {n : Int} (h : (rdWant l 92 p 0).2 = 3) : (rdPair l p 0 n).2.2 = 3 := by
  unfold rdPair
  simp only [h, want_err _ _ _ (show (3 : Int) ≠ 0 by decide)]
  rw [(half_err l true _ (by decide)).1, if_neg (by decide)]
theorem w2_three {l : Bs} {p p' : Nat} {n : Int} (h : rdWant l 92 p 0 = (p', 0)) (h2 : (rdWant l 117 p' 0).2 = 3) : (rdPair l p 0 n).2.2 = 3 := by
  unfold rdPair
  simp only [h, h2]
  rw [(half_err l true _ (by decide)).1, if_neg (by decide)]
theorem w3_three {l : Bs} {p p' p'' : Nat} {n : Int} (h : rdWant l 92 p 0 = (p', 0)) (h2 : rdWant l 117 p' 0 = (p'', 0)) (h3 : (rdHalf l true p'' 0).2.2 = 3) : (rdPair l p 0 n).2.2 = 3 := by
  unfold rdPair
  simp only [h, h2, h3]
  rw [if_neg (by decide)]
theorem long_pair {l : Bs} {p p3 : Nat} {n : Int} (h : rdHalf l false p 0 = (n, p3, 0)) (hn : 55296 ≤ n ∧ n < 56320) : rdLong l (p, 0) (0, 0) = rdPair l p3 0 n := by
  unfold rdLong
  simp only [h]
  rw [if_pos hn]

/-- A cut inside a part. -/
theorem part_cut {q t : Bs} (hq : Part q t) {l : Bs} {p j n : Nat} {acc : Bs} (hj : j < q.length) (hp : p ≤ l.length) (h : l.drop p = q.take j) : uqGo l (n + 2) acc p 0 = ([], 0, 3) := by
  have hlen := congrArg List.length h
  rw [List.length_drop, List.length_take] at hlen
  cases j with
  | zero => exact end_three hp h
  | succ j =>
  cases hq with
  | rune r hr h1 h2 h3 =>
    obtain ⟨c, tl, e, ea, eh⟩ := enc_head hr
    have hb := (isRune_iff r).1 hr
    have hr2 : 128 ≤ r := by
      rcases Int.lt_or_le r 128 with g | g
      · rw [enc_ascii (by omega) (by omega)] at hj; simp at hj
      · exact g
    have hc : l.drop p = c :: tl.take j := by rw [h, e]; rfl
    obtain ⟨g1, g2, _⟩ := drop_cons hc
    have hx := eh hr2
    have n1 := cut_none hr (j := j + 1) (by omega) hj
    have n2 := cut_more hr (j := j + 1) (by omega) hj
    have hpl : rdPlain l p 0 = ([], p, (3 : Int)) := by
      unfold rdPlain
      rw [if_neg (by omega), h, n1, n2]
      rfl
    rw [uqGo_succ, if_pos rfl, if_neg (by omega), if_neg (by omega), if_neg (by omega), hpl, go_err _ _ _ _ (show (3 : Int) ≠ 0 by decide)]
  | slash =>
    obtain rfl : j = 0 := by simp at hj; omega
    have h' : l.drop p = 92 :: [] := h
    exact esc_three h' (esc_end (by simp at hlen; omega) (drop_cons h').2.2)
  | short c k hk =>
    obtain rfl : j = 0 := by simp at hj; omega
    have h' : l.drop p = 92 :: [] := h
    exact esc_three h' (esc_end (by simp at hlen; omega) (drop_cons h').2.2)
  | four c1 c2 c3 c4 k1 k2 k3 k4 ho hn =>
    have h' : l.drop p = 92 :: ([117, c1, c2, c3, c4] : Bs).take j := h
    obtain ⟨g1, g2, g3⟩ := drop_cons h'
    cases j with
    | zero => exact esc_three h' (esc_end (by omega) g3)
    | succ j =>
      have g4 : l.drop (p + 1) = 117 :: ([c1, c2, c3, c4] : Bs).take j := g3
      obtain ⟨g5, g6, g7⟩ := drop_cons g4
      refine esc_three h' ?_
      rw [esc_u g4]
      exact long_err (by decide) (half_end false (by omega) (by simp at hj; omega) g7 k1 k2 k3 ho)
  | pair c1 c2 c3 c4 d1 d2 d3 d4 k1 k2 k3 k4 j1 j2 j3 j4 ho hn hp2 =>
    have h' : l.drop p = 92 :: ([117, c1, c2, c3, c4, 92, 117, d1, d2, d3, d4] : Bs).take j := h
    obtain ⟨g1, g2, g3⟩ := drop_cons h'
    cases j with
    | zero => exact esc_three h' (esc_end (by omega) g3)
    | succ j =>
      have g4 : l.drop (p + 1) = 117 :: ([c1, c2, c3, c4, 92, 117, d1, d2, d3, d4] : Bs).take j := g3
      obtain ⟨g5, g6, g7⟩ := drop_cons g4
      refine esc_three h' ?_
      rw [esc_u g4]
      by_cases hj4 : j < 4
      · have e : ([c1, c2, c3, c4, 92, 117, d1, d2, d3, d4] : Bs).take j = ([c1, c2, c3, c4] : Bs).take j := by
          rcases (by omega : j = 0 ∨ j = 1 ∨ j = 2 ∨ j = 3) with rfl | rfl | rfl | rfl <;> rfl
        rw [e] at g7
        exact long_err (by decide) (half_end false (by omega) hj4 g7 k1 k2 k3 ho)
      · obtain ⟨i, rfl⟩ : ∃ i, j = i + 4 := ⟨j - 4, by omega⟩
        have g8 : l.drop (p + 1 + 1) = c1 :: c2 :: c3 :: c4 :: ([92, 117, d1, d2, d3, d4] : Bs).take i := g7
        have hh := half_ok false g8 k1 k2 k3 k4 ho
        have g9 := (drop_cons (drop_cons (drop_cons (drop_cons g8).2.2).2.2).2.2)
        obtain ⟨g10, _, g11⟩ := g9
        rw [long_pair hh hn]
        cases i with
        | zero => exact w1_three (by rw [want_end (by omega) g11 (by decide)])
        | succ i =>
          have g12 : l.drop (p + 1 + 1 + 4) = 92 :: ([117, d1, d2, d3, d4] : Bs).take i := g11
          have w1 : rdWant l 92 (p + 1 + 1 + 4) 0 = (p + 1 + 1 + 4 + 1, (0 : Int)) := want_ok g12
          obtain ⟨g13, _, g14⟩ := drop_cons g12
          cases i with
          | zero => exact w2_three w1 (by rw [want_end (by omega) g14 (by decide)])
          | succ i =>
            have g15 : l.drop (p + 1 + 1 + 4 + 1) = 117 :: ([d1, d2, d3, d4] : Bs).take i := g14
            have w2 : rdWant l 117 (p + 1 + 1 + 4 + 1) 0 = (p + 1 + 1 + 4 + 1 + 1, (0 : Int)) := want_ok g15
            obtain ⟨g16, _, g17⟩ := drop_cons g15
            exact w3_three w1 w2 (half_end true (by omega) (by simp at hj; omega) g17 j1 j2 j3 hp2)

theorem go_cut {k : Nat} {q t : Bs} (h : Lits k q t) : ∀ {l : Bs} {p j N : Nat} {acc : Bs}, j ≤ q.length → p ≤ l.length → l.drop p = q.take j → j + 2 ≤ N → uqGo l N acc p 0 = ([], 0, 3) := by
  induction h with
  | nil =>
    intro l p j N acc _ hp hd hN
    obtain ⟨N, rfl⟩ : ∃ M, N = M + 1 := ⟨N - 1, by omega⟩
    exact end_three hp (by rw [hd]; simp)
  | @cons k' q t q' t' h _ ih =>
    intro l p j N acc hj hp hd hN
    obtain ⟨N, rfl⟩ : ∃ M, N = M + 2 := ⟨N - 2, by omega⟩
    by_cases hc : j < q.length
    · rw [List.take_append_of_le_length (by omega)] at hd
      exact part_cut h hc hp hd
    · have e : (q ++ q').take j = q ++ q'.take (j - q.length) := by
        rw [List.take_append, List.take_of_length_le (by omega)]
      rw [e] at hd
      have hlen := congrArg List.length hd
      rw [List.length_drop, List.length_append] at hlen
      have := h.pos
      rw [go_part h hd]
      exact ih (by rw [List.length_append] at hj; omega) (by omega) (drop_app hd) (by omega)
end Go.Ms
namespace Go.Ms
open Go.Lib
end Go.Ms
namespace Go.Ms
open Go.Lib

end Go.Ms
namespace Go.Ms
open Go.Lib

end Go.Ms
