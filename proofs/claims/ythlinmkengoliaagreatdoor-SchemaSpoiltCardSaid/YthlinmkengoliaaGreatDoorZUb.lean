/- What the reader takes for a literal is one: a row of parts between quotes. A literal that is cut off anywhere is ErrTrunc. The short escapes. What the reference answers of an escape, way by way. The steps of Unquote's loop, as the reference takes them. -/
import Derived.Test.YthlinmkengoliaaGreatDoorZA
import Derived.Test.YthlinmkengoliaaGreatDoorZUa
set_option linter.unusedVariables false
namespace Go.Ms
open Go.Lib
theorem fail_nz (e : Int) {x : Int} (hx : x ≠ 0) : rdFail e x ≠ 0 := by unfold rdFail; split <;> assumption
theorem cons_of {l : Bs} {p : Nat} (h : p < l.length) : ∃ c r, l.drop p = c :: r ∧ bt l p = c.toNat := by
 refine ⟨l[p], l.drop (p + 1), List.drop_eq_getElem_cons h, ?_⟩; exact (drop_cons (List.drop_eq_getElem_cons h)).2.1
theorem take_inv {l : Bs} {p : Nat} {e : Int} (hp : p ≤ l.length) (h : (rdTake l p e).2.2 = 0) : e = 0 ∧ ∃ c r, l.drop p = c :: r ∧ rdTake l p e = (((c.toNat : Nat) : Int), p + 1, (0 : Int)) := by
 by_cases he : e = 0
 · subst he; refine ⟨rfl, ?_⟩
   by_cases hl : p = l.length
   · rw [take_end hp (by rw [hl]; simp)] at h; simp at h
   · obtain ⟨c, r, hc, _⟩ := cons_of (l := l) (p := p) (by omega); exact ⟨c, r, hc, take_cons hc⟩
 · rw [take_err l p he] at h; exact absurd h he
theorem digit_inv {l : Bs} {p : Nat} {e : Int} (hp : p ≤ l.length) (h : (rdDigit l p e).2.2 = 0) : e = 0 ∧ ∃ c r, l.drop p = c :: r ∧ hexv c.toNat ≠ 16 ∧ rdDigit l p e = (hexv c.toNat, p + 1, (0 : Int)) := by
 by_cases hx : hexv (rdTake l p e).1 = 16
 · unfold rdDigit at h; rw [if_pos hx] at h; exact absurd h (fail_nz _ (by decide))
 · have h' : (rdTake l p e).2.2 = 0 := by
     unfold rdDigit at h; rw [if_neg hx] at h; exact h
   obtain ⟨he, c, r, hc, ht⟩ := take_inv hp h'; subst he; rw [ht] at hx; exact ⟨rfl, c, r, hc, hx, digit_cons hc hx⟩
theorem h0_inv {l : Bs} {s : Bool} {p : Nat} {e : Int} (hp : p ≤ l.length) (h : (h0 l s p e).2.2 = 0) :
    e = 0 ∧ ∃ c r, l.drop p = c :: r ∧ hexv c.toNat ≠ 16 ∧ ¬ (s = true ∧ ¬ hexv c.toNat = 13) ∧ h0 l s p e = (hexv c.toNat, p + 1, (0 : Int)) := by
 unfold h0 at h ⊢; simp only at h
 by_cases hs : s = true ∧ ¬ (rdDigit l p e).1 = 13
 · rw [if_pos hs] at h; exact absurd h (fail_nz _ (by decide))
 · rw [if_neg hs] at h; obtain ⟨he, c, r, hc, hx, hd⟩ := digit_inv hp h; subst he; rw [hd] at hs ⊢; exact ⟨rfl, c, r, hc, hx, hs, by simp only; rw [if_neg hs]⟩
theorem h1_inv {l : Bs} {s : Bool} {p : Nat} {e : Int} (hp : p ≤ l.length) (h : (h1 l s p e).2.2 = 0) :
    e = 0 ∧ ∃ c1 c2 r, l.drop p = c1 :: c2 :: r ∧ hexv c1.toNat ≠ 16 ∧ hexv c2.toNat ≠ 16 ∧ okPair s (hexv c1.toNat) (hexv c2.toNat) ∧ h1 l s p e = (16 * hexv c1.toNat + hexv c2.toNat, p + 2, (0 : Int)) := by
 unfold h1 at h ⊢; simp only at h
 split at h
 · rename_i hs
   obtain ⟨he0, c2, r, hc2, hx2, hd2⟩ := digit_inv (h0_le l s p e hp).2 h; obtain ⟨he, c1, r1, hc1, hx1, hk, hd1⟩ := h0_inv hp he0; subst he; rw [hd1] at hc2 hd2 hs ⊢; simp only at hc2 hd2 hs ⊢; rw [hd2] at hs ⊢; simp only at hs ⊢; have := (drop_cons hc1).2.2; rw [hc2] at this; subst this; refine ⟨trivial, c1, c2, r, hc1, hx1, hx2, ⟨hk, hs⟩, ?_⟩; rw [if_pos hs]
 · exact absurd h (fail_nz _ (by decide))
theorem h2_inv {l : Bs} {s : Bool} {p : Nat} {e : Int} (hp : p ≤ l.length) (h : (h2 l s p e).2.2 = 0) :
    e = 0 ∧ ∃ c1 c2 c3 r, l.drop p = c1 :: c2 :: c3 :: r ∧ hexv c1.toNat ≠ 16 ∧ hexv c2.toNat ≠ 16 ∧ hexv c3.toNat ≠ 16 ∧ okPair s (hexv c1.toNat) (hexv c2.toNat) ∧ h2 l s p e = (16 * (16 * hexv c1.toNat + hexv c2.toNat) + hexv c3.toNat, p + 3, (0 : Int)) := by
 unfold h2 at h ⊢; simp only at h; obtain ⟨he0, c3, r, hc3, hx3, hd3⟩ := digit_inv (h1_le l s p e hp).2 h; obtain ⟨he, c1, c2, r1, hc1, hx1, hx2, hk, hd1⟩ := h1_inv hp he0; subst he; rw [hd1] at hc3 hd3 ⊢; simp only at hc3 hd3 ⊢; rw [hd3]; have := (drop_cons (drop_cons hc1).2.2).2.2; rw [hc3] at this; subst this; exact ⟨trivial, c1, c2, c3, r, hc1, hx1, hx2, hx3, hk, rfl⟩
theorem half_inv {l : Bs} {s : Bool} {p : Nat} {e : Int} (hp : p ≤ l.length) (h : (rdHalf l s p e).2.2 = 0) :
    e = 0 ∧ ∃ c1 c2 c3 c4 r, l.drop p = c1 :: c2 :: c3 :: c4 :: r ∧ hexv c1.toNat ≠ 16 ∧ hexv c2.toNat ≠ 16 ∧ hexv c3.toNat ≠ 16 ∧ hexv c4.toNat ≠ 16 ∧ okPair s (hexv c1.toNat) (hexv c2.toNat) ∧
      rdHalf l s p e = (num4 (hexv c1.toNat) (hexv c2.toNat) (hexv c3.toNat) (hexv c4.toNat), p + 4, (0 : Int)) := by
 have h' := h; unfold rdHalf at h'; simp only at h'; obtain ⟨he0, c4, r, hc4, hx4, _⟩ := digit_inv (h2_le l s p e hp).2 h'; obtain ⟨he, c1, c2, c3, r1, hc1, hx1, hx2, hx3, hk, hd1⟩ := h2_inv hp he0; subst he; rw [hd1] at hc4; simp only at hc4; have := (drop_cons (drop_cons (drop_cons hc1).2.2).2.2).2.2; rw [hc4] at this; subst this; exact ⟨rfl, c1, c2, c3, c4, r, hc1, hx1, hx2, hx3, hx4, hk, half_ok s hc1 hx1 hx2 hx3 hx4 hk⟩
end Go.Ms
namespace Go.Ms
open Go.Lib
theorem esc_three {l : Bs} {p n : Nat} {acc r : Bs} (h : l.drop p = 92 :: r) (he : (rdEscape l (p + 1) 0).2.2 = 3) : uqGo l (n + 2) acc p 0 = ([], 0, 3) := by
 obtain ⟨g1, g2, _⟩ := drop_cons h; rw [uqGo_succ, if_pos rfl, if_neg (by omega), if_neg (by rw [g2]; decide), if_pos (by rw [g2]; rfl), he, go_err _ _ _ _ (by decide)]
theorem end_three {l : Bs} {p n : Nat} {acc : Bs} (hp : p ≤ l.length) (h : l.drop p = []) : uqGo l (n + 1) acc p 0 = ([], 0, 3) := by
 have : p = l.length := by
  have := congrArg List.length h; simp at this; omega
 rw [uqGo_succ, if_pos rfl, if_pos this]
theorem w1_three {l : Bs} {p : Nat} {n : Int} (h : (rdWant l 92 p 0).2 = 3) : (rdPair l p 0 n).2.2 = 3 := by
 unfold rdPair; simp only [h, want_err _ _ _ (show (3 : Int) ≠ 0 by decide)]; rw [(half_err l true _ (by decide)).1, if_neg (by decide)]
theorem w2_three {l : Bs} {p p' : Nat} {n : Int} (h : rdWant l 92 p 0 = (p', 0)) (h2 : (rdWant l 117 p' 0).2 = 3) : (rdPair l p 0 n).2.2 = 3 := by
 unfold rdPair; simp only [h, h2]; rw [(half_err l true _ (by decide)).1, if_neg (by decide)]
theorem w3_three {l : Bs} {p p' p'' : Nat} {n : Int} (h : rdWant l 92 p 0 = (p', 0)) (h2 : rdWant l 117 p' 0 = (p'', 0)) (h3 : (rdHalf l true p'' 0).2.2 = 3) : (rdPair l p 0 n).2.2 = 3 := by
 unfold rdPair; simp only [h, h2, h3]; rw [if_neg (by decide)]
theorem long_pair {l : Bs} {p p3 : Nat} {n : Int} (h : rdHalf l false p 0 = (n, p3, 0)) (hn : 55296 ≤ n ∧ n < 56320) : rdLong l (p, 0) (0, 0) = rdPair l p3 0 n := by
 unfold rdLong; simp only [h]; rw [if_pos hn]
theorem part_cut {q t : Bs} (hq : Part q t) {l : Bs} {p j n : Nat} {acc : Bs} (hj : j < q.length) (hp : p ≤ l.length) (h : l.drop p = q.take j) : uqGo l (n + 2) acc p 0 = ([], 0, 3) := by
 have hlen := congrArg List.length h; rw [List.length_drop, List.length_take] at hlen
 cases j with
 | zero => exact end_three hp h
 | succ j =>
 cases hq with
 | rune r hr h1 h2 h3 =>
  obtain ⟨c, tl, e, ea, eh⟩ := enc_head hr; have hb := (isRune_iff r).1 hr
  have hr2 : 128 ≤ r := by
   rcases Int.lt_or_le r 128 with g | g
   · rw [enc_ascii (by omega) (by omega)] at hj; simp at hj
   · exact g
  have hc : l.drop p = c :: tl.take j := by rw [h, e]; rfl
  obtain ⟨g1, g2, _⟩ := drop_cons hc; have hx := eh hr2; have n1 := cut_none hr (j := j + 1) (by omega) hj; have n2 := cut_more hr (j := j + 1) (by omega) hj
  have hpl : rdPlain l p 0 = ([], p, (3 : Int)) := by
   unfold rdPlain; rw [if_neg (by omega), h, n1, n2]; rfl
  rw [uqGo_succ, if_pos rfl, if_neg (by omega), if_neg (by omega), if_neg (by omega), hpl, go_err _ _ _ _ (show (3 : Int) ≠ 0 by decide)]
 | slash =>
  obtain rfl : j = 0 := by simp at hj; omega
  have h' : l.drop p = 92 :: [] := h; exact esc_three h' (esc_end (by simp at hlen; omega) (drop_cons h').2.2)
 | short c k hk =>
  obtain rfl : j = 0 := by simp at hj; omega
  have h' : l.drop p = 92 :: [] := h; exact esc_three h' (esc_end (by simp at hlen; omega) (drop_cons h').2.2)
 | four c1 c2 c3 c4 k1 k2 k3 k4 ho hn =>
  have h' : l.drop p = 92 :: ([117, c1, c2, c3, c4] : Bs).take j := h; obtain ⟨g1, g2, g3⟩ := drop_cons h'
  cases j with
  | zero => exact esc_three h' (esc_end (by omega) g3)
  | succ j =>
   have g4 : l.drop (p + 1) = 117 :: ([c1, c2, c3, c4] : Bs).take j := g3; obtain ⟨g5, g6, g7⟩ := drop_cons g4; refine esc_three h' ?_; rw [esc_u g4]; exact long_err (by decide) (half_end false (by omega) (by simp at hj; omega) g7 k1 k2 k3 ho)
 | pair c1 c2 c3 c4 d1 d2 d3 d4 k1 k2 k3 k4 j1 j2 j3 j4 ho hn hp2 =>
  have h' : l.drop p = 92 :: ([117, c1, c2, c3, c4, 92, 117, d1, d2, d3, d4] : Bs).take j := h; obtain ⟨g1, g2, g3⟩ := drop_cons h'
  cases j with
  | zero => exact esc_three h' (esc_end (by omega) g3)
  | succ j =>
   have g4 : l.drop (p + 1) = 117 :: ([c1, c2, c3, c4, 92, 117, d1, d2, d3, d4] : Bs).take j := g3; obtain ⟨g5, g6, g7⟩ := drop_cons g4; refine esc_three h' ?_; rw [esc_u g4]
   by_cases hj4 : j < 4
   · have e : ([c1, c2, c3, c4, 92, 117, d1, d2, d3, d4] : Bs).take j = ([c1, c2, c3, c4] : Bs).take j := by
       rcases (by omega : j = 0 ∨ j = 1 ∨ j = 2 ∨ j = 3) with rfl | rfl | rfl | rfl <;> rfl
     rw [e] at g7; exact long_err (by decide) (half_end false (by omega) hj4 g7 k1 k2 k3 ho)
   · obtain ⟨i, rfl⟩ : ∃ i, j = i + 4 := ⟨j - 4, by omega⟩; have g8 : l.drop (p + 1 + 1) = c1 :: c2 :: c3 :: c4 :: ([92, 117, d1, d2, d3, d4] : Bs).take i := g7; have hh := half_ok false g8 k1 k2 k3 k4 ho; have g9 := (drop_cons (drop_cons (drop_cons (drop_cons g8).2.2).2.2).2.2); obtain ⟨g10, _, g11⟩ := g9; rw [long_pair hh hn]
     cases i with
     | zero => exact w1_three (by rw [want_end (by omega) g11 (by decide)])
     | succ i =>
      have g12 : l.drop (p + 1 + 1 + 4) = 92 :: ([117, d1, d2, d3, d4] : Bs).take i := g11; have w1 : rdWant l 92 (p + 1 + 1 + 4) 0 = (p + 1 + 1 + 4 + 1, (0 : Int)) := want_ok g12; obtain ⟨g13, _, g14⟩ := drop_cons g12
      cases i with
      | zero => exact w2_three w1 (by rw [want_end (by omega) g14 (by decide)])
      | succ i =>
       have g15 : l.drop (p + 1 + 1 + 4 + 1) = 117 :: ([d1, d2, d3, d4] : Bs).take i := g14; have w2 : rdWant l 117 (p + 1 + 1 + 4 + 1) 0 = (p + 1 + 1 + 4 + 1 + 1, (0 : Int)) := want_ok g15; obtain ⟨g16, _, g17⟩ := drop_cons g15; exact w3_three w1 w2 (half_end true (by omega) (by simp at hj; omega) g17 j1 j2 j3 hp2)
theorem go_cut {k : Nat} {q t : Bs} (h : Lits k q t) : ∀ {l : Bs} {p j N : Nat} {acc : Bs}, j ≤ q.length → p ≤ l.length → l.drop p = q.take j → j + 2 ≤ N → uqGo l N acc p 0 = ([], 0, 3) := by
 induction h with
 | nil =>
  intro l p j N acc _ hp hd hN
  obtain ⟨N, rfl⟩ : ∃ M, N = M + 1 := ⟨N - 1, by omega⟩; exact end_three hp (by rw [hd]; simp)
 | @cons k' q t q' t' h _ ih =>
  intro l p j N acc hj hp hd hN
  obtain ⟨N, rfl⟩ : ∃ M, N = M + 2 := ⟨N - 2, by omega⟩
  by_cases hc : j < q.length
  · rw [List.take_append_of_le_length (by omega)] at hd; exact part_cut h hc hp hd
  · have e : (q ++ q').take j = q ++ q'.take (j - q.length) := by
      rw [List.take_append, List.take_of_length_le (by omega)]
    rw [e] at hd; have hlen := congrArg List.length hd; rw [List.length_drop, List.length_append] at hlen; have := h.pos; rw [go_part h hd]; exact ih (by rw [List.length_append] at hj; omega) (by omega) (drop_app hd) (by omega)
end Go.Ms
namespace Go.Ms
open Go.Lib
def shortS : Bs := [34, 92, 47, 8, 12, 10, 13, 9]
def shortT : Bs := [34, 92, 47, 98, 102, 110, 114, 116]
end Go.Ms
namespace Go.Ms
open Go.Lib
def rEsc (l : Bs) : Bs × Nat × Int := if (rdEscape l 1 0).2.2 = 0 then ((rdEscape l 1 0).1, (rdEscape l 1 0).2.1, 0) else ([], 0, (rdEscape l 1 0).2.2)
theorem re_err {l : Bs} {e : Int} (he : e ≠ 0) (h : (rdEscape l 1 0).2.2 = e) : rEsc l = ([], 0, e) := by
 unfold rEsc; rw [h, if_neg he]
theorem re_ok {l t : Bs} {n : Nat} (h : rdEscape l 1 0 = (t, n, 0)) : rEsc l = (t, n, 0) := by
 unfold rEsc; rw [h]; rfl
theorem re_end {l : Bs} (h : l.length = 1) : rEsc l = ([], 0, 3) :=
  re_err (by decide) (esc_end (by omega) (List.drop_of_length_le (by omega)))
theorem short_take {l : Bs} {c : UInt8} {r : Bs} (h : l.drop 1 = c :: r) : ∀ i : Fin 8, shortT.getD i.val 0 = c → rdEscape l 1 0 = ([shortS.getD i.val 0], 2, 0) := by
 have ht := take_cons h
 intro i hi
 have key : ∀ (k : Int), c.toNat ≠ 47 → unesc c.toNat = some k → rdEscape l 1 0 = (encodeRune k, 2, 0) := by
  intro k h47 hk
  unfold rdEscape; simp only [ht]; rw [if_neg (by omega), hk]
 match i, hi with
 | 0, hi => subst hi; exact key 34 (by decide) rfl
 | 1, hi => subst hi; exact key 92 (by decide) rfl
 | 2, hi =>
  subst hi; unfold rdEscape; simp only [ht]; rfl
 | 3, hi => subst hi; exact key 8 (by decide) rfl
 | 4, hi => subst hi; exact key 12 (by decide) rfl
 | 5, hi => subst hi; exact key 10 (by decide) rfl
 | 6, hi => subst hi; exact key 13 (by decide) rfl
 | 7, hi => subst hi; exact key 9 (by decide) rfl
theorem re_short {l : Bs} {c : UInt8} {r : Bs} (h : l.drop 1 = c :: r) {i : Nat} (hi : i < 8) (hc : shortT.getD i 0 = c) : rEsc l = ([shortS.getD i 0], 2, 0) :=
  re_ok (short_take h ⟨i, hi⟩ hc)
theorem no_short {c : UInt8} (h : ∀ i, i < 8 → shortT.getD i 0 ≠ c) : c.toNat ≠ 47 ∧ unesc c.toNat = none := by
 have f : ∀ (i : Nat) (x : UInt8), i < 8 → shortT.getD i 0 = x → c.toNat ≠ x.toNat := by
  intro i x hi hx e
  exact h i hi (by rw [hx]; exact (UInt8.toNat_inj.1 e).symm)
 have h0 := f 0 34 (by omega) rfl; have h1 := f 1 92 (by omega) rfl; have h2 := f 2 47 (by omega) rfl; have h3 := f 3 98 (by omega) rfl; have h4 := f 4 102 (by omega) rfl; have h5 := f 5 110 (by omega) rfl; have h6 := f 6 114 (by omega) rfl; have h7 := f 7 116 (by omega) rfl
 simp only [show (34 : UInt8).toNat = 34 from rfl, show (92 : UInt8).toNat = 92 from rfl, show (47 : UInt8).toNat = 47 from rfl, show (98 : UInt8).toNat = 98 from rfl, show (102 : UInt8).toNat = 102 from rfl, show (110 : UInt8).toNat = 110 from rfl, show (114 : UInt8).toNat = 114 from rfl, show (116 : UInt8).toNat = 116 from rfl] at *; refine ⟨h2, ?_⟩; unfold unesc; rw [if_neg (by omega), if_neg (by omega), if_neg (by omega), if_neg (by omega), if_neg (by omega), if_neg (by omega), if_neg (by omega)]
theorem re_bad {l : Bs} {c : UInt8} {r : Bs} (h : l.drop 1 = c :: r) (hs : ∀ i, i < 8 → shortT.getD i 0 ≠ c) (hu : c.toNat ≠ 117) : rEsc l = ([], 0, 41) := by
 obtain ⟨h1, h2⟩ := no_short hs; refine re_err (by decide) ?_; unfold rdEscape; simp only [take_cons h]; rw [if_neg (by omega), h2]
 simp only
 rw [if_neg (by omega)]; exact long_err (by decide) (half_err l false 2 (by decide)).1
theorem re_u {l r : Bs} (h : l.drop 1 = 117 :: r) : rdEscape l 1 0 = rdLong l (2, 0) (0, 0) := esc_u h
theorem half_2 {l : Bs} (hl : 2 ≤ l.length) (s : Bool) : rdHalf l s 2 0 = ((rdHalf (l.drop 2) s 0 0).1, 2 + (rdHalf (l.drop 2) s 0 0).2.1, (rdHalf (l.drop 2) s 0 0).2.2) := half_sh (q := 2) hl s 0 0
theorem half_8 {l : Bs} (hl : 8 ≤ l.length) (s : Bool) : rdHalf l s 8 0 = ((rdHalf (l.drop 8) s 0 0).1, 8 + (rdHalf (l.drop 8) s 0 0).2.1, (rdHalf (l.drop 8) s 0 0).2.2) := half_sh (q := 8) hl s 0 0
theorem len_cons {l r : Bs} {c : UInt8} {k : Nat} (h : l.drop k = c :: r) : k < l.length := (drop_cons h).1
theorem re_uerr {l r : Bs} (h : l.drop 1 = 117 :: r) {x e : Int} (he : e ≠ 0) (hh : rhalf (l.drop 2) false = (x, e)) : rEsc l = ([], 0, e) := by
 refine re_err he ?_; rw [re_u h]; refine long_err he ?_; rw [half_2 (by have := len_cons h; omega)]; unfold rhalf at hh
 split at hh
 · exact absurd (Prod.ext_iff.1 hh).2.symm he
 · exact (Prod.ext_iff.1 hh).2
theorem rhalf_inv {l : Bs} {s : Bool} {n : Int} (hh : rhalf l s = (n, 0)) : 4 ≤ l.length ∧ rdHalf l s 0 0 = (n, 4, 0) ∧ 0 ≤ n ∧ n < 65536 ∧ (s = false → n < 56320 ∨ 57343 < n) ∧ (s = true → 56320 ≤ n ∧ n ≤ 57343) := by
 have h0 : (rdHalf l s 0 0).2.2 = 0 := by
  unfold rhalf at hh
  split at hh
  · assumption
  · exact (Prod.ext_iff.1 hh).2
 have hn : (rdHalf l s 0 0).1 = n := by
  unfold rhalf at hh; rw [if_pos h0] at hh; exact (Prod.ext_iff.1 hh).1
 obtain ⟨_, c1, c2, c3, c4, r, hd, _, _, _, _, hok, he⟩ := half_inv (by omega) h0; have hl := congrArg List.length hd; simp only [List.drop_zero, List.length_cons] at hl; have b1 := hexv_bd c1.toNat; have b2 := hexv_bd c2.toNat; have b3 := hexv_bd c3.toNat; have b4 := hexv_bd c4.toNat; have hbd := rdHalf_bd l s 0 0; rw [he] at hn hbd ⊢; simp only at hn hbd; subst hn; refine ⟨by omega, rfl, hbd.1, hbd.2, fun hs => ?_, fun hs => ?_⟩
 · subst hs; have h2 := hok.2; have : ¬ (220 ≤ 16 * hexv c1.toNat + hexv c2.toNat ∧ 16 * hexv c1.toNat + hexv c2.toNat ≤ 223) := of_decide_eq_false h2.symm
   unfold num4; omega
 · subst hs; have h2 := hok.2; have : (220 ≤ 16 * hexv c1.toNat + hexv c2.toNat ∧ 16 * hexv c1.toNat + hexv c2.toNat ≤ 223) := of_decide_eq_true h2.symm
   unfold num4; omega
theorem re_four {l r : Bs} (h : l.drop 1 = 117 :: r) {n : Int} (hh : rhalf (l.drop 2) false = (n, 0)) (hn : n < 55296 ∨ 56319 < n) : isRune n = true ∧ rEsc l = (put n, 6, 0) := by
 obtain ⟨hl, he, n0, n1, hs, _⟩ := rhalf_inv hh; have hs := hs rfl
 have hr : isRune n = true := by rw [isRune_iff]; omega
 refine ⟨hr, ?_⟩; rw [put_rune hr]; refine re_ok ?_; rw [re_u h]; unfold rdLong
 simp only
 rw [half_2 (by have := len_cons h; omega), he]
 simp only
 rw [if_neg (by omega)]; rfl
theorem re_pr {l r : Bs} (h : l.drop 1 = 117 :: r) {n : Int} (hh : rhalf (l.drop 2) false = (n, 0)) (hn : 55296 ≤ n ∧ n ≤ 56319) : 6 ≤ l.length ∧ rdEscape l 1 0 = rdPair l 6 0 n := by
 obtain ⟨hl, he, n0, n1, hs, _⟩ := rhalf_inv hh; rw [List.length_drop] at hl; refine ⟨by omega, ?_⟩; rw [re_u h]; unfold rdLong
 simp only
 rw [half_2 (by omega), he]
 simp only
 rw [if_pos (by omega)]
theorem re_p6end {l r : Bs} (h : l.drop 1 = 117 :: r) {n : Int} (hh : rhalf (l.drop 2) false = (n, 0)) (hn : 55296 ≤ n ∧ n ≤ 56319) (hl : l.length ≤ 6) : rEsc l = ([], 0, 3) := by
 obtain ⟨h6, he⟩ := re_pr h hh hn; refine re_err (by decide) ?_; rw [he]; unfold rdPair
 simp only
 rw [want_end (by omega) (List.drop_of_length_le (by omega)) (by decide)]; simp only [want_err _ _ _ (show (3 : Int) ≠ 0 by decide)]; rw [(half_err l true _ (by decide)).1, if_neg (by decide)]
theorem re_p6 {l r r' : Bs} {c : UInt8} (h : l.drop 1 = 117 :: r) {n : Int} (hh : rhalf (l.drop 2) false = (n, 0)) (hn : 55296 ≤ n ∧ n ≤ 56319) (h6 : l.drop 6 = c :: r') (hc : c.toNat ≠ 92) : rEsc l = ([], 0, 41) := by
 obtain ⟨_, he⟩ := re_pr h hh hn; refine re_err (by decide) ?_; rw [he]; unfold rdPair
 simp only
 rw [want_bad h6 (by omega)]; simp only [want_err _ _ _ (show (41 : Int) ≠ 0 by decide)]; rw [(half_err l true _ (by decide)).1, if_neg (by decide)]
theorem re_p7end {l r r' : Bs} (h : l.drop 1 = 117 :: r) {n : Int} (hh : rhalf (l.drop 2) false = (n, 0)) (hn : 55296 ≤ n ∧ n ≤ 56319) (h6 : l.drop 6 = 92 :: r') (hl : l.length ≤ 7) : rEsc l = ([], 0, 3) := by
 obtain ⟨_, he⟩ := re_pr h hh hn; have h7 := len_cons h6; refine re_err (by decide) ?_; rw [he]; refine w2_three (p' := 7) (want_ok (c := 92) h6) ?_; rw [want_end (by omega) (List.drop_of_length_le (by omega)) (by decide)]
theorem re_p7 {l r r' r'' : Bs} {c : UInt8} (h : l.drop 1 = 117 :: r) {n : Int} (hh : rhalf (l.drop 2) false = (n, 0)) (hn : 55296 ≤ n ∧ n ≤ 56319) (h6 : l.drop 6 = 92 :: r') (h7 : l.drop 7 = c :: r'') (hc : c.toNat ≠ 117) : rEsc l = ([], 0, 41) := by
 obtain ⟨_, he⟩ := re_pr h hh hn; refine re_err (by decide) ?_; rw [he]; unfold rdPair
 simp only
 rw [show rdWant l 92 6 0 = (7, 0) from want_ok (c := 92) h6]
 simp only
 rw [want_bad h7 (by omega)]
 simp only
 rw [(half_err l true _ (by decide)).1, if_neg (by decide)]
theorem re_herr {l r r' r'' : Bs} (h : l.drop 1 = 117 :: r) {n x e : Int} (hh : rhalf (l.drop 2) false = (n, 0)) (hn : 55296 ≤ n ∧ n ≤ 56319) (h6 : l.drop 6 = 92 :: r') (h7 : l.drop 7 = 117 :: r'') (he : e ≠ 0) (h8 : rhalf (l.drop 8) true = (x, e)) : rEsc l = ([], 0, e) := by
 obtain ⟨_, hp⟩ := re_pr h hh hn; have hl := len_cons h7; refine re_err he ?_; rw [hp]; unfold rdPair
 simp only
 rw [show rdWant l 92 6 0 = (7, 0) from want_ok (c := 92) h6]
 simp only
 rw [show rdWant l 117 7 0 = (8, 0) from want_ok (c := 117) h7]
 simp only
 rw [half_8 (by omega)]; unfold rhalf at h8
 split at h8
 · exact absurd (Prod.ext_iff.1 h8).2.symm he
 · have h9 := (Prod.ext_iff.1 h8).2; simp only at h9 ⊢; rw [h9, if_neg he]
theorem re_pair {l r r' r'' : Bs} (h : l.drop 1 = 117 :: r) {n k : Int} (hh : rhalf (l.drop 2) false = (n, 0)) (hn : 55296 ≤ n ∧ n ≤ 56319) (h6 : l.drop 6 = 92 :: r') (h7 : l.drop 7 = 117 :: r'') (h8 : rhalf (l.drop 8) true = (k, 0)) :
    56320 ≤ k ∧ k ≤ 57343 ∧ rEsc l = (put (65536 + 1024 * (n - 55296) + k - 56320), 12, 0) := by
 obtain ⟨_, hp⟩ := re_pr h hh hn; have hl := len_cons h7; obtain ⟨hl8, he8, k0, k1, _, hs⟩ := rhalf_inv h8; have hs := hs rfl
 have hr : isRune (65536 + 1024 * (n - 55296) + k - 56320) = true := by rw [isRune_iff]; omega
 refine ⟨hs.1, hs.2, ?_⟩; rw [put_rune hr]; refine re_ok ?_; rw [hp]; unfold rdPair
 simp only
 rw [show rdWant l 92 6 0 = (7, 0) from want_ok (c := 92) h6]
 simp only
 rw [show rdWant l 117 7 0 = (8, 0) from want_ok (c := 117) h7]
 simp only
 rw [half_8 (by omega), he8]
 simp only
 rw [if_pos trivial, show 65536 + (n - 55296) * 1024 + k - 56320 = 65536 + 1024 * (n - 55296) + k - 56320 by omega]
end Go.Ms
namespace Go.Ms
open Go.Lib
theorem uq_esc {l t : Bs} {k n : Nat} (hk : k < l.length) (h92 : bt l k = 92) (h : rEsc (l.drop k) = (t, n, 0)) : 1 ≤ n ∧ k + n ≤ l.length ∧ t.length ≤ 4 ∧ ∀ N acc, uqGo l (N + 1) acc k 0 = uqGo l N (acc ++ t) (k + n) 0 := by
 have h0 : (rdEscape (l.drop k) 1 0).2.2 = 0 := by
  unfold rEsc at h
  split at h
  · assumption
  · exact (Prod.ext_iff.1 (Prod.ext_iff.1 h).2).2
 have he : rdEscape (l.drop k) 1 0 = (t, n, 0) := by
  unfold rEsc at h; rw [if_pos h0] at h; rw [← h]; exact Prod.ext rfl (Prod.ext rfl h0)
 have hs := escape_sh (l := l) (q := k) (by omega) 1 0; rw [he] at hs; have hle := rdEscape_le (l.drop k) 1 0 (by rw [List.length_drop]; omega); have hlen := rdEscape_len (l.drop k) 1 0; rw [he, List.length_drop] at hle; rw [he] at hlen; simp only at hle hlen hs; refine ⟨by omega, by omega, hlen, fun N acc => ?_⟩; rw [uqGo_succ, if_pos rfl, if_neg (by omega), if_neg (by omega), if_pos h92, hs]
theorem uq_escerr {l t : Bs} {k n : Nat} {e : Int} (hk : k < l.length) (h92 : bt l k = 92) (he : e ≠ 0) (h : rEsc (l.drop k) = (t, n, e)) : ∀ N acc, uqGo l (N + 2) acc k 0 = ([], 0, e) := by
 have h0 : (rdEscape (l.drop k) 1 0).2.2 = e := by
  unfold rEsc at h
  split at h
  · exact absurd (Prod.ext_iff.1 (Prod.ext_iff.1 h).2).2.symm he
  · exact (Prod.ext_iff.1 (Prod.ext_iff.1 h).2).2
 have hs := escape_sh (l := l) (q := k) (by omega) 1 0
 intro N acc
 rw [uqGo_succ, if_pos rfl, if_neg (by omega), if_neg (by omega), if_pos h92, hs]
 simp only
 rw [h0, go_err _ _ _ _ he]
theorem uq_low {l : Bs} {k : Nat} (hk : k < l.length) (h : bt l k < 32) : ∀ N acc, uqGo l (N + 2) acc k 0 = ([], 0, 41) := by
 intro N acc
 have hp : rdPlain l k 0 = ([], k, 41) := by unfold rdPlain; rw [if_pos h]; rfl
 rw [uqGo_succ, if_pos rfl, if_neg (by omega), if_neg (by omega), if_neg (by omega), hp]; exact go_err _ _ _ _ (show (41 : Int) ≠ 0 by decide)
theorem uq_next {l : Bs} {k r n : Nat} (hk : k < l.length) (h34 : bt l k ≠ 34) (h92 : bt l k ≠ 92) (h32 : ¬ bt l k < 32) (h : nextD (l.drop k) = (r, n, true)) :
    1 ≤ n ∧ n ≤ 4 ∧ k + n ≤ l.length ∧ ∀ N acc, uqGo l (N + 1) acc k 0 = uqGo l N (acc ++ (l.drop k).take n) (k + n) 0 := by
 have hp : rdPlain l k 0 = ((l.drop k).take n, k + n, 0) := by
  unfold rdPlain; rw [if_neg h32, h]; rfl
 rcases next_cases (l.drop k) with e | ⟨r', _, e2, e3⟩
 · rw [h] at e; simp at e
 · rw [h] at e2; have hn : n = (encodeRune r').length := (Prod.ext_iff.1 (Prod.ext_iff.1 e2).2).1; have hl := encodeRune_length r'; have hll := congrArg List.length e3; rw [List.length_append, List.length_drop] at hll; refine ⟨by omega, by omega, by omega, fun N acc => ?_⟩; rw [uqGo_succ, if_pos rfl, if_neg (by omega), if_neg (by omega), if_neg (by omega), hp]
theorem uq_none {l : Bs} {k : Nat} (hk : k < l.length) (h34 : bt l k ≠ 34) (h92 : bt l k ≠ 92) (h32 : ¬ bt l k < 32) (h : (nextD (l.drop k)).2.2 = false) :
    ∀ N acc, uqGo l (N + 2) acc k 0 = ([], 0, if fullD (l.drop k) = true then 40 else 3) := by
 intro N acc
 have hp : rdPlain l k 0 = ([], k, if fullD (l.drop k) = true then 40 else 3) := by
  unfold rdPlain; rw [if_neg h32, h]; simp only [Bool.false_eq_true, if_false]
  split <;> rfl
 rw [uqGo_succ, if_pos rfl, if_neg (by omega), if_neg (by omega), if_neg (by omega), hp]
 simp only
 split <;> exact go_err _ _ _ _ (by decide)
theorem uq_end {l : Bs} : ∀ N acc, uqGo l (N + 1) acc l.length 0 = ([], 0, 3) := by
 intro N acc
 rw [uqGo_succ, if_pos rfl, if_pos rfl]
theorem uq_quote {l : Bs} {k : Nat} (hk : k < l.length) (h34 : bt l k = 34) : ∀ N acc, uqGo l (N + 1) acc k 0 = (acc, k + 1, 0) := by
 intro N acc
 rw [uqGo_succ, if_pos rfl, if_neg (by omega), if_pos h34]
theorem uq_empty : unquoteD [] = ([], 0, 3) := by decide
theorem uq_nohead {c : UInt8} {r : Bs} (h : c.toNat ≠ 34) : unquoteD (c :: r) = ([], 0, 41) := by
 have hw := want_bad (l := c :: r) (p := 0) (c := c) (r := r) (x := 34) rfl (by omega); unfold unquoteD; rw [hw]; exact go_err _ _ _ _ (by decide)
theorem uq_head {c : UInt8} {r : Bs} (h : c.toNat = 34) : unquoteD (c :: r) = uqGo (c :: r) ((c :: r).length + 2) [] 1 0 := by
 have hc : c = 34 := UInt8.toNat_inj.1 h; subst hc; have hw := want_ok (l := 34 :: r) (p := 0) (c := 34) (r := r) rfl; unfold unquoteD; have hw' : rdWant (34 :: r) 34 0 0 = (1, 0) := hw; rw [hw']
end Go.Ms
