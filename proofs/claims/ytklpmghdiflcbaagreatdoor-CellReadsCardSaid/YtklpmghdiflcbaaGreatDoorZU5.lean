/- What the reader takes for a literal is one: a row of parts between quotes. -/
import Derived.Test.YtklpmghdiflcbaaGreatDoorZA
set_option linter.unusedVariables false
namespace Go.Ms
open Go.Lib

theorem fail_nz (e : Int) {x : Int} (hx : x ≠ 0) : rdFail e x ≠ 0 := by unfold rdFail; split <;> assumption
theorem cons_of {l : Bs} {p : Nat} (h : p < l.length) : ∃ c r, l.drop p = c :: r ∧ bt l p = c.toNat := by
  refine ⟨l[p], l.drop (p + 1), List.drop_eq_getElem_cons h, ?_⟩
  exact (drop_cons (List.drop_eq_getElem_cons h)).2.1
theorem take_inv {l : Bs} {p : Nat} {e : Int} (hp : p ≤ l.length) (h : (rdTake l p e).2.2 = 0) : e = 0 ∧ ∃ c r, l.drop p = c :: r ∧ rdTake l p e = (((c.toNat : Nat) : Int), p + 1, (0 : Int)) := by
  by_cases he : e = 0
  · subst he
    refine ⟨rfl, ?_⟩
    by_cases hl : p = l.length
    · rw [take_end hp (by rw [hl]; simp)] at h; simp at h
    · obtain ⟨c, r, hc, _⟩ := cons_of (l := l) (p := p) (by omega)
      exact ⟨c, r, hc, take_cons hc⟩
  · rw [take_err l p he] at h; exact absurd h he
theorem digit_inv {l : Bs} {p : Nat} {e : Int} (hp : p ≤ l.length) (h : (rdDigit l p e).2.2 = 0) : e = 0 ∧ ∃ c r, l.drop p = c :: r ∧ hexv c.toNat ≠ 16 ∧ rdDigit l p e = (hexv c.toNat, p + 1, (0 : Int)) := by
  by_cases hx : hexv (rdTake l p e).1 = 16
  · unfold rdDigit at h
    rw [if_pos hx] at h
    exact absurd h (fail_nz _ (by decide))
  · have h' : (rdTake l p e).2.2 = 0 := by
      unfold rdDigit at h; rw [if_neg hx] at h; exact h
    obtain ⟨he, c, r, hc, ht⟩ := take_inv hp h'
    subst he
    rw [ht] at hx
    exact ⟨rfl, c, r, hc, hx, digit_cons hc hx⟩
theorem h0_inv {l : Bs} {s : Bool} {p : Nat} {e : Int} (hp : p ≤ l.length) (h : (h0 l s p e).2.2 = 0) :
    e = 0 ∧ ∃ c r, l.drop p = c :: r ∧ hexv c.toNat ≠ 16 ∧ ¬ (s = true ∧ ¬ hexv c.toNat = 13) ∧ h0 l s p e = (hexv c.toNat, p + 1, (0 : Int)) := by
  unfold h0 at h ⊢
  simp only at h
  by_cases hs : s = true ∧ ¬ (rdDigit l p e).1 = 13
  · rw [if_pos hs] at h; exact absurd h (fail_nz _ (by decide))
  · rw [if_neg hs] at h
    obtain ⟨he, c, r, hc, hx, hd⟩ := digit_inv hp h
    subst he
    rw [hd] at hs ⊢
    exact ⟨rfl, c, r, hc, hx, hs, by simp only; rw [if_neg hs]⟩
theorem h1_inv {l : Bs} {s : Bool} {p : Nat} {e : Int} (hp : p ≤ l.length) (h : (h1 l s p e).2.2 = 0) :
    e = 0 ∧ ∃ c1 c2 r, l.drop p = c1 :: c2 :: r ∧ hexv c1.toNat ≠ 16 ∧ hexv c2.toNat ≠ 16 ∧ okPair s (hexv c1.toNat) (hexv c2.toNat) ∧ h1 l s p e = (16 * hexv c1.toNat + hexv c2.toNat, p + 2, (0 : Int)) := by
  unfold h1 at h ⊢
  simp only at h
  split at h
  · rename_i hs
    obtain ⟨he0, c2, r, hc2, hx2, hd2⟩ := digit_inv (h0_le l s p e hp).2 h
    obtain ⟨he, c1, r1, hc1, hx1, hk, hd1⟩ := h0_inv hp he0
    subst he
    rw [hd1] at hc2 hd2 hs ⊢
    simp only at hc2 hd2 hs ⊢
    rw [hd2] at hs ⊢
    simp only at hs ⊢
    have := (drop_cons hc1).2.2
    rw [hc2] at this
    subst this
    refine ⟨trivial, c1, c2, r, hc1, hx1, hx2, ⟨hk, hs⟩, ?_⟩
    rw [if_pos hs]
  · exact absurd h (fail_nz _ (by decide))
theorem h2_inv {l : Bs} {s : Bool} {p : Nat} {e : Int} (hp : p ≤ l.length) (h : (h2 l s p e).2.2 = 0) :
    e = 0 ∧ ∃ c1 c2 c3 r, l.drop p = c1 :: c2 :: c3 :: r ∧ hexv c1.toNat ≠ 16 ∧ hexv c2.toNat ≠ 16 ∧ hexv c3.toNat ≠ 16 ∧ okPair s (hexv c1.toNat) (hexv c2.toNat) ∧ h2 l s p e = (16 * (16 * hexv c1.toNat + hexv c2.toNat) + hexv c3.toNat, p + 3, (0 : Int)) := by
  unfold h2 at h ⊢
  simp only at h
  obtain ⟨he0, c3, r, hc3, hx3, hd3⟩ := digit_inv (h1_le l s p e hp).2 h
  obtain ⟨he, c1, c2, r1, hc1, hx1, hx2, hk, hd1⟩ := h1_inv hp he0
  subst he
  rw [hd1] at hc3 hd3 ⊢
  simp only at hc3 hd3 ⊢
  rw [hd3]
  have := (drop_cons (drop_cons hc1).2.2).2.2
  rw [hc3] at this
  subst this
  exact ⟨trivial, c1, c2, c3, r, hc1, hx1, hx2, hx3, hk, rfl⟩
theorem half_inv {l : Bs} {s : Bool} {p : Nat} {e : Int} (hp : p ≤ l.length) (h : (rdHalf l s p e).2.2 = 0) :
    e = 0 ∧ ∃ c1 c2 c3 c4 r, l.drop p = c1 :: c2 :: c3 :: c4 :: r ∧ hexv c1.toNat ≠ 16 ∧ hexv c2.toNat ≠ 16 ∧ hexv c3.toNat ≠ 16 ∧ hexv c4.toNat ≠ 16 ∧ okPair s (hexv c1.toNat) (hexv c2.toNat) ∧
      rdHalf l s p e = (num4 (hexv c1.toNat) (hexv c2.toNat) (hexv c3.toNat) (hexv c4.toNat), p + 4, (0 : Int)) := by
  have h' := h
  unfold rdHalf at h'
  simp only at h'
  obtain ⟨he0, c4, r, hc4, hx4, _⟩ := digit_inv (h2_le l s p e hp).2 h'
  obtain ⟨he, c1, c2, c3, r1, hc1, hx1, hx2, hx3, hk, hd1⟩ := h2_inv hp he0
  subst he
  rw [hd1] at hc4
  simp only at hc4
  have := (drop_cons (drop_cons (drop_cons hc1).2.2).2.2).2.2
  rw [hc4] at this
  subst this
  exact ⟨rfl, c1, c2, c3, c4, r, hc1, hx1, hx2, hx3, hx4, hk, half_ok s hc1 hx1 hx2 hx3 hx4 hk⟩
theorem want_inv {l : Bs} {p : Nat} {e : Int} (x : UInt8) (hp : p ≤ l.length) (h : (rdWant l x.toNat p e).2 = 0) : e = 0 ∧ ∃ r, l.drop p = x :: r ∧ rdWant l x.toNat p e = (p + 1, (0 : Int)) := by
  unfold rdWant at h
  simp only at h
  split at h
  · rename_i hc
    obtain ⟨he, c, r, hd, ht⟩ := take_inv hp h
    subst he
    rw [ht] at hc
    simp only at hc
    have : c = x := UInt8.toNat_inj.1 (by omega)
    subst this
    exact ⟨rfl, r, hd, want_ok hd⟩
  · exact absurd h (fail_nz _ (by decide))

/-- What stands behind a backslash and is taken, is a part. -/
theorem escape_inv {l : Bs} {p : Nat} {r0 : Bs} (hd : l.drop p = 92 :: r0) (h : (rdEscape l (p + 1) 0).2.2 = 0) : ∃ q t rest, Part q t ∧ l.drop p = q ++ rest := by
  obtain ⟨g1, g2, g3⟩ := drop_cons hd
  by_cases hl : p + 1 = l.length
  · exfalso
    have hnil : l.drop (p + 1) = [] := by rw [hl]; simp
    unfold rdEscape at h
    simp only [take_end (by omega) hnil] at h
    rw [if_neg (by decide)] at h
    simp only [show unesc 0 = none from by decide] at h
    rw [if_neg (by decide), fail_err (by decide)] at h
    have he := half_err l false (p + 1) (e := 3) (by decide)
    unfold rdLong at h
    simp only at h
    split at h
    · unfold rdPair at h
      simp only [he.1, want_err _ _ _ (show (3 : Int) ≠ 0 by decide)] at h
      rw [(half_err l true _ (by decide)).1, if_neg (by decide)] at h
      simp at h
    · rw [he.1, if_neg (by decide)] at h
      simp at h
  obtain ⟨c, r, hc, _⟩ := cons_of (l := l) (p := p + 1) (by omega)
  have hdr : l.drop p = 92 :: c :: r := by rw [hd, ← g3, hc]
  unfold rdEscape at h
  simp only [take_cons hc] at h
  by_cases h47 : ((c.toNat : Nat) : Int) = 47
  · have : c = 47 := UInt8.toNat_inj.1 (by have : (47 : UInt8).toNat = 47 := rfl; omega)
    subst this
    exact ⟨[92, 47], [47], r, .slash, hdr⟩
  rw [if_neg h47] at h
  cases hu : unesc c.toNat with
  | some k => exact ⟨[92, c], encodeRune k, r, .short c k hu, hdr⟩
  | none =>
    rw [hu] at h
    simp only at h
    have hp2 : p + 1 + 1 ≤ l.length := by omega
    by_cases h117 : ((c.toNat : Nat) : Int) = 117
    · rw [if_pos h117] at h
      have hcu : c = 117 := UInt8.toNat_inj.1 (by have : (117 : UInt8).toNat = 117 := rfl; omega)
      subst hcu
      unfold rdLong at h
      simp only at h
      by_cases hn : 55296 ≤ (rdHalf l false (p + 1 + 1) 0).1 ∧ (rdHalf l false (p + 1 + 1) 0).1 < 56320
      · rw [if_pos hn] at h
        have h' := h
        unfold rdPair at h'
        simp only at h'
        have hle := (rdHalf_le l false (p + 1 + 1) 0 hp2).2
        have hle1 := (rdWant_le l 92 _ (rdHalf l false (p + 1 + 1) 0).2.2 hle).2
        have hle2 := (rdWant_le l 117 _ (rdWant l 92 (rdHalf l false (p + 1 + 1) 0).2.1 (rdHalf l false (p + 1 + 1) 0).2.2).2 hle1).2
        have hz : (rdHalf l true (rdWant l 117 (rdWant l 92 (rdHalf l false (p + 1 + 1) 0).2.1 (rdHalf l false (p + 1 + 1) 0).2.2).1 (rdWant l 92 (rdHalf l false (p + 1 + 1) 0).2.1 (rdHalf l false (p + 1 + 1) 0).2.2).2).1 (rdWant l 117 (rdWant l 92 (rdHalf l false (p + 1 + 1) 0).2.1 (rdHalf l false (p + 1 + 1) 0).2.2).1 (rdWant l 92 (rdHalf l false (p + 1 + 1) 0).2.1 (rdHalf l false (p + 1 + 1) 0).2.2).2).2).2.2 = 0 := by
          split at h'
          · assumption
          · exact h'
        obtain ⟨e2, d1, d2, d3, d4, r3, hdd, j1, j2, j3, j4, hok2, _⟩ := half_inv hle2 hz
        obtain ⟨e1, r2, hdw2, hw2⟩ := want_inv 117 hle1 e2
        obtain ⟨e0, r1, hdw1, hw1⟩ := want_inv 92 hle e1
        obtain ⟨_, c1, c2, c3, c4, rr, hcc, k1, k2, k3, k4, hok, hh⟩ := half_inv hp2 e0
        rw [hh] at hn hdw1 hdw2 hdd hw1 hw2
        simp only at hn hdw1 hdw2 hdd hw1 hw2
        have hw1' : rdWant l 92 (p + 1 + 1 + 4) 0 = (p + 1 + 1 + 4 + 1, 0) := hw1
        rw [hw1'] at hdw2 hdd hw2
        simp only at hdw2 hdd hw2
        have hw2' : rdWant l 117 (p + 1 + 1 + 4 + 1) 0 = (p + 1 + 1 + 4 + 1 + 1, 0) := hw2
        rw [hw2'] at hdd
        simp only at hdd
        have a1 := (drop_cons (drop_cons (drop_cons (drop_cons hcc).2.2).2.2).2.2).2.2
        have a2 := (drop_cons hdw1).2.2
        have a3 := (drop_cons hdw2).2.2
        have b1 : rr = 92 :: r1 := a1.symm.trans hdw1
        have b2 : r1 = 117 :: r2 := a2.symm.trans hdw2
        have b3 : r2 = d1 :: d2 :: d3 :: d4 :: r3 := a3.symm.trans hdd
        have b0 : r = c1 :: c2 :: c3 :: c4 :: rr := (drop_cons hc).2.2.symm.trans hcc
        refine ⟨_, _, r3, .pair c1 c2 c3 c4 d1 d2 d3 d4 k1 k2 k3 k4 j1 j2 j3 j4 hok hn hok2, ?_⟩
        rw [hdr, b0, b1, b2, b3]; rfl
      · rw [if_neg hn] at h
        have hz : (rdHalf l false (p + 1 + 1) 0).2.2 = 0 := by
          split at h
          · assumption
          · exact h
        obtain ⟨_, c1, c2, c3, c4, rr, hcc, k1, k2, k3, k4, hok, hh⟩ := half_inv hp2 hz
        rw [hh] at hn
        have b0 : r = c1 :: c2 :: c3 :: c4 :: rr := (drop_cons hc).2.2.symm.trans hcc
        refine ⟨_, _, rr, .four c1 c2 c3 c4 k1 k2 k3 k4 hok hn, ?_⟩
        rw [hdr, b0]; rfl
    · exfalso
      rw [if_neg h117] at h
      have hz : rdFail 0 41 ≠ 0 := fail_nz _ (by decide)
      have he := half_err l false (p + 1 + 1) hz
      unfold rdLong at h
      simp only at h
      split at h
      · unfold rdPair at h
        simp only [he.1, want_err _ _ _ hz] at h
        rw [(half_err l true _ hz).1, if_neg hz] at h
        exact hz h
      · rw [he.1, if_neg hz] at h
        exact hz h

/-- A step: a part, or an error. -/
theorem step_inv {l : Bs} {p : Nat} (hp : p < l.length) (h34 : ¬ bt l p = 34) : (∃ q t rest, Part q t ∧ l.drop p = q ++ rest) ∨ ∃ e, e ≠ 0 ∧ ∀ n acc, uqGo l (n + 2) acc p 0 = ([], 0, e) := by
  obtain ⟨c, r, hc, hb⟩ := cons_of hp
  by_cases h92 : bt l p = 92
  · have : c = 92 := UInt8.toNat_inj.1 (by have : (92 : UInt8).toNat = 92 := rfl; omega)
    subst this
    by_cases he : (rdEscape l (p + 1) 0).2.2 = 0
    · exact .inl (escape_inv hc he)
    · exact .inr ⟨_, he, fun n acc => by rw [uqGo_succ, if_pos rfl, if_neg (by omega), if_neg h34, if_pos h92, go_err _ _ _ _ he]⟩
  · by_cases h32 : bt l p < 32
    · refine .inr ⟨41, by decide, fun n acc => ?_⟩
      rw [uqGo_succ, if_pos rfl, if_neg (by omega), if_neg h34, if_neg h92]
      unfold rdPlain
      rw [if_pos h32]
      exact go_err _ _ _ _ (show (41 : Int) ≠ 0 by decide)
    · rcases next_cases (l.drop p) with e | ⟨r', g1, g2, g3⟩
      · by_cases hf : fullD (l.drop p) = true
        · refine .inr ⟨40, by decide, fun n acc => ?_⟩
          rw [uqGo_succ, if_pos rfl, if_neg (by omega), if_neg h34, if_neg h92]
          unfold rdPlain
          rw [if_neg h32, e]
          simp only [Bool.false_eq_true, if_false]
          rw [if_pos hf]
          exact go_err _ _ _ _ (show (40 : Int) ≠ 0 by decide)
        · refine .inr ⟨3, by decide, fun n acc => ?_⟩
          rw [uqGo_succ, if_pos rfl, if_neg (by omega), if_neg h34, if_neg h92]
          unfold rdPlain
          rw [if_neg h32, e]
          simp only [Bool.false_eq_true, if_false]
          rw [if_neg hf]
          exact go_err _ _ _ _ (show (3 : Int) ≠ 0 by decide)
      · left
        obtain ⟨c', tl, e', ea, eh⟩ := enc_head g1
        have hcc : c' = c := by
          rw [g3, e', List.cons_append] at hc
          injection hc
        subst hcc
        have hbr := (isRune_iff r').1 g1
        refine ⟨_, _, _, .rune r' g1 ?_ ?_ ?_, g3⟩
        · rcases Int.lt_or_le r' 128 with g | g
          · have := ea (by omega); omega
          · omega
        · intro e; have := ea (by omega); omega
        · intro e; have := ea (by omega); omega
theorem uq_cases {l : Bs} : ∀ (n p : Nat), l.length - p ≤ n → p ≤ l.length → (∃ k q t more, Lits k q t ∧ l.drop p = q ++ 34 :: more) ∨ ∃ e, e ≠ 0 ∧ ∀ N acc, n + 2 ≤ N → uqGo l N acc p 0 = ([], 0, e) := by
  intro n
  induction n with
  | zero =>
    intro p h hp
    refine .inr ⟨3, by decide, fun N acc hN => ?_⟩
    obtain ⟨N, rfl⟩ : ∃ M, N = M + 1 := ⟨N - 1, by omega⟩
    rw [uqGo_succ, if_pos rfl, if_pos (by omega)]
  | succ n ih =>
    intro p h hp
    by_cases hpl : p = l.length
    · refine .inr ⟨3, by decide, fun N acc hN => ?_⟩
      obtain ⟨N, rfl⟩ : ∃ M, N = M + 1 := ⟨N - 1, by omega⟩
      rw [uqGo_succ, if_pos rfl, if_pos (by omega)]
    have hlt : p < l.length := by omega
    obtain ⟨c, r, hc, hb⟩ := cons_of hlt
    by_cases h34 : bt l p = 34
    · have : c = 34 := UInt8.toNat_inj.1 (by have : (34 : UInt8).toNat = 34 := rfl; omega)
      subst this
      exact .inl ⟨0, [], [], r, .nil, hc⟩
    rcases step_inv hlt h34 with ⟨q, t, rest, hq, hd⟩ | ⟨e, he, hg⟩
    · have hpos := hq.pos
      have hlen := congrArg List.length hd
      rw [List.length_drop, List.length_append] at hlen
      rcases ih (p + q.length) (by omega) (by omega) with ⟨k, q', t', more, hl, hd'⟩ | ⟨e, he, hg⟩
      · refine .inl ⟨k + 1, q ++ q', t ++ t', more, .cons hq hl, ?_⟩
        rw [hd, List.append_assoc, ← hd', drop_app hd]
      · refine .inr ⟨e, he, fun N acc hN => ?_⟩
        obtain ⟨N, rfl⟩ : ∃ M, N = M + 1 := ⟨N - 1, by omega⟩
        rw [go_part hq hd]
        exact hg _ _ (by omega)
    · refine .inr ⟨e, he, fun N acc hN => ?_⟩
      obtain ⟨N, rfl⟩ : ∃ M, N = M + 2 := ⟨N - 2, by omega⟩
      exact hg _ _
theorem unquote_cases (l : Bs) : (∃ k q t more, Lits k q t ∧ l = 34 :: (q ++ 34 :: more)) ∨ ∃ e, e ≠ 0 ∧ unquoteD l = ([], 0, e) := by
  by_cases hw : (rdWant l 34 0 0).2 = 0
  · obtain ⟨_, r, hr, hw'⟩ := want_inv (l := l) (p := 0) (e := 0) 34 (by omega) hw
    have hw2 : rdWant l 34 0 0 = (1, 0) := hw'
    have hl : l = 34 :: r := hr
    have hpos : 1 ≤ l.length := by rw [hl]; simp
    rcases uq_cases (l := l) l.length 1 (by omega) hpos with ⟨k, q, t, more, h, hd⟩ | ⟨e, he, hg⟩
    · refine .inl ⟨k, q, t, more, h, ?_⟩
      have : l.drop 1 = r := by rw [hl]; rfl
      rw [hl, ← this, hd]
    · refine .inr ⟨e, he, ?_⟩
      unfold unquoteD
      rw [hw2]
      exact hg _ _ (by omega)
  · refine .inr ⟨_, hw, ?_⟩
    unfold unquoteD
    rw [go_err _ _ _ _ hw]
end Go.Ms
