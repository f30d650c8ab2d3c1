/- What a literal says is runes, and is quoted in no more bytes. -/
import Derived.Test.YtnjljcgapijadaaDoorU5
set_option linter.unusedVariables false
namespace Go.Ms
open Go.Lib

theorem unesc_ok {c k : Int} (h : unesc c = some k) : isRune k = true ∧ ∃ x, esc2 k = some x := by
  unfold unesc at h
  repeat' split at h
  all_goals first | (cases h; done) | (injection h with h; subst h; exact ⟨rfl, _, rfl⟩)
theorem flat_le6 {r : Int} (h : isRune r = true) : ((encodeRune r).flatMap qb).length ≤ 6 := by
  have hb := (isRune_iff r).1 h
  cases hx : esc2 r with
  | some x => rw [q_esc h hx]; simp
  | none =>
    by_cases h1 : r < 32
    · rw [q_hex (by omega) hx h1]; simp
    · rw [q_plain h hx h1]; have := (encodeRune_length r).2; omega
theorem hex_bd {c : UInt8} (h : hexv c.toNat ≠ 16) : 0 ≤ hexv c.toNat ∧ hexv c.toNat ≤ 15 := by
  have := hexv_bd c.toNat; omega
theorem Part.says {q t : Bs} (h : Part q t) : ∃ r, isRune r = true ∧ t = encodeRune r ∧ ((encodeRune r).flatMap qb).length ≤ q.length := by
  cases h with
  | rune r hr h1 h2 h3 =>
    refine ⟨r, hr, rfl, ?_⟩
    have hx : esc2 r = none := by
      unfold esc2
      rw [if_neg h2, if_neg h3, if_neg (by omega), if_neg (by omega), if_neg (by omega), if_neg (by omega), if_neg (by omega)]
    rw [q_plain hr hx (by omega)]
    exact Nat.le_refl _
  | slash => exact ⟨47, by decide, by decide, by decide⟩
  | short c k hk =>
    obtain ⟨h1, x, hx⟩ := unesc_ok hk
    exact ⟨k, h1, rfl, by rw [q_esc h1 hx]; simp⟩
  | four c1 c2 c3 c4 k1 k2 k3 k4 ho hn =>
    have b1 := hex_bd k1; have b2 := hex_bd k2; have b3 := hex_bd k3; have b4 := hex_bd k4
    have hr : isRune (num4 (hexv c1.toNat) (hexv c2.toNat) (hexv c3.toNat) (hexv c4.toNat)) = true := by
      have h2 := of_decide_eq_false ho.2.symm
      rw [isRune_iff]
      unfold num4 at hn ⊢
      omega
    exact ⟨_, hr, rfl, by have := flat_le6 hr; simp only [List.length_cons, List.length_nil]; omega⟩
  | pair c1 c2 c3 c4 d1 d2 d3 d4 k1 k2 k3 k4 j1 j2 j3 j4 ho hn hp =>
    have b1 := hex_bd j1; have b2 := hex_bd j2; have b3 := hex_bd j3; have b4 := hex_bd j4
    have hr : isRune (65536 + (num4 (hexv c1.toNat) (hexv c2.toNat) (hexv c3.toNat) (hexv c4.toNat) - 55296) * 1024 + num4 (hexv d1.toNat) (hexv d2.toNat) (hexv d3.toNat) (hexv d4.toNat) - 56320) = true := by
      have h2 := of_decide_eq_true hp.2.symm
      have h3 : 56320 ≤ num4 (hexv d1.toNat) (hexv d2.toNat) (hexv d3.toNat) (hexv d4.toNat) ∧ num4 (hexv d1.toNat) (hexv d2.toNat) (hexv d3.toNat) (hexv d4.toNat) ≤ 57343 := by
        unfold num4; omega
      rw [isRune_iff]
      omega
    exact ⟨_, hr, rfl, by have := flat_le6 hr; simp only [List.length_cons, List.length_nil]; omega⟩
theorem Lits.says {k : Nat} {q t : Bs} (h : Lits k q t) : validD t = true ∧ (t.flatMap qb).length ≤ q.length := by
  induction h with
  | nil => exact ⟨rfl, by simp⟩
  | cons h _ ih =>
    obtain ⟨r, h1, rfl, h2⟩ := h.says
    refine ⟨by rw [valid_enc r _ h1]; exact ih.1, ?_⟩
    rw [List.flatMap_append, List.length_append, List.length_append]
    omega
theorem flat_ge (l : Bs) : l.length ≤ (l.flatMap qb).length := by
  induction l with
  | nil => simp
  | cons a t ih =>
    have : 1 ≤ (qb a).length := by
      unfold qb
      repeat' split
      all_goals simp
    rw [List.flatMap_cons, List.length_append, List.length_cons]; omega
theorem quoteD_ge (l : Bs) : l.length ≤ (quoteD l).length := by
  have := flat_ge l
  unfold quoteD; simp only [List.length_cons, List.length_append, List.length_nil]; omega
/-- The whole of it. -/
theorem unquote_short (l : Bs) : (∃ t n, unquoteD l = (t, n, 0) ∧ 2 ≤ n ∧ n ≤ l.length ∧ validD t = true ∧ (quoteD t).length ≤ n ∧ unquoteD (quoteD t) = (t, (quoteD t).length, 0)) ∨ ∃ e, e ≠ 0 ∧ unquoteD l = ([], 0, e) := by
  rcases unquote_cases l with ⟨k, q, t, more, h, rfl⟩ | h
  · obtain ⟨hv, hl⟩ := h.says
    refine .inl ⟨t, q.length + 2, unquote_lits h, by omega, by simp, hv, ?_, ?_⟩
    · unfold quoteD; simp only [List.length_cons, List.length_append, List.length_nil]; omega
    · have := unquote_quote (t := t) [] hv
      rwa [List.append_nil] at this
  · exact .inr h
end Go.Ms
