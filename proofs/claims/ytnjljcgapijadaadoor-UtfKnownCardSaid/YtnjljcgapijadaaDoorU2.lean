/- Literals as rows of parts: read, and cut. -/
import Derived.Test.YtnjljcgapijadaaDoorU1
set_option linter.unusedVariables false
namespace Go.Ms
open Go.Lib

/-- A row of parts, and what it says. -/
inductive Lits : Nat → Bs → Bs → Prop
  | nil : Lits 0 [] []
  | cons {n : Nat} {q t q' t' : Bs} (h : Part q t) (h' : Lits n q' t') : Lits (n + 1) (q ++ q') (t ++ t')

theorem Part.pos {q t : Bs} (h : Part q t) : 1 ≤ q.length := by
  cases h
  case rune r _ _ _ _ => exact (encodeRune_length r).1
  all_goals simp
theorem Lits.le {k : Nat} {q t : Bs} (h : Lits k q t) : k ≤ q.length := by
  induction h with
  | nil => simp
  | cons h _ ih => have := h.pos; simp only [List.length_append]; omega
theorem Lits.app {k : Nat} {q t : Bs} (h : Lits k q t) {k' : Nat} {q' t' : Bs} (h' : Lits k' q' t') : ∃ m, Lits m (q ++ q') (t ++ t') := by
  induction h with
  | nil => exact ⟨_, h'⟩
  | cons h _ ih => obtain ⟨m, hm⟩ := ih; exact ⟨m + 1, by rw [List.append_assoc, List.append_assoc]; exact .cons h hm⟩
theorem Lits.one {q t : Bs} (h : Part q t) : Lits 1 q t := by
  have := Lits.cons h .nil
  simpa using this

theorem go_lits {l q t : Bs} {k : Nat} (h : Lits k q t) : ∀ {p n : Nat} {acc rest : Bs}, l.drop p = q ++ rest → uqGo l (n + k) acc p 0 = uqGo l n (acc ++ t) (p + q.length) 0 := by
  induction h with
  | nil => intro p n acc rest _; simp
  | cons h _ ih =>
    intro p n acc rest hd
    rw [List.append_assoc] at hd
    rw [← Nat.add_assoc, go_part h hd, ih (drop_app hd)]
    simp [Nat.add_assoc]
theorem go_quote {l : Bs} {p n : Nat} {acc more : Bs} (h : l.drop p = 34 :: more) : uqGo l (n + 1) acc p 0 = (acc, p + 1, 0) := by
  obtain ⟨h1, h2, _⟩ := drop_cons h
  rw [uqGo_succ, if_pos rfl, if_neg (by omega), if_pos (by rw [h2]; rfl)]
theorem go_err (l : Bs) (n : Nat) (acc : Bs) (p : Nat) {e : Int} (he : e ≠ 0) : uqGo l (n + 1) acc p e = ([], 0, e) := by
  rw [uqGo_succ, if_neg he]
theorem unquote_lits {k : Nat} {q t more : Bs} (h : Lits k q t) : unquoteD (34 :: (q ++ 34 :: more)) = (t, q.length + 2, 0) := by
  have hk := h.le
  have hw : rdWant (34 :: (q ++ 34 :: more)) 34 0 0 = (1, 0) := want_ok (c := 34) (r := q ++ 34 :: more) rfl
  unfold unquoteD
  rw [hw]
  show uqGo _ _ [] 1 0 = _
  obtain ⟨m, hm⟩ : ∃ m, (34 :: (q ++ 34 :: more)).length + 2 = (m + 1) + k := ⟨q.length + more.length + 3 - k, by simp; omega⟩
  have hd : (34 :: (q ++ 34 :: more)).drop 1 = q ++ 34 :: more := rfl
  rw [hm, go_lits h hd, go_quote (drop_app hd)]
  simp; omega

theorem dig_hex : ∀ k : Fin 16, hexv ((hexd k.val).toNat : Int) = (k.val : Int) := by decide
theorem unesc_esc2 {r x : Int} (h : esc2 r = some x) : unesc ((x.toNat.toUInt8).toNat : Int) = some r := by
  unfold esc2 at h
  repeat' split at h
  all_goals first | (cases h; done) | (injection h with h; subst h; subst_vars; rfl)
/-- A rune's piece of the tidy literal is a part that says it. -/
theorem part_q {r : Int} (h : isRune r = true) : Part ((encodeRune r).flatMap qb) (encodeRune r) := by
  cases hx : esc2 r with
  | some x => rw [q_esc h hx]; exact .short _ _ (unesc_esc2 hx)
  | none =>
    have hb := (isRune_iff r).1 h
    by_cases h1 : r < 32
    · rw [q_hex (by omega) hx h1]
      have e1 := dig_hex ⟨r.toNat / 16, by omega⟩
      have e2 := dig_hex ⟨r.toNat % 16, by omega⟩
      simp only at e1 e2
      have hn : num4 (hexv ((48 : UInt8).toNat : Int)) (hexv ((48 : UInt8).toNat : Int)) (hexv ((hexd (r.toNat / 16)).toNat : Int)) (hexv ((hexd (r.toNat % 16)).toNat : Int)) = r := by
        rw [e1, e2, show hexv ((48 : UInt8).toNat : Int) = 0 from by decide]
        unfold num4; omega
      have := Part.four 48 48 (hexd (r.toNat / 16)) (hexd (r.toNat % 16)) (by decide) (by decide) (by rw [e1]; omega) (by rw [e2]; omega) (by unfold okPair; decide) (by rw [hn]; omega)
      rwa [hn] at this
    · rw [q_plain h hx h1]
      refine .rune r h (by omega) (fun e => ?_) (fun e => ?_)
      all_goals (subst e; simp [esc2] at hx)
theorem lits_q : ∀ (n : Nat) (t : Bs), t.length ≤ n → validD t = true → ∃ k, Lits k (t.flatMap qb) t := by
  intro n
  induction n with
  | zero => intro t h _; have : t = [] := List.eq_nil_of_length_eq_zero (by omega); subst this; exact ⟨0, .nil⟩
  | succ n ih =>
    intro t h hv
    by_cases ht : t = []
    · subst ht; exact ⟨0, .nil⟩
    obtain ⟨r, h1, _, h3, h4⟩ := valid_first t ht hv
    have hl := (encodeRune_length r).1
    obtain ⟨k, hk⟩ := ih (t.drop (encodeRune r).length) (by simp; omega) h4
    refine ⟨k + 1, ?_⟩
    have := Lits.cons (part_q h1) hk
    rw [← List.flatMap_append, ← h3] at this
    exact this
/-- A text is read of its tidy literal as it was, whatever stands behind. -/
theorem unquote_quote {t : Bs} (more : Bs) (h : validD t = true) : unquoteD (quoteD t ++ more) = (t, (quoteD t).length, 0) := by
  obtain ⟨k, hk⟩ := lits_q t.length t (Nat.le_refl _) h
  have := unquote_lits (more := more) hk
  unfold quoteD
  simpa using this
end Go.Ms
