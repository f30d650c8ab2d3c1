/- The steps of Unquote's loop, as the reference takes them. -/
import Derived.Test.YtklpmghdiflcbaaGreatDoorZU10
set_option linter.unusedVariables false
namespace Go.Ms
open Go.Lib

theorem uq_esc {l t : Bs} {k n : Nat} (hk : k < l.length) (h92 : bt l k = 92) (h : rEsc (l.drop k) = (t, n, 0)) : 1 ≤ n ∧ k + n ≤ l.length ∧ t.length ≤ 4 ∧ ∀ N acc, uqGo l (N + 1) acc k 0 = uqGo l N (acc ++ t) (k + n) 0 := by
  have h0 : (rdEscape (l.drop k) 1 0).2.2 = 0 := by
    unfold rEsc at h
    split at h
    · assumption
    · exact (Prod.ext_iff.1 (Prod.ext_iff.1 h).2).2
  have he : rdEscape (l.drop k) 1 0 = (t, n, 0) := by
    unfold rEsc at h
    rw [if_pos h0] at h
    rw [← h]
    exact Prod.ext rfl (Prod.ext rfl h0)
  have hs := escape_sh (l := l) (q := k) (by omega) 1 0
  rw [he] at hs
  have hle := rdEscape_le (l.drop k) 1 0 (by rw [List.length_drop]; omega)
  have hlen := rdEscape_len (l.drop k) 1 0
  rw [he, List.length_drop] at hle
  rw [he] at hlen
  simp only at hle hlen hs
  refine ⟨by omega, by omega, hlen, fun N acc => ?_⟩
  rw [uqGo_succ, if_pos rfl, if_neg (by omega), if_neg (by omega), if_pos h92, hs]
theorem uq_escerr {l t : Bs} {k n : Nat} {e : Int} (hk : k < l.length) (h92 : bt l k = 92) (he : e ≠ 0) (h : rEsc (l.drop k) = (t, n, e)) : ∀ N acc, uqGo l (N + 2) acc k 0 = ([], 0, e) := by
  have h0 : (rdEscape (l.drop k) 1 0).2.2 = e := by
    unfold rEsc at h
    split at h
    · exact absurd (Prod.ext_iff.1 (Prod.ext_iff.1 h).2).2.symm he
    · exact (Prod.ext_iff.1 (Prod.ext_iff.1 h).2).2
  have hs := escape_sh (l := l) (q := k) (by omega) 1 0
  intro N acc
  rw [uqGo_succ, if_pos rfl, if_neg (by omega), if_neg (by omega), if_pos h92, hs]
  simp only
  rw [h0, go_err _ _ _ _ he]
theorem uq_low {l : Bs} {k : Nat} (hk : k < l.length) (h : bt l k < 32) : ∀ N acc, uqGo l (N + 2) acc k 0 = ([], 0, 41) := by
  intro N acc
  have hp : rdPlain l k 0 = ([], k, 41) := by unfold rdPlain; rw [if_pos h]; rfl
  rw [uqGo_succ, if_pos rfl, if_neg (by omega), if_neg (by omega), if_neg (by omega), hp]
  exact go_err _ _ _ _ (show (41 : Int) ≠ 0 by decide)
theorem uq_next {l : Bs} {k r n : Nat} (hk : k < l.length) (h34 : bt l k ≠ 34) (h92 : bt l k ≠ 92) (h32 : ¬ bt l k < 32) (h : nextD (l.drop k) = (r, n, true)) :
    1 ≤ n ∧ n ≤ 4 ∧ k + n ≤ l.length ∧ ∀ N acc, uqGo l (N + 1) acc k 0 = uqGo l N (acc ++ (l.drop k).take n) (k + n) 0 := by
  have hp : rdPlain l k 0 = ((l.drop k).take n, k + n, 0) := by
    unfold rdPlain; rw [if_neg h32, h]; rfl
  rcases next_cases (l.drop k) with e | ⟨r', _, e2, e3⟩
  · rw [h] at e; simp at e
  · rw [h] at e2
    have hn : n = (encodeRune r').length := (Prod.ext_iff.1 (Prod.ext_iff.1 e2).2).1
    have hl := encodeRune_length r'
    have hll := congrArg List.length e3
    rw [List.length_append, List.length_drop] at hll
    refine ⟨by omega, by omega, by omega, fun N acc => ?_⟩
    rw [uqGo_succ, if_pos rfl, if_neg (by omega), if_neg (by omega), if_neg (by omega), hp]
theorem uq_none {l : Bs} {k : Nat} (hk : k < l.length) (h34 : bt l k ≠ 34) (h92 : bt l k ≠ 92) (h32 : ¬ bt l k < 32) (h : (nextD (l.drop k)).2.2 = false) :
    ∀ N acc, uqGo l (N + 2) acc k 0 = ([], 0, if fullD (l.drop k) = true then 40 else 3) := by
  intro N acc
  have hp : rdPlain l k 0 = ([], k, if fullD (l.drop k) = true then 40 else 3) := by
    unfold rdPlain
    rw [if_neg h32, h]
    simp only [Bool.false_eq_true, if_false]
    split <;> rfl
  rw [uqGo_succ, if_pos rfl, if_neg (by omega), if_neg (by omega), if_neg (by omega), hp]
  simp only
  split <;> exact go_err _ _ _ _ (by decide)
theorem uq_end {l : Bs} : ∀ N acc, uqGo l (N + 1) acc l.length 0 = ([], 0, 3) := by
  intro N acc
  rw [uqGo_succ, if_pos rfl, if_pos rfl]
theorem uq_quote {l : Bs} {k : Nat} (hk : k < l.length) (h34 : bt l k = 34) : ∀ N acc, uqGo l (N + 1) acc k 0 = (acc, k + 1, 0) := by
  intro N acc
  rw [uqGo_succ, if_pos rfl, if_neg (by omega), if_pos h34]
theorem uq_empty : unquoteD [] = ([], 0, 3) := by decide
theorem uq_nohead {c : UInt8} {r : Bs} (h : c.toNat ≠ 34) : unquoteD (c :: r) = ([], 0, 41) := by
  have hw := want_bad (l := c :: r) (p := 0) (c := c) (r := r) (x := 34) rfl (by omega)
  unfold unquoteD
  rw [hw]
  exact go_err _ _ _ _ (by decide)
theorem uq_head {c : UInt8} {r : Bs} (h : c.toNat = 34) : unquoteD (c :: r) = uqGo (c :: r) ((c :: r).length + 2) [] 1 0 := by
  have hc : c = 34 := UInt8.toNat_inj.1 h
  subst hc
  have hw := want_ok (l := 34 :: r) (p := 0) (c := 34) (r := r) rfl
  unfold unquoteD
  have hw' : rdWant (34 :: r) 34 0 0 = (1, 0) := hw
  rw [hw']
end Go.Ms
