import Derived.Test.YtnjljcgapijadaaDoorW1
set_option linter.unusedVariables false
namespace Go.Proofs.YtnjljcgapijadaaDoor
open Go.RowKit Go.Ms Go.Lib

theorem emod_tmod (i n : Int) (hn : 0 < n) : i % n = if i.tmod n < 0 then i.tmod n + n else i.tmod n := by
  have h := Int.tmod_eq_emod (a := i) (b := n)
  have m0 := Int.emod_nonneg i (by omega : n ≠ 0)
  have m1 := Int.emod_lt_of_pos i hn
  generalize i.tmod n = t at *
  generalize i % n = m at *
  by_cases c : 0 ≤ i ∨ n ∣ i
  · rw [if_pos c] at h; split <;> omega
  · rw [if_neg c] at h; split <;> omega

set_option maxHeartbeats 400000 in
theorem bring_any (i n : Int) (w : World) (h0 : -9223372036854775808 ≤ i) (h1 : i ≤ 9223372036854775807) (hn : 0 < n) (hn2 : n ≤ 4611686018427387904) :
    Calls Tryd.prog 28 #[.int .i64 i, .int .i64 n] w fun e w' => e = .returned (.int .i64 (i % n)) ∧ w = w' := by
  have hz : (n == 0) = false := by simp; omega
  have hz2 : (n == -1) = false := by simp; omega
  have m1 := Int.emod_lt_of_pos i hn
  have he := emod_tmod i n hn
  have He := Lib.hid he
  clear he
  go_enter Tryd.func28, Tryd.ntmps28
  go_wp2
  · have ht : i.tmod n < 0 := by assumption
    go_ret
    have h := He.out
    rw [if_pos ht] at h
    have m0 := Int.emod_nonneg i (by omega : n ≠ 0)
    exact ⟨ret_int (by rw [h]; show wrap64 _ = _; rw [IntWalk.wrap64_in _ (by omega)]), rfl⟩
  · have ht : 0 ≤ i.tmod n := by assumption
    go_ret
    have h := He.out
    rw [if_neg (by omega)] at h
    exact ⟨ret_int h.symm, rfl⟩

/-- A rune, by a number. -/
def oneD (n : Int) : Int := if 55296 ≤ n % 1112064 then n % 1112064 + 2048 else n % 1112064
theorem oneD_bd (n : Int) : 0 ≤ oneD n ∧ oneD n ≤ 1114111 := by
  unfold oneD; split <;> omega
theorem oneD_rune (n : Int) : isRune (oneD n) = true := by
  rw [isRune_iff]; unfold oneD; split <;> omega

set_option maxHeartbeats 400000 in
theorem one_any (i : Int) (w : World) (h0 : -9223372036854775808 ≤ i) (h1 : i ≤ 9223372036854775807) :
    Calls Tryd.prog 29 #[.int .i64 i] w fun e w' => e = .returned (.int .i32 (oneD i)) ∧ w = w' := by
  have cb := bring_any i 1112064 w h0 h1 (by omega) (by omega)
  have m0 : 0 ≤ i % 1112064 := by omega
  have m1 : i % 1112064 < 1112064 := by omega
  obtain ⟨R, hR⟩ : ∃ R, oneD i = R := ⟨_, rfl⟩
  rw [hR]
  unfold oneD at hR
  generalize i % 1112064 = m at *
  by_cases c : 55296 ≤ m
  · rw [if_pos c] at hR
    subst hR
    go_enter Tryd.func29, Tryd.ntmps29
    go_wp2_with fail
    refine cb.mono ?_
    rintro en w1 ⟨rfl, rfl⟩
    go_wp2_with fail
    go_ret
    exact ⟨rfl, rfl⟩
  · rw [if_neg c] at hR
    subst hR
    go_enter Tryd.func29, Tryd.ntmps29
    go_wp2_with fail
    refine cb.mono ?_
    rintro en w1 ⟨rfl, rfl⟩
    go_wp2_with fail
    go_ret
    exact ⟨rfl, rfl⟩
end Go.Proofs.YtnjljcgapijadaaDoor
