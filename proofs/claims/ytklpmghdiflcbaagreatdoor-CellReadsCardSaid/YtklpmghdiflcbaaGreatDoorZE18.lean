/- Cells: how two stand. -/
import Derived.Test.YtklpmghdiflcbaaGreatDoorZE15
import Derived.Test.YtklpmghdiflcbaaGreatDoorZA
import Derived.Deep.RegionHeld3
set_option linter.unusedVariables false
namespace Go.Proofs.YtklpmghdiflcbaaGreatDoor
open Go.RowKit Go.Ms Go.Lib

theorem nan_any (x : Int) (w : World) :
    Calls Tryz.prog 80 #[.int .i64 x] w fun e w' => e = .returned (.bool false) ∧ w = w' := by
  go_enter Tryz.func80, Tryz.ntmps80
  go_wp2
  go_ret
  exact ⟨by simp, rfl⟩
theorem cmpn_any (x y : Int) (w : World) :
    Calls Tryz.prog 45 #[.int .i64 x, .int .i64 y] w fun e w' => e = .returned (.int .i64 (kCmpN x y)) ∧ w = w' := by
  unfold kCmpN
  by_cases h1 : x < y
  · rw [if_pos h1]
    go_enter Tryz.func45, Tryz.ntmps45
    go_wp2_with ((with_reducible refine (nan_any _ _).mono ?_); rintro e w' ⟨rfl, rfl⟩)
    go_ret
    exact ⟨rfl, rfl⟩
  · rw [if_neg h1]
    by_cases h2 : y < x
    · rw [if_pos h2]
      go_enter Tryz.func45, Tryz.ntmps45
      go_wp2_with ((with_reducible refine (nan_any _ _).mono ?_); rintro e w' ⟨rfl, rfl⟩)
      go_ret
      exact ⟨rfl, rfl⟩
    · rw [if_neg h2]
      go_enter Tryz.func45, Tryz.ntmps45
      go_wp2_with ((with_reducible refine (nan_any _ _).mono ?_); rintro e w' ⟨rfl, rfl⟩)
      go_ret
      exact ⟨rfl, rfl⟩
theorem or_any (b : Nat) (x y : Int) (w : World) (h0 : w.cell? ⟨b, 0, none⟩ = some (.int .i64 x)) (h1 : w.cell? ⟨b, 1, none⟩ = some (.int .i64 y)) :
    Calls Tryz.prog 44 #[.slice (some ⟨b, 0, none⟩) 2 2] w fun e w' => e = .returned (.int .i64 (if x = 0 then y else x)) ∧ w = w' := by
  by_cases hx : x = 0
  · subst hx
    rw [if_pos rfl]
    by_cases hy : y = 0
    · subst hy
      go_enter Tryz.func44, Tryz.ntmps44
      go_wp2
      go_rounds 3
      go_ret
      exact ⟨rfl, rfl⟩
    · have e1 : (y != 0) = true := by simpa using hy
      go_enter Tryz.func44, Tryz.ntmps44
      go_wp2
      go_rounds 3
      go_ret
      exact ⟨rfl, rfl⟩
  · rw [if_neg hx]
    have e1 : (x != 0) = true := by simpa using hx
    go_enter Tryz.func44, Tryz.ntmps44
    go_wp2
    go_rounds 3
    go_ret
    exact ⟨rfl, rfl⟩
end Go.Proofs.YtklpmghdiflcbaaGreatDoor
