/- A number brought to be from 0 to below another one. -/
import Derived.Test.YtikpmmipopmjaaaGreatDoorZQn
set_option linter.unusedVariables false
set_option linter.unusedSimpArgs false
namespace Go.Proofs.YtikpmmipopmjaaaGreatDoor
open Go.RowKit Go.Ms Go.Lib
theorem bringI_any (i n : Int) (h0 : -9223372036854775808 ≤ i) (h1 : i ≤ 9223372036854775807) (hn : 0 < n) (hn2 : n ≤ 4611686018427387904) (w : World) :
    Calls Tryz.prog 28 #[.int .i64 i, .int .i64 n] w fun e w' => e = .returned (.int .i64 (i % n)) ∧ Below w.heap.size w w' := by
 have hz : (n == 0) = false := by simp; omega
 have hz2 : ¬ n = 0 := by omega
 have hb1 : i.tmod n < n := Int.tmod_lt_of_pos _ hn
 have hb2 : -n < i.tmod n := by
  exact Int.lt_tmod_of_pos i hn
 have hw : IntKind.i64.wrap (i.tmod n) = i.tmod n := IntWalk.i64_in _ ⟨by omega, by omega⟩
 by_cases hneg : i.tmod n < 0
 · have he : i % n = i.tmod n + n := by
     have h := Int.tmod_eq_emod (a := i) (b := n)
     split at h
     · have := Int.emod_nonneg i (b := n) (by omega); omega
     · omega
   have hw2 : IntKind.i64.wrap (i.tmod n + n) = i.tmod n + n := IntWalk.i64_in _ ⟨by omega, by omega⟩; rw [he]; clear he
   go_enter Tryz.func28, Tryz.ntmps28
   go_wp2_with fail
   go_ret
   exact ⟨rfl, Below.refl _ _⟩
 · have he : i % n = i.tmod n := by
     have h := Int.tmod_eq_emod (a := i) (b := n)
     split at h
     · omega
     · have := Int.emod_lt_of_pos i hn; omega
   rw [he]; clear he
   go_enter Tryz.func28, Tryz.ntmps28
   go_wp2_with fail
   go_ret
   exact ⟨rfl, Below.refl _ _⟩
end Go.Proofs.YtikpmmipopmjaaaGreatDoor
