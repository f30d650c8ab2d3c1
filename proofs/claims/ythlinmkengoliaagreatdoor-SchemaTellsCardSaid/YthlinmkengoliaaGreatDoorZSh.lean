/- Schemas: Place and Named, as the reference answers. -/
import Derived.Test.YthlinmkengoliaaGreatDoorZSd
set_option linter.unusedVariables false
set_option linter.unusedSimpArgs false
namespace Go.Proofs.YthlinmkengoliaaGreatDoor
open Go.RowKit Go.Ms Go.Lib
set_option maxRecDepth 100000 in
set_option maxHeartbeats 2000000 in
theorem rplace_any (w : World) (A B : Option Addr) (n cap m capm : Nat) (cs : List Co) (v : Int) (hn' : n ≤ maxLen) (hn : n = cs.length) (hA : Lay w w.heap.size A (colV cs)) :
    Calls Tryz.prog 23 #[.agg #[.slice A n cap, .slice B m capm], .int .i64 v] w fun e w' => e = .returned (.tuple #[.int .i64 (coFind (fun c => decide (c.1 = v)) cs).1, .bool (coFind (fun c => decide (c.1 = v)) cs).2]) ∧ Below w.heap.size w w' := by
 unfold maxLen at hn'; obtain ⟨X, hX⟩ : ∃ X, X = w.alloc (.cells #[.slice A n cap, .slice B m capm] 28) := ⟨_, rfl⟩
 have bX : Below w.heap.size w X := by rw [hX]; exact (Below.refl _ w).alloc (Nat.le_refl _) _
 have qX : X.heap[w.heap.size]? = some (.cells #[.slice A n cap, .slice B m capm] 28 (0, 0)) := by rw [hX]; exact block_new _ _
 have lA : Lay X X.heap.size A (colV cs) := (hA.below bX).more bX.size
 have HA := Lib.hid lA; have HN := Lib.hid hn; have BX := Lib.hid bX; have QX := Lib.hid qX
 clear hA hn bX qX lA
 go_enter Tryz.func23, Tryz.ntmps23
 go_wp2_with fail
 rw [← hX]; clear hX
 go_loopw [6] (fun id wr => ∃ k : Nat, k ≤ n ∧ id = .int .i64 k ∧ Below X.heap.size X wr ∧ ∀ (j : Nat) x, j < k → cs[j]? = some x → (fun c => decide (c.1 = v)) x = false) (fun id _ => n - (RowKit.intOf id).toNat)
 case atStart => exact ⟨0, by omega, rfl, Below.refl _ _, fun j c h => absurd h (by omega)⟩
 case round =>
  obtain ⟨k, hk, rfl, hb, hp⟩ := hrel; have HP := Lib.hid hp; have q0 := cell_of_block (i := 0) (block_kept QX.out hb) rfl; clear hp
  by_cases hlk : k < n
  · have hki : (k : Int) < n := by omega
    obtain ⟨x, hx⟩ : ∃ x, cs[k]? = some x := ⟨_, List.getElem?_eq_getElem (by rw [← HN.out]; omega)⟩; obtain ⟨i0, s0, ⟨k0, u0⟩, n0, m0, t0⟩ := x; obtain ⟨g, o, rfl, hg, h1, h2, h3, h4, h5, h6, h7⟩ := HA.out.co hx; have g1 := (hb.cell hg).trans h1; have g2 := (hb.cell hg).trans h2; simp only at g1 g2
    have HX := Lib.hid hx; have HB := Lib.hid hb
    clear hx hb h1 h2 h3 h4 h5 h6 h7; have _ := True.intro
    by_cases hpx : i0 = v
    · have HR := Lib.hid (coFind_at (p := (fun c => decide (c.1 = v))) HX.out HP.out (decide_eq_true hpx))
      have e1 : (i0 == v) = true := by simpa using hpx
      clear hpx
      go_wp2_with fail
      all_goals (try go_quiet (fail))
      all_goals (go_wp2_with fail)
      all_goals go_ret2
      all_goals exact ⟨by rw [HR.out]; rfl, BX.out.trans ((ms_drewN HB.out 0).mono BX.out.size)⟩
    · have HPX := Lib.hid (decide_eq_false hpx)
      have e1 : (i0 == v) = false := by simpa using hpx
      clear hpx
      go_wp2_with fail
      all_goals (try go_quiet (fail))
      all_goals (go_wp2_with fail)
      go_roundw
      case rel =>
       refine ⟨k + 1, by omega, by go_num, ms_drewN HB.out 0, fun j y hj hy => ?_⟩
       by_cases e : j = k
       · subst e; rw [HX.out] at hy
         cases hy
         exact HPX.out
       · exact HP.out j y (by omega) hy
      case measure => simp [RowKit.intOf]; omega
  · have hki : ¬ (k : Int) < n := by omega
    have HR := Lib.hid (coFind_none (p := (fun c => decide (c.1 = v))) (l := cs) (fun j x hx => HP.out j x (by have := (List.getElem?_eq_some_iff.1 hx).1; have := HN.out; omega) hx)); have HB := Lib.hid hb; clear hb
    go_wp2_with fail
    go_ret2
    exact ⟨by rw [HR.out]; rfl, BX.out.trans (HB.out.mono BX.out.size)⟩
set_option maxRecDepth 100000 in
set_option maxHeartbeats 2000000 in
theorem rnamed_any (w : World) (A B : Option Addr) (n cap m capm : Nat) (cs : List Co) (v : ByteArray) (hn' : n ≤ maxLen) (hn : n = cs.length) (hA : Lay w w.heap.size A (colV cs)) :
    Calls Tryz.prog 24 #[.agg #[.slice A n cap, .slice B m capm], .string v] w fun e w' => e = .returned (.tuple #[.int .i64 (coFind (fun c => decide (c.2.1 = v)) cs).1, .bool (coFind (fun c => decide (c.2.1 = v)) cs).2]) ∧ Below w.heap.size w w' := by
 unfold maxLen at hn'; obtain ⟨X, hX⟩ : ∃ X, X = w.alloc (.cells #[.slice A n cap, .slice B m capm] 28) := ⟨_, rfl⟩
 have bX : Below w.heap.size w X := by rw [hX]; exact (Below.refl _ w).alloc (Nat.le_refl _) _
 have qX : X.heap[w.heap.size]? = some (.cells #[.slice A n cap, .slice B m capm] 28 (0, 0)) := by rw [hX]; exact block_new _ _
 have lA : Lay X X.heap.size A (colV cs) := (hA.below bX).more bX.size
 have HA := Lib.hid lA; have HN := Lib.hid hn; have BX := Lib.hid bX; have QX := Lib.hid qX
 clear hA hn bX qX lA
 go_enter Tryz.func24, Tryz.ntmps24
 go_wp2_with fail
 rw [← hX]; clear hX
 go_loopw [6] (fun id wr => ∃ k : Nat, k ≤ n ∧ id = .int .i64 k ∧ Below X.heap.size X wr ∧ ∀ (j : Nat) x, j < k → cs[j]? = some x → (fun c => decide (c.2.1 = v)) x = false) (fun id _ => n - (RowKit.intOf id).toNat)
 case atStart => exact ⟨0, by omega, rfl, Below.refl _ _, fun j c h => absurd h (by omega)⟩
 case round =>
  obtain ⟨k, hk, rfl, hb, hp⟩ := hrel; have HP := Lib.hid hp; have q0 := cell_of_block (i := 0) (block_kept QX.out hb) rfl; clear hp
  by_cases hlk : k < n
  · have hki : (k : Int) < n := by omega
    obtain ⟨x, hx⟩ : ∃ x, cs[k]? = some x := ⟨_, List.getElem?_eq_getElem (by rw [← HN.out]; omega)⟩; obtain ⟨i0, s0, ⟨k0, u0⟩, n0, m0, t0⟩ := x; obtain ⟨g, o, rfl, hg, h1, h2, h3, h4, h5, h6, h7⟩ := HA.out.co hx; have g1 := (hb.cell hg).trans h1; have g2 := (hb.cell hg).trans h2; simp only at g1 g2
    have HX := Lib.hid hx; have HB := Lib.hid hb
    clear hx hb h1 h2 h3 h4 h5 h6 h7; have hq := str_beq s0 v
    by_cases hpx : s0 = v
    · have HR := Lib.hid (coFind_at (p := (fun c => decide (c.2.1 = v))) HX.out HP.out (decide_eq_true hpx)); rw [decide_eq_true hpx] at hq; clear hpx
      go_wp2_with fail
      all_goals (try go_quiet (fail))
      all_goals (go_wp2_with fail)
      all_goals go_ret2
      all_goals exact ⟨by rw [HR.out]; rfl, BX.out.trans ((ms_drewN HB.out 0).mono BX.out.size)⟩
    · have HPX := Lib.hid (decide_eq_false hpx); rw [decide_eq_false hpx] at hq; clear hpx
      go_wp2_with fail
      all_goals (try go_quiet (fail))
      all_goals (go_wp2_with fail)
      go_roundw
      case rel =>
       refine ⟨k + 1, by omega, by go_num, ms_drewN HB.out 0, fun j y hj hy => ?_⟩
       by_cases e : j = k
       · subst e; rw [HX.out] at hy
         cases hy
         exact HPX.out
       · exact HP.out j y (by omega) hy
      case measure => simp [RowKit.intOf]; omega
  · have hki : ¬ (k : Int) < n := by omega
    have HR := Lib.hid (coFind_none (p := (fun c => decide (c.2.1 = v))) (l := cs) (fun j x hx => HP.out j x (by have := (List.getElem?_eq_some_iff.1 hx).1; have := HN.out; omega) hx)); have HB := Lib.hid hb; clear hb
    go_wp2_with fail
    go_ret2
    exact ⟨by rw [HR.out]; rfl, BX.out.trans (HB.out.mono BX.out.size)⟩
end Go.Proofs.YthlinmkengoliaaGreatDoor
