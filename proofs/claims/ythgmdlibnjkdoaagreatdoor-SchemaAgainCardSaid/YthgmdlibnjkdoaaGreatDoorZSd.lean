/- Schemas: kinds' words, and where a word stands. -/
import Derived.Test.YthgmdlibnjkdoaaGreatDoorZIt
import Derived.Test.YthgmdlibnjkdoaaGreatDoorZSa2
set_option linter.unusedVariables false
set_option linter.unusedSimpArgs false
namespace Go.Ms
open Go.RowKit Go.Lib
def strV (l : List ByteArray) : List Value := l.map Value.string
theorem Lay.strs {w : World} {B : Nat} {A : Option Addr} {l : List ByteArray} {i : Nat} {p : ByteArray} (h : Lay w B A (strV l)) (hi : l[i]? = some p) :
    ∃ g o, A = some ⟨g, o, none⟩ ∧ g < B ∧ w.cell? ⟨g, o + i, none⟩ = some (.string p) := by
  have h1 : (strV l)[i]? = some (.string p) := by simp [strV, hi]
  have hl : i < l.length := (List.getElem?_eq_some_iff.1 hi).1
  obtain ⟨g, o, e, hb, hc⟩ := h.some_ (by simp [strV]; omega)
  exact ⟨g, o, e, hb, hc _ _ h1⟩
theorem str_beq (s t : ByteArray) : (s.toList == t.toList) = decide (s = t) := by
  rw [Lib.toList_data, Lib.toList_data]
  by_cases h : s = t
  · subst h; simp
  · rw [decide_eq_false h, beq_eq_false_iff_ne]
    intro e
    apply h
    cases s; cases t
    simp only [Array.toList_inj] at e
    rw [e]
end Go.Ms
namespace Go.Proofs.YthgmdlibnjkdoaaGreatDoor
open Go.RowKit Go.Ms Go.Lib
theorem words_any (w : World) : Calls Tryz.prog 55 #[] w fun e w' => e = .returned (.slice (some ⟨w.heap.size, 0, none⟩) 6 6) ∧ w.alloc (.cells (strV wordsL).toArray 9) = w' := by
  go_enter Tryz.func55, Tryz.ntmps55
  go_wp2_with fail
  go_ret
  exact ⟨rfl, rfl⟩
set_option maxRecDepth 100000 in
set_option maxHeartbeats 1000000 in
theorem idxstr_any (w : World) (A : Option Addr) (n cap : Nat) (l : List ByteArray) (S : ByteArray) (hn' : n ≤ maxLen) (hn : n = l.length) (hA : Lay w w.heap.size A (strV l)) :
    Calls Tryz.prog 101 #[.slice A n cap, .string S] w fun e w' => e = .returned (.int .i64 (idxL (fun t => decide (S = t)) l)) ∧ Below w.heap.size w w' := by
  unfold maxLen at hn'
  have HA := Lib.hid hA; have HN := Lib.hid hn
  clear hA hn
  go_enter Tryz.func101, Tryz.ntmps101
  go_wp2_with fail
  go_loopw [8] (fun id wr => ∃ k : Nat, k ≤ n ∧ id = .int .i64 k ∧ Below w.heap.size w wr ∧ ∀ (j : Nat) x, j < k → l[j]? = some x → (fun t => decide (S = t)) x = false) (fun id _ => n - (RowKit.intOf id).toNat)
  case atStart => exact ⟨0, by omega, rfl, Below.refl _ _, fun j c h => absurd h (by omega)⟩
  case round =>
    obtain ⟨k, hk, rfl, hb, hp⟩ := hrel
    have HP := Lib.hid hp
    clear hp
    by_cases hlk : k < n
    · have hki : (k : Int) < n := by omega
      obtain ⟨x, hx⟩ : ∃ x, l[k]? = some x := ⟨_, List.getElem?_eq_getElem (by rw [← HN.out]; omega)⟩
      obtain ⟨g, o, rfl, hg, h1⟩ := HA.out.strs hx
      have g1 := (hb.cell hg).trans h1
      have hq := str_beq S x
      have HX := Lib.hid hx; have HB := Lib.hid hb
      clear hx hb h1
      cases hpx : decide (S = x) with
      | true =>
        have HR := Lib.hid (idxL_at (p := fun t => decide (S = t)) HX.out HP.out hpx)
        rw [hpx] at hq
        clear hpx
        go_wp2_with fail
        go_ret
        exact ⟨congrArg (fun i => Ending.returned (.int .i64 i)) HR.out.symm, HB.out⟩
      | false =>
        have HPX := Lib.hid hpx
        rw [hpx] at hq
        clear hpx
        go_wp2_with fail
        go_roundw
        case rel =>
          refine ⟨k + 1, by omega, by go_num, HB.out, fun j y hj hy => ?_⟩
          by_cases e : j = k
          · subst e
            rw [HX.out] at hy
            cases hy
            exact HPX.out
          · exact HP.out j y (by omega) hy
        case measure => simp [RowKit.intOf]; omega
    · have hki : ¬ (k : Int) < n := by omega
      have HR := Lib.hid (idxL_none (p := fun t => decide (S = t)) (l := l) (fun j x hx => HP.out j x (by have := (List.getElem?_eq_some_iff.1 hx).1; have := HN.out; omega) hx))
      have HB := Lib.hid hb
      clear hb
      go_wp2_with fail
      go_ret
      exact ⟨congrArg (fun i => Ending.returned (.int .i64 i)) HR.out.symm, HB.out⟩
end Go.Proofs.YthgmdlibnjkdoaaGreatDoor
