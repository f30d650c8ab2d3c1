import Derived.Test.YtnjljcgapijadaaDoorR1
set_option linter.unusedVariables false
namespace Go.Proofs.YtnjljcgapijadaaDoor
open Go.RowKit Go.Ms Go.Lib

theorem numberD_bd (l : Bs) : 0 ≤ numberD l ∧ numberD l ≤ 2097151 := by
  have h0 := bt_lt l 0; have h1 := bt_lt l 1; have h2 := bt_lt l 2; have h3 := bt_lt l 3
  unfold numberD
  repeat' split
  all_goals omega

set_option maxHeartbeats 400000 in
theorem rnext_any (s : ByteArray) (w : World) (hs : s.size ≤ 1000000) :
    Calls Tryd.prog 14 #[.string s] w fun e w' => e = .returned (.tuple #[.int .i32 (nextD s.data.toList).1, .int .i64 (nextD s.data.toList).2.1, .bool (nextD s.data.toList).2.2]) ∧ Below w.heap.size w w' := by
  have hlen : s.data.toList.length = s.size := by simp
  go_enter Tryd.func14, Tryd.ntmps14
  go_wp2
  go_loopw [5] (fun i wr => ∃ k : Nat, 1 ≤ k ∧ k ≤ 5 ∧ k ≤ s.size + 1 ∧ i = .int .i64 k ∧ Hid (∀ n, 1 ≤ n → n < k → Ms.hit s.data.toList n = false) ∧ Below w.heap.size w wr)
               (fun i _ => 5 - (RowKit.intOf i).toNat)
  case atStart => exact ⟨1, by omega, by omega, by omega, rfl, fun n a b => by omega, Below.refl _ _⟩
  case round =>
    obtain ⟨k, h1, h5, hk, rfl, hno, hb⟩ := hrel
    by_cases hlt : k ≤ 4 ∧ k ≤ s.size
    · obtain ⟨h4, hks⟩ := hlt
      have hsz : (s.extract 0 k).size = k := by simp; omega
      have hbd := numberD_bd (s.data.toList.take k)
      have hext : (s.extract 0 k).toList = s.data.toList.take k := by rw [Lib.toList_data, ext_list]; simp
      have Hext := Lib.hid hext
      clear hext
      go_wp2_with (go_at_call 31; refine (number_any _ _ (by rw [hsz]; omega) (by rw [hsz]; omega)).mono ?_; rintro e w' ⟨rfl, rfl⟩)
      refine (rput_any _ (by omega) (by omega) _).mono ?_
      rintro e w' ⟨rfl, hb1⟩
      go_wp2_with fail
      · have e1 : isRune (numberD (List.take k s.data.toList)) = true := by assumption
        have e2 : (put (numberD (List.take k s.data.toList)) == (s.extract 0 k).toList) = true := by assumption
        rw [Hext.out] at e2
        have hh := hit_next s.data.toList k (by omega) (by unfold Ms.hit; rw [e1, e2]; rfl)
        go_ret3
        rw [hh]
        exact ⟨ret3n (isRune_nat e1).symm rfl rfl, hb.trans (hb1.mono hb.size)⟩
      all_goals
        go_roundw
        case rel =>
          refine ⟨k + 1, by omega, by omega, by omega, by go_num, fun n a b => ?_, hb.trans (hb1.mono hb.size)⟩
          by_cases hn : n = k
          · subst hn
            unfold Ms.hit
            first
            | (have e2 : (put (numberD (List.take n s.data.toList)) == (s.extract 0 n).toList) = false := by assumption
               rw [Hext.out] at e2; rw [e2]; simp)
            | (have e1 : ¬ isRune (numberD (List.take n s.data.toList)) = true := by assumption
               rw [Bool.eq_false_iff.2 e1]; rfl)
          · exact hno.out n a (by omega)
        case measure => simp [RowKit.intOf]; omega
    · have hnn := no_hit s.data.toList (fun n a b c => hno.out n a (by omega))
      have Hnn := Lib.hid hnn
      clear hnn
      have hl2 : (5 : Nat) ≤ k ∨ s.size < k := by omega
      rcases hl2 with hl2 | hl2
      · have hl3 : ¬ ((k : Int) ≤ 4) := by omega
        go_wp2_with fail
        go_ret3
        rw [Hnn.out]
        exact ⟨rfl, hb⟩
      · have hl3 : ¬ (k : Int) ≤ (s.size : Int) := by omega
        go_wp2_with fail
        all_goals
          go_ret3
          rw [Hnn.out]
          exact ⟨rfl, hb⟩
end Go.Proofs.YtnjljcgapijadaaDoor
