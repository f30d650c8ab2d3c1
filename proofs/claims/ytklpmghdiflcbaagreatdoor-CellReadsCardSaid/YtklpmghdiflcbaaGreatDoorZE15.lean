/- Cells: what is checked, at nothing; whole. -/
import Derived.Test.YtklpmghdiflcbaaGreatDoorZE14
set_option linter.unusedVariables false
namespace Go.Proofs.YtklpmghdiflcbaaGreatDoor
open Go.RowKit Go.Ms Go.Lib

theorem check_none (k : Int) (hk : kMay k = false) (tn nu : Bool) (n : Int) (S : ByteArray) (w : World) :
    Calls Tryz.prog 23 #[.agg #[.int .i64 k, .bool tn], .agg #[.bool nu, .int .i64 n, .string S]] w fun e w' => e = .returned (.int .i64 2) ∧ Below w.heap.size w w' := by
  have cm := fun w' => may_any k tn w'
  rw [hk] at cm
  have b0 := Box2.start w #[.int .i64 k, .bool tn] #[.bool nu, .int .i64 n, .string S] 23 25
  have HB0 := Lib.hid b0; have CM := Lib.hid cm
  clear b0 cm hk
  go_enter Tryz.func23, Tryz.ntmps23
  go_wp2_with fail
  refine (CM.out _).mono ?_
  rintro en w1 ⟨rfl, b1⟩
  go_wp2_with fail
  go_ret
  exact ⟨rfl, (HB0.out.step b1).bel⟩
set_option maxRecDepth 100000 in
theorem check_null (k : Int) (hk : kMay k = true) (tn : Bool) (n : Int) (S : ByteArray) (w : World) :
    Calls Tryz.prog 23 #[.agg #[.int .i64 k, .bool tn], .agg #[.bool true, .int .i64 n, .string S]] w fun e w' => e = .returned (.int .i64 (if (tn && decide (n = 0) && decide (S.data.toList = [])) = true then 0 else 90)) ∧ Below w.heap.size w w' := by
  have cm := fun w' => may_any k tn w'
  rw [hk] at cm
  have b0 := Box2.start w #[.int .i64 k, .bool tn] #[.bool true, .int .i64 n, .string S] 23 25
  have HB0 := Lib.hid b0; have CM := Lib.hid cm
  clear b0 cm hk
  cases tn with
  | false =>
    simp only [Bool.false_and, Bool.false_eq_true, if_false]
    go_enter Tryz.func23, Tryz.ntmps23
    go_wp2_with fail
    refine (CM.out _).mono ?_
    rintro en w1 ⟨rfl, b1⟩
    have x1 := HB0.out.step b1
    obtain ⟨c1, c2, c3, c4, c5⟩ := x1.tc
    have HX1 := Lib.hid x1
    clear x1 b1
    go_wp2_with fail
    go_ret
    exact ⟨rfl, HX1.out.bel⟩
  | true =>
    by_cases hn : n = 0
    · subst hn
      by_cases hS : S.data.toList = []
      · obtain rfl : S = ⟨#[]⟩ := ba_ext hS
        simp only [decide_true, Bool.and_true, if_true]
        go_enter Tryz.func23, Tryz.ntmps23
        go_wp2_with fail
        refine (CM.out _).mono ?_
        rintro en w1 ⟨rfl, b1⟩
        have x1 := HB0.out.step b1
        obtain ⟨c1, c2, c3, c4, c5⟩ := x1.tc
        have HX1 := Lib.hid x1
        clear x1 b1
        go_wp2_with fail
        go_quiet (fail)
        go_wp2_with fail
        go_ret
        exact ⟨rfl, below_drewN HX1.out.bel _⟩
      · have e1 : (S.toList == []) = false := by rw [Lib.toList_data]; simpa using hS
        have e2 : ¬ S.toList = [] := by rw [Lib.toList_data]; exact hS
        have e3 : S.toList.isEmpty = false := by rw [Lib.toList_data]; simpa using hS
        rw [if_neg (by simp [hS])]
        clear hS
        go_enter Tryz.func23, Tryz.ntmps23
        go_wp2_with fail
        refine (CM.out _).mono ?_
        rintro en w1 ⟨rfl, b1⟩
        have x1 := HB0.out.step b1
        obtain ⟨c1, c2, c3, c4, c5⟩ := x1.tc
        have HX1 := Lib.hid x1
        clear x1 b1
        go_wp2_with fail
        go_ret
        exact ⟨rfl, HX1.out.bel⟩
    · have e1 : (n == 0) = false := by simpa using hn
      rw [if_neg (by simp [hn])]
      clear hn
      go_enter Tryz.func23, Tryz.ntmps23
      go_wp2_with fail
      refine (CM.out _).mono ?_
      rintro en w1 ⟨rfl, b1⟩
      have x1 := HB0.out.step b1
      obtain ⟨c1, c2, c3, c4, c5⟩ := x1.tc
      have HX1 := Lib.hid x1
      clear x1 b1
      go_wp2_with fail
      go_ret
      exact ⟨rfl, HX1.out.bel⟩
theorem kcheck_any (k : Int) (tn nu : Bool) (n : Int) (S : ByteArray) (w : World) (hs : S.size ≤ 100000) (hE : Env w) :
    Calls Tryz.prog 23 #[.agg #[.int .i64 k, .bool tn], .agg #[.bool nu, .int .i64 n, .string S]] w fun e w' => e = .returned (.int .i64 (kCheck k tn nu n S.data.toList)) ∧ Below w.heap.size w w' := by
  unfold kCheck
  cases hk : kMay k with
  | false => rw [if_neg (by simp)]; exact check_none k hk tn nu n S w
  | true =>
    rw [if_pos rfl]
    cases nu with
    | true => exact check_null k hk tn n S w
    | false =>
      have hko : kOk k tn false n S.data.toList = kIs k n S.data.toList := by simp [kOk]
      rw [hko]
      rcases may_cases hk with rfl | rfl | rfl | rfl | rfl
      · exact check_s1 tn n S w hs hE
      · exact check_s2 tn n S w hs hE
      · exact check_s3 tn n S w hs hE
      · exact check_s4 tn n S w hs hE
      · exact check_s5 tn n S w hs hE
end Go.Proofs.YtklpmghdiflcbaaGreatDoor
