/- CellWider: the walk. CellBits: the walk. -/
import Derived.Test.YtcdmiiaamajfoaaGreatDoorZGa
import Derived.Deep.RegionHeld3
import Derived.Test.YtcdmiiaamajfoaaGreatDoorZF6
set_option linter.unusedVariables false
namespace Go.Ms
open Go.Lib
theorem zero_ok {k : Int} (tn : Bool) (hk : kMay k = true) : kCheck k tn tn 0 [] = 0 := by
  refine check_of hk ?_
  cases tn with
  | true => rfl
  | false => rcases may_cases hk with rfl | rfl | rfl | rfl | rfl <;> rfl
theorem check_wide (tn : Bool) {n : Int} (h0 : -9223372036854775808 ≤ n) (h1 : n ≤ 9223372036854775807) : kCheck 3 tn false n [] = 0 :=
  check_of rfl (by simp [kOk, kIs, h0, h1])
theorem check_small (tn : Bool) {n : Int} (h0 : -2147483648 ≤ n) (h1 : n ≤ 2147483647) : kCheck 2 tn false n [] = 0 :=
  check_of rfl (by simp [kOk, kIs, h0, h1])
theorem check_big (tn : Bool) {n : Int} (h : ¬ (-2147483648 ≤ n ∧ n ≤ 2147483647)) : kCheck 2 tn false n [] = 90 := by
  unfold kCheck
  rw [if_pos (show kMay 2 = true by decide), if_neg]
  simp only [kOk, kIs, Bool.false_eq_true, if_false, show ¬ (2 : Int) = 1 by decide, if_true, decide_true, Bool.true_and, Bool.and_eq_true, decide_eq_true_iff]
  exact h
theorem check_none2 {k : Int} (hk : kMay k = false) (tn nu : Bool) (n : Int) (s : Bs) : kCheck k tn nu n s = 2 := by unfold kCheck; rw [if_neg (by simp [hk])]
end Go.Ms
namespace Go.Proofs.YtcdmiiaamajfoaaGreatDoor
open Go.RowKit Go.Ms Go.Lib
theorem cfield0 (x0 x1 x2 : Value) (w : World) : (Instr.field 23 (.agg #[x0, x1, x2]) 0).run Tryz.prog w = .ok x0 w := by kernel_rfl

set_option maxRecDepth 100000 in
set_option maxHeartbeats 4000000 in
theorem wider_sm (k : Int) (tn : Bool) (n : Int) (w : World) (hE : Env w) (b0 : -9223372036854775808 ≤ n) (b1 : n ≤ 9223372036854775807) (h1 : -2147483648 ≤ n) (h2 : n < 2147483648) (hk : kMay k = true) :
    Calls Tryz.prog 27 #[.agg #[.int .i64 k, .bool tn], .int .i64 n] w fun e w' => e = .returned (.bool true) ∧ Below w.heap.size w w' := by
  obtain ⟨Y, hY⟩ : ∃ Y : ByteArray, (⟨(kBitsD 3 tn false n []).toArray⟩ : ByteArray) = Y := ⟨_, rfl⟩
  obtain ⟨Q, hQ⟩ : ∃ Q : ByteArray, (⟨(kTextD 3 tn false n []).toArray⟩ : ByteArray) = Q := ⟨_, rfl⟩
  have cb3 : ∀ w', Env w' → Calls Tryz.prog 56 #[.agg #[.int .i64 3, .bool tn], .agg #[.bool false, .int .i64 n, .string ⟨#[]⟩]] w' fun e w'' => e = .returned (.tuple #[.string Y, .int .i64 0]) ∧ Below w'.heap.size w' w'' := by
    intro w' hE'
    have h := kbits_any 3 tn false n ⟨#[]⟩ w' (by decide) hE'
    have hc : kCheck 3 tn false n (⟨#[]⟩ : ByteArray).data.toList = 0 := check_wide tn b0 b1
    rw [hc] at h
    have h2 : (⟨(kBitsD 3 tn false n (⟨#[]⟩ : ByteArray).data.toList).toArray⟩ : ByteArray) = Y := hY
    rw [h2] at h
    exact h
  have ct3 : ∀ w', Env w' → Calls Tryz.prog 82 #[.agg #[.int .i64 3, .bool tn], .agg #[.bool false, .int .i64 n, .string ⟨#[]⟩]] w' fun e w'' => e = .returned (.tuple #[.string Q, .int .i64 0]) ∧ Below w'.heap.size w' w'' := by
    intro w' hE'
    have h := ktext_any 3 tn false n ⟨#[]⟩ w' (by decide) hE'
    have hc : kCheck 3 tn false n (⟨#[]⟩ : ByteArray).data.toList = 0 := check_wide tn b0 b1
    rw [hc] at h
    have h2 : (⟨(kTextD 3 tn false n (⟨#[]⟩ : ByteArray).data.toList).toArray⟩ : ByteArray) = Q := hQ
    rw [h2] at h
    exact h
  have cb2 : ∀ w', Env w' → Calls Tryz.prog 56 #[.agg #[.int .i64 2, .bool tn], .agg #[.bool false, .int .i64 n, .string ⟨#[]⟩]] w' fun e w'' => e = .returned (.tuple #[.string Y, .int .i64 0]) ∧ Below w'.heap.size w' w'' := by
    intro w' hE'
    have h := kbits_any 2 tn false n ⟨#[]⟩ w' (by decide) hE'
    have hc : kCheck 2 tn false n (⟨#[]⟩ : ByteArray).data.toList = 0 := check_small tn h1 (by omega)
    rw [hc] at h
    have h2 : (⟨(kBitsD 2 tn false n (⟨#[]⟩ : ByteArray).data.toList).toArray⟩ : ByteArray) = Y := by
      rw [← hY]
      have e : kBitsD 2 tn false n (⟨#[]⟩ : ByteArray).data.toList = kBitsD 3 tn false n [] := by
        unfold kBitsD
        rw [if_pos hc, if_pos (check_wide tn b0 b1)]
        rfl
      rw [e]
    rw [h2] at h
    exact h
  have ct2 : ∀ w', Env w' → Calls Tryz.prog 82 #[.agg #[.int .i64 2, .bool tn], .agg #[.bool false, .int .i64 n, .string ⟨#[]⟩]] w' fun e w'' => e = .returned (.tuple #[.string Q, .int .i64 0]) ∧ Below w'.heap.size w' w'' := by
    intro w' hE'
    have h := ktext_any 2 tn false n ⟨#[]⟩ w' (by decide) hE'
    have hc : kCheck 2 tn false n (⟨#[]⟩ : ByteArray).data.toList = 0 := check_small tn h1 (by omega)
    rw [hc] at h
    have h2 : (⟨(kTextD 2 tn false n (⟨#[]⟩ : ByteArray).data.toList).toArray⟩ : ByteArray) = Q := by
      rw [← hQ]
      have e : kTextD 2 tn false n (⟨#[]⟩ : ByteArray).data.toList = kTextD 3 tn false n [] := by
        unfold kTextD
        rw [if_pos hc, if_pos (check_wide tn b0 b1)]
        rfl
      rw [e]
    rw [h2] at h
    exact h
  have cm := fun w' => may_any k tn w'
  have cz := fun w' => zero_any k tn w'
  rw [hk] at cm cz
  simp only [Bool.true_and] at cz
  have cc : ∀ w', Env w' → Calls Tryz.prog 83 #[.agg #[.int .i64 k, .bool tn], .agg #[.bool tn, .int .i64 0, .string ⟨#[]⟩]] w' fun e w'' => e = .returned (.int .i64 0) ∧ Below w'.heap.size w' w'' := by
    intro w' hE'
    have h := kcheck_any k tn tn 0 ⟨#[]⟩ w' (by decide) hE'
    have hc : kCheck k tn tn 0 (⟨#[]⟩ : ByteArray).data.toList = 0 := zero_ok tn hk
    rw [hc] at h
    exact h
  have x0 := TBx.start w k tn false n ⟨#[]⟩
  have kf := cfield0
  have hw := fun w' (hE' : Env w') => kworks_any w' hE'
  have CB2 := Lib.hid cb2; have CB3 := Lib.hid cb3; have CT2 := Lib.hid ct2; have CT3 := Lib.hid ct3; have CM := Lib.hid cm; have CZ := Lib.hid cz; have CC := Lib.hid cc; have CW := Lib.hid hw; have X0 := Lib.hid x0; have HE := Lib.hid hE
  clear cb2 cb3 ct2 ct3 cm cz cc hw x0 hE hY hQ hk
  go_enter Tryz.func27, Tryz.ntmps27
  go_wp2_with fail
  refine (CB2.out _ (HE.out.below X0.out.bel)).mono ?_
  rintro en w1 ⟨rfl, bb1⟩
  have x1 := X0.out.step bb1
  obtain ⟨d0, d1, a0, a1, a2, f0, f1, f2, l0, l1⟩ := x1.cells
  have X1 := Lib.hid x1
  clear x1 bb1
  go_wp2_with fail
  refine (CB3.out _ (HE.out.below X1.out.bel)).mono ?_
  rintro en w2 ⟨rfl, bb2⟩
  have x2 := X1.out.step bb2
  clear d0 d1 a0 a1 a2 f0 f1 f2 l0 l1
  obtain ⟨d0, d1, a0, a1, a2, f0, f1, f2, l0, l1⟩ := x2.cells
  have X2 := Lib.hid x2
  clear x2 bb2
  go_wp2_with fail
  refine (CT2.out _ (HE.out.below X2.out.bel)).mono ?_
  rintro en w3 ⟨rfl, bb3⟩
  have x3 := X2.out.step bb3
  clear d0 d1 a0 a1 a2 f0 f1 f2 l0 l1
  obtain ⟨d0, d1, a0, a1, a2, f0, f1, f2, l0, l1⟩ := x3.cells
  have X3 := Lib.hid x3
  clear x3 bb3
  go_wp2_with fail
  refine (CT3.out _ (HE.out.below X3.out.bel)).mono ?_
  rintro en w4 ⟨rfl, bb4⟩
  have x4 := X3.out.step bb4
  clear d0 d1 a0 a1 a2 f0 f1 f2 l0 l1
  obtain ⟨d0, d1, a0, a1, a2, f0, f1, f2, l0, l1⟩ := x4.cells
  have X4 := Lib.hid x4
  clear x4 bb4
  go_wp2_with fail
  refine (CM.out _).mono ?_
  rintro en w5 ⟨rfl, bb5⟩
  have x5 := X4.out.step bb5
  clear d0 d1 a0 a1 a2 f0 f1 f2 l0 l1
  obtain ⟨d0, d1, a0, a1, a2, f0, f1, f2, l0, l1⟩ := x5.cells
  have X5 := Lib.hid x5
  have hD : (w5.drew.cell? ⟨w.heap.size, 0, none⟩ = some (.int .i64 k) ∧ w5.drew.cell? ⟨w.heap.size, 1, none⟩ = some (.bool tn)) ∧ Below w5.heap.size w5 w5.drew := ⟨⟨d0, d1⟩, ms_drewN (Below.refl _ _) 1⟩
  have HD := Lib.hid hD
  clear x5 bb5 hD
  go_wp2_with fail
  go_region_held3 (fun w' => (w'.cell? ⟨w.heap.size, 0, none⟩ = some (.int .i64 k) ∧ w'.cell? ⟨w.heap.size, 1, none⟩ = some (.bool tn)) ∧ Below w5.heap.size w5 w')
    (first
      | exact HD.out
      | exact keep2 HD.out bb
      | exact keep2 (by assumption) bb
      | (go_keep; done))
    ((first | ((with_reducible refine (CZ.out _).mono ?_); rintro en w6 ⟨rfl, bb⟩) | ((with_reducible refine (CC.out _ ?_).mono ?_); exact HE.out.below (endTC X5.out.bel X5.out.bel.size (by assumption)); rintro en w7 ⟨rfl, bb⟩) | ((with_reducible refine (CW.out _ ?_).mono ?_); exact HE.out.below (endTC X5.out.bel X5.out.bel.size (by assumption)); rintro en w8 ⟨rfl, bb⟩)))
  all_goals
    go_wp2_with fail
    go_ret
    exact ⟨rfl, endTC X5.out.bel X5.out.bel.size (by assumption)⟩
set_option maxRecDepth 100000 in
set_option maxHeartbeats 4000000 in
theorem wider_sn (k : Int) (tn : Bool) (n : Int) (w : World) (hE : Env w) (b0 : -9223372036854775808 ≤ n) (b1 : n ≤ 9223372036854775807) (h1 : -2147483648 ≤ n) (h2 : n < 2147483648) (hk : kMay k = false) :
    Calls Tryz.prog 27 #[.agg #[.int .i64 k, .bool tn], .int .i64 n] w fun e w' => e = .returned (.bool true) ∧ Below w.heap.size w w' := by
  obtain ⟨Y, hY⟩ : ∃ Y : ByteArray, (⟨(kBitsD 3 tn false n []).toArray⟩ : ByteArray) = Y := ⟨_, rfl⟩
  obtain ⟨Q, hQ⟩ : ∃ Q : ByteArray, (⟨(kTextD 3 tn false n []).toArray⟩ : ByteArray) = Q := ⟨_, rfl⟩
  have cb3 : ∀ w', Env w' → Calls Tryz.prog 56 #[.agg #[.int .i64 3, .bool tn], .agg #[.bool false, .int .i64 n, .string ⟨#[]⟩]] w' fun e w'' => e = .returned (.tuple #[.string Y, .int .i64 0]) ∧ Below w'.heap.size w' w'' := by
    intro w' hE'
    have h := kbits_any 3 tn false n ⟨#[]⟩ w' (by decide) hE'
    have hc : kCheck 3 tn false n (⟨#[]⟩ : ByteArray).data.toList = 0 := check_wide tn b0 b1
    rw [hc] at h
    have h2 : (⟨(kBitsD 3 tn false n (⟨#[]⟩ : ByteArray).data.toList).toArray⟩ : ByteArray) = Y := hY
    rw [h2] at h
    exact h
  have ct3 : ∀ w', Env w' → Calls Tryz.prog 82 #[.agg #[.int .i64 3, .bool tn], .agg #[.bool false, .int .i64 n, .string ⟨#[]⟩]] w' fun e w'' => e = .returned (.tuple #[.string Q, .int .i64 0]) ∧ Below w'.heap.size w' w'' := by
    intro w' hE'
    have h := ktext_any 3 tn false n ⟨#[]⟩ w' (by decide) hE'
    have hc : kCheck 3 tn false n (⟨#[]⟩ : ByteArray).data.toList = 0 := check_wide tn b0 b1
    rw [hc] at h
    have h2 : (⟨(kTextD 3 tn false n (⟨#[]⟩ : ByteArray).data.toList).toArray⟩ : ByteArray) = Q := hQ
    rw [h2] at h
    exact h
  have cb2 : ∀ w', Env w' → Calls Tryz.prog 56 #[.agg #[.int .i64 2, .bool tn], .agg #[.bool false, .int .i64 n, .string ⟨#[]⟩]] w' fun e w'' => e = .returned (.tuple #[.string Y, .int .i64 0]) ∧ Below w'.heap.size w' w'' := by
    intro w' hE'
    have h := kbits_any 2 tn false n ⟨#[]⟩ w' (by decide) hE'
    have hc : kCheck 2 tn false n (⟨#[]⟩ : ByteArray).data.toList = 0 := check_small tn h1 (by omega)
    rw [hc] at h
    have h2 : (⟨(kBitsD 2 tn false n (⟨#[]⟩ : ByteArray).data.toList).toArray⟩ : ByteArray) = Y := by
      rw [← hY]
      have e : kBitsD 2 tn false n (⟨#[]⟩ : ByteArray).data.toList = kBitsD 3 tn false n [] := by
        unfold kBitsD
        rw [if_pos hc, if_pos (check_wide tn b0 b1)]
        rfl
      rw [e]
    rw [h2] at h
    exact h
  have ct2 : ∀ w', Env w' → Calls Tryz.prog 82 #[.agg #[.int .i64 2, .bool tn], .agg #[.bool false, .int .i64 n, .string ⟨#[]⟩]] w' fun e w'' => e = .returned (.tuple #[.string Q, .int .i64 0]) ∧ Below w'.heap.size w' w'' := by
    intro w' hE'
    have h := ktext_any 2 tn false n ⟨#[]⟩ w' (by decide) hE'
    have hc : kCheck 2 tn false n (⟨#[]⟩ : ByteArray).data.toList = 0 := check_small tn h1 (by omega)
    rw [hc] at h
    have h2 : (⟨(kTextD 2 tn false n (⟨#[]⟩ : ByteArray).data.toList).toArray⟩ : ByteArray) = Q := by
      rw [← hQ]
      have e : kTextD 2 tn false n (⟨#[]⟩ : ByteArray).data.toList = kTextD 3 tn false n [] := by
        unfold kTextD
        rw [if_pos hc, if_pos (check_wide tn b0 b1)]
        rfl
      rw [e]
    rw [h2] at h
    exact h
  have cm := fun w' => may_any k tn w'
  have cz := fun w' => zero_any k tn w'
  rw [hk] at cm cz
  simp only [Bool.false_and] at cz
  have cc : ∀ w', Env w' → Calls Tryz.prog 83 #[.agg #[.int .i64 k, .bool tn], .agg #[.bool false, .int .i64 n, .string ⟨#[]⟩]] w' fun e w'' => e = .returned (.int .i64 2) ∧ Below w'.heap.size w' w'' := by
    intro w' hE'
    have h := kcheck_any k tn false n ⟨#[]⟩ w' (by decide) hE'
    rw [check_none2 hk] at h
    exact h
  have x0 := TBx.start w k tn false n ⟨#[]⟩
  have kf := cfield0
  have hw := fun w' (hE' : Env w') => kworks_any w' hE'
  have CB2 := Lib.hid cb2; have CB3 := Lib.hid cb3; have CT2 := Lib.hid ct2; have CT3 := Lib.hid ct3; have CM := Lib.hid cm; have CZ := Lib.hid cz; have CC := Lib.hid cc; have CW := Lib.hid hw; have X0 := Lib.hid x0; have HE := Lib.hid hE
  clear cb2 cb3 ct2 ct3 cm cz cc hw x0 hE hY hQ hk
  go_enter Tryz.func27, Tryz.ntmps27
  go_wp2_with fail
  refine (CB2.out _ (HE.out.below X0.out.bel)).mono ?_
  rintro en w1 ⟨rfl, bb1⟩
  have x1 := X0.out.step bb1
  obtain ⟨d0, d1, a0, a1, a2, f0, f1, f2, l0, l1⟩ := x1.cells
  have X1 := Lib.hid x1
  clear x1 bb1
  go_wp2_with fail
  refine (CB3.out _ (HE.out.below X1.out.bel)).mono ?_
  rintro en w2 ⟨rfl, bb2⟩
  have x2 := X1.out.step bb2
  clear d0 d1 a0 a1 a2 f0 f1 f2 l0 l1
  obtain ⟨d0, d1, a0, a1, a2, f0, f1, f2, l0, l1⟩ := x2.cells
  have X2 := Lib.hid x2
  clear x2 bb2
  go_wp2_with fail
  refine (CT2.out _ (HE.out.below X2.out.bel)).mono ?_
  rintro en w3 ⟨rfl, bb3⟩
  have x3 := X2.out.step bb3
  clear d0 d1 a0 a1 a2 f0 f1 f2 l0 l1
  obtain ⟨d0, d1, a0, a1, a2, f0, f1, f2, l0, l1⟩ := x3.cells
  have X3 := Lib.hid x3
  clear x3 bb3
  go_wp2_with fail
  refine (CT3.out _ (HE.out.below X3.out.bel)).mono ?_
  rintro en w4 ⟨rfl, bb4⟩
  have x4 := X3.out.step bb4
  clear d0 d1 a0 a1 a2 f0 f1 f2 l0 l1
  obtain ⟨d0, d1, a0, a1, a2, f0, f1, f2, l0, l1⟩ := x4.cells
  have X4 := Lib.hid x4
  clear x4 bb4
  go_wp2_with fail
  refine (CM.out _).mono ?_
  rintro en w5 ⟨rfl, bb5⟩
  have x5 := X4.out.step bb5
  clear d0 d1 a0 a1 a2 f0 f1 f2 l0 l1
  obtain ⟨d0, d1, a0, a1, a2, f0, f1, f2, l0, l1⟩ := x5.cells
  have X5 := Lib.hid x5
  clear x5 bb5
  go_wp2_with fail
  refine (CZ.out _).mono ?_
  rintro en w6 ⟨rfl, bb6⟩
  have x6 := X5.out.step bb6
  clear d0 d1 a0 a1 a2 f0 f1 f2 l0 l1
  obtain ⟨d0, d1, a0, a1, a2, f0, f1, f2, l0, l1⟩ := x6.cells
  have X6 := Lib.hid x6
  clear x6 bb6
  go_wp2_with fail
  refine (CC.out _ (HE.out.below X6.out.bel)).mono ?_
  rintro en w7 ⟨rfl, bb7⟩
  have x7 := X6.out.step bb7
  clear d0 d1 a0 a1 a2 f0 f1 f2 l0 l1
  obtain ⟨d0, d1, a0, a1, a2, f0, f1, f2, l0, l1⟩ := x7.cells
  have X7 := Lib.hid x7
  clear x7 bb7
  go_wp2_with fail
  refine (CW.out _ (HE.out.below X7.out.bel)).mono ?_
  rintro en w9 ⟨rfl, b9⟩
  go_wp2_with fail
  go_ret
  exact ⟨rfl, X7.out.bel.trans (b9.mono X7.out.bel.size)⟩
set_option maxRecDepth 100000 in
set_option maxHeartbeats 4000000 in
theorem wider_lm (k : Int) (tn : Bool) (n : Int) (w : World) (hE : Env w) (b0 : -9223372036854775808 ≤ n) (b1 : n ≤ 9223372036854775807) (h1 : ¬ -2147483648 ≤ n) (hk : kMay k = true) :
    Calls Tryz.prog 27 #[.agg #[.int .i64 k, .bool tn], .int .i64 n] w fun e w' => e = .returned (.bool true) ∧ Below w.heap.size w w' := by
  obtain ⟨Y, hY⟩ : ∃ Y : ByteArray, (⟨(kBitsD 3 tn false n []).toArray⟩ : ByteArray) = Y := ⟨_, rfl⟩
  obtain ⟨Q, hQ⟩ : ∃ Q : ByteArray, (⟨(kTextD 3 tn false n []).toArray⟩ : ByteArray) = Q := ⟨_, rfl⟩
  have cb3 : ∀ w', Env w' → Calls Tryz.prog 56 #[.agg #[.int .i64 3, .bool tn], .agg #[.bool false, .int .i64 n, .string ⟨#[]⟩]] w' fun e w'' => e = .returned (.tuple #[.string Y, .int .i64 0]) ∧ Below w'.heap.size w' w'' := by
    intro w' hE'
    have h := kbits_any 3 tn false n ⟨#[]⟩ w' (by decide) hE'
    have hc : kCheck 3 tn false n (⟨#[]⟩ : ByteArray).data.toList = 0 := check_wide tn b0 b1
    rw [hc] at h
    have h2 : (⟨(kBitsD 3 tn false n (⟨#[]⟩ : ByteArray).data.toList).toArray⟩ : ByteArray) = Y := hY
    rw [h2] at h
    exact h
  have ct3 : ∀ w', Env w' → Calls Tryz.prog 82 #[.agg #[.int .i64 3, .bool tn], .agg #[.bool false, .int .i64 n, .string ⟨#[]⟩]] w' fun e w'' => e = .returned (.tuple #[.string Q, .int .i64 0]) ∧ Below w'.heap.size w' w'' := by
    intro w' hE'
    have h := ktext_any 3 tn false n ⟨#[]⟩ w' (by decide) hE'
    have hc : kCheck 3 tn false n (⟨#[]⟩ : ByteArray).data.toList = 0 := check_wide tn b0 b1
    rw [hc] at h
    have h2 : (⟨(kTextD 3 tn false n (⟨#[]⟩ : ByteArray).data.toList).toArray⟩ : ByteArray) = Q := hQ
    rw [h2] at h
    exact h
  have cb2 : ∀ w', Env w' → Calls Tryz.prog 56 #[.agg #[.int .i64 2, .bool tn], .agg #[.bool false, .int .i64 n, .string ⟨#[]⟩]] w' fun e w'' => e = .returned (.tuple #[.string ⟨#[]⟩, .int .i64 90]) ∧ Below w'.heap.size w' w'' := by
    intro w' hE'
    have h := kbits_any 2 tn false n ⟨#[]⟩ w' (by decide) hE'
    have hc : kCheck 2 tn false n (⟨#[]⟩ : ByteArray).data.toList = 90 := check_big tn (by omega)
    rw [hc] at h
    have h2 : kBitsD 2 tn false n (⟨#[]⟩ : ByteArray).data.toList = [] := by unfold kBitsD; rw [if_neg (by rw [hc]; decide)]
    rw [h2] at h
    exact h
  have ct2 : ∀ w', Env w' → Calls Tryz.prog 82 #[.agg #[.int .i64 2, .bool tn], .agg #[.bool false, .int .i64 n, .string ⟨#[]⟩]] w' fun e w'' => e = .returned (.tuple #[.string ⟨#[]⟩, .int .i64 90]) ∧ Below w'.heap.size w' w'' := by
    intro w' hE'
    have h := ktext_any 2 tn false n ⟨#[]⟩ w' (by decide) hE'
    have hc : kCheck 2 tn false n (⟨#[]⟩ : ByteArray).data.toList = 90 := check_big tn (by omega)
    rw [hc] at h
    have h2 : kTextD 2 tn false n (⟨#[]⟩ : ByteArray).data.toList = [] := by unfold kTextD; rw [if_neg (by rw [hc]; decide)]
    rw [h2] at h
    exact h
  have cm := fun w' => may_any k tn w'
  have cz := fun w' => zero_any k tn w'
  rw [hk] at cm cz
  simp only [Bool.true_and] at cz
  have cc : ∀ w', Env w' → Calls Tryz.prog 83 #[.agg #[.int .i64 k, .bool tn], .agg #[.bool tn, .int .i64 0, .string ⟨#[]⟩]] w' fun e w'' => e = .returned (.int .i64 0) ∧ Below w'.heap.size w' w'' := by
    intro w' hE'
    have h := kcheck_any k tn tn 0 ⟨#[]⟩ w' (by decide) hE'
    have hc : kCheck k tn tn 0 (⟨#[]⟩ : ByteArray).data.toList = 0 := zero_ok tn hk
    rw [hc] at h
    exact h
  have x0 := TBx.start w k tn false n ⟨#[]⟩
  have kf := cfield0
  have hw := fun w' (hE' : Env w') => kworks_any w' hE'
  have CB2 := Lib.hid cb2; have CB3 := Lib.hid cb3; have CT2 := Lib.hid ct2; have CT3 := Lib.hid ct3; have CM := Lib.hid cm; have CZ := Lib.hid cz; have CC := Lib.hid cc; have CW := Lib.hid hw; have X0 := Lib.hid x0; have HE := Lib.hid hE
  clear cb2 cb3 ct2 ct3 cm cz cc hw x0 hE hY hQ hk
  go_enter Tryz.func27, Tryz.ntmps27
  go_wp2_with fail
  refine (CB2.out _ (HE.out.below X0.out.bel)).mono ?_
  rintro en w1 ⟨rfl, bb1⟩
  have x1 := X0.out.step bb1
  obtain ⟨d0, d1, a0, a1, a2, f0, f1, f2, l0, l1⟩ := x1.cells
  have X1 := Lib.hid x1
  clear x1 bb1
  go_wp2_with fail
  refine (CB3.out _ (HE.out.below X1.out.bel)).mono ?_
  rintro en w2 ⟨rfl, bb2⟩
  have x2 := X1.out.step bb2
  clear d0 d1 a0 a1 a2 f0 f1 f2 l0 l1
  obtain ⟨d0, d1, a0, a1, a2, f0, f1, f2, l0, l1⟩ := x2.cells
  have X2 := Lib.hid x2
  clear x2 bb2
  go_wp2_with fail
  refine (CT2.out _ (HE.out.below X2.out.bel)).mono ?_
  rintro en w3 ⟨rfl, bb3⟩
  have x3 := X2.out.step bb3
  clear d0 d1 a0 a1 a2 f0 f1 f2 l0 l1
  obtain ⟨d0, d1, a0, a1, a2, f0, f1, f2, l0, l1⟩ := x3.cells
  have X3 := Lib.hid x3
  clear x3 bb3
  go_wp2_with fail
  refine (CT3.out _ (HE.out.below X3.out.bel)).mono ?_
  rintro en w4 ⟨rfl, bb4⟩
  have x4 := X3.out.step bb4
  clear d0 d1 a0 a1 a2 f0 f1 f2 l0 l1
  obtain ⟨d0, d1, a0, a1, a2, f0, f1, f2, l0, l1⟩ := x4.cells
  have X4 := Lib.hid x4
  clear x4 bb4
  go_wp2_with fail
  refine (CM.out _).mono ?_
  rintro en w5 ⟨rfl, bb5⟩
  have x5 := X4.out.step bb5
  clear d0 d1 a0 a1 a2 f0 f1 f2 l0 l1
  obtain ⟨d0, d1, a0, a1, a2, f0, f1, f2, l0, l1⟩ := x5.cells
  have X5 := Lib.hid x5
  have hD : (w5.drew.cell? ⟨w.heap.size, 0, none⟩ = some (.int .i64 k) ∧ w5.drew.cell? ⟨w.heap.size, 1, none⟩ = some (.bool tn)) ∧ Below w5.heap.size w5 w5.drew := ⟨⟨d0, d1⟩, ms_drewN (Below.refl _ _) 1⟩
  have HD := Lib.hid hD
  clear x5 bb5 hD
  go_wp2_with fail
  go_region_held3 (fun w' => (w'.cell? ⟨w.heap.size, 0, none⟩ = some (.int .i64 k) ∧ w'.cell? ⟨w.heap.size, 1, none⟩ = some (.bool tn)) ∧ Below w5.heap.size w5 w')
    (first
      | exact HD.out
      | exact keep2 HD.out bb
      | exact keep2 (by assumption) bb
      | (go_keep; done))
    ((first | ((with_reducible refine (CZ.out _).mono ?_); rintro en w6 ⟨rfl, bb⟩) | ((with_reducible refine (CC.out _ ?_).mono ?_); exact HE.out.below (endTC X5.out.bel X5.out.bel.size (by assumption)); rintro en w7 ⟨rfl, bb⟩) | ((with_reducible refine (CW.out _ ?_).mono ?_); exact HE.out.below (endTC X5.out.bel X5.out.bel.size (by assumption)); rintro en w8 ⟨rfl, bb⟩)))
  all_goals
    go_wp2_with fail
    go_ret
    exact ⟨rfl, endTC X5.out.bel X5.out.bel.size (by assumption)⟩
set_option maxRecDepth 100000 in
set_option maxHeartbeats 4000000 in
theorem wider_ln (k : Int) (tn : Bool) (n : Int) (w : World) (hE : Env w) (b0 : -9223372036854775808 ≤ n) (b1 : n ≤ 9223372036854775807) (h1 : ¬ -2147483648 ≤ n) (hk : kMay k = false) :
    Calls Tryz.prog 27 #[.agg #[.int .i64 k, .bool tn], .int .i64 n] w fun e w' => e = .returned (.bool true) ∧ Below w.heap.size w w' := by
  obtain ⟨Y, hY⟩ : ∃ Y : ByteArray, (⟨(kBitsD 3 tn false n []).toArray⟩ : ByteArray) = Y := ⟨_, rfl⟩
  obtain ⟨Q, hQ⟩ : ∃ Q : ByteArray, (⟨(kTextD 3 tn false n []).toArray⟩ : ByteArray) = Q := ⟨_, rfl⟩
  have cb3 : ∀ w', Env w' → Calls Tryz.prog 56 #[.agg #[.int .i64 3, .bool tn], .agg #[.bool false, .int .i64 n, .string ⟨#[]⟩]] w' fun e w'' => e = .returned (.tuple #[.string Y, .int .i64 0]) ∧ Below w'.heap.size w' w'' := by
    intro w' hE'
    have h := kbits_any 3 tn false n ⟨#[]⟩ w' (by decide) hE'
    have hc : kCheck 3 tn false n (⟨#[]⟩ : ByteArray).data.toList = 0 := check_wide tn b0 b1
    rw [hc] at h
    have h2 : (⟨(kBitsD 3 tn false n (⟨#[]⟩ : ByteArray).data.toList).toArray⟩ : ByteArray) = Y := hY
    rw [h2] at h
    exact h
  have ct3 : ∀ w', Env w' → Calls Tryz.prog 82 #[.agg #[.int .i64 3, .bool tn], .agg #[.bool false, .int .i64 n, .string ⟨#[]⟩]] w' fun e w'' => e = .returned (.tuple #[.string Q, .int .i64 0]) ∧ Below w'.heap.size w' w'' := by
    intro w' hE'
    have h := ktext_any 3 tn false n ⟨#[]⟩ w' (by decide) hE'
    have hc : kCheck 3 tn false n (⟨#[]⟩ : ByteArray).data.toList = 0 := check_wide tn b0 b1
    rw [hc] at h
    have h2 : (⟨(kTextD 3 tn false n (⟨#[]⟩ : ByteArray).data.toList).toArray⟩ : ByteArray) = Q := hQ
    rw [h2] at h
    exact h
  have cb2 : ∀ w', Env w' → Calls Tryz.prog 56 #[.agg #[.int .i64 2, .bool tn], .agg #[.bool false, .int .i64 n, .string ⟨#[]⟩]] w' fun e w'' => e = .returned (.tuple #[.string ⟨#[]⟩, .int .i64 90]) ∧ Below w'.heap.size w' w'' := by
    intro w' hE'
    have h := kbits_any 2 tn false n ⟨#[]⟩ w' (by decide) hE'
    have hc : kCheck 2 tn false n (⟨#[]⟩ : ByteArray).data.toList = 90 := check_big tn (by omega)
    rw [hc] at h
    have h2 : kBitsD 2 tn false n (⟨#[]⟩ : ByteArray).data.toList = [] := by unfold kBitsD; rw [if_neg (by rw [hc]; decide)]
    rw [h2] at h
    exact h
  have ct2 : ∀ w', Env w' → Calls Tryz.prog 82 #[.agg #[.int .i64 2, .bool tn], .agg #[.bool false, .int .i64 n, .string ⟨#[]⟩]] w' fun e w'' => e = .returned (.tuple #[.string ⟨#[]⟩, .int .i64 90]) ∧ Below w'.heap.size w' w'' := by
    intro w' hE'
    have h := ktext_any 2 tn false n ⟨#[]⟩ w' (by decide) hE'
    have hc : kCheck 2 tn false n (⟨#[]⟩ : ByteArray).data.toList = 90 := check_big tn (by omega)
    rw [hc] at h
    have h2 : kTextD 2 tn false n (⟨#[]⟩ : ByteArray).data.toList = [] := by unfold kTextD; rw [if_neg (by rw [hc]; decide)]
    rw [h2] at h
    exact h
  have cm := fun w' => may_any k tn w'
  have cz := fun w' => zero_any k tn w'
  rw [hk] at cm cz
  simp only [Bool.false_and] at cz
  have cc : ∀ w', Env w' → Calls Tryz.prog 83 #[.agg #[.int .i64 k, .bool tn], .agg #[.bool false, .int .i64 n, .string ⟨#[]⟩]] w' fun e w'' => e = .returned (.int .i64 2) ∧ Below w'.heap.size w' w'' := by
    intro w' hE'
    have h := kcheck_any k tn false n ⟨#[]⟩ w' (by decide) hE'
    rw [check_none2 hk] at h
    exact h
  have x0 := TBx.start w k tn false n ⟨#[]⟩
  have kf := cfield0
  have hw := fun w' (hE' : Env w') => kworks_any w' hE'
  have CB2 := Lib.hid cb2; have CB3 := Lib.hid cb3; have CT2 := Lib.hid ct2; have CT3 := Lib.hid ct3; have CM := Lib.hid cm; have CZ := Lib.hid cz; have CC := Lib.hid cc; have CW := Lib.hid hw; have X0 := Lib.hid x0; have HE := Lib.hid hE
  clear cb2 cb3 ct2 ct3 cm cz cc hw x0 hE hY hQ hk
  go_enter Tryz.func27, Tryz.ntmps27
  go_wp2_with fail
  refine (CB2.out _ (HE.out.below X0.out.bel)).mono ?_
  rintro en w1 ⟨rfl, bb1⟩
  have x1 := X0.out.step bb1
  obtain ⟨d0, d1, a0, a1, a2, f0, f1, f2, l0, l1⟩ := x1.cells
  have X1 := Lib.hid x1
  clear x1 bb1
  go_wp2_with fail
  refine (CB3.out _ (HE.out.below X1.out.bel)).mono ?_
  rintro en w2 ⟨rfl, bb2⟩
  have x2 := X1.out.step bb2
  clear d0 d1 a0 a1 a2 f0 f1 f2 l0 l1
  obtain ⟨d0, d1, a0, a1, a2, f0, f1, f2, l0, l1⟩ := x2.cells
  have X2 := Lib.hid x2
  clear x2 bb2
  go_wp2_with fail
  refine (CT2.out _ (HE.out.below X2.out.bel)).mono ?_
  rintro en w3 ⟨rfl, bb3⟩
  have x3 := X2.out.step bb3
  clear d0 d1 a0 a1 a2 f0 f1 f2 l0 l1
  obtain ⟨d0, d1, a0, a1, a2, f0, f1, f2, l0, l1⟩ := x3.cells
  have X3 := Lib.hid x3
  clear x3 bb3
  go_wp2_with fail
  refine (CT3.out _ (HE.out.below X3.out.bel)).mono ?_
  rintro en w4 ⟨rfl, bb4⟩
  have x4 := X3.out.step bb4
  clear d0 d1 a0 a1 a2 f0 f1 f2 l0 l1
  obtain ⟨d0, d1, a0, a1, a2, f0, f1, f2, l0, l1⟩ := x4.cells
  have X4 := Lib.hid x4
  clear x4 bb4
  go_wp2_with fail
  refine (CM.out _).mono ?_
  rintro en w5 ⟨rfl, bb5⟩
  have x5 := X4.out.step bb5
  clear d0 d1 a0 a1 a2 f0 f1 f2 l0 l1
  obtain ⟨d0, d1, a0, a1, a2, f0, f1, f2, l0, l1⟩ := x5.cells
  have X5 := Lib.hid x5
  clear x5 bb5
  go_wp2_with fail
  refine (CZ.out _).mono ?_
  rintro en w6 ⟨rfl, bb6⟩
  have x6 := X5.out.step bb6
  clear d0 d1 a0 a1 a2 f0 f1 f2 l0 l1
  obtain ⟨d0, d1, a0, a1, a2, f0, f1, f2, l0, l1⟩ := x6.cells
  have X6 := Lib.hid x6
  clear x6 bb6
  go_wp2_with fail
  refine (CC.out _ (HE.out.below X6.out.bel)).mono ?_
  rintro en w7 ⟨rfl, bb7⟩
  have x7 := X6.out.step bb7
  clear d0 d1 a0 a1 a2 f0 f1 f2 l0 l1
  obtain ⟨d0, d1, a0, a1, a2, f0, f1, f2, l0, l1⟩ := x7.cells
  have X7 := Lib.hid x7
  clear x7 bb7
  go_wp2_with fail
  refine (CW.out _ (HE.out.below X7.out.bel)).mono ?_
  rintro en w9 ⟨rfl, b9⟩
  go_wp2_with fail
  go_ret
  exact ⟨rfl, X7.out.bel.trans (b9.mono X7.out.bel.size)⟩
set_option maxRecDepth 100000 in
set_option maxHeartbeats 4000000 in
theorem wider_hm (k : Int) (tn : Bool) (n : Int) (w : World) (hE : Env w) (b0 : -9223372036854775808 ≤ n) (b1 : n ≤ 9223372036854775807) (h1 : -2147483648 ≤ n) (h2 : ¬ n < 2147483648) (hk : kMay k = true) :
    Calls Tryz.prog 27 #[.agg #[.int .i64 k, .bool tn], .int .i64 n] w fun e w' => e = .returned (.bool true) ∧ Below w.heap.size w w' := by
  obtain ⟨Y, hY⟩ : ∃ Y : ByteArray, (⟨(kBitsD 3 tn false n []).toArray⟩ : ByteArray) = Y := ⟨_, rfl⟩
  obtain ⟨Q, hQ⟩ : ∃ Q : ByteArray, (⟨(kTextD 3 tn false n []).toArray⟩ : ByteArray) = Q := ⟨_, rfl⟩
  have cb3 : ∀ w', Env w' → Calls Tryz.prog 56 #[.agg #[.int .i64 3, .bool tn], .agg #[.bool false, .int .i64 n, .string ⟨#[]⟩]] w' fun e w'' => e = .returned (.tuple #[.string Y, .int .i64 0]) ∧ Below w'.heap.size w' w'' := by
    intro w' hE'
    have h := kbits_any 3 tn false n ⟨#[]⟩ w' (by decide) hE'
    have hc : kCheck 3 tn false n (⟨#[]⟩ : ByteArray).data.toList = 0 := check_wide tn b0 b1
    rw [hc] at h
    have h2 : (⟨(kBitsD 3 tn false n (⟨#[]⟩ : ByteArray).data.toList).toArray⟩ : ByteArray) = Y := hY
    rw [h2] at h
    exact h
  have ct3 : ∀ w', Env w' → Calls Tryz.prog 82 #[.agg #[.int .i64 3, .bool tn], .agg #[.bool false, .int .i64 n, .string ⟨#[]⟩]] w' fun e w'' => e = .returned (.tuple #[.string Q, .int .i64 0]) ∧ Below w'.heap.size w' w'' := by
    intro w' hE'
    have h := ktext_any 3 tn false n ⟨#[]⟩ w' (by decide) hE'
    have hc : kCheck 3 tn false n (⟨#[]⟩ : ByteArray).data.toList = 0 := check_wide tn b0 b1
    rw [hc] at h
    have h2 : (⟨(kTextD 3 tn false n (⟨#[]⟩ : ByteArray).data.toList).toArray⟩ : ByteArray) = Q := hQ
    rw [h2] at h
    exact h
  have cb2 : ∀ w', Env w' → Calls Tryz.prog 56 #[.agg #[.int .i64 2, .bool tn], .agg #[.bool false, .int .i64 n, .string ⟨#[]⟩]] w' fun e w'' => e = .returned (.tuple #[.string ⟨#[]⟩, .int .i64 90]) ∧ Below w'.heap.size w' w'' := by
    intro w' hE'
    have h := kbits_any 2 tn false n ⟨#[]⟩ w' (by decide) hE'
    have hc : kCheck 2 tn false n (⟨#[]⟩ : ByteArray).data.toList = 90 := check_big tn (by omega)
    rw [hc] at h
    have h2 : kBitsD 2 tn false n (⟨#[]⟩ : ByteArray).data.toList = [] := by unfold kBitsD; rw [if_neg (by rw [hc]; decide)]
    rw [h2] at h
    exact h
  have ct2 : ∀ w', Env w' → Calls Tryz.prog 82 #[.agg #[.int .i64 2, .bool tn], .agg #[.bool false, .int .i64 n, .string ⟨#[]⟩]] w' fun e w'' => e = .returned (.tuple #[.string ⟨#[]⟩, .int .i64 90]) ∧ Below w'.heap.size w' w'' := by
    intro w' hE'
    have h := ktext_any 2 tn false n ⟨#[]⟩ w' (by decide) hE'
    have hc : kCheck 2 tn false n (⟨#[]⟩ : ByteArray).data.toList = 90 := check_big tn (by omega)
    rw [hc] at h
    have h2 : kTextD 2 tn false n (⟨#[]⟩ : ByteArray).data.toList = [] := by unfold kTextD; rw [if_neg (by rw [hc]; decide)]
    rw [h2] at h
    exact h
  have cm := fun w' => may_any k tn w'
  have cz := fun w' => zero_any k tn w'
  rw [hk] at cm cz
  simp only [Bool.true_and] at cz
  have cc : ∀ w', Env w' → Calls Tryz.prog 83 #[.agg #[.int .i64 k, .bool tn], .agg #[.bool tn, .int .i64 0, .string ⟨#[]⟩]] w' fun e w'' => e = .returned (.int .i64 0) ∧ Below w'.heap.size w' w'' := by
    intro w' hE'
    have h := kcheck_any k tn tn 0 ⟨#[]⟩ w' (by decide) hE'
    have hc : kCheck k tn tn 0 (⟨#[]⟩ : ByteArray).data.toList = 0 := zero_ok tn hk
    rw [hc] at h
    exact h
  have x0 := TBx.start w k tn false n ⟨#[]⟩
  have kf := cfield0
  have hw := fun w' (hE' : Env w') => kworks_any w' hE'
  have CB2 := Lib.hid cb2; have CB3 := Lib.hid cb3; have CT2 := Lib.hid ct2; have CT3 := Lib.hid ct3; have CM := Lib.hid cm; have CZ := Lib.hid cz; have CC := Lib.hid cc; have CW := Lib.hid hw; have X0 := Lib.hid x0; have HE := Lib.hid hE
  clear cb2 cb3 ct2 ct3 cm cz cc hw x0 hE hY hQ hk
  go_enter Tryz.func27, Tryz.ntmps27
  go_wp2_with fail
  refine (CB2.out _ (HE.out.below X0.out.bel)).mono ?_
  rintro en w1 ⟨rfl, bb1⟩
  have x1 := X0.out.step bb1
  obtain ⟨d0, d1, a0, a1, a2, f0, f1, f2, l0, l1⟩ := x1.cells
  have X1 := Lib.hid x1
  clear x1 bb1
  go_wp2_with fail
  refine (CB3.out _ (HE.out.below X1.out.bel)).mono ?_
  rintro en w2 ⟨rfl, bb2⟩
  have x2 := X1.out.step bb2
  clear d0 d1 a0 a1 a2 f0 f1 f2 l0 l1
  obtain ⟨d0, d1, a0, a1, a2, f0, f1, f2, l0, l1⟩ := x2.cells
  have X2 := Lib.hid x2
  clear x2 bb2
  go_wp2_with fail
  refine (CT2.out _ (HE.out.below X2.out.bel)).mono ?_
  rintro en w3 ⟨rfl, bb3⟩
  have x3 := X2.out.step bb3
  clear d0 d1 a0 a1 a2 f0 f1 f2 l0 l1
  obtain ⟨d0, d1, a0, a1, a2, f0, f1, f2, l0, l1⟩ := x3.cells
  have X3 := Lib.hid x3
  clear x3 bb3
  go_wp2_with fail
  refine (CT3.out _ (HE.out.below X3.out.bel)).mono ?_
  rintro en w4 ⟨rfl, bb4⟩
  have x4 := X3.out.step bb4
  clear d0 d1 a0 a1 a2 f0 f1 f2 l0 l1
  obtain ⟨d0, d1, a0, a1, a2, f0, f1, f2, l0, l1⟩ := x4.cells
  have X4 := Lib.hid x4
  clear x4 bb4
  go_wp2_with fail
  refine (CM.out _).mono ?_
  rintro en w5 ⟨rfl, bb5⟩
  have x5 := X4.out.step bb5
  clear d0 d1 a0 a1 a2 f0 f1 f2 l0 l1
  obtain ⟨d0, d1, a0, a1, a2, f0, f1, f2, l0, l1⟩ := x5.cells
  have X5 := Lib.hid x5
  have hD : (w5.drew.cell? ⟨w.heap.size, 0, none⟩ = some (.int .i64 k) ∧ w5.drew.cell? ⟨w.heap.size, 1, none⟩ = some (.bool tn)) ∧ Below w5.heap.size w5 w5.drew := ⟨⟨d0, d1⟩, ms_drewN (Below.refl _ _) 1⟩
  have HD := Lib.hid hD
  clear x5 bb5 hD
  go_wp2_with fail
  go_region_held3 (fun w' => (w'.cell? ⟨w.heap.size, 0, none⟩ = some (.int .i64 k) ∧ w'.cell? ⟨w.heap.size, 1, none⟩ = some (.bool tn)) ∧ Below w5.heap.size w5 w')
    (first
      | exact HD.out
      | exact keep2 HD.out bb
      | exact keep2 (by assumption) bb
      | (go_keep; done))
    ((first | ((with_reducible refine (CZ.out _).mono ?_); rintro en w6 ⟨rfl, bb⟩) | ((with_reducible refine (CC.out _ ?_).mono ?_); exact HE.out.below (endTC X5.out.bel X5.out.bel.size (by assumption)); rintro en w7 ⟨rfl, bb⟩) | ((with_reducible refine (CW.out _ ?_).mono ?_); exact HE.out.below (endTC X5.out.bel X5.out.bel.size (by assumption)); rintro en w8 ⟨rfl, bb⟩)))
  all_goals
    go_wp2_with fail
    go_ret
    exact ⟨rfl, endTC X5.out.bel X5.out.bel.size (by assumption)⟩
set_option maxRecDepth 100000 in
set_option maxHeartbeats 4000000 in
theorem wider_hn (k : Int) (tn : Bool) (n : Int) (w : World) (hE : Env w) (b0 : -9223372036854775808 ≤ n) (b1 : n ≤ 9223372036854775807) (h1 : -2147483648 ≤ n) (h2 : ¬ n < 2147483648) (hk : kMay k = false) :
    Calls Tryz.prog 27 #[.agg #[.int .i64 k, .bool tn], .int .i64 n] w fun e w' => e = .returned (.bool true) ∧ Below w.heap.size w w' := by
  obtain ⟨Y, hY⟩ : ∃ Y : ByteArray, (⟨(kBitsD 3 tn false n []).toArray⟩ : ByteArray) = Y := ⟨_, rfl⟩
  obtain ⟨Q, hQ⟩ : ∃ Q : ByteArray, (⟨(kTextD 3 tn false n []).toArray⟩ : ByteArray) = Q := ⟨_, rfl⟩
  have cb3 : ∀ w', Env w' → Calls Tryz.prog 56 #[.agg #[.int .i64 3, .bool tn], .agg #[.bool false, .int .i64 n, .string ⟨#[]⟩]] w' fun e w'' => e = .returned (.tuple #[.string Y, .int .i64 0]) ∧ Below w'.heap.size w' w'' := by
    intro w' hE'
    have h := kbits_any 3 tn false n ⟨#[]⟩ w' (by decide) hE'
    have hc : kCheck 3 tn false n (⟨#[]⟩ : ByteArray).data.toList = 0 := check_wide tn b0 b1
    rw [hc] at h
    have h2 : (⟨(kBitsD 3 tn false n (⟨#[]⟩ : ByteArray).data.toList).toArray⟩ : ByteArray) = Y := hY
    rw [h2] at h
    exact h
  have ct3 : ∀ w', Env w' → Calls Tryz.prog 82 #[.agg #[.int .i64 3, .bool tn], .agg #[.bool false, .int .i64 n, .string ⟨#[]⟩]] w' fun e w'' => e = .returned (.tuple #[.string Q, .int .i64 0]) ∧ Below w'.heap.size w' w'' := by
    intro w' hE'
    have h := ktext_any 3 tn false n ⟨#[]⟩ w' (by decide) hE'
    have hc : kCheck 3 tn false n (⟨#[]⟩ : ByteArray).data.toList = 0 := check_wide tn b0 b1
    rw [hc] at h
    have h2 : (⟨(kTextD 3 tn false n (⟨#[]⟩ : ByteArray).data.toList).toArray⟩ : ByteArray) = Q := hQ
    rw [h2] at h
    exact h
  have cb2 : ∀ w', Env w' → Calls Tryz.prog 56 #[.agg #[.int .i64 2, .bool tn], .agg #[.bool false, .int .i64 n, .string ⟨#[]⟩]] w' fun e w'' => e = .returned (.tuple #[.string ⟨#[]⟩, .int .i64 90]) ∧ Below w'.heap.size w' w'' := by
    intro w' hE'
    have h := kbits_any 2 tn false n ⟨#[]⟩ w' (by decide) hE'
    have hc : kCheck 2 tn false n (⟨#[]⟩ : ByteArray).data.toList = 90 := check_big tn (by omega)
    rw [hc] at h
    have h2 : kBitsD 2 tn false n (⟨#[]⟩ : ByteArray).data.toList = [] := by unfold kBitsD; rw [if_neg (by rw [hc]; decide)]
    rw [h2] at h
    exact h
  have ct2 : ∀ w', Env w' → Calls Tryz.prog 82 #[.agg #[.int .i64 2, .bool tn], .agg #[.bool false, .int .i64 n, .string ⟨#[]⟩]] w' fun e w'' => e = .returned (.tuple #[.string ⟨#[]⟩, .int .i64 90]) ∧ Below w'.heap.size w' w'' := by
    intro w' hE'
    have h := ktext_any 2 tn false n ⟨#[]⟩ w' (by decide) hE'
    have hc : kCheck 2 tn false n (⟨#[]⟩ : ByteArray).data.toList = 90 := check_big tn (by omega)
    rw [hc] at h
    have h2 : kTextD 2 tn false n (⟨#[]⟩ : ByteArray).data.toList = [] := by unfold kTextD; rw [if_neg (by rw [hc]; decide)]
    rw [h2] at h
    exact h
  have cm := fun w' => may_any k tn w'
  have cz := fun w' => zero_any k tn w'
  rw [hk] at cm cz
  simp only [Bool.false_and] at cz
  have cc : ∀ w', Env w' → Calls Tryz.prog 83 #[.agg #[.int .i64 k, .bool tn], .agg #[.bool false, .int .i64 n, .string ⟨#[]⟩]] w' fun e w'' => e = .returned (.int .i64 2) ∧ Below w'.heap.size w' w'' := by
    intro w' hE'
    have h := kcheck_any k tn false n ⟨#[]⟩ w' (by decide) hE'
    rw [check_none2 hk] at h
    exact h
  have x0 := TBx.start w k tn false n ⟨#[]⟩
  have kf := cfield0
  have hw := fun w' (hE' : Env w') => kworks_any w' hE'
  have CB2 := Lib.hid cb2; have CB3 := Lib.hid cb3; have CT2 := Lib.hid ct2; have CT3 := Lib.hid ct3; have CM := Lib.hid cm; have CZ := Lib.hid cz; have CC := Lib.hid cc; have CW := Lib.hid hw; have X0 := Lib.hid x0; have HE := Lib.hid hE
  clear cb2 cb3 ct2 ct3 cm cz cc hw x0 hE hY hQ hk
  go_enter Tryz.func27, Tryz.ntmps27
  go_wp2_with fail
  refine (CB2.out _ (HE.out.below X0.out.bel)).mono ?_
  rintro en w1 ⟨rfl, bb1⟩
  have x1 := X0.out.step bb1
  obtain ⟨d0, d1, a0, a1, a2, f0, f1, f2, l0, l1⟩ := x1.cells
  have X1 := Lib.hid x1
  clear x1 bb1
  go_wp2_with fail
  refine (CB3.out _ (HE.out.below X1.out.bel)).mono ?_
  rintro en w2 ⟨rfl, bb2⟩
  have x2 := X1.out.step bb2
  clear d0 d1 a0 a1 a2 f0 f1 f2 l0 l1
  obtain ⟨d0, d1, a0, a1, a2, f0, f1, f2, l0, l1⟩ := x2.cells
  have X2 := Lib.hid x2
  clear x2 bb2
  go_wp2_with fail
  refine (CT2.out _ (HE.out.below X2.out.bel)).mono ?_
  rintro en w3 ⟨rfl, bb3⟩
  have x3 := X2.out.step bb3
  clear d0 d1 a0 a1 a2 f0 f1 f2 l0 l1
  obtain ⟨d0, d1, a0, a1, a2, f0, f1, f2, l0, l1⟩ := x3.cells
  have X3 := Lib.hid x3
  clear x3 bb3
  go_wp2_with fail
  refine (CT3.out _ (HE.out.below X3.out.bel)).mono ?_
  rintro en w4 ⟨rfl, bb4⟩
  have x4 := X3.out.step bb4
  clear d0 d1 a0 a1 a2 f0 f1 f2 l0 l1
  obtain ⟨d0, d1, a0, a1, a2, f0, f1, f2, l0, l1⟩ := x4.cells
  have X4 := Lib.hid x4
  clear x4 bb4
  go_wp2_with fail
  refine (CM.out _).mono ?_
  rintro en w5 ⟨rfl, bb5⟩
  have x5 := X4.out.step bb5
  clear d0 d1 a0 a1 a2 f0 f1 f2 l0 l1
  obtain ⟨d0, d1, a0, a1, a2, f0, f1, f2, l0, l1⟩ := x5.cells
  have X5 := Lib.hid x5
  clear x5 bb5
  go_wp2_with fail
  refine (CZ.out _).mono ?_
  rintro en w6 ⟨rfl, bb6⟩
  have x6 := X5.out.step bb6
  clear d0 d1 a0 a1 a2 f0 f1 f2 l0 l1
  obtain ⟨d0, d1, a0, a1, a2, f0, f1, f2, l0, l1⟩ := x6.cells
  have X6 := Lib.hid x6
  clear x6 bb6
  go_wp2_with fail
  refine (CC.out _ (HE.out.below X6.out.bel)).mono ?_
  rintro en w7 ⟨rfl, bb7⟩
  have x7 := X6.out.step bb7
  clear d0 d1 a0 a1 a2 f0 f1 f2 l0 l1
  obtain ⟨d0, d1, a0, a1, a2, f0, f1, f2, l0, l1⟩ := x7.cells
  have X7 := Lib.hid x7
  clear x7 bb7
  go_wp2_with fail
  refine (CW.out _ (HE.out.below X7.out.bel)).mono ?_
  rintro en w9 ⟨rfl, b9⟩
  go_wp2_with fail
  go_ret
  exact ⟨rfl, X7.out.bel.trans (b9.mono X7.out.bel.size)⟩
theorem cellWider_walk (k : Int) (tn : Bool) (n : Int) (w : World) (hn : (Lit.int .i64 n).wf = true) (hE : Env w) :
    Calls Tryz.prog 27 #[.agg #[.int .i64 k, .bool tn], .int .i64 n] w fun e w' => e = .returned (.bool true) ∧ Below w.heap.size w w' := by
  have b : -9223372036854775808 ≤ n ∧ n ≤ 9223372036854775807 := by
    simpa [Lit.wf, IntKind.min, IntKind.max, IntKind.signed, IntKind.bits] using hn
  obtain ⟨b0, b1⟩ := b
  cases hk : kMay k with
  | true =>
    by_cases h1 : -2147483648 ≤ n
    · by_cases h2 : n < 2147483648
      · exact wider_sm k tn n w hE b0 b1 h1 h2 hk
      · exact wider_hm k tn n w hE b0 b1 h1 h2 hk
    · exact wider_lm k tn n w hE b0 b1 h1 hk
  | false =>
    by_cases h1 : -2147483648 ≤ n
    · by_cases h2 : n < 2147483648
      · exact wider_sn k tn n w hE b0 b1 h1 h2 hk
      · exact wider_hn k tn n w hE b0 b1 h1 h2 hk
    · exact wider_ln k tn n w hE b0 b1 h1 hk
end Go.Proofs.YtcdmiiaamajfoaaGreatDoor
namespace Go.Proofs.YtcdmiiaamajfoaaGreatDoor
open Go.RowKit Go.Ms Go.Lib

set_option maxRecDepth 100000 in
set_option maxHeartbeats 4000000 in
theorem cellBits_e1 (k : Int) (tn u1 : Bool) (n1 : Int) (A1 : ByteArray) (u2 : Bool) (n2 : Int) (A2 : ByteArray) (w : World) (hE : Env w) (S1 S2 : ByteArray) (hS1 : cutS A1 = S1) (hS2 : cutS A2 = S2) (h1 : kCheck k tn u1 n1 S1.data.toList ≠ 0) :
    Calls Tryz.prog 28 #[.agg #[.int .i64 k, .bool tn], .agg #[.bool u1, .int .i64 n1, .string A1], .agg #[.bool u2, .int .i64 n2, .string A2]] w fun e w' => e = .returned (.bool true) ∧ Below w.heap.size w w' := by
  have hz1 := cutS_size A1
  have hz2 := cutS_size A2
  have k1 := fun w => cut_any u1 n1 A1 w
  have k2 := fun w => cut_any u2 n2 A2 w
  rw [hS1] at hz1 k1
  rw [hS2] at hz2 k2
  have cb1 := fun w' (hE' : Env w') => kbits_any k tn u1 n1 S1 w' (by omega) hE'
  have cb2 := fun w' (hE' : Env w') => kbits_any k tn u2 n2 S2 w' (by omega) hE'
  have cw := fun w' (hE' : Env w') => kworks_any w' hE'
  have x0 := T2x.start w k tn u1 n1 A1 u2 n2 A2
  generalize kCheck k tn u1 n1 S1.data.toList = e1 at *
  generalize kCheck k tn u2 n2 S2.data.toList = e2 at *
  have q1 : (e1 != 0) = true := by simpa using h1
  have K1 := Lib.hid k1; have K2 := Lib.hid k2; have CB1 := Lib.hid cb1; have CB2 := Lib.hid cb2; have CW := Lib.hid cw; have X0 := Lib.hid x0; have HE := Lib.hid hE
  clear k1 k2 cb1 cb2 cw x0 hE hz1 hz2 hS1 hS2 h1
  go_enter Tryz.func28, Tryz.ntmps28
  go_wp2_with fail
  refine (CW.out _ (HE.out.below X0.out.bel)).mono ?_
  rintro en w9 ⟨rfl, bb9⟩
  have x9 := X0.out.step bb9
  obtain ⟨d0, d1, a0, a1, a2, c0, c1, c2, f0, f1, f2, h0, h1, h2⟩ := x9.cells
  have X9 := Lib.hid x9
  clear x9 bb9
  have s0d := X9.out.drew
  clear X0
  go_upto_region 3 with fail
  clear d0 d1 a0 a1 a2 c0 c1 c2 f0 f1 f2 h0 h1 h2
  obtain ⟨d0, d1, a0, a1, a2, c0, c1, c2, f0, f1, f2, h0, h1, h2⟩ := s0d.cells
  go_cut [] (fun wx => T2x w w.heap.size k tn u1 n1 S1 u2 n2 S2 wx)
  case first =>
    go_region_with (first | ((with_reducible refine (K1.out _).mono ?_); rintro en w1 ⟨rfl, bb1⟩; have x1 := T2x.step (by assumption) bb1; obtain ⟨d0, d1, a0, a1, a2, c0, c1, c2, f0, f1, f2, h0, h1, h2⟩ := x1.cells) | ((with_reducible refine (K2.out _).mono ?_); rintro en w1 ⟨rfl, bb1⟩; have x1 := T2x.step (by assumption) bb1; obtain ⟨d0, d1, a0, a1, a2, c0, c1, c2, f0, f1, f2, h0, h1, h2⟩ := x1.cells))
    all_goals (go_wp2_with fail; go_meet; exact T2x.set (by assumption) _ _)
  case rest =>
    have x0 : T2x w w.heap.size k tn u1 n1 S1 u2 n2 S2 _ := hcut
    clear s0d
    clear d0 d1 a0 a1 a2 c0 c1 c2 f0 f1 f2 h0 h1 h2
    obtain ⟨d0, d1, a0, a1, a2, c0, c1, c2, f0, f1, f2, h0, h1, h2⟩ := x0.cells
    have X2 := Lib.hid x0
    clear x0 hcut
    go_wp2_with fail
    refine (CB1.out _ (HE.out.below X2.out.bel)).mono ?_
    rintro en w3 ⟨rfl, bb3⟩
    have x3 := X2.out.step bb3
    clear d0 d1 a0 a1 a2 c0 c1 c2 f0 f1 f2 h0 h1 h2
    obtain ⟨d0, d1, a0, a1, a2, c0, c1, c2, f0, f1, f2, h0, h1, h2⟩ := x3.cells
    have X3 := Lib.hid x3
    clear x3 bb3
    go_wp2_with fail
    refine (CB2.out _ (HE.out.below X3.out.bel)).mono ?_
    rintro en w4 ⟨rfl, bb4⟩
    have x4 := X3.out.step bb4
    clear d0 d1 a0 a1 a2 c0 c1 c2 f0 f1 f2 h0 h1 h2
    obtain ⟨d0, d1, a0, a1, a2, c0, c1, c2, f0, f1, f2, h0, h1, h2⟩ := x4.cells
    have X4 := Lib.hid x4
    clear x4 bb4
    go_wp2_with fail
    go_ret
    exact ⟨rfl, X4.out.bel⟩
set_option maxRecDepth 100000 in
set_option maxHeartbeats 4000000 in
theorem cellBits_e2 (k : Int) (tn u1 : Bool) (n1 : Int) (A1 : ByteArray) (u2 : Bool) (n2 : Int) (A2 : ByteArray) (w : World) (hE : Env w) (S1 S2 : ByteArray) (hS1 : cutS A1 = S1) (hS2 : cutS A2 = S2) (h1 : kCheck k tn u1 n1 S1.data.toList = 0) (h2 : kCheck k tn u2 n2 S2.data.toList ≠ 0) :
    Calls Tryz.prog 28 #[.agg #[.int .i64 k, .bool tn], .agg #[.bool u1, .int .i64 n1, .string A1], .agg #[.bool u2, .int .i64 n2, .string A2]] w fun e w' => e = .returned (.bool true) ∧ Below w.heap.size w w' := by
  have hz1 := cutS_size A1
  have hz2 := cutS_size A2
  have k1 := fun w => cut_any u1 n1 A1 w
  have k2 := fun w => cut_any u2 n2 A2 w
  rw [hS1] at hz1 k1
  rw [hS2] at hz2 k2
  have cb1 := fun w' (hE' : Env w') => kbits_any k tn u1 n1 S1 w' (by omega) hE'
  have cb2 := fun w' (hE' : Env w') => kbits_any k tn u2 n2 S2 w' (by omega) hE'
  have cw := fun w' (hE' : Env w') => kworks_any w' hE'
  have x0 := T2x.start w k tn u1 n1 A1 u2 n2 A2
  rw [h1] at cb1
  generalize kCheck k tn u2 n2 S2.data.toList = e2 at *
  have q2 : (e2 != 0) = true := by simpa using h2
  have K1 := Lib.hid k1; have K2 := Lib.hid k2; have CB1 := Lib.hid cb1; have CB2 := Lib.hid cb2; have CW := Lib.hid cw; have X0 := Lib.hid x0; have HE := Lib.hid hE
  clear k1 k2 cb1 cb2 cw x0 hE hz1 hz2 hS1 hS2 h1 h2
  go_enter Tryz.func28, Tryz.ntmps28
  go_wp2_with fail
  refine (CW.out _ (HE.out.below X0.out.bel)).mono ?_
  rintro en w9 ⟨rfl, bb9⟩
  have x9 := X0.out.step bb9
  obtain ⟨d0, d1, a0, a1, a2, c0, c1, c2, f0, f1, f2, h0, h1, h2⟩ := x9.cells
  have X9 := Lib.hid x9
  clear x9 bb9
  have s0d := X9.out.drew
  clear X0
  go_upto_region 3 with fail
  clear d0 d1 a0 a1 a2 c0 c1 c2 f0 f1 f2 h0 h1 h2
  obtain ⟨d0, d1, a0, a1, a2, c0, c1, c2, f0, f1, f2, h0, h1, h2⟩ := s0d.cells
  go_cut [] (fun wx => T2x w w.heap.size k tn u1 n1 S1 u2 n2 S2 wx)
  case first =>
    go_region_with (first | ((with_reducible refine (K1.out _).mono ?_); rintro en w1 ⟨rfl, bb1⟩; have x1 := T2x.step (by assumption) bb1; obtain ⟨d0, d1, a0, a1, a2, c0, c1, c2, f0, f1, f2, h0, h1, h2⟩ := x1.cells) | ((with_reducible refine (K2.out _).mono ?_); rintro en w1 ⟨rfl, bb1⟩; have x1 := T2x.step (by assumption) bb1; obtain ⟨d0, d1, a0, a1, a2, c0, c1, c2, f0, f1, f2, h0, h1, h2⟩ := x1.cells))
    all_goals (go_wp2_with fail; go_meet; exact T2x.set (by assumption) _ _)
  case rest =>
    have x0 : T2x w w.heap.size k tn u1 n1 S1 u2 n2 S2 _ := hcut
    clear s0d
    clear d0 d1 a0 a1 a2 c0 c1 c2 f0 f1 f2 h0 h1 h2
    obtain ⟨d0, d1, a0, a1, a2, c0, c1, c2, f0, f1, f2, h0, h1, h2⟩ := x0.cells
    have X2 := Lib.hid x0
    clear x0 hcut
    go_wp2_with fail
    refine (CB1.out _ (HE.out.below X2.out.bel)).mono ?_
    rintro en w3 ⟨rfl, bb3⟩
    have x3 := X2.out.step bb3
    clear d0 d1 a0 a1 a2 c0 c1 c2 f0 f1 f2 h0 h1 h2
    obtain ⟨d0, d1, a0, a1, a2, c0, c1, c2, f0, f1, f2, h0, h1, h2⟩ := x3.cells
    have X3 := Lib.hid x3
    clear x3 bb3
    go_wp2_with fail
    refine (CB2.out _ (HE.out.below X3.out.bel)).mono ?_
    rintro en w4 ⟨rfl, bb4⟩
    have x4 := X3.out.step bb4
    clear d0 d1 a0 a1 a2 c0 c1 c2 f0 f1 f2 h0 h1 h2
    obtain ⟨d0, d1, a0, a1, a2, c0, c1, c2, f0, f1, f2, h0, h1, h2⟩ := x4.cells
    have X4 := Lib.hid x4
    clear x4 bb4
    go_wp2_with fail
    go_ret
    exact ⟨rfl, X4.out.bel⟩
set_option maxRecDepth 100000 in
set_option maxHeartbeats 4000000 in
theorem cellBits_lt (k : Int) (tn u1 : Bool) (n1 : Int) (A1 : ByteArray) (u2 : Bool) (n2 : Int) (A2 : ByteArray) (w : World) (hE : Env w) (S1 S2 : ByteArray) (hS1 : cutS A1 = S1) (hS2 : cutS A2 = S2) (h1 : kCheck k tn u1 n1 S1.data.toList = 0) (h2 : kCheck k tn u2 n2 S2.data.toList = 0) (h3 : kCmp u1 n1 S1.data.toList u2 n2 S2.data.toList < 0) :
    Calls Tryz.prog 28 #[.agg #[.int .i64 k, .bool tn], .agg #[.bool u1, .int .i64 n1, .string A1], .agg #[.bool u2, .int .i64 n2, .string A2]] w fun e w' => e = .returned (.bool true) ∧ Below w.heap.size w w' := by
  have hz1 := cutS_size A1
  have hz2 := cutS_size A2
  have k1 := fun w => cut_any u1 n1 A1 w
  have k2 := fun w => cut_any u2 n2 A2 w
  rw [hS1] at hz1 k1
  rw [hS2] at hz2 k2
  have cb1 := fun w' (hE' : Env w') => kbits_any k tn u1 n1 S1 w' (by omega) hE'
  have cb2 := fun w' (hE' : Env w') => kbits_any k tn u2 n2 S2 w' (by omega) hE'
  have cw := fun w' (hE' : Env w') => kworks_any w' hE'
  have x0 := T2x.start w k tn u1 n1 A1 u2 n2 A2
  have hb := bitsD_cmp h1 h2
  have hb' := bitsD_cmp h2 h1
  have cp := fun w' => compare_any u1 u2 n1 n2 S1 S2 w'
  rw [h1] at cb1
  rw [h2] at cb2
  have hneg := cmp_neg u1 n1 S1.data.toList u2 n2 S2.data.toList
  rw [hneg] at hb'
  generalize kCmp u1 n1 S1.data.toList u2 n2 S2.data.toList = c at *
  generalize kBitsD k tn u1 n1 S1.data.toList = X at *
  generalize kBitsD k tn u2 n2 S2.data.toList = Y at *
  have hXl : (⟨X.toArray⟩ : ByteArray).data.toList = X := rfl
  have hYl : (⟨Y.toArray⟩ : ByteArray).data.toList = Y := rfl
  generalize (⟨X.toArray⟩ : ByteArray) = XB at *
  generalize (⟨Y.toArray⟩ : ByteArray) = YB at *
  subst hXl hYl
  have q1 : Op.bytesLess XB.toList YB.toList = decide (c < 0) := by rw [Lib.toList_data, Lib.toList_data, bl_cb, hb.1]
  have hne : XB.data.toList ≠ YB.data.toList := by
    intro e
    rw [e, cb_self] at hb
    have := hb.1
    omega
  have q2 : (XB.toList == YB.toList) = false := by rw [Lib.toList_data, Lib.toList_data, beq_eq_false_iff_ne]; exact hne
  have q3 : ¬ XB.toList = YB.toList := by rw [Lib.toList_data, Lib.toList_data]; exact hne
  have q4 : (c == 0) = false := by rw [beq_eq_false_iff_ne]; omega
  rw [decide_eq_true (by omega)] at q1
  have q5 : decide (c < 0) = true := decide_eq_true (by omega)
  have ch1 := fun w => Tryz.strings_HasPrefix XB YB w
  have ch2 := fun w => Tryz.strings_HasPrefix YB XB w
  have p1 : Lib.hasPrefix XB.data.toList YB.data.toList = false := by
    cases h : Lib.hasPrefix XB.data.toList YB.data.toList with
    | false => rfl
    | true => have := hb'.2 h; omega
  have p2 : Lib.hasPrefix YB.data.toList XB.data.toList = false := by
    cases h : Lib.hasPrefix YB.data.toList XB.data.toList with
    | false => rfl
    | true => have := hb.2 h; omega
  rw [p1] at ch1
  rw [p2] at ch2
  have CH1 := Lib.hid ch1; have CH2 := Lib.hid ch2
  clear ch1 ch2 p1 p2 hne
  have CP := Lib.hid cp
  have K1 := Lib.hid k1; have K2 := Lib.hid k2; have CB1 := Lib.hid cb1; have CB2 := Lib.hid cb2; have CW := Lib.hid cw; have X0 := Lib.hid x0; have HE := Lib.hid hE
  clear k1 k2 cb1 cb2 cw x0 hE hz1 hz2 hS1 hS2 h1 h2 cp hb hb' hneg
  go_enter Tryz.func28, Tryz.ntmps28
  go_wp2_with fail
  refine (CW.out _ (HE.out.below X0.out.bel)).mono ?_
  rintro en w9 ⟨rfl, bb9⟩
  have x9 := X0.out.step bb9
  obtain ⟨d0, d1, a0, a1, a2, c0, c1, c2, f0, f1, f2, h0, h1, h2⟩ := x9.cells
  have X9 := Lib.hid x9
  clear x9 bb9
  have s0d := X9.out.drew
  clear X0
  go_upto_region 3 with fail
  clear d0 d1 a0 a1 a2 c0 c1 c2 f0 f1 f2 h0 h1 h2
  obtain ⟨d0, d1, a0, a1, a2, c0, c1, c2, f0, f1, f2, h0, h1, h2⟩ := s0d.cells
  go_cut [] (fun wx => T2x w w.heap.size k tn u1 n1 S1 u2 n2 S2 wx)
  case first =>
    go_region_with (first | ((with_reducible refine (K1.out _).mono ?_); rintro en w1 ⟨rfl, bb1⟩; have x1 := T2x.step (by assumption) bb1; obtain ⟨d0, d1, a0, a1, a2, c0, c1, c2, f0, f1, f2, h0, h1, h2⟩ := x1.cells) | ((with_reducible refine (K2.out _).mono ?_); rintro en w1 ⟨rfl, bb1⟩; have x1 := T2x.step (by assumption) bb1; obtain ⟨d0, d1, a0, a1, a2, c0, c1, c2, f0, f1, f2, h0, h1, h2⟩ := x1.cells))
    all_goals (go_wp2_with fail; go_meet; exact T2x.set (by assumption) _ _)
  case rest =>
    have x0 : T2x w w.heap.size k tn u1 n1 S1 u2 n2 S2 _ := hcut
    clear s0d
    clear d0 d1 a0 a1 a2 c0 c1 c2 f0 f1 f2 h0 h1 h2
    obtain ⟨d0, d1, a0, a1, a2, c0, c1, c2, f0, f1, f2, h0, h1, h2⟩ := x0.cells
    have X2 := Lib.hid x0
    clear x0 hcut
    go_wp2_with fail
    refine (CB1.out _ (HE.out.below X2.out.bel)).mono ?_
    rintro en w3 ⟨rfl, bb3⟩
    have x3 := X2.out.step bb3
    clear d0 d1 a0 a1 a2 c0 c1 c2 f0 f1 f2 h0 h1 h2
    obtain ⟨d0, d1, a0, a1, a2, c0, c1, c2, f0, f1, f2, h0, h1, h2⟩ := x3.cells
    have X3 := Lib.hid x3
    clear x3 bb3
    go_wp2_with fail
    refine (CB2.out _ (HE.out.below X3.out.bel)).mono ?_
    rintro en w4 ⟨rfl, bb4⟩
    have x4 := X3.out.step bb4
    clear d0 d1 a0 a1 a2 c0 c1 c2 f0 f1 f2 h0 h1 h2
    obtain ⟨d0, d1, a0, a1, a2, c0, c1, c2, f0, f1, f2, h0, h1, h2⟩ := x4.cells
    have X4 := Lib.hid x4
    clear x4 bb4
    go_wp2_with fail
    refine (CP.out _).mono ?_
    rintro en w5 ⟨rfl, bb5⟩
    have x5 := X4.out.step bb5
    clear d0 d1 a0 a1 a2 c0 c1 c2 f0 f1 f2 h0 h1 h2
    obtain ⟨d0, d1, a0, a1, a2, c0, c1, c2, f0, f1, f2, h0, h1, h2⟩ := x5.cells
    have X5 := Lib.hid x5
    clear x5 bb5
    go_wp2_with fail
    refine (CH1.out _).mono ?_
    rintro en w6 ⟨rfl, hw6⟩
    subst hw6
    go_wp2_with fail
    refine (CH2.out _).mono ?_
    rintro en w7 ⟨rfl, hw7⟩
    subst hw7
    go_wp2_with fail
    go_ret
    exact ⟨rfl, X5.out.bel⟩
set_option maxRecDepth 100000 in
set_option maxHeartbeats 4000000 in
theorem cellBits_eq (k : Int) (tn u1 : Bool) (n1 : Int) (A1 : ByteArray) (u2 : Bool) (n2 : Int) (A2 : ByteArray) (w : World) (hE : Env w) (S1 S2 : ByteArray) (hS1 : cutS A1 = S1) (hS2 : cutS A2 = S2) (h1 : kCheck k tn u1 n1 S1.data.toList = 0) (h2 : kCheck k tn u2 n2 S2.data.toList = 0) (h3 : kCmp u1 n1 S1.data.toList u2 n2 S2.data.toList = 0) :
    Calls Tryz.prog 28 #[.agg #[.int .i64 k, .bool tn], .agg #[.bool u1, .int .i64 n1, .string A1], .agg #[.bool u2, .int .i64 n2, .string A2]] w fun e w' => e = .returned (.bool true) ∧ Below w.heap.size w w' := by
  have hz1 := cutS_size A1
  have hz2 := cutS_size A2
  have k1 := fun w => cut_any u1 n1 A1 w
  have k2 := fun w => cut_any u2 n2 A2 w
  rw [hS1] at hz1 k1
  rw [hS2] at hz2 k2
  have cb1 := fun w' (hE' : Env w') => kbits_any k tn u1 n1 S1 w' (by omega) hE'
  have cb2 := fun w' (hE' : Env w') => kbits_any k tn u2 n2 S2 w' (by omega) hE'
  have cw := fun w' (hE' : Env w') => kworks_any w' hE'
  have x0 := T2x.start w k tn u1 n1 A1 u2 n2 A2
  have hb := bitsD_cmp h1 h2
  have hb' := bitsD_cmp h2 h1
  have cp := fun w' => compare_any u1 u2 n1 n2 S1 S2 w'
  rw [h1] at cb1
  rw [h2] at cb2
  have hneg := cmp_neg u1 n1 S1.data.toList u2 n2 S2.data.toList
  rw [hneg] at hb'
  generalize kCmp u1 n1 S1.data.toList u2 n2 S2.data.toList = c at *
  generalize kBitsD k tn u1 n1 S1.data.toList = X at *
  generalize kBitsD k tn u2 n2 S2.data.toList = Y at *
  have hXl : (⟨X.toArray⟩ : ByteArray).data.toList = X := rfl
  have hYl : (⟨Y.toArray⟩ : ByteArray).data.toList = Y := rfl
  generalize (⟨X.toArray⟩ : ByteArray) = XB at *
  generalize (⟨Y.toArray⟩ : ByteArray) = YB at *
  subst hXl hYl
  have q1 : Op.bytesLess XB.toList YB.toList = decide (c < 0) := by rw [Lib.toList_data, Lib.toList_data, bl_cb, hb.1]
  subst h3
  have hxy : XB = YB := by rw [ba_ext (s := XB) rfl, ba_ext (s := YB) rfl, cb_zero hb.1]
  subst hxy
  rw [decide_eq_false (by omega)] at q1
  have CP := Lib.hid cp
  have K1 := Lib.hid k1; have K2 := Lib.hid k2; have CB1 := Lib.hid cb1; have CB2 := Lib.hid cb2; have CW := Lib.hid cw; have X0 := Lib.hid x0; have HE := Lib.hid hE
  clear k1 k2 cb1 cb2 cw x0 hE hz1 hz2 hS1 hS2 h1 h2 cp hb hb' hneg
  go_enter Tryz.func28, Tryz.ntmps28
  go_wp2_with fail
  refine (CW.out _ (HE.out.below X0.out.bel)).mono ?_
  rintro en w9 ⟨rfl, bb9⟩
  have x9 := X0.out.step bb9
  obtain ⟨d0, d1, a0, a1, a2, c0, c1, c2, f0, f1, f2, h0, h1, h2⟩ := x9.cells
  have X9 := Lib.hid x9
  clear x9 bb9
  have s0d := X9.out.drew
  clear X0
  go_upto_region 3 with fail
  clear d0 d1 a0 a1 a2 c0 c1 c2 f0 f1 f2 h0 h1 h2
  obtain ⟨d0, d1, a0, a1, a2, c0, c1, c2, f0, f1, f2, h0, h1, h2⟩ := s0d.cells
  go_cut [] (fun wx => T2x w w.heap.size k tn u1 n1 S1 u2 n2 S2 wx)
  case first =>
    go_region_with (first | ((with_reducible refine (K1.out _).mono ?_); rintro en w1 ⟨rfl, bb1⟩; have x1 := T2x.step (by assumption) bb1; obtain ⟨d0, d1, a0, a1, a2, c0, c1, c2, f0, f1, f2, h0, h1, h2⟩ := x1.cells) | ((with_reducible refine (K2.out _).mono ?_); rintro en w1 ⟨rfl, bb1⟩; have x1 := T2x.step (by assumption) bb1; obtain ⟨d0, d1, a0, a1, a2, c0, c1, c2, f0, f1, f2, h0, h1, h2⟩ := x1.cells))
    all_goals (go_wp2_with fail; go_meet; exact T2x.set (by assumption) _ _)
  case rest =>
    have x0 : T2x w w.heap.size k tn u1 n1 S1 u2 n2 S2 _ := hcut
    clear s0d
    clear d0 d1 a0 a1 a2 c0 c1 c2 f0 f1 f2 h0 h1 h2
    obtain ⟨d0, d1, a0, a1, a2, c0, c1, c2, f0, f1, f2, h0, h1, h2⟩ := x0.cells
    have X2 := Lib.hid x0
    clear x0 hcut
    go_wp2_with fail
    refine (CB1.out _ (HE.out.below X2.out.bel)).mono ?_
    rintro en w3 ⟨rfl, bb3⟩
    have x3 := X2.out.step bb3
    clear d0 d1 a0 a1 a2 c0 c1 c2 f0 f1 f2 h0 h1 h2
    obtain ⟨d0, d1, a0, a1, a2, c0, c1, c2, f0, f1, f2, h0, h1, h2⟩ := x3.cells
    have X3 := Lib.hid x3
    clear x3 bb3
    go_wp2_with fail
    refine (CB2.out _ (HE.out.below X3.out.bel)).mono ?_
    rintro en w4 ⟨rfl, bb4⟩
    have x4 := X3.out.step bb4
    clear d0 d1 a0 a1 a2 c0 c1 c2 f0 f1 f2 h0 h1 h2
    obtain ⟨d0, d1, a0, a1, a2, c0, c1, c2, f0, f1, f2, h0, h1, h2⟩ := x4.cells
    have X4 := Lib.hid x4
    clear x4 bb4
    go_wp2_with fail
    refine (CP.out _).mono ?_
    rintro en w5 ⟨rfl, bb5⟩
    have x5 := X4.out.step bb5
    clear d0 d1 a0 a1 a2 c0 c1 c2 f0 f1 f2 h0 h1 h2
    obtain ⟨d0, d1, a0, a1, a2, c0, c1, c2, f0, f1, f2, h0, h1, h2⟩ := x5.cells
    have X5 := Lib.hid x5
    clear x5 bb5
    go_wp2_with fail
    go_ret
    exact ⟨rfl, X5.out.bel⟩
set_option maxRecDepth 100000 in
set_option maxHeartbeats 4000000 in
theorem cellBits_gt (k : Int) (tn u1 : Bool) (n1 : Int) (A1 : ByteArray) (u2 : Bool) (n2 : Int) (A2 : ByteArray) (w : World) (hE : Env w) (S1 S2 : ByteArray) (hS1 : cutS A1 = S1) (hS2 : cutS A2 = S2) (h1 : kCheck k tn u1 n1 S1.data.toList = 0) (h2 : kCheck k tn u2 n2 S2.data.toList = 0) (h3 : 0 < kCmp u1 n1 S1.data.toList u2 n2 S2.data.toList) :
    Calls Tryz.prog 28 #[.agg #[.int .i64 k, .bool tn], .agg #[.bool u1, .int .i64 n1, .string A1], .agg #[.bool u2, .int .i64 n2, .string A2]] w fun e w' => e = .returned (.bool true) ∧ Below w.heap.size w w' := by
  have hz1 := cutS_size A1
  have hz2 := cutS_size A2
  have k1 := fun w => cut_any u1 n1 A1 w
  have k2 := fun w => cut_any u2 n2 A2 w
  rw [hS1] at hz1 k1
  rw [hS2] at hz2 k2
  have cb1 := fun w' (hE' : Env w') => kbits_any k tn u1 n1 S1 w' (by omega) hE'
  have cb2 := fun w' (hE' : Env w') => kbits_any k tn u2 n2 S2 w' (by omega) hE'
  have cw := fun w' (hE' : Env w') => kworks_any w' hE'
  have x0 := T2x.start w k tn u1 n1 A1 u2 n2 A2
  have hb := bitsD_cmp h1 h2
  have hb' := bitsD_cmp h2 h1
  have cp := fun w' => compare_any u1 u2 n1 n2 S1 S2 w'
  rw [h1] at cb1
  rw [h2] at cb2
  have hneg := cmp_neg u1 n1 S1.data.toList u2 n2 S2.data.toList
  rw [hneg] at hb'
  generalize kCmp u1 n1 S1.data.toList u2 n2 S2.data.toList = c at *
  generalize kBitsD k tn u1 n1 S1.data.toList = X at *
  generalize kBitsD k tn u2 n2 S2.data.toList = Y at *
  have hXl : (⟨X.toArray⟩ : ByteArray).data.toList = X := rfl
  have hYl : (⟨Y.toArray⟩ : ByteArray).data.toList = Y := rfl
  generalize (⟨X.toArray⟩ : ByteArray) = XB at *
  generalize (⟨Y.toArray⟩ : ByteArray) = YB at *
  subst hXl hYl
  have q1 : Op.bytesLess XB.toList YB.toList = decide (c < 0) := by rw [Lib.toList_data, Lib.toList_data, bl_cb, hb.1]
  have hne : XB.data.toList ≠ YB.data.toList := by
    intro e
    rw [e, cb_self] at hb
    have := hb.1
    omega
  have q2 : (XB.toList == YB.toList) = false := by rw [Lib.toList_data, Lib.toList_data, beq_eq_false_iff_ne]; exact hne
  have q3 : ¬ XB.toList = YB.toList := by rw [Lib.toList_data, Lib.toList_data]; exact hne
  have q4 : (c == 0) = false := by rw [beq_eq_false_iff_ne]; omega
  rw [decide_eq_false (by omega)] at q1
  have q5 : decide (c < 0) = false := decide_eq_false (by omega)
  have ch1 := fun w => Tryz.strings_HasPrefix XB YB w
  have ch2 := fun w => Tryz.strings_HasPrefix YB XB w
  have p1 : Lib.hasPrefix XB.data.toList YB.data.toList = false := by
    cases h : Lib.hasPrefix XB.data.toList YB.data.toList with
    | false => rfl
    | true => have := hb'.2 h; omega
  have p2 : Lib.hasPrefix YB.data.toList XB.data.toList = false := by
    cases h : Lib.hasPrefix YB.data.toList XB.data.toList with
    | false => rfl
    | true => have := hb.2 h; omega
  rw [p1] at ch1
  rw [p2] at ch2
  have CH1 := Lib.hid ch1; have CH2 := Lib.hid ch2
  clear ch1 ch2 p1 p2 hne
  have CP := Lib.hid cp
  have K1 := Lib.hid k1; have K2 := Lib.hid k2; have CB1 := Lib.hid cb1; have CB2 := Lib.hid cb2; have CW := Lib.hid cw; have X0 := Lib.hid x0; have HE := Lib.hid hE
  clear k1 k2 cb1 cb2 cw x0 hE hz1 hz2 hS1 hS2 h1 h2 cp hb hb' hneg
  go_enter Tryz.func28, Tryz.ntmps28
  go_wp2_with fail
  refine (CW.out _ (HE.out.below X0.out.bel)).mono ?_
  rintro en w9 ⟨rfl, bb9⟩
  have x9 := X0.out.step bb9
  obtain ⟨d0, d1, a0, a1, a2, c0, c1, c2, f0, f1, f2, h0, h1, h2⟩ := x9.cells
  have X9 := Lib.hid x9
  clear x9 bb9
  have s0d := X9.out.drew
  clear X0
  go_upto_region 3 with fail
  clear d0 d1 a0 a1 a2 c0 c1 c2 f0 f1 f2 h0 h1 h2
  obtain ⟨d0, d1, a0, a1, a2, c0, c1, c2, f0, f1, f2, h0, h1, h2⟩ := s0d.cells
  go_cut [] (fun wx => T2x w w.heap.size k tn u1 n1 S1 u2 n2 S2 wx)
  case first =>
    go_region_with (first | ((with_reducible refine (K1.out _).mono ?_); rintro en w1 ⟨rfl, bb1⟩; have x1 := T2x.step (by assumption) bb1; obtain ⟨d0, d1, a0, a1, a2, c0, c1, c2, f0, f1, f2, h0, h1, h2⟩ := x1.cells) | ((with_reducible refine (K2.out _).mono ?_); rintro en w1 ⟨rfl, bb1⟩; have x1 := T2x.step (by assumption) bb1; obtain ⟨d0, d1, a0, a1, a2, c0, c1, c2, f0, f1, f2, h0, h1, h2⟩ := x1.cells))
    all_goals (go_wp2_with fail; go_meet; exact T2x.set (by assumption) _ _)
  case rest =>
    have x0 : T2x w w.heap.size k tn u1 n1 S1 u2 n2 S2 _ := hcut
    clear s0d
    clear d0 d1 a0 a1 a2 c0 c1 c2 f0 f1 f2 h0 h1 h2
    obtain ⟨d0, d1, a0, a1, a2, c0, c1, c2, f0, f1, f2, h0, h1, h2⟩ := x0.cells
    have X2 := Lib.hid x0
    clear x0 hcut
    go_wp2_with fail
    refine (CB1.out _ (HE.out.below X2.out.bel)).mono ?_
    rintro en w3 ⟨rfl, bb3⟩
    have x3 := X2.out.step bb3
    clear d0 d1 a0 a1 a2 c0 c1 c2 f0 f1 f2 h0 h1 h2
    obtain ⟨d0, d1, a0, a1, a2, c0, c1, c2, f0, f1, f2, h0, h1, h2⟩ := x3.cells
    have X3 := Lib.hid x3
    clear x3 bb3
    go_wp2_with fail
    refine (CB2.out _ (HE.out.below X3.out.bel)).mono ?_
    rintro en w4 ⟨rfl, bb4⟩
    have x4 := X3.out.step bb4
    clear d0 d1 a0 a1 a2 c0 c1 c2 f0 f1 f2 h0 h1 h2
    obtain ⟨d0, d1, a0, a1, a2, c0, c1, c2, f0, f1, f2, h0, h1, h2⟩ := x4.cells
    have X4 := Lib.hid x4
    clear x4 bb4
    go_wp2_with fail
    refine (CP.out _).mono ?_
    rintro en w5 ⟨rfl, bb5⟩
    have x5 := X4.out.step bb5
    clear d0 d1 a0 a1 a2 c0 c1 c2 f0 f1 f2 h0 h1 h2
    obtain ⟨d0, d1, a0, a1, a2, c0, c1, c2, f0, f1, f2, h0, h1, h2⟩ := x5.cells
    have X5 := Lib.hid x5
    clear x5 bb5
    go_wp2_with fail
    refine (CH1.out _).mono ?_
    rintro en w6 ⟨rfl, hw6⟩
    subst hw6
    go_wp2_with fail
    refine (CH2.out _).mono ?_
    rintro en w7 ⟨rfl, hw7⟩
    subst hw7
    go_wp2_with fail
    go_ret
    exact ⟨rfl, X5.out.bel⟩
theorem cellBits_walk (k : Int) (tn u1 : Bool) (n1 : Int) (A1 : ByteArray) (u2 : Bool) (n2 : Int) (A2 : ByteArray) (w : World) (hE : Env w) :
    Calls Tryz.prog 28 #[.agg #[.int .i64 k, .bool tn], .agg #[.bool u1, .int .i64 n1, .string A1], .agg #[.bool u2, .int .i64 n2, .string A2]] w fun e w' => e = .returned (.bool true) ∧ Below w.heap.size w w' := by
  by_cases h1 : kCheck k tn u1 n1 (cutS A1).data.toList = 0
  · by_cases h2 : kCheck k tn u2 n2 (cutS A2).data.toList = 0
    · rcases Int.lt_trichotomy (kCmp u1 n1 (cutS A1).data.toList u2 n2 (cutS A2).data.toList) 0 with h3 | h3 | h3
      · exact cellBits_lt k tn u1 n1 A1 u2 n2 A2 w hE _ _ rfl rfl h1 h2 h3
      · exact cellBits_eq k tn u1 n1 A1 u2 n2 A2 w hE _ _ rfl rfl h1 h2 h3
      · exact cellBits_gt k tn u1 n1 A1 u2 n2 A2 w hE _ _ rfl rfl h1 h2 h3
    · exact cellBits_e2 k tn u1 n1 A1 u2 n2 A2 w hE _ _ rfl rfl h1 h2
  · exact cellBits_e1 k tn u1 n1 A1 u2 n2 A2 w hE _ _ rfl rfl h1
end Go.Proofs.YtcdmiiaamajfoaaGreatDoor
