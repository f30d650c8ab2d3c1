/- CellWider: the walk. -/
import Derived.Test.YtklpmghdiflcbaaGreatDoorZG3
import Derived.Deep.RegionHeld3
set_option linter.unusedVariables false
namespace Go.Ms
open Go.Lib
theorem zero_ok {k : Int} (tn : Bool) (hk : kMay k = true) : kCheck k tn tn 0 [] = 0 := by
  refine check_of hk ?_
  cases tn with
  | true => rfl
  | false => rcases may_cases hk with rfl | rfl | rfl | rfl | rfl <;> rfl
theorem check_wide (tn : Bool) {n : Int} (h0 : -9223372036854775808 ≤ n) (h1 : n ≤ 9223372036854775807) : kCheck 3 tn false n [] = 0 :=
  check_of rfl (by simp [kOk, kIs, h0, h1])
theorem check_small (tn : Bool) {n : Int} (h0 : -2147483648 ≤ n) (h1 : n ≤ 2147483647) : kCheck 2 tn false n [] = 0 :=
  check_of rfl (by simp [kOk, kIs, h0, h1])
theorem check_big (tn : Bool) {n : Int} (h : ¬ (-2147483648 ≤ n ∧ n ≤ 2147483647)) : kCheck 2 tn false n [] = 90 := by
  unfold kCheck
  rw [if_pos (show kMay 2 = true by decide), if_neg]
  simp only [kOk, kIs, Bool.false_eq_true, if_false, show ¬ (2 : Int) = 1 by decide, if_true, decide_true, Bool.true_and, Bool.and_eq_true, decide_eq_true_iff]
  exact h
theorem check_none2 {k : Int} (hk : kMay k = false) (tn nu : Bool) (n : Int) (s : Bs) : kCheck k tn nu n s = 2 := by unfold kCheck; rw [if_neg (by simp [hk])]
end Go.Ms
namespace Go.Proofs.YtklpmghdiflcbaaGreatDoor
open Go.RowKit Go.Ms Go.Lib
theorem cfield0 (x0 x1 x2 : Value) (w : World) : (Instr.field 25 (.agg #[x0, x1, x2]) 0).run Tryz.prog w = .ok x0 w := by kernel_rfl

set_option maxRecDepth 100000 in
set_option maxHeartbeats 4000000 in
theorem wider_sm (k : Int) (tn : Bool) (n : Int) (w : World) (hE : Env w) (b0 : -9223372036854775808 ≤ n) (b1 : n ≤ 9223372036854775807) (h1 : -2147483648 ≤ n) (h2 : n < 2147483648) (hk : kMay k = true) :
    Calls Tryz.prog 9 #[.agg #[.int .i64 k, .bool tn], .int .i64 n] w fun e w' => e = .returned (.bool true) ∧ Below w.heap.size w w' := by
  obtain ⟨Y, hY⟩ : ∃ Y : ByteArray, (⟨(kBitsD 3 tn false n []).toArray⟩ : ByteArray) = Y := ⟨_, rfl⟩
  obtain ⟨Q, hQ⟩ : ∃ Q : ByteArray, (⟨(kTextD 3 tn false n []).toArray⟩ : ByteArray) = Q := ⟨_, rfl⟩
  have cb3 : ∀ w', Env w' → Calls Tryz.prog 15 #[.agg #[.int .i64 3, .bool tn], .agg #[.bool false, .int .i64 n, .string ⟨#[]⟩]] w' fun e w'' => e = .returned (.tuple #[.string Y, .int .i64 0]) ∧ Below w'.heap.size w' w'' := by
    intro w' hE'
    have h := kbits_any 3 tn false n ⟨#[]⟩ w' (by decide) hE'
    have hc : kCheck 3 tn false n (⟨#[]⟩ : ByteArray).data.toList = 0 := check_wide tn b0 b1
    rw [hc] at h
    have h2 : (⟨(kBitsD 3 tn false n (⟨#[]⟩ : ByteArray).data.toList).toArray⟩ : ByteArray) = Y := hY
    rw [h2] at h
    exact h
  have ct3 : ∀ w', Env w' → Calls Tryz.prog 13 #[.agg #[.int .i64 3, .bool tn], .agg #[.bool false, .int .i64 n, .string ⟨#[]⟩]] w' fun e w'' => e = .returned (.tuple #[.string Q, .int .i64 0]) ∧ Below w'.heap.size w' w'' := by
    intro w' hE'
    have h := ktext_any 3 tn false n ⟨#[]⟩ w' (by decide) hE'
    have hc : kCheck 3 tn false n (⟨#[]⟩ : ByteArray).data.toList = 0 := check_wide tn b0 b1
    rw [hc] at h
    have h2 : (⟨(kTextD 3 tn false n (⟨#[]⟩ : ByteArray).data.toList).toArray⟩ : ByteArray) = Q := hQ
    rw [h2] at h
    exact h
  have cb2 : ∀ w', Env w' → Calls Tryz.prog 15 #[.agg #[.int .i64 2, .bool tn], .agg #[.bool false, .int .i64 n, .string ⟨#[]⟩]] w' fun e w'' => e = .returned (.tuple #[.string Y, .int .i64 0]) ∧ Below w'.heap.size w' w'' := by
    intro w' hE'
    have h := kbits_any 2 tn false n ⟨#[]⟩ w' (by decide) hE'
    have hc : kCheck 2 tn false n (⟨#[]⟩ : ByteArray).data.toList = 0 := check_small tn h1 (by omega)
    rw [hc] at h
    have h2 : (⟨(kBitsD 2 tn false n (⟨#[]⟩ : ByteArray).data.toList).toArray⟩ : ByteArray) = Y := by
      rw [← hY]
      have e : kBitsD 2 tn false n (⟨#[]⟩ : ByteArray).data.toList = kBitsD 3 tn false n [] := by
        unfold kBitsD
        rw [if_pos hc, if_pos (check_wide tn b0 b1)]
        rfl
      rw [e]
    rw [h2] at h
    exact h
  have ct2 : ∀ w', Env w' → Calls Tryz.prog 13 #[.agg #[.int .i64 2, .bool tn], .agg #[.bool false, .int .i64 n, .string ⟨#[]⟩]] w' fun e w'' => e = .returned (.tuple #[.string Q, .int .i64 0]) ∧ Below w'.heap.size w' w'' := by
    intro w' hE'
    have h := ktext_any 2 tn false n ⟨#[]⟩ w' (by decide) hE'
    have hc : kCheck 2 tn false n (⟨#[]⟩ : ByteArray).data.toList = 0 := check_small tn h1 (by omega)
    rw [hc] at h
    have h2 : (⟨(kTextD 2 tn false n (⟨#[]⟩ : ByteArray).data.toList).toArray⟩ : ByteArray) = Q := by
      rw [← hQ]
      have e : kTextD 2 tn false n (⟨#[]⟩ : ByteArray).data.toList = kTextD 3 tn false n [] := by
        unfold kTextD
        rw [if_pos hc, if_pos (check_wide tn b0 b1)]
        rfl
      rw [e]
    rw [h2] at h
    exact h
  have cm := fun w' => may_any k tn w'
  have cz := fun w' => zero_any k tn w'
  rw [hk] at cm cz
  simp only [Bool.true_and] at cz
  have cc : ∀ w', Env w' → Calls Tryz.prog 23 #[.agg #[.int .i64 k, .bool tn], .agg #[.bool tn, .int .i64 0, .string ⟨#[]⟩]] w' fun e w'' => e = .returned (.int .i64 0) ∧ Below w'.heap.size w' w'' := by
    intro w' hE'
    have h := kcheck_any k tn tn 0 ⟨#[]⟩ w' (by decide) hE'
    have hc : kCheck k tn tn 0 (⟨#[]⟩ : ByteArray).data.toList = 0 := zero_ok tn hk
    rw [hc] at h
    exact h
  have x0 := TBx.start w k tn false n ⟨#[]⟩
  have kf := cfield0
  have hw := fun w' (hE' : Env w') => kworks_any w' hE'
  have CB2 := Lib.hid cb2; have CB3 := Lib.hid cb3; have CT2 := Lib.hid ct2; have CT3 := Lib.hid ct3; have CM := Lib.hid cm; have CZ := Lib.hid cz; have CC := Lib.hid cc; have CW := Lib.hid hw; have X0 := Lib.hid x0; have HE := Lib.hid hE
  clear cb2 cb3 ct2 ct3 cm cz cc hw x0 hE hY hQ hk
  go_enter Tryz.func9, Tryz.ntmps9
  go_wp2_with fail
  refine (CB2.out _ (HE.out.below X0.out.bel)).mono ?_
  rintro en w1 ⟨rfl, bb1⟩
  have x1 := X0.out.step bb1
  obtain ⟨d0, d1, a0, a1, a2, f0, f1, f2, l0, l1⟩ := x1.cells
  have X1 := Lib.hid x1
  clear x1 bb1
  go_wp2_with fail
  refine (CB3.out _ (HE.out.below X1.out.bel)).mono ?_
  rintro en w2 ⟨rfl, bb2⟩
  have x2 := X1.out.step bb2
  clear d0 d1 a0 a1 a2 f0 f1 f2 l0 l1
  obtain ⟨d0, d1, a0, a1, a2, f0, f1, f2, l0, l1⟩ := x2.cells
  have X2 := Lib.hid x2
  clear x2 bb2
  go_wp2_with fail
  refine (CT2.out _ (HE.out.below X2.out.bel)).mono ?_
  rintro en w3 ⟨rfl, bb3⟩
  have x3 := X2.out.step bb3
  clear d0 d1 a0 a1 a2 f0 f1 f2 l0 l1
  obtain ⟨d0, d1, a0, a1, a2, f0, f1, f2, l0, l1⟩ := x3.cells
  have X3 := Lib.hid x3
  clear x3 bb3
  go_wp2_with fail
  refine (CT3.out _ (HE.out.below X3.out.bel)).mono ?_
  rintro en w4 ⟨rfl, bb4⟩
  have x4 := X3.out.step bb4
  clear d0 d1 a0 a1 a2 f0 f1 f2 l0 l1
  obtain ⟨d0, d1, a0, a1, a2, f0, f1, f2, l0, l1⟩ := x4.cells
  have X4 := Lib.hid x4
  clear x4 bb4
  go_wp2_with fail
  refine (CM.out _).mono ?_
  rintro en w5 ⟨rfl, bb5⟩
  have x5 := X4.out.step bb5
  clear d0 d1 a0 a1 a2 f0 f1 f2 l0 l1
  obtain ⟨d0, d1, a0, a1, a2, f0, f1, f2, l0, l1⟩ := x5.cells
  have X5 := Lib.hid x5
  have hD : (w5.drew.cell? ⟨w.heap.size, 0, none⟩ = some (.int .i64 k) ∧ w5.drew.cell? ⟨w.heap.size, 1, none⟩ = some (.bool tn)) ∧ Below w5.heap.size w5 w5.drew := ⟨⟨d0, d1⟩, below_drewN (Below.refl _ _) 1⟩
  have HD := Lib.hid hD
  clear x5 bb5 hD
  go_wp2_with fail
  go_region_held3 (fun w' => (w'.cell? ⟨w.heap.size, 0, none⟩ = some (.int .i64 k) ∧ w'.cell? ⟨w.heap.size, 1, none⟩ = some (.bool tn)) ∧ Below w5.heap.size w5 w')
    (first
      | exact HD.out
      | exact keep2 HD.out bb
      | exact keep2 (by assumption) bb
      | (go_keep; done))
    ((first | ((with_reducible refine (CZ.out _).mono ?_); rintro en w6 ⟨rfl, bb⟩) | ((with_reducible refine (CC.out _ ?_).mono ?_); exact HE.out.below (endTC X5.out.bel X5.out.bel.size (by assumption)); rintro en w7 ⟨rfl, bb⟩) | ((with_reducible refine (CW.out _ ?_).mono ?_); exact HE.out.below (endTC X5.out.bel X5.out.bel.size (by assumption)); rintro en w8 ⟨rfl, bb⟩)))
  all_goals
    go_wp2_with fail
    go_ret
    exact ⟨rfl, endTC X5.out.bel X5.out.bel.size (by assumption)⟩
set_option maxRecDepth 100000 in
set_option maxHeartbeats 4000000 in
theorem wider_sn (k : Int) (tn : Bool) (n : Int) (w : World) (hE : Env w) (b0 : -9223372036854775808 ≤ n) (b1 : n ≤ 9223372036854775807) (h1 : -2147483648 ≤ n) (h2 : n < 2147483648) (hk : kMay k = false) :
    Calls Tryz.prog 9 #[.agg #[.int .i64 k, .bool tn], .int .i64 n] w fun e w' => e = .returned (.bool true) ∧ Below w.heap.size w w' := by
  obtain ⟨Y, hY⟩ : ∃ Y : ByteArray, (⟨(kBitsD 3 tn false n []).toArray⟩ : ByteArray) = Y := ⟨_, rfl⟩
  obtain ⟨Q, hQ⟩ : ∃ Q : ByteArray, (⟨(kTextD 3 tn false n []).toArray⟩ : ByteArray) = Q := ⟨_, rfl⟩
  have cb3 : ∀ w', Env w' → Calls Tryz.prog 15 #[.agg #[.int .i64 3, .bool tn], .agg #[.bool false, .int .i64 n, .string ⟨#[]⟩]] w' fun e w'' => e = .returned (.tuple #[.string Y, .int .i64 0]) ∧ Below w'.heap.size w' w'' := by
    intro w' hE'
    have h := kbits_any 3 tn false n ⟨#[]⟩ w' (by decide) hE'
    have hc : kCheck 3 tn false n (⟨#[]⟩ : ByteArray).data.toList = 0 := check_wide tn b0 b1
    rw [hc] at h
    have h2 : (⟨(kBitsD 3 tn false n (⟨#[]⟩ : ByteArray).data.toList).toArray⟩ : ByteArray) = Y := hY
    rw [h2] at h
    exact h
  have ct3 : ∀ w', Env w' → Calls Tryz.prog 13 #[.agg #[.int .i64 3, .bool tn], .agg #[.bool false, .int .i64 n, .string ⟨#[]⟩]] w' fun e w'' => e = .returned (.tuple #[.string Q, .int .i64 0]) ∧ Below w'.heap.size w' w'' := by
    intro w' hE'
    have h := ktext_any 3 tn false n ⟨#[]⟩ w' (by decide) hE'
    have hc : kCheck 3 tn false n (⟨#[]⟩ : ByteArray).data.toList = 0 := check_wide tn b0 b1
    rw [hc] at h
    have h2 : (⟨(kTextD 3 tn false n (⟨#[]⟩ : ByteArray).data.toList).toArray⟩ : ByteArray) = Q := hQ
    rw [h2] at h
    exact h
  have cb2 : ∀ w', Env w' → Calls Tryz.prog 15 #[.agg #[.int .i64 2, .bool tn], .agg #[.bool false, .int .i64 n, .string ⟨#[]⟩]] w' fun e w'' => e = .returned (.tuple #[.string Y, .int .i64 0]) ∧ Below w'.heap.size w' w'' := by
    intro w' hE'
    have h := kbits_any 2 tn false n ⟨#[]⟩ w' (by decide) hE'
    have hc : kCheck 2 tn false n (⟨#[]⟩ : ByteArray).data.toList = 0 := check_small tn h1 (by omega)
    rw [hc] at h
    have h2 : (⟨(kBitsD 2 tn false n (⟨#[]⟩ : ByteArray).data.toList).toArray⟩ : ByteArray) = Y := by
      rw [← hY]
      have e : kBitsD 2 tn false n (⟨#[]⟩ : ByteArray).data.toList = kBitsD 3 tn false n [] := by
        unfold kBitsD
        rw [if_pos hc, if_pos (check_wide tn b0 b1)]
        rfl
      rw [e]
    rw [h2] at h
    exact h
  have ct2 : ∀ w', Env w' → Calls Tryz.prog 13 #[.agg #[.int .i64 2, .bool tn], .agg #[.bool false, .int .i64 n, .string ⟨#[]⟩]] w' fun e w'' => e = .returned (.tuple #[.string Q, .int .i64 0]) ∧ Below w'.heap.size w' w'' := by
    intro w' hE'
    have h := ktext_any 2 tn false n ⟨#[]⟩ w' (by decide) hE'
    have hc : kCheck 2 tn false n (⟨#[]⟩ : ByteArray).data.toList = 0 := check_small tn h1 (by omega)
    rw [hc] at h
    have h2 : (⟨(kTextD 2 tn false n (⟨#[]⟩ : ByteArray).data.toList).toArray⟩ : ByteArray) = Q := by
      rw [← hQ]
      have e : kTextD 2 tn false n (⟨#[]⟩ : ByteArray).data.toList = kTextD 3 tn false n [] := by
        unfold kTextD
        rw [if_pos hc, if_pos (check_wide tn b0 b1)]
        rfl
      rw [e]
    rw [h2] at h
    exact h
  have cm := fun w' => may_any k tn w'
  have cz := fun w' => zero_any k tn w'
  rw [hk] at cm cz
  simp only [Bool.false_and] at cz
  have cc : ∀ w', Env w' → Calls Tryz.prog 23 #[.agg #[.int .i64 k, .bool tn], .agg #[.bool false, .int .i64 n, .string ⟨#[]⟩]] w' fun e w'' => e = .returned (.int .i64 2) ∧ Below w'.heap.size w' w'' := by
    intro w' hE'
    have h := kcheck_any k tn false n ⟨#[]⟩ w' (by decide) hE'
    rw [check_none2 hk] at h
    exact h
  have x0 := TBx.start w k tn false n ⟨#[]⟩
  have kf := cfield0
  have hw := fun w' (hE' : Env w') => kworks_any w' hE'
  have CB2 := Lib.hid cb2; have CB3 := Lib.hid cb3; have CT2 := Lib.hid ct2; have CT3 := Lib.hid ct3; have CM := Lib.hid cm; have CZ := Lib.hid cz; have CC := Lib.hid cc; have CW := Lib.hid hw; have X0 := Lib.hid x0; have HE := Lib.hid hE
  clear cb2 cb3 ct2 ct3 cm cz cc hw x0 hE hY hQ hk
  go_enter Tryz.func9, Tryz.ntmps9
  go_wp2_with fail
  refine (CB2.out _ (HE.out.below X0.out.bel)).mono ?_
  rintro en w1 ⟨rfl, bb1⟩
  have x1 := X0.out.step bb1
  obtain ⟨d0, d1, a0, a1, a2, f0, f1, f2, l0, l1⟩ := x1.cells
  have X1 := Lib.hid x1
  clear x1 bb1
  go_wp2_with fail
  refine (CB3.out _ (HE.out.below X1.out.bel)).mono ?_
  rintro en w2 ⟨rfl, bb2⟩
  have x2 := X1.out.step bb2
  clear d0 d1 a0 a1 a2 f0 f1 f2 l0 l1
  obtain ⟨d0, d1, a0, a1, a2, f0, f1, f2, l0, l1⟩ := x2.cells
  have X2 := Lib.hid x2
  clear x2 bb2
  go_wp2_with fail
  refine (CT2.out _ (HE.out.below X2.out.bel)).mono ?_
  rintro en w3 ⟨rfl, bb3⟩
  have x3 := X2.out.step bb3
  clear d0 d1 a0 a1 a2 f0 f1 f2 l0 l1
  obtain ⟨d0, d1, a0, a1, a2, f0, f1, f2, l0, l1⟩ := x3.cells
  have X3 := Lib.hid x3
  clear x3 bb3
  go_wp2_with fail
  refine (CT3.out _ (HE.out.below X3.out.bel)).mono ?_
  rintro en w4 ⟨rfl, bb4⟩
  have x4 := X3.out.step bb4
  clear d0 d1 a0 a1 a2 f0 f1 f2 l0 l1
  obtain ⟨d0, d1, a0, a1, a2, f0, f1, f2, l0, l1⟩ := x4.cells
  have X4 := Lib.hid x4
  clear x4 bb4
  go_wp2_with fail
  refine (CM.out _).mono ?_
  rintro en w5 ⟨rfl, bb5⟩
  have x5 := X4.out.step bb5
  clear d0 d1 a0 a1 a2 f0 f1 f2 l0 l1
  obtain ⟨d0, d1, a0, a1, a2, f0, f1, f2, l0, l1⟩ := x5.cells
  have X5 := Lib.hid x5
  clear x5 bb5
  go_wp2_with fail
  refine (CZ.out _).mono ?_
  rintro en w6 ⟨rfl, bb6⟩
  have x6 := X5.out.step bb6
  clear d0 d1 a0 a1 a2 f0 f1 f2 l0 l1
  obtain ⟨d0, d1, a0, a1, a2, f0, f1, f2, l0, l1⟩ := x6.cells
  have X6 := Lib.hid x6
  clear x6 bb6
  go_wp2_with fail
  refine (CC.out _ (HE.out.below X6.out.bel)).mono ?_
  rintro en w7 ⟨rfl, bb7⟩
  have x7 := X6.out.step bb7
  clear d0 d1 a0 a1 a2 f0 f1 f2 l0 l1
  obtain ⟨d0, d1, a0, a1, a2, f0, f1, f2, l0, l1⟩ := x7.cells
  have X7 := Lib.hid x7
  clear x7 bb7
  go_wp2_with fail
  refine (CW.out _ (HE.out.below X7.out.bel)).mono ?_
  rintro en w9 ⟨rfl, b9⟩
  go_wp2_with fail
  go_ret
  exact ⟨rfl, X7.out.bel.trans (b9.mono X7.out.bel.size)⟩
set_option maxRecDepth 100000 in
set_option maxHeartbeats 4000000 in
theorem wider_lm (k : Int) (tn : Bool) (n : Int) (w : World) (hE : Env w) (b0 : -9223372036854775808 ≤ n) (b1 : n ≤ 9223372036854775807) (h1 : ¬ -2147483648 ≤ n) (hk : kMay k = true) :
    Calls Tryz.prog 9 #[.agg #[.int .i64 k, .bool tn], .int .i64 n] w fun e w' => e = .returned (.bool true) ∧ Below w.heap.size w w' := by
  obtain ⟨Y, hY⟩ : ∃ Y : ByteArray, (⟨(kBitsD 3 tn false n []).toArray⟩ : ByteArray) = Y := ⟨_, rfl⟩
  obtain ⟨Q, hQ⟩ : ∃ Q : ByteArray, (⟨(kTextD 3 tn false n []).toArray⟩ : ByteArray) = Q := ⟨_, rfl⟩
  have cb3 : ∀ w', Env w' → Calls Tryz.prog 15 #[.agg #[.int .i64 3, .bool tn], .agg #[.bool false, .int .i64 n, .string ⟨#[]⟩]] w' fun e w'' => e = .returned (.tuple #[.string Y, .int .i64 0]) ∧ Below w'.heap.size w' w'' := by
    intro w' hE'
    have h := kbits_any 3 tn false n ⟨#[]⟩ w' (by decide) hE'
    have hc : kCheck 3 tn false n (⟨#[]⟩ : ByteArray).data.toList = 0 := check_wide tn b0 b1
    rw [hc] at h
    have h2 : (⟨(kBitsD 3 tn false n (⟨#[]⟩ : ByteArray).data.toList).toArray⟩ : ByteArray) = Y := hY
    rw [h2] at h
    exact h
  have ct3 : ∀ w', Env w' → Calls Tryz.prog 13 #[.agg #[.int .i64 3, .bool tn], .agg #[.bool false, .int .i64 n, .string ⟨#[]⟩]] w' fun e w'' => e = .returned (.tuple #[.string Q, .int .i64 0]) ∧ Below w'.heap.size w' w'' := by
    intro w' hE'
    have h := ktext_any 3 tn false n ⟨#[]⟩ w' (by decide) hE'
    have hc : kCheck 3 tn false n (⟨#[]⟩ : ByteArray).data.toList = 0 := check_wide tn b0 b1
    rw [hc] at h
    have h2 : (⟨(kTextD 3 tn false n (⟨#[]⟩ : ByteArray).data.toList).toArray⟩ : ByteArray) = Q := hQ
    rw [h2] at h
    exact h
  have cb2 : ∀ w', Env w' → Calls Tryz.prog 15 #[.agg #[.int .i64 2, .bool tn], .agg #[.bool false, .int .i64 n, .string ⟨#[]⟩]] w' fun e w'' => e = .returned (.tuple #[.string ⟨#[]⟩, .int .i64 90]) ∧ Below w'.heap.size w' w'' := by
    intro w' hE'
    have h := kbits_any 2 tn false n ⟨#[]⟩ w' (by decide) hE'
    have hc : kCheck 2 tn false n (⟨#[]⟩ : ByteArray).data.toList = 90 := check_big tn (by omega)
    rw [hc] at h
    have h2 : kBitsD 2 tn false n (⟨#[]⟩ : ByteArray).data.toList = [] := by unfold kBitsD; rw [if_neg (by rw [hc]; decide)]
    rw [h2] at h
    exact h
  have ct2 : ∀ w', Env w' → Calls Tryz.prog 13 #[.agg #[.int .i64 2, .bool tn], .agg #[.bool false, .int .i64 n, .string ⟨#[]⟩]] w' fun e w'' => e = .returned (.tuple #[.string ⟨#[]⟩, .int .i64 90]) ∧ Below w'.heap.size w' w'' := by
    intro w' hE'
    have h := ktext_any 2 tn false n ⟨#[]⟩ w' (by decide) hE'
    have hc : kCheck 2 tn false n (⟨#[]⟩ : ByteArray).data.toList = 90 := check_big tn (by omega)
    rw [hc] at h
    have h2 : kTextD 2 tn false n (⟨#[]⟩ : ByteArray).data.toList = [] := by unfold kTextD; rw [if_neg (by rw [hc]; decide)]
    rw [h2] at h
    exact h
  have cm := fun w' => may_any k tn w'
  have cz := fun w' => zero_any k tn w'
  rw [hk] at cm cz
  simp only [Bool.true_and] at cz
  have cc : ∀ w', Env w' → Calls Tryz.prog 23 #[.agg #[.int .i64 k, .bool tn], .agg #[.bool tn, .int .i64 0, .string ⟨#[]⟩]] w' fun e w'' => e = .returned (.int .i64 0) ∧ Below w'.heap.size w' w'' := by
    intro w' hE'
    have h := kcheck_any k tn tn 0 ⟨#[]⟩ w' (by decide) hE'
    have hc : kCheck k tn tn 0 (⟨#[]⟩ : ByteArray).data.toList = 0 := zero_ok tn hk
    rw [hc] at h
    exact h
  have x0 := TBx.start w k tn false n ⟨#[]⟩
  have kf := cfield0
  have hw := fun w' (hE' : Env w') => kworks_any w' hE'
  have CB2 := Lib.hid cb2; have CB3 := Lib.hid cb3; have CT2 := Lib.hid ct2; have CT3 := Lib.hid ct3; have CM := Lib.hid cm; have CZ := Lib.hid cz; have CC := Lib.hid cc; have CW := Lib.hid hw; have X0 := Lib.hid x0; have HE := Lib.hid hE
  clear cb2 cb3 ct2 ct3 cm cz cc hw x0 hE hY hQ hk
  go_enter Tryz.func9, Tryz.ntmps9
  go_wp2_with fail
  refine (CB2.out _ (HE.out.below X0.out.bel)).mono ?_
  rintro en w1 ⟨rfl, bb1⟩
  have x1 := X0.out.step bb1
  obtain ⟨d0, d1, a0, a1, a2, f0, f1, f2, l0, l1⟩ := x1.cells
  have X1 := Lib.hid x1
  clear x1 bb1
  go_wp2_with fail
  refine (CB3.out _ (HE.out.below X1.out.bel)).mono ?_
  rintro en w2 ⟨rfl, bb2⟩
  have x2 := X1.out.step bb2
  clear d0 d1 a0 a1 a2 f0 f1 f2 l0 l1
  obtain ⟨d0, d1, a0, a1, a2, f0, f1, f2, l0, l1⟩ := x2.cells
  have X2 := Lib.hid x2
  clear x2 bb2
  go_wp2_with fail
  refine (CT2.out _ (HE.out.below X2.out.bel)).mono ?_
  rintro en w3 ⟨rfl, bb3⟩
  have x3 := X2.out.step bb3
  clear d0 d1 a0 a1 a2 f0 f1 f2 l0 l1
  obtain ⟨d0, d1, a0, a1, a2, f0, f1, f2, l0, l1⟩ := x3.cells
  have X3 := Lib.hid x3
  clear x3 bb3
  go_wp2_with fail
  refine (CT3.out _ (HE.out.below X3.out.bel)).mono ?_
  rintro en w4 ⟨rfl, bb4⟩
  have x4 := X3.out.step bb4
  clear d0 d1 a0 a1 a2 f0 f1 f2 l0 l1
  obtain ⟨d0, d1, a0, a1, a2, f0, f1, f2, l0, l1⟩ := x4.cells
  have X4 := Lib.hid x4
  clear x4 bb4
  go_wp2_with fail
  refine (CM.out _).mono ?_
  rintro en w5 ⟨rfl, bb5⟩
  have x5 := X4.out.step bb5
  clear d0 d1 a0 a1 a2 f0 f1 f2 l0 l1
  obtain ⟨d0, d1, a0, a1, a2, f0, f1, f2, l0, l1⟩ := x5.cells
  have X5 := Lib.hid x5
  have hD : (w5.drew.cell? ⟨w.heap.size, 0, none⟩ = some (.int .i64 k) ∧ w5.drew.cell? ⟨w.heap.size, 1, none⟩ = some (.bool tn)) ∧ Below w5.heap.size w5 w5.drew := ⟨⟨d0, d1⟩, below_drewN (Below.refl _ _) 1⟩
  have HD := Lib.hid hD
  clear x5 bb5 hD
  go_wp2_with fail
  go_region_held3 (fun w' => (w'.cell? ⟨w.heap.size, 0, none⟩ = some (.int .i64 k) ∧ w'.cell? ⟨w.heap.size, 1, none⟩ = some (.bool tn)) ∧ Below w5.heap.size w5 w')
    (first
      | exact HD.out
      | exact keep2 HD.out bb
      | exact keep2 (by assumption) bb
      | (go_keep; done))
    ((first | ((with_reducible refine (CZ.out _).mono ?_); rintro en w6 ⟨rfl, bb⟩) | ((with_reducible refine (CC.out _ ?_).mono ?_); exact HE.out.below (endTC X5.out.bel X5.out.bel.size (by assumption)); rintro en w7 ⟨rfl, bb⟩) | ((with_reducible refine (CW.out _ ?_).mono ?_); exact HE.out.below (endTC X5.out.bel X5.out.bel.size (by assumption)); rintro en w8 ⟨rfl, bb⟩)))
  all_goals
    go_wp2_with fail
    go_ret
    exact ⟨rfl, endTC X5.out.bel X5.out.bel.size (by assumption)⟩
set_option maxRecDepth 100000 in
set_option maxHeartbeats 4000000 in
theorem wider_ln (k : Int) (tn : Bool) (n : Int) (w : World) (hE : Env w) (b0 : -9223372036854775808 ≤ n) (b1 : n ≤ 9223372036854775807) (h1 : ¬ -2147483648 ≤ n) (hk : kMay k = false) :
    Calls Tryz.prog 9 #[.agg #[.int .i64 k, .bool tn], .int .i64 n] w fun e w' => e = .returned (.bool true) ∧ Below w.heap.size w w' := by
  obtain ⟨Y, hY⟩ : ∃ Y : ByteArray, (⟨(kBitsD 3 tn false n []).toArray⟩ : ByteArray) = Y := ⟨_, rfl⟩
  obtain ⟨Q, hQ⟩ : ∃ Q : ByteArray, (⟨(kTextD 3 tn false n []).toArray⟩ : ByteArray) = Q := ⟨_, rfl⟩
  have cb3 : ∀ w', Env w' → Calls Tryz.prog 15 #[.agg #[.int .i64 3, .bool tn], .agg #[.bool false, .int .i64 n, .string ⟨#[]⟩]] w' fun e w'' => e = .returned (.tuple #[.string Y, .int .i64 0]) ∧ Below w'.heap.size w' w'' := by
    intro w' hE'
    have h := kbits_any 3 tn false n ⟨#[]⟩ w' (by decide) hE'
    have hc : kCheck 3 tn false n (⟨#[]⟩ : ByteArray).data.toList = 0 := check_wide tn b0 b1
    rw [hc] at h
    have h2 : (⟨(kBitsD 3 tn false n (⟨#[]⟩ : ByteArray).data.toList).toArray⟩ : ByteArray) = Y := hY
    rw [h2] at h
    exact h
  have ct3 : ∀ w', Env w' → Calls Tryz.prog 13 #[.agg #[.int .i64 3, .bool tn], .agg #[.bool false, .int .i64 n, .string ⟨#[]⟩]] w' fun e w'' => e = .returned (.tuple #[.string Q, .int .i64 0]) ∧ Below w'.heap.size w' w'' := by
    intro w' hE'
    have h := ktext_any 3 tn false n ⟨#[]⟩ w' (by decide) hE'
    have hc : kCheck 3 tn false n (⟨#[]⟩ : ByteArray).data.toList = 0 := check_wide tn b0 b1
    rw [hc] at h
    have h2 : (⟨(kTextD 3 tn false n (⟨#[]⟩ : ByteArray).data.toList).toArray⟩ : ByteArray) = Q := hQ
    rw [h2] at h
    exact h
  have cb2 : ∀ w', Env w' → Calls Tryz.prog 15 #[.agg #[.int .i64 2, .bool tn], .agg #[.bool false, .int .i64 n, .string ⟨#[]⟩]] w' fun e w'' => e = .returned (.tuple #[.string ⟨#[]⟩, .int .i64 90]) ∧ Below w'.heap.size w' w'' := by
    intro w' hE'
    have h := kbits_any 2 tn false n ⟨#[]⟩ w' (by decide) hE'
    have hc : kCheck 2 tn false n (⟨#[]⟩ : ByteArray).data.toList = 90 := check_big tn (by omega)
    rw [hc] at h
    have h2 : kBitsD 2 tn false n (⟨#[]⟩ : ByteArray).data.toList = [] := by unfold kBitsD; rw [if_neg (by rw [hc]; decide)]
    rw [h2] at h
    exact h
  have ct2 : ∀ w', Env w' → Calls Tryz.prog 13 #[.agg #[.int .i64 2, .bool tn], .agg #[.bool false, .int .i64 n, .string ⟨#[]⟩]] w' fun e w'' => e = .returned (.tuple #[.string ⟨#[]⟩, .int .i64 90]) ∧ Below w'.heap.size w' w'' := by
    intro w' hE'
    have h := ktext_any 2 tn false n ⟨#[]⟩ w' (by decide) hE'
    have hc : kCheck 2 tn false n (⟨#[]⟩ : ByteArray).data.toList = 90 := check_big tn (by omega)
    rw [hc] at h
    have h2 : kTextD 2 tn false n (⟨#[]⟩ : ByteArray).data.toList = [] := by unfold kTextD; rw [if_neg (by rw [hc]; decide)]
    rw [h2] at h
    exact h
  have cm := fun w' => may_any k tn w'
  have cz := fun w' => zero_any k tn w'
  rw [hk] at cm cz
  simp only [Bool.false_and] at cz
  have cc : ∀ w', Env w' → Calls Tryz.prog 23 #[.agg #[.int .i64 k, .bool tn], .agg #[.bool false, .int .i64 n, .string ⟨#[]⟩]] w' fun e w'' => e = .returned (.int .i64 2) ∧ Below w'.heap.size w' w'' := by
    intro w' hE'
    have h := kcheck_any k tn false n ⟨#[]⟩ w' (by decide) hE'
    rw [check_none2 hk] at h
    exact h
  have x0 := TBx.start w k tn false n ⟨#[]⟩
  have kf := cfield0
  have hw := fun w' (hE' : Env w') => kworks_any w' hE'
  have CB2 := Lib.hid cb2; have CB3 := Lib.hid cb3; have CT2 := Lib.hid ct2; have CT3 := Lib.hid ct3; have CM := Lib.hid cm; have CZ := Lib.hid cz; have CC := Lib.hid cc; have CW := Lib.hid hw; have X0 := Lib.hid x0; have HE := Lib.hid hE
  clear cb2 cb3 ct2 ct3 cm cz cc hw x0 hE hY hQ hk
  go_enter Tryz.func9, Tryz.ntmps9
  go_wp2_with fail
  refine (CB2.out _ (HE.out.below X0.out.bel)).mono ?_
  rintro en w1 ⟨rfl, bb1⟩
  have x1 := X0.out.step bb1
  obtain ⟨d0, d1, a0, a1, a2, f0, f1, f2, l0, l1⟩ := x1.cells
  have X1 := Lib.hid x1
  clear x1 bb1
  go_wp2_with fail
  refine (CB3.out _ (HE.out.below X1.out.bel)).mono ?_
  rintro en w2 ⟨rfl, bb2⟩
  have x2 := X1.out.step bb2
  clear d0 d1 a0 a1 a2 f0 f1 f2 l0 l1
  obtain ⟨d0, d1, a0, a1, a2, f0, f1, f2, l0, l1⟩ := x2.cells
  have X2 := Lib.hid x2
  clear x2 bb2
  go_wp2_with fail
  refine (CT2.out _ (HE.out.below X2.out.bel)).mono ?_
  rintro en w3 ⟨rfl, bb3⟩
  have x3 := X2.out.step bb3
  clear d0 d1 a0 a1 a2 f0 f1 f2 l0 l1
  obtain ⟨d0, d1, a0, a1, a2, f0, f1, f2, l0, l1⟩ := x3.cells
  have X3 := Lib.hid x3
  clear x3 bb3
  go_wp2_with fail
  refine (CT3.out _ (HE.out.below X3.out.bel)).mono ?_
  rintro en w4 ⟨rfl, bb4⟩
  have x4 := X3.out.step bb4
  clear d0 d1 a0 a1 a2 f0 f1 f2 l0 l1
  obtain ⟨d0, d1, a0, a1, a2, f0, f1, f2, l0, l1⟩ := x4.cells
  have X4 := Lib.hid x4
  clear x4 bb4
  go_wp2_with fail
  refine (CM.out _).mono ?_
  rintro en w5 ⟨rfl, bb5⟩
  have x5 := X4.out.step bb5
  clear d0 d1 a0 a1 a2 f0 f1 f2 l0 l1
  obtain ⟨d0, d1, a0, a1, a2, f0, f1, f2, l0, l1⟩ := x5.cells
  have X5 := Lib.hid x5
  clear x5 bb5
  go_wp2_with fail
  refine (CZ.out _).mono ?_
  rintro en w6 ⟨rfl, bb6⟩
  have x6 := X5.out.step bb6
  clear d0 d1 a0 a1 a2 f0 f1 f2 l0 l1
  obtain ⟨d0, d1, a0, a1, a2, f0, f1, f2, l0, l1⟩ := x6.cells
  have X6 := Lib.hid x6
  clear x6 bb6
  go_wp2_with fail
  refine (CC.out _ (HE.out.below X6.out.bel)).mono ?_
  rintro en w7 ⟨rfl, bb7⟩
  have x7 := X6.out.step bb7
  clear d0 d1 a0 a1 a2 f0 f1 f2 l0 l1
  obtain ⟨d0, d1, a0, a1, a2, f0, f1, f2, l0, l1⟩ := x7.cells
  have X7 := Lib.hid x7
  clear x7 bb7
  go_wp2_with fail
  refine (CW.out _ (HE.out.below X7.out.bel)).mono ?_
  rintro en w9 ⟨rfl, b9⟩
  go_wp2_with fail
  go_ret
  exact ⟨rfl, X7.out.bel.trans (b9.mono X7.out.bel.size)⟩
set_option maxRecDepth 100000 in
set_option maxHeartbeats 4000000 in
theorem wider_hm (k : Int) (tn : Bool) (n : Int) (w : World) (hE : Env w) (b0 : -9223372036854775808 ≤ n) (b1 : n ≤ 9223372036854775807) (h1 : -2147483648 ≤ n) (h2 : ¬ n < 2147483648) (hk : kMay k = true) :
    Calls Tryz.prog 9 #[.agg #[.int .i64 k, .bool tn], .int .i64 n] w fun e w' => e = .returned (.bool true) ∧ Below w.heap.size w w' := by
  obtain ⟨Y, hY⟩ : ∃ Y : ByteArray, (⟨(kBitsD 3 tn false n []).toArray⟩ : ByteArray) = Y := ⟨_, rfl⟩
  obtain ⟨Q, hQ⟩ : ∃ Q : ByteArray, (⟨(kTextD 3 tn false n []).toArray⟩ : ByteArray) = Q := ⟨_, rfl⟩
  have cb3 : ∀ w', Env w' → Calls Tryz.prog 15 #[.agg #[.int .i64 3, .bool tn], .agg #[.bool false, .int .i64 n, .string ⟨#[]⟩]] w' fun e w'' => e = .returned (.tuple #[.string Y, .int .i64 0]) ∧ Below w'.heap.size w' w'' := by
    intro w' hE'
    have h := kbits_any 3 tn false n ⟨#[]⟩ w' (by decide) hE'
    have hc : kCheck 3 tn false n (⟨#[]⟩ : ByteArray).data.toList = 0 := check_wide tn b0 b1
    rw [hc] at h
    have h2 : (⟨(kBitsD 3 tn false n (⟨#[]⟩ : ByteArray).data.toList).toArray⟩ : ByteArray) = Y := hY
    rw [h2] at h
    exact h
  have ct3 : ∀ w', Env w' → Calls Tryz.prog 13 #[.agg #[.int .i64 3, .bool tn], .agg #[.bool false, .int .i64 n, .string ⟨#[]⟩]] w' fun e w'' => e = .returned (.tuple #[.string Q, .int .i64 0]) ∧ Below w'.heap.size w' w'' := by
    intro w' hE'
    have h := ktext_any 3 tn false n ⟨#[]⟩ w' (by decide) hE'
    have hc : kCheck 3 tn false n (⟨#[]⟩ : ByteArray).data.toList = 0 := check_wide tn b0 b1
    rw [hc] at h
    have h2 : (⟨(kTextD 3 tn false n (⟨#[]⟩ : ByteArray).data.toList).toArray⟩ : ByteArray) = Q := hQ
    rw [h2] at h
    exact h
  have cb2 : ∀ w', Env w' → Calls Tryz.prog 15 #[.agg #[.int .i64 2, .bool tn], .agg #[.bool false, .int .i64 n, .string ⟨#[]⟩]] w' fun e w'' => e = .returned (.tuple #[.string ⟨#[]⟩, .int .i64 90]) ∧ Below w'.heap.size w' w'' := by
    intro w' hE'
    have h := kbits_any 2 tn false n ⟨#[]⟩ w' (by decide) hE'
    have hc : kCheck 2 tn false n (⟨#[]⟩ : ByteArray).data.toList = 90 := check_big tn (by omega)
    rw [hc] at h
    have h2 : kBitsD 2 tn false n (⟨#[]⟩ : ByteArray).data.toList = [] := by unfold kBitsD; rw [if_neg (by rw [hc]; decide)]
    rw [h2] at h
    exact h
  have ct2 : ∀ w', Env w' → Calls Tryz.prog 13 #[.agg #[.int .i64 2, .bool tn], .agg #[.bool false, .int .i64 n, .string ⟨#[]⟩]] w' fun e w'' => e = .returned (.tuple #[.string ⟨#[]⟩, .int .i64 90]) ∧ Below w'.heap.size w' w'' := by
    intro w' hE'
    have h := ktext_any 2 tn false n ⟨#[]⟩ w' (by decide) hE'
    have hc : kCheck 2 tn false n (⟨#[]⟩ : ByteArray).data.toList = 90 := check_big tn (by omega)
    rw [hc] at h
    have h2 : kTextD 2 tn false n (⟨#[]⟩ : ByteArray).data.toList = [] := by unfold kTextD; rw [if_neg (by rw [hc]; decide)]
    rw [h2] at h
    exact h
  have cm := fun w' => may_any k tn w'
  have cz := fun w' => zero_any k tn w'
  rw [hk] at cm cz
  simp only [Bool.true_and] at cz
  have cc : ∀ w', Env w' → Calls Tryz.prog 23 #[.agg #[.int .i64 k, .bool tn], .agg #[.bool tn, .int .i64 0, .string ⟨#[]⟩]] w' fun e w'' => e = .returned (.int .i64 0) ∧ Below w'.heap.size w' w'' := by
    intro w' hE'
    have h := kcheck_any k tn tn 0 ⟨#[]⟩ w' (by decide) hE'
    have hc : kCheck k tn tn 0 (⟨#[]⟩ : ByteArray).data.toList = 0 := zero_ok tn hk
    rw [hc] at h
    exact h
  have x0 := TBx.start w k tn false n ⟨#[]⟩
  have kf := cfield0
  have hw := fun w' (hE' : Env w') => kworks_any w' hE'
  have CB2 := Lib.hid cb2; have CB3 := Lib.hid cb3; have CT2 := Lib.hid ct2; have CT3 := Lib.hid ct3; have CM := Lib.hid cm; have CZ := Lib.hid cz; have CC := Lib.hid cc; have CW := Lib.hid hw; have X0 := Lib.hid x0; have HE := Lib.hid hE
  clear cb2 cb3 ct2 ct3 cm cz cc hw x0 hE hY hQ hk
  go_enter Tryz.func9, Tryz.ntmps9
  go_wp2_with fail
  refine (CB2.out _ (HE.out.below X0.out.bel)).mono ?_
  rintro en w1 ⟨rfl, bb1⟩
  have x1 := X0.out.step bb1
  obtain ⟨d0, d1, a0, a1, a2, f0, f1, f2, l0, l1⟩ := x1.cells
  have X1 := Lib.hid x1
  clear x1 bb1
  go_wp2_with fail
  refine (CB3.out _ (HE.out.below X1.out.bel)).mono ?_
  rintro en w2 ⟨rfl, bb2⟩
  have x2 := X1.out.step bb2
  clear d0 d1 a0 a1 a2 f0 f1 f2 l0 l1
  obtain ⟨d0, d1, a0, a1, a2, f0, f1, f2, l0, l1⟩ := x2.cells
  have X2 := Lib.hid x2
  clear x2 bb2
  go_wp2_with fail
  refine (CT2.out _ (HE.out.below X2.out.bel)).mono ?_
  rintro en w3 ⟨rfl, bb3⟩
  have x3 := X2.out.step bb3
  clear d0 d1 a0 a1 a2 f0 f1 f2 l0 l1
  obtain ⟨d0, d1, a0, a1, a2, f0, f1, f2, l0, l1⟩ := x3.cells
  have X3 := Lib.hid x3
  clear x3 bb3
  go_wp2_with fail
  refine (CT3.out _ (HE.out.below X3.out.bel)).mono ?_
  rintro en w4 ⟨rfl, bb4⟩
  have x4 := X3.out.step bb4
  clear d0 d1 a0 a1 a2 f0 f1 f2 l0 l1
  obtain ⟨d0, d1, a0, a1, a2, f0, f1, f2, l0, l1⟩ := x4.cells
  have X4 := Lib.hid x4
  clear x4 bb4
  go_wp2_with fail
  refine (CM.out _).mono ?_
  rintro en w5 ⟨rfl, bb5⟩
  have x5 := X4.out.step bb5
  clear d0 d1 a0 a1 a2 f0 f1 f2 l0 l1
  obtain ⟨d0, d1, a0, a1, a2, f0, f1, f2, l0, l1⟩ := x5.cells
  have X5 := Lib.hid x5
  have hD : (w5.drew.cell? ⟨w.heap.size, 0, none⟩ = some (.int .i64 k) ∧ w5.drew.cell? ⟨w.heap.size, 1, none⟩ = some (.bool tn)) ∧ Below w5.heap.size w5 w5.drew := ⟨⟨d0, d1⟩, below_drewN (Below.refl _ _) 1⟩
  have HD := Lib.hid hD
  clear x5 bb5 hD
  go_wp2_with fail
  go_region_held3 (fun w' => (w'.cell? ⟨w.heap.size, 0, none⟩ = some (.int .i64 k) ∧ w'.cell? ⟨w.heap.size, 1, none⟩ = some (.bool tn)) ∧ Below w5.heap.size w5 w')
    (first
      | exact HD.out
      | exact keep2 HD.out bb
      | exact keep2 (by assumption) bb
      | (go_keep; done))
    ((first | ((with_reducible refine (CZ.out _).mono ?_); rintro en w6 ⟨rfl, bb⟩) | ((with_reducible refine (CC.out _ ?_).mono ?_); exact HE.out.below (endTC X5.out.bel X5.out.bel.size (by assumption)); rintro en w7 ⟨rfl, bb⟩) | ((with_reducible refine (CW.out _ ?_).mono ?_); exact HE.out.below (endTC X5.out.bel X5.out.bel.size (by assumption)); rintro en w8 ⟨rfl, bb⟩)))
  all_goals
    go_wp2_with fail
    go_ret
    exact ⟨rfl, endTC X5.out.bel X5.out.bel.size (by assumption)⟩
set_option maxRecDepth 100000 in
set_option maxHeartbeats 4000000 in
theorem wider_hn (k : Int) (tn : Bool) (n : Int) (w : World) (hE : Env w) (b0 : -9223372036854775808 ≤ n) (b1 : n ≤ 9223372036854775807) (h1 : -2147483648 ≤ n) (h2 : ¬ n < 2147483648) (hk : kMay k = false) :
    Calls Tryz.prog 9 #[.agg #[.int .i64 k, .bool tn], .int .i64 n] w fun e w' => e = .returned (.bool true) ∧ Below w.heap.size w w' := by
  obtain ⟨Y, hY⟩ : ∃ Y : ByteArray, (⟨(kBitsD 3 tn false n []).toArray⟩ : ByteArray) = Y := ⟨_, rfl⟩
  obtain ⟨Q, hQ⟩ : ∃ Q : ByteArray, (⟨(kTextD 3 tn false n []).toArray⟩ : ByteArray) = Q := ⟨_, rfl⟩
  have cb3 : ∀ w', Env w' → Calls Tryz.prog 15 #[.agg #[.int .i64 3, .bool tn], .agg #[.bool false, .int .i64 n, .string ⟨#[]⟩]] w' fun e w'' => e = .returned (.tuple #[.string Y, .int .i64 0]) ∧ Below w'.heap.size w' w'' := by
    intro w' hE'
    have h := kbits_any 3 tn false n ⟨#[]⟩ w' (by decide) hE'
    have hc : kCheck 3 tn false n (⟨#[]⟩ : ByteArray).data.toList = 0 := check_wide tn b0 b1
    rw [hc] at h
    have h2 : (⟨(kBitsD 3 tn false n (⟨#[]⟩ : ByteArray).data.toList).toArray⟩ : ByteArray) = Y := hY
    rw [h2] at h
    exact h
  have ct3 : ∀ w', Env w' → Calls Tryz.prog 13 #[.agg #[.int .i64 3, .bool tn], .agg #[.bool false, .int .i64 n, .string ⟨#[]⟩]] w' fun e w'' => e = .returned (.tuple #[.string Q, .int .i64 0]) ∧ Below w'.heap.size w' w'' := by
    intro w' hE'
    have h := ktext_any 3 tn false n ⟨#[]⟩ w' (by decide) hE'
    have hc : kCheck 3 tn false n (⟨#[]⟩ : ByteArray).data.toList = 0 := check_wide tn b0 b1
    rw [hc] at h
    have h2 : (⟨(kTextD 3 tn false n (⟨#[]⟩ : ByteArray).data.toList).toArray⟩ : ByteArray) = Q := hQ
    rw [h2] at h
    exact h
  have cb2 : ∀ w', Env w' → Calls Tryz.prog 15 #[.agg #[.int .i64 2, .bool tn], .agg #[.bool false, .int .i64 n, .string ⟨#[]⟩]] w' fun e w'' => e = .returned (.tuple #[.string ⟨#[]⟩, .int .i64 90]) ∧ Below w'.heap.size w' w'' := by
    intro w' hE'
    have h := kbits_any 2 tn false n ⟨#[]⟩ w' (by decide) hE'
    have hc : kCheck 2 tn false n (⟨#[]⟩ : ByteArray).data.toList = 90 := check_big tn (by omega)
    rw [hc] at h
    have h2 : kBitsD 2 tn false n (⟨#[]⟩ : ByteArray).data.toList = [] := by unfold kBitsD; rw [if_neg (by rw [hc]; decide)]
    rw [h2] at h
    exact h
  have ct2 : ∀ w', Env w' → Calls Tryz.prog 13 #[.agg #[.int .i64 2, .bool tn], .agg #[.bool false, .int .i64 n, .string ⟨#[]⟩]] w' fun e w'' => e = .returned (.tuple #[.string ⟨#[]⟩, .int .i64 90]) ∧ Below w'.heap.size w' w'' := by
    intro w' hE'
    have h := ktext_any 2 tn false n ⟨#[]⟩ w' (by decide) hE'
    have hc : kCheck 2 tn false n (⟨#[]⟩ : ByteArray).data.toList = 90 := check_big tn (by omega)
    rw [hc] at h
    have h2 : kTextD 2 tn false n (⟨#[]⟩ : ByteArray).data.toList = [] := by unfold kTextD; rw [if_neg (by rw [hc]; decide)]
    rw [h2] at h
    exact h
  have cm := fun w' => may_any k tn w'
  have cz := fun w' => zero_any k tn w'
  rw [hk] at cm cz
  simp only [Bool.false_and] at cz
  have cc : ∀ w', Env w' → Calls Tryz.prog 23 #[.agg #[.int .i64 k, .bool tn], .agg #[.bool false, .int .i64 n, .string ⟨#[]⟩]] w' fun e w'' => e = .returned (.int .i64 2) ∧ Below w'.heap.size w' w'' := by
    intro w' hE'
    have h := kcheck_any k tn false n ⟨#[]⟩ w' (by decide) hE'
    rw [check_none2 hk] at h
    exact h
  have x0 := TBx.start w k tn false n ⟨#[]⟩
  have kf := cfield0
  have hw := fun w' (hE' : Env w') => kworks_any w' hE'
  have CB2 := Lib.hid cb2; have CB3 := Lib.hid cb3; have CT2 := Lib.hid ct2; have CT3 := Lib.hid ct3; have CM := Lib.hid cm; have CZ := Lib.hid cz; have CC := Lib.hid cc; have CW := Lib.hid hw; have X0 := Lib.hid x0; have HE := Lib.hid hE
  clear cb2 cb3 ct2 ct3 cm cz cc hw x0 hE hY hQ hk
  go_enter Tryz.func9, Tryz.ntmps9
  go_wp2_with fail
  refine (CB2.out _ (HE.out.below X0.out.bel)).mono ?_
  rintro en w1 ⟨rfl, bb1⟩
  have x1 := X0.out.step bb1
  obtain ⟨d0, d1, a0, a1, a2, f0, f1, f2, l0, l1⟩ := x1.cells
  have X1 := Lib.hid x1
  clear x1 bb1
  go_wp2_with fail
  refine (CB3.out _ (HE.out.below X1.out.bel)).mono ?_
  rintro en w2 ⟨rfl, bb2⟩
  have x2 := X1.out.step bb2
  clear d0 d1 a0 a1 a2 f0 f1 f2 l0 l1
  obtain ⟨d0, d1, a0, a1, a2, f0, f1, f2, l0, l1⟩ := x2.cells
  have X2 := Lib.hid x2
  clear x2 bb2
  go_wp2_with fail
  refine (CT2.out _ (HE.out.below X2.out.bel)).mono ?_
  rintro en w3 ⟨rfl, bb3⟩
  have x3 := X2.out.step bb3
  clear d0 d1 a0 a1 a2 f0 f1 f2 l0 l1
  obtain ⟨d0, d1, a0, a1, a2, f0, f1, f2, l0, l1⟩ := x3.cells
  have X3 := Lib.hid x3
  clear x3 bb3
  go_wp2_with fail
  refine (CT3.out _ (HE.out.below X3.out.bel)).mono ?_
  rintro en w4 ⟨rfl, bb4⟩
  have x4 := X3.out.step bb4
  clear d0 d1 a0 a1 a2 f0 f1 f2 l0 l1
  obtain ⟨d0, d1, a0, a1, a2, f0, f1, f2, l0, l1⟩ := x4.cells
  have X4 := Lib.hid x4
  clear x4 bb4
  go_wp2_with fail
  refine (CM.out _).mono ?_
  rintro en w5 ⟨rfl, bb5⟩
  have x5 := X4.out.step bb5
  clear d0 d1 a0 a1 a2 f0 f1 f2 l0 l1
  obtain ⟨d0, d1, a0, a1, a2, f0, f1, f2, l0, l1⟩ := x5.cells
  have X5 := Lib.hid x5
  clear x5 bb5
  go_wp2_with fail
  refine (CZ.out _).mono ?_
  rintro en w6 ⟨rfl, bb6⟩
  have x6 := X5.out.step bb6
  clear d0 d1 a0 a1 a2 f0 f1 f2 l0 l1
  obtain ⟨d0, d1, a0, a1, a2, f0, f1, f2, l0, l1⟩ := x6.cells
  have X6 := Lib.hid x6
  clear x6 bb6
  go_wp2_with fail
  refine (CC.out _ (HE.out.below X6.out.bel)).mono ?_
  rintro en w7 ⟨rfl, bb7⟩
  have x7 := X6.out.step bb7
  clear d0 d1 a0 a1 a2 f0 f1 f2 l0 l1
  obtain ⟨d0, d1, a0, a1, a2, f0, f1, f2, l0, l1⟩ := x7.cells
  have X7 := Lib.hid x7
  clear x7 bb7
  go_wp2_with fail
  refine (CW.out _ (HE.out.below X7.out.bel)).mono ?_
  rintro en w9 ⟨rfl, b9⟩
  go_wp2_with fail
  go_ret
  exact ⟨rfl, X7.out.bel.trans (b9.mono X7.out.bel.size)⟩
theorem cellWider_walk (k : Int) (tn : Bool) (n : Int) (w : World) (hn : (Lit.int .i64 n).wf = true) (hE : Env w) :
    Calls Tryz.prog 9 #[.agg #[.int .i64 k, .bool tn], .int .i64 n] w fun e w' => e = .returned (.bool true) ∧ Below w.heap.size w w' := by
  have b : -9223372036854775808 ≤ n ∧ n ≤ 9223372036854775807 := by
    simpa [Lit.wf, IntKind.min, IntKind.max, IntKind.signed, IntKind.bits] using hn
  obtain ⟨b0, b1⟩ := b
  cases hk : kMay k with
  | true =>
    by_cases h1 : -2147483648 ≤ n
    · by_cases h2 : n < 2147483648
      · exact wider_sm k tn n w hE b0 b1 h1 h2 hk
      · exact wider_hm k tn n w hE b0 b1 h1 h2 hk
    · exact wider_lm k tn n w hE b0 b1 h1 hk
  | false =>
    by_cases h1 : -2147483648 ≤ n
    · by_cases h2 : n < 2147483648
      · exact wider_sn k tn n w hE b0 b1 h1 h2 hk
      · exact wider_hn k tn n w hE b0 b1 h1 h2 hk
    · exact wider_ln k tn n w hE b0 b1 h1 hk
end Go.Proofs.YtklpmghdiflcbaaGreatDoor
