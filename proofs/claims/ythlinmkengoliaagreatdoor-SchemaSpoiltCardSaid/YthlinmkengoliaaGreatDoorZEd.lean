/- Cells: what is checked. Cells: what is checked, at nothing; whole. -/
import Derived.Test.YthlinmkengoliaaGreatDoorZEc
import Derived.Deep.RegionHeld3
set_option linter.unusedVariables false
namespace Go.Proofs.YthlinmkengoliaaGreatDoor
open Go.RowKit Go.Ms Go.Lib
theorem keepTC {W w1 w2 : World} {p1 p2 p3 p4 p5 : Addr} {v1 v2 v3 v4 v5 : Value} (h : (w1.cell? p1 = some v1 ∧ w1.cell? p2 = some v2 ∧ w1.cell? p3 = some v3 ∧ w1.cell? p4 = some v4 ∧ w1.cell? p5 = some v5) ∧ Below W.heap.size W w1) (hb : Below w1.heap.size w1 w2) :
    (w2.cell? p1 = some v1 ∧ w2.cell? p2 = some v2 ∧ w2.cell? p3 = some v3 ∧ w2.cell? p4 = some v4 ∧ w2.cell? p5 = some v5) ∧ Below W.heap.size W w2 := by
 obtain ⟨⟨a, b, c, d, e⟩, f⟩ := h; exact ⟨⟨by rw [hb.cell (cell_lt a)]; exact a, by rw [hb.cell (cell_lt b)]; exact b, by rw [hb.cell (cell_lt c)]; exact c, by rw [hb.cell (cell_lt d)]; exact d, by rw [hb.cell (cell_lt e)]; exact e⟩, f.trans (hb.mono f.size)⟩
theorem endTC {A : Prop} {B : Nat} {w w1 w2 : World} (x : Below B w w1) (hB : B ≤ w1.heap.size) (h : A ∧ Below w1.heap.size w1 w2) : Below B w w2 := x.trans (h.2.mono hB)
set_option maxRecDepth 100000 in
set_option maxHeartbeats 2000000 in
theorem check_s1 (tn : Bool) (n : Int) (S : ByteArray) (w : World) (hs : S.size ≤ 100000) (hE : Env w) :
    Calls Tryz.prog 44 #[.agg #[.int .i64 1, .bool tn], .agg #[.bool false, .int .i64 n, .string S]] w fun e w' => e = .returned (.int .i64 (if kIs 1 n S.data.toList = true then 0 else 90)) ∧ Below w.heap.size w w' := by
 have ci := fun a b w' (hp : Pl 0 1 a b w') => is_1 a b n false S w' hp
 have cm := fun w' => may_any 1 tn w'
 rw [show kMay 1 = true from rfl] at cm
 generalize kIs 1 n S.data.toList = B at *
 have b0 := Box2.start w #[.int .i64 1, .bool tn] #[.bool false, .int .i64 n, .string S] 33 35; have kf := kfield0
 have HB0 := Lib.hid b0; have CI := Lib.hid ci; have CM := Lib.hid cm; have HE := Lib.hid hE
 clear b0 ci cm hE
 cases B
 all_goals
  go_enter Tryz.func44, Tryz.ntmps44
  go_wp2_with fail
  refine (CM.out _).mono ?_; rintro en w1 ⟨rfl, b1⟩; have x1 := HB0.out.step b1; obtain ⟨c1, c2, c3, c4, c5⟩ := x1.tc; have e1 := HE.out.below x1.bel; have hD : (w1.drew.cell? ⟨w.heap.size, 0, none⟩ = some (.int .i64 1) ∧ w1.drew.cell? ⟨w.heap.size, 1, none⟩ = some (.bool tn) ∧ w1.drew.cell? ⟨w.heap.size + 1, 0, none⟩ = some (.bool false) ∧ w1.drew.cell? ⟨w.heap.size + 1, 1, none⟩ = some (.int .i64 n) ∧ w1.drew.cell? ⟨w.heap.size + 1, 2, none⟩ = some (.string S)) ∧ Below w1.heap.size w1 w1.drew := ⟨⟨c1, c2, c3, c4, c5⟩, ms_drewN (Below.refl _ _) 1⟩
  have HX1 := Lib.hid x1; have HE1 := Lib.hid e1; have HD := Lib.hid hD
  clear x1 e1 b1 hD
  go_wp2_with fail
  go_region_held3 (fun w' => (w'.cell? ⟨w.heap.size, 0, none⟩ = some (.int .i64 1) ∧ w'.cell? ⟨w.heap.size, 1, none⟩ = some (.bool tn) ∧ w'.cell? ⟨w.heap.size + 1, 0, none⟩ = some (.bool false) ∧ w'.cell? ⟨w.heap.size + 1, 1, none⟩ = some (.int .i64 n) ∧ w'.cell? ⟨w.heap.size + 1, 2, none⟩ = some (.string S)) ∧ Below w1.heap.size w1 w')
    (first
      | exact HD.out
      | exact keepTC HD.out bb
      | exact keepTC (by assumption) bb
      | (go_keep; done))
    ((first | ((with_reducible refine (of_1 _ _).mono ?_); rintro en w2 ⟨a, b, rfl, hp, bb⟩) | ((with_reducible refine (CI.out _ _ _ (by assumption)).mono ?_); rintro en w3 ⟨rfl, bb⟩)))
  all_goals
   go_wp2_with fail
   go_ret
   exact ⟨rfl, endTC HX1.out.bel HX1.out.bel.size (by assumption)⟩
set_option maxRecDepth 100000 in
set_option maxHeartbeats 2000000 in
theorem check_s2 (tn : Bool) (n : Int) (S : ByteArray) (w : World) (hs : S.size ≤ 100000) (hE : Env w) :
    Calls Tryz.prog 44 #[.agg #[.int .i64 2, .bool tn], .agg #[.bool false, .int .i64 n, .string S]] w fun e w' => e = .returned (.int .i64 (if kIs 2 n S.data.toList = true then 0 else 90)) ∧ Below w.heap.size w w' := by
 have ci := fun a b w' (hp : Pl (-2147483648) 2147483647 a b w') => is_2 a b n false S w' hp
 have cm := fun w' => may_any 2 tn w'
 rw [show kMay 2 = true from rfl] at cm
 generalize kIs 2 n S.data.toList = B at *
 have b0 := Box2.start w #[.int .i64 2, .bool tn] #[.bool false, .int .i64 n, .string S] 33 35; have kf := kfield0
 have HB0 := Lib.hid b0; have CI := Lib.hid ci; have CM := Lib.hid cm; have HE := Lib.hid hE
 clear b0 ci cm hE
 cases B
 all_goals
  go_enter Tryz.func44, Tryz.ntmps44
  go_wp2_with fail
  refine (CM.out _).mono ?_; rintro en w1 ⟨rfl, b1⟩; have x1 := HB0.out.step b1; obtain ⟨c1, c2, c3, c4, c5⟩ := x1.tc; have e1 := HE.out.below x1.bel; have hD : (w1.drew.cell? ⟨w.heap.size, 0, none⟩ = some (.int .i64 2) ∧ w1.drew.cell? ⟨w.heap.size, 1, none⟩ = some (.bool tn) ∧ w1.drew.cell? ⟨w.heap.size + 1, 0, none⟩ = some (.bool false) ∧ w1.drew.cell? ⟨w.heap.size + 1, 1, none⟩ = some (.int .i64 n) ∧ w1.drew.cell? ⟨w.heap.size + 1, 2, none⟩ = some (.string S)) ∧ Below w1.heap.size w1 w1.drew := ⟨⟨c1, c2, c3, c4, c5⟩, ms_drewN (Below.refl _ _) 1⟩
  have HX1 := Lib.hid x1; have HE1 := Lib.hid e1; have HD := Lib.hid hD
  clear x1 e1 b1 hD
  go_wp2_with fail
  go_region_held3 (fun w' => (w'.cell? ⟨w.heap.size, 0, none⟩ = some (.int .i64 2) ∧ w'.cell? ⟨w.heap.size, 1, none⟩ = some (.bool tn) ∧ w'.cell? ⟨w.heap.size + 1, 0, none⟩ = some (.bool false) ∧ w'.cell? ⟨w.heap.size + 1, 1, none⟩ = some (.int .i64 n) ∧ w'.cell? ⟨w.heap.size + 1, 2, none⟩ = some (.string S)) ∧ Below w1.heap.size w1 w')
    (first
      | exact HD.out
      | exact keepTC HD.out bb
      | exact keepTC (by assumption) bb
      | (go_keep; done))
    ((first | ((with_reducible refine (of_2 _ _).mono ?_); rintro en w2 ⟨a, b, rfl, hp, bb⟩) | ((with_reducible refine (CI.out _ _ _ (by assumption)).mono ?_); rintro en w3 ⟨rfl, bb⟩)))
  all_goals
   go_wp2_with fail
   go_ret
   exact ⟨rfl, endTC HX1.out.bel HX1.out.bel.size (by assumption)⟩
set_option maxRecDepth 100000 in
set_option maxHeartbeats 2000000 in
theorem check_s3 (tn : Bool) (n : Int) (S : ByteArray) (w : World) (hs : S.size ≤ 100000) (hE : Env w) :
    Calls Tryz.prog 44 #[.agg #[.int .i64 3, .bool tn], .agg #[.bool false, .int .i64 n, .string S]] w fun e w' => e = .returned (.int .i64 (if kIs 3 n S.data.toList = true then 0 else 90)) ∧ Below w.heap.size w w' := by
 have ci := fun a b w' (hp : Pl (-9223372036854775808) 9223372036854775807 a b w') => is_3 a b n false S w' hp
 have cm := fun w' => may_any 3 tn w'
 rw [show kMay 3 = true from rfl] at cm
 generalize kIs 3 n S.data.toList = B at *
 have b0 := Box2.start w #[.int .i64 3, .bool tn] #[.bool false, .int .i64 n, .string S] 33 35; have kf := kfield0
 have HB0 := Lib.hid b0; have CI := Lib.hid ci; have CM := Lib.hid cm; have HE := Lib.hid hE
 clear b0 ci cm hE
 cases B
 all_goals
  go_enter Tryz.func44, Tryz.ntmps44
  go_wp2_with fail
  refine (CM.out _).mono ?_; rintro en w1 ⟨rfl, b1⟩; have x1 := HB0.out.step b1; obtain ⟨c1, c2, c3, c4, c5⟩ := x1.tc; have e1 := HE.out.below x1.bel; have hD : (w1.drew.cell? ⟨w.heap.size, 0, none⟩ = some (.int .i64 3) ∧ w1.drew.cell? ⟨w.heap.size, 1, none⟩ = some (.bool tn) ∧ w1.drew.cell? ⟨w.heap.size + 1, 0, none⟩ = some (.bool false) ∧ w1.drew.cell? ⟨w.heap.size + 1, 1, none⟩ = some (.int .i64 n) ∧ w1.drew.cell? ⟨w.heap.size + 1, 2, none⟩ = some (.string S)) ∧ Below w1.heap.size w1 w1.drew := ⟨⟨c1, c2, c3, c4, c5⟩, ms_drewN (Below.refl _ _) 1⟩
  have HX1 := Lib.hid x1; have HE1 := Lib.hid e1; have HD := Lib.hid hD
  clear x1 e1 b1 hD
  go_wp2_with fail
  go_region_held3 (fun w' => (w'.cell? ⟨w.heap.size, 0, none⟩ = some (.int .i64 3) ∧ w'.cell? ⟨w.heap.size, 1, none⟩ = some (.bool tn) ∧ w'.cell? ⟨w.heap.size + 1, 0, none⟩ = some (.bool false) ∧ w'.cell? ⟨w.heap.size + 1, 1, none⟩ = some (.int .i64 n) ∧ w'.cell? ⟨w.heap.size + 1, 2, none⟩ = some (.string S)) ∧ Below w1.heap.size w1 w')
    (first
      | exact HD.out
      | exact keepTC HD.out bb
      | exact keepTC (by assumption) bb
      | (go_keep; done))
    ((first | ((with_reducible refine (of_3 _ _).mono ?_); rintro en w2 ⟨a, b, rfl, hp, bb⟩) | ((with_reducible refine (CI.out _ _ _ (by assumption)).mono ?_); rintro en w3 ⟨rfl, bb⟩)))
  all_goals
   go_wp2_with fail
   go_ret
   exact ⟨rfl, endTC HX1.out.bel HX1.out.bel.size (by assumption)⟩
set_option maxRecDepth 100000 in
set_option maxHeartbeats 2000000 in
theorem check_s4 (tn : Bool) (n : Int) (S : ByteArray) (w : World) (hs : S.size ≤ 100000) (hE : Env w) :
    Calls Tryz.prog 44 #[.agg #[.int .i64 4, .bool tn], .agg #[.bool false, .int .i64 n, .string S]] w fun e w' => e = .returned (.int .i64 (if kIs 4 n S.data.toList = true then 0 else 90)) ∧ Below w.heap.size w w' := by
 have ci := fun a w' (hp : Vl a w') (hE : Env w') => is_4 a n false S w' hp hs hE
 have cm := fun w' => may_any 4 tn w'
 rw [show kMay 4 = true from rfl] at cm
 generalize kIs 4 n S.data.toList = B at *
 have b0 := Box2.start w #[.int .i64 4, .bool tn] #[.bool false, .int .i64 n, .string S] 33 35; have kf := kfield0
 have HB0 := Lib.hid b0; have CI := Lib.hid ci; have CM := Lib.hid cm; have HE := Lib.hid hE
 clear b0 ci cm hE
 cases B
 all_goals
  go_enter Tryz.func44, Tryz.ntmps44
  go_wp2_with fail
  refine (CM.out _).mono ?_; rintro en w1 ⟨rfl, b1⟩; have x1 := HB0.out.step b1; obtain ⟨c1, c2, c3, c4, c5⟩ := x1.tc; have e1 := HE.out.below x1.bel; have hD : (w1.drew.cell? ⟨w.heap.size, 0, none⟩ = some (.int .i64 4) ∧ w1.drew.cell? ⟨w.heap.size, 1, none⟩ = some (.bool tn) ∧ w1.drew.cell? ⟨w.heap.size + 1, 0, none⟩ = some (.bool false) ∧ w1.drew.cell? ⟨w.heap.size + 1, 1, none⟩ = some (.int .i64 n) ∧ w1.drew.cell? ⟨w.heap.size + 1, 2, none⟩ = some (.string S)) ∧ Below w1.heap.size w1 w1.drew := ⟨⟨c1, c2, c3, c4, c5⟩, ms_drewN (Below.refl _ _) 1⟩
  have HX1 := Lib.hid x1; have HE1 := Lib.hid e1; have HD := Lib.hid hD
  clear x1 e1 b1 hD
  go_wp2_with fail
  go_region_held3 (fun w' => (w'.cell? ⟨w.heap.size, 0, none⟩ = some (.int .i64 4) ∧ w'.cell? ⟨w.heap.size, 1, none⟩ = some (.bool tn) ∧ w'.cell? ⟨w.heap.size + 1, 0, none⟩ = some (.bool false) ∧ w'.cell? ⟨w.heap.size + 1, 1, none⟩ = some (.int .i64 n) ∧ w'.cell? ⟨w.heap.size + 1, 2, none⟩ = some (.string S)) ∧ Below w1.heap.size w1 w')
    (first
      | exact HD.out
      | exact keepTC HD.out bb
      | exact keepTC (by assumption) bb
      | (go_keep; done))
    ((first | ((with_reducible refine (of_4 _ _).mono ?_); rintro en w2 ⟨a, rfl, hp, bb⟩) | ((with_reducible refine (CI.out _ _ (by assumption) (HE1.out.below (And.right (by assumption)))).mono ?_); rintro en w3 ⟨rfl, bb⟩)))
  all_goals
   go_wp2_with fail
   go_ret
   exact ⟨rfl, endTC HX1.out.bel HX1.out.bel.size (by assumption)⟩
set_option maxRecDepth 100000 in
set_option maxHeartbeats 2000000 in
theorem check_s5 (tn : Bool) (n : Int) (S : ByteArray) (w : World) (hs : S.size ≤ 100000) (hE : Env w) :
    Calls Tryz.prog 44 #[.agg #[.int .i64 5, .bool tn], .agg #[.bool false, .int .i64 n, .string S]] w fun e w' => e = .returned (.int .i64 (if kIs 5 n S.data.toList = true then 0 else 90)) ∧ Below w.heap.size w w' := by
 have ci := fun w' => is_5 n false S w' hs
 have cm := fun w' => may_any 5 tn w'
 rw [show kMay 5 = true from rfl] at cm
 generalize kIs 5 n S.data.toList = B at *
 have b0 := Box2.start w #[.int .i64 5, .bool tn] #[.bool false, .int .i64 n, .string S] 33 35; have kf := kfield0
 have HB0 := Lib.hid b0; have CI := Lib.hid ci; have CM := Lib.hid cm; have HE := Lib.hid hE
 clear b0 ci cm hE
 cases B
 all_goals
  go_enter Tryz.func44, Tryz.ntmps44
  go_wp2_with fail
  refine (CM.out _).mono ?_; rintro en w1 ⟨rfl, b1⟩; have x1 := HB0.out.step b1; obtain ⟨c1, c2, c3, c4, c5⟩ := x1.tc; have e1 := HE.out.below x1.bel; have hD : (w1.drew.cell? ⟨w.heap.size, 0, none⟩ = some (.int .i64 5) ∧ w1.drew.cell? ⟨w.heap.size, 1, none⟩ = some (.bool tn) ∧ w1.drew.cell? ⟨w.heap.size + 1, 0, none⟩ = some (.bool false) ∧ w1.drew.cell? ⟨w.heap.size + 1, 1, none⟩ = some (.int .i64 n) ∧ w1.drew.cell? ⟨w.heap.size + 1, 2, none⟩ = some (.string S)) ∧ Below w1.heap.size w1 w1.drew := ⟨⟨c1, c2, c3, c4, c5⟩, ms_drewN (Below.refl _ _) 1⟩
  have HX1 := Lib.hid x1; have HE1 := Lib.hid e1; have HD := Lib.hid hD
  clear x1 e1 b1 hD
  go_wp2_with fail
  go_region_held3 (fun w' => (w'.cell? ⟨w.heap.size, 0, none⟩ = some (.int .i64 5) ∧ w'.cell? ⟨w.heap.size, 1, none⟩ = some (.bool tn) ∧ w'.cell? ⟨w.heap.size + 1, 0, none⟩ = some (.bool false) ∧ w'.cell? ⟨w.heap.size + 1, 1, none⟩ = some (.int .i64 n) ∧ w'.cell? ⟨w.heap.size + 1, 2, none⟩ = some (.string S)) ∧ Below w1.heap.size w1 w')
    (first
      | exact HD.out
      | exact keepTC HD.out bb
      | exact keepTC (by assumption) bb
      | (go_keep; done))
    ((first | ((with_reducible refine (of_5 _ _).mono ?_); rintro en w2 ⟨rfl, bb⟩) | ((with_reducible refine (CI.out _).mono ?_); rintro en w3 ⟨rfl, bb⟩)))
  all_goals
   go_wp2_with fail
   go_ret
   exact ⟨rfl, endTC HX1.out.bel HX1.out.bel.size (by assumption)⟩
end Go.Proofs.YthlinmkengoliaaGreatDoor
namespace Go.Proofs.YthlinmkengoliaaGreatDoor
open Go.RowKit Go.Ms Go.Lib
theorem check_none (k : Int) (hk : kMay k = false) (tn nu : Bool) (n : Int) (S : ByteArray) (w : World) :
    Calls Tryz.prog 44 #[.agg #[.int .i64 k, .bool tn], .agg #[.bool nu, .int .i64 n, .string S]] w fun e w' => e = .returned (.int .i64 2) ∧ Below w.heap.size w w' := by
 have cm := fun w' => may_any k tn w'
 rw [hk] at cm; have b0 := Box2.start w #[.int .i64 k, .bool tn] #[.bool nu, .int .i64 n, .string S] 33 35
 have HB0 := Lib.hid b0; have CM := Lib.hid cm
 clear b0 cm hk
 go_enter Tryz.func44, Tryz.ntmps44
 go_wp2_with fail
 refine (CM.out _).mono ?_; rintro en w1 ⟨rfl, b1⟩
 go_wp2_with fail
 go_ret
 exact ⟨rfl, (HB0.out.step b1).bel⟩
set_option maxRecDepth 100000 in
theorem check_null (k : Int) (hk : kMay k = true) (tn : Bool) (n : Int) (S : ByteArray) (w : World) :
    Calls Tryz.prog 44 #[.agg #[.int .i64 k, .bool tn], .agg #[.bool true, .int .i64 n, .string S]] w fun e w' => e = .returned (.int .i64 (if (tn && decide (n = 0) && decide (S.data.toList = [])) = true then 0 else 90)) ∧ Below w.heap.size w w' := by
 have cm := fun w' => may_any k tn w'
 rw [hk] at cm; have b0 := Box2.start w #[.int .i64 k, .bool tn] #[.bool true, .int .i64 n, .string S] 33 35
 have HB0 := Lib.hid b0; have CM := Lib.hid cm
 clear b0 cm hk
 cases tn with
 | false =>
  simp only [Bool.false_and, Bool.false_eq_true, if_false]
  go_enter Tryz.func44, Tryz.ntmps44
  go_wp2_with fail
  refine (CM.out _).mono ?_; rintro en w1 ⟨rfl, b1⟩; have x1 := HB0.out.step b1; obtain ⟨c1, c2, c3, c4, c5⟩ := x1.tc; have HX1 := Lib.hid x1; clear x1 b1
  go_wp2_with fail
  go_ret
  exact ⟨rfl, HX1.out.bel⟩
 | true =>
  by_cases hn : n = 0
  · subst hn
    by_cases hS : S.data.toList = []
    · obtain rfl : S = ⟨#[]⟩ := ba_ext hS; simp only [decide_true, Bool.and_true, if_true]
      go_enter Tryz.func44, Tryz.ntmps44
      go_wp2_with fail
      refine (CM.out _).mono ?_; rintro en w1 ⟨rfl, b1⟩; have x1 := HB0.out.step b1; obtain ⟨c1, c2, c3, c4, c5⟩ := x1.tc; have HX1 := Lib.hid x1; clear x1 b1
      go_wp2_with fail
      go_quiet (fail)
      go_wp2_with fail
      go_ret
      exact ⟨rfl, ms_drewN HX1.out.bel _⟩
    · have e1 : (S.toList == []) = false := by rw [Lib.toList_data]; simpa using hS
      have e2 : ¬ S.toList = [] := by rw [Lib.toList_data]; exact hS
      have e3 : S.toList.isEmpty = false := by rw [Lib.toList_data]; simpa using hS
      rw [if_neg (by simp [hS])]; clear hS
      go_enter Tryz.func44, Tryz.ntmps44
      go_wp2_with fail
      refine (CM.out _).mono ?_; rintro en w1 ⟨rfl, b1⟩; have x1 := HB0.out.step b1; obtain ⟨c1, c2, c3, c4, c5⟩ := x1.tc; have HX1 := Lib.hid x1; clear x1 b1
      go_wp2_with fail
      go_ret
      exact ⟨rfl, HX1.out.bel⟩
  · have e1 : (n == 0) = false := by simpa using hn
    rw [if_neg (by simp [hn])]; clear hn
    go_enter Tryz.func44, Tryz.ntmps44
    go_wp2_with fail
    refine (CM.out _).mono ?_; rintro en w1 ⟨rfl, b1⟩; have x1 := HB0.out.step b1; obtain ⟨c1, c2, c3, c4, c5⟩ := x1.tc; have HX1 := Lib.hid x1; clear x1 b1
    go_wp2_with fail
    go_ret
    exact ⟨rfl, HX1.out.bel⟩
theorem kcheck_any (k : Int) (tn nu : Bool) (n : Int) (S : ByteArray) (w : World) (hs : S.size ≤ 100000) (hE : Env w) :
    Calls Tryz.prog 44 #[.agg #[.int .i64 k, .bool tn], .agg #[.bool nu, .int .i64 n, .string S]] w fun e w' => e = .returned (.int .i64 (kCheck k tn nu n S.data.toList)) ∧ Below w.heap.size w w' := by
 unfold kCheck
 cases hk : kMay k with
 | false => rw [if_neg (by simp)]; exact check_none k hk tn nu n S w
 | true =>
  rw [if_pos rfl]
  cases nu with
  | true => exact check_null k hk tn n S w
  | false =>
   have hko : kOk k tn false n S.data.toList = kIs k n S.data.toList := by simp [kOk]
   rw [hko]
   rcases may_cases hk with rfl | rfl | rfl | rfl | rfl
   · exact check_s1 tn n S w hs hE
   · exact check_s2 tn n S w hs hE
   · exact check_s3 tn n S w hs hE
   · exact check_s4 tn n S w hs hE
   · exact check_s5 tn n S w hs hE
end Go.Proofs.YthlinmkengoliaaGreatDoor
