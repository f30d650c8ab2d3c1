/- Cells: the bits. -/
import Derived.Test.YtikpmmipopmjaaaGreatDoorZQk
import Derived.Deep.RegionHeld3
set_option linter.unusedVariables false
namespace Go.Proofs.YtikpmmipopmjaaaGreatDoor
open Go.RowKit Go.Ms Go.Lib
theorem one_app (L : Bs) : (⟨#[1]⟩ : ByteArray) ++ ⟨L.toArray⟩ = ⟨((1 : UInt8) :: L).toArray⟩ := by apply ba_ext; simp
theorem kbits_len {k n : Int} {s : Bs} (hk : kMay k = true) (h : kIs k n s = true) : (kBits k n s).length ≤ 2050 := by
 rcases may_cases hk with rfl | rfl | rfl | rfl | rfl
 · show ([_] : Bs).length ≤ 2050; simp
 · show 8 ≤ 2050; omega
 · show 8 ≤ 2050; omega
 · have := (is45 (.inl rfl) h).2; have h2 := escD_len s; show (escD s ++ [0, 0]).length ≤ 2050; simp; omega
 · have := (is45 (.inr rfl) h).2; have h2 := escD_len s; show (escD s ++ [0, 0]).length ≤ 2050; simp; omega
set_option maxRecDepth 100000 in
theorem kbits_err (k : Int) (tn nu : Bool) (n : Int) (S : ByteArray) (w : World) (hs : S.size ≤ 100000) (hE : Env w) (hc : kCheck k tn nu n S.data.toList ≠ 0) :
    Calls Tryz.prog 67 #[.agg #[.int .i64 k, .bool tn], .agg #[.bool nu, .int .i64 n, .string S]] w fun e w' => e = .returned (.tuple #[.string ⟨#[]⟩, .int .i64 (kCheck k tn nu n S.data.toList)]) ∧ Below w.heap.size w w' := by
 have cc := fun w' (hE' : Env w') => kcheck_any k tn nu n S w' hs hE'
 generalize kCheck k tn nu n S.data.toList = c at *
 have b0 := Box2.start w #[.int .i64 k, .bool tn] #[.bool nu, .int .i64 n, .string S] 55 57
 have hcb : (c != 0) = true := by simpa using hc
 have HB0 := Lib.hid b0; have CC := Lib.hid cc; have HE := Lib.hid hE
 clear b0 cc hE
 go_enter Tryz.func67, Tryz.ntmps67
 go_wp2_with fail
 refine (CC.out _ (HE.out.below HB0.out.bel)).mono ?_; rintro en w1 ⟨rfl, b1⟩
 go_wp2_with fail
 go_ret2
 exact ⟨rfl, (HB0.out.step b1).bel⟩
set_option maxRecDepth 100000 in
theorem kbits_null (k : Int) (tn : Bool) (n : Int) (S : ByteArray) (w : World) (hs : S.size ≤ 100000) (hE : Env w) (hc : kCheck k tn true n S.data.toList = 0) :
    Calls Tryz.prog 67 #[.agg #[.int .i64 k, .bool tn], .agg #[.bool true, .int .i64 n, .string S]] w fun e w' => e = .returned (.tuple #[.string ⟨#[0]⟩, .int .i64 0]) ∧ Below w.heap.size w w' := by
 have cc := fun w' (hE' : Env w') => kcheck_any k tn true n S w' hs hE'
 rw [hc] at cc; have b0 := Box2.start w #[.int .i64 k, .bool tn] #[.bool true, .int .i64 n, .string S] 55 57
 have HB0 := Lib.hid b0; have CC := Lib.hid cc; have HE := Lib.hid hE
 clear b0 cc hE hc
 go_enter Tryz.func67, Tryz.ntmps67
 go_wp2_with fail
 refine (CC.out _ (HE.out.below HB0.out.bel)).mono ?_; rintro en w1 ⟨rfl, b1⟩; have x1 := HB0.out.step b1; obtain ⟨c1, c2, c3, c4, c5⟩ := x1.tc; have HX1 := Lib.hid x1; clear x1 b1
 go_wp2_with fail
 go_ret2
 exact ⟨rfl, HX1.out.bel⟩
set_option maxRecDepth 100000 in
set_option maxHeartbeats 2000000 in
theorem kbits_s1_t (n : Int) (S : ByteArray) (w : World) (hs : S.size ≤ 100000) (hE : Env w) (hi : kIs 1 n S.data.toList = true) :
    Calls Tryz.prog 67 #[.agg #[.int .i64 1, .bool true], .agg #[.bool false, .int .i64 n, .string S]] w fun e w' => e = .returned (.tuple #[.string ⟨(1 :: kBits 1 n S.data.toList).toArray⟩, .int .i64 0]) ∧ Below w.heap.size w w' := by
 have hck : kCheck 1 true false n S.data.toList = 0 := check_of rfl (by simpa [kOk] using hi)
 have cc := fun w' (hE' : Env w') => kcheck_any 1 true false n S w' hs hE'
 rw [hck] at cc; obtain ⟨_, h0, h1⟩ := is1.1 hi; have hlen := kbits_len rfl hi
 have ci := fun w' => bits_1 n false S w' h0 h1
 have b0 := Box2.start w #[.int .i64 1, .bool true] #[.bool false, .int .i64 n, .string S] 55 57; have kf := kfield3
 generalize kBits 1 n S.data.toList = R at *
 have hz : (⟨R.toArray⟩ : ByteArray).size = R.length := List.size_toArray
 have hq : ¬ 9223372036854775807 < 1 + (⟨R.toArray⟩ : ByteArray).size := by rw [hz]; omega
 have hq2 : ¬ 9223372036854775807 < 1 + List.length R := by omega
 have hap := one_app R; have HAP := Lib.hid hap; clear hap hz
 have HB0 := Lib.hid b0; have CI := Lib.hid ci; have CC := Lib.hid cc; have HE := Lib.hid hE
 clear b0 ci cc hE hck hi
 go_enter Tryz.func67, Tryz.ntmps67
 go_wp2_with fail
 refine (CC.out _ (HE.out.below HB0.out.bel)).mono ?_; rintro en w1 ⟨rfl, b1⟩; have x1 := HB0.out.step b1; obtain ⟨c1, c2, c3, c4, c5⟩ := x1.tc; have e1 := HE.out.below x1.bel; have hD : (w1.drew.cell? ⟨w.heap.size, 0, none⟩ = some (.int .i64 1) ∧ w1.drew.cell? ⟨w.heap.size, 1, none⟩ = some (.bool true) ∧ w1.drew.cell? ⟨w.heap.size + 1, 0, none⟩ = some (.bool false) ∧ w1.drew.cell? ⟨w.heap.size + 1, 1, none⟩ = some (.int .i64 n) ∧ w1.drew.cell? ⟨w.heap.size + 1, 2, none⟩ = some (.string S)) ∧ Below w1.heap.size w1 w1.drew := ⟨⟨c1, c2, c3, c4, c5⟩, ms_drewN (Below.refl _ _) 1⟩
 have HX1 := Lib.hid x1; have HE1 := Lib.hid e1; have HD := Lib.hid hD
 clear x1 e1 b1 hD
 go_wp2_with fail
 go_region_held3 (fun w' => (w'.cell? ⟨w.heap.size, 0, none⟩ = some (.int .i64 1) ∧ w'.cell? ⟨w.heap.size, 1, none⟩ = some (.bool true) ∧ w'.cell? ⟨w.heap.size + 1, 0, none⟩ = some (.bool false) ∧ w'.cell? ⟨w.heap.size + 1, 1, none⟩ = some (.int .i64 n) ∧ w'.cell? ⟨w.heap.size + 1, 2, none⟩ = some (.string S)) ∧ Below w1.heap.size w1 w')
   (first
     | exact HD.out
     | exact keepTC HD.out bb
     | exact keepTC (by assumption) bb
     | (go_keep; done))
   ((first | ((with_reducible refine (of_1 _ _).mono ?_); rintro en w2 ⟨a, b, rfl, hp, bb⟩) | ((with_reducible refine (CI.out _).mono ?_); rintro en w3 ⟨rfl, bb⟩)))
 all_goals
  go_wp2_with fail
  go_ret2
  exact ⟨by rw [← HAP.out]; rfl, endTC HX1.out.bel HX1.out.bel.size (by assumption)⟩
set_option maxRecDepth 100000 in
set_option maxHeartbeats 2000000 in
theorem kbits_s1_f (n : Int) (S : ByteArray) (w : World) (hs : S.size ≤ 100000) (hE : Env w) (hi : kIs 1 n S.data.toList = true) :
    Calls Tryz.prog 67 #[.agg #[.int .i64 1, .bool false], .agg #[.bool false, .int .i64 n, .string S]] w fun e w' => e = .returned (.tuple #[.string ⟨(kBits 1 n S.data.toList).toArray⟩, .int .i64 0]) ∧ Below w.heap.size w w' := by
 have hck : kCheck 1 false false n S.data.toList = 0 := check_of rfl (by simpa [kOk] using hi)
 have cc := fun w' (hE' : Env w') => kcheck_any 1 false false n S w' hs hE'
 rw [hck] at cc; obtain ⟨_, h0, h1⟩ := is1.1 hi
 have ci := fun w' => bits_1 n false S w' h0 h1
 have b0 := Box2.start w #[.int .i64 1, .bool false] #[.bool false, .int .i64 n, .string S] 55 57; have kf := kfield3
 generalize kBits 1 n S.data.toList = R at *
 have HB0 := Lib.hid b0; have CI := Lib.hid ci; have CC := Lib.hid cc; have HE := Lib.hid hE
 clear b0 ci cc hE hck hi
 go_enter Tryz.func67, Tryz.ntmps67
 go_wp2_with fail
 refine (CC.out _ (HE.out.below HB0.out.bel)).mono ?_; rintro en w1 ⟨rfl, b1⟩; have x1 := HB0.out.step b1; obtain ⟨c1, c2, c3, c4, c5⟩ := x1.tc; have e1 := HE.out.below x1.bel; have hD : (w1.drew.cell? ⟨w.heap.size, 0, none⟩ = some (.int .i64 1) ∧ w1.drew.cell? ⟨w.heap.size, 1, none⟩ = some (.bool false) ∧ w1.drew.cell? ⟨w.heap.size + 1, 0, none⟩ = some (.bool false) ∧ w1.drew.cell? ⟨w.heap.size + 1, 1, none⟩ = some (.int .i64 n) ∧ w1.drew.cell? ⟨w.heap.size + 1, 2, none⟩ = some (.string S)) ∧ Below w1.heap.size w1 w1.drew := ⟨⟨c1, c2, c3, c4, c5⟩, ms_drewN (Below.refl _ _) 1⟩
 have HX1 := Lib.hid x1; have HE1 := Lib.hid e1; have HD := Lib.hid hD
 clear x1 e1 b1 hD
 go_wp2_with fail
 go_region_held3 (fun w' => (w'.cell? ⟨w.heap.size, 0, none⟩ = some (.int .i64 1) ∧ w'.cell? ⟨w.heap.size, 1, none⟩ = some (.bool false) ∧ w'.cell? ⟨w.heap.size + 1, 0, none⟩ = some (.bool false) ∧ w'.cell? ⟨w.heap.size + 1, 1, none⟩ = some (.int .i64 n) ∧ w'.cell? ⟨w.heap.size + 1, 2, none⟩ = some (.string S)) ∧ Below w1.heap.size w1 w')
   (first
     | exact HD.out
     | exact keepTC HD.out bb
     | exact keepTC (by assumption) bb
     | (go_keep; done))
   ((first | ((with_reducible refine (of_1 _ _).mono ?_); rintro en w2 ⟨a, b, rfl, hp, bb⟩) | ((with_reducible refine (CI.out _).mono ?_); rintro en w3 ⟨rfl, bb⟩)))
 all_goals
  go_wp2_with fail
  go_ret2
  exact ⟨rfl, endTC HX1.out.bel HX1.out.bel.size (by assumption)⟩
set_option maxRecDepth 100000 in
set_option maxHeartbeats 2000000 in
theorem kbits_s2_t (n : Int) (S : ByteArray) (w : World) (hs : S.size ≤ 100000) (hE : Env w) (hi : kIs 2 n S.data.toList = true) :
    Calls Tryz.prog 67 #[.agg #[.int .i64 2, .bool true], .agg #[.bool false, .int .i64 n, .string S]] w fun e w' => e = .returned (.tuple #[.string ⟨(1 :: kBits 2 n S.data.toList).toArray⟩, .int .i64 0]) ∧ Below w.heap.size w w' := by
 have hck : kCheck 2 true false n S.data.toList = 0 := check_of rfl (by simpa [kOk] using hi)
 have cc := fun w' (hE' : Env w') => kcheck_any 2 true false n S w' hs hE'
 rw [hck] at cc; obtain ⟨_, h0, h1⟩ := is23 (.inl rfl) hi; have hlen := kbits_len rfl hi
 have ci := fun w' => bits_2 n false S w' h0 h1
 have b0 := Box2.start w #[.int .i64 2, .bool true] #[.bool false, .int .i64 n, .string S] 55 57; have kf := kfield3
 generalize kBits 2 n S.data.toList = R at *
 have hz : (⟨R.toArray⟩ : ByteArray).size = R.length := List.size_toArray
 have hq : ¬ 9223372036854775807 < 1 + (⟨R.toArray⟩ : ByteArray).size := by rw [hz]; omega
 have hq2 : ¬ 9223372036854775807 < 1 + List.length R := by omega
 have hap := one_app R; have HAP := Lib.hid hap; clear hap hz
 have HB0 := Lib.hid b0; have CI := Lib.hid ci; have CC := Lib.hid cc; have HE := Lib.hid hE
 clear b0 ci cc hE hck hi
 go_enter Tryz.func67, Tryz.ntmps67
 go_wp2_with fail
 refine (CC.out _ (HE.out.below HB0.out.bel)).mono ?_; rintro en w1 ⟨rfl, b1⟩; have x1 := HB0.out.step b1; obtain ⟨c1, c2, c3, c4, c5⟩ := x1.tc; have e1 := HE.out.below x1.bel; have hD : (w1.drew.cell? ⟨w.heap.size, 0, none⟩ = some (.int .i64 2) ∧ w1.drew.cell? ⟨w.heap.size, 1, none⟩ = some (.bool true) ∧ w1.drew.cell? ⟨w.heap.size + 1, 0, none⟩ = some (.bool false) ∧ w1.drew.cell? ⟨w.heap.size + 1, 1, none⟩ = some (.int .i64 n) ∧ w1.drew.cell? ⟨w.heap.size + 1, 2, none⟩ = some (.string S)) ∧ Below w1.heap.size w1 w1.drew := ⟨⟨c1, c2, c3, c4, c5⟩, ms_drewN (Below.refl _ _) 1⟩
 have HX1 := Lib.hid x1; have HE1 := Lib.hid e1; have HD := Lib.hid hD
 clear x1 e1 b1 hD
 go_wp2_with fail
 go_region_held3 (fun w' => (w'.cell? ⟨w.heap.size, 0, none⟩ = some (.int .i64 2) ∧ w'.cell? ⟨w.heap.size, 1, none⟩ = some (.bool true) ∧ w'.cell? ⟨w.heap.size + 1, 0, none⟩ = some (.bool false) ∧ w'.cell? ⟨w.heap.size + 1, 1, none⟩ = some (.int .i64 n) ∧ w'.cell? ⟨w.heap.size + 1, 2, none⟩ = some (.string S)) ∧ Below w1.heap.size w1 w')
   (first
     | exact HD.out
     | exact keepTC HD.out bb
     | exact keepTC (by assumption) bb
     | (go_keep; done))
   ((first | ((with_reducible refine (of_2 _ _).mono ?_); rintro en w2 ⟨a, b, rfl, hp, bb⟩) | ((with_reducible refine (CI.out _).mono ?_); rintro en w3 ⟨rfl, bb⟩)))
 all_goals
  go_wp2_with fail
  go_ret2
  exact ⟨by rw [← HAP.out]; rfl, endTC HX1.out.bel HX1.out.bel.size (by assumption)⟩
set_option maxRecDepth 100000 in
set_option maxHeartbeats 2000000 in
theorem kbits_s2_f (n : Int) (S : ByteArray) (w : World) (hs : S.size ≤ 100000) (hE : Env w) (hi : kIs 2 n S.data.toList = true) :
    Calls Tryz.prog 67 #[.agg #[.int .i64 2, .bool false], .agg #[.bool false, .int .i64 n, .string S]] w fun e w' => e = .returned (.tuple #[.string ⟨(kBits 2 n S.data.toList).toArray⟩, .int .i64 0]) ∧ Below w.heap.size w w' := by
 have hck : kCheck 2 false false n S.data.toList = 0 := check_of rfl (by simpa [kOk] using hi)
 have cc := fun w' (hE' : Env w') => kcheck_any 2 false false n S w' hs hE'
 rw [hck] at cc; obtain ⟨_, h0, h1⟩ := is23 (.inl rfl) hi
 have ci := fun w' => bits_2 n false S w' h0 h1
 have b0 := Box2.start w #[.int .i64 2, .bool false] #[.bool false, .int .i64 n, .string S] 55 57; have kf := kfield3
 generalize kBits 2 n S.data.toList = R at *
 have HB0 := Lib.hid b0; have CI := Lib.hid ci; have CC := Lib.hid cc; have HE := Lib.hid hE
 clear b0 ci cc hE hck hi
 go_enter Tryz.func67, Tryz.ntmps67
 go_wp2_with fail
 refine (CC.out _ (HE.out.below HB0.out.bel)).mono ?_; rintro en w1 ⟨rfl, b1⟩; have x1 := HB0.out.step b1; obtain ⟨c1, c2, c3, c4, c5⟩ := x1.tc; have e1 := HE.out.below x1.bel; have hD : (w1.drew.cell? ⟨w.heap.size, 0, none⟩ = some (.int .i64 2) ∧ w1.drew.cell? ⟨w.heap.size, 1, none⟩ = some (.bool false) ∧ w1.drew.cell? ⟨w.heap.size + 1, 0, none⟩ = some (.bool false) ∧ w1.drew.cell? ⟨w.heap.size + 1, 1, none⟩ = some (.int .i64 n) ∧ w1.drew.cell? ⟨w.heap.size + 1, 2, none⟩ = some (.string S)) ∧ Below w1.heap.size w1 w1.drew := ⟨⟨c1, c2, c3, c4, c5⟩, ms_drewN (Below.refl _ _) 1⟩
 have HX1 := Lib.hid x1; have HE1 := Lib.hid e1; have HD := Lib.hid hD
 clear x1 e1 b1 hD
 go_wp2_with fail
 go_region_held3 (fun w' => (w'.cell? ⟨w.heap.size, 0, none⟩ = some (.int .i64 2) ∧ w'.cell? ⟨w.heap.size, 1, none⟩ = some (.bool false) ∧ w'.cell? ⟨w.heap.size + 1, 0, none⟩ = some (.bool false) ∧ w'.cell? ⟨w.heap.size + 1, 1, none⟩ = some (.int .i64 n) ∧ w'.cell? ⟨w.heap.size + 1, 2, none⟩ = some (.string S)) ∧ Below w1.heap.size w1 w')
   (first
     | exact HD.out
     | exact keepTC HD.out bb
     | exact keepTC (by assumption) bb
     | (go_keep; done))
   ((first | ((with_reducible refine (of_2 _ _).mono ?_); rintro en w2 ⟨a, b, rfl, hp, bb⟩) | ((with_reducible refine (CI.out _).mono ?_); rintro en w3 ⟨rfl, bb⟩)))
 all_goals
  go_wp2_with fail
  go_ret2
  exact ⟨rfl, endTC HX1.out.bel HX1.out.bel.size (by assumption)⟩
set_option maxRecDepth 100000 in
set_option maxHeartbeats 2000000 in
theorem kbits_s3_t (n : Int) (S : ByteArray) (w : World) (hs : S.size ≤ 100000) (hE : Env w) (hi : kIs 3 n S.data.toList = true) :
    Calls Tryz.prog 67 #[.agg #[.int .i64 3, .bool true], .agg #[.bool false, .int .i64 n, .string S]] w fun e w' => e = .returned (.tuple #[.string ⟨(1 :: kBits 3 n S.data.toList).toArray⟩, .int .i64 0]) ∧ Below w.heap.size w w' := by
 have hck : kCheck 3 true false n S.data.toList = 0 := check_of rfl (by simpa [kOk] using hi)
 have cc := fun w' (hE' : Env w') => kcheck_any 3 true false n S w' hs hE'
 rw [hck] at cc; obtain ⟨_, h0, h1⟩ := is23 (.inr rfl) hi; have hlen := kbits_len rfl hi
 have ci := fun w' => bits_3 n false S w' h0 h1
 have b0 := Box2.start w #[.int .i64 3, .bool true] #[.bool false, .int .i64 n, .string S] 55 57; have kf := kfield3
 generalize kBits 3 n S.data.toList = R at *
 have hz : (⟨R.toArray⟩ : ByteArray).size = R.length := List.size_toArray
 have hq : ¬ 9223372036854775807 < 1 + (⟨R.toArray⟩ : ByteArray).size := by rw [hz]; omega
 have hq2 : ¬ 9223372036854775807 < 1 + List.length R := by omega
 have hap := one_app R; have HAP := Lib.hid hap; clear hap hz
 have HB0 := Lib.hid b0; have CI := Lib.hid ci; have CC := Lib.hid cc; have HE := Lib.hid hE
 clear b0 ci cc hE hck hi
 go_enter Tryz.func67, Tryz.ntmps67
 go_wp2_with fail
 refine (CC.out _ (HE.out.below HB0.out.bel)).mono ?_; rintro en w1 ⟨rfl, b1⟩; have x1 := HB0.out.step b1; obtain ⟨c1, c2, c3, c4, c5⟩ := x1.tc; have e1 := HE.out.below x1.bel; have hD : (w1.drew.cell? ⟨w.heap.size, 0, none⟩ = some (.int .i64 3) ∧ w1.drew.cell? ⟨w.heap.size, 1, none⟩ = some (.bool true) ∧ w1.drew.cell? ⟨w.heap.size + 1, 0, none⟩ = some (.bool false) ∧ w1.drew.cell? ⟨w.heap.size + 1, 1, none⟩ = some (.int .i64 n) ∧ w1.drew.cell? ⟨w.heap.size + 1, 2, none⟩ = some (.string S)) ∧ Below w1.heap.size w1 w1.drew := ⟨⟨c1, c2, c3, c4, c5⟩, ms_drewN (Below.refl _ _) 1⟩
 have HX1 := Lib.hid x1; have HE1 := Lib.hid e1; have HD := Lib.hid hD
 clear x1 e1 b1 hD
 go_wp2_with fail
 go_region_held3 (fun w' => (w'.cell? ⟨w.heap.size, 0, none⟩ = some (.int .i64 3) ∧ w'.cell? ⟨w.heap.size, 1, none⟩ = some (.bool true) ∧ w'.cell? ⟨w.heap.size + 1, 0, none⟩ = some (.bool false) ∧ w'.cell? ⟨w.heap.size + 1, 1, none⟩ = some (.int .i64 n) ∧ w'.cell? ⟨w.heap.size + 1, 2, none⟩ = some (.string S)) ∧ Below w1.heap.size w1 w')
   (first
     | exact HD.out
     | exact keepTC HD.out bb
     | exact keepTC (by assumption) bb
     | (go_keep; done))
   ((first | ((with_reducible refine (of_3 _ _).mono ?_); rintro en w2 ⟨a, b, rfl, hp, bb⟩) | ((with_reducible refine (CI.out _).mono ?_); rintro en w3 ⟨rfl, bb⟩)))
 all_goals
  go_wp2_with fail
  go_ret2
  exact ⟨by rw [← HAP.out]; rfl, endTC HX1.out.bel HX1.out.bel.size (by assumption)⟩
set_option maxRecDepth 100000 in
set_option maxHeartbeats 2000000 in
theorem kbits_s3_f (n : Int) (S : ByteArray) (w : World) (hs : S.size ≤ 100000) (hE : Env w) (hi : kIs 3 n S.data.toList = true) :
    Calls Tryz.prog 67 #[.agg #[.int .i64 3, .bool false], .agg #[.bool false, .int .i64 n, .string S]] w fun e w' => e = .returned (.tuple #[.string ⟨(kBits 3 n S.data.toList).toArray⟩, .int .i64 0]) ∧ Below w.heap.size w w' := by
 have hck : kCheck 3 false false n S.data.toList = 0 := check_of rfl (by simpa [kOk] using hi)
 have cc := fun w' (hE' : Env w') => kcheck_any 3 false false n S w' hs hE'
 rw [hck] at cc; obtain ⟨_, h0, h1⟩ := is23 (.inr rfl) hi
 have ci := fun w' => bits_3 n false S w' h0 h1
 have b0 := Box2.start w #[.int .i64 3, .bool false] #[.bool false, .int .i64 n, .string S] 55 57; have kf := kfield3
 generalize kBits 3 n S.data.toList = R at *
 have HB0 := Lib.hid b0; have CI := Lib.hid ci; have CC := Lib.hid cc; have HE := Lib.hid hE
 clear b0 ci cc hE hck hi
 go_enter Tryz.func67, Tryz.ntmps67
 go_wp2_with fail
 refine (CC.out _ (HE.out.below HB0.out.bel)).mono ?_; rintro en w1 ⟨rfl, b1⟩; have x1 := HB0.out.step b1; obtain ⟨c1, c2, c3, c4, c5⟩ := x1.tc; have e1 := HE.out.below x1.bel; have hD : (w1.drew.cell? ⟨w.heap.size, 0, none⟩ = some (.int .i64 3) ∧ w1.drew.cell? ⟨w.heap.size, 1, none⟩ = some (.bool false) ∧ w1.drew.cell? ⟨w.heap.size + 1, 0, none⟩ = some (.bool false) ∧ w1.drew.cell? ⟨w.heap.size + 1, 1, none⟩ = some (.int .i64 n) ∧ w1.drew.cell? ⟨w.heap.size + 1, 2, none⟩ = some (.string S)) ∧ Below w1.heap.size w1 w1.drew := ⟨⟨c1, c2, c3, c4, c5⟩, ms_drewN (Below.refl _ _) 1⟩
 have HX1 := Lib.hid x1; have HE1 := Lib.hid e1; have HD := Lib.hid hD
 clear x1 e1 b1 hD
 go_wp2_with fail
 go_region_held3 (fun w' => (w'.cell? ⟨w.heap.size, 0, none⟩ = some (.int .i64 3) ∧ w'.cell? ⟨w.heap.size, 1, none⟩ = some (.bool false) ∧ w'.cell? ⟨w.heap.size + 1, 0, none⟩ = some (.bool false) ∧ w'.cell? ⟨w.heap.size + 1, 1, none⟩ = some (.int .i64 n) ∧ w'.cell? ⟨w.heap.size + 1, 2, none⟩ = some (.string S)) ∧ Below w1.heap.size w1 w')
   (first
     | exact HD.out
     | exact keepTC HD.out bb
     | exact keepTC (by assumption) bb
     | (go_keep; done))
   ((first | ((with_reducible refine (of_3 _ _).mono ?_); rintro en w2 ⟨a, b, rfl, hp, bb⟩) | ((with_reducible refine (CI.out _).mono ?_); rintro en w3 ⟨rfl, bb⟩)))
 all_goals
  go_wp2_with fail
  go_ret2
  exact ⟨rfl, endTC HX1.out.bel HX1.out.bel.size (by assumption)⟩
set_option maxRecDepth 100000 in
set_option maxHeartbeats 2000000 in
theorem kbits_s4_t (n : Int) (S : ByteArray) (w : World) (hs : S.size ≤ 100000) (hE : Env w) (hi : kIs 4 n S.data.toList = true) :
    Calls Tryz.prog 67 #[.agg #[.int .i64 4, .bool true], .agg #[.bool false, .int .i64 n, .string S]] w fun e w' => e = .returned (.tuple #[.string ⟨(1 :: kBits 4 n S.data.toList).toArray⟩, .int .i64 0]) ∧ Below w.heap.size w w' := by
 have hck : kCheck 4 true false n S.data.toList = 0 := check_of rfl (by simpa [kOk] using hi)
 have cc := fun w' (hE' : Env w') => kcheck_any 4 true false n S w' hs hE'
 rw [hck] at cc; have _t := trivial; have hlen := kbits_len rfl hi
 have ci := fun w' (hE : Env w') => bits_4 n false S w' hs hE
 have b0 := Box2.start w #[.int .i64 4, .bool true] #[.bool false, .int .i64 n, .string S] 55 57; have kf := kfield3
 generalize kBits 4 n S.data.toList = R at *
 have hz : (⟨R.toArray⟩ : ByteArray).size = R.length := List.size_toArray
 have hq : ¬ 9223372036854775807 < 1 + (⟨R.toArray⟩ : ByteArray).size := by rw [hz]; omega
 have hq2 : ¬ 9223372036854775807 < 1 + List.length R := by omega
 have hap := one_app R; have HAP := Lib.hid hap; clear hap hz
 have HB0 := Lib.hid b0; have CI := Lib.hid ci; have CC := Lib.hid cc; have HE := Lib.hid hE
 clear b0 ci cc hE hck hi
 go_enter Tryz.func67, Tryz.ntmps67
 go_wp2_with fail
 refine (CC.out _ (HE.out.below HB0.out.bel)).mono ?_; rintro en w1 ⟨rfl, b1⟩; have x1 := HB0.out.step b1; obtain ⟨c1, c2, c3, c4, c5⟩ := x1.tc; have e1 := HE.out.below x1.bel; have hD : (w1.drew.cell? ⟨w.heap.size, 0, none⟩ = some (.int .i64 4) ∧ w1.drew.cell? ⟨w.heap.size, 1, none⟩ = some (.bool true) ∧ w1.drew.cell? ⟨w.heap.size + 1, 0, none⟩ = some (.bool false) ∧ w1.drew.cell? ⟨w.heap.size + 1, 1, none⟩ = some (.int .i64 n) ∧ w1.drew.cell? ⟨w.heap.size + 1, 2, none⟩ = some (.string S)) ∧ Below w1.heap.size w1 w1.drew := ⟨⟨c1, c2, c3, c4, c5⟩, ms_drewN (Below.refl _ _) 1⟩
 have HX1 := Lib.hid x1; have HE1 := Lib.hid e1; have HD := Lib.hid hD
 clear x1 e1 b1 hD
 go_wp2_with fail
 go_region_held3 (fun w' => (w'.cell? ⟨w.heap.size, 0, none⟩ = some (.int .i64 4) ∧ w'.cell? ⟨w.heap.size, 1, none⟩ = some (.bool true) ∧ w'.cell? ⟨w.heap.size + 1, 0, none⟩ = some (.bool false) ∧ w'.cell? ⟨w.heap.size + 1, 1, none⟩ = some (.int .i64 n) ∧ w'.cell? ⟨w.heap.size + 1, 2, none⟩ = some (.string S)) ∧ Below w1.heap.size w1 w')
   (first
     | exact HD.out
     | exact keepTC HD.out bb
     | exact keepTC (by assumption) bb
     | (go_keep; done))
   ((first | ((with_reducible refine (of_4 _ _).mono ?_); rintro en w2 ⟨a, rfl, hp, bb⟩) | ((with_reducible refine (CI.out _ (HE1.out.below (And.right (by assumption)))).mono ?_); rintro en w3 ⟨rfl, bb⟩)))
 all_goals
  go_wp2_with fail
  go_ret2
  exact ⟨by rw [← HAP.out]; rfl, endTC HX1.out.bel HX1.out.bel.size (by assumption)⟩
set_option maxRecDepth 100000 in
set_option maxHeartbeats 2000000 in
theorem kbits_s4_f (n : Int) (S : ByteArray) (w : World) (hs : S.size ≤ 100000) (hE : Env w) (hi : kIs 4 n S.data.toList = true) :
    Calls Tryz.prog 67 #[.agg #[.int .i64 4, .bool false], .agg #[.bool false, .int .i64 n, .string S]] w fun e w' => e = .returned (.tuple #[.string ⟨(kBits 4 n S.data.toList).toArray⟩, .int .i64 0]) ∧ Below w.heap.size w w' := by
 have hck : kCheck 4 false false n S.data.toList = 0 := check_of rfl (by simpa [kOk] using hi)
 have cc := fun w' (hE' : Env w') => kcheck_any 4 false false n S w' hs hE'
 rw [hck] at cc; have _t := trivial
 have ci := fun w' (hE : Env w') => bits_4 n false S w' hs hE
 have b0 := Box2.start w #[.int .i64 4, .bool false] #[.bool false, .int .i64 n, .string S] 55 57; have kf := kfield3
 generalize kBits 4 n S.data.toList = R at *
 have HB0 := Lib.hid b0; have CI := Lib.hid ci; have CC := Lib.hid cc; have HE := Lib.hid hE
 clear b0 ci cc hE hck hi
 go_enter Tryz.func67, Tryz.ntmps67
 go_wp2_with fail
 refine (CC.out _ (HE.out.below HB0.out.bel)).mono ?_; rintro en w1 ⟨rfl, b1⟩; have x1 := HB0.out.step b1; obtain ⟨c1, c2, c3, c4, c5⟩ := x1.tc; have e1 := HE.out.below x1.bel; have hD : (w1.drew.cell? ⟨w.heap.size, 0, none⟩ = some (.int .i64 4) ∧ w1.drew.cell? ⟨w.heap.size, 1, none⟩ = some (.bool false) ∧ w1.drew.cell? ⟨w.heap.size + 1, 0, none⟩ = some (.bool false) ∧ w1.drew.cell? ⟨w.heap.size + 1, 1, none⟩ = some (.int .i64 n) ∧ w1.drew.cell? ⟨w.heap.size + 1, 2, none⟩ = some (.string S)) ∧ Below w1.heap.size w1 w1.drew := ⟨⟨c1, c2, c3, c4, c5⟩, ms_drewN (Below.refl _ _) 1⟩
 have HX1 := Lib.hid x1; have HE1 := Lib.hid e1; have HD := Lib.hid hD
 clear x1 e1 b1 hD
 go_wp2_with fail
 go_region_held3 (fun w' => (w'.cell? ⟨w.heap.size, 0, none⟩ = some (.int .i64 4) ∧ w'.cell? ⟨w.heap.size, 1, none⟩ = some (.bool false) ∧ w'.cell? ⟨w.heap.size + 1, 0, none⟩ = some (.bool false) ∧ w'.cell? ⟨w.heap.size + 1, 1, none⟩ = some (.int .i64 n) ∧ w'.cell? ⟨w.heap.size + 1, 2, none⟩ = some (.string S)) ∧ Below w1.heap.size w1 w')
   (first
     | exact HD.out
     | exact keepTC HD.out bb
     | exact keepTC (by assumption) bb
     | (go_keep; done))
   ((first | ((with_reducible refine (of_4 _ _).mono ?_); rintro en w2 ⟨a, rfl, hp, bb⟩) | ((with_reducible refine (CI.out _ (HE1.out.below (And.right (by assumption)))).mono ?_); rintro en w3 ⟨rfl, bb⟩)))
 all_goals
  go_wp2_with fail
  go_ret2
  exact ⟨rfl, endTC HX1.out.bel HX1.out.bel.size (by assumption)⟩
set_option maxRecDepth 100000 in
set_option maxHeartbeats 2000000 in
theorem kbits_s5_t (n : Int) (S : ByteArray) (w : World) (hs : S.size ≤ 100000) (hE : Env w) (hi : kIs 5 n S.data.toList = true) :
    Calls Tryz.prog 67 #[.agg #[.int .i64 5, .bool true], .agg #[.bool false, .int .i64 n, .string S]] w fun e w' => e = .returned (.tuple #[.string ⟨(1 :: kBits 5 n S.data.toList).toArray⟩, .int .i64 0]) ∧ Below w.heap.size w w' := by
 have hck : kCheck 5 true false n S.data.toList = 0 := check_of rfl (by simpa [kOk] using hi)
 have cc := fun w' (hE' : Env w') => kcheck_any 5 true false n S w' hs hE'
 rw [hck] at cc; have _t := trivial; have hlen := kbits_len rfl hi
 have ci := fun w' (hE : Env w') => bits_5 n false S w' hs hE
 have b0 := Box2.start w #[.int .i64 5, .bool true] #[.bool false, .int .i64 n, .string S] 55 57; have kf := kfield3
 generalize kBits 5 n S.data.toList = R at *
 have hz : (⟨R.toArray⟩ : ByteArray).size = R.length := List.size_toArray
 have hq : ¬ 9223372036854775807 < 1 + (⟨R.toArray⟩ : ByteArray).size := by rw [hz]; omega
 have hq2 : ¬ 9223372036854775807 < 1 + List.length R := by omega
 have hap := one_app R; have HAP := Lib.hid hap; clear hap hz
 have HB0 := Lib.hid b0; have CI := Lib.hid ci; have CC := Lib.hid cc; have HE := Lib.hid hE
 clear b0 ci cc hE hck hi
 go_enter Tryz.func67, Tryz.ntmps67
 go_wp2_with fail
 refine (CC.out _ (HE.out.below HB0.out.bel)).mono ?_; rintro en w1 ⟨rfl, b1⟩; have x1 := HB0.out.step b1; obtain ⟨c1, c2, c3, c4, c5⟩ := x1.tc; have e1 := HE.out.below x1.bel; have hD : (w1.drew.cell? ⟨w.heap.size, 0, none⟩ = some (.int .i64 5) ∧ w1.drew.cell? ⟨w.heap.size, 1, none⟩ = some (.bool true) ∧ w1.drew.cell? ⟨w.heap.size + 1, 0, none⟩ = some (.bool false) ∧ w1.drew.cell? ⟨w.heap.size + 1, 1, none⟩ = some (.int .i64 n) ∧ w1.drew.cell? ⟨w.heap.size + 1, 2, none⟩ = some (.string S)) ∧ Below w1.heap.size w1 w1.drew := ⟨⟨c1, c2, c3, c4, c5⟩, ms_drewN (Below.refl _ _) 1⟩
 have HX1 := Lib.hid x1; have HE1 := Lib.hid e1; have HD := Lib.hid hD
 clear x1 e1 b1 hD
 go_wp2_with fail
 go_region_held3 (fun w' => (w'.cell? ⟨w.heap.size, 0, none⟩ = some (.int .i64 5) ∧ w'.cell? ⟨w.heap.size, 1, none⟩ = some (.bool true) ∧ w'.cell? ⟨w.heap.size + 1, 0, none⟩ = some (.bool false) ∧ w'.cell? ⟨w.heap.size + 1, 1, none⟩ = some (.int .i64 n) ∧ w'.cell? ⟨w.heap.size + 1, 2, none⟩ = some (.string S)) ∧ Below w1.heap.size w1 w')
   (first
     | exact HD.out
     | exact keepTC HD.out bb
     | exact keepTC (by assumption) bb
     | (go_keep; done))
   ((first | ((with_reducible refine (of_5 _ _).mono ?_); rintro en w2 ⟨rfl, bb⟩) | ((with_reducible refine (CI.out _ (HE1.out.below (And.right (by assumption)))).mono ?_); rintro en w3 ⟨rfl, bb⟩)))
 all_goals
  go_wp2_with fail
  go_ret2
  exact ⟨by rw [← HAP.out]; rfl, endTC HX1.out.bel HX1.out.bel.size (by assumption)⟩
set_option maxRecDepth 100000 in
set_option maxHeartbeats 2000000 in
theorem kbits_s5_f (n : Int) (S : ByteArray) (w : World) (hs : S.size ≤ 100000) (hE : Env w) (hi : kIs 5 n S.data.toList = true) :
    Calls Tryz.prog 67 #[.agg #[.int .i64 5, .bool false], .agg #[.bool false, .int .i64 n, .string S]] w fun e w' => e = .returned (.tuple #[.string ⟨(kBits 5 n S.data.toList).toArray⟩, .int .i64 0]) ∧ Below w.heap.size w w' := by
 have hck : kCheck 5 false false n S.data.toList = 0 := check_of rfl (by simpa [kOk] using hi)
 have cc := fun w' (hE' : Env w') => kcheck_any 5 false false n S w' hs hE'
 rw [hck] at cc; have _t := trivial
 have ci := fun w' (hE : Env w') => bits_5 n false S w' hs hE
 have b0 := Box2.start w #[.int .i64 5, .bool false] #[.bool false, .int .i64 n, .string S] 55 57; have kf := kfield3
 generalize kBits 5 n S.data.toList = R at *
 have HB0 := Lib.hid b0; have CI := Lib.hid ci; have CC := Lib.hid cc; have HE := Lib.hid hE
 clear b0 ci cc hE hck hi
 go_enter Tryz.func67, Tryz.ntmps67
 go_wp2_with fail
 refine (CC.out _ (HE.out.below HB0.out.bel)).mono ?_; rintro en w1 ⟨rfl, b1⟩; have x1 := HB0.out.step b1; obtain ⟨c1, c2, c3, c4, c5⟩ := x1.tc; have e1 := HE.out.below x1.bel; have hD : (w1.drew.cell? ⟨w.heap.size, 0, none⟩ = some (.int .i64 5) ∧ w1.drew.cell? ⟨w.heap.size, 1, none⟩ = some (.bool false) ∧ w1.drew.cell? ⟨w.heap.size + 1, 0, none⟩ = some (.bool false) ∧ w1.drew.cell? ⟨w.heap.size + 1, 1, none⟩ = some (.int .i64 n) ∧ w1.drew.cell? ⟨w.heap.size + 1, 2, none⟩ = some (.string S)) ∧ Below w1.heap.size w1 w1.drew := ⟨⟨c1, c2, c3, c4, c5⟩, ms_drewN (Below.refl _ _) 1⟩
 have HX1 := Lib.hid x1; have HE1 := Lib.hid e1; have HD := Lib.hid hD
 clear x1 e1 b1 hD
 go_wp2_with fail
 go_region_held3 (fun w' => (w'.cell? ⟨w.heap.size, 0, none⟩ = some (.int .i64 5) ∧ w'.cell? ⟨w.heap.size, 1, none⟩ = some (.bool false) ∧ w'.cell? ⟨w.heap.size + 1, 0, none⟩ = some (.bool false) ∧ w'.cell? ⟨w.heap.size + 1, 1, none⟩ = some (.int .i64 n) ∧ w'.cell? ⟨w.heap.size + 1, 2, none⟩ = some (.string S)) ∧ Below w1.heap.size w1 w')
   (first
     | exact HD.out
     | exact keepTC HD.out bb
     | exact keepTC (by assumption) bb
     | (go_keep; done))
   ((first | ((with_reducible refine (of_5 _ _).mono ?_); rintro en w2 ⟨rfl, bb⟩) | ((with_reducible refine (CI.out _ (HE1.out.below (And.right (by assumption)))).mono ?_); rintro en w3 ⟨rfl, bb⟩)))
 all_goals
  go_wp2_with fail
  go_ret2
  exact ⟨rfl, endTC HX1.out.bel HX1.out.bel.size (by assumption)⟩
theorem kbits_any (k : Int) (tn nu : Bool) (n : Int) (S : ByteArray) (w : World) (hs : S.size ≤ 100000) (hE : Env w) :
    Calls Tryz.prog 67 #[.agg #[.int .i64 k, .bool tn], .agg #[.bool nu, .int .i64 n, .string S]] w fun e w' => e = .returned (.tuple #[.string ⟨(kBitsD k tn nu n S.data.toList).toArray⟩, .int .i64 (kCheck k tn nu n S.data.toList)]) ∧ Below w.heap.size w w' := by
 unfold kBitsD
 by_cases hc : kCheck k tn nu n S.data.toList = 0
 · rw [if_pos hc, hc]
   cases nu with
   | true => rw [if_pos rfl]; exact kbits_null k tn n S w hs hE hc
   | false =>
    simp only [Bool.false_eq_true, if_false]; obtain ⟨hk, ho⟩ := check_zero hc; have hi := ok_some ho
    cases tn with
    | true =>
     rw [if_pos rfl]
     rcases may_cases hk with rfl | rfl | rfl | rfl | rfl
     · exact kbits_s1_t n S w hs hE hi
     · exact kbits_s2_t n S w hs hE hi
     · exact kbits_s3_t n S w hs hE hi
     · exact kbits_s4_t n S w hs hE hi
     · exact kbits_s5_t n S w hs hE hi
    | false =>
     simp only [Bool.false_eq_true, if_false]
     rcases may_cases hk with rfl | rfl | rfl | rfl | rfl
     · exact kbits_s1_f n S w hs hE hi
     · exact kbits_s2_f n S w hs hE hi
     · exact kbits_s3_f n S w hs hE hi
     · exact kbits_s4_f n S w hs hE hi
     · exact kbits_s5_f n S w hs hE hi
 · rw [if_neg hc]; exact kbits_err k tn nu n S w hs hE hc
end Go.Proofs.YtikpmmipopmjaaaGreatDoor
