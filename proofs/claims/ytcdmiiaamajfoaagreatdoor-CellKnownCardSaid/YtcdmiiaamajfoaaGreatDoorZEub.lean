/- Cells: what is taken off. Cells: what is taken off. Cells: what is taken off. -/
import Derived.Test.YtcdmiiaamajfoaaGreatDoorZEe
set_option linter.unusedVariables false
namespace Go.Proofs.YtcdmiiaamajfoaaGreatDoor
open Go.RowKit Go.Ms Go.Lib

set_option maxRecDepth 100000 in
set_option maxHeartbeats 4000000 in
theorem kunbits_3f (S : ByteArray) (w : World) (hs : S.size ≤ 100000) (hE : Env w) :
    Calls Tryz.prog 80 #[.agg #[.int .i64 3, .bool false], .string S] w fun e w' => e = .returned (unV (kFin 3 false 0 (kUn 3 (S.data.toList)))) ∧ Below w.heap.size w w' := by
  have hex : S.extract 0 S.size = S := by apply ByteArray.ext; simp
  have ci := fun w' => un_3 S w' hs
  have cm := fun w' => may_any 3 false w'
  rw [show kMay 3 = true from rfl] at cm
  have hul := kun_len 3 S.data.toList
  have hdl := kun_le 3 S.data.toList
  obtain ⟨un, us, d, e, hx⟩ : ∃ un us d e, kUn 3 S.data.toList = (un, us, d, e) := ⟨_, _, _, _, rfl⟩
  rw [hx] at ci hul hdl ⊢
  rw [lenS] at hdl
  simp only at ci hul hdl
  have hUsz : (⟨us.toArray⟩ : ByteArray).size = us.length := List.size_toArray
  have cc : ∀ w', Env w' → Calls Tryz.prog 83 #[.agg #[.int .i64 3, .bool false], .agg #[.bool false, .int .i64 un, .string ⟨us.toArray⟩]] w' fun en w'' => en = .returned (.int .i64 (kCheck 3 false false un us)) ∧ Below w'.heap.size w' w'' := fun w' (hE' : Env w') => kcheck_any 3 false false un ⟨us.toArray⟩ w' (by rw [hUsz]; omega) hE'
  have s0 := UnS.of (Box2.start w #[.int .i64 3, .bool false] #[.bool false, .int .i64 0, .string ⟨#[]⟩] 41 23)
  have kf := kfield4
  have vd : IntKind.i64.wrap (1 + (d : Int)) = 1 + (d : Int) := IntWalk.i64_in _ (by omega)
  unfold kFin
  simp only
  obtain ⟨c, hc⟩ : ∃ c, kCheck 3 false false un us = c := ⟨_, rfl⟩
  rw [hc] at cc ⊢
  obtain ⟨US, hUS⟩ : ∃ US : ByteArray, (⟨us.toArray⟩ : ByteArray) = US := ⟨_, rfl⟩
  rw [hUS] at ci cc
  have HS0 := Lib.hid s0; have CI := Lib.hid ci; have CM := Lib.hid cm; have CC := Lib.hid cc; have HE := Lib.hid hE; have HUS := Lib.hid hUS
  clear s0 ci cm cc hE hx hul hc hUsz hUS
  by_cases he : e = 0
  · rw [if_pos he]
    subst he
    by_cases hc : c = 0
    · rw [if_pos hc]
      subst hc
      unfold unV
      simp only
      rw [Nat.zero_add]
      rw [HUS.out]
      go_enter Tryz.func80, Tryz.ntmps80
      go_wp2_with fail
      refine (CM.out _).mono ?_
      rintro en w1 ⟨rfl, b1⟩
      have s1 := HS0.out.step b1
      obtain ⟨⟨c1, c2⟩, _⟩ := id s1
      have HS1 := Lib.hid s1
      have HSD := Lib.hid s1.drew
      clear s1 b1
      go_wp2_with fail
      go_region_held3 (fun w' => (w'.cell? ⟨w.heap.size, 0, none⟩ = some (.int .i64 3) ∧ w'.cell? ⟨w.heap.size, 1, none⟩ = some (.bool false)) ∧ Below w.heap.size w w' ∧ ResB w w')
        (first
          | exact HSD.out
          | exact UnS.step HSD.out bb
          | exact UnS.step (by assumption) bb
          | exact UnS.set HX.out _ _ _
          | (go_keep; done))
        ((first | ((with_reducible refine (of_3 _ _).mono ?_); rintro en w4 ⟨a, b, rfl, hp, bb⟩) | ((with_reducible refine (CI.out _ ).mono ?_); rintro en w5 ⟨rfl, bb⟩; have HX := Lib.hid (UnS.step (by assumption) bb); obtain ⟨x, y, z, r0, r1, r2, f0, f1, f2⟩ := UnS.res HX.out; have R0 := Lib.hid (UnS.res HX.out))))
      all_goals
        have hblk : ∃ x y z, w5.heap[w.heap.size + 1]? = some (.cells #[x, y, z] 23 (0, 0)) := HX.out.2.2
        obtain ⟨x', y', z', hb5⟩ := hblk
        have hb6 := blk_set3 hb5 (.bool false) (.int .i64 un) (.string US)
        have s6 := HX.out.set (.bool false) (.int .i64 un) (.string US)
        generalize hW6 : ((w5.setCell ⟨w.heap.size + 1, 0, none⟩ (.bool false)).setCell ⟨w.heap.size + 1, 1, none⟩ (.int .i64 un)).setCell ⟨w.heap.size + 1, 2, none⟩ (.string US) = w6 at *
        clear hW6 hb5
        obtain ⟨r0', r1', r2', f0', f1', f2'⟩ := res3x_of hb6
        have HB6 := Lib.hid hb6
        obtain ⟨⟨c1', c2'⟩, hbel⟩ := id s6
        have HS6 := Lib.hid s6
        clear hb6 s6 hbel
        go_wp2_with fail
        refine (CC.out _ (HE.out.below HS6.out.2.1)).mono ?_
        rintro en w7 ⟨rfl, b7⟩
        have hb7 : w7.heap[w.heap.size + 1]? = some (.cells #[.bool false, .int .i64 un, .string US] 23 (0, 0)) := by rw [b7.block _ (Array.getElem?_eq_some_iff.1 HB6.out).1]; exact HB6.out
        obtain ⟨t0, t1, t2, u0, u1, u2⟩ := res3x_of hb7
        have s7 := HS6.out.step b7
        have HB := Lib.hid s7.2.1
        clear hb7 s7 b7
        go_wp2_with fail
        exact bodyPost_ret (v := .tuple #[.agg #[.bool false, .int .i64 un, .string US], .int .i64 (d : Int), .int .i64 0]) (by simp [results, Tryz.results80, go_sem, t0, t1, t2]) rfl ⟨rfl, ((HB.out.setCell (p := ⟨_, _, _⟩) (by simp) _).setCell (p := ⟨_, _, _⟩) (by simp) _).setCell (p := ⟨_, _, _⟩) (by simp) _⟩
    · rw [if_neg hc]
      have q1 : (c != 0) = true := by simpa using hc
      clear hc
      go_enter Tryz.func80, Tryz.ntmps80
      go_wp2_with fail
      refine (CM.out _).mono ?_
      rintro en w1 ⟨rfl, b1⟩
      have s1 := HS0.out.step b1
      obtain ⟨⟨c1, c2⟩, _⟩ := id s1
      have HS1 := Lib.hid s1
      have HSD := Lib.hid s1.drew
      clear s1 b1
      go_wp2_with fail
      go_region_held3 (fun w' => (w'.cell? ⟨w.heap.size, 0, none⟩ = some (.int .i64 3) ∧ w'.cell? ⟨w.heap.size, 1, none⟩ = some (.bool false)) ∧ Below w.heap.size w w' ∧ ResB w w')
        (first
          | exact HSD.out
          | exact UnS.step HSD.out bb
          | exact UnS.step (by assumption) bb
          | exact UnS.set HX.out _ _ _
          | (go_keep; done))
        ((first | ((with_reducible refine (of_3 _ _).mono ?_); rintro en w4 ⟨a, b, rfl, hp, bb⟩) | ((with_reducible refine (CI.out _ ).mono ?_); rintro en w5 ⟨rfl, bb⟩; have HX := Lib.hid (UnS.step (by assumption) bb); obtain ⟨x, y, z, r0, r1, r2, f0, f1, f2⟩ := UnS.res HX.out; have R0 := Lib.hid (UnS.res HX.out))))
      all_goals
        have hblk : ∃ x y z, w5.heap[w.heap.size + 1]? = some (.cells #[x, y, z] 23 (0, 0)) := HX.out.2.2
        obtain ⟨x', y', z', hb5⟩ := hblk
        have hb6 := blk_set3 hb5 (.bool false) (.int .i64 un) (.string US)
        have s6 := HX.out.set (.bool false) (.int .i64 un) (.string US)
        generalize hW6 : ((w5.setCell ⟨w.heap.size + 1, 0, none⟩ (.bool false)).setCell ⟨w.heap.size + 1, 1, none⟩ (.int .i64 un)).setCell ⟨w.heap.size + 1, 2, none⟩ (.string US) = w6 at *
        clear hW6 hb5
        obtain ⟨r0', r1', r2', f0', f1', f2'⟩ := res3x_of hb6
        have HB6 := Lib.hid hb6
        obtain ⟨⟨c1', c2'⟩, hbel⟩ := id s6
        have HS6 := Lib.hid s6
        clear hb6 s6 hbel
        go_wp2_with fail
        refine (CC.out _ (HE.out.below HS6.out.2.1)).mono ?_
        rintro en w7 ⟨rfl, b7⟩
        have hb7 : w7.heap[w.heap.size + 1]? = some (.cells #[.bool false, .int .i64 un, .string US] 23 (0, 0)) := by rw [b7.block _ (Array.getElem?_eq_some_iff.1 HB6.out).1]; exact HB6.out
        obtain ⟨t0, t1, t2, u0, u1, u2⟩ := res3x_of hb7
        have s7 := HS6.out.step b7
        have HB := Lib.hid s7.2.1
        clear hb7 s7 b7
        go_wp2_with fail
        exact bodyPost_ret (v := .tuple #[.agg #[.bool false, .int .i64 0, .string ⟨#[]⟩], .int .i64 0, .int .i64 4]) (by simp [results, Tryz.results80, go_sem, t0, t1, t2]) rfl ⟨rfl, ((HB.out.setCell (p := ⟨_, _, _⟩) (by simp) _).setCell (p := ⟨_, _, _⟩) (by simp) _).setCell (p := ⟨_, _, _⟩) (by simp) _⟩
  · rw [if_neg he]
    have q1 : (e == 0) = false := by simpa using he
    have q2 : (e != 0) = true := by simpa using he
    clear he
    go_enter Tryz.func80, Tryz.ntmps80
    go_wp2_with fail
    refine (CM.out _).mono ?_
    rintro en w1 ⟨rfl, b1⟩
    have s1 := HS0.out.step b1
    obtain ⟨⟨c1, c2⟩, _⟩ := id s1
    have HS1 := Lib.hid s1
    have HSD := Lib.hid s1.drew
    clear s1 b1
    go_wp2_with fail
    go_region_held3 (fun w' => (w'.cell? ⟨w.heap.size, 0, none⟩ = some (.int .i64 3) ∧ w'.cell? ⟨w.heap.size, 1, none⟩ = some (.bool false)) ∧ Below w.heap.size w w' ∧ ResB w w')
      (first
        | exact HSD.out
        | exact UnS.step HSD.out bb
        | exact UnS.step (by assumption) bb
        | exact UnS.set HX.out _ _ _
        | (go_keep; done))
      ((first | ((with_reducible refine (of_3 _ _).mono ?_); rintro en w4 ⟨a, b, rfl, hp, bb⟩) | ((with_reducible refine (CI.out _ ).mono ?_); rintro en w5 ⟨rfl, bb⟩; have HX := Lib.hid (UnS.step (by assumption) bb); obtain ⟨x, y, z, r0, r1, r2, f0, f1, f2⟩ := UnS.res HX.out; have R0 := Lib.hid (UnS.res HX.out))))
    all_goals
      have hblk : ∃ x y z, w5.heap[w.heap.size + 1]? = some (.cells #[x, y, z] 23 (0, 0)) := HX.out.2.2
      obtain ⟨x', y', z', hb5⟩ := hblk
      have hb6 := blk_set3 hb5 (.bool false) (.int .i64 un) (.string US)
      have s6 := HX.out.set (.bool false) (.int .i64 un) (.string US)
      generalize hW6 : ((w5.setCell ⟨w.heap.size + 1, 0, none⟩ (.bool false)).setCell ⟨w.heap.size + 1, 1, none⟩ (.int .i64 un)).setCell ⟨w.heap.size + 1, 2, none⟩ (.string US) = w6 at *
      clear hW6 hb5
      obtain ⟨r0', r1', r2', f0', f1', f2'⟩ := res3x_of hb6
      have HB6 := Lib.hid hb6
      obtain ⟨⟨c1', c2'⟩, hbel⟩ := id s6
      have HS6 := Lib.hid s6
      clear hb6 s6 hbel
      have HB := Lib.hid HS6.out.2.1
      go_wp2_with fail
      exact bodyPost_ret (v := .tuple #[.agg #[.bool false, .int .i64 0, .string ⟨#[]⟩], .int .i64 0, .int .i64 e]) (by simp [results, Tryz.results80, go_sem, r0', r1', r2']) rfl ⟨rfl, ((HB.out.setCell (p := ⟨_, _, _⟩) (by simp) _).setCell (p := ⟨_, _, _⟩) (by simp) _).setCell (p := ⟨_, _, _⟩) (by simp) _⟩
set_option maxRecDepth 100000 in
set_option maxHeartbeats 4000000 in
theorem kunbits_3t (S : ByteArray) (w : World) (hs : S.size ≤ 100000) (hE : Env w) (hu : kUnbool S.data.toList = (1, 1, 0)) (h1 : 1 ≤ S.size) :
    Calls Tryz.prog 80 #[.agg #[.int .i64 3, .bool true], .string S] w fun e w' => e = .returned (unV (kFin 3 true 1 (kUn 3 (S.data.toList.drop 1)))) ∧ Below w.heap.size w w' := by
  have cu := fun w' => unbool_any S w'
  rw [show unboolD S.data.toList = (1, 1, 0) from hu] at cu
  simp only at cu
  have h1i : (1 : Int) ≤ (S.size : Int) := by omega
  obtain ⟨T, hT⟩ : ∃ T, S.extract 1 S.size = T := ⟨_, rfl⟩
  have hTl : T.data.toList = S.data.toList.drop 1 := by rw [← hT, ext_list, List.take_of_length_le (by simp)]
  have hTs : T.size ≤ 100000 := by rw [← hT, ByteArray.size_extract]; omega
  rw [← hTl]
  have CU := Lib.hid cu
  clear cu hTl hu
  have ci := fun w' => un_3 T w' hTs
  have cm := fun w' => may_any 3 true w'
  rw [show kMay 3 = true from rfl] at cm
  have hul := kun_len 3 T.data.toList
  have hdl := kun_le 3 T.data.toList
  obtain ⟨un, us, d, e, hx⟩ : ∃ un us d e, kUn 3 T.data.toList = (un, us, d, e) := ⟨_, _, _, _, rfl⟩
  rw [hx] at ci hul hdl ⊢
  rw [lenS] at hdl
  simp only at ci hul hdl
  have hUsz : (⟨us.toArray⟩ : ByteArray).size = us.length := List.size_toArray
  have cc : ∀ w', Env w' → Calls Tryz.prog 83 #[.agg #[.int .i64 3, .bool true], .agg #[.bool false, .int .i64 un, .string ⟨us.toArray⟩]] w' fun en w'' => en = .returned (.int .i64 (kCheck 3 true false un us)) ∧ Below w'.heap.size w' w'' := fun w' (hE' : Env w') => kcheck_any 3 true false un ⟨us.toArray⟩ w' (by rw [hUsz]; omega) hE'
  have s0 := UnS.of (Box2.start w #[.int .i64 3, .bool true] #[.bool false, .int .i64 0, .string ⟨#[]⟩] 41 23)
  have kf := kfield4
  have vd : IntKind.i64.wrap (1 + (d : Int)) = 1 + (d : Int) := IntWalk.i64_in _ (by omega)
  unfold kFin
  simp only
  obtain ⟨c, hc⟩ : ∃ c, kCheck 3 true false un us = c := ⟨_, rfl⟩
  rw [hc] at cc ⊢
  obtain ⟨US, hUS⟩ : ∃ US : ByteArray, (⟨us.toArray⟩ : ByteArray) = US := ⟨_, rfl⟩
  rw [hUS] at ci cc
  have HS0 := Lib.hid s0; have CI := Lib.hid ci; have CM := Lib.hid cm; have CC := Lib.hid cc; have HE := Lib.hid hE; have HUS := Lib.hid hUS
  clear s0 ci cm cc hE hx hul hc hUsz hUS
  by_cases he : e = 0
  · rw [if_pos he]
    subst he
    by_cases hc : c = 0
    · rw [if_pos hc]
      subst hc
      unfold unV
      simp only
      rw [show ((1 + d : Nat) : Int) = 1 + (d : Int) by omega]
      rw [HUS.out]
      go_enter Tryz.func80, Tryz.ntmps80
      go_wp2_with fail
      refine (CM.out _).mono ?_
      rintro en w1 ⟨rfl, b1⟩
      have s1 := HS0.out.step b1
      obtain ⟨⟨c1, c2⟩, _⟩ := id s1
      have HS1 := Lib.hid s1
      clear s1 b1
      go_wp2_with fail
      refine (CU.out _).mono ?_
      rintro en w2 ⟨rfl, b2⟩
      have s2 := HS1.out.step b2
      have s3 := s2.step ((Below.refl _ _).alloc (Nat.le_refl _) (.cells #[.bool false, .int .i64 1, .string ⟨#[]⟩] 23))
      clear c1 c2
      obtain ⟨⟨c1, c2⟩, _⟩ := id s2
      obtain ⟨⟨a1, a2⟩, _⟩ := id s3
      have n1 : w.heap.size < w2.heap.size := by have := cell_lt c1; exact this
      have HS3 := Lib.hid s3
      clear s2 s3 b2
      go_wp2_with fail
      obtain ⟨W3, hW3⟩ : ∃ W3, w2.alloc (.cells #[.bool false, .int .i64 1, .string ⟨#[]⟩] 23) = W3 := ⟨_, rfl⟩
      rw [hW3] at HS3 a1 a2
      rw [hW3]
      have HSD := Lib.hid HS3.out.drew
      clear hW3
      go_region_held3 (fun w' => (w'.cell? ⟨w.heap.size, 0, none⟩ = some (.int .i64 3) ∧ w'.cell? ⟨w.heap.size, 1, none⟩ = some (.bool true)) ∧ Below w.heap.size w w' ∧ ResB w w')
        (first
          | exact HSD.out
          | exact UnS.step HSD.out bb
          | exact UnS.step (by assumption) bb
          | exact UnS.set HX.out _ _ _
          | (go_keep; done))
        ((first | ((with_reducible refine (of_3 _ _).mono ?_); rintro en w4 ⟨a, b, rfl, hp, bb⟩) | ((with_reducible refine (CI.out _ ).mono ?_); rintro en w5 ⟨rfl, bb⟩; have HX := Lib.hid (UnS.step (by assumption) bb); obtain ⟨x, y, z, r0, r1, r2, f0, f1, f2⟩ := UnS.res HX.out; have R0 := Lib.hid (UnS.res HX.out))))
      all_goals
        have hblk : ∃ x y z, w5.heap[w.heap.size + 1]? = some (.cells #[x, y, z] 23 (0, 0)) := HX.out.2.2
        obtain ⟨x', y', z', hb5⟩ := hblk
        have hb6 := blk_set3 hb5 (.bool false) (.int .i64 un) (.string US)
        have s6 := HX.out.set (.bool false) (.int .i64 un) (.string US)
        generalize hW6 : ((w5.setCell ⟨w.heap.size + 1, 0, none⟩ (.bool false)).setCell ⟨w.heap.size + 1, 1, none⟩ (.int .i64 un)).setCell ⟨w.heap.size + 1, 2, none⟩ (.string US) = w6 at *
        clear hW6 hb5
        obtain ⟨r0', r1', r2', f0', f1', f2'⟩ := res3x_of hb6
        have HB6 := Lib.hid hb6
        obtain ⟨⟨c1', c2'⟩, hbel⟩ := id s6
        have HS6 := Lib.hid s6
        clear hb6 s6 hbel
        go_wp2_with fail
        refine (CC.out _ (HE.out.below HS6.out.2.1)).mono ?_
        rintro en w7 ⟨rfl, b7⟩
        have hb7 : w7.heap[w.heap.size + 1]? = some (.cells #[.bool false, .int .i64 un, .string US] 23 (0, 0)) := by rw [b7.block _ (Array.getElem?_eq_some_iff.1 HB6.out).1]; exact HB6.out
        obtain ⟨t0, t1, t2, u0, u1, u2⟩ := res3x_of hb7
        have s7 := HS6.out.step b7
        have HB := Lib.hid s7.2.1
        clear hb7 s7 b7
        go_wp2_with fail
        exact bodyPost_ret (v := .tuple #[.agg #[.bool false, .int .i64 un, .string US], .int .i64 (1 + (d : Int)), .int .i64 0]) (by simp [results, Tryz.results80, go_sem, t0, t1, t2]) rfl ⟨rfl, ((HB.out.setCell (p := ⟨_, _, _⟩) (by simp) _).setCell (p := ⟨_, _, _⟩) (by simp) _).setCell (p := ⟨_, _, _⟩) (by simp) _⟩
    · rw [if_neg hc]
      have q1 : (c != 0) = true := by simpa using hc
      clear hc
      go_enter Tryz.func80, Tryz.ntmps80
      go_wp2_with fail
      refine (CM.out _).mono ?_
      rintro en w1 ⟨rfl, b1⟩
      have s1 := HS0.out.step b1
      obtain ⟨⟨c1, c2⟩, _⟩ := id s1
      have HS1 := Lib.hid s1
      clear s1 b1
      go_wp2_with fail
      refine (CU.out _).mono ?_
      rintro en w2 ⟨rfl, b2⟩
      have s2 := HS1.out.step b2
      have s3 := s2.step ((Below.refl _ _).alloc (Nat.le_refl _) (.cells #[.bool false, .int .i64 1, .string ⟨#[]⟩] 23))
      clear c1 c2
      obtain ⟨⟨c1, c2⟩, _⟩ := id s2
      obtain ⟨⟨a1, a2⟩, _⟩ := id s3
      have n1 : w.heap.size < w2.heap.size := by have := cell_lt c1; exact this
      have HS3 := Lib.hid s3
      clear s2 s3 b2
      go_wp2_with fail
      obtain ⟨W3, hW3⟩ : ∃ W3, w2.alloc (.cells #[.bool false, .int .i64 1, .string ⟨#[]⟩] 23) = W3 := ⟨_, rfl⟩
      rw [hW3] at HS3 a1 a2
      rw [hW3]
      have HSD := Lib.hid HS3.out.drew
      clear hW3
      go_region_held3 (fun w' => (w'.cell? ⟨w.heap.size, 0, none⟩ = some (.int .i64 3) ∧ w'.cell? ⟨w.heap.size, 1, none⟩ = some (.bool true)) ∧ Below w.heap.size w w' ∧ ResB w w')
        (first
          | exact HSD.out
          | exact UnS.step HSD.out bb
          | exact UnS.step (by assumption) bb
          | exact UnS.set HX.out _ _ _
          | (go_keep; done))
        ((first | ((with_reducible refine (of_3 _ _).mono ?_); rintro en w4 ⟨a, b, rfl, hp, bb⟩) | ((with_reducible refine (CI.out _ ).mono ?_); rintro en w5 ⟨rfl, bb⟩; have HX := Lib.hid (UnS.step (by assumption) bb); obtain ⟨x, y, z, r0, r1, r2, f0, f1, f2⟩ := UnS.res HX.out; have R0 := Lib.hid (UnS.res HX.out))))
      all_goals
        have hblk : ∃ x y z, w5.heap[w.heap.size + 1]? = some (.cells #[x, y, z] 23 (0, 0)) := HX.out.2.2
        obtain ⟨x', y', z', hb5⟩ := hblk
        have hb6 := blk_set3 hb5 (.bool false) (.int .i64 un) (.string US)
        have s6 := HX.out.set (.bool false) (.int .i64 un) (.string US)
        generalize hW6 : ((w5.setCell ⟨w.heap.size + 1, 0, none⟩ (.bool false)).setCell ⟨w.heap.size + 1, 1, none⟩ (.int .i64 un)).setCell ⟨w.heap.size + 1, 2, none⟩ (.string US) = w6 at *
        clear hW6 hb5
        obtain ⟨r0', r1', r2', f0', f1', f2'⟩ := res3x_of hb6
        have HB6 := Lib.hid hb6
        obtain ⟨⟨c1', c2'⟩, hbel⟩ := id s6
        have HS6 := Lib.hid s6
        clear hb6 s6 hbel
        go_wp2_with fail
        refine (CC.out _ (HE.out.below HS6.out.2.1)).mono ?_
        rintro en w7 ⟨rfl, b7⟩
        have hb7 : w7.heap[w.heap.size + 1]? = some (.cells #[.bool false, .int .i64 un, .string US] 23 (0, 0)) := by rw [b7.block _ (Array.getElem?_eq_some_iff.1 HB6.out).1]; exact HB6.out
        obtain ⟨t0, t1, t2, u0, u1, u2⟩ := res3x_of hb7
        have s7 := HS6.out.step b7
        have HB := Lib.hid s7.2.1
        clear hb7 s7 b7
        go_wp2_with fail
        exact bodyPost_ret (v := .tuple #[.agg #[.bool false, .int .i64 0, .string ⟨#[]⟩], .int .i64 0, .int .i64 4]) (by simp [results, Tryz.results80, go_sem, t0, t1, t2]) rfl ⟨rfl, ((HB.out.setCell (p := ⟨_, _, _⟩) (by simp) _).setCell (p := ⟨_, _, _⟩) (by simp) _).setCell (p := ⟨_, _, _⟩) (by simp) _⟩
  · rw [if_neg he]
    have q1 : (e == 0) = false := by simpa using he
    have q2 : (e != 0) = true := by simpa using he
    clear he
    go_enter Tryz.func80, Tryz.ntmps80
    go_wp2_with fail
    refine (CM.out _).mono ?_
    rintro en w1 ⟨rfl, b1⟩
    have s1 := HS0.out.step b1
    obtain ⟨⟨c1, c2⟩, _⟩ := id s1
    have HS1 := Lib.hid s1
    clear s1 b1
    go_wp2_with fail
    refine (CU.out _).mono ?_
    rintro en w2 ⟨rfl, b2⟩
    have s2 := HS1.out.step b2
    have s3 := s2.step ((Below.refl _ _).alloc (Nat.le_refl _) (.cells #[.bool false, .int .i64 1, .string ⟨#[]⟩] 23))
    clear c1 c2
    obtain ⟨⟨c1, c2⟩, _⟩ := id s2
    obtain ⟨⟨a1, a2⟩, _⟩ := id s3
    have n1 : w.heap.size < w2.heap.size := by have := cell_lt c1; exact this
    have HS3 := Lib.hid s3
    clear s2 s3 b2
    go_wp2_with fail
    obtain ⟨W3, hW3⟩ : ∃ W3, w2.alloc (.cells #[.bool false, .int .i64 1, .string ⟨#[]⟩] 23) = W3 := ⟨_, rfl⟩
    rw [hW3] at HS3 a1 a2
    rw [hW3]
    have HSD := Lib.hid HS3.out.drew
    clear hW3
    go_region_held3 (fun w' => (w'.cell? ⟨w.heap.size, 0, none⟩ = some (.int .i64 3) ∧ w'.cell? ⟨w.heap.size, 1, none⟩ = some (.bool true)) ∧ Below w.heap.size w w' ∧ ResB w w')
      (first
        | exact HSD.out
        | exact UnS.step HSD.out bb
        | exact UnS.step (by assumption) bb
        | exact UnS.set HX.out _ _ _
        | (go_keep; done))
      ((first | ((with_reducible refine (of_3 _ _).mono ?_); rintro en w4 ⟨a, b, rfl, hp, bb⟩) | ((with_reducible refine (CI.out _ ).mono ?_); rintro en w5 ⟨rfl, bb⟩; have HX := Lib.hid (UnS.step (by assumption) bb); obtain ⟨x, y, z, r0, r1, r2, f0, f1, f2⟩ := UnS.res HX.out; have R0 := Lib.hid (UnS.res HX.out))))
    all_goals
      have hblk : ∃ x y z, w5.heap[w.heap.size + 1]? = some (.cells #[x, y, z] 23 (0, 0)) := HX.out.2.2
      obtain ⟨x', y', z', hb5⟩ := hblk
      have hb6 := blk_set3 hb5 (.bool false) (.int .i64 un) (.string US)
      have s6 := HX.out.set (.bool false) (.int .i64 un) (.string US)
      generalize hW6 : ((w5.setCell ⟨w.heap.size + 1, 0, none⟩ (.bool false)).setCell ⟨w.heap.size + 1, 1, none⟩ (.int .i64 un)).setCell ⟨w.heap.size + 1, 2, none⟩ (.string US) = w6 at *
      clear hW6 hb5
      obtain ⟨r0', r1', r2', f0', f1', f2'⟩ := res3x_of hb6
      have HB6 := Lib.hid hb6
      obtain ⟨⟨c1', c2'⟩, hbel⟩ := id s6
      have HS6 := Lib.hid s6
      clear hb6 s6 hbel
      have HB := Lib.hid HS6.out.2.1
      go_wp2_with fail
      exact bodyPost_ret (v := .tuple #[.agg #[.bool false, .int .i64 0, .string ⟨#[]⟩], .int .i64 0, .int .i64 e]) (by simp [results, Tryz.results80, go_sem, r0', r1', r2']) rfl ⟨rfl, ((HB.out.setCell (p := ⟨_, _, _⟩) (by simp) _).setCell (p := ⟨_, _, _⟩) (by simp) _).setCell (p := ⟨_, _, _⟩) (by simp) _⟩
end Go.Proofs.YtcdmiiaamajfoaaGreatDoor
namespace Go.Proofs.YtcdmiiaamajfoaaGreatDoor
open Go.RowKit Go.Ms Go.Lib

set_option maxRecDepth 100000 in
set_option maxHeartbeats 4000000 in
theorem kunbits_4f (S : ByteArray) (w : World) (hs : S.size ≤ 100000) (hE : Env w) :
    Calls Tryz.prog 80 #[.agg #[.int .i64 4, .bool false], .string S] w fun e w' => e = .returned (unV (kFin 4 false 0 (kUn 4 (S.data.toList)))) ∧ Below w.heap.size w w' := by
  have hex : S.extract 0 S.size = S := by apply ByteArray.ext; simp
  have ci := fun w' => un_4 S w' hs
  have cm := fun w' => may_any 4 false w'
  rw [show kMay 4 = true from rfl] at cm
  have hul := kun_len 4 S.data.toList
  have hdl := kun_le 4 S.data.toList
  obtain ⟨un, us, d, e, hx⟩ : ∃ un us d e, kUn 4 S.data.toList = (un, us, d, e) := ⟨_, _, _, _, rfl⟩
  rw [hx] at ci hul hdl ⊢
  rw [lenS] at hdl
  simp only at ci hul hdl
  have hUsz : (⟨us.toArray⟩ : ByteArray).size = us.length := List.size_toArray
  have cc : ∀ w', Env w' → Calls Tryz.prog 83 #[.agg #[.int .i64 4, .bool false], .agg #[.bool false, .int .i64 un, .string ⟨us.toArray⟩]] w' fun en w'' => en = .returned (.int .i64 (kCheck 4 false false un us)) ∧ Below w'.heap.size w' w'' := fun w' (hE' : Env w') => kcheck_any 4 false false un ⟨us.toArray⟩ w' (by rw [hUsz]; omega) hE'
  have s0 := UnS.of (Box2.start w #[.int .i64 4, .bool false] #[.bool false, .int .i64 0, .string ⟨#[]⟩] 41 23)
  have kf := kfield4
  have vd : IntKind.i64.wrap (1 + (d : Int)) = 1 + (d : Int) := IntWalk.i64_in _ (by omega)
  unfold kFin
  simp only
  obtain ⟨c, hc⟩ : ∃ c, kCheck 4 false false un us = c := ⟨_, rfl⟩
  rw [hc] at cc ⊢
  obtain ⟨US, hUS⟩ : ∃ US : ByteArray, (⟨us.toArray⟩ : ByteArray) = US := ⟨_, rfl⟩
  rw [hUS] at ci cc
  have HS0 := Lib.hid s0; have CI := Lib.hid ci; have CM := Lib.hid cm; have CC := Lib.hid cc; have HE := Lib.hid hE; have HUS := Lib.hid hUS
  clear s0 ci cm cc hE hx hul hc hUsz hUS
  by_cases he : e = 0
  · rw [if_pos he]
    subst he
    by_cases hc : c = 0
    · rw [if_pos hc]
      subst hc
      unfold unV
      simp only
      rw [Nat.zero_add]
      rw [HUS.out]
      go_enter Tryz.func80, Tryz.ntmps80
      go_wp2_with fail
      refine (CM.out _).mono ?_
      rintro en w1 ⟨rfl, b1⟩
      have s1 := HS0.out.step b1
      obtain ⟨⟨c1, c2⟩, _⟩ := id s1
      have HS1 := Lib.hid s1
      have HSD := Lib.hid s1.drew
      clear s1 b1
      go_wp2_with fail
      go_region_held3 (fun w' => (w'.cell? ⟨w.heap.size, 0, none⟩ = some (.int .i64 4) ∧ w'.cell? ⟨w.heap.size, 1, none⟩ = some (.bool false)) ∧ Below w.heap.size w w' ∧ ResB w w')
        (first
          | exact HSD.out
          | exact UnS.step HSD.out bb
          | exact UnS.step (by assumption) bb
          | exact UnS.set HX.out _ _ _
          | (go_keep; done))
        ((first | ((with_reducible refine (of_4 _ _).mono ?_); rintro en w4 ⟨a, rfl, hp, bb⟩) | ((with_reducible refine (CI.out _ ).mono ?_); rintro en w5 ⟨rfl, bb⟩; have HX := Lib.hid (UnS.step (by assumption) bb); obtain ⟨x, y, z, r0, r1, r2, f0, f1, f2⟩ := UnS.res HX.out; have R0 := Lib.hid (UnS.res HX.out))))
      all_goals
        have hblk : ∃ x y z, w5.heap[w.heap.size + 1]? = some (.cells #[x, y, z] 23 (0, 0)) := HX.out.2.2
        obtain ⟨x', y', z', hb5⟩ := hblk
        have hb6 := blk_set3 hb5 (.bool false) (.int .i64 un) (.string US)
        have s6 := HX.out.set (.bool false) (.int .i64 un) (.string US)
        generalize hW6 : ((w5.setCell ⟨w.heap.size + 1, 0, none⟩ (.bool false)).setCell ⟨w.heap.size + 1, 1, none⟩ (.int .i64 un)).setCell ⟨w.heap.size + 1, 2, none⟩ (.string US) = w6 at *
        clear hW6 hb5
        obtain ⟨r0', r1', r2', f0', f1', f2'⟩ := res3x_of hb6
        have HB6 := Lib.hid hb6
        obtain ⟨⟨c1', c2'⟩, hbel⟩ := id s6
        have HS6 := Lib.hid s6
        clear hb6 s6 hbel
        go_wp2_with fail
        refine (CC.out _ (HE.out.below HS6.out.2.1)).mono ?_
        rintro en w7 ⟨rfl, b7⟩
        have hb7 : w7.heap[w.heap.size + 1]? = some (.cells #[.bool false, .int .i64 un, .string US] 23 (0, 0)) := by rw [b7.block _ (Array.getElem?_eq_some_iff.1 HB6.out).1]; exact HB6.out
        obtain ⟨t0, t1, t2, u0, u1, u2⟩ := res3x_of hb7
        have s7 := HS6.out.step b7
        have HB := Lib.hid s7.2.1
        clear hb7 s7 b7
        go_wp2_with fail
        exact bodyPost_ret (v := .tuple #[.agg #[.bool false, .int .i64 un, .string US], .int .i64 (d : Int), .int .i64 0]) (by simp [results, Tryz.results80, go_sem, t0, t1, t2]) rfl ⟨rfl, ((HB.out.setCell (p := ⟨_, _, _⟩) (by simp) _).setCell (p := ⟨_, _, _⟩) (by simp) _).setCell (p := ⟨_, _, _⟩) (by simp) _⟩
    · rw [if_neg hc]
      have q1 : (c != 0) = true := by simpa using hc
      clear hc
      go_enter Tryz.func80, Tryz.ntmps80
      go_wp2_with fail
      refine (CM.out _).mono ?_
      rintro en w1 ⟨rfl, b1⟩
      have s1 := HS0.out.step b1
      obtain ⟨⟨c1, c2⟩, _⟩ := id s1
      have HS1 := Lib.hid s1
      have HSD := Lib.hid s1.drew
      clear s1 b1
      go_wp2_with fail
      go_region_held3 (fun w' => (w'.cell? ⟨w.heap.size, 0, none⟩ = some (.int .i64 4) ∧ w'.cell? ⟨w.heap.size, 1, none⟩ = some (.bool false)) ∧ Below w.heap.size w w' ∧ ResB w w')
        (first
          | exact HSD.out
          | exact UnS.step HSD.out bb
          | exact UnS.step (by assumption) bb
          | exact UnS.set HX.out _ _ _
          | (go_keep; done))
        ((first | ((with_reducible refine (of_4 _ _).mono ?_); rintro en w4 ⟨a, rfl, hp, bb⟩) | ((with_reducible refine (CI.out _ ).mono ?_); rintro en w5 ⟨rfl, bb⟩; have HX := Lib.hid (UnS.step (by assumption) bb); obtain ⟨x, y, z, r0, r1, r2, f0, f1, f2⟩ := UnS.res HX.out; have R0 := Lib.hid (UnS.res HX.out))))
      all_goals
        have hblk : ∃ x y z, w5.heap[w.heap.size + 1]? = some (.cells #[x, y, z] 23 (0, 0)) := HX.out.2.2
        obtain ⟨x', y', z', hb5⟩ := hblk
        have hb6 := blk_set3 hb5 (.bool false) (.int .i64 un) (.string US)
        have s6 := HX.out.set (.bool false) (.int .i64 un) (.string US)
        generalize hW6 : ((w5.setCell ⟨w.heap.size + 1, 0, none⟩ (.bool false)).setCell ⟨w.heap.size + 1, 1, none⟩ (.int .i64 un)).setCell ⟨w.heap.size + 1, 2, none⟩ (.string US) = w6 at *
        clear hW6 hb5
        obtain ⟨r0', r1', r2', f0', f1', f2'⟩ := res3x_of hb6
        have HB6 := Lib.hid hb6
        obtain ⟨⟨c1', c2'⟩, hbel⟩ := id s6
        have HS6 := Lib.hid s6
        clear hb6 s6 hbel
        go_wp2_with fail
        refine (CC.out _ (HE.out.below HS6.out.2.1)).mono ?_
        rintro en w7 ⟨rfl, b7⟩
        have hb7 : w7.heap[w.heap.size + 1]? = some (.cells #[.bool false, .int .i64 un, .string US] 23 (0, 0)) := by rw [b7.block _ (Array.getElem?_eq_some_iff.1 HB6.out).1]; exact HB6.out
        obtain ⟨t0, t1, t2, u0, u1, u2⟩ := res3x_of hb7
        have s7 := HS6.out.step b7
        have HB := Lib.hid s7.2.1
        clear hb7 s7 b7
        go_wp2_with fail
        exact bodyPost_ret (v := .tuple #[.agg #[.bool false, .int .i64 0, .string ⟨#[]⟩], .int .i64 0, .int .i64 4]) (by simp [results, Tryz.results80, go_sem, t0, t1, t2]) rfl ⟨rfl, ((HB.out.setCell (p := ⟨_, _, _⟩) (by simp) _).setCell (p := ⟨_, _, _⟩) (by simp) _).setCell (p := ⟨_, _, _⟩) (by simp) _⟩
  · rw [if_neg he]
    have q1 : (e == 0) = false := by simpa using he
    have q2 : (e != 0) = true := by simpa using he
    clear he
    go_enter Tryz.func80, Tryz.ntmps80
    go_wp2_with fail
    refine (CM.out _).mono ?_
    rintro en w1 ⟨rfl, b1⟩
    have s1 := HS0.out.step b1
    obtain ⟨⟨c1, c2⟩, _⟩ := id s1
    have HS1 := Lib.hid s1
    have HSD := Lib.hid s1.drew
    clear s1 b1
    go_wp2_with fail
    go_region_held3 (fun w' => (w'.cell? ⟨w.heap.size, 0, none⟩ = some (.int .i64 4) ∧ w'.cell? ⟨w.heap.size, 1, none⟩ = some (.bool false)) ∧ Below w.heap.size w w' ∧ ResB w w')
      (first
        | exact HSD.out
        | exact UnS.step HSD.out bb
        | exact UnS.step (by assumption) bb
        | exact UnS.set HX.out _ _ _
        | (go_keep; done))
      ((first | ((with_reducible refine (of_4 _ _).mono ?_); rintro en w4 ⟨a, rfl, hp, bb⟩) | ((with_reducible refine (CI.out _ ).mono ?_); rintro en w5 ⟨rfl, bb⟩; have HX := Lib.hid (UnS.step (by assumption) bb); obtain ⟨x, y, z, r0, r1, r2, f0, f1, f2⟩ := UnS.res HX.out; have R0 := Lib.hid (UnS.res HX.out))))
    all_goals
      have hblk : ∃ x y z, w5.heap[w.heap.size + 1]? = some (.cells #[x, y, z] 23 (0, 0)) := HX.out.2.2
      obtain ⟨x', y', z', hb5⟩ := hblk
      have hb6 := blk_set3 hb5 (.bool false) (.int .i64 un) (.string US)
      have s6 := HX.out.set (.bool false) (.int .i64 un) (.string US)
      generalize hW6 : ((w5.setCell ⟨w.heap.size + 1, 0, none⟩ (.bool false)).setCell ⟨w.heap.size + 1, 1, none⟩ (.int .i64 un)).setCell ⟨w.heap.size + 1, 2, none⟩ (.string US) = w6 at *
      clear hW6 hb5
      obtain ⟨r0', r1', r2', f0', f1', f2'⟩ := res3x_of hb6
      have HB6 := Lib.hid hb6
      obtain ⟨⟨c1', c2'⟩, hbel⟩ := id s6
      have HS6 := Lib.hid s6
      clear hb6 s6 hbel
      have HB := Lib.hid HS6.out.2.1
      go_wp2_with fail
      exact bodyPost_ret (v := .tuple #[.agg #[.bool false, .int .i64 0, .string ⟨#[]⟩], .int .i64 0, .int .i64 e]) (by simp [results, Tryz.results80, go_sem, r0', r1', r2']) rfl ⟨rfl, ((HB.out.setCell (p := ⟨_, _, _⟩) (by simp) _).setCell (p := ⟨_, _, _⟩) (by simp) _).setCell (p := ⟨_, _, _⟩) (by simp) _⟩
set_option maxRecDepth 100000 in
set_option maxHeartbeats 4000000 in
theorem kunbits_4t (S : ByteArray) (w : World) (hs : S.size ≤ 100000) (hE : Env w) (hu : kUnbool S.data.toList = (1, 1, 0)) (h1 : 1 ≤ S.size) :
    Calls Tryz.prog 80 #[.agg #[.int .i64 4, .bool true], .string S] w fun e w' => e = .returned (unV (kFin 4 true 1 (kUn 4 (S.data.toList.drop 1)))) ∧ Below w.heap.size w w' := by
  have cu := fun w' => unbool_any S w'
  rw [show unboolD S.data.toList = (1, 1, 0) from hu] at cu
  simp only at cu
  have h1i : (1 : Int) ≤ (S.size : Int) := by omega
  obtain ⟨T, hT⟩ : ∃ T, S.extract 1 S.size = T := ⟨_, rfl⟩
  have hTl : T.data.toList = S.data.toList.drop 1 := by rw [← hT, ext_list, List.take_of_length_le (by simp)]
  have hTs : T.size ≤ 100000 := by rw [← hT, ByteArray.size_extract]; omega
  rw [← hTl]
  have CU := Lib.hid cu
  clear cu hTl hu
  have ci := fun w' => un_4 T w' hTs
  have cm := fun w' => may_any 4 true w'
  rw [show kMay 4 = true from rfl] at cm
  have hul := kun_len 4 T.data.toList
  have hdl := kun_le 4 T.data.toList
  obtain ⟨un, us, d, e, hx⟩ : ∃ un us d e, kUn 4 T.data.toList = (un, us, d, e) := ⟨_, _, _, _, rfl⟩
  rw [hx] at ci hul hdl ⊢
  rw [lenS] at hdl
  simp only at ci hul hdl
  have hUsz : (⟨us.toArray⟩ : ByteArray).size = us.length := List.size_toArray
  have cc : ∀ w', Env w' → Calls Tryz.prog 83 #[.agg #[.int .i64 4, .bool true], .agg #[.bool false, .int .i64 un, .string ⟨us.toArray⟩]] w' fun en w'' => en = .returned (.int .i64 (kCheck 4 true false un us)) ∧ Below w'.heap.size w' w'' := fun w' (hE' : Env w') => kcheck_any 4 true false un ⟨us.toArray⟩ w' (by rw [hUsz]; omega) hE'
  have s0 := UnS.of (Box2.start w #[.int .i64 4, .bool true] #[.bool false, .int .i64 0, .string ⟨#[]⟩] 41 23)
  have kf := kfield4
  have vd : IntKind.i64.wrap (1 + (d : Int)) = 1 + (d : Int) := IntWalk.i64_in _ (by omega)
  unfold kFin
  simp only
  obtain ⟨c, hc⟩ : ∃ c, kCheck 4 true false un us = c := ⟨_, rfl⟩
  rw [hc] at cc ⊢
  obtain ⟨US, hUS⟩ : ∃ US : ByteArray, (⟨us.toArray⟩ : ByteArray) = US := ⟨_, rfl⟩
  rw [hUS] at ci cc
  have HS0 := Lib.hid s0; have CI := Lib.hid ci; have CM := Lib.hid cm; have CC := Lib.hid cc; have HE := Lib.hid hE; have HUS := Lib.hid hUS
  clear s0 ci cm cc hE hx hul hc hUsz hUS
  by_cases he : e = 0
  · rw [if_pos he]
    subst he
    by_cases hc : c = 0
    · rw [if_pos hc]
      subst hc
      unfold unV
      simp only
      rw [show ((1 + d : Nat) : Int) = 1 + (d : Int) by omega]
      rw [HUS.out]
      go_enter Tryz.func80, Tryz.ntmps80
      go_wp2_with fail
      refine (CM.out _).mono ?_
      rintro en w1 ⟨rfl, b1⟩
      have s1 := HS0.out.step b1
      obtain ⟨⟨c1, c2⟩, _⟩ := id s1
      have HS1 := Lib.hid s1
      clear s1 b1
      go_wp2_with fail
      refine (CU.out _).mono ?_
      rintro en w2 ⟨rfl, b2⟩
      have s2 := HS1.out.step b2
      have s3 := s2.step ((Below.refl _ _).alloc (Nat.le_refl _) (.cells #[.bool false, .int .i64 1, .string ⟨#[]⟩] 23))
      clear c1 c2
      obtain ⟨⟨c1, c2⟩, _⟩ := id s2
      obtain ⟨⟨a1, a2⟩, _⟩ := id s3
      have n1 : w.heap.size < w2.heap.size := by have := cell_lt c1; exact this
      have HS3 := Lib.hid s3
      clear s2 s3 b2
      go_wp2_with fail
      obtain ⟨W3, hW3⟩ : ∃ W3, w2.alloc (.cells #[.bool false, .int .i64 1, .string ⟨#[]⟩] 23) = W3 := ⟨_, rfl⟩
      rw [hW3] at HS3 a1 a2
      rw [hW3]
      have HSD := Lib.hid HS3.out.drew
      clear hW3
      go_region_held3 (fun w' => (w'.cell? ⟨w.heap.size, 0, none⟩ = some (.int .i64 4) ∧ w'.cell? ⟨w.heap.size, 1, none⟩ = some (.bool true)) ∧ Below w.heap.size w w' ∧ ResB w w')
        (first
          | exact HSD.out
          | exact UnS.step HSD.out bb
          | exact UnS.step (by assumption) bb
          | exact UnS.set HX.out _ _ _
          | (go_keep; done))
        ((first | ((with_reducible refine (of_4 _ _).mono ?_); rintro en w4 ⟨a, rfl, hp, bb⟩) | ((with_reducible refine (CI.out _ ).mono ?_); rintro en w5 ⟨rfl, bb⟩; have HX := Lib.hid (UnS.step (by assumption) bb); obtain ⟨x, y, z, r0, r1, r2, f0, f1, f2⟩ := UnS.res HX.out; have R0 := Lib.hid (UnS.res HX.out))))
      all_goals
        have hblk : ∃ x y z, w5.heap[w.heap.size + 1]? = some (.cells #[x, y, z] 23 (0, 0)) := HX.out.2.2
        obtain ⟨x', y', z', hb5⟩ := hblk
        have hb6 := blk_set3 hb5 (.bool false) (.int .i64 un) (.string US)
        have s6 := HX.out.set (.bool false) (.int .i64 un) (.string US)
        generalize hW6 : ((w5.setCell ⟨w.heap.size + 1, 0, none⟩ (.bool false)).setCell ⟨w.heap.size + 1, 1, none⟩ (.int .i64 un)).setCell ⟨w.heap.size + 1, 2, none⟩ (.string US) = w6 at *
        clear hW6 hb5
        obtain ⟨r0', r1', r2', f0', f1', f2'⟩ := res3x_of hb6
        have HB6 := Lib.hid hb6
        obtain ⟨⟨c1', c2'⟩, hbel⟩ := id s6
        have HS6 := Lib.hid s6
        clear hb6 s6 hbel
        go_wp2_with fail
        refine (CC.out _ (HE.out.below HS6.out.2.1)).mono ?_
        rintro en w7 ⟨rfl, b7⟩
        have hb7 : w7.heap[w.heap.size + 1]? = some (.cells #[.bool false, .int .i64 un, .string US] 23 (0, 0)) := by rw [b7.block _ (Array.getElem?_eq_some_iff.1 HB6.out).1]; exact HB6.out
        obtain ⟨t0, t1, t2, u0, u1, u2⟩ := res3x_of hb7
        have s7 := HS6.out.step b7
        have HB := Lib.hid s7.2.1
        clear hb7 s7 b7
        go_wp2_with fail
        exact bodyPost_ret (v := .tuple #[.agg #[.bool false, .int .i64 un, .string US], .int .i64 (1 + (d : Int)), .int .i64 0]) (by simp [results, Tryz.results80, go_sem, t0, t1, t2]) rfl ⟨rfl, ((HB.out.setCell (p := ⟨_, _, _⟩) (by simp) _).setCell (p := ⟨_, _, _⟩) (by simp) _).setCell (p := ⟨_, _, _⟩) (by simp) _⟩
    · rw [if_neg hc]
      have q1 : (c != 0) = true := by simpa using hc
      clear hc
      go_enter Tryz.func80, Tryz.ntmps80
      go_wp2_with fail
      refine (CM.out _).mono ?_
      rintro en w1 ⟨rfl, b1⟩
      have s1 := HS0.out.step b1
      obtain ⟨⟨c1, c2⟩, _⟩ := id s1
      have HS1 := Lib.hid s1
      clear s1 b1
      go_wp2_with fail
      refine (CU.out _).mono ?_
      rintro en w2 ⟨rfl, b2⟩
      have s2 := HS1.out.step b2
      have s3 := s2.step ((Below.refl _ _).alloc (Nat.le_refl _) (.cells #[.bool false, .int .i64 1, .string ⟨#[]⟩] 23))
      clear c1 c2
      obtain ⟨⟨c1, c2⟩, _⟩ := id s2
      obtain ⟨⟨a1, a2⟩, _⟩ := id s3
      have n1 : w.heap.size < w2.heap.size := by have := cell_lt c1; exact this
      have HS3 := Lib.hid s3
      clear s2 s3 b2
      go_wp2_with fail
      obtain ⟨W3, hW3⟩ : ∃ W3, w2.alloc (.cells #[.bool false, .int .i64 1, .string ⟨#[]⟩] 23) = W3 := ⟨_, rfl⟩
      rw [hW3] at HS3 a1 a2
      rw [hW3]
      have HSD := Lib.hid HS3.out.drew
      clear hW3
      go_region_held3 (fun w' => (w'.cell? ⟨w.heap.size, 0, none⟩ = some (.int .i64 4) ∧ w'.cell? ⟨w.heap.size, 1, none⟩ = some (.bool true)) ∧ Below w.heap.size w w' ∧ ResB w w')
        (first
          | exact HSD.out
          | exact UnS.step HSD.out bb
          | exact UnS.step (by assumption) bb
          | exact UnS.set HX.out _ _ _
          | (go_keep; done))
        ((first | ((with_reducible refine (of_4 _ _).mono ?_); rintro en w4 ⟨a, rfl, hp, bb⟩) | ((with_reducible refine (CI.out _ ).mono ?_); rintro en w5 ⟨rfl, bb⟩; have HX := Lib.hid (UnS.step (by assumption) bb); obtain ⟨x, y, z, r0, r1, r2, f0, f1, f2⟩ := UnS.res HX.out; have R0 := Lib.hid (UnS.res HX.out))))
      all_goals
        have hblk : ∃ x y z, w5.heap[w.heap.size + 1]? = some (.cells #[x, y, z] 23 (0, 0)) := HX.out.2.2
        obtain ⟨x', y', z', hb5⟩ := hblk
        have hb6 := blk_set3 hb5 (.bool false) (.int .i64 un) (.string US)
        have s6 := HX.out.set (.bool false) (.int .i64 un) (.string US)
        generalize hW6 : ((w5.setCell ⟨w.heap.size + 1, 0, none⟩ (.bool false)).setCell ⟨w.heap.size + 1, 1, none⟩ (.int .i64 un)).setCell ⟨w.heap.size + 1, 2, none⟩ (.string US) = w6 at *
        clear hW6 hb5
        obtain ⟨r0', r1', r2', f0', f1', f2'⟩ := res3x_of hb6
        have HB6 := Lib.hid hb6
        obtain ⟨⟨c1', c2'⟩, hbel⟩ := id s6
        have HS6 := Lib.hid s6
        clear hb6 s6 hbel
        go_wp2_with fail
        refine (CC.out _ (HE.out.below HS6.out.2.1)).mono ?_
        rintro en w7 ⟨rfl, b7⟩
        have hb7 : w7.heap[w.heap.size + 1]? = some (.cells #[.bool false, .int .i64 un, .string US] 23 (0, 0)) := by rw [b7.block _ (Array.getElem?_eq_some_iff.1 HB6.out).1]; exact HB6.out
        obtain ⟨t0, t1, t2, u0, u1, u2⟩ := res3x_of hb7
        have s7 := HS6.out.step b7
        have HB := Lib.hid s7.2.1
        clear hb7 s7 b7
        go_wp2_with fail
        exact bodyPost_ret (v := .tuple #[.agg #[.bool false, .int .i64 0, .string ⟨#[]⟩], .int .i64 0, .int .i64 4]) (by simp [results, Tryz.results80, go_sem, t0, t1, t2]) rfl ⟨rfl, ((HB.out.setCell (p := ⟨_, _, _⟩) (by simp) _).setCell (p := ⟨_, _, _⟩) (by simp) _).setCell (p := ⟨_, _, _⟩) (by simp) _⟩
  · rw [if_neg he]
    have q1 : (e == 0) = false := by simpa using he
    have q2 : (e != 0) = true := by simpa using he
    clear he
    go_enter Tryz.func80, Tryz.ntmps80
    go_wp2_with fail
    refine (CM.out _).mono ?_
    rintro en w1 ⟨rfl, b1⟩
    have s1 := HS0.out.step b1
    obtain ⟨⟨c1, c2⟩, _⟩ := id s1
    have HS1 := Lib.hid s1
    clear s1 b1
    go_wp2_with fail
    refine (CU.out _).mono ?_
    rintro en w2 ⟨rfl, b2⟩
    have s2 := HS1.out.step b2
    have s3 := s2.step ((Below.refl _ _).alloc (Nat.le_refl _) (.cells #[.bool false, .int .i64 1, .string ⟨#[]⟩] 23))
    clear c1 c2
    obtain ⟨⟨c1, c2⟩, _⟩ := id s2
    obtain ⟨⟨a1, a2⟩, _⟩ := id s3
    have n1 : w.heap.size < w2.heap.size := by have := cell_lt c1; exact this
    have HS3 := Lib.hid s3
    clear s2 s3 b2
    go_wp2_with fail
    obtain ⟨W3, hW3⟩ : ∃ W3, w2.alloc (.cells #[.bool false, .int .i64 1, .string ⟨#[]⟩] 23) = W3 := ⟨_, rfl⟩
    rw [hW3] at HS3 a1 a2
    rw [hW3]
    have HSD := Lib.hid HS3.out.drew
    clear hW3
    go_region_held3 (fun w' => (w'.cell? ⟨w.heap.size, 0, none⟩ = some (.int .i64 4) ∧ w'.cell? ⟨w.heap.size, 1, none⟩ = some (.bool true)) ∧ Below w.heap.size w w' ∧ ResB w w')
      (first
        | exact HSD.out
        | exact UnS.step HSD.out bb
        | exact UnS.step (by assumption) bb
        | exact UnS.set HX.out _ _ _
        | (go_keep; done))
      ((first | ((with_reducible refine (of_4 _ _).mono ?_); rintro en w4 ⟨a, rfl, hp, bb⟩) | ((with_reducible refine (CI.out _ ).mono ?_); rintro en w5 ⟨rfl, bb⟩; have HX := Lib.hid (UnS.step (by assumption) bb); obtain ⟨x, y, z, r0, r1, r2, f0, f1, f2⟩ := UnS.res HX.out; have R0 := Lib.hid (UnS.res HX.out))))
    all_goals
      have hblk : ∃ x y z, w5.heap[w.heap.size + 1]? = some (.cells #[x, y, z] 23 (0, 0)) := HX.out.2.2
      obtain ⟨x', y', z', hb5⟩ := hblk
      have hb6 := blk_set3 hb5 (.bool false) (.int .i64 un) (.string US)
      have s6 := HX.out.set (.bool false) (.int .i64 un) (.string US)
      generalize hW6 : ((w5.setCell ⟨w.heap.size + 1, 0, none⟩ (.bool false)).setCell ⟨w.heap.size + 1, 1, none⟩ (.int .i64 un)).setCell ⟨w.heap.size + 1, 2, none⟩ (.string US) = w6 at *
      clear hW6 hb5
      obtain ⟨r0', r1', r2', f0', f1', f2'⟩ := res3x_of hb6
      have HB6 := Lib.hid hb6
      obtain ⟨⟨c1', c2'⟩, hbel⟩ := id s6
      have HS6 := Lib.hid s6
      clear hb6 s6 hbel
      have HB := Lib.hid HS6.out.2.1
      go_wp2_with fail
      exact bodyPost_ret (v := .tuple #[.agg #[.bool false, .int .i64 0, .string ⟨#[]⟩], .int .i64 0, .int .i64 e]) (by simp [results, Tryz.results80, go_sem, r0', r1', r2']) rfl ⟨rfl, ((HB.out.setCell (p := ⟨_, _, _⟩) (by simp) _).setCell (p := ⟨_, _, _⟩) (by simp) _).setCell (p := ⟨_, _, _⟩) (by simp) _⟩
end Go.Proofs.YtcdmiiaamajfoaaGreatDoor
namespace Go.Proofs.YtcdmiiaamajfoaaGreatDoor
open Go.RowKit Go.Ms Go.Lib

set_option maxRecDepth 100000 in
set_option maxHeartbeats 4000000 in
theorem kunbits_5f (S : ByteArray) (w : World) (hs : S.size ≤ 100000) (hE : Env w) :
    Calls Tryz.prog 80 #[.agg #[.int .i64 5, .bool false], .string S] w fun e w' => e = .returned (unV (kFin 5 false 0 (kUn 5 (S.data.toList)))) ∧ Below w.heap.size w w' := by
  have hex : S.extract 0 S.size = S := by apply ByteArray.ext; simp
  have ci := fun w' => un_5 S w' hs
  have cm := fun w' => may_any 5 false w'
  rw [show kMay 5 = true from rfl] at cm
  have hul := kun_len 5 S.data.toList
  have hdl := kun_le 5 S.data.toList
  obtain ⟨un, us, d, e, hx⟩ : ∃ un us d e, kUn 5 S.data.toList = (un, us, d, e) := ⟨_, _, _, _, rfl⟩
  rw [hx] at ci hul hdl ⊢
  rw [lenS] at hdl
  simp only at ci hul hdl
  have hUsz : (⟨us.toArray⟩ : ByteArray).size = us.length := List.size_toArray
  have cc : ∀ w', Env w' → Calls Tryz.prog 83 #[.agg #[.int .i64 5, .bool false], .agg #[.bool false, .int .i64 un, .string ⟨us.toArray⟩]] w' fun en w'' => en = .returned (.int .i64 (kCheck 5 false false un us)) ∧ Below w'.heap.size w' w'' := fun w' (hE' : Env w') => kcheck_any 5 false false un ⟨us.toArray⟩ w' (by rw [hUsz]; omega) hE'
  have s0 := UnS.of (Box2.start w #[.int .i64 5, .bool false] #[.bool false, .int .i64 0, .string ⟨#[]⟩] 41 23)
  have kf := kfield4
  have vd : IntKind.i64.wrap (1 + (d : Int)) = 1 + (d : Int) := IntWalk.i64_in _ (by omega)
  unfold kFin
  simp only
  obtain ⟨c, hc⟩ : ∃ c, kCheck 5 false false un us = c := ⟨_, rfl⟩
  rw [hc] at cc ⊢
  obtain ⟨US, hUS⟩ : ∃ US : ByteArray, (⟨us.toArray⟩ : ByteArray) = US := ⟨_, rfl⟩
  rw [hUS] at ci cc
  have HS0 := Lib.hid s0; have CI := Lib.hid ci; have CM := Lib.hid cm; have CC := Lib.hid cc; have HE := Lib.hid hE; have HUS := Lib.hid hUS
  clear s0 ci cm cc hE hx hul hc hUsz hUS
  by_cases he : e = 0
  · rw [if_pos he]
    subst he
    by_cases hc : c = 0
    · rw [if_pos hc]
      subst hc
      unfold unV
      simp only
      rw [Nat.zero_add]
      rw [HUS.out]
      go_enter Tryz.func80, Tryz.ntmps80
      go_wp2_with fail
      refine (CM.out _).mono ?_
      rintro en w1 ⟨rfl, b1⟩
      have s1 := HS0.out.step b1
      obtain ⟨⟨c1, c2⟩, _⟩ := id s1
      have HS1 := Lib.hid s1
      have HSD := Lib.hid s1.drew
      clear s1 b1
      go_wp2_with fail
      go_region_held3 (fun w' => (w'.cell? ⟨w.heap.size, 0, none⟩ = some (.int .i64 5) ∧ w'.cell? ⟨w.heap.size, 1, none⟩ = some (.bool false)) ∧ Below w.heap.size w w' ∧ ResB w w')
        (first
          | exact HSD.out
          | exact UnS.step HSD.out bb
          | exact UnS.step (by assumption) bb
          | exact UnS.set HX.out _ _ _
          | (go_keep; done))
        ((first | ((with_reducible refine (of_5 _ _).mono ?_); rintro en w4 ⟨rfl, bb⟩) | ((with_reducible refine (CI.out _ ).mono ?_); rintro en w5 ⟨rfl, bb⟩; have HX := Lib.hid (UnS.step (by assumption) bb); obtain ⟨x, y, z, r0, r1, r2, f0, f1, f2⟩ := UnS.res HX.out; have R0 := Lib.hid (UnS.res HX.out))))
      all_goals
        have hblk : ∃ x y z, w5.heap[w.heap.size + 1]? = some (.cells #[x, y, z] 23 (0, 0)) := HX.out.2.2
        obtain ⟨x', y', z', hb5⟩ := hblk
        have hb6 := blk_set3 hb5 (.bool false) (.int .i64 un) (.string US)
        have s6 := HX.out.set (.bool false) (.int .i64 un) (.string US)
        generalize hW6 : ((w5.setCell ⟨w.heap.size + 1, 0, none⟩ (.bool false)).setCell ⟨w.heap.size + 1, 1, none⟩ (.int .i64 un)).setCell ⟨w.heap.size + 1, 2, none⟩ (.string US) = w6 at *
        clear hW6 hb5
        obtain ⟨r0', r1', r2', f0', f1', f2'⟩ := res3x_of hb6
        have HB6 := Lib.hid hb6
        obtain ⟨⟨c1', c2'⟩, hbel⟩ := id s6
        have HS6 := Lib.hid s6
        clear hb6 s6 hbel
        go_wp2_with fail
        refine (CC.out _ (HE.out.below HS6.out.2.1)).mono ?_
        rintro en w7 ⟨rfl, b7⟩
        have hb7 : w7.heap[w.heap.size + 1]? = some (.cells #[.bool false, .int .i64 un, .string US] 23 (0, 0)) := by rw [b7.block _ (Array.getElem?_eq_some_iff.1 HB6.out).1]; exact HB6.out
        obtain ⟨t0, t1, t2, u0, u1, u2⟩ := res3x_of hb7
        have s7 := HS6.out.step b7
        have HB := Lib.hid s7.2.1
        clear hb7 s7 b7
        go_wp2_with fail
        exact bodyPost_ret (v := .tuple #[.agg #[.bool false, .int .i64 un, .string US], .int .i64 (d : Int), .int .i64 0]) (by simp [results, Tryz.results80, go_sem, t0, t1, t2]) rfl ⟨rfl, ((HB.out.setCell (p := ⟨_, _, _⟩) (by simp) _).setCell (p := ⟨_, _, _⟩) (by simp) _).setCell (p := ⟨_, _, _⟩) (by simp) _⟩
    · rw [if_neg hc]
      have q1 : (c != 0) = true := by simpa using hc
      clear hc
      go_enter Tryz.func80, Tryz.ntmps80
      go_wp2_with fail
      refine (CM.out _).mono ?_
      rintro en w1 ⟨rfl, b1⟩
      have s1 := HS0.out.step b1
      obtain ⟨⟨c1, c2⟩, _⟩ := id s1
      have HS1 := Lib.hid s1
      have HSD := Lib.hid s1.drew
      clear s1 b1
      go_wp2_with fail
      go_region_held3 (fun w' => (w'.cell? ⟨w.heap.size, 0, none⟩ = some (.int .i64 5) ∧ w'.cell? ⟨w.heap.size, 1, none⟩ = some (.bool false)) ∧ Below w.heap.size w w' ∧ ResB w w')
        (first
          | exact HSD.out
          | exact UnS.step HSD.out bb
          | exact UnS.step (by assumption) bb
          | exact UnS.set HX.out _ _ _
          | (go_keep; done))
        ((first | ((with_reducible refine (of_5 _ _).mono ?_); rintro en w4 ⟨rfl, bb⟩) | ((with_reducible refine (CI.out _ ).mono ?_); rintro en w5 ⟨rfl, bb⟩; have HX := Lib.hid (UnS.step (by assumption) bb); obtain ⟨x, y, z, r0, r1, r2, f0, f1, f2⟩ := UnS.res HX.out; have R0 := Lib.hid (UnS.res HX.out))))
      all_goals
        have hblk : ∃ x y z, w5.heap[w.heap.size + 1]? = some (.cells #[x, y, z] 23 (0, 0)) := HX.out.2.2
        obtain ⟨x', y', z', hb5⟩ := hblk
        have hb6 := blk_set3 hb5 (.bool false) (.int .i64 un) (.string US)
        have s6 := HX.out.set (.bool false) (.int .i64 un) (.string US)
        generalize hW6 : ((w5.setCell ⟨w.heap.size + 1, 0, none⟩ (.bool false)).setCell ⟨w.heap.size + 1, 1, none⟩ (.int .i64 un)).setCell ⟨w.heap.size + 1, 2, none⟩ (.string US) = w6 at *
        clear hW6 hb5
        obtain ⟨r0', r1', r2', f0', f1', f2'⟩ := res3x_of hb6
        have HB6 := Lib.hid hb6
        obtain ⟨⟨c1', c2'⟩, hbel⟩ := id s6
        have HS6 := Lib.hid s6
        clear hb6 s6 hbel
        go_wp2_with fail
        refine (CC.out _ (HE.out.below HS6.out.2.1)).mono ?_
        rintro en w7 ⟨rfl, b7⟩
        have hb7 : w7.heap[w.heap.size + 1]? = some (.cells #[.bool false, .int .i64 un, .string US] 23 (0, 0)) := by rw [b7.block _ (Array.getElem?_eq_some_iff.1 HB6.out).1]; exact HB6.out
        obtain ⟨t0, t1, t2, u0, u1, u2⟩ := res3x_of hb7
        have s7 := HS6.out.step b7
        have HB := Lib.hid s7.2.1
        clear hb7 s7 b7
        go_wp2_with fail
        exact bodyPost_ret (v := .tuple #[.agg #[.bool false, .int .i64 0, .string ⟨#[]⟩], .int .i64 0, .int .i64 4]) (by simp [results, Tryz.results80, go_sem, t0, t1, t2]) rfl ⟨rfl, ((HB.out.setCell (p := ⟨_, _, _⟩) (by simp) _).setCell (p := ⟨_, _, _⟩) (by simp) _).setCell (p := ⟨_, _, _⟩) (by simp) _⟩
  · rw [if_neg he]
    have q1 : (e == 0) = false := by simpa using he
    have q2 : (e != 0) = true := by simpa using he
    clear he
    go_enter Tryz.func80, Tryz.ntmps80
    go_wp2_with fail
    refine (CM.out _).mono ?_
    rintro en w1 ⟨rfl, b1⟩
    have s1 := HS0.out.step b1
    obtain ⟨⟨c1, c2⟩, _⟩ := id s1
    have HS1 := Lib.hid s1
    have HSD := Lib.hid s1.drew
    clear s1 b1
    go_wp2_with fail
    go_region_held3 (fun w' => (w'.cell? ⟨w.heap.size, 0, none⟩ = some (.int .i64 5) ∧ w'.cell? ⟨w.heap.size, 1, none⟩ = some (.bool false)) ∧ Below w.heap.size w w' ∧ ResB w w')
      (first
        | exact HSD.out
        | exact UnS.step HSD.out bb
        | exact UnS.step (by assumption) bb
        | exact UnS.set HX.out _ _ _
        | (go_keep; done))
      ((first | ((with_reducible refine (of_5 _ _).mono ?_); rintro en w4 ⟨rfl, bb⟩) | ((with_reducible refine (CI.out _ ).mono ?_); rintro en w5 ⟨rfl, bb⟩; have HX := Lib.hid (UnS.step (by assumption) bb); obtain ⟨x, y, z, r0, r1, r2, f0, f1, f2⟩ := UnS.res HX.out; have R0 := Lib.hid (UnS.res HX.out))))
    all_goals
      have hblk : ∃ x y z, w5.heap[w.heap.size + 1]? = some (.cells #[x, y, z] 23 (0, 0)) := HX.out.2.2
      obtain ⟨x', y', z', hb5⟩ := hblk
      have hb6 := blk_set3 hb5 (.bool false) (.int .i64 un) (.string US)
      have s6 := HX.out.set (.bool false) (.int .i64 un) (.string US)
      generalize hW6 : ((w5.setCell ⟨w.heap.size + 1, 0, none⟩ (.bool false)).setCell ⟨w.heap.size + 1, 1, none⟩ (.int .i64 un)).setCell ⟨w.heap.size + 1, 2, none⟩ (.string US) = w6 at *
      clear hW6 hb5
      obtain ⟨r0', r1', r2', f0', f1', f2'⟩ := res3x_of hb6
      have HB6 := Lib.hid hb6
      obtain ⟨⟨c1', c2'⟩, hbel⟩ := id s6
      have HS6 := Lib.hid s6
      clear hb6 s6 hbel
      have HB := Lib.hid HS6.out.2.1
      go_wp2_with fail
      exact bodyPost_ret (v := .tuple #[.agg #[.bool false, .int .i64 0, .string ⟨#[]⟩], .int .i64 0, .int .i64 e]) (by simp [results, Tryz.results80, go_sem, r0', r1', r2']) rfl ⟨rfl, ((HB.out.setCell (p := ⟨_, _, _⟩) (by simp) _).setCell (p := ⟨_, _, _⟩) (by simp) _).setCell (p := ⟨_, _, _⟩) (by simp) _⟩
set_option maxRecDepth 100000 in
set_option maxHeartbeats 4000000 in
theorem kunbits_5t (S : ByteArray) (w : World) (hs : S.size ≤ 100000) (hE : Env w) (hu : kUnbool S.data.toList = (1, 1, 0)) (h1 : 1 ≤ S.size) :
    Calls Tryz.prog 80 #[.agg #[.int .i64 5, .bool true], .string S] w fun e w' => e = .returned (unV (kFin 5 true 1 (kUn 5 (S.data.toList.drop 1)))) ∧ Below w.heap.size w w' := by
  have cu := fun w' => unbool_any S w'
  rw [show unboolD S.data.toList = (1, 1, 0) from hu] at cu
  simp only at cu
  have h1i : (1 : Int) ≤ (S.size : Int) := by omega
  obtain ⟨T, hT⟩ : ∃ T, S.extract 1 S.size = T := ⟨_, rfl⟩
  have hTl : T.data.toList = S.data.toList.drop 1 := by rw [← hT, ext_list, List.take_of_length_le (by simp)]
  have hTs : T.size ≤ 100000 := by rw [← hT, ByteArray.size_extract]; omega
  rw [← hTl]
  have CU := Lib.hid cu
  clear cu hTl hu
  have ci := fun w' => un_5 T w' hTs
  have cm := fun w' => may_any 5 true w'
  rw [show kMay 5 = true from rfl] at cm
  have hul := kun_len 5 T.data.toList
  have hdl := kun_le 5 T.data.toList
  obtain ⟨un, us, d, e, hx⟩ : ∃ un us d e, kUn 5 T.data.toList = (un, us, d, e) := ⟨_, _, _, _, rfl⟩
  rw [hx] at ci hul hdl ⊢
  rw [lenS] at hdl
  simp only at ci hul hdl
  have hUsz : (⟨us.toArray⟩ : ByteArray).size = us.length := List.size_toArray
  have cc : ∀ w', Env w' → Calls Tryz.prog 83 #[.agg #[.int .i64 5, .bool true], .agg #[.bool false, .int .i64 un, .string ⟨us.toArray⟩]] w' fun en w'' => en = .returned (.int .i64 (kCheck 5 true false un us)) ∧ Below w'.heap.size w' w'' := fun w' (hE' : Env w') => kcheck_any 5 true false un ⟨us.toArray⟩ w' (by rw [hUsz]; omega) hE'
  have s0 := UnS.of (Box2.start w #[.int .i64 5, .bool true] #[.bool false, .int .i64 0, .string ⟨#[]⟩] 41 23)
  have kf := kfield4
  have vd : IntKind.i64.wrap (1 + (d : Int)) = 1 + (d : Int) := IntWalk.i64_in _ (by omega)
  unfold kFin
  simp only
  obtain ⟨c, hc⟩ : ∃ c, kCheck 5 true false un us = c := ⟨_, rfl⟩
  rw [hc] at cc ⊢
  obtain ⟨US, hUS⟩ : ∃ US : ByteArray, (⟨us.toArray⟩ : ByteArray) = US := ⟨_, rfl⟩
  rw [hUS] at ci cc
  have HS0 := Lib.hid s0; have CI := Lib.hid ci; have CM := Lib.hid cm; have CC := Lib.hid cc; have HE := Lib.hid hE; have HUS := Lib.hid hUS
  clear s0 ci cm cc hE hx hul hc hUsz hUS
  by_cases he : e = 0
  · rw [if_pos he]
    subst he
    by_cases hc : c = 0
    · rw [if_pos hc]
      subst hc
      unfold unV
      simp only
      rw [show ((1 + d : Nat) : Int) = 1 + (d : Int) by omega]
      rw [HUS.out]
      go_enter Tryz.func80, Tryz.ntmps80
      go_wp2_with fail
      refine (CM.out _).mono ?_
      rintro en w1 ⟨rfl, b1⟩
      have s1 := HS0.out.step b1
      obtain ⟨⟨c1, c2⟩, _⟩ := id s1
      have HS1 := Lib.hid s1
      clear s1 b1
      go_wp2_with fail
      refine (CU.out _).mono ?_
      rintro en w2 ⟨rfl, b2⟩
      have s2 := HS1.out.step b2
      have s3 := s2.step ((Below.refl _ _).alloc (Nat.le_refl _) (.cells #[.bool false, .int .i64 1, .string ⟨#[]⟩] 23))
      clear c1 c2
      obtain ⟨⟨c1, c2⟩, _⟩ := id s2
      obtain ⟨⟨a1, a2⟩, _⟩ := id s3
      have n1 : w.heap.size < w2.heap.size := by have := cell_lt c1; exact this
      have HS3 := Lib.hid s3
      clear s2 s3 b2
      go_wp2_with fail
      obtain ⟨W3, hW3⟩ : ∃ W3, w2.alloc (.cells #[.bool false, .int .i64 1, .string ⟨#[]⟩] 23) = W3 := ⟨_, rfl⟩
      rw [hW3] at HS3 a1 a2
      rw [hW3]
      have HSD := Lib.hid HS3.out.drew
      clear hW3
      go_region_held3 (fun w' => (w'.cell? ⟨w.heap.size, 0, none⟩ = some (.int .i64 5) ∧ w'.cell? ⟨w.heap.size, 1, none⟩ = some (.bool true)) ∧ Below w.heap.size w w' ∧ ResB w w')
        (first
          | exact HSD.out
          | exact UnS.step HSD.out bb
          | exact UnS.step (by assumption) bb
          | exact UnS.set HX.out _ _ _
          | (go_keep; done))
        ((first | ((with_reducible refine (of_5 _ _).mono ?_); rintro en w4 ⟨rfl, bb⟩) | ((with_reducible refine (CI.out _ ).mono ?_); rintro en w5 ⟨rfl, bb⟩; have HX := Lib.hid (UnS.step (by assumption) bb); obtain ⟨x, y, z, r0, r1, r2, f0, f1, f2⟩ := UnS.res HX.out; have R0 := Lib.hid (UnS.res HX.out))))
      all_goals
        have hblk : ∃ x y z, w5.heap[w.heap.size + 1]? = some (.cells #[x, y, z] 23 (0, 0)) := HX.out.2.2
        obtain ⟨x', y', z', hb5⟩ := hblk
        have hb6 := blk_set3 hb5 (.bool false) (.int .i64 un) (.string US)
        have s6 := HX.out.set (.bool false) (.int .i64 un) (.string US)
        generalize hW6 : ((w5.setCell ⟨w.heap.size + 1, 0, none⟩ (.bool false)).setCell ⟨w.heap.size + 1, 1, none⟩ (.int .i64 un)).setCell ⟨w.heap.size + 1, 2, none⟩ (.string US) = w6 at *
        clear hW6 hb5
        obtain ⟨r0', r1', r2', f0', f1', f2'⟩ := res3x_of hb6
        have HB6 := Lib.hid hb6
        obtain ⟨⟨c1', c2'⟩, hbel⟩ := id s6
        have HS6 := Lib.hid s6
        clear hb6 s6 hbel
        go_wp2_with fail
        refine (CC.out _ (HE.out.below HS6.out.2.1)).mono ?_
        rintro en w7 ⟨rfl, b7⟩
        have hb7 : w7.heap[w.heap.size + 1]? = some (.cells #[.bool false, .int .i64 un, .string US] 23 (0, 0)) := by rw [b7.block _ (Array.getElem?_eq_some_iff.1 HB6.out).1]; exact HB6.out
        obtain ⟨t0, t1, t2, u0, u1, u2⟩ := res3x_of hb7
        have s7 := HS6.out.step b7
        have HB := Lib.hid s7.2.1
        clear hb7 s7 b7
        go_wp2_with fail
        exact bodyPost_ret (v := .tuple #[.agg #[.bool false, .int .i64 un, .string US], .int .i64 (1 + (d : Int)), .int .i64 0]) (by simp [results, Tryz.results80, go_sem, t0, t1, t2]) rfl ⟨rfl, ((HB.out.setCell (p := ⟨_, _, _⟩) (by simp) _).setCell (p := ⟨_, _, _⟩) (by simp) _).setCell (p := ⟨_, _, _⟩) (by simp) _⟩
    · rw [if_neg hc]
      have q1 : (c != 0) = true := by simpa using hc
      clear hc
      go_enter Tryz.func80, Tryz.ntmps80
      go_wp2_with fail
      refine (CM.out _).mono ?_
      rintro en w1 ⟨rfl, b1⟩
      have s1 := HS0.out.step b1
      obtain ⟨⟨c1, c2⟩, _⟩ := id s1
      have HS1 := Lib.hid s1
      clear s1 b1
      go_wp2_with fail
      refine (CU.out _).mono ?_
      rintro en w2 ⟨rfl, b2⟩
      have s2 := HS1.out.step b2
      have s3 := s2.step ((Below.refl _ _).alloc (Nat.le_refl _) (.cells #[.bool false, .int .i64 1, .string ⟨#[]⟩] 23))
      clear c1 c2
      obtain ⟨⟨c1, c2⟩, _⟩ := id s2
      obtain ⟨⟨a1, a2⟩, _⟩ := id s3
      have n1 : w.heap.size < w2.heap.size := by have := cell_lt c1; exact this
      have HS3 := Lib.hid s3
      clear s2 s3 b2
      go_wp2_with fail
      obtain ⟨W3, hW3⟩ : ∃ W3, w2.alloc (.cells #[.bool false, .int .i64 1, .string ⟨#[]⟩] 23) = W3 := ⟨_, rfl⟩
      rw [hW3] at HS3 a1 a2
      rw [hW3]
      have HSD := Lib.hid HS3.out.drew
      clear hW3
      go_region_held3 (fun w' => (w'.cell? ⟨w.heap.size, 0, none⟩ = some (.int .i64 5) ∧ w'.cell? ⟨w.heap.size, 1, none⟩ = some (.bool true)) ∧ Below w.heap.size w w' ∧ ResB w w')
        (first
          | exact HSD.out
          | exact UnS.step HSD.out bb
          | exact UnS.step (by assumption) bb
          | exact UnS.set HX.out _ _ _
          | (go_keep; done))
        ((first | ((with_reducible refine (of_5 _ _).mono ?_); rintro en w4 ⟨rfl, bb⟩) | ((with_reducible refine (CI.out _ ).mono ?_); rintro en w5 ⟨rfl, bb⟩; have HX := Lib.hid (UnS.step (by assumption) bb); obtain ⟨x, y, z, r0, r1, r2, f0, f1, f2⟩ := UnS.res HX.out; have R0 := Lib.hid (UnS.res HX.out))))
      all_goals
        have hblk : ∃ x y z, w5.heap[w.heap.size + 1]? = some (.cells #[x, y, z] 23 (0, 0)) := HX.out.2.2
        obtain ⟨x', y', z', hb5⟩ := hblk
        have hb6 := blk_set3 hb5 (.bool false) (.int .i64 un) (.string US)
        have s6 := HX.out.set (.bool false) (.int .i64 un) (.string US)
        generalize hW6 : ((w5.setCell ⟨w.heap.size + 1, 0, none⟩ (.bool false)).setCell ⟨w.heap.size + 1, 1, none⟩ (.int .i64 un)).setCell ⟨w.heap.size + 1, 2, none⟩ (.string US) = w6 at *
        clear hW6 hb5
        obtain ⟨r0', r1', r2', f0', f1', f2'⟩ := res3x_of hb6
        have HB6 := Lib.hid hb6
        obtain ⟨⟨c1', c2'⟩, hbel⟩ := id s6
        have HS6 := Lib.hid s6
        clear hb6 s6 hbel
        go_wp2_with fail
        refine (CC.out _ (HE.out.below HS6.out.2.1)).mono ?_
        rintro en w7 ⟨rfl, b7⟩
        have hb7 : w7.heap[w.heap.size + 1]? = some (.cells #[.bool false, .int .i64 un, .string US] 23 (0, 0)) := by rw [b7.block _ (Array.getElem?_eq_some_iff.1 HB6.out).1]; exact HB6.out
        obtain ⟨t0, t1, t2, u0, u1, u2⟩ := res3x_of hb7
        have s7 := HS6.out.step b7
        have HB := Lib.hid s7.2.1
        clear hb7 s7 b7
        go_wp2_with fail
        exact bodyPost_ret (v := .tuple #[.agg #[.bool false, .int .i64 0, .string ⟨#[]⟩], .int .i64 0, .int .i64 4]) (by simp [results, Tryz.results80, go_sem, t0, t1, t2]) rfl ⟨rfl, ((HB.out.setCell (p := ⟨_, _, _⟩) (by simp) _).setCell (p := ⟨_, _, _⟩) (by simp) _).setCell (p := ⟨_, _, _⟩) (by simp) _⟩
  · rw [if_neg he]
    have q1 : (e == 0) = false := by simpa using he
    have q2 : (e != 0) = true := by simpa using he
    clear he
    go_enter Tryz.func80, Tryz.ntmps80
    go_wp2_with fail
    refine (CM.out _).mono ?_
    rintro en w1 ⟨rfl, b1⟩
    have s1 := HS0.out.step b1
    obtain ⟨⟨c1, c2⟩, _⟩ := id s1
    have HS1 := Lib.hid s1
    clear s1 b1
    go_wp2_with fail
    refine (CU.out _).mono ?_
    rintro en w2 ⟨rfl, b2⟩
    have s2 := HS1.out.step b2
    have s3 := s2.step ((Below.refl _ _).alloc (Nat.le_refl _) (.cells #[.bool false, .int .i64 1, .string ⟨#[]⟩] 23))
    clear c1 c2
    obtain ⟨⟨c1, c2⟩, _⟩ := id s2
    obtain ⟨⟨a1, a2⟩, _⟩ := id s3
    have n1 : w.heap.size < w2.heap.size := by have := cell_lt c1; exact this
    have HS3 := Lib.hid s3
    clear s2 s3 b2
    go_wp2_with fail
    obtain ⟨W3, hW3⟩ : ∃ W3, w2.alloc (.cells #[.bool false, .int .i64 1, .string ⟨#[]⟩] 23) = W3 := ⟨_, rfl⟩
    rw [hW3] at HS3 a1 a2
    rw [hW3]
    have HSD := Lib.hid HS3.out.drew
    clear hW3
    go_region_held3 (fun w' => (w'.cell? ⟨w.heap.size, 0, none⟩ = some (.int .i64 5) ∧ w'.cell? ⟨w.heap.size, 1, none⟩ = some (.bool true)) ∧ Below w.heap.size w w' ∧ ResB w w')
      (first
        | exact HSD.out
        | exact UnS.step HSD.out bb
        | exact UnS.step (by assumption) bb
        | exact UnS.set HX.out _ _ _
        | (go_keep; done))
      ((first | ((with_reducible refine (of_5 _ _).mono ?_); rintro en w4 ⟨rfl, bb⟩) | ((with_reducible refine (CI.out _ ).mono ?_); rintro en w5 ⟨rfl, bb⟩; have HX := Lib.hid (UnS.step (by assumption) bb); obtain ⟨x, y, z, r0, r1, r2, f0, f1, f2⟩ := UnS.res HX.out; have R0 := Lib.hid (UnS.res HX.out))))
    all_goals
      have hblk : ∃ x y z, w5.heap[w.heap.size + 1]? = some (.cells #[x, y, z] 23 (0, 0)) := HX.out.2.2
      obtain ⟨x', y', z', hb5⟩ := hblk
      have hb6 := blk_set3 hb5 (.bool false) (.int .i64 un) (.string US)
      have s6 := HX.out.set (.bool false) (.int .i64 un) (.string US)
      generalize hW6 : ((w5.setCell ⟨w.heap.size + 1, 0, none⟩ (.bool false)).setCell ⟨w.heap.size + 1, 1, none⟩ (.int .i64 un)).setCell ⟨w.heap.size + 1, 2, none⟩ (.string US) = w6 at *
      clear hW6 hb5
      obtain ⟨r0', r1', r2', f0', f1', f2'⟩ := res3x_of hb6
      have HB6 := Lib.hid hb6
      obtain ⟨⟨c1', c2'⟩, hbel⟩ := id s6
      have HS6 := Lib.hid s6
      clear hb6 s6 hbel
      have HB := Lib.hid HS6.out.2.1
      go_wp2_with fail
      exact bodyPost_ret (v := .tuple #[.agg #[.bool false, .int .i64 0, .string ⟨#[]⟩], .int .i64 0, .int .i64 e]) (by simp [results, Tryz.results80, go_sem, r0', r1', r2']) rfl ⟨rfl, ((HB.out.setCell (p := ⟨_, _, _⟩) (by simp) _).setCell (p := ⟨_, _, _⟩) (by simp) _).setCell (p := ⟨_, _, _⟩) (by simp) _⟩
end Go.Proofs.YtcdmiiaamajfoaaGreatDoor
