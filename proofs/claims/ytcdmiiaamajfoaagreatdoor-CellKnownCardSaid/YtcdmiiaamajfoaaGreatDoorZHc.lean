/- CellChecks: the walk. CellReads: the walk. -/
import Derived.Test.YtcdmiiaamajfoaaGreatDoorZHa
import Derived.Test.YtcdmiiaamajfoaaGreatDoorZHb
import Derived.Deep.RegionHeld3
import Derived.Test.YtcdmiiaamajfoaaGreatDoorZIb
import Derived.Test.YtcdmiiaamajfoaaGreatDoorZE22
import Derived.Test.YtcdmiiaamajfoaaGreatDoorZGa
set_option linter.unusedVariables false
namespace Go.Proofs.YtcdmiiaamajfoaaGreatDoor
open Go.RowKit Go.Ms Go.Lib

theorem keep8 {W w1 w2 : World} {p1 p2 p3 p4 p5 p6 p7 p8 : Addr} {v1 v2 v3 v4 v5 v6 v7 v8 : Value} (h : (w1.cell? p1 = some v1 ∧ w1.cell? p2 = some v2 ∧ w1.cell? p3 = some v3 ∧ w1.cell? p4 = some v4 ∧ w1.cell? p5 = some v5 ∧ w1.cell? p6 = some v6 ∧ w1.cell? p7 = some v7 ∧ w1.cell? p8 = some v8) ∧ Below W.heap.size W w1) (hb : Below w1.heap.size w1 w2) :
    (w2.cell? p1 = some v1 ∧ w2.cell? p2 = some v2 ∧ w2.cell? p3 = some v3 ∧ w2.cell? p4 = some v4 ∧ w2.cell? p5 = some v5 ∧ w2.cell? p6 = some v6 ∧ w2.cell? p7 = some v7 ∧ w2.cell? p8 = some v8) ∧ Below W.heap.size W w2 := by
  obtain ⟨⟨a, b, c, d, e, f, g, i⟩, j⟩ := h
  exact ⟨⟨by rw [hb.cell (cell_lt a)]; exact a, by rw [hb.cell (cell_lt b)]; exact b, by rw [hb.cell (cell_lt c)]; exact c, by rw [hb.cell (cell_lt d)]; exact d, by rw [hb.cell (cell_lt e)]; exact e, by rw [hb.cell (cell_lt f)]; exact f, by rw [hb.cell (cell_lt g)]; exact g, by rw [hb.cell (cell_lt i)]; exact i⟩, j.trans (hb.mono j.size)⟩
set_option maxRecDepth 100000 in
set_option maxHeartbeats 8000000 in
theorem cellChecks_walk (k : Int) (tn u1 : Bool) (n1 : Int) (A1 : ByteArray) (u2 : Bool) (n2 : Int) (A2 : ByteArray) (w : World) (hn1 : (Lit.int .i64 n1).wf = true) (hn2 : (Lit.int .i64 n2).wf = true) (hE : Env w) :
    Calls Tryz.prog 24 #[.agg #[.int .i64 k, .bool tn], .agg #[.bool u1, .int .i64 n1, .string A1], .agg #[.bool u2, .int .i64 n2, .string A2]] w fun e w' => e = .returned (.bool true) ∧ Below w.heap.size w w' := by
  obtain ⟨b0, b1⟩ := wf64 hn1
  have hz1 := cutS_size A1
  have hz2 := cutS_size A2
  have k1 := fun w => cut_any u1 n1 A1 w
  have k2 := fun w => cut_any u2 n2 A2 w
  generalize cutS A1 = S1 at *
  generalize cutS A2 = S2 at *
  have cm := fun w' => may_any k tn w'
  have rm := fun w' => rmay_any k tn w'
  have cc := fun w' (hE' : Env w') => kcheck_any k tn u1 n1 S1 w' (by omega) hE'
  have rc := fun w' => rcheck_any k tn u1 n1 S1 w' (by omega) b0 b1
  have cz := fun w' => zero_any k tn w'
  have rz := fun w' => rzero_any k tn w'
  have cp := fun w' => compare_any u1 u2 n1 n2 S1 S2 w'
  have rp := fun w' => rcompare_any u1 u2 n1 n2 S1 S2 w'
  have cw := fun w' (hE' : Env w') => kworks_any w' hE'
  have x0 := T2x.start w k tn u1 n1 A1 u2 n2 A2
  generalize kCheck k tn u1 n1 S1.data.toList = e1 at *
  generalize kCmp u1 n1 S1.data.toList u2 n2 S2.data.toList = e2 at *
  generalize kMay k = e3 at *
  generalize (e3 && tn) = e4 at *
  have s0d := x0.drew
  have K1 := Lib.hid k1; have K2 := Lib.hid k2; have CM := Lib.hid cm; have RM := Lib.hid rm; have CC := Lib.hid cc; have RC := Lib.hid rc; have CZ := Lib.hid cz; have RZ := Lib.hid rz; have CP := Lib.hid cp; have RP := Lib.hid rp; have CW := Lib.hid cw; have HE := Lib.hid hE
  clear k1 k2 cm rm cc rc cz rz cp rp cw hE x0 b0 b1 hz1 hz2 hn1 hn2
  obtain ⟨W0, hW0⟩ : ∃ W0, (((w.alloc (.cells #[.int .i64 k, .bool tn] 41)).alloc (.cells #[.bool u1, .int .i64 n1, .string A1] 23)).alloc (.cells #[.bool u2, .int .i64 n2, .string A2] 23)) = W0 := ⟨_, rfl⟩
  rw [hW0] at s0d
  have HW0 := Lib.hid hW0
  clear hW0
  obtain ⟨d0, d1, a0, a1, a2, c0, c1, c2, f0, f1, f2, h0, h1, h2⟩ := s0d.cells
  go_enter Tryz.func24, Tryz.ntmps24
  go_wp2_with fail
  rw [HW0.out]
  go_upto_region 1 with fail
  go_cut [] (fun wx => T2x w w.heap.size k tn u1 n1 S1 u2 n2 S2 wx)
  case first =>
    go_region_with (first | ((with_reducible refine (K1.out _).mono ?_); rintro en w1 ⟨rfl, bb1⟩; have x1 := T2x.step (by assumption) bb1; obtain ⟨d0, d1, a0, a1, a2, c0, c1, c2, f0, f1, f2, h0, h1, h2⟩ := x1.cells) | ((with_reducible refine (K2.out _).mono ?_); rintro en w1 ⟨rfl, bb1⟩; have x1 := T2x.step (by assumption) bb1; obtain ⟨d0, d1, a0, a1, a2, c0, c1, c2, f0, f1, f2, h0, h1, h2⟩ := x1.cells))
    all_goals (go_wp2_with fail; go_meet; exact T2x.set (by assumption) _ _)
  case rest =>
    have x2 : T2x w w.heap.size k tn u1 n1 S1 u2 n2 S2 _ := hcut
    clear s0d
    clear d0 d1 a0 a1 a2 c0 c1 c2 f0 f1 f2 h0 h1 h2
    clear hcut
    obtain ⟨d0, d1, a0, a1, a2, c0, c1, c2, f0, f1, f2, h0, h1, h2⟩ := x2.cells
    have hD : (wc.drew.cell? ⟨w.heap.size, 0, none⟩ = some (.int .i64 k) ∧ wc.drew.cell? ⟨w.heap.size, 1, none⟩ = some (.bool tn) ∧ wc.drew.cell? ⟨w.heap.size + 1, 0, none⟩ = some (.bool u1) ∧ wc.drew.cell? ⟨w.heap.size + 1, 1, none⟩ = some (.int .i64 n1) ∧ wc.drew.cell? ⟨w.heap.size + 1, 2, none⟩ = some (.string S1) ∧ wc.drew.cell? ⟨w.heap.size + 1 + 1, 0, none⟩ = some (.bool u2) ∧ wc.drew.cell? ⟨w.heap.size + 1 + 1, 1, none⟩ = some (.int .i64 n2) ∧ wc.drew.cell? ⟨w.heap.size + 1 + 1, 2, none⟩ = some (.string S2)) ∧ Below wc.heap.size wc wc.drew := ⟨⟨d0, d1, a0, a1, a2, c0, c1, c2⟩, ms_drewN (Below.refl _ _) 1⟩
    have HD := Lib.hid hD
    have X2 := Lib.hid x2
    clear x2 hD
    go_wp2_with fail
    go_region_held3 (fun w' => (w'.cell? ⟨w.heap.size, 0, none⟩ = some (.int .i64 k) ∧ w'.cell? ⟨w.heap.size, 1, none⟩ = some (.bool tn) ∧ w'.cell? ⟨w.heap.size + 1, 0, none⟩ = some (.bool u1) ∧ w'.cell? ⟨w.heap.size + 1, 1, none⟩ = some (.int .i64 n1) ∧ w'.cell? ⟨w.heap.size + 1, 2, none⟩ = some (.string S1) ∧ w'.cell? ⟨w.heap.size + 1 + 1, 0, none⟩ = some (.bool u2) ∧ w'.cell? ⟨w.heap.size + 1 + 1, 1, none⟩ = some (.int .i64 n2) ∧ w'.cell? ⟨w.heap.size + 1 + 1, 2, none⟩ = some (.string S2)) ∧ Below wc.heap.size wc w')
      (first
        | exact HD.out
        | exact keep8 HD.out bb
        | exact keep8 (by assumption) bb
        | (go_keep; done))
      ((first | ((with_reducible refine (CM.out _).mono ?_); rintro en w3 ⟨rfl, bb⟩) | ((with_reducible refine (RM.out _).mono ?_); rintro en w3 ⟨rfl, bb⟩) | ((with_reducible refine (CC.out _ ?_).mono ?_); exact HE.out.below (endTC X2.out.bel X2.out.bel.size (by assumption)); rintro en w3 ⟨rfl, bb⟩) | ((with_reducible refine (RC.out _).mono ?_); rintro en w3 ⟨rfl, bb⟩) | ((with_reducible refine (CZ.out _).mono ?_); rintro en w3 ⟨rfl, bb⟩) | ((with_reducible refine (RZ.out _).mono ?_); rintro en w3 ⟨rfl, bb⟩) | ((with_reducible refine (CP.out _).mono ?_); rintro en w3 ⟨rfl, bb⟩) | ((with_reducible refine (RP.out _).mono ?_); rintro en w3 ⟨rfl, bb⟩) | ((with_reducible refine (CW.out _ ?_).mono ?_); exact HE.out.below (endTC X2.out.bel X2.out.bel.size (by assumption)); rintro en w3 ⟨rfl, bb⟩)))
    all_goals
      go_wp2_with fail
      go_ret
      exact ⟨rfl, endTC X2.out.bel X2.out.bel.size (by assumption)⟩
end Go.Proofs.YtcdmiiaamajfoaaGreatDoor
set_option linter.unusedSimpArgs false
namespace Go.Proofs.YtcdmiiaamajfoaaGreatDoor
open Go.RowKit Go.Ms Go.Lib
set_option maxRecDepth 100000 in
set_option maxHeartbeats 4000000 in
theorem cellReads_cut (k : Int) (tn : Bool) (M : ByteArray) (w : World) (hE : Env w) (hM' : M.size ≤ 9223372036854775807) (T : ByteArray) (hT : M.extract 0 (min (↑M.size : Int) 2200).toNat = T) (hTz : T.size ≤ 2200) :
    Calls Tryz.prog 22 #[.agg #[.int .i64 k, .bool tn], .string M] w fun e w' => e = .returned (.bool true) ∧ Below w.heap.size w w' := by
  have cr := fun w' (h : Env w') => kread_any k tn T w' (by omega) h
  have rr := fun w' => rread_any k tn T w' (by omega)
  have cu := fun w' (h : Env w') => kunbits_any k tn T w' (by omega) h
  have ru := fun w' => runbits_any k tn T w' (by omega)
  obtain ⟨⟨⟨u1, n1, s1⟩, e1⟩, hR⟩ : ∃ D, kReadD k tn T.data.toList = D := ⟨_, rfl⟩
  obtain ⟨⟨⟨u2, n2, s2⟩, d2, e2⟩, hU⟩ : ∃ D, kUnD k tn T.data.toList = D := ⟨_, rfl⟩
  rw [hR] at cr rr
  rw [hU] at cu ru
  obtain ⟨S1, hS1⟩ : ∃ S1 : ByteArray, (⟨s1.toArray⟩ : ByteArray) = S1 := ⟨_, rfl⟩
  obtain ⟨S2, hS2⟩ : ∃ S2 : ByteArray, (⟨s2.toArray⟩ : ByteArray) = S2 := ⟨_, rfl⟩
  have hv1 : readV ((u1, n1, s1), e1) = .tuple #[.agg #[.bool u1, .int .i64 n1, .string S1], .int .i64 e1] := by rw [← hS1]; rfl
  have hv2 : unV ((u2, n2, s2), d2, e2) = .tuple #[.agg #[.bool u2, .int .i64 n2, .string S2], .int .i64 d2, .int .i64 e2] := by rw [← hS2]; rfl
  rw [hv1] at cr rr
  rw [hv2] at cu ru
  have x0 := TyAt.start w k tn
  have X0 := Lib.hid x0
  have CR := Lib.hid cr; have RR := Lib.hid rr; have CU := Lib.hid cu; have RU := Lib.hid ru; have HE := Lib.hid hE
  clear cr rr cu ru hE hR hU hS1 hS2 hv1 hv2 x0
  go_enter Tryz.func22, Tryz.ntmps22
  go_wp2_with fail
  refine (CR.out _ (HE.out.below X0.out.bel)).mono ?_
  rintro en w1 ⟨rfl, bb1⟩
  have x1 := X0.out.step bb1
  obtain ⟨d0, d1, l0⟩ := x1.cells
  have X1 := Lib.hid (x1.alloc (.cells #[.bool u1, .int .i64 n1, .string S1] 23))
  have HA1 := Lib.hid (cell_alloc w1 u1 n1 S1)
  have LA := Lib.hid l0
  clear x1 bb1
  go_wp2_with fail
  refine (RR.out _).mono ?_
  rintro en w2 ⟨rfl, bb2⟩
  clear d0 d1 l0
  have x2 := X1.out.step bb2
  obtain ⟨d0, d1, l0⟩ := x2.cells
  have hA2 := tri_step HA1.out bb2
  have LB := Lib.hid hA2.lt
  have X2 := Lib.hid (x2.alloc (.cells #[.bool u1, .int .i64 n1, .string S1] 23))
  have HA2 := Lib.hid (tri_step hA2 ((Below.refl _ _).alloc (Nat.le_refl _) (.cells #[.bool u1, .int .i64 n1, .string S1] 23)))
  have HB2 := Lib.hid (cell_alloc w2 u1 n1 S1)
  clear x2 bb2 hA2 X1 HA1
  generalize w1.heap.size = pa at *
  go_wp2_with fail
  refine (CU.out _ (HE.out.below X2.out.bel)).mono ?_
  rintro en w3 ⟨rfl, bb3⟩
  clear d0 d1 l0
  have x3 := X2.out.step bb3
  obtain ⟨d0, d1, l0⟩ := x3.cells
  have hA3 := tri_step HA2.out bb3
  have hB3 := tri_step HB2.out bb3
  have LX := Lib.hid hB3.lt
  have X3 := Lib.hid (x3.alloc (.cells #[.bool u2, .int .i64 n2, .string S2] 23))
  have HA3 := Lib.hid (tri_step hA3 ((Below.refl _ _).alloc (Nat.le_refl _) (.cells #[.bool u2, .int .i64 n2, .string S2] 23)))
  have HB3 := Lib.hid (tri_step hB3 ((Below.refl _ _).alloc (Nat.le_refl _) (.cells #[.bool u2, .int .i64 n2, .string S2] 23)))
  have HX3 := Lib.hid (cell_alloc w3 u2 n2 S2)
  clear x3 bb3 hA3 hB3 X2 HA2 HB2
  generalize w2.heap.size = pb at *
  go_wp2_with fail
  refine (RU.out _).mono ?_
  rintro en w4 ⟨rfl, bb4⟩
  clear d0 d1 l0
  have x4 := X3.out.step bb4
  have hA4 := tri_step HA3.out bb4
  have hB4 := tri_step HB3.out bb4
  have hX4 := tri_step HX3.out bb4
  have LY := Lib.hid hX4.lt
  have hl1 := LA.out
  have hl2 := LB.out
  have hl3 := LX.out
  have hl4 := LY.out
  generalize w3.heap.size = px at *
  have a0 := hA4.c0
  have a1 := hA4.c1
  have a2 := hA4.c2
  have b0 := hB4.c0
  have b1 := hB4.c1
  have b2 := hB4.c2
  have z0 := hX4.c0
  have z1 := hX4.c1
  have z2 := hX4.c2
  have y1 : pa < w4.heap.size := by omega
  have y2 : pb < w4.heap.size := by omega
  have X4 := Lib.hid (x4.alloc (.cells #[.bool u2, .int .i64 n2, .string S2] 23))
  clear x4 bb4 hA4 hB4 hX4 X3 HA3 HB3 HX3 LA LB LX LY
  go_wp2_with fail
  refine (kworks_any _ (HE.out.below X4.out.bel)).mono ?_
  rintro en w9 ⟨rfl, b9⟩
  go_wp2_with fail
  go_ret
  exact ⟨rfl, X4.out.bel.trans (b9.mono X4.out.bel.size)⟩
theorem cellReads_walk (k : Int) (tn : Bool) (M : ByteArray) (w : World) (hM : M.size ≤ maxLen) (hE : Env w) :
    Calls Tryz.prog 22 #[.agg #[.int .i64 k, .bool tn], .string M] w fun e w' => e = .returned (.bool true) ∧ Below w.heap.size w w' := by
  have hM' : M.size ≤ 9223372036854775807 := by simpa [maxLen] using hM
  have hTz : (M.extract 0 (min (↑M.size : Int) 2200).toNat).size ≤ 2200 := by
    rw [ByteArray.size_extract]; omega
  exact cellReads_cut k tn M w hE hM' _ rfl hTz
end Go.Proofs.YtcdmiiaamajfoaaGreatDoor
