/- CellBack: the walk. -/
import Derived.Test.YtklpmghdiflcbaaGreatDoorZFa
set_option linter.unusedVariables false
namespace Go.Proofs.YtklpmghdiflcbaaGreatDoor
open Go.RowKit Go.Ms Go.Lib

set_option maxRecDepth 100000 in
set_option maxHeartbeats 4000000 in
theorem cellBack_walk (k : Int) (tn u : Bool) (n : Int) (S0 M : ByteArray) (w : World) (hM : M.size ≤ maxLen) (hE : Env w) :
    Calls Tryz.prog 6 #[.agg #[.int .i64 k, .bool tn], .agg #[.bool u, .int .i64 n, .string S0], .string M] w fun e w' => e = .returned (.bool true) ∧ Below w.heap.size w w' := by
  have hM' : M.size ≤ 9223372036854775807 := by simpa [maxLen] using hM
  have k1 := fun w => cut_any u n S0 w
  have hcs := cutS_size S0
  generalize cutS S0 = S at *
  have cc := fun w' (hE' : Env w') => kcheck_any k tn u n S w' (by omega) hE'
  have b0 := TBx.start w k tn u n S0
  by_cases hc : kCheck k tn u n S.data.toList = 0
  · rw [hc] at cc
    have ct := fun w' (hE' : Env w') => ktext_any k tn u n S w' (by omega) hE'
    have cb := fun w' (hE' : Env w') => kbits_any k tn u n S w' (by omega) hE'
    have hrb := read_back hc
    have hub := unbits_back (M.extract 0 (min (↑M.size : Int) 60).toNat).data.toList hc
    have htl := ktextD_len hc
    have hbl := kbitsD_len hc
    rw [hc] at ct cb
    generalize kTextD k tn u n S.data.toList = X at *
    generalize kBitsD k tn u n S.data.toList = Y at *
    have hXz : (⟨X.toArray⟩ : ByteArray).size = X.length := List.size_toArray
    have hYz : (⟨Y.toArray⟩ : ByteArray).size = Y.length := List.size_toArray
    have hXl : (⟨X.toArray⟩ : ByteArray).data.toList = X := rfl
    have hYl : (⟨Y.toArray⟩ : ByteArray).data.toList = Y := rfl
    generalize (⟨X.toArray⟩ : ByteArray) = XB at *
    generalize (⟨Y.toArray⟩ : ByteArray) = YB at *
    have m0 : (0 : Int) ≤ min (↑M.size : Int) 60 := by omega
    have m1 : min (↑M.size : Int) 60 ≤ (↑M.size : Int) := by omega
    have cr : ∀ w', Env w' → Calls Tryz.prog 18 #[.agg #[.int .i64 k, .bool tn], .string XB] w' fun e w'' => e = .returned (.tuple #[.agg #[.bool u, .int .i64 n, .string S], .int .i64 0]) ∧ Below w'.heap.size w' w'' := by
      intro w' hE'
      have h := kread_any k tn XB w' (by omega) hE'
      rw [hXl, hrb] at h
      unfold readV at h
      simp only at h
      rw [strS] at h
      exact h
    have hZ : (M.extract 0 (min (↑M.size : Int) 60).toNat).size ≤ 60 := by rw [ByteArray.size_extract]; omega
    have hYM : (YB ++ M.extract 0 (min (↑M.size : Int) 60).toNat).size ≤ 100000 := by rw [ByteArray.size_append]; omega
    have cu : ∀ w', Env w' → Calls Tryz.prog 20 #[.agg #[.int .i64 k, .bool tn], .string (YB ++ M.extract 0 (min (↑M.size : Int) 60).toNat)] w' fun e w'' => e = .returned (.tuple #[.agg #[.bool u, .int .i64 n, .string S], .int .i64 YB.size, .int .i64 0]) ∧ Below w'.heap.size w' w'' := by
      intro w' hE'
      have h := kunbits_any k tn (YB ++ M.extract 0 (min (↑M.size : Int) 60).toNat) w' hYM hE'
      have e : (YB ++ M.extract 0 (min (↑M.size : Int) 60).toNat).data.toList = Y ++ (M.extract 0 (min (↑M.size : Int) 60).toNat).data.toList := by
        rw [ByteArray.data_append, Array.toList_append, hYl]
      rw [e, hub] at h
      unfold unV at h
      simp only at h
      rw [strS, ← hYz] at h
      exact h
    have hyb : YB.size ≤ 2051 := by omega
    have hq0 : ¬ 9223372036854775807 < YB.size + (min (↑M.size : Int) 60).toNat := by omega
    have hq : ¬ 9223372036854775807 < YB.size + (M.extract 0 (min (↑M.size : Int) 60).toNat).size := by omega
    have K1 := Lib.hid k1; have CC := Lib.hid cc; have CT := Lib.hid ct; have CR := Lib.hid cr; have CB := Lib.hid cb; have CU := Lib.hid cu; have HE := Lib.hid hE; have HB0 := Lib.hid b0
    clear k1 cc ct cr cb cu hE b0 hc hrb hub hXz hYz hXl hYl hcs htl hbl hYM hM
    go_enter Tryz.func6, Tryz.ntmps6
    go_wp2_with fail
    refine (K1.out _).mono ?_
    rintro en w1 ⟨rfl, bb1⟩
    have x1 := HB0.out.step bb1
    obtain ⟨d0, d1, a0, a1, a2, f0, f1, f2, l0, l1⟩ := x1.cells
    have x2 := x1.set S
    have y2 := x2.cells
    have X1 := Lib.hid x1; have X2 := Lib.hid x2; have Y2 := Lib.hid y2
    clear x1 x2 y2 bb1
    go_wp2_with fail
    refine (CC.out _ (HE.out.below X2.out.bel)).mono ?_
    rintro en w3 ⟨rfl, bb3⟩
    have x3 := X2.out.step bb3
    clear d0 d1 a0 a1 a2 f0 f1 f2 l0 l1
    obtain ⟨d0, d1, a0, a1, a2, f0, f1, f2, l0, l1⟩ := x3.cells
    have X3 := Lib.hid x3
    clear x3 bb3
    go_wp2_with fail
    refine (CT.out _ (HE.out.below X3.out.bel)).mono ?_
    rintro en w4 ⟨rfl, bb4⟩
    have x4 := X3.out.step bb4
    clear d0 d1 a0 a1 a2 f0 f1 f2 l0 l1
    obtain ⟨d0, d1, a0, a1, a2, f0, f1, f2, l0, l1⟩ := x4.cells
    have X4 := Lib.hid x4
    clear x4 bb4
    go_wp2_with fail
    refine (CR.out _ (HE.out.below X4.out.bel)).mono ?_
    rintro en w5 ⟨rfl, bb5⟩
    have x5 := X4.out.step bb5
    have x6 := x5.alloc (.cells #[.bool u, .int .i64 n, .string S] 25)
    have g6 := cell_new u n S w5
    clear d0 d1 a0 a1 a2 f0 f1 f2 l0 l1
    obtain ⟨d0, d1, a0, a1, a2, f0, f1, f2, l0, l1⟩ := x5.cells
    obtain ⟨e0, e1, e2, e3, e4, _, _, _, _, _⟩ := x6.cells
    have X6 := Lib.hid x6; have G6 := Lib.hid g6
    clear x5 x6 bb5 g6
    go_wp2_with fail
    refine (CB.out _ (HE.out.below X6.out.bel)).mono ?_
    rintro en w7 ⟨rfl, bb7⟩
    have x7 := X6.out.step bb7
    have g7 := tri_step G6.out bb7
    have h7 : ∀ w8, Below w7.heap.size w7 w8 → TBx w w.heap.size k tn u n S w8 ∧ CellAt w5.heap.size u n S w8 := fun w8 hb => ⟨x7.step hb, tri_step g7 hb⟩
    clear d0 d1 a0 a1 a2 f0 f1 f2 l0 l1 e0 e1 e2 e3 e4
    obtain ⟨d0, d1, a0, a1, a2, f0, f1, f2, l0, l1⟩ := x7.cells
    have hD : (w7.drew.cell? ⟨w.heap.size, 0, none⟩ = some (.int .i64 k) ∧ w7.drew.cell? ⟨w.heap.size, 1, none⟩ = some (.bool tn)) ∧ Below w7.heap.size w7 w7.drew := ⟨⟨d0, d1⟩, below_drewN (Below.refl _ _) 1⟩
    have HD := Lib.hid hD; have X7 := Lib.hid x7; have H7 := Lib.hid h7
    clear x7 bb7 g7 hD h7
    have hD0 : (w7.cell? ⟨w.heap.size, 0, none⟩ = some (.int .i64 k) ∧ w7.cell? ⟨w.heap.size, 1, none⟩ = some (.bool tn)) ∧ Below w7.heap.size w7 w7 := ⟨⟨d0, d1⟩, Below.refl _ _⟩
    have HD0 := Lib.hid hD0
    clear hD0
    go_upto_region 7 with fail
    go_cut [13, 14, 15] (fun s13 s14 s15 wx => ∃ g : Nat, s13 = .pointer (some ⟨g, 0, none⟩) ∧ s14 = .int .i64 YB.size ∧ s15 = .int .i64 0 ∧ Hid (TBx w w.heap.size k tn u n S wx ∧ CellAt w5.heap.size u n S wx ∧ CellAt g u n S wx))
    case first =>
      go_region_held3 (fun w' => (w'.cell? ⟨w.heap.size, 0, none⟩ = some (.int .i64 k) ∧ w'.cell? ⟨w.heap.size, 1, none⟩ = some (.bool tn)) ∧ Below w7.heap.size w7 w')
        (first
          | exact HD.out
          | exact keep2 HD0.out (below_drewN ((Below.refl _ _).alloc (Nat.le_refl _) _) 1)
          | exact keep2 HD.out bb
          | exact keep2 (by assumption) bb
          | exact keep2 H8.out ((Below.refl _ _).alloc (Nat.le_refl _) _)
          | exact keepset2 H8.out l0 l0 _ _ _
          | (go_keep; done))
        ((first | ((with_reducible refine (CU.out _ ?_).mono ?_); exact HE.out.below (endTC X7.out.bel X7.out.bel.size (by assumption)); rintro en w8 ⟨rfl, bb⟩; have H8 : Hid ((w8.cell? ⟨w.heap.size, 0, none⟩ = some (.int .i64 k) ∧ w8.cell? ⟨w.heap.size, 1, none⟩ = some (.bool tn)) ∧ Below w7.heap.size w7 w8) := Lib.hid (keep2 (by assumption) bb); first | (have g8 : CellAt w7.heap.size false 0 ⟨#[]⟩ w8 := tri_step (cell_new false 0 ⟨#[]⟩ w7).drew bb; have c80 := g8.c0; have c81 := g8.c1; have c82 := g8.c2; have f80 := g8.fr 0; have f81 := g8.fr 1; have f82 := g8.fr 2; have G8 := Lib.hid g8; clear g8) | skip)))
      all_goals
        go_wp2_with fail
        go_meet
        first
          | exact ⟨_, rfl, rfl, rfl, Lib.hid ⟨(H7.out _ (below_set3 H8.out.2 (Nat.le_refl _) _ _ _)).1, (H7.out _ (below_set3 H8.out.2 (Nat.le_refl _) _ _ _)).2, tri_set3 G8.out⟩⟩
          | exact ⟨_, rfl, rfl, rfl, Lib.hid ⟨(H7.out _ (H8.out.2.alloc H8.out.2.size _)).1, (H7.out _ (H8.out.2.alloc H8.out.2.size _)).2, cell_new u n S w8⟩⟩
    case rest =>
      obtain ⟨g, rfl, rfl, rfl, HG⟩ := hcut
      obtain ⟨xt, g1, g2⟩ := id HG.out
      clear d0 d1 a0 a1 a2 f0 f1 f2 l0 l1
      obtain ⟨d0, d1, a0, a1, a2, f0, f1, f2, l0, l1⟩ := xt.cells
      have p0 := g1.c0; have p1 := g1.c1; have p2 := g1.c2
      have q0 := g2.c0; have q1 := g2.c1; have q2 := g2.c2
      have XT := Lib.hid xt
      clear xt g1 g2
      go_wp2_with fail
      refine (kworks_any _ (HE.out.below XT.out.bel)).mono ?_
      rintro en w9 ⟨rfl, b9⟩
      go_wp2_with fail
      go_ret
      exact ⟨rfl, XT.out.bel.trans (b9.mono XT.out.bel.size)⟩
  · generalize kCheck k tn u n S.data.toList = c at *
    have hcb : (c != 0) = true := by simpa using hc
    have K1 := Lib.hid k1; have CC := Lib.hid cc; have HE := Lib.hid hE; have HB0 := Lib.hid b0
    clear k1 cc hE b0 hc hcs
    go_enter Tryz.func6, Tryz.ntmps6
    go_wp2_with fail
    refine (K1.out _).mono ?_
    rintro en w1 ⟨rfl, bb1⟩
    have x1 := HB0.out.step bb1
    obtain ⟨d0, d1, a0, a1, a2, f0, f1, f2, l0, l1⟩ := x1.cells
    have x2 := x1.set S
    have X1 := Lib.hid x1; have X2 := Lib.hid x2
    clear x1 x2 bb1
    go_wp2_with fail
    refine (CC.out _ (HE.out.below X2.out.bel)).mono ?_
    rintro en w3 ⟨rfl, bb3⟩
    have x3 := X2.out.step bb3
    have X3 := Lib.hid x3
    clear x3 bb3
    go_wp2_with fail
    refine (kworks_any _ (HE.out.below X3.out.bel)).mono ?_
    rintro en w9 ⟨rfl, b9⟩
    go_wp2_with fail
    go_ret
    exact ⟨rfl, X3.out.bel.trans (b9.mono X3.out.bel.size)⟩
end Go.Proofs.YtklpmghdiflcbaaGreatDoor
