/- CellBack: the walk. CellOnly: the walk. -/
import Derived.Test.YtcdmiiaamajfoaaGreatDoorZFa
set_option linter.unusedVariables false
namespace Go.Proofs.YtcdmiiaamajfoaaGreatDoor
open Go.RowKit Go.Ms Go.Lib

set_option maxRecDepth 100000 in
set_option maxHeartbeats 4000000 in
theorem cellBack_walk (k : Int) (tn u : Bool) (n : Int) (S0 M : ByteArray) (w : World) (hM : M.size ≤ maxLen) (hE : Env w) :
    Calls Tryz.prog 26 #[.agg #[.int .i64 k, .bool tn], .agg #[.bool u, .int .i64 n, .string S0], .string M] w fun e w' => e = .returned (.bool true) ∧ Below w.heap.size w w' := by
  have hM' : M.size ≤ 9223372036854775807 := by simpa [maxLen] using hM
  have k1 := fun w => cut_any u n S0 w
  have hcs := cutS_size S0
  generalize cutS S0 = S at *
  have cc := fun w' (hE' : Env w') => kcheck_any k tn u n S w' (by omega) hE'
  have b0 := TBx.start w k tn u n S0
  by_cases hc : kCheck k tn u n S.data.toList = 0
  · rw [hc] at cc
    have ct := fun w' (hE' : Env w') => ktext_any k tn u n S w' (by omega) hE'
    have cb := fun w' (hE' : Env w') => kbits_any k tn u n S w' (by omega) hE'
    have hrb := read_back hc
    have hub := unbits_back (M.extract 0 (min (↑M.size : Int) 60).toNat).data.toList hc
    have htl := ktextD_len hc
    have hbl := kbitsD_len hc
    rw [hc] at ct cb
    generalize kTextD k tn u n S.data.toList = X at *
    generalize kBitsD k tn u n S.data.toList = Y at *
    have hXz : (⟨X.toArray⟩ : ByteArray).size = X.length := List.size_toArray
    have hYz : (⟨Y.toArray⟩ : ByteArray).size = Y.length := List.size_toArray
    have hXl : (⟨X.toArray⟩ : ByteArray).data.toList = X := rfl
    have hYl : (⟨Y.toArray⟩ : ByteArray).data.toList = Y := rfl
    generalize (⟨X.toArray⟩ : ByteArray) = XB at *
    generalize (⟨Y.toArray⟩ : ByteArray) = YB at *
    have m0 : (0 : Int) ≤ min (↑M.size : Int) 60 := by omega
    have m1 : min (↑M.size : Int) 60 ≤ (↑M.size : Int) := by omega
    have cr : ∀ w', Env w' → Calls Tryz.prog 78 #[.agg #[.int .i64 k, .bool tn], .string XB] w' fun e w'' => e = .returned (.tuple #[.agg #[.bool u, .int .i64 n, .string S], .int .i64 0]) ∧ Below w'.heap.size w' w'' := by
      intro w' hE'
      have h := kread_any k tn XB w' (by omega) hE'
      rw [hXl, hrb] at h
      unfold readV at h
      simp only at h
      rw [strS] at h
      exact h
    have hZ : (M.extract 0 (min (↑M.size : Int) 60).toNat).size ≤ 60 := by rw [ByteArray.size_extract]; omega
    have hYM : (YB ++ M.extract 0 (min (↑M.size : Int) 60).toNat).size ≤ 100000 := by rw [ByteArray.size_append]; omega
    have cu : ∀ w', Env w' → Calls Tryz.prog 80 #[.agg #[.int .i64 k, .bool tn], .string (YB ++ M.extract 0 (min (↑M.size : Int) 60).toNat)] w' fun e w'' => e = .returned (.tuple #[.agg #[.bool u, .int .i64 n, .string S], .int .i64 YB.size, .int .i64 0]) ∧ Below w'.heap.size w' w'' := by
      intro w' hE'
      have h := kunbits_any k tn (YB ++ M.extract 0 (min (↑M.size : Int) 60).toNat) w' hYM hE'
      have e : (YB ++ M.extract 0 (min (↑M.size : Int) 60).toNat).data.toList = Y ++ (M.extract 0 (min (↑M.size : Int) 60).toNat).data.toList := by
        rw [ByteArray.data_append, Array.toList_append, hYl]
      rw [e, hub] at h
      unfold unV at h
      simp only at h
      rw [strS, ← hYz] at h
      exact h
    have hyb : YB.size ≤ 2051 := by omega
    have hq0 : ¬ 9223372036854775807 < YB.size + (min (↑M.size : Int) 60).toNat := by omega
    have hq : ¬ 9223372036854775807 < YB.size + (M.extract 0 (min (↑M.size : Int) 60).toNat).size := by omega
    have K1 := Lib.hid k1; have CC := Lib.hid cc; have CT := Lib.hid ct; have CR := Lib.hid cr; have CB := Lib.hid cb; have CU := Lib.hid cu; have HE := Lib.hid hE; have HB0 := Lib.hid b0
    clear k1 cc ct cr cb cu hE b0 hc hrb hub hXz hYz hXl hYl hcs htl hbl hYM hM
    go_enter Tryz.func26, Tryz.ntmps26
    go_wp2_with fail
    refine (K1.out _).mono ?_
    rintro en w1 ⟨rfl, bb1⟩
    have x1 := HB0.out.step bb1
    obtain ⟨d0, d1, a0, a1, a2, f0, f1, f2, l0, l1⟩ := x1.cells
    have x2 := x1.set S
    have y2 := x2.cells
    have X1 := Lib.hid x1; have X2 := Lib.hid x2; have Y2 := Lib.hid y2
    clear x1 x2 y2 bb1
    go_wp2_with fail
    refine (CC.out _ (HE.out.below X2.out.bel)).mono ?_
    rintro en w3 ⟨rfl, bb3⟩
    have x3 := X2.out.step bb3
    clear d0 d1 a0 a1 a2 f0 f1 f2 l0 l1
    obtain ⟨d0, d1, a0, a1, a2, f0, f1, f2, l0, l1⟩ := x3.cells
    have X3 := Lib.hid x3
    clear x3 bb3
    go_wp2_with fail
    refine (CT.out _ (HE.out.below X3.out.bel)).mono ?_
    rintro en w4 ⟨rfl, bb4⟩
    have x4 := X3.out.step bb4
    clear d0 d1 a0 a1 a2 f0 f1 f2 l0 l1
    obtain ⟨d0, d1, a0, a1, a2, f0, f1, f2, l0, l1⟩ := x4.cells
    have X4 := Lib.hid x4
    clear x4 bb4
    go_wp2_with fail
    refine (CR.out _ (HE.out.below X4.out.bel)).mono ?_
    rintro en w5 ⟨rfl, bb5⟩
    have x5 := X4.out.step bb5
    have x6 := x5.alloc (.cells #[.bool u, .int .i64 n, .string S] 23)
    have g6 := cell_new u n S w5
    clear d0 d1 a0 a1 a2 f0 f1 f2 l0 l1
    obtain ⟨d0, d1, a0, a1, a2, f0, f1, f2, l0, l1⟩ := x5.cells
    obtain ⟨e0, e1, e2, e3, e4, _, _, _, _, _⟩ := x6.cells
    have X6 := Lib.hid x6; have G6 := Lib.hid g6
    clear x5 x6 bb5 g6
    go_wp2_with fail
    refine (CB.out _ (HE.out.below X6.out.bel)).mono ?_
    rintro en w7 ⟨rfl, bb7⟩
    have x7 := X6.out.step bb7
    have g7 := tri_step G6.out bb7
    have h7 : ∀ w8, Below w7.heap.size w7 w8 → TBx w w.heap.size k tn u n S w8 ∧ CellAt w5.heap.size u n S w8 := fun w8 hb => ⟨x7.step hb, tri_step g7 hb⟩
    clear d0 d1 a0 a1 a2 f0 f1 f2 l0 l1 e0 e1 e2 e3 e4
    obtain ⟨d0, d1, a0, a1, a2, f0, f1, f2, l0, l1⟩ := x7.cells
    have hD : (w7.drew.cell? ⟨w.heap.size, 0, none⟩ = some (.int .i64 k) ∧ w7.drew.cell? ⟨w.heap.size, 1, none⟩ = some (.bool tn)) ∧ Below w7.heap.size w7 w7.drew := ⟨⟨d0, d1⟩, ms_drewN (Below.refl _ _) 1⟩
    have HD := Lib.hid hD; have X7 := Lib.hid x7; have H7 := Lib.hid h7
    clear x7 bb7 g7 hD h7
    have hD0 : (w7.cell? ⟨w.heap.size, 0, none⟩ = some (.int .i64 k) ∧ w7.cell? ⟨w.heap.size, 1, none⟩ = some (.bool tn)) ∧ Below w7.heap.size w7 w7 := ⟨⟨d0, d1⟩, Below.refl _ _⟩
    have HD0 := Lib.hid hD0
    clear hD0
    go_upto_region 7 with fail
    go_cut [13, 14, 15] (fun s13 s14 s15 wx => ∃ g : Nat, s13 = .pointer (some ⟨g, 0, none⟩) ∧ s14 = .int .i64 YB.size ∧ s15 = .int .i64 0 ∧ Hid (TBx w w.heap.size k tn u n S wx ∧ CellAt w5.heap.size u n S wx ∧ CellAt g u n S wx))
    case first =>
      go_region_held3 (fun w' => (w'.cell? ⟨w.heap.size, 0, none⟩ = some (.int .i64 k) ∧ w'.cell? ⟨w.heap.size, 1, none⟩ = some (.bool tn)) ∧ Below w7.heap.size w7 w')
        (first
          | exact HD.out
          | exact keep2 HD0.out (ms_drewN ((Below.refl _ _).alloc (Nat.le_refl _) _) 1)
          | exact keep2 HD.out bb
          | exact keep2 (by assumption) bb
          | exact keep2 H8.out ((Below.refl _ _).alloc (Nat.le_refl _) _)
          | exact keepset2 H8.out l0 l0 _ _ _
          | (go_keep; done))
        ((first | ((with_reducible refine (CU.out _ ?_).mono ?_); exact HE.out.below (endTC X7.out.bel X7.out.bel.size (by assumption)); rintro en w8 ⟨rfl, bb⟩; have H8 : Hid ((w8.cell? ⟨w.heap.size, 0, none⟩ = some (.int .i64 k) ∧ w8.cell? ⟨w.heap.size, 1, none⟩ = some (.bool tn)) ∧ Below w7.heap.size w7 w8) := Lib.hid (keep2 (by assumption) bb); first | (have g8 : CellAt w7.heap.size false 0 ⟨#[]⟩ w8 := tri_step (cell_new false 0 ⟨#[]⟩ w7).drew bb; have c80 := g8.c0; have c81 := g8.c1; have c82 := g8.c2; have f80 := g8.fr 0; have f81 := g8.fr 1; have f82 := g8.fr 2; have G8 := Lib.hid g8; clear g8) | skip)))
      all_goals
        go_wp2_with fail
        go_meet
        first
          | exact ⟨_, rfl, rfl, rfl, Lib.hid ⟨(H7.out _ (below_set3 H8.out.2 (Nat.le_refl _) _ _ _)).1, (H7.out _ (below_set3 H8.out.2 (Nat.le_refl _) _ _ _)).2, tri_set3 G8.out⟩⟩
          | exact ⟨_, rfl, rfl, rfl, Lib.hid ⟨(H7.out _ (H8.out.2.alloc H8.out.2.size _)).1, (H7.out _ (H8.out.2.alloc H8.out.2.size _)).2, cell_new u n S w8⟩⟩
    case rest =>
      obtain ⟨g, rfl, rfl, rfl, HG⟩ := hcut
      obtain ⟨xt, g1, g2⟩ := id HG.out
      clear d0 d1 a0 a1 a2 f0 f1 f2 l0 l1
      obtain ⟨d0, d1, a0, a1, a2, f0, f1, f2, l0, l1⟩ := xt.cells
      have p0 := g1.c0; have p1 := g1.c1; have p2 := g1.c2
      have q0 := g2.c0; have q1 := g2.c1; have q2 := g2.c2
      have XT := Lib.hid xt
      clear xt g1 g2
      go_wp2_with fail
      refine (kworks_any _ (HE.out.below XT.out.bel)).mono ?_
      rintro en w9 ⟨rfl, b9⟩
      go_wp2_with fail
      go_ret
      exact ⟨rfl, XT.out.bel.trans (b9.mono XT.out.bel.size)⟩
  · generalize kCheck k tn u n S.data.toList = c at *
    have hcb : (c != 0) = true := by simpa using hc
    have K1 := Lib.hid k1; have CC := Lib.hid cc; have HE := Lib.hid hE; have HB0 := Lib.hid b0
    clear k1 cc hE b0 hc hcs
    go_enter Tryz.func26, Tryz.ntmps26
    go_wp2_with fail
    refine (K1.out _).mono ?_
    rintro en w1 ⟨rfl, bb1⟩
    have x1 := HB0.out.step bb1
    obtain ⟨d0, d1, a0, a1, a2, f0, f1, f2, l0, l1⟩ := x1.cells
    have x2 := x1.set S
    have X1 := Lib.hid x1; have X2 := Lib.hid x2
    clear x1 x2 bb1
    go_wp2_with fail
    refine (CC.out _ (HE.out.below X2.out.bel)).mono ?_
    rintro en w3 ⟨rfl, bb3⟩
    have x3 := X2.out.step bb3
    have X3 := Lib.hid x3
    clear x3 bb3
    go_wp2_with fail
    refine (kworks_any _ (HE.out.below X3.out.bel)).mono ?_
    rintro en w9 ⟨rfl, b9⟩
    go_wp2_with fail
    go_ret
    exact ⟨rfl, X3.out.bel.trans (b9.mono X3.out.bel.size)⟩
end Go.Proofs.YtcdmiiaamajfoaaGreatDoor
namespace Go.Ms
theorem check_len {k : Int} {tn nu : Bool} {n : Int} {s : Bs} (hc : kCheck k tn nu n s = 0) : s.length ≤ 1024 := by
  obtain ⟨hk, ho⟩ := check_zero hc
  cases nu with
  | true => obtain ⟨_, _, rfl⟩ := ok_null ho; simp
  | false =>
    have hi := ok_some ho
    rcases may_cases hk with rfl | rfl | rfl | rfl | rfl
    · obtain ⟨rfl, _⟩ := is1.1 hi; simp
    · obtain ⟨rfl, _⟩ := is23 (.inl rfl) hi; simp
    · obtain ⟨rfl, _⟩ := is23 (.inr rfl) hi; simp
    · exact (is45 (.inl rfl) hi).2
    · exact (is45 (.inr rfl) hi).2
end Go.Ms
namespace Go.Proofs.YtcdmiiaamajfoaaGreatDoor
open Go.RowKit Go.Ms Go.Lib

/-- A boxed type. -/
structure TyAt (w : World) (b : Nat) (k : Int) (tn : Bool) (w1 : World) : Prop where
  td : w1.heap[b]? = some (.cells #[.int .i64 k, .bool tn] 41 (0, 0))
  bel : Below w.heap.size w w1
structure TyCells (b : Nat) (k : Int) (tn : Bool) (w1 : World) : Prop where
  d0 : w1.cell? ⟨b, 0, none⟩ = some (.int .i64 k)
  d1 : w1.cell? ⟨b, 1, none⟩ = some (.bool tn)
  l0 : b < w1.heap.size
section
variable {w w1 w2 : World} {b : Nat} {k : Int} {tn : Bool}
theorem TyAt.cells (h : TyAt w b k tn w1) : TyCells b k tn w1 := ⟨by rw [Lib.cell_of_heap h.td]; rfl, by rw [Lib.cell_of_heap h.td]; rfl, (Array.getElem?_eq_some_iff.1 h.td).1⟩
theorem TyAt.step (h : TyAt w b k tn w1) (hb : Below w1.heap.size w1 w2) : TyAt w b k tn w2 := ⟨by rw [hb.block _ (Array.getElem?_eq_some_iff.1 h.td).1]; exact h.td, h.bel.trans (hb.mono h.bel.size)⟩
theorem TyAt.alloc (h : TyAt w b k tn w1) (o : Obj) : TyAt w b k tn (w1.alloc o) := h.step ((Below.refl _ _).alloc (Nat.le_refl _) _)
theorem TyAt.drew (h : TyAt w b k tn w1) : TyAt w b k tn w1.drew := h.step (ms_drewN (Below.refl _ _) 1)
theorem TyAt.start (w : World) (k : Int) (tn : Bool) : TyAt w w.heap.size k tn (w.alloc (.cells #[.int .i64 k, .bool tn] 41)) := ⟨heap_alloc_new w _, (Below.refl _ _).alloc (Nat.le_refl _) _⟩
end

set_option maxRecDepth 100000 in
set_option maxHeartbeats 4000000 in
theorem cellOnly_ru (k : Int) (tn : Bool) (M : ByteArray) (w : World) (hE : Env w) (hM' : M.size ≤ 9223372036854775807) (T : ByteArray) (hT : M.extract 0 (min (↑M.size : Int) 2200).toNat = T) (hTz : T.size ≤ 2200)
    (u1 : Bool) (n1 : Int) (s1 : Bs) (e1 : Int) (hR : kReadD k tn T.data.toList = ((u1, n1, s1), e1)) (he1 : e1 = 0)
    (u2 : Bool) (n2 : Int) (s2 : Bs) (d2 : Nat) (e2 : Int) (hU : kUnD k tn T.data.toList = ((u2, n2, s2), d2, e2)) (he2 : e2 = 0) :
    Calls Tryz.prog 23 #[.agg #[.int .i64 k, .bool tn], .string M] w fun e w' => e = .returned (.bool true) ∧ Below w.heap.size w w' := by
  have cr : ∀ w', Env w' → Calls Tryz.prog 78 #[.agg #[.int .i64 k, .bool tn], .string T] w' fun e w'' => e = .returned (.tuple #[.agg #[.bool u1, .int .i64 n1, .string ⟨s1.toArray⟩], .int .i64 e1]) ∧ Below w'.heap.size w' w'' := by
    intro w' hE'
    have h := kread_any k tn T w' (by omega) hE'
    rw [hR] at h
    exact h
  have cu : ∀ w', Env w' → Calls Tryz.prog 80 #[.agg #[.int .i64 k, .bool tn], .string T] w' fun e w'' => e = .returned (.tuple #[.agg #[.bool u2, .int .i64 n2, .string ⟨s2.toArray⟩], .int .i64 d2, .int .i64 e2]) ∧ Below w'.heap.size w' w'' := by
    intro w' hE'
    have h := kunbits_any k tn T w' (by omega) hE'
    rw [hU] at h
    exact h
  have hTl : T.data.toList.length = T.size := by simp
  subst he1
  obtain ⟨hc1, ht1⟩ := read_only hR
  have hl1 := check_len hc1
  have hz1 : (⟨s1.toArray⟩ : ByteArray).size = s1.length := List.size_toArray
  have ct : ∀ w', Env w' → Calls Tryz.prog 82 #[.agg #[.int .i64 k, .bool tn], .agg #[.bool u1, .int .i64 n1, .string ⟨s1.toArray⟩]] w' fun e w'' => e = .returned (.tuple #[.string T, .int .i64 0]) ∧ Below w'.heap.size w' w'' := by
    intro w' hE'
    have h := ktext_any k tn u1 n1 ⟨s1.toArray⟩ w' (by omega) hE'
    have h2 : kTextD k tn u1 n1 (⟨s1.toArray⟩ : ByteArray).data.toList = T.data.toList := ht1
    have h3 : kCheck k tn u1 n1 (⟨s1.toArray⟩ : ByteArray).data.toList = 0 := hc1
    rw [h2, h3, strS] at h
    exact h
  have cc : ∀ w', Env w' → Calls Tryz.prog 83 #[.agg #[.int .i64 k, .bool tn], .agg #[.bool u1, .int .i64 n1, .string ⟨s1.toArray⟩]] w' fun e w'' => e = .returned (.int .i64 0) ∧ Below w'.heap.size w' w'' := by
    intro w' hE'
    have h := kcheck_any k tn u1 n1 ⟨s1.toArray⟩ w' (by omega) hE'
    have h3 : kCheck k tn u1 n1 (⟨s1.toArray⟩ : ByteArray).data.toList = 0 := hc1
    rw [h3] at h
    exact h
  have CT := Lib.hid ct; have CC := Lib.hid cc
  clear ct cc hc1 ht1 hl1 hz1
  subst he2
  obtain ⟨hc2, hd2, hb2⟩ := unbits_only hU
  have hl2 := check_len hc2
  have hz2 : (⟨s2.toArray⟩ : ByteArray).size = s2.length := List.size_toArray
  rw [hTl] at hd2
  have hd2i : (d2 : Int) ≤ (T.size : Int) := by omega
  have hex : (⟨(kBitsD k tn u2 n2 s2).toArray⟩ : ByteArray) = T.extract 0 d2 := by
    have e : (T.extract 0 d2).data.toList = kBitsD k tn u2 n2 s2 := by rw [ext_list, hb2]; simp
    exact (ba_ext e).symm
  have cb : ∀ w', Env w' → Calls Tryz.prog 56 #[.agg #[.int .i64 k, .bool tn], .agg #[.bool u2, .int .i64 n2, .string ⟨s2.toArray⟩]] w' fun e w'' => e = .returned (.tuple #[.string (T.extract 0 d2), .int .i64 0]) ∧ Below w'.heap.size w' w'' := by
    intro w' hE'
    have h := kbits_any k tn u2 n2 ⟨s2.toArray⟩ w' (by omega) hE'
    have h2 : (⟨(kBitsD k tn u2 n2 (⟨s2.toArray⟩ : ByteArray).data.toList).toArray⟩ : ByteArray) = T.extract 0 d2 := hex
    have h3 : kCheck k tn u2 n2 (⟨s2.toArray⟩ : ByteArray).data.toList = 0 := hc2
    rw [h2, h3] at h
    exact h
  have CB := Lib.hid cb
  clear cb hc2 hb2 hl2 hz2 hex
  obtain ⟨S2, hS2⟩ : ∃ S2 : ByteArray, (⟨s2.toArray⟩ : ByteArray) = S2 := ⟨_, rfl⟩
  rw [hS2] at cu CB
  obtain ⟨S1, hS1⟩ : ∃ S1 : ByteArray, (⟨s1.toArray⟩ : ByteArray) = S1 := ⟨_, rfl⟩
  rw [hS1] at cr CT CC
  have m0 : (0 : Int) ≤ min (↑M.size : Int) 2200 := by omega
  have m1 : min (↑M.size : Int) 2200 ≤ (↑M.size : Int) := by omega
  have b0 := TyAt.start w k tn
  have CR := Lib.hid cr; have CU := Lib.hid cu; have HE := Lib.hid hE; have HB0 := Lib.hid b0; have HT := Lib.hid hT
  clear cr cu hE b0 hT hR hU hTl
  go_enter Tryz.func23, Tryz.ntmps23
  go_wp2_with fail
  rw [HT.out]
  refine (CR.out _ (HE.out.below HB0.out.bel)).mono ?_
  rintro en w1 ⟨rfl, bb1⟩
  have x1 := HB0.out.step bb1
  obtain ⟨d0, d1, l0⟩ := x1.cells
  have x2 := x1.alloc (.cells #[.bool u1, .int .i64 n1, .string S1] 23)
  have g2 := cell_new u1 n1 S1 w1
  obtain ⟨e0, e1, _⟩ := x2.cells
  have X1 := Lib.hid x1; have X2 := Lib.hid x2; have G2 := Lib.hid g2
  clear x1 x2 g2 bb1
  go_wp2_with fail
  refine (CT.out _ (HE.out.below X2.out.bel)).mono ?_
  rintro en w3 ⟨rfl, bb3⟩
  have x3 := X2.out.step bb3
  have g3 := tri_step G2.out bb3
  clear d0 d1 l0 e0 e1
  obtain ⟨d0, d1, l0⟩ := x3.cells
  have p0 := g3.c0; have p1 := g3.c1; have p2 := g3.c2
  have X3 := Lib.hid x3
  clear x3 g3 bb3
  go_wp2_with fail
  refine (CC.out _ (HE.out.below X3.out.bel)).mono ?_
  rintro en w4 ⟨rfl, bb4⟩
  have x4 := X3.out.step bb4
  clear d0 d1 l0 p0 p1 p2
  obtain ⟨d0, d1, l0⟩ := x4.cells
  have X4 := Lib.hid x4
  clear x4 bb4
  go_wp2_with fail
  refine (CU.out _ (HE.out.below X4.out.bel)).mono ?_
  rintro en w5 ⟨rfl, bb5⟩
  have x5 := X4.out.step bb5
  clear d0 d1 l0
  obtain ⟨d0, d1, l0⟩ := x5.cells
  have x6 := x5.alloc (.cells #[.bool u2, .int .i64 n2, .string S2] 23)
  have g6 := cell_new u2 n2 S2 w5
  obtain ⟨e0, e1, _⟩ := x6.cells
  have X6 := Lib.hid x6; have G6 := Lib.hid g6
  clear x5 x6 bb5 g6
  go_wp2_with fail
  refine (CB.out _ (HE.out.below X6.out.bel)).mono ?_
  rintro en w7 ⟨rfl, bb7⟩
  have x7 := X6.out.step bb7
  have X7 := Lib.hid x7
  clear d0 d1 l0 e0 e1 x7 bb7
  go_wp2_with fail
  refine (kworks_any _ (HE.out.below X7.out.bel)).mono ?_
  rintro en w9 ⟨rfl, b9⟩
  go_wp2_with fail
  go_ret
  exact ⟨rfl, X7.out.bel.trans (b9.mono X7.out.bel.size)⟩
set_option maxRecDepth 100000 in
set_option maxHeartbeats 4000000 in
theorem cellOnly_re (k : Int) (tn : Bool) (M : ByteArray) (w : World) (hE : Env w) (hM' : M.size ≤ 9223372036854775807) (T : ByteArray) (hT : M.extract 0 (min (↑M.size : Int) 2200).toNat = T) (hTz : T.size ≤ 2200)
    (u1 : Bool) (n1 : Int) (s1 : Bs) (e1 : Int) (hR : kReadD k tn T.data.toList = ((u1, n1, s1), e1)) (he1 : e1 = 0)
    (u2 : Bool) (n2 : Int) (s2 : Bs) (d2 : Nat) (e2 : Int) (hU : kUnD k tn T.data.toList = ((u2, n2, s2), d2, e2)) (he2 : e2 ≠ 0) :
    Calls Tryz.prog 23 #[.agg #[.int .i64 k, .bool tn], .string M] w fun e w' => e = .returned (.bool true) ∧ Below w.heap.size w w' := by
  have cr : ∀ w', Env w' → Calls Tryz.prog 78 #[.agg #[.int .i64 k, .bool tn], .string T] w' fun e w'' => e = .returned (.tuple #[.agg #[.bool u1, .int .i64 n1, .string ⟨s1.toArray⟩], .int .i64 e1]) ∧ Below w'.heap.size w' w'' := by
    intro w' hE'
    have h := kread_any k tn T w' (by omega) hE'
    rw [hR] at h
    exact h
  have cu : ∀ w', Env w' → Calls Tryz.prog 80 #[.agg #[.int .i64 k, .bool tn], .string T] w' fun e w'' => e = .returned (.tuple #[.agg #[.bool u2, .int .i64 n2, .string ⟨s2.toArray⟩], .int .i64 d2, .int .i64 e2]) ∧ Below w'.heap.size w' w'' := by
    intro w' hE'
    have h := kunbits_any k tn T w' (by omega) hE'
    rw [hU] at h
    exact h
  have hTl : T.data.toList.length = T.size := by simp
  subst he1
  obtain ⟨hc1, ht1⟩ := read_only hR
  have hl1 := check_len hc1
  have hz1 : (⟨s1.toArray⟩ : ByteArray).size = s1.length := List.size_toArray
  have ct : ∀ w', Env w' → Calls Tryz.prog 82 #[.agg #[.int .i64 k, .bool tn], .agg #[.bool u1, .int .i64 n1, .string ⟨s1.toArray⟩]] w' fun e w'' => e = .returned (.tuple #[.string T, .int .i64 0]) ∧ Below w'.heap.size w' w'' := by
    intro w' hE'
    have h := ktext_any k tn u1 n1 ⟨s1.toArray⟩ w' (by omega) hE'
    have h2 : kTextD k tn u1 n1 (⟨s1.toArray⟩ : ByteArray).data.toList = T.data.toList := ht1
    have h3 : kCheck k tn u1 n1 (⟨s1.toArray⟩ : ByteArray).data.toList = 0 := hc1
    rw [h2, h3, strS] at h
    exact h
  have cc : ∀ w', Env w' → Calls Tryz.prog 83 #[.agg #[.int .i64 k, .bool tn], .agg #[.bool u1, .int .i64 n1, .string ⟨s1.toArray⟩]] w' fun e w'' => e = .returned (.int .i64 0) ∧ Below w'.heap.size w' w'' := by
    intro w' hE'
    have h := kcheck_any k tn u1 n1 ⟨s1.toArray⟩ w' (by omega) hE'
    have h3 : kCheck k tn u1 n1 (⟨s1.toArray⟩ : ByteArray).data.toList = 0 := hc1
    rw [h3] at h
    exact h
  have CT := Lib.hid ct; have CC := Lib.hid cc
  clear ct cc hc1 ht1 hl1 hz1
  have q2 : (e2 != 0) = true := by simpa using he2
  have hr0 := unbits_err (k := k) (tn := tn) (l := T.data.toList) (by rw [hU]; exact he2)
  rw [hU] at hr0
  obtain ⟨g0, g4⟩ := hr0
  injection g0 with g1 g2
  injection g2 with g2 g3
  simp only at g4
  subst g1 g2 g3 g4
  clear he2
  obtain ⟨S1, hS1⟩ : ∃ S1 : ByteArray, (⟨s1.toArray⟩ : ByteArray) = S1 := ⟨_, rfl⟩
  rw [hS1] at cr CT CC
  have m0 : (0 : Int) ≤ min (↑M.size : Int) 2200 := by omega
  have m1 : min (↑M.size : Int) 2200 ≤ (↑M.size : Int) := by omega
  have b0 := TyAt.start w k tn
  have CR := Lib.hid cr; have CU := Lib.hid cu; have HE := Lib.hid hE; have HB0 := Lib.hid b0; have HT := Lib.hid hT
  clear cr cu hE b0 hT hR hU hTl
  go_enter Tryz.func23, Tryz.ntmps23
  go_wp2_with fail
  rw [HT.out]
  refine (CR.out _ (HE.out.below HB0.out.bel)).mono ?_
  rintro en w1 ⟨rfl, bb1⟩
  have x1 := HB0.out.step bb1
  obtain ⟨d0, d1, l0⟩ := x1.cells
  have x2 := x1.alloc (.cells #[.bool u1, .int .i64 n1, .string S1] 23)
  have g2 := cell_new u1 n1 S1 w1
  obtain ⟨e0, e1, _⟩ := x2.cells
  have X1 := Lib.hid x1; have X2 := Lib.hid x2; have G2 := Lib.hid g2
  clear x1 x2 g2 bb1
  go_wp2_with fail
  refine (CT.out _ (HE.out.below X2.out.bel)).mono ?_
  rintro en w3 ⟨rfl, bb3⟩
  have x3 := X2.out.step bb3
  have g3 := tri_step G2.out bb3
  clear d0 d1 l0 e0 e1
  obtain ⟨d0, d1, l0⟩ := x3.cells
  have p0 := g3.c0; have p1 := g3.c1; have p2 := g3.c2
  have X3 := Lib.hid x3
  clear x3 g3 bb3
  go_wp2_with fail
  refine (CC.out _ (HE.out.below X3.out.bel)).mono ?_
  rintro en w4 ⟨rfl, bb4⟩
  have x4 := X3.out.step bb4
  clear d0 d1 l0 p0 p1 p2
  obtain ⟨d0, d1, l0⟩ := x4.cells
  have X4 := Lib.hid x4
  clear x4 bb4
  go_wp2_with fail
  refine (CU.out _ (HE.out.below X4.out.bel)).mono ?_
  rintro en w5 ⟨rfl, bb5⟩
  have x5 := X4.out.step bb5
  clear d0 d1 l0
  obtain ⟨d0, d1, l0⟩ := x5.cells
  have x6 := x5.alloc (.cells #[.bool false, .int .i64 0, .string ⟨#[]⟩] 23)
  have g6 := cell_new false 0 ⟨#[]⟩ w5
  obtain ⟨e0, e1, _⟩ := x6.cells
  have X6 := Lib.hid x6; have G6 := Lib.hid g6
  clear x5 x6 bb5 g6
  go_wp2_with fail
  refine (kworks_any _ (HE.out.below X6.out.bel)).mono ?_
  rintro en w9 ⟨rfl, b9⟩
  go_wp2_with fail
  go_ret
  exact ⟨rfl, X6.out.bel.trans (b9.mono X6.out.bel.size)⟩
set_option maxRecDepth 100000 in
set_option maxHeartbeats 4000000 in
theorem cellOnly_eu (k : Int) (tn : Bool) (M : ByteArray) (w : World) (hE : Env w) (hM' : M.size ≤ 9223372036854775807) (T : ByteArray) (hT : M.extract 0 (min (↑M.size : Int) 2200).toNat = T) (hTz : T.size ≤ 2200)
    (u1 : Bool) (n1 : Int) (s1 : Bs) (e1 : Int) (hR : kReadD k tn T.data.toList = ((u1, n1, s1), e1)) (he1 : e1 ≠ 0)
    (u2 : Bool) (n2 : Int) (s2 : Bs) (d2 : Nat) (e2 : Int) (hU : kUnD k tn T.data.toList = ((u2, n2, s2), d2, e2)) (he2 : e2 = 0) :
    Calls Tryz.prog 23 #[.agg #[.int .i64 k, .bool tn], .string M] w fun e w' => e = .returned (.bool true) ∧ Below w.heap.size w w' := by
  have cr : ∀ w', Env w' → Calls Tryz.prog 78 #[.agg #[.int .i64 k, .bool tn], .string T] w' fun e w'' => e = .returned (.tuple #[.agg #[.bool u1, .int .i64 n1, .string ⟨s1.toArray⟩], .int .i64 e1]) ∧ Below w'.heap.size w' w'' := by
    intro w' hE'
    have h := kread_any k tn T w' (by omega) hE'
    rw [hR] at h
    exact h
  have cu : ∀ w', Env w' → Calls Tryz.prog 80 #[.agg #[.int .i64 k, .bool tn], .string T] w' fun e w'' => e = .returned (.tuple #[.agg #[.bool u2, .int .i64 n2, .string ⟨s2.toArray⟩], .int .i64 d2, .int .i64 e2]) ∧ Below w'.heap.size w' w'' := by
    intro w' hE'
    have h := kunbits_any k tn T w' (by omega) hE'
    rw [hU] at h
    exact h
  have hTl : T.data.toList.length = T.size := by simp
  have q1 : (e1 == 0) = false := by simpa using he1
  have hr0 := read_err (k := k) (tn := tn) (l := T.data.toList) (by rw [hR]; exact he1)
  rw [hR] at hr0
  injection hr0 with g1 g2
  injection g2 with g2 g3
  subst g1 g2 g3
  clear he1
  subst he2
  obtain ⟨hc2, hd2, hb2⟩ := unbits_only hU
  have hl2 := check_len hc2
  have hz2 : (⟨s2.toArray⟩ : ByteArray).size = s2.length := List.size_toArray
  rw [hTl] at hd2
  have hd2i : (d2 : Int) ≤ (T.size : Int) := by omega
  have hex : (⟨(kBitsD k tn u2 n2 s2).toArray⟩ : ByteArray) = T.extract 0 d2 := by
    have e : (T.extract 0 d2).data.toList = kBitsD k tn u2 n2 s2 := by rw [ext_list, hb2]; simp
    exact (ba_ext e).symm
  have cb : ∀ w', Env w' → Calls Tryz.prog 56 #[.agg #[.int .i64 k, .bool tn], .agg #[.bool u2, .int .i64 n2, .string ⟨s2.toArray⟩]] w' fun e w'' => e = .returned (.tuple #[.string (T.extract 0 d2), .int .i64 0]) ∧ Below w'.heap.size w' w'' := by
    intro w' hE'
    have h := kbits_any k tn u2 n2 ⟨s2.toArray⟩ w' (by omega) hE'
    have h2 : (⟨(kBitsD k tn u2 n2 (⟨s2.toArray⟩ : ByteArray).data.toList).toArray⟩ : ByteArray) = T.extract 0 d2 := hex
    have h3 : kCheck k tn u2 n2 (⟨s2.toArray⟩ : ByteArray).data.toList = 0 := hc2
    rw [h2, h3] at h
    exact h
  have CB := Lib.hid cb
  clear cb hc2 hb2 hl2 hz2 hex
  obtain ⟨S2, hS2⟩ : ∃ S2 : ByteArray, (⟨s2.toArray⟩ : ByteArray) = S2 := ⟨_, rfl⟩
  rw [hS2] at cu CB
  have m0 : (0 : Int) ≤ min (↑M.size : Int) 2200 := by omega
  have m1 : min (↑M.size : Int) 2200 ≤ (↑M.size : Int) := by omega
  have b0 := TyAt.start w k tn
  have CR := Lib.hid cr; have CU := Lib.hid cu; have HE := Lib.hid hE; have HB0 := Lib.hid b0; have HT := Lib.hid hT
  clear cr cu hE b0 hT hR hU hTl
  go_enter Tryz.func23, Tryz.ntmps23
  go_wp2_with fail
  rw [HT.out]
  refine (CR.out _ (HE.out.below HB0.out.bel)).mono ?_
  rintro en w1 ⟨rfl, bb1⟩
  have x1 := HB0.out.step bb1
  obtain ⟨d0, d1, l0⟩ := x1.cells
  have x2 := x1.alloc (.cells #[.bool false, .int .i64 0, .string ⟨#[]⟩] 23)
  have g2 := cell_new false 0 ⟨#[]⟩ w1
  obtain ⟨e0, e1, _⟩ := x2.cells
  have X1 := Lib.hid x1; have X2 := Lib.hid x2; have G2 := Lib.hid g2
  clear x1 x2 g2 bb1
  go_wp2_with fail
  refine (CU.out _ (HE.out.below X2.out.bel)).mono ?_
  rintro en w5 ⟨rfl, bb5⟩
  have x5 := X2.out.step bb5
  clear d0 d1 l0 e0 e1
  obtain ⟨d0, d1, l0⟩ := x5.cells
  have x6 := x5.alloc (.cells #[.bool u2, .int .i64 n2, .string S2] 23)
  have g6 := cell_new u2 n2 S2 w5
  obtain ⟨e0, e1, _⟩ := x6.cells
  have X6 := Lib.hid x6; have G6 := Lib.hid g6
  clear x5 x6 bb5 g6
  go_wp2_with fail
  refine (CB.out _ (HE.out.below X6.out.bel)).mono ?_
  rintro en w7 ⟨rfl, bb7⟩
  have x7 := X6.out.step bb7
  have X7 := Lib.hid x7
  clear d0 d1 l0 e0 e1 x7 bb7
  go_wp2_with fail
  refine (kworks_any _ (HE.out.below X7.out.bel)).mono ?_
  rintro en w9 ⟨rfl, b9⟩
  go_wp2_with fail
  go_ret
  exact ⟨rfl, X7.out.bel.trans (b9.mono X7.out.bel.size)⟩
set_option maxRecDepth 100000 in
set_option maxHeartbeats 4000000 in
theorem cellOnly_ee (k : Int) (tn : Bool) (M : ByteArray) (w : World) (hE : Env w) (hM' : M.size ≤ 9223372036854775807) (T : ByteArray) (hT : M.extract 0 (min (↑M.size : Int) 2200).toNat = T) (hTz : T.size ≤ 2200)
    (u1 : Bool) (n1 : Int) (s1 : Bs) (e1 : Int) (hR : kReadD k tn T.data.toList = ((u1, n1, s1), e1)) (he1 : e1 ≠ 0)
    (u2 : Bool) (n2 : Int) (s2 : Bs) (d2 : Nat) (e2 : Int) (hU : kUnD k tn T.data.toList = ((u2, n2, s2), d2, e2)) (he2 : e2 ≠ 0) :
    Calls Tryz.prog 23 #[.agg #[.int .i64 k, .bool tn], .string M] w fun e w' => e = .returned (.bool true) ∧ Below w.heap.size w w' := by
  have cr : ∀ w', Env w' → Calls Tryz.prog 78 #[.agg #[.int .i64 k, .bool tn], .string T] w' fun e w'' => e = .returned (.tuple #[.agg #[.bool u1, .int .i64 n1, .string ⟨s1.toArray⟩], .int .i64 e1]) ∧ Below w'.heap.size w' w'' := by
    intro w' hE'
    have h := kread_any k tn T w' (by omega) hE'
    rw [hR] at h
    exact h
  have cu : ∀ w', Env w' → Calls Tryz.prog 80 #[.agg #[.int .i64 k, .bool tn], .string T] w' fun e w'' => e = .returned (.tuple #[.agg #[.bool u2, .int .i64 n2, .string ⟨s2.toArray⟩], .int .i64 d2, .int .i64 e2]) ∧ Below w'.heap.size w' w'' := by
    intro w' hE'
    have h := kunbits_any k tn T w' (by omega) hE'
    rw [hU] at h
    exact h
  have hTl : T.data.toList.length = T.size := by simp
  have q1 : (e1 == 0) = false := by simpa using he1
  have hr0 := read_err (k := k) (tn := tn) (l := T.data.toList) (by rw [hR]; exact he1)
  rw [hR] at hr0
  injection hr0 with g1 g2
  injection g2 with g2 g3
  subst g1 g2 g3
  clear he1
  have q2 : (e2 != 0) = true := by simpa using he2
  have hr0 := unbits_err (k := k) (tn := tn) (l := T.data.toList) (by rw [hU]; exact he2)
  rw [hU] at hr0
  obtain ⟨g0, g4⟩ := hr0
  injection g0 with g1 g2
  injection g2 with g2 g3
  simp only at g4
  subst g1 g2 g3 g4
  clear he2
  have m0 : (0 : Int) ≤ min (↑M.size : Int) 2200 := by omega
  have m1 : min (↑M.size : Int) 2200 ≤ (↑M.size : Int) := by omega
  have b0 := TyAt.start w k tn
  have CR := Lib.hid cr; have CU := Lib.hid cu; have HE := Lib.hid hE; have HB0 := Lib.hid b0; have HT := Lib.hid hT
  clear cr cu hE b0 hT hR hU hTl
  go_enter Tryz.func23, Tryz.ntmps23
  go_wp2_with fail
  rw [HT.out]
  refine (CR.out _ (HE.out.below HB0.out.bel)).mono ?_
  rintro en w1 ⟨rfl, bb1⟩
  have x1 := HB0.out.step bb1
  obtain ⟨d0, d1, l0⟩ := x1.cells
  have x2 := x1.alloc (.cells #[.bool false, .int .i64 0, .string ⟨#[]⟩] 23)
  have g2 := cell_new false 0 ⟨#[]⟩ w1
  obtain ⟨e0, e1, _⟩ := x2.cells
  have X1 := Lib.hid x1; have X2 := Lib.hid x2; have G2 := Lib.hid g2
  clear x1 x2 g2 bb1
  go_wp2_with fail
  refine (CU.out _ (HE.out.below X2.out.bel)).mono ?_
  rintro en w5 ⟨rfl, bb5⟩
  have x5 := X2.out.step bb5
  clear d0 d1 l0 e0 e1
  obtain ⟨d0, d1, l0⟩ := x5.cells
  have x6 := x5.alloc (.cells #[.bool false, .int .i64 0, .string ⟨#[]⟩] 23)
  have g6 := cell_new false 0 ⟨#[]⟩ w5
  obtain ⟨e0, e1, _⟩ := x6.cells
  have X6 := Lib.hid x6; have G6 := Lib.hid g6
  clear x5 x6 bb5 g6
  go_wp2_with fail
  refine (kworks_any _ (HE.out.below X6.out.bel)).mono ?_
  rintro en w9 ⟨rfl, b9⟩
  go_wp2_with fail
  go_ret
  exact ⟨rfl, X6.out.bel.trans (b9.mono X6.out.bel.size)⟩
theorem cellOnly_walk (k : Int) (tn : Bool) (M : ByteArray) (w : World) (hM : M.size ≤ maxLen) (hE : Env w) :
    Calls Tryz.prog 23 #[.agg #[.int .i64 k, .bool tn], .string M] w fun e w' => e = .returned (.bool true) ∧ Below w.heap.size w w' := by
  have hM' : M.size ≤ 9223372036854775807 := by simpa [maxLen] using hM
  have hTz : (M.extract 0 (min (↑M.size : Int) 2200).toNat).size ≤ 2200 := by rw [ByteArray.size_extract]; omega
  obtain ⟨u1, n1, s1, e1, hR⟩ : ∃ u1 n1 s1 e1, kReadD k tn (M.extract 0 (min (↑M.size : Int) 2200).toNat).data.toList = ((u1, n1, s1), e1) := ⟨_, _, _, _, rfl⟩
  obtain ⟨u2, n2, s2, d2, e2, hU⟩ : ∃ u2 n2 s2 d2 e2, kUnD k tn (M.extract 0 (min (↑M.size : Int) 2200).toNat).data.toList = ((u2, n2, s2), d2, e2) := ⟨_, _, _, _, _, rfl⟩
  by_cases h1 : e1 = 0
  · by_cases h2 : e2 = 0
    · exact cellOnly_ru k tn M w hE hM' _ rfl hTz u1 n1 s1 e1 hR h1 u2 n2 s2 d2 e2 hU h2
    · exact cellOnly_re k tn M w hE hM' _ rfl hTz u1 n1 s1 e1 hR h1 u2 n2 s2 d2 e2 hU h2
  · by_cases h2 : e2 = 0
    · exact cellOnly_eu k tn M w hE hM' _ rfl hTz u1 n1 s1 e1 hR h1 u2 n2 s2 d2 e2 hU h2
    · exact cellOnly_ee k tn M w hE hM' _ rfl hTz u1 n1 s1 e1 hR h1 u2 n2 s2 d2 e2 hU h2
end Go.Proofs.YtcdmiiaamajfoaaGreatDoor
