/- Rows: RowKeyed, walked. -/
import Derived.Test.YtcdmiiaamajfoaaGreatDoorYYg
import Derived.Test.YtcdmiiaamajfoaaGreatDoorYYh
import Derived.Deep.DeepCutAuto
set_option linter.unusedVariables false
set_option linter.unusedSimpArgs false
namespace Go.Proofs.YtcdmiiaamajfoaaGreatDoor
open Go.RowKit Go.Ms Go.Lib

theorem YSt.e3 {w0 w : World} {E L : List (Option Addr × List Value)} {a b c d : Option Addr × List Value} (h : YSt w0 (a :: b :: c :: d :: E) L w) : Ext w w.heap.size d.1 d.2 := h.ext _ (by simp)
theorem YSt.swap {w0 w : World} {E L : List (Option Addr × List Value)} {a b : Option Addr × List Value} (h : YSt w0 E (a :: b :: L) w) : YSt w0 E (b :: a :: L) w :=
  ⟨h.bel, h.ext, fun o ho => h.objs o (by simp only [List.mem_cons] at ho ⊢; rcases ho with h | h | h; exact .inr (.inl h); exact .inl h; exact .inr (.inr h)), h.env⟩
set_option maxRecDepth 100000 in
set_option maxHeartbeats 2000000 in
theorem rowKeyed_e1 (A : Option Addr) (n1 c1 : Nat) (la : List Col) (B : Option Addr) (n2 c2 : Nat) (lb : List Int) (C : Option Addr) (n3 c3 : Nat) (lc : List Cl) (D : Option Addr) (n4 c4 : Nat) (ld : List Cl) (w : World) (hA : n1 ≤ c1) (kA : c1 ≤ maxLen) (lA : la.length = n1) (eA : Ext w w.heap.size A (colsV la)) (hB : n2 ≤ c2) (kB : c2 ≤ maxLen) (lB : lb.length = n2) (eB : Ext w w.heap.size B (intV lb)) (hC : n3 ≤ c3) (kC : c3 ≤ maxLen) (lC : lc.length = n3) (eC : Ext w w.heap.size C (rowV lc)) (iC : ∀ c ∈ lc, ClIn c) (hD : n4 ≤ c4) (kD : c4 ≤ maxLen) (lD : ld.length = n4) (eD : Ext w w.heap.size D (rowV ld)) (iD : ∀ c ∈ ld, ClIn c) (hE : Env w) (hx : rKeyE ((la.take 40).map colTy) (cutR lc) (lb.take 12) ≠ 0) :
    Calls Tryz.prog 19 #[.slice A n1 c1, .slice B n2 c2, .agg #[.slice C n3 c3, .slice D n4 c4]] w fun e w' => e = .returned (.bool true) ∧ Below w.heap.size w w' := by
  obtain ⟨KX, hKX⟩ : ∃ K : ByteArray, (⟨(rKey ((la.take 40).map colTy) (cutR lc) (lb.take 12)).toArray⟩ : ByteArray) = K := ⟨_, rfl⟩
  obtain ⟨KY, hKY⟩ : ∃ K : ByteArray, (⟨(rKey ((la.take 40).map colTy) (cutR ld) (lb.take 12)).toArray⟩ : ByteArray) = K := ⟨_, rfl⟩
  obtain ⟨x, hx0⟩ : ∃ x, rKeyE ((la.take 40).map colTy) (cutR lc) (lb.take 12) = x := ⟨_, rfl⟩
  obtain ⟨y, hy0⟩ : ∃ x, rKeyE ((la.take 40).map colTy) (cutR ld) (lb.take 12) = x := ⟨_, rfl⟩
  rw [hx0] at hx
  have hx1 : (x != 0) = true := by simpa using hx
  have KA := Lib.hid hKX; have KB := Lib.hid hKY; have EA := Lib.hid hx0; have EB := Lib.hid hy0
  clear hKX hKY hx0 hy0 hx
  obtain ⟨V, hV⟩ : ∃ V, (w.alloc (.cells #[.slice C n3 c3, .slice D n4 c4] 39)) = V := ⟨_, rfl⟩
  have hb0 : Below w.heap.size w V := by rw [← hV]; exact (Below.refl _ _).alloc (Nat.le_refl _) _
  have hbk : V.heap[w.heap.size]? = some (.cells #[.slice C n3 c3, .slice D n4 c4] 39 (0, 0)) := by rw [← hV]; exact heap_alloc_new w _
  have s0 : YSt V [(A, colsV la), (B, intV lb), (C, rowV lc), (D, rowV ld)] [] V := ⟨Below.refl _ _, fun o ho => (by simp only [List.mem_cons, List.not_mem_nil, or_false] at ho; rcases ho with rfl | rfl | rfl | rfl; exact (eA.keep hb0).more hb0.size; exact (eB.keep hb0).more hb0.size; exact (eC.keep hb0).more hb0.size; exact (eD.keep hb0).more hb0.size), fun o ho => (by cases ho), hE.below hb0⟩
  have S0 := Lib.hid s0; have HV := Lib.hid hV; have HBK := Lib.hid hbk; have HB0 := Lib.hid hb0
  have LA := Lib.hid lA; have LB := Lib.hid lB; have LC := Lib.hid lC; have IC := Lib.hid iC; have LD := Lib.hid lD; have ID := Lib.hid iD
  clear s0 hV hb0 hbk hE eA eB eC eD iC iD lA lB lC lD
  have lw : w.heap.size < V.heap.size := (Array.getElem?_eq_some_iff.1 HBK.out).1
  unfold maxLen at kA kB kC kD
  go_enter Tryz.func19, Tryz.ntmps19
  go_wp2_with fail
  rw [HV.out]
  refine (rworks_any _ S0.out.env).mono ?_
  rintro en w1 ⟨rfl, b1⟩
  have S1 := Lib.hid (S0.out.step b1)
  clear b1
  go_wp2_with fail
  refine (lcols_at _ A n1 c1 la hA kA LA.out S1.out.e0).mono ?_
  rintro en w2 ⟨P, nP, cP, rfl, lnP, l2, b2⟩
  have S2 := Lib.hid ((S1.out.step b2).push l2)
  have NP := Lib.hid lnP
  clear l2 b2 lnP
  go_wp2_with fail
  refine (lfew_at _ B n2 c2 lb hB kB LB.out S2.out.e1).mono ?_
  rintro en w3 ⟨Q, nQ, cQ, rfl, lnQ, l3, b3⟩
  have S3 := Lib.hid ((S2.out.step b3).push l3)
  have NQ := Lib.hid lnQ
  clear l3 b3 lnQ
  go_wp2_with fail
  have hk3 := (S3.out.bel.block _ lw).trans HBK.out
  have hS : (w3.drew.cell? ⟨w.heap.size, 0, none⟩ = some (.slice C n3 c3) ∧ w3.drew.cell? ⟨w.heap.size, 1, none⟩ = some (.slice D n4 c4)) ∧ Below w3.heap.size w3 w3.drew := ⟨⟨by show w3.cell? _ = _; rw [Lib.cell_of_heap hk3]; rfl, by show w3.cell? _ = _; rw [Lib.cell_of_heap hk3]; rfl⟩, ms_drewN (Below.refl _ _) 1⟩
  have CUTC := Lib.hid (fun W (h : Below w3.heap.size w3 W) => lcut_at W C n3 c3 lc (Nat.le_trans hC kC) LC.out (S3.out.step h).e2 IC.out)
  have CUTD := Lib.hid (fun W (h : Below w3.heap.size w3 W) => lcut_at W D n4 c4 ld (Nat.le_trans hD kD) LD.out (S3.out.step h).e3 ID.out)
  have HS := Lib.hid hS
  clear hS hk3
  go_cut [7, 8] (fun s7 s8 wx => ∃ (R : Option Addr) (cR : Nat) (Z : Option Addr) (cZ : Nat), s7 = .slice R (cutR lc).length cR ∧ s8 = .slice Z (cutR ld).length cZ ∧ Hid (YSt V [(A, colsV la), (B, intV lb), (C, rowV lc), (D, rowV ld)] [(Z, rowV (cutR ld)), (R, rowV (cutR lc)), (Q, intV (lb.take 12)), (P, colsV (la.take 40))] wx))
  case first =>
    go_region_held3 (fun w' => (w'.cell? ⟨w.heap.size, 0, none⟩ = some (.slice C n3 c3) ∧ w'.cell? ⟨w.heap.size, 1, none⟩ = some (.slice D n4 c4)) ∧ Below w3.heap.size w3 w')
      (first
        | with_reducible exact HS.out
        | with_reducible exact ykeep2 HS.out bb
        | with_reducible exact ykeep2 (by assumption) bb
        | (go_keep; done))
      ((first
        | ((with_reducible refine (CUTC.out _ ?_).mono ?_); exact (And.right (by assumption)); rintro en w4 ⟨R, cR, rfl, l4, bb⟩; (first | have SC := Lib.hid ((SD.out.step bb).push l4) | have SC := Lib.hid ((S3.out.step ((ms_drewN (Below.refl _ _) 1).trans bb)).push l4)); clear l4)
        | ((with_reducible refine (CUTD.out _ ?_).mono ?_); exact (And.right (by assumption)); rintro en w5 ⟨Z, cZ, rfl, l5, bb⟩; (first | have SD := Lib.hid ((SC.out.step bb).push l5) | have SD := Lib.hid ((S3.out.step ((ms_drewN (Below.refl _ _) 1).trans bb)).push l5)); clear l5)))
    all_goals
      go_wp2_with fail
      go_meet
      first
      | exact ⟨R, cR, Z, cZ, rfl, rfl, SD⟩
      | exact ⟨R, cR, Z, cZ, rfl, rfl, Lib.hid SC.out.swap⟩
  case rest =>
    obtain ⟨R, cR, Z, cZ, rfl, rfl, S5⟩ := hcut
    clear CUTC CUTD HS
    go_wp2_with fail
    have q6 := rowKey_any _ P Q R nP cP nQ cQ _ cR _ _ _ _ (cutR_1200 _) (by rw [NP.out]; exact cols_max _) (by rw [NQ.out]; exact take12 _) (cut_max _) NP.out NQ.out rfl (cols_of S5.out.o3) S5.out.o2_ S5.out.o1 S5.out.env
    rw [KA.out] at q6
    rw [EA.out] at q6
    refine q6.mono ?_
    rintro en w6 ⟨rfl, b6⟩
    have S6 := Lib.hid (S5.out.step b6)
    clear b6 q6
    go_wp2_with fail
    have q7 := rowKey_any _ P Q Z nP cP nQ cQ _ cZ _ _ _ _ (cutR_1200 _) (by rw [NP.out]; exact cols_max _) (by rw [NQ.out]; exact take12 _) (cut_max _) NP.out NQ.out rfl (cols_of S6.out.o3) S6.out.o2_ S6.out.o0 S6.out.env
    rw [KB.out] at q7
    rw [EB.out] at q7
    refine q7.mono ?_
    rintro en w7 ⟨rfl, b7⟩
    have S7 := Lib.hid (S6.out.step b7)
    clear b7 q7
    go_wp2_with fail
    go_ret
    exact ⟨rfl, HB0.out.trans (S7.out.bel.mono HB0.out.size)⟩
set_option maxRecDepth 100000 in
set_option maxHeartbeats 2000000 in
theorem rowKeyed_e2 (A : Option Addr) (n1 c1 : Nat) (la : List Col) (B : Option Addr) (n2 c2 : Nat) (lb : List Int) (C : Option Addr) (n3 c3 : Nat) (lc : List Cl) (D : Option Addr) (n4 c4 : Nat) (ld : List Cl) (w : World) (hA : n1 ≤ c1) (kA : c1 ≤ maxLen) (lA : la.length = n1) (eA : Ext w w.heap.size A (colsV la)) (hB : n2 ≤ c2) (kB : c2 ≤ maxLen) (lB : lb.length = n2) (eB : Ext w w.heap.size B (intV lb)) (hC : n3 ≤ c3) (kC : c3 ≤ maxLen) (lC : lc.length = n3) (eC : Ext w w.heap.size C (rowV lc)) (iC : ∀ c ∈ lc, ClIn c) (hD : n4 ≤ c4) (kD : c4 ≤ maxLen) (lD : ld.length = n4) (eD : Ext w w.heap.size D (rowV ld)) (iD : ∀ c ∈ ld, ClIn c) (hE : Env w) (hx : rKeyE ((la.take 40).map colTy) (cutR lc) (lb.take 12) = 0) (hy : rKeyE ((la.take 40).map colTy) (cutR ld) (lb.take 12) ≠ 0) :
    Calls Tryz.prog 19 #[.slice A n1 c1, .slice B n2 c2, .agg #[.slice C n3 c3, .slice D n4 c4]] w fun e w' => e = .returned (.bool true) ∧ Below w.heap.size w w' := by
  obtain ⟨KX, hKX⟩ : ∃ K : ByteArray, (⟨(rKey ((la.take 40).map colTy) (cutR lc) (lb.take 12)).toArray⟩ : ByteArray) = K := ⟨_, rfl⟩
  obtain ⟨KY, hKY⟩ : ∃ K : ByteArray, (⟨(rKey ((la.take 40).map colTy) (cutR ld) (lb.take 12)).toArray⟩ : ByteArray) = K := ⟨_, rfl⟩
  obtain ⟨y, hy0⟩ : ∃ x, rKeyE ((la.take 40).map colTy) (cutR ld) (lb.take 12) = x := ⟨_, rfl⟩
  rw [hy0] at hy
  have hy1 : (y != 0) = true := by simpa using hy
  have KA := Lib.hid hKX; have KB := Lib.hid hKY; have EA := Lib.hid hx; have EB := Lib.hid hy0
  clear hKX hKY hx hy0 hy
  obtain ⟨V, hV⟩ : ∃ V, (w.alloc (.cells #[.slice C n3 c3, .slice D n4 c4] 39)) = V := ⟨_, rfl⟩
  have hb0 : Below w.heap.size w V := by rw [← hV]; exact (Below.refl _ _).alloc (Nat.le_refl _) _
  have hbk : V.heap[w.heap.size]? = some (.cells #[.slice C n3 c3, .slice D n4 c4] 39 (0, 0)) := by rw [← hV]; exact heap_alloc_new w _
  have s0 : YSt V [(A, colsV la), (B, intV lb), (C, rowV lc), (D, rowV ld)] [] V := ⟨Below.refl _ _, fun o ho => (by simp only [List.mem_cons, List.not_mem_nil, or_false] at ho; rcases ho with rfl | rfl | rfl | rfl; exact (eA.keep hb0).more hb0.size; exact (eB.keep hb0).more hb0.size; exact (eC.keep hb0).more hb0.size; exact (eD.keep hb0).more hb0.size), fun o ho => (by cases ho), hE.below hb0⟩
  have S0 := Lib.hid s0; have HV := Lib.hid hV; have HBK := Lib.hid hbk; have HB0 := Lib.hid hb0
  have LA := Lib.hid lA; have LB := Lib.hid lB; have LC := Lib.hid lC; have IC := Lib.hid iC; have LD := Lib.hid lD; have ID := Lib.hid iD
  clear s0 hV hb0 hbk hE eA eB eC eD iC iD lA lB lC lD
  have lw : w.heap.size < V.heap.size := (Array.getElem?_eq_some_iff.1 HBK.out).1
  unfold maxLen at kA kB kC kD
  go_enter Tryz.func19, Tryz.ntmps19
  go_wp2_with fail
  rw [HV.out]
  refine (rworks_any _ S0.out.env).mono ?_
  rintro en w1 ⟨rfl, b1⟩
  have S1 := Lib.hid (S0.out.step b1)
  clear b1
  go_wp2_with fail
  refine (lcols_at _ A n1 c1 la hA kA LA.out S1.out.e0).mono ?_
  rintro en w2 ⟨P, nP, cP, rfl, lnP, l2, b2⟩
  have S2 := Lib.hid ((S1.out.step b2).push l2)
  have NP := Lib.hid lnP
  clear l2 b2 lnP
  go_wp2_with fail
  refine (lfew_at _ B n2 c2 lb hB kB LB.out S2.out.e1).mono ?_
  rintro en w3 ⟨Q, nQ, cQ, rfl, lnQ, l3, b3⟩
  have S3 := Lib.hid ((S2.out.step b3).push l3)
  have NQ := Lib.hid lnQ
  clear l3 b3 lnQ
  go_wp2_with fail
  have hk3 := (S3.out.bel.block _ lw).trans HBK.out
  have hS : (w3.drew.cell? ⟨w.heap.size, 0, none⟩ = some (.slice C n3 c3) ∧ w3.drew.cell? ⟨w.heap.size, 1, none⟩ = some (.slice D n4 c4)) ∧ Below w3.heap.size w3 w3.drew := ⟨⟨by show w3.cell? _ = _; rw [Lib.cell_of_heap hk3]; rfl, by show w3.cell? _ = _; rw [Lib.cell_of_heap hk3]; rfl⟩, ms_drewN (Below.refl _ _) 1⟩
  have CUTC := Lib.hid (fun W (h : Below w3.heap.size w3 W) => lcut_at W C n3 c3 lc (Nat.le_trans hC kC) LC.out (S3.out.step h).e2 IC.out)
  have CUTD := Lib.hid (fun W (h : Below w3.heap.size w3 W) => lcut_at W D n4 c4 ld (Nat.le_trans hD kD) LD.out (S3.out.step h).e3 ID.out)
  have HS := Lib.hid hS
  clear hS hk3
  go_cut [7, 8] (fun s7 s8 wx => ∃ (R : Option Addr) (cR : Nat) (Z : Option Addr) (cZ : Nat), s7 = .slice R (cutR lc).length cR ∧ s8 = .slice Z (cutR ld).length cZ ∧ Hid (YSt V [(A, colsV la), (B, intV lb), (C, rowV lc), (D, rowV ld)] [(Z, rowV (cutR ld)), (R, rowV (cutR lc)), (Q, intV (lb.take 12)), (P, colsV (la.take 40))] wx))
  case first =>
    go_region_held3 (fun w' => (w'.cell? ⟨w.heap.size, 0, none⟩ = some (.slice C n3 c3) ∧ w'.cell? ⟨w.heap.size, 1, none⟩ = some (.slice D n4 c4)) ∧ Below w3.heap.size w3 w')
      (first
        | with_reducible exact HS.out
        | with_reducible exact ykeep2 HS.out bb
        | with_reducible exact ykeep2 (by assumption) bb
        | (go_keep; done))
      ((first
        | ((with_reducible refine (CUTC.out _ ?_).mono ?_); exact (And.right (by assumption)); rintro en w4 ⟨R, cR, rfl, l4, bb⟩; (first | have SC := Lib.hid ((SD.out.step bb).push l4) | have SC := Lib.hid ((S3.out.step ((ms_drewN (Below.refl _ _) 1).trans bb)).push l4)); clear l4)
        | ((with_reducible refine (CUTD.out _ ?_).mono ?_); exact (And.right (by assumption)); rintro en w5 ⟨Z, cZ, rfl, l5, bb⟩; (first | have SD := Lib.hid ((SC.out.step bb).push l5) | have SD := Lib.hid ((S3.out.step ((ms_drewN (Below.refl _ _) 1).trans bb)).push l5)); clear l5)))
    all_goals
      go_wp2_with fail
      go_meet
      first
      | exact ⟨R, cR, Z, cZ, rfl, rfl, SD⟩
      | exact ⟨R, cR, Z, cZ, rfl, rfl, Lib.hid SC.out.swap⟩
  case rest =>
    obtain ⟨R, cR, Z, cZ, rfl, rfl, S5⟩ := hcut
    clear CUTC CUTD HS
    go_wp2_with fail
    have q6 := rowKey_any _ P Q R nP cP nQ cQ _ cR _ _ _ _ (cutR_1200 _) (by rw [NP.out]; exact cols_max _) (by rw [NQ.out]; exact take12 _) (cut_max _) NP.out NQ.out rfl (cols_of S5.out.o3) S5.out.o2_ S5.out.o1 S5.out.env
    rw [KA.out] at q6
    rw [EA.out] at q6
    refine q6.mono ?_
    rintro en w6 ⟨rfl, b6⟩
    have S6 := Lib.hid (S5.out.step b6)
    clear b6 q6
    go_wp2_with fail
    have q7 := rowKey_any _ P Q Z nP cP nQ cQ _ cZ _ _ _ _ (cutR_1200 _) (by rw [NP.out]; exact cols_max _) (by rw [NQ.out]; exact take12 _) (cut_max _) NP.out NQ.out rfl (cols_of S6.out.o3) S6.out.o2_ S6.out.o0 S6.out.env
    rw [KB.out] at q7
    rw [EB.out] at q7
    refine q7.mono ?_
    rintro en w7 ⟨rfl, b7⟩
    have S7 := Lib.hid (S6.out.step b7)
    clear b7 q7
    go_wp2_with fail
    go_ret
    exact ⟨rfl, HB0.out.trans (S7.out.bel.mono HB0.out.size)⟩
set_option maxRecDepth 100000 in
set_option maxHeartbeats 2000000 in
theorem rowKeyed_lt (A : Option Addr) (n1 c1 : Nat) (la : List Col) (B : Option Addr) (n2 c2 : Nat) (lb : List Int) (C : Option Addr) (n3 c3 : Nat) (lc : List Cl) (D : Option Addr) (n4 c4 : Nat) (ld : List Cl) (w : World) (hA : n1 ≤ c1) (kA : c1 ≤ maxLen) (lA : la.length = n1) (eA : Ext w w.heap.size A (colsV la)) (hB : n2 ≤ c2) (kB : c2 ≤ maxLen) (lB : lb.length = n2) (eB : Ext w w.heap.size B (intV lb)) (hC : n3 ≤ c3) (kC : c3 ≤ maxLen) (lC : lc.length = n3) (eC : Ext w w.heap.size C (rowV lc)) (iC : ∀ c ∈ lc, ClIn c) (hD : n4 ≤ c4) (kD : c4 ≤ maxLen) (lD : ld.length = n4) (eD : Ext w w.heap.size D (rowV ld)) (iD : ∀ c ∈ ld, ClIn c) (hE : Env w) (hx : rKeyE ((la.take 40).map colTy) (cutR lc) (lb.take 12) = 0) (hy : rKeyE ((la.take 40).map colTy) (cutR ld) (lb.take 12) = 0) (hn : rCmp (rPickL (cutR lc) (lb.take 12)) (rPickL (cutR ld) (lb.take 12)) = -1) :
    Calls Tryz.prog 19 #[.slice A n1 c1, .slice B n2 c2, .agg #[.slice C n3 c3, .slice D n4 c4]] w fun e w' => e = .returned (.bool true) ∧ Below w.heap.size w w' := by
  obtain ⟨KX, hKX⟩ : ∃ K : ByteArray, (⟨(rKey ((la.take 40).map colTy) (cutR lc) (lb.take 12)).toArray⟩ : ByteArray) = K := ⟨_, rfl⟩
  obtain ⟨KY, hKY⟩ : ∃ K : ByteArray, (⟨(rKey ((la.take 40).map colTy) (cutR ld) (lb.take 12)).toArray⟩ : ByteArray) = K := ⟨_, rfl⟩
  obtain ⟨g1, g2, g3, g4⟩ := key_parts hx
  obtain ⟨i1, i2, i3, i4⟩ := key_parts hy
  have hcmp := keys_cmp ((la.take 40).map colTy) (cutR lc) (cutR ld) g1 i1 g2 i2 (lb.take 12) (by rw [g1]; exact g3)
  rw [hn] at hcmp
  have hxl : KX.data.toList = rKeyL ((la.take 40).map colTy) (cutR lc) (lb.take 12) := by rw [← hKX, g4]
  have hyl : KY.data.toList = rKeyL ((la.take 40).map colTy) (cutR ld) (lb.take 12) := by rw [← hKY, i4]
  have hne : ¬ KX.data.toList = KY.data.toList := by rw [hxl, hyl]; intro e; rw [e, cb_self] at hcmp; omega
  have q0 : Op.bytesLess KX.toList KY.toList = true := by rw [Lib.toList_data, Lib.toList_data, bl_cb, hxl, hyl, hcmp]; rfl
  have q1 : (KX.toList == KY.toList) = false := by rw [Lib.toList_data, Lib.toList_data, beq_eq_false_iff_ne]; exact hne
  have q2 : ¬ KX.toList = KY.toList := by rw [Lib.toList_data, Lib.toList_data]; exact hne
  clear hxl hyl hne
  have KA := Lib.hid hKX; have KB := Lib.hid hKY; have EA := Lib.hid hx; have EB := Lib.hid hy; have HN := Lib.hid hn
  have I1 := Lib.hid (key_back hx).2.2.1; have P1 := Lib.hid (key_back hx).2.2.2
  have I2 := Lib.hid (key_back hy).2.2.1; have P2 := Lib.hid (key_back hy).2.2.2
  clear hKX hKY hx hy hn hcmp g1 g2 g3 g4 i1 i2 i3 i4
  obtain ⟨V, hV⟩ : ∃ V, (w.alloc (.cells #[.slice C n3 c3, .slice D n4 c4] 39)) = V := ⟨_, rfl⟩
  have hb0 : Below w.heap.size w V := by rw [← hV]; exact (Below.refl _ _).alloc (Nat.le_refl _) _
  have hbk : V.heap[w.heap.size]? = some (.cells #[.slice C n3 c3, .slice D n4 c4] 39 (0, 0)) := by rw [← hV]; exact heap_alloc_new w _
  have s0 : YSt V [(A, colsV la), (B, intV lb), (C, rowV lc), (D, rowV ld)] [] V := ⟨Below.refl _ _, fun o ho => (by simp only [List.mem_cons, List.not_mem_nil, or_false] at ho; rcases ho with rfl | rfl | rfl | rfl; exact (eA.keep hb0).more hb0.size; exact (eB.keep hb0).more hb0.size; exact (eC.keep hb0).more hb0.size; exact (eD.keep hb0).more hb0.size), fun o ho => (by cases ho), hE.below hb0⟩
  have S0 := Lib.hid s0; have HV := Lib.hid hV; have HBK := Lib.hid hbk; have HB0 := Lib.hid hb0
  have LA := Lib.hid lA; have LB := Lib.hid lB; have LC := Lib.hid lC; have IC := Lib.hid iC; have LD := Lib.hid lD; have ID := Lib.hid iD
  clear s0 hV hb0 hbk hE eA eB eC eD iC iD lA lB lC lD
  have lw : w.heap.size < V.heap.size := (Array.getElem?_eq_some_iff.1 HBK.out).1
  unfold maxLen at kA kB kC kD
  go_enter Tryz.func19, Tryz.ntmps19
  go_wp2_with fail
  rw [HV.out]
  refine (rworks_any _ S0.out.env).mono ?_
  rintro en w1 ⟨rfl, b1⟩
  have S1 := Lib.hid (S0.out.step b1)
  clear b1
  go_wp2_with fail
  refine (lcols_at _ A n1 c1 la hA kA LA.out S1.out.e0).mono ?_
  rintro en w2 ⟨P, nP, cP, rfl, lnP, l2, b2⟩
  have S2 := Lib.hid ((S1.out.step b2).push l2)
  have NP := Lib.hid lnP
  clear l2 b2 lnP
  go_wp2_with fail
  refine (lfew_at _ B n2 c2 lb hB kB LB.out S2.out.e1).mono ?_
  rintro en w3 ⟨Q, nQ, cQ, rfl, lnQ, l3, b3⟩
  have S3 := Lib.hid ((S2.out.step b3).push l3)
  have NQ := Lib.hid lnQ
  clear l3 b3 lnQ
  go_wp2_with fail
  have hk3 := (S3.out.bel.block _ lw).trans HBK.out
  have hS : (w3.drew.cell? ⟨w.heap.size, 0, none⟩ = some (.slice C n3 c3) ∧ w3.drew.cell? ⟨w.heap.size, 1, none⟩ = some (.slice D n4 c4)) ∧ Below w3.heap.size w3 w3.drew := ⟨⟨by show w3.cell? _ = _; rw [Lib.cell_of_heap hk3]; rfl, by show w3.cell? _ = _; rw [Lib.cell_of_heap hk3]; rfl⟩, ms_drewN (Below.refl _ _) 1⟩
  have CUTC := Lib.hid (fun W (h : Below w3.heap.size w3 W) => lcut_at W C n3 c3 lc (Nat.le_trans hC kC) LC.out (S3.out.step h).e2 IC.out)
  have CUTD := Lib.hid (fun W (h : Below w3.heap.size w3 W) => lcut_at W D n4 c4 ld (Nat.le_trans hD kD) LD.out (S3.out.step h).e3 ID.out)
  have HS := Lib.hid hS
  clear hS hk3
  go_cut [7, 8] (fun s7 s8 wx => ∃ (R : Option Addr) (cR : Nat) (Z : Option Addr) (cZ : Nat), s7 = .slice R (cutR lc).length cR ∧ s8 = .slice Z (cutR ld).length cZ ∧ Hid (YSt V [(A, colsV la), (B, intV lb), (C, rowV lc), (D, rowV ld)] [(Z, rowV (cutR ld)), (R, rowV (cutR lc)), (Q, intV (lb.take 12)), (P, colsV (la.take 40))] wx))
  case first =>
    go_region_held3 (fun w' => (w'.cell? ⟨w.heap.size, 0, none⟩ = some (.slice C n3 c3) ∧ w'.cell? ⟨w.heap.size, 1, none⟩ = some (.slice D n4 c4)) ∧ Below w3.heap.size w3 w')
      (first
        | with_reducible exact HS.out
        | with_reducible exact ykeep2 HS.out bb
        | with_reducible exact ykeep2 (by assumption) bb
        | (go_keep; done))
      ((first
        | ((with_reducible refine (CUTC.out _ ?_).mono ?_); exact (And.right (by assumption)); rintro en w4 ⟨R, cR, rfl, l4, bb⟩; (first | have SC := Lib.hid ((SD.out.step bb).push l4) | have SC := Lib.hid ((S3.out.step ((ms_drewN (Below.refl _ _) 1).trans bb)).push l4)); clear l4)
        | ((with_reducible refine (CUTD.out _ ?_).mono ?_); exact (And.right (by assumption)); rintro en w5 ⟨Z, cZ, rfl, l5, bb⟩; (first | have SD := Lib.hid ((SC.out.step bb).push l5) | have SD := Lib.hid ((S3.out.step ((ms_drewN (Below.refl _ _) 1).trans bb)).push l5)); clear l5)))
    all_goals
      go_wp2_with fail
      go_meet
      first
      | exact ⟨R, cR, Z, cZ, rfl, rfl, SD⟩
      | exact ⟨R, cR, Z, cZ, rfl, rfl, Lib.hid SC.out.swap⟩
  case rest =>
    obtain ⟨R, cR, Z, cZ, rfl, rfl, S5⟩ := hcut
    clear CUTC CUTD HS
    go_wp2_with fail
    have q6 := rowKey_any _ P Q R nP cP nQ cQ _ cR _ _ _ _ (cutR_1200 _) (by rw [NP.out]; exact cols_max _) (by rw [NQ.out]; exact take12 _) (cut_max _) NP.out NQ.out rfl (cols_of S5.out.o3) S5.out.o2_ S5.out.o1 S5.out.env
    rw [KA.out] at q6
    rw [EA.out] at q6
    refine q6.mono ?_
    rintro en w6 ⟨rfl, b6⟩
    have S6 := Lib.hid (S5.out.step b6)
    clear b6 q6
    go_wp2_with fail
    have q7 := rowKey_any _ P Q Z nP cP nQ cQ _ cZ _ _ _ _ (cutR_1200 _) (by rw [NP.out]; exact cols_max _) (by rw [NQ.out]; exact take12 _) (cut_max _) NP.out NQ.out rfl (cols_of S6.out.o3) S6.out.o2_ S6.out.o0 S6.out.env
    rw [KB.out] at q7
    rw [EB.out] at q7
    refine q7.mono ?_
    rintro en w7 ⟨rfl, b7⟩
    have S7 := Lib.hid (S6.out.step b7)
    clear b7 q7
    go_wp2_with fail
    have q8 := rowPick_any w7 R Q _ cR nQ cQ _ _ (by have := cutR_len lc; omega) (by have := take12 lb; have := NQ.out; omega) rfl NQ.out S7.out.o1 S7.out.o2_
    rw [I1.out, P1.out] at q8
    refine q8.mono ?_
    rintro en w8 ⟨v8, rfl, o8, b8⟩
    obtain ⟨U, cU, rfl, _⟩ := yown_slice o8
    have S8 := Lib.hid ((S7.out.step b8).push o8.lay.2)
    clear o8 b8 q8
    go_wp2_with fail
    have q9 := rowPick_any w8 Z Q _ cZ nQ cQ _ _ (by have := cutR_len ld; omega) (by have := take12 lb; have := NQ.out; omega) rfl NQ.out S8.out.o1 S8.out.o3
    rw [I2.out, P2.out] at q9
    refine q9.mono ?_
    rintro en w9 ⟨v9, rfl, o9, b9⟩
    obtain ⟨Y, cY, rfl, _⟩ := yown_slice o9
    have S9 := Lib.hid ((S8.out.step b9).push o9.lay.2)
    clear o9 b9 q9
    go_wp2_with fail
    have q10 := rowCompare_any w9 U Y _ cU _ cY _ _ (pickL_max _ _) (pickL_max _ _) rfl rfl S9.out.o1 S9.out.o0
    rw [HN.out] at q10
    refine q10.mono ?_
    rintro en w10 ⟨rfl, b10⟩
    have S10 := Lib.hid (S9.out.step b10)
    clear b10 q10
    go_wp2_with fail
    go_ret
    exact ⟨rfl, HB0.out.trans (S10.out.bel.mono HB0.out.size)⟩
set_option maxRecDepth 100000 in
set_option maxHeartbeats 2000000 in
theorem rowKeyed_eq (A : Option Addr) (n1 c1 : Nat) (la : List Col) (B : Option Addr) (n2 c2 : Nat) (lb : List Int) (C : Option Addr) (n3 c3 : Nat) (lc : List Cl) (D : Option Addr) (n4 c4 : Nat) (ld : List Cl) (w : World) (hA : n1 ≤ c1) (kA : c1 ≤ maxLen) (lA : la.length = n1) (eA : Ext w w.heap.size A (colsV la)) (hB : n2 ≤ c2) (kB : c2 ≤ maxLen) (lB : lb.length = n2) (eB : Ext w w.heap.size B (intV lb)) (hC : n3 ≤ c3) (kC : c3 ≤ maxLen) (lC : lc.length = n3) (eC : Ext w w.heap.size C (rowV lc)) (iC : ∀ c ∈ lc, ClIn c) (hD : n4 ≤ c4) (kD : c4 ≤ maxLen) (lD : ld.length = n4) (eD : Ext w w.heap.size D (rowV ld)) (iD : ∀ c ∈ ld, ClIn c) (hE : Env w) (hx : rKeyE ((la.take 40).map colTy) (cutR lc) (lb.take 12) = 0) (hy : rKeyE ((la.take 40).map colTy) (cutR ld) (lb.take 12) = 0) (hn : rCmp (rPickL (cutR lc) (lb.take 12)) (rPickL (cutR ld) (lb.take 12)) = 0) :
    Calls Tryz.prog 19 #[.slice A n1 c1, .slice B n2 c2, .agg #[.slice C n3 c3, .slice D n4 c4]] w fun e w' => e = .returned (.bool true) ∧ Below w.heap.size w w' := by
  obtain ⟨KX, hKX⟩ : ∃ K : ByteArray, (⟨(rKey ((la.take 40).map colTy) (cutR lc) (lb.take 12)).toArray⟩ : ByteArray) = K := ⟨_, rfl⟩
  obtain ⟨KY, hKY⟩ : ∃ K : ByteArray, (⟨(rKey ((la.take 40).map colTy) (cutR ld) (lb.take 12)).toArray⟩ : ByteArray) = K := ⟨_, rfl⟩
  obtain ⟨g1, g2, g3, g4⟩ := key_parts hx
  obtain ⟨i1, i2, i3, i4⟩ := key_parts hy
  have hcmp := keys_cmp ((la.take 40).map colTy) (cutR lc) (cutR ld) g1 i1 g2 i2 (lb.take 12) (by rw [g1]; exact g3)
  rw [hn] at hcmp
  have hKK : KX = KY := by rw [← hKX, ← hKY, g4, i4, cb_zero hcmp]
  subst hKK
  have q0 : Op.bytesLess KX.toList KX.toList = false := by rw [Lib.toList_data, bl_cb, cb_self]; rfl
  have KA := Lib.hid hKX; have KB := Lib.hid hKY; have EA := Lib.hid hx; have EB := Lib.hid hy; have HN := Lib.hid hn
  have I1 := Lib.hid (key_back hx).2.2.1; have P1 := Lib.hid (key_back hx).2.2.2
  have I2 := Lib.hid (key_back hy).2.2.1; have P2 := Lib.hid (key_back hy).2.2.2
  clear hKX hKY hx hy hn hcmp g1 g2 g3 g4 i1 i2 i3 i4
  obtain ⟨V, hV⟩ : ∃ V, (w.alloc (.cells #[.slice C n3 c3, .slice D n4 c4] 39)) = V := ⟨_, rfl⟩
  have hb0 : Below w.heap.size w V := by rw [← hV]; exact (Below.refl _ _).alloc (Nat.le_refl _) _
  have hbk : V.heap[w.heap.size]? = some (.cells #[.slice C n3 c3, .slice D n4 c4] 39 (0, 0)) := by rw [← hV]; exact heap_alloc_new w _
  have s0 : YSt V [(A, colsV la), (B, intV lb), (C, rowV lc), (D, rowV ld)] [] V := ⟨Below.refl _ _, fun o ho => (by simp only [List.mem_cons, List.not_mem_nil, or_false] at ho; rcases ho with rfl | rfl | rfl | rfl; exact (eA.keep hb0).more hb0.size; exact (eB.keep hb0).more hb0.size; exact (eC.keep hb0).more hb0.size; exact (eD.keep hb0).more hb0.size), fun o ho => (by cases ho), hE.below hb0⟩
  have S0 := Lib.hid s0; have HV := Lib.hid hV; have HBK := Lib.hid hbk; have HB0 := Lib.hid hb0
  have LA := Lib.hid lA; have LB := Lib.hid lB; have LC := Lib.hid lC; have IC := Lib.hid iC; have LD := Lib.hid lD; have ID := Lib.hid iD
  clear s0 hV hb0 hbk hE eA eB eC eD iC iD lA lB lC lD
  have lw : w.heap.size < V.heap.size := (Array.getElem?_eq_some_iff.1 HBK.out).1
  unfold maxLen at kA kB kC kD
  go_enter Tryz.func19, Tryz.ntmps19
  go_wp2_with fail
  rw [HV.out]
  refine (rworks_any _ S0.out.env).mono ?_
  rintro en w1 ⟨rfl, b1⟩
  have S1 := Lib.hid (S0.out.step b1)
  clear b1
  go_wp2_with fail
  refine (lcols_at _ A n1 c1 la hA kA LA.out S1.out.e0).mono ?_
  rintro en w2 ⟨P, nP, cP, rfl, lnP, l2, b2⟩
  have S2 := Lib.hid ((S1.out.step b2).push l2)
  have NP := Lib.hid lnP
  clear l2 b2 lnP
  go_wp2_with fail
  refine (lfew_at _ B n2 c2 lb hB kB LB.out S2.out.e1).mono ?_
  rintro en w3 ⟨Q, nQ, cQ, rfl, lnQ, l3, b3⟩
  have S3 := Lib.hid ((S2.out.step b3).push l3)
  have NQ := Lib.hid lnQ
  clear l3 b3 lnQ
  go_wp2_with fail
  have hk3 := (S3.out.bel.block _ lw).trans HBK.out
  have hS : (w3.drew.cell? ⟨w.heap.size, 0, none⟩ = some (.slice C n3 c3) ∧ w3.drew.cell? ⟨w.heap.size, 1, none⟩ = some (.slice D n4 c4)) ∧ Below w3.heap.size w3 w3.drew := ⟨⟨by show w3.cell? _ = _; rw [Lib.cell_of_heap hk3]; rfl, by show w3.cell? _ = _; rw [Lib.cell_of_heap hk3]; rfl⟩, ms_drewN (Below.refl _ _) 1⟩
  have CUTC := Lib.hid (fun W (h : Below w3.heap.size w3 W) => lcut_at W C n3 c3 lc (Nat.le_trans hC kC) LC.out (S3.out.step h).e2 IC.out)
  have CUTD := Lib.hid (fun W (h : Below w3.heap.size w3 W) => lcut_at W D n4 c4 ld (Nat.le_trans hD kD) LD.out (S3.out.step h).e3 ID.out)
  have HS := Lib.hid hS
  clear hS hk3
  go_cut [7, 8] (fun s7 s8 wx => ∃ (R : Option Addr) (cR : Nat) (Z : Option Addr) (cZ : Nat), s7 = .slice R (cutR lc).length cR ∧ s8 = .slice Z (cutR ld).length cZ ∧ Hid (YSt V [(A, colsV la), (B, intV lb), (C, rowV lc), (D, rowV ld)] [(Z, rowV (cutR ld)), (R, rowV (cutR lc)), (Q, intV (lb.take 12)), (P, colsV (la.take 40))] wx))
  case first =>
    go_region_held3 (fun w' => (w'.cell? ⟨w.heap.size, 0, none⟩ = some (.slice C n3 c3) ∧ w'.cell? ⟨w.heap.size, 1, none⟩ = some (.slice D n4 c4)) ∧ Below w3.heap.size w3 w')
      (first
        | with_reducible exact HS.out
        | with_reducible exact ykeep2 HS.out bb
        | with_reducible exact ykeep2 (by assumption) bb
        | (go_keep; done))
      ((first
        | ((with_reducible refine (CUTC.out _ ?_).mono ?_); exact (And.right (by assumption)); rintro en w4 ⟨R, cR, rfl, l4, bb⟩; (first | have SC := Lib.hid ((SD.out.step bb).push l4) | have SC := Lib.hid ((S3.out.step ((ms_drewN (Below.refl _ _) 1).trans bb)).push l4)); clear l4)
        | ((with_reducible refine (CUTD.out _ ?_).mono ?_); exact (And.right (by assumption)); rintro en w5 ⟨Z, cZ, rfl, l5, bb⟩; (first | have SD := Lib.hid ((SC.out.step bb).push l5) | have SD := Lib.hid ((S3.out.step ((ms_drewN (Below.refl _ _) 1).trans bb)).push l5)); clear l5)))
    all_goals
      go_wp2_with fail
      go_meet
      first
      | exact ⟨R, cR, Z, cZ, rfl, rfl, SD⟩
      | exact ⟨R, cR, Z, cZ, rfl, rfl, Lib.hid SC.out.swap⟩
  case rest =>
    obtain ⟨R, cR, Z, cZ, rfl, rfl, S5⟩ := hcut
    clear CUTC CUTD HS
    go_wp2_with fail
    have q6 := rowKey_any _ P Q R nP cP nQ cQ _ cR _ _ _ _ (cutR_1200 _) (by rw [NP.out]; exact cols_max _) (by rw [NQ.out]; exact take12 _) (cut_max _) NP.out NQ.out rfl (cols_of S5.out.o3) S5.out.o2_ S5.out.o1 S5.out.env
    rw [KA.out] at q6
    rw [EA.out] at q6
    refine q6.mono ?_
    rintro en w6 ⟨rfl, b6⟩
    have S6 := Lib.hid (S5.out.step b6)
    clear b6 q6
    go_wp2_with fail
    have q7 := rowKey_any _ P Q Z nP cP nQ cQ _ cZ _ _ _ _ (cutR_1200 _) (by rw [NP.out]; exact cols_max _) (by rw [NQ.out]; exact take12 _) (cut_max _) NP.out NQ.out rfl (cols_of S6.out.o3) S6.out.o2_ S6.out.o0 S6.out.env
    rw [KB.out] at q7
    rw [EB.out] at q7
    refine q7.mono ?_
    rintro en w7 ⟨rfl, b7⟩
    have S7 := Lib.hid (S6.out.step b7)
    clear b7 q7
    go_wp2_with fail
    have q8 := rowPick_any w7 R Q _ cR nQ cQ _ _ (by have := cutR_len lc; omega) (by have := take12 lb; have := NQ.out; omega) rfl NQ.out S7.out.o1 S7.out.o2_
    rw [I1.out, P1.out] at q8
    refine q8.mono ?_
    rintro en w8 ⟨v8, rfl, o8, b8⟩
    obtain ⟨U, cU, rfl, _⟩ := yown_slice o8
    have S8 := Lib.hid ((S7.out.step b8).push o8.lay.2)
    clear o8 b8 q8
    go_wp2_with fail
    have q9 := rowPick_any w8 Z Q _ cZ nQ cQ _ _ (by have := cutR_len ld; omega) (by have := take12 lb; have := NQ.out; omega) rfl NQ.out S8.out.o1 S8.out.o3
    rw [I2.out, P2.out] at q9
    refine q9.mono ?_
    rintro en w9 ⟨v9, rfl, o9, b9⟩
    obtain ⟨Y, cY, rfl, _⟩ := yown_slice o9
    have S9 := Lib.hid ((S8.out.step b9).push o9.lay.2)
    clear o9 b9 q9
    go_wp2_with fail
    have q10 := rowCompare_any w9 U Y _ cU _ cY _ _ (pickL_max _ _) (pickL_max _ _) rfl rfl S9.out.o1 S9.out.o0
    rw [HN.out] at q10
    refine q10.mono ?_
    rintro en w10 ⟨rfl, b10⟩
    have S10 := Lib.hid (S9.out.step b10)
    clear b10 q10
    go_wp2_with fail
    go_ret
    exact ⟨rfl, HB0.out.trans (S10.out.bel.mono HB0.out.size)⟩
set_option maxRecDepth 100000 in
set_option maxHeartbeats 2000000 in
theorem rowKeyed_gt (A : Option Addr) (n1 c1 : Nat) (la : List Col) (B : Option Addr) (n2 c2 : Nat) (lb : List Int) (C : Option Addr) (n3 c3 : Nat) (lc : List Cl) (D : Option Addr) (n4 c4 : Nat) (ld : List Cl) (w : World) (hA : n1 ≤ c1) (kA : c1 ≤ maxLen) (lA : la.length = n1) (eA : Ext w w.heap.size A (colsV la)) (hB : n2 ≤ c2) (kB : c2 ≤ maxLen) (lB : lb.length = n2) (eB : Ext w w.heap.size B (intV lb)) (hC : n3 ≤ c3) (kC : c3 ≤ maxLen) (lC : lc.length = n3) (eC : Ext w w.heap.size C (rowV lc)) (iC : ∀ c ∈ lc, ClIn c) (hD : n4 ≤ c4) (kD : c4 ≤ maxLen) (lD : ld.length = n4) (eD : Ext w w.heap.size D (rowV ld)) (iD : ∀ c ∈ ld, ClIn c) (hE : Env w) (hx : rKeyE ((la.take 40).map colTy) (cutR lc) (lb.take 12) = 0) (hy : rKeyE ((la.take 40).map colTy) (cutR ld) (lb.take 12) = 0) (hn : rCmp (rPickL (cutR lc) (lb.take 12)) (rPickL (cutR ld) (lb.take 12)) = 1) :
    Calls Tryz.prog 19 #[.slice A n1 c1, .slice B n2 c2, .agg #[.slice C n3 c3, .slice D n4 c4]] w fun e w' => e = .returned (.bool true) ∧ Below w.heap.size w w' := by
  obtain ⟨KX, hKX⟩ : ∃ K : ByteArray, (⟨(rKey ((la.take 40).map colTy) (cutR lc) (lb.take 12)).toArray⟩ : ByteArray) = K := ⟨_, rfl⟩
  obtain ⟨KY, hKY⟩ : ∃ K : ByteArray, (⟨(rKey ((la.take 40).map colTy) (cutR ld) (lb.take 12)).toArray⟩ : ByteArray) = K := ⟨_, rfl⟩
  obtain ⟨g1, g2, g3, g4⟩ := key_parts hx
  obtain ⟨i1, i2, i3, i4⟩ := key_parts hy
  have hcmp := keys_cmp ((la.take 40).map colTy) (cutR lc) (cutR ld) g1 i1 g2 i2 (lb.take 12) (by rw [g1]; exact g3)
  rw [hn] at hcmp
  have hxl : KX.data.toList = rKeyL ((la.take 40).map colTy) (cutR lc) (lb.take 12) := by rw [← hKX, g4]
  have hyl : KY.data.toList = rKeyL ((la.take 40).map colTy) (cutR ld) (lb.take 12) := by rw [← hKY, i4]
  have hne : ¬ KX.data.toList = KY.data.toList := by rw [hxl, hyl]; intro e; rw [e, cb_self] at hcmp; omega
  have q0 : Op.bytesLess KX.toList KY.toList = false := by rw [Lib.toList_data, Lib.toList_data, bl_cb, hxl, hyl, hcmp]; rfl
  have q1 : (KX.toList == KY.toList) = false := by rw [Lib.toList_data, Lib.toList_data, beq_eq_false_iff_ne]; exact hne
  have q2 : ¬ KX.toList = KY.toList := by rw [Lib.toList_data, Lib.toList_data]; exact hne
  clear hxl hyl hne
  have KA := Lib.hid hKX; have KB := Lib.hid hKY; have EA := Lib.hid hx; have EB := Lib.hid hy; have HN := Lib.hid hn
  have I1 := Lib.hid (key_back hx).2.2.1; have P1 := Lib.hid (key_back hx).2.2.2
  have I2 := Lib.hid (key_back hy).2.2.1; have P2 := Lib.hid (key_back hy).2.2.2
  clear hKX hKY hx hy hn hcmp g1 g2 g3 g4 i1 i2 i3 i4
  obtain ⟨V, hV⟩ : ∃ V, (w.alloc (.cells #[.slice C n3 c3, .slice D n4 c4] 39)) = V := ⟨_, rfl⟩
  have hb0 : Below w.heap.size w V := by rw [← hV]; exact (Below.refl _ _).alloc (Nat.le_refl _) _
  have hbk : V.heap[w.heap.size]? = some (.cells #[.slice C n3 c3, .slice D n4 c4] 39 (0, 0)) := by rw [← hV]; exact heap_alloc_new w _
  have s0 : YSt V [(A, colsV la), (B, intV lb), (C, rowV lc), (D, rowV ld)] [] V := ⟨Below.refl _ _, fun o ho => (by simp only [List.mem_cons, List.not_mem_nil, or_false] at ho; rcases ho with rfl | rfl | rfl | rfl; exact (eA.keep hb0).more hb0.size; exact (eB.keep hb0).more hb0.size; exact (eC.keep hb0).more hb0.size; exact (eD.keep hb0).more hb0.size), fun o ho => (by cases ho), hE.below hb0⟩
  have S0 := Lib.hid s0; have HV := Lib.hid hV; have HBK := Lib.hid hbk; have HB0 := Lib.hid hb0
  have LA := Lib.hid lA; have LB := Lib.hid lB; have LC := Lib.hid lC; have IC := Lib.hid iC; have LD := Lib.hid lD; have ID := Lib.hid iD
  clear s0 hV hb0 hbk hE eA eB eC eD iC iD lA lB lC lD
  have lw : w.heap.size < V.heap.size := (Array.getElem?_eq_some_iff.1 HBK.out).1
  unfold maxLen at kA kB kC kD
  go_enter Tryz.func19, Tryz.ntmps19
  go_wp2_with fail
  rw [HV.out]
  refine (rworks_any _ S0.out.env).mono ?_
  rintro en w1 ⟨rfl, b1⟩
  have S1 := Lib.hid (S0.out.step b1)
  clear b1
  go_wp2_with fail
  refine (lcols_at _ A n1 c1 la hA kA LA.out S1.out.e0).mono ?_
  rintro en w2 ⟨P, nP, cP, rfl, lnP, l2, b2⟩
  have S2 := Lib.hid ((S1.out.step b2).push l2)
  have NP := Lib.hid lnP
  clear l2 b2 lnP
  go_wp2_with fail
  refine (lfew_at _ B n2 c2 lb hB kB LB.out S2.out.e1).mono ?_
  rintro en w3 ⟨Q, nQ, cQ, rfl, lnQ, l3, b3⟩
  have S3 := Lib.hid ((S2.out.step b3).push l3)
  have NQ := Lib.hid lnQ
  clear l3 b3 lnQ
  go_wp2_with fail
  have hk3 := (S3.out.bel.block _ lw).trans HBK.out
  have hS : (w3.drew.cell? ⟨w.heap.size, 0, none⟩ = some (.slice C n3 c3) ∧ w3.drew.cell? ⟨w.heap.size, 1, none⟩ = some (.slice D n4 c4)) ∧ Below w3.heap.size w3 w3.drew := ⟨⟨by show w3.cell? _ = _; rw [Lib.cell_of_heap hk3]; rfl, by show w3.cell? _ = _; rw [Lib.cell_of_heap hk3]; rfl⟩, ms_drewN (Below.refl _ _) 1⟩
  have CUTC := Lib.hid (fun W (h : Below w3.heap.size w3 W) => lcut_at W C n3 c3 lc (Nat.le_trans hC kC) LC.out (S3.out.step h).e2 IC.out)
  have CUTD := Lib.hid (fun W (h : Below w3.heap.size w3 W) => lcut_at W D n4 c4 ld (Nat.le_trans hD kD) LD.out (S3.out.step h).e3 ID.out)
  have HS := Lib.hid hS
  clear hS hk3
  go_cut [7, 8] (fun s7 s8 wx => ∃ (R : Option Addr) (cR : Nat) (Z : Option Addr) (cZ : Nat), s7 = .slice R (cutR lc).length cR ∧ s8 = .slice Z (cutR ld).length cZ ∧ Hid (YSt V [(A, colsV la), (B, intV lb), (C, rowV lc), (D, rowV ld)] [(Z, rowV (cutR ld)), (R, rowV (cutR lc)), (Q, intV (lb.take 12)), (P, colsV (la.take 40))] wx))
  case first =>
    go_region_held3 (fun w' => (w'.cell? ⟨w.heap.size, 0, none⟩ = some (.slice C n3 c3) ∧ w'.cell? ⟨w.heap.size, 1, none⟩ = some (.slice D n4 c4)) ∧ Below w3.heap.size w3 w')
      (first
        | with_reducible exact HS.out
        | with_reducible exact ykeep2 HS.out bb
        | with_reducible exact ykeep2 (by assumption) bb
        | (go_keep; done))
      ((first
        | ((with_reducible refine (CUTC.out _ ?_).mono ?_); exact (And.right (by assumption)); rintro en w4 ⟨R, cR, rfl, l4, bb⟩; (first | have SC := Lib.hid ((SD.out.step bb).push l4) | have SC := Lib.hid ((S3.out.step ((ms_drewN (Below.refl _ _) 1).trans bb)).push l4)); clear l4)
        | ((with_reducible refine (CUTD.out _ ?_).mono ?_); exact (And.right (by assumption)); rintro en w5 ⟨Z, cZ, rfl, l5, bb⟩; (first | have SD := Lib.hid ((SC.out.step bb).push l5) | have SD := Lib.hid ((S3.out.step ((ms_drewN (Below.refl _ _) 1).trans bb)).push l5)); clear l5)))
    all_goals
      go_wp2_with fail
      go_meet
      first
      | exact ⟨R, cR, Z, cZ, rfl, rfl, SD⟩
      | exact ⟨R, cR, Z, cZ, rfl, rfl, Lib.hid SC.out.swap⟩
  case rest =>
    obtain ⟨R, cR, Z, cZ, rfl, rfl, S5⟩ := hcut
    clear CUTC CUTD HS
    go_wp2_with fail
    have q6 := rowKey_any _ P Q R nP cP nQ cQ _ cR _ _ _ _ (cutR_1200 _) (by rw [NP.out]; exact cols_max _) (by rw [NQ.out]; exact take12 _) (cut_max _) NP.out NQ.out rfl (cols_of S5.out.o3) S5.out.o2_ S5.out.o1 S5.out.env
    rw [KA.out] at q6
    rw [EA.out] at q6
    refine q6.mono ?_
    rintro en w6 ⟨rfl, b6⟩
    have S6 := Lib.hid (S5.out.step b6)
    clear b6 q6
    go_wp2_with fail
    have q7 := rowKey_any _ P Q Z nP cP nQ cQ _ cZ _ _ _ _ (cutR_1200 _) (by rw [NP.out]; exact cols_max _) (by rw [NQ.out]; exact take12 _) (cut_max _) NP.out NQ.out rfl (cols_of S6.out.o3) S6.out.o2_ S6.out.o0 S6.out.env
    rw [KB.out] at q7
    rw [EB.out] at q7
    refine q7.mono ?_
    rintro en w7 ⟨rfl, b7⟩
    have S7 := Lib.hid (S6.out.step b7)
    clear b7 q7
    go_wp2_with fail
    have q8 := rowPick_any w7 R Q _ cR nQ cQ _ _ (by have := cutR_len lc; omega) (by have := take12 lb; have := NQ.out; omega) rfl NQ.out S7.out.o1 S7.out.o2_
    rw [I1.out, P1.out] at q8
    refine q8.mono ?_
    rintro en w8 ⟨v8, rfl, o8, b8⟩
    obtain ⟨U, cU, rfl, _⟩ := yown_slice o8
    have S8 := Lib.hid ((S7.out.step b8).push o8.lay.2)
    clear o8 b8 q8
    go_wp2_with fail
    have q9 := rowPick_any w8 Z Q _ cZ nQ cQ _ _ (by have := cutR_len ld; omega) (by have := take12 lb; have := NQ.out; omega) rfl NQ.out S8.out.o1 S8.out.o3
    rw [I2.out, P2.out] at q9
    refine q9.mono ?_
    rintro en w9 ⟨v9, rfl, o9, b9⟩
    obtain ⟨Y, cY, rfl, _⟩ := yown_slice o9
    have S9 := Lib.hid ((S8.out.step b9).push o9.lay.2)
    clear o9 b9 q9
    go_wp2_with fail
    have q10 := rowCompare_any w9 U Y _ cU _ cY _ _ (pickL_max _ _) (pickL_max _ _) rfl rfl S9.out.o1 S9.out.o0
    rw [HN.out] at q10
    refine q10.mono ?_
    rintro en w10 ⟨rfl, b10⟩
    have S10 := Lib.hid (S9.out.step b10)
    clear b10 q10
    go_wp2_with fail
    go_ret
    exact ⟨rfl, HB0.out.trans (S10.out.bel.mono HB0.out.size)⟩
theorem rowKeyed_walk (A : Option Addr) (n1 c1 : Nat) (la : List Col) (B : Option Addr) (n2 c2 : Nat) (lb : List Int) (C : Option Addr) (n3 c3 : Nat) (lc : List Cl) (D : Option Addr) (n4 c4 : Nat) (ld : List Cl) (w : World) (hA : n1 ≤ c1) (kA : c1 ≤ maxLen) (lA : la.length = n1) (eA : Ext w w.heap.size A (colsV la)) (hB : n2 ≤ c2) (kB : c2 ≤ maxLen) (lB : lb.length = n2) (eB : Ext w w.heap.size B (intV lb)) (hC : n3 ≤ c3) (kC : c3 ≤ maxLen) (lC : lc.length = n3) (eC : Ext w w.heap.size C (rowV lc)) (iC : ∀ c ∈ lc, ClIn c) (hD : n4 ≤ c4) (kD : c4 ≤ maxLen) (lD : ld.length = n4) (eD : Ext w w.heap.size D (rowV ld)) (iD : ∀ c ∈ ld, ClIn c) (hE : Env w) :
    Calls Tryz.prog 19 #[.slice A n1 c1, .slice B n2 c2, .agg #[.slice C n3 c3, .slice D n4 c4]] w fun e w' => e = .returned (.bool true) ∧ Below w.heap.size w w' := by
  by_cases hx : rKeyE ((la.take 40).map colTy) (cutR lc) (lb.take 12) = 0
  · by_cases hy : rKeyE ((la.take 40).map colTy) (cutR ld) (lb.take 12) = 0
    · have hb := rCmp_bd (rPickL (cutR lc) (lb.take 12)) (rPickL (cutR ld) (lb.take 12))
      have h3 : rCmp (rPickL (cutR lc) (lb.take 12)) (rPickL (cutR ld) (lb.take 12)) = 1 ∨ rCmp (rPickL (cutR lc) (lb.take 12)) (rPickL (cutR ld) (lb.take 12)) = 0 ∨ rCmp (rPickL (cutR lc) (lb.take 12)) (rPickL (cutR ld) (lb.take 12)) = -1 := by omega
      rcases h3 with h | h | h
      · exact rowKeyed_gt A n1 c1 la B n2 c2 lb C n3 c3 lc D n4 c4 ld w hA kA lA eA hB kB lB eB hC kC lC eC iC hD kD lD eD iD hE hx hy h
      · exact rowKeyed_eq A n1 c1 la B n2 c2 lb C n3 c3 lc D n4 c4 ld w hA kA lA eA hB kB lB eB hC kC lC eC iC hD kD lD eD iD hE hx hy h
      · exact rowKeyed_lt A n1 c1 la B n2 c2 lb C n3 c3 lc D n4 c4 ld w hA kA lA eA hB kB lB eB hC kC lC eC iC hD kD lD eD iD hE hx hy h
    · exact rowKeyed_e2 A n1 c1 la B n2 c2 lb C n3 c3 lc D n4 c4 ld w hA kA lA eA hB kB lB eB hC kC lC eC iC hD kD lD eD iD hE hx hy
  · exact rowKeyed_e1 A n1 c1 la B n2 c2 lb C n3 c3 lc D n4 c4 ld w hA kA lA eA hB kB lB eB hC kC lC eC iC hD kD lD eD iD hE hx
end Go.Proofs.YtcdmiiaamajfoaaGreatDoor
