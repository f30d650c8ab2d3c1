/- Rows: RowKeys, walked. -/
import Derived.Test.YtcdmiiaamajfoaaGreatDoorYYg
import Derived.Lib.MinMax
import Derived.Test.YtcdmiiaamajfoaaGreatDoorYYh
set_option linter.unusedVariables false
set_option linter.unusedSimpArgs false
namespace Go.Proofs.YtcdmiiaamajfoaaGreatDoor
open Go.RowKit Go.Ms Go.Lib

set_option maxRecDepth 100000 in
set_option maxHeartbeats 2000000 in
theorem rowKeys_cut (A : Option Addr) (n1 c1 : Nat) (la : List Col) (B : Option Addr) (n2 c2 : Nat) (lb : List Int) (C : Option Addr) (n3 c3 : Nat) (lc : List Cl) (X : ByteArray) (w : World) (hA : n1 ≤ c1) (kA : c1 ≤ maxLen) (lA : la.length = n1) (eA : Ext w w.heap.size A (colsV la)) (hB : n2 ≤ c2) (kB : c2 ≤ maxLen) (lB : lb.length = n2) (eB : Ext w w.heap.size B (intV lb)) (hC : n3 ≤ c3) (kC : c3 ≤ maxLen) (lC : lc.length = n3) (eC : Ext w w.heap.size C (rowV lc)) (iC : ∀ c ∈ lc, ClIn c) (hX : X.size ≤ maxLen) (hE : Env w) (T : ByteArray) (hT : X.extract 0 (min (↑X.size : Int) 3000).toNat = T) (hTz : T.size ≤ 3000) :
    Calls Tryz.prog 17 #[.slice A n1 c1, .slice B n2 c2, .agg #[.slice C n3 c3, .string X]] w fun e w' => e = .returned (.bool true) ∧ Below w.heap.size w w' := by
  obtain ⟨V, hV⟩ : ∃ V, (w.alloc (.cells #[.slice C n3 c3, .string X] 36)) = V := ⟨_, rfl⟩
  have hb0 : Below w.heap.size w V := by rw [← hV]; exact (Below.refl _ _).alloc (Nat.le_refl _) _
  have hbk : V.heap[w.heap.size]? = some (.cells #[.slice C n3 c3, .string X] 36 (0, 0)) := by rw [← hV]; exact heap_alloc_new w _
  have s0 : YSt V [(A, colsV la), (B, intV lb), (C, rowV lc)] [] V := ⟨Below.refl _ _, fun o ho => (by simp only [List.mem_cons, List.not_mem_nil, or_false] at ho; rcases ho with rfl | rfl | rfl; exact (eA.keep hb0).more hb0.size; exact (eB.keep hb0).more hb0.size; exact (eC.keep hb0).more hb0.size), fun o ho => (by cases ho), hE.below hb0⟩
  have S0 := Lib.hid s0; have HV := Lib.hid hV; have HBK := Lib.hid hbk; have HB0 := Lib.hid hb0
  obtain ⟨ts, hts⟩ : ∃ ts, (la.take 40).map colTy = ts := ⟨_, rfl⟩
  obtain ⟨ps, hps⟩ : ∃ ps, lb.take 12 = ps := ⟨_, rfl⟩
  have HTS := Lib.hid hts; have HPS := Lib.hid hps
  clear hts hps
  have LA := Lib.hid lA; have LB := Lib.hid lB; have LC := Lib.hid lC; have IC := Lib.hid iC; have HTZ := Lib.hid hTz
  clear s0 hV hb0 hbk hE eA eB eC iC lA lB lC hTz
  have lw : w.heap.size < V.heap.size := (Array.getElem?_eq_some_iff.1 HBK.out).1
  unfold maxLen at kA kB kC hX
  have m1 : (0 : Int) ≤ min (X.size : Int) 3000 := by omega
  have m2 : min (X.size : Int) 3000 ≤ X.size := by omega
  go_enter Tryz.func17, Tryz.ntmps17
  go_wp2_with fail
  rw [HV.out]
  refine (lcols_at _ A n1 c1 la hA kA LA.out S0.out.e0).mono ?_
  rintro en w1 ⟨P, nP, cP, rfl, lnP, l1, b1⟩
  have S1 := Lib.hid ((S0.out.step b1).push l1)
  have NP := Lib.hid lnP
  clear l1 b1 lnP
  go_wp2_with fail
  refine (lfew_at _ B n2 c2 lb hB kB LB.out S1.out.e1).mono ?_
  rintro en w2 ⟨Q, nQ, cQ, rfl, lnQ, l2, b2⟩
  have S2 := Lib.hid ((S1.out.step b2).push l2)
  have NQ := Lib.hid lnQ
  clear l2 b2 lnQ
  go_wp2_with fail
  have hk2 := (S2.out.bel.block _ lw).trans HBK.out
  have hS : (w2.drew.cell? ⟨w.heap.size, 0, none⟩ = some (.slice C n3 c3) ∧ w2.drew.cell? ⟨w.heap.size, 1, none⟩ = some (.string X)) ∧ Below w2.heap.size w2 w2.drew := ⟨⟨by show w2.cell? _ = _; rw [Lib.cell_of_heap hk2]; rfl, by show w2.cell? _ = _; rw [Lib.cell_of_heap hk2]; rfl⟩, ms_drewN (Below.refl _ _) 1⟩
  have CUT := Lib.hid (fun W (h : Below w2.heap.size w2 W) => lcut_at W C n3 c3 lc (Nat.le_trans hC kC) LC.out (S2.out.step h).e2 IC.out)
  have HS := Lib.hid hS
  clear hS hk2
  go_region_held3 (fun w' => (w'.cell? ⟨w.heap.size, 0, none⟩ = some (.slice C n3 c3) ∧ w'.cell? ⟨w.heap.size, 1, none⟩ = some (.string X)) ∧ Below w2.heap.size w2 w')
    (first
      | with_reducible exact HS.out
      | with_reducible exact ykeep2 HS.out bb
      | with_reducible exact ykeep2 (by assumption) bb
      | (go_keep; done))
    (((with_reducible refine (CUT.out _ ?_).mono ?_); exact (And.right (by assumption)); rintro en w3 ⟨R, cR, rfl, l3, bb⟩; (have L3 := Lib.hid l3); clear l3))
  all_goals
    have S3 := Lib.hid ((S2.out.step (endK (by assumption))).push L3.out)
    have hk3 := (S3.out.bel.block _ lw).trans HBK.out
    have d0 : w3.cell? ⟨w.heap.size, 0, none⟩ = some (.slice C n3 c3) := by rw [Lib.cell_of_heap hk3]; rfl
    clear L3 CUT HS hk3
    go_wp2_with fail
    have q4 := rowKey_any w3 P Q R nP cP nQ cQ _ cR _ _ _ _ (cutR_1200 _) (by rw [NP.out]; exact cols_max _) (by rw [NQ.out]; exact take12 _) (cut_max _) NP.out NQ.out rfl (cols_of S3.out.o2_) S3.out.o1 S3.out.o0 S3.out.env
    rw [HTS.out] at q4
    rw [HPS.out] at q4
    refine q4.mono ?_
    rintro en w4 ⟨rfl, b4⟩
    have S4 := Lib.hid (S3.out.step b4)
    clear b4 q4
    go_wp2_with fail
    have q5 := rrowkey_any w4 P Q R nP cP nQ cQ _ cR _ _ _ _ (csOk_cut IC.out) (by rw [NP.out]; exact cols_max _) (by rw [NQ.out]; exact take12 _) (cut_max _) NP.out NQ.out rfl (cols_of S4.out.o2_) S4.out.o1 S4.out.o0
    rw [HTS.out] at q5
    rw [HPS.out] at q5
    refine q5.mono ?_
    rintro en w5 ⟨rfl, b5⟩
    have S5 := Lib.hid (S4.out.step b5)
    clear b5 q5
    go_wp2_with fail
    have q6 := rowUnkey_any w5 P Q nP cP nQ cQ _ _ _ T (by have := HTZ.out; omega) (by rw [NP.out]; exact cols_max _) (by rw [NQ.out]; exact take12 _) NP.out NQ.out (cols_of S5.out.o2_) S5.out.o1 S5.out.env
    rw [HTS.out, HPS.out] at q6
    refine q6.mono ?_
    rintro en w6 ⟨v6, rfl, o6, b6⟩
    obtain ⟨U, cU, rfl, _⟩ := yown_slice o6
    have S6 := Lib.hid ((S5.out.step b6).push o6.lay.2)
    clear o6 b6 q6
    go_wp2_with fail
    have q7 := rrowunkey_any w6 P Q nP cP nQ cQ _ _ _ T (by have := HTZ.out; omega) (by rw [NP.out]; exact cols_max _) (by rw [NQ.out]; exact take12 _) NP.out NQ.out (cols_of S6.out.o3) S6.out.o2_
    rw [HTS.out, HPS.out] at q7
    refine q7.mono ?_
    rintro en w7 ⟨v7, rfl, o7, b7⟩
    obtain ⟨Z, cZ, rfl, _⟩ := yown_slice o7
    have S7 := Lib.hid ((S6.out.step b7).push o7.lay.2)
    clear o7 b7 q7
    go_wp2_with fail
    have q8 := reqrow_any w7 U Z _ cU _ cZ _ _ (by rw [← HPS.out]; exact un_max _ _ _) (by rw [← HPS.out]; exact un_max _ _ _) rfl rfl S7.out.o1 S7.out.o0
    rw [decide_eq_true rfl] at q8
    refine q8.mono ?_
    rintro en w8 ⟨rfl, b8⟩
    have S8 := Lib.hid (S7.out.step b8)
    have hk8 := (S8.out.bel.block _ lw).trans HBK.out
    have d8 : w8.cell? ⟨w.heap.size, 0, none⟩ = some (.slice C n3 c3) := by rw [Lib.cell_of_heap hk8]; rfl
    clear b8 q8 hk8 d0
    go_wp2_with fail
    refine (lcut_at _ C n3 c3 lc (Nat.le_trans hC kC) LC.out S8.out.e2 IC.out).mono ?_
    rintro en w9 ⟨Y, cY, rfl, l9, b9⟩
    have S9 := Lib.hid ((S8.out.step b9).push l9)
    clear l9 b9 d8
    go_wp2_with fail
    have q10 := reqrow_any w9 R Y _ cR _ cY _ _ (cut_max _) (cut_max _) rfl rfl S9.out.o3 S9.out.o0
    rw [decide_eq_true rfl] at q10
    refine q10.mono ?_
    rintro en w10 ⟨rfl, b10⟩
    have S10 := Lib.hid (S9.out.step b10)
    clear b10 q10
    go_wp2_with fail
    refine (rworks_any _ S10.out.env).mono ?_
    rintro en w11 ⟨rfl, b11⟩
    have S11 := Lib.hid (S10.out.step b11)
    clear b11
    go_wp2_with fail
    go_ret
    exact ⟨rfl, HB0.out.trans (S11.out.bel.mono HB0.out.size)⟩
theorem rowKeys_walk (A : Option Addr) (n1 c1 : Nat) (la : List Col) (B : Option Addr) (n2 c2 : Nat) (lb : List Int) (C : Option Addr) (n3 c3 : Nat) (lc : List Cl) (X : ByteArray) (w : World) (hA : n1 ≤ c1) (kA : c1 ≤ maxLen) (lA : la.length = n1) (eA : Ext w w.heap.size A (colsV la)) (hB : n2 ≤ c2) (kB : c2 ≤ maxLen) (lB : lb.length = n2) (eB : Ext w w.heap.size B (intV lb)) (hC : n3 ≤ c3) (kC : c3 ≤ maxLen) (lC : lc.length = n3) (eC : Ext w w.heap.size C (rowV lc)) (iC : ∀ c ∈ lc, ClIn c) (hX : X.size ≤ maxLen) (hE : Env w) :
    Calls Tryz.prog 17 #[.slice A n1 c1, .slice B n2 c2, .agg #[.slice C n3 c3, .string X]] w fun e w' => e = .returned (.bool true) ∧ Below w.heap.size w w' :=
  rowKeys_cut A n1 c1 la B n2 c2 lb C n3 c3 lc X w hA kA lA eA hB kB lB eB hC kC lC eC iC hX hE _ rfl (by rw [ByteArray.size_extract]; omega)
end Go.Proofs.YtcdmiiaamajfoaaGreatDoor
