/- Rows: RowUnkeyed, walked. -/
import Derived.Test.YtmfdokfedimbhaaGreatDoorZYg
import Derived.Test.YtmfdokfedimbhaaGreatDoorZYh
set_option linter.unusedVariables false
set_option linter.unusedSimpArgs false
namespace Go.Proofs.YtmfdokfedimbhaaGreatDoor
open Go.RowKit Go.Ms Go.Lib

set_option maxRecDepth 100000 in
set_option maxHeartbeats 2000000 in
theorem rowUnkeyed_err (A : Option Addr) (n1 c1 : Nat) (la : List Col) (B : Option Addr) (n2 c2 : Nat) (lb : List Int) (C : Option Addr) (n3 c3 : Nat) (lc : List Cl) (w : World) (hA : n1 ≤ c1) (kA : c1 ≤ maxLen) (lA : la.length = n1) (eA : Ext w w.heap.size A (colsV la)) (hB : n2 ≤ c2) (kB : c2 ≤ maxLen) (lB : lb.length = n2) (eB : Ext w w.heap.size B (intV lb)) (hC : n3 ≤ c3) (kC : c3 ≤ maxLen) (lC : lc.length = n3) (eC : Ext w w.heap.size C (rowV lc)) (iC : ∀ c ∈ lc, ClIn c) (hE : Env w) (hx : rKeyE ((la.take 40).map colTy) (cutR lc) (lb.take 12) ≠ 0) :
    Calls Tryz.prog 5 #[.slice A n1 c1, .slice B n2 c2, .slice C n3 c3] w fun e w' => e = .returned (.bool true) ∧ Below w.heap.size w w' := by
  have s0 : YSt w [(A, colsV la), (B, intV lb), (C, rowV lc)] [] w := ⟨Below.refl _ _, fun o ho => (by simp only [List.mem_cons, List.not_mem_nil, or_false] at ho; rcases ho with rfl | rfl | rfl <;> assumption), fun o ho => (by cases ho), hE⟩
  have S0 := Lib.hid s0
  have hk0 : rKey ((la.take 40).map colTy) (cutR lc) (lb.take 12) = [] := by unfold rKey; rw [if_neg hx]
  obtain ⟨x, hx0⟩ : ∃ x, rKeyE ((la.take 40).map colTy) (cutR lc) (lb.take 12) = x := ⟨_, rfl⟩
  rw [hx0] at hx
  have hx1 : (x != 0) = true := by simpa using hx
  have HX := Lib.hid hx0; have HK := Lib.hid hk0
  clear hx0 hk0 hx
  have LA := Lib.hid lA; have LB := Lib.hid lB; have LC := Lib.hid lC; have IC := Lib.hid iC
  clear s0 hE eA eB eC iC lA lB lC
  unfold maxLen at kA kB kC
  go_enter Tryz.func5, Tryz.ntmps5
  go_wp2_with fail
  refine (lcols_at _ A n1 c1 la hA kA LA.out S0.out.e0).mono ?_
  rintro en w1 ⟨P, nP, cP, rfl, lnP, l1, b1⟩
  have S1 := Lib.hid ((S0.out.step b1).push l1)
  have NP := Lib.hid lnP
  clear l1 b1 lnP
  go_wp2_with fail
  refine (lfew_at _ B n2 c2 lb hB kB LB.out S1.out.e1).mono ?_
  rintro en w2 ⟨Q, nQ, cQ, rfl, lnQ, l2, b2⟩
  have S2 := Lib.hid ((S1.out.step b2).push l2)
  have NQ := Lib.hid lnQ
  clear l2 b2 lnQ
  go_wp2_with fail
  refine (lcut_at _ C n3 c3 lc (Nat.le_trans hC kC) LC.out S2.out.e2 IC.out).mono ?_
  rintro en w3 ⟨R, cR, rfl, l3, b3⟩
  have S3 := Lib.hid ((S2.out.step b3).push l3)
  clear l3 b3
  go_wp2_with fail
  have q4 := rowKey_any w3 P Q R nP cP nQ cQ _ cR _ _ _ _ (cutR_1200 _) (by rw [NP.out]; exact cols_max _) (by rw [NQ.out]; exact take12 _) (cut_max _) NP.out NQ.out rfl (cols_of S3.out.o2_) S3.out.o1 S3.out.o0 S3.out.env
  rw [HX.out] at q4
  rw [HK.out] at q4
  refine q4.mono ?_
  rintro en w4 ⟨rfl, b4⟩
  have S4 := Lib.hid (S3.out.step b4)
  clear b4 q4
  go_wp2_with fail
  refine (rworks_any _ S4.out.env).mono ?_
  rintro en w5 ⟨rfl, b5⟩
  have S5 := Lib.hid (S4.out.step b5)
  clear b5
  go_wp2_with fail
  go_ret
  exact ⟨rfl, S5.out.bel⟩
set_option maxRecDepth 100000 in
set_option maxHeartbeats 2000000 in
theorem rowUnkeyed_ok (A : Option Addr) (n1 c1 : Nat) (la : List Col) (B : Option Addr) (n2 c2 : Nat) (lb : List Int) (C : Option Addr) (n3 c3 : Nat) (lc : List Cl) (w : World) (hA : n1 ≤ c1) (kA : c1 ≤ maxLen) (lA : la.length = n1) (eA : Ext w w.heap.size A (colsV la)) (hB : n2 ≤ c2) (kB : c2 ≤ maxLen) (lB : lb.length = n2) (eB : Ext w w.heap.size B (intV lb)) (hC : n3 ≤ c3) (kC : c3 ≤ maxLen) (lC : lc.length = n3) (eC : Ext w w.heap.size C (rowV lc)) (iC : ∀ c ∈ lc, ClIn c) (hE : Env w) (hx : rKeyE ((la.take 40).map colTy) (cutR lc) (lb.take 12) = 0) :
    Calls Tryz.prog 5 #[.slice A n1 c1, .slice B n2 c2, .slice C n3 c3] w fun e w' => e = .returned (.bool true) ∧ Below w.heap.size w w' := by
  have s0 : YSt w [(A, colsV la), (B, intV lb), (C, rowV lc)] [] w := ⟨Below.refl _ _, fun o ho => (by simp only [List.mem_cons, List.not_mem_nil, or_false] at ho; rcases ho with rfl | rfl | rfl <;> assumption), fun o ho => (by cases ho), hE⟩
  have S0 := Lib.hid s0
  obtain ⟨h1, h2, h3, h4⟩ := key_back hx
  have hz : (rKey ((la.take 40).map colTy) (cutR lc) (lb.take 12)).length ≤ 100000 := by
    have := key_len hx
    have := take12' lb
    omega
  obtain ⟨K, hK⟩ : ∃ K : ByteArray, (⟨(rKey ((la.take 40).map colTy) (cutR lc) (lb.take 12)).toArray⟩ : ByteArray) = K := ⟨_, rfl⟩
  have hKl : K.data.toList = rKey ((la.take 40).map colTy) (cutR lc) (lb.take 12) := by rw [← hK]
  have hKz : K.size ≤ 100000 := by rw [← hK]; show (rKey ((la.take 40).map colTy) (cutR lc) (lb.take 12)).toArray.size ≤ _; rw [List.size_toArray]; exact hz
  rw [← hKl] at h1 h2
  have H1 := Lib.hid h1; have H2 := Lib.hid h2; have H3 := Lib.hid h3; have H4 := Lib.hid h4; have HX := Lib.hid hx; have HKK := Lib.hid hK; have HZ := Lib.hid hKz
  clear h1 h2 h3 h4 hx hK hKl hKz hz
  have LA := Lib.hid lA; have LB := Lib.hid lB; have LC := Lib.hid lC; have IC := Lib.hid iC
  clear s0 hE eA eB eC iC lA lB lC
  unfold maxLen at kA kB kC
  go_enter Tryz.func5, Tryz.ntmps5
  go_wp2_with fail
  refine (lcols_at _ A n1 c1 la hA kA LA.out S0.out.e0).mono ?_
  rintro en w1 ⟨P, nP, cP, rfl, lnP, l1, b1⟩
  have S1 := Lib.hid ((S0.out.step b1).push l1)
  have NP := Lib.hid lnP
  clear l1 b1 lnP
  go_wp2_with fail
  refine (lfew_at _ B n2 c2 lb hB kB LB.out S1.out.e1).mono ?_
  rintro en w2 ⟨Q, nQ, cQ, rfl, lnQ, l2, b2⟩
  have S2 := Lib.hid ((S1.out.step b2).push l2)
  have NQ := Lib.hid lnQ
  clear l2 b2 lnQ
  go_wp2_with fail
  refine (lcut_at _ C n3 c3 lc (Nat.le_trans hC kC) LC.out S2.out.e2 IC.out).mono ?_
  rintro en w3 ⟨R, cR, rfl, l3, b3⟩
  have S3 := Lib.hid ((S2.out.step b3).push l3)
  clear l3 b3
  go_wp2_with fail
  have q4 := rowKey_any w3 P Q R nP cP nQ cQ _ cR _ _ _ _ (cutR_1200 _) (by rw [NP.out]; exact cols_max _) (by rw [NQ.out]; exact take12 _) (cut_max _) NP.out NQ.out rfl (cols_of S3.out.o2_) S3.out.o1 S3.out.o0 S3.out.env
  rw [HX.out] at q4
  rw [HKK.out] at q4
  refine q4.mono ?_
  rintro en w4 ⟨rfl, b4⟩
  have S4 := Lib.hid (S3.out.step b4)
  clear b4 q4
  go_wp2_with fail
  have q5 := rowUnkey_any w4 P Q nP cP nQ cQ _ _ _ K HZ.out (by rw [NP.out]; exact cols_max _) (by rw [NQ.out]; exact take12 _) NP.out NQ.out (cols_of S4.out.o2_) S4.out.o1 S4.out.env
  rw [H2.out, H1.out] at q5
  refine q5.mono ?_
  rintro en w5 ⟨v5, rfl, o5, b5⟩
  obtain ⟨U, cU, rfl, _⟩ := yown_slice o5
  have S5 := Lib.hid ((S4.out.step b5).push o5.lay.2)
  clear o5 b5 q5
  go_wp2_with fail
  have q6 := rowPick_any w5 R Q _ cR nQ cQ _ _ (by have := cutR_len lc; omega) (by have := take12 lb; have := NQ.out; omega) rfl NQ.out S5.out.o1 S5.out.o2_
  rw [H3.out, H4.out] at q6
  refine q6.mono ?_
  rintro en w6 ⟨v6, rfl, o6, b6⟩
  obtain ⟨V, cV, rfl, _⟩ := yown_slice o6
  have S6 := Lib.hid ((S5.out.step b6).push o6.lay.2)
  clear o6 b6 q6
  go_wp2_with fail
  have q7 := reqrow_any w6 U V _ cU _ cV _ _ (pickL_max _ _) (pickL_max _ _) rfl rfl S6.out.o1 S6.out.o0
  rw [decide_eq_true rfl] at q7
  refine q7.mono ?_
  rintro en w7 ⟨rfl, b7⟩
  have S7 := Lib.hid (S6.out.step b7)
  clear b7 q7
  go_wp2_with fail
  refine (rworks_any _ S7.out.env).mono ?_
  rintro en w8 ⟨rfl, b8⟩
  have S8 := Lib.hid (S7.out.step b8)
  clear b8
  go_wp2_with fail
  go_ret
  exact ⟨rfl, S8.out.bel⟩
theorem rowUnkeyed_walk (A : Option Addr) (n1 c1 : Nat) (la : List Col) (B : Option Addr) (n2 c2 : Nat) (lb : List Int) (C : Option Addr) (n3 c3 : Nat) (lc : List Cl) (w : World) (hA : n1 ≤ c1) (kA : c1 ≤ maxLen) (lA : la.length = n1) (eA : Ext w w.heap.size A (colsV la)) (hB : n2 ≤ c2) (kB : c2 ≤ maxLen) (lB : lb.length = n2) (eB : Ext w w.heap.size B (intV lb)) (hC : n3 ≤ c3) (kC : c3 ≤ maxLen) (lC : lc.length = n3) (eC : Ext w w.heap.size C (rowV lc)) (iC : ∀ c ∈ lc, ClIn c) (hE : Env w) :
    Calls Tryz.prog 5 #[.slice A n1 c1, .slice B n2 c2, .slice C n3 c3] w fun e w' => e = .returned (.bool true) ∧ Below w.heap.size w w' := by
  by_cases h : rKeyE ((la.take 40).map colTy) (cutR lc) (lb.take 12) = 0
  · exact rowUnkeyed_ok A n1 c1 la B n2 c2 lb C n3 c3 lc w hA kA lA eA hB kB lB eB hC kC lC eC iC hE h
  · exact rowUnkeyed_err A n1 c1 la B n2 c2 lb C n3 c3 lc w hA kA lA eA hB kB lB eB hC kC lC eC iC hE h
end Go.Proofs.YtmfdokfedimbhaaGreatDoor
