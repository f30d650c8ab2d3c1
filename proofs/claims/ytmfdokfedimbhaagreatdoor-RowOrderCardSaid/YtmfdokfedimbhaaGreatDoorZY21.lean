/- Rows: RowOrder, walked. -/
import Derived.Test.YtmfdokfedimbhaaGreatDoorZYg
set_option linter.unusedVariables false
set_option linter.unusedSimpArgs false
namespace Go.Proofs.YtmfdokfedimbhaaGreatDoor
open Go.RowKit Go.Ms Go.Lib

set_option maxRecDepth 100000 in
set_option maxHeartbeats 2000000 in
theorem rowOrder_pos (A : Option Addr) (n1 c1 : Nat) (la : List Cl) (B : Option Addr) (n2 c2 : Nat) (lb : List Cl) (C : Option Addr) (n3 c3 : Nat) (lc : List Cl) (w : World) (hA : n1 ≤ c1) (kA : c1 ≤ maxLen) (lA : la.length = n1) (eA : Ext w w.heap.size A (rowV la)) (iA : ∀ c ∈ la, ClIn c) (hB : n2 ≤ c2) (kB : c2 ≤ maxLen) (lB : lb.length = n2) (eB : Ext w w.heap.size B (rowV lb)) (iB : ∀ c ∈ lb, ClIn c) (hC : n3 ≤ c3) (kC : c3 ≤ maxLen) (lC : lc.length = n3) (eC : Ext w w.heap.size C (rowV lc)) (iC : ∀ c ∈ lc, ClIn c) (hE : Env w) (hn : rCmp (cutR la) (cutR lb) = 1) :
    Calls Tryz.prog 10 #[.slice A n1 c1, .slice B n2 c2, .slice C n3 c3] w fun e w' => e = .returned (.bool true) ∧ Below w.heap.size w w' := by
  have s0 : YSt w [(A, rowV la), (B, rowV lb), (C, rowV lc)] [] w := ⟨Below.refl _ _, fun o ho => (by simp only [List.mem_cons, List.not_mem_nil, or_false] at ho; rcases ho with rfl | rfl | rfl <;> assumption), fun o ho => (by cases ho), hE⟩
  have S0 := Lib.hid s0
  have IA := Lib.hid iA; have IB := Lib.hid iB; have IC := Lib.hid iC; have LA := Lib.hid lA; have LB := Lib.hid lB; have LC := Lib.hid lC
  have HNN := Lib.hid hn
  clear s0 hE eA eB eC iA iB iC lA lB lC hn
  unfold maxLen at kA kB kC
  go_enter Tryz.func10, Tryz.ntmps10
  go_wp2_with fail
  refine (lcut_at _ A n1 c1 la (Nat.le_trans hA kA) LA.out S0.out.e0 IA.out).mono ?_
  rintro en w1 ⟨P, cP, rfl, l1, b1⟩
  have S1 := Lib.hid ((S0.out.step b1).push l1)
  clear l1 b1
  go_wp2_with fail
  refine (lcut_at _ B n2 c2 lb (Nat.le_trans hB kB) LB.out S1.out.e1 IB.out).mono ?_
  rintro en w2 ⟨Q, cQ, rfl, l2, b2⟩
  have S2 := Lib.hid ((S1.out.step b2).push l2)
  clear l2 b2
  go_wp2_with fail
  refine (lcut_at _ C n3 c3 lc (Nat.le_trans hC kC) LC.out S2.out.e2 IC.out).mono ?_
  rintro en w3 ⟨R, cR, rfl, l3, b3⟩
  have S3 := Lib.hid ((S2.out.step b3).push l3)
  clear l3 b3
  go_wp2_with fail
  have q4 := rowCompare_any w3 P Q _ cP _ cQ _ _ (cut_max _) (cut_max _) rfl rfl S3.out.o2_ S3.out.o1
  rw [HNN.out] at q4
  refine q4.mono ?_
  rintro en w4 ⟨rfl, b4⟩
  have S4 := Lib.hid (S3.out.step b4)
  clear b4 q4
  go_wp2_with fail
  have q5 := rowCompare_any w4 Q P _ cQ _ cP _ _ (cut_max _) (cut_max _) rfl rfl S4.out.o1 S4.out.o2_
  rw [rCmp_neg] at q5
  rw [HNN.out] at q5
  refine q5.mono ?_
  rintro en w5 ⟨rfl, b5⟩
  have S5 := Lib.hid (S4.out.step b5)
  clear b5 q5
  go_wp2_with fail
  have q6 := rowSame_any w5 P Q _ cP _ cQ _ _ (cut_max _) (cut_max _) rfl rfl S5.out.o2_ S5.out.o1
  rw [decide_eq_false (fun h => by have h1 := (rCmp_zero _ _).2 h; rw [HNN.out] at h1; omega)] at q6
  refine q6.mono ?_
  rintro en w6 ⟨rfl, b6⟩
  have S6 := Lib.hid (S5.out.step b6)
  clear b6 q6
  go_wp2_with fail
  have q7 := rowCompare_any w6 P P _ cP _ cP _ _ (cut_max _) (cut_max _) rfl rfl S6.out.o2_ S6.out.o2_
  rw [rCmp_self] at q7
  refine q7.mono ?_
  rintro en w7 ⟨rfl, b7⟩
  have S7 := Lib.hid (S6.out.step b7)
  clear b7 q7
  go_wp2_with fail
  refine (rworks_any _ S7.out.env).mono ?_
  rintro en w8 ⟨rfl, b8⟩
  have S8 := Lib.hid (S7.out.step b8)
  clear b8
  go_wp2_with fail
  go_ret
  exact ⟨rfl, S8.out.bel⟩
set_option maxRecDepth 100000 in
set_option maxHeartbeats 2000000 in
theorem rowOrder_zpos (A : Option Addr) (n1 c1 : Nat) (la : List Cl) (B : Option Addr) (n2 c2 : Nat) (lb : List Cl) (C : Option Addr) (n3 c3 : Nat) (lc : List Cl) (w : World) (hA : n1 ≤ c1) (kA : c1 ≤ maxLen) (lA : la.length = n1) (eA : Ext w w.heap.size A (rowV la)) (iA : ∀ c ∈ la, ClIn c) (hB : n2 ≤ c2) (kB : c2 ≤ maxLen) (lB : lb.length = n2) (eB : Ext w w.heap.size B (rowV lb)) (iB : ∀ c ∈ lb, ClIn c) (hC : n3 ≤ c3) (kC : c3 ≤ maxLen) (lC : lc.length = n3) (eC : Ext w w.heap.size C (rowV lc)) (iC : ∀ c ∈ lc, ClIn c) (hE : Env w) (hn : rCmp (cutR la) (cutR lb) = 0) (hm : rCmp (cutR lb) (cutR lc) = 1) :
    Calls Tryz.prog 10 #[.slice A n1 c1, .slice B n2 c2, .slice C n3 c3] w fun e w' => e = .returned (.bool true) ∧ Below w.heap.size w w' := by
  have s0 : YSt w [(A, rowV la), (B, rowV lb), (C, rowV lc)] [] w := ⟨Below.refl _ _, fun o ho => (by simp only [List.mem_cons, List.not_mem_nil, or_false] at ho; rcases ho with rfl | rfl | rfl <;> assumption), fun o ho => (by cases ho), hE⟩
  have S0 := Lib.hid s0
  have IA := Lib.hid iA; have IB := Lib.hid iB; have IC := Lib.hid iC; have LA := Lib.hid lA; have LB := Lib.hid lB; have LC := Lib.hid lC
  have HNN := Lib.hid hn; have HM := Lib.hid hm
  clear s0 hE eA eB eC iA iB iC lA lB lC hn hm
  unfold maxLen at kA kB kC
  go_enter Tryz.func10, Tryz.ntmps10
  go_wp2_with fail
  refine (lcut_at _ A n1 c1 la (Nat.le_trans hA kA) LA.out S0.out.e0 IA.out).mono ?_
  rintro en w1 ⟨P, cP, rfl, l1, b1⟩
  have S1 := Lib.hid ((S0.out.step b1).push l1)
  clear l1 b1
  go_wp2_with fail
  refine (lcut_at _ B n2 c2 lb (Nat.le_trans hB kB) LB.out S1.out.e1 IB.out).mono ?_
  rintro en w2 ⟨Q, cQ, rfl, l2, b2⟩
  have S2 := Lib.hid ((S1.out.step b2).push l2)
  clear l2 b2
  go_wp2_with fail
  refine (lcut_at _ C n3 c3 lc (Nat.le_trans hC kC) LC.out S2.out.e2 IC.out).mono ?_
  rintro en w3 ⟨R, cR, rfl, l3, b3⟩
  have S3 := Lib.hid ((S2.out.step b3).push l3)
  clear l3 b3
  go_wp2_with fail
  have q4 := rowCompare_any w3 P Q _ cP _ cQ _ _ (cut_max _) (cut_max _) rfl rfl S3.out.o2_ S3.out.o1
  rw [HNN.out] at q4
  refine q4.mono ?_
  rintro en w4 ⟨rfl, b4⟩
  have S4 := Lib.hid (S3.out.step b4)
  clear b4 q4
  go_wp2_with fail
  have q5 := rowCompare_any w4 Q P _ cQ _ cP _ _ (cut_max _) (cut_max _) rfl rfl S4.out.o1 S4.out.o2_
  rw [rCmp_neg] at q5
  rw [HNN.out] at q5
  refine q5.mono ?_
  rintro en w5 ⟨rfl, b5⟩
  have S5 := Lib.hid (S4.out.step b5)
  clear b5 q5
  go_wp2_with fail
  have q6 := rowSame_any w5 P Q _ cP _ cQ _ _ (cut_max _) (cut_max _) rfl rfl S5.out.o2_ S5.out.o1
  rw [decide_eq_true ((rCmp_zero _ _).1 HNN.out)] at q6
  refine q6.mono ?_
  rintro en w6 ⟨rfl, b6⟩
  have S6 := Lib.hid (S5.out.step b6)
  clear b6 q6
  go_wp2_with fail
  have q7 := rowCompare_any w6 P P _ cP _ cP _ _ (cut_max _) (cut_max _) rfl rfl S6.out.o2_ S6.out.o2_
  rw [rCmp_self] at q7
  refine q7.mono ?_
  rintro en w7 ⟨rfl, b7⟩
  have S7 := Lib.hid (S6.out.step b7)
  clear b7 q7
  go_wp2_with fail
  have q8 := rowCompare_any w7 Q R _ cQ _ cR _ _ (cut_max _) (cut_max _) rfl rfl S7.out.o1 S7.out.o0
  rw [HM.out] at q8
  refine q8.mono ?_
  rintro en w8 ⟨rfl, b8⟩
  have S8 := Lib.hid (S7.out.step b8)
  clear b8 q8
  go_wp2_with fail
  refine (rworks_any _ S8.out.env).mono ?_
  rintro en w9 ⟨rfl, b9⟩
  have S9 := Lib.hid (S8.out.step b9)
  clear b9
  go_wp2_with fail
  go_ret
  exact ⟨rfl, S9.out.bel⟩
set_option maxRecDepth 100000 in
set_option maxHeartbeats 2000000 in
theorem rowOrder_zneg (A : Option Addr) (n1 c1 : Nat) (la : List Cl) (B : Option Addr) (n2 c2 : Nat) (lb : List Cl) (C : Option Addr) (n3 c3 : Nat) (lc : List Cl) (w : World) (hA : n1 ≤ c1) (kA : c1 ≤ maxLen) (lA : la.length = n1) (eA : Ext w w.heap.size A (rowV la)) (iA : ∀ c ∈ la, ClIn c) (hB : n2 ≤ c2) (kB : c2 ≤ maxLen) (lB : lb.length = n2) (eB : Ext w w.heap.size B (rowV lb)) (iB : ∀ c ∈ lb, ClIn c) (hC : n3 ≤ c3) (kC : c3 ≤ maxLen) (lC : lc.length = n3) (eC : Ext w w.heap.size C (rowV lc)) (iC : ∀ c ∈ lc, ClIn c) (hE : Env w) (hn : rCmp (cutR la) (cutR lb) = 0) (hm : rCmp (cutR lb) (cutR lc) ≤ 0) :
    Calls Tryz.prog 10 #[.slice A n1 c1, .slice B n2 c2, .slice C n3 c3] w fun e w' => e = .returned (.bool true) ∧ Below w.heap.size w w' := by
  have s0 : YSt w [(A, rowV la), (B, rowV lb), (C, rowV lc)] [] w := ⟨Below.refl _ _, fun o ho => (by simp only [List.mem_cons, List.not_mem_nil, or_false] at ho; rcases ho with rfl | rfl | rfl <;> assumption), fun o ho => (by cases ho), hE⟩
  have S0 := Lib.hid s0
  have IA := Lib.hid iA; have IB := Lib.hid iB; have IC := Lib.hid iC; have LA := Lib.hid lA; have LB := Lib.hid lB; have LC := Lib.hid lC
  have HNN := Lib.hid hn
  have hp := rCmp_trans (cutR la) (cutR lb) (cutR lc) (by omega) hm
  obtain ⟨m, hm0⟩ : ∃ m, rCmp (cutR lb) (cutR lc) = m := ⟨_, rfl⟩
  obtain ⟨p, hp0⟩ : ∃ m, rCmp (cutR la) (cutR lc) = m := ⟨_, rfl⟩
  rw [hm0] at hm
  rw [hp0] at hp
  have hmn : ¬ 0 < m := by omega
  have HM := Lib.hid hm0; have HP := Lib.hid hp0
  clear s0 hE eA eB eC iA iB iC lA lB lC hn hm hm0 hp0
  unfold maxLen at kA kB kC
  go_enter Tryz.func10, Tryz.ntmps10
  go_wp2_with fail
  refine (lcut_at _ A n1 c1 la (Nat.le_trans hA kA) LA.out S0.out.e0 IA.out).mono ?_
  rintro en w1 ⟨P, cP, rfl, l1, b1⟩
  have S1 := Lib.hid ((S0.out.step b1).push l1)
  clear l1 b1
  go_wp2_with fail
  refine (lcut_at _ B n2 c2 lb (Nat.le_trans hB kB) LB.out S1.out.e1 IB.out).mono ?_
  rintro en w2 ⟨Q, cQ, rfl, l2, b2⟩
  have S2 := Lib.hid ((S1.out.step b2).push l2)
  clear l2 b2
  go_wp2_with fail
  refine (lcut_at _ C n3 c3 lc (Nat.le_trans hC kC) LC.out S2.out.e2 IC.out).mono ?_
  rintro en w3 ⟨R, cR, rfl, l3, b3⟩
  have S3 := Lib.hid ((S2.out.step b3).push l3)
  clear l3 b3
  go_wp2_with fail
  have q4 := rowCompare_any w3 P Q _ cP _ cQ _ _ (cut_max _) (cut_max _) rfl rfl S3.out.o2_ S3.out.o1
  rw [HNN.out] at q4
  refine q4.mono ?_
  rintro en w4 ⟨rfl, b4⟩
  have S4 := Lib.hid (S3.out.step b4)
  clear b4 q4
  go_wp2_with fail
  have q5 := rowCompare_any w4 Q P _ cQ _ cP _ _ (cut_max _) (cut_max _) rfl rfl S4.out.o1 S4.out.o2_
  rw [rCmp_neg] at q5
  rw [HNN.out] at q5
  refine q5.mono ?_
  rintro en w5 ⟨rfl, b5⟩
  have S5 := Lib.hid (S4.out.step b5)
  clear b5 q5
  go_wp2_with fail
  have q6 := rowSame_any w5 P Q _ cP _ cQ _ _ (cut_max _) (cut_max _) rfl rfl S5.out.o2_ S5.out.o1
  rw [decide_eq_true ((rCmp_zero _ _).1 HNN.out)] at q6
  refine q6.mono ?_
  rintro en w6 ⟨rfl, b6⟩
  have S6 := Lib.hid (S5.out.step b6)
  clear b6 q6
  go_wp2_with fail
  have q7 := rowCompare_any w6 P P _ cP _ cP _ _ (cut_max _) (cut_max _) rfl rfl S6.out.o2_ S6.out.o2_
  rw [rCmp_self] at q7
  refine q7.mono ?_
  rintro en w7 ⟨rfl, b7⟩
  have S7 := Lib.hid (S6.out.step b7)
  clear b7 q7
  go_wp2_with fail
  have q8 := rowCompare_any w7 Q R _ cQ _ cR _ _ (cut_max _) (cut_max _) rfl rfl S7.out.o1 S7.out.o0
  rw [HM.out] at q8
  refine q8.mono ?_
  rintro en w8 ⟨rfl, b8⟩
  have S8 := Lib.hid (S7.out.step b8)
  clear b8 q8
  go_wp2_with fail
  have q9 := rowCompare_any w8 P R _ cP _ cR _ _ (cut_max _) (cut_max _) rfl rfl S8.out.o2_ S8.out.o0
  rw [HP.out] at q9
  refine q9.mono ?_
  rintro en w9 ⟨rfl, b9⟩
  have S9 := Lib.hid (S8.out.step b9)
  clear b9 q9
  go_wp2_with fail
  refine (rworks_any _ S9.out.env).mono ?_
  rintro en w10 ⟨rfl, b10⟩
  have S10 := Lib.hid (S9.out.step b10)
  clear b10
  go_wp2_with fail
  go_ret
  exact ⟨rfl, S10.out.bel⟩
set_option maxRecDepth 100000 in
set_option maxHeartbeats 2000000 in
theorem rowOrder_npos (A : Option Addr) (n1 c1 : Nat) (la : List Cl) (B : Option Addr) (n2 c2 : Nat) (lb : List Cl) (C : Option Addr) (n3 c3 : Nat) (lc : List Cl) (w : World) (hA : n1 ≤ c1) (kA : c1 ≤ maxLen) (lA : la.length = n1) (eA : Ext w w.heap.size A (rowV la)) (iA : ∀ c ∈ la, ClIn c) (hB : n2 ≤ c2) (kB : c2 ≤ maxLen) (lB : lb.length = n2) (eB : Ext w w.heap.size B (rowV lb)) (iB : ∀ c ∈ lb, ClIn c) (hC : n3 ≤ c3) (kC : c3 ≤ maxLen) (lC : lc.length = n3) (eC : Ext w w.heap.size C (rowV lc)) (iC : ∀ c ∈ lc, ClIn c) (hE : Env w) (hn : rCmp (cutR la) (cutR lb) = -1) (hm : rCmp (cutR lb) (cutR lc) = 1) :
    Calls Tryz.prog 10 #[.slice A n1 c1, .slice B n2 c2, .slice C n3 c3] w fun e w' => e = .returned (.bool true) ∧ Below w.heap.size w w' := by
  have s0 : YSt w [(A, rowV la), (B, rowV lb), (C, rowV lc)] [] w := ⟨Below.refl _ _, fun o ho => (by simp only [List.mem_cons, List.not_mem_nil, or_false] at ho; rcases ho with rfl | rfl | rfl <;> assumption), fun o ho => (by cases ho), hE⟩
  have S0 := Lib.hid s0
  have IA := Lib.hid iA; have IB := Lib.hid iB; have IC := Lib.hid iC; have LA := Lib.hid lA; have LB := Lib.hid lB; have LC := Lib.hid lC
  have HNN := Lib.hid hn; have HM := Lib.hid hm
  clear s0 hE eA eB eC iA iB iC lA lB lC hn hm
  unfold maxLen at kA kB kC
  go_enter Tryz.func10, Tryz.ntmps10
  go_wp2_with fail
  refine (lcut_at _ A n1 c1 la (Nat.le_trans hA kA) LA.out S0.out.e0 IA.out).mono ?_
  rintro en w1 ⟨P, cP, rfl, l1, b1⟩
  have S1 := Lib.hid ((S0.out.step b1).push l1)
  clear l1 b1
  go_wp2_with fail
  refine (lcut_at _ B n2 c2 lb (Nat.le_trans hB kB) LB.out S1.out.e1 IB.out).mono ?_
  rintro en w2 ⟨Q, cQ, rfl, l2, b2⟩
  have S2 := Lib.hid ((S1.out.step b2).push l2)
  clear l2 b2
  go_wp2_with fail
  refine (lcut_at _ C n3 c3 lc (Nat.le_trans hC kC) LC.out S2.out.e2 IC.out).mono ?_
  rintro en w3 ⟨R, cR, rfl, l3, b3⟩
  have S3 := Lib.hid ((S2.out.step b3).push l3)
  clear l3 b3
  go_wp2_with fail
  have q4 := rowCompare_any w3 P Q _ cP _ cQ _ _ (cut_max _) (cut_max _) rfl rfl S3.out.o2_ S3.out.o1
  rw [HNN.out] at q4
  refine q4.mono ?_
  rintro en w4 ⟨rfl, b4⟩
  have S4 := Lib.hid (S3.out.step b4)
  clear b4 q4
  go_wp2_with fail
  have q5 := rowCompare_any w4 Q P _ cQ _ cP _ _ (cut_max _) (cut_max _) rfl rfl S4.out.o1 S4.out.o2_
  rw [rCmp_neg] at q5
  rw [HNN.out] at q5
  refine q5.mono ?_
  rintro en w5 ⟨rfl, b5⟩
  have S5 := Lib.hid (S4.out.step b5)
  clear b5 q5
  go_wp2_with fail
  have q6 := rowSame_any w5 P Q _ cP _ cQ _ _ (cut_max _) (cut_max _) rfl rfl S5.out.o2_ S5.out.o1
  rw [decide_eq_false (fun h => by have h1 := (rCmp_zero _ _).2 h; rw [HNN.out] at h1; omega)] at q6
  refine q6.mono ?_
  rintro en w6 ⟨rfl, b6⟩
  have S6 := Lib.hid (S5.out.step b6)
  clear b6 q6
  go_wp2_with fail
  have q7 := rowCompare_any w6 P P _ cP _ cP _ _ (cut_max _) (cut_max _) rfl rfl S6.out.o2_ S6.out.o2_
  rw [rCmp_self] at q7
  refine q7.mono ?_
  rintro en w7 ⟨rfl, b7⟩
  have S7 := Lib.hid (S6.out.step b7)
  clear b7 q7
  go_wp2_with fail
  have q8 := rowCompare_any w7 Q R _ cQ _ cR _ _ (cut_max _) (cut_max _) rfl rfl S7.out.o1 S7.out.o0
  rw [HM.out] at q8
  refine q8.mono ?_
  rintro en w8 ⟨rfl, b8⟩
  have S8 := Lib.hid (S7.out.step b8)
  clear b8 q8
  go_wp2_with fail
  refine (rworks_any _ S8.out.env).mono ?_
  rintro en w9 ⟨rfl, b9⟩
  have S9 := Lib.hid (S8.out.step b9)
  clear b9
  go_wp2_with fail
  go_ret
  exact ⟨rfl, S9.out.bel⟩
set_option maxRecDepth 100000 in
set_option maxHeartbeats 2000000 in
theorem rowOrder_nneg (A : Option Addr) (n1 c1 : Nat) (la : List Cl) (B : Option Addr) (n2 c2 : Nat) (lb : List Cl) (C : Option Addr) (n3 c3 : Nat) (lc : List Cl) (w : World) (hA : n1 ≤ c1) (kA : c1 ≤ maxLen) (lA : la.length = n1) (eA : Ext w w.heap.size A (rowV la)) (iA : ∀ c ∈ la, ClIn c) (hB : n2 ≤ c2) (kB : c2 ≤ maxLen) (lB : lb.length = n2) (eB : Ext w w.heap.size B (rowV lb)) (iB : ∀ c ∈ lb, ClIn c) (hC : n3 ≤ c3) (kC : c3 ≤ maxLen) (lC : lc.length = n3) (eC : Ext w w.heap.size C (rowV lc)) (iC : ∀ c ∈ lc, ClIn c) (hE : Env w) (hn : rCmp (cutR la) (cutR lb) = -1) (hm : rCmp (cutR lb) (cutR lc) ≤ 0) :
    Calls Tryz.prog 10 #[.slice A n1 c1, .slice B n2 c2, .slice C n3 c3] w fun e w' => e = .returned (.bool true) ∧ Below w.heap.size w w' := by
  have s0 : YSt w [(A, rowV la), (B, rowV lb), (C, rowV lc)] [] w := ⟨Below.refl _ _, fun o ho => (by simp only [List.mem_cons, List.not_mem_nil, or_false] at ho; rcases ho with rfl | rfl | rfl <;> assumption), fun o ho => (by cases ho), hE⟩
  have S0 := Lib.hid s0
  have IA := Lib.hid iA; have IB := Lib.hid iB; have IC := Lib.hid iC; have LA := Lib.hid lA; have LB := Lib.hid lB; have LC := Lib.hid lC
  have HNN := Lib.hid hn
  have hp := rCmp_trans (cutR la) (cutR lb) (cutR lc) (by omega) hm
  obtain ⟨m, hm0⟩ : ∃ m, rCmp (cutR lb) (cutR lc) = m := ⟨_, rfl⟩
  obtain ⟨p, hp0⟩ : ∃ m, rCmp (cutR la) (cutR lc) = m := ⟨_, rfl⟩
  rw [hm0] at hm
  rw [hp0] at hp
  have hmn : ¬ 0 < m := by omega
  have HM := Lib.hid hm0; have HP := Lib.hid hp0
  clear s0 hE eA eB eC iA iB iC lA lB lC hn hm hm0 hp0
  unfold maxLen at kA kB kC
  go_enter Tryz.func10, Tryz.ntmps10
  go_wp2_with fail
  refine (lcut_at _ A n1 c1 la (Nat.le_trans hA kA) LA.out S0.out.e0 IA.out).mono ?_
  rintro en w1 ⟨P, cP, rfl, l1, b1⟩
  have S1 := Lib.hid ((S0.out.step b1).push l1)
  clear l1 b1
  go_wp2_with fail
  refine (lcut_at _ B n2 c2 lb (Nat.le_trans hB kB) LB.out S1.out.e1 IB.out).mono ?_
  rintro en w2 ⟨Q, cQ, rfl, l2, b2⟩
  have S2 := Lib.hid ((S1.out.step b2).push l2)
  clear l2 b2
  go_wp2_with fail
  refine (lcut_at _ C n3 c3 lc (Nat.le_trans hC kC) LC.out S2.out.e2 IC.out).mono ?_
  rintro en w3 ⟨R, cR, rfl, l3, b3⟩
  have S3 := Lib.hid ((S2.out.step b3).push l3)
  clear l3 b3
  go_wp2_with fail
  have q4 := rowCompare_any w3 P Q _ cP _ cQ _ _ (cut_max _) (cut_max _) rfl rfl S3.out.o2_ S3.out.o1
  rw [HNN.out] at q4
  refine q4.mono ?_
  rintro en w4 ⟨rfl, b4⟩
  have S4 := Lib.hid (S3.out.step b4)
  clear b4 q4
  go_wp2_with fail
  have q5 := rowCompare_any w4 Q P _ cQ _ cP _ _ (cut_max _) (cut_max _) rfl rfl S4.out.o1 S4.out.o2_
  rw [rCmp_neg] at q5
  rw [HNN.out] at q5
  refine q5.mono ?_
  rintro en w5 ⟨rfl, b5⟩
  have S5 := Lib.hid (S4.out.step b5)
  clear b5 q5
  go_wp2_with fail
  have q6 := rowSame_any w5 P Q _ cP _ cQ _ _ (cut_max _) (cut_max _) rfl rfl S5.out.o2_ S5.out.o1
  rw [decide_eq_false (fun h => by have h1 := (rCmp_zero _ _).2 h; rw [HNN.out] at h1; omega)] at q6
  refine q6.mono ?_
  rintro en w6 ⟨rfl, b6⟩
  have S6 := Lib.hid (S5.out.step b6)
  clear b6 q6
  go_wp2_with fail
  have q7 := rowCompare_any w6 P P _ cP _ cP _ _ (cut_max _) (cut_max _) rfl rfl S6.out.o2_ S6.out.o2_
  rw [rCmp_self] at q7
  refine q7.mono ?_
  rintro en w7 ⟨rfl, b7⟩
  have S7 := Lib.hid (S6.out.step b7)
  clear b7 q7
  go_wp2_with fail
  have q8 := rowCompare_any w7 Q R _ cQ _ cR _ _ (cut_max _) (cut_max _) rfl rfl S7.out.o1 S7.out.o0
  rw [HM.out] at q8
  refine q8.mono ?_
  rintro en w8 ⟨rfl, b8⟩
  have S8 := Lib.hid (S7.out.step b8)
  clear b8 q8
  go_wp2_with fail
  have q9 := rowCompare_any w8 P R _ cP _ cR _ _ (cut_max _) (cut_max _) rfl rfl S8.out.o2_ S8.out.o0
  rw [HP.out] at q9
  refine q9.mono ?_
  rintro en w9 ⟨rfl, b9⟩
  have S9 := Lib.hid (S8.out.step b9)
  clear b9 q9
  go_wp2_with fail
  refine (rworks_any _ S9.out.env).mono ?_
  rintro en w10 ⟨rfl, b10⟩
  have S10 := Lib.hid (S9.out.step b10)
  clear b10
  go_wp2_with fail
  go_ret
  exact ⟨rfl, S10.out.bel⟩
theorem rowOrder_walk (A : Option Addr) (n1 c1 : Nat) (la : List Cl) (B : Option Addr) (n2 c2 : Nat) (lb : List Cl) (C : Option Addr) (n3 c3 : Nat) (lc : List Cl) (w : World) (hA : n1 ≤ c1) (kA : c1 ≤ maxLen) (lA : la.length = n1) (eA : Ext w w.heap.size A (rowV la)) (iA : ∀ c ∈ la, ClIn c) (hB : n2 ≤ c2) (kB : c2 ≤ maxLen) (lB : lb.length = n2) (eB : Ext w w.heap.size B (rowV lb)) (iB : ∀ c ∈ lb, ClIn c) (hC : n3 ≤ c3) (kC : c3 ≤ maxLen) (lC : lc.length = n3) (eC : Ext w w.heap.size C (rowV lc)) (iC : ∀ c ∈ lc, ClIn c) (hE : Env w) :
    Calls Tryz.prog 10 #[.slice A n1 c1, .slice B n2 c2, .slice C n3 c3] w fun e w' => e = .returned (.bool true) ∧ Below w.heap.size w w' := by
  have hb := rCmp_bd (cutR la) (cutR lb)
  have hb2 := rCmp_bd (cutR lb) (cutR lc)
  have h3 : rCmp (cutR la) (cutR lb) = 1 ∨ rCmp (cutR la) (cutR lb) = 0 ∨ rCmp (cutR la) (cutR lb) = -1 := by omega
  rcases h3 with h | h | h
  · exact rowOrder_pos A n1 c1 la B n2 c2 lb C n3 c3 lc w hA kA lA eA iA hB kB lB eB iB hC kC lC eC iC hE h
  · by_cases hm : 0 < rCmp (cutR lb) (cutR lc)
    · exact rowOrder_zpos A n1 c1 la B n2 c2 lb C n3 c3 lc w hA kA lA eA iA hB kB lB eB iB hC kC lC eC iC hE h (by omega)
    · exact rowOrder_zneg A n1 c1 la B n2 c2 lb C n3 c3 lc w hA kA lA eA iA hB kB lB eB iB hC kC lC eC iC hE h (by omega)
  · by_cases hm : 0 < rCmp (cutR lb) (cutR lc)
    · exact rowOrder_npos A n1 c1 la B n2 c2 lb C n3 c3 lc w hA kA lA eA iA hB kB lB eB iB hC kC lC eC iC hE h (by omega)
    · exact rowOrder_nneg A n1 c1 la B n2 c2 lb C n3 c3 lc w hA kA lA eA iA hB kB lB eB iB hC kC lC eC iC hE h (by omega)
end Go.Proofs.YtmfdokfedimbhaaGreatDoor
