/- Rows: RowCompares, walked. -/
import Derived.Test.YtcdmiiaamajfoaaGreatDoorYYg
set_option linter.unusedVariables false
set_option linter.unusedSimpArgs false
namespace Go.Proofs.YtcdmiiaamajfoaaGreatDoor
open Go.RowKit Go.Ms Go.Lib
set_option maxRecDepth 100000 in
set_option maxHeartbeats 2000000 in
theorem rowCompares_walk (A : Option Addr) (n1 c1 : Nat) (la : List Cl) (B : Option Addr) (n2 c2 : Nat) (lb : List Cl) (w : World) (hA : n1 ≤ c1) (kA : c1 ≤ maxLen) (lA : la.length = n1) (eA : Ext w w.heap.size A (rowV la)) (iA : ∀ c ∈ la, ClIn c) (hB : n2 ≤ c2) (kB : c2 ≤ maxLen) (lB : lb.length = n2) (eB : Ext w w.heap.size B (rowV lb)) (iB : ∀ c ∈ lb, ClIn c) (hE : Env w) :
    Calls Tryz.prog 18 #[.slice A n1 c1, .slice B n2 c2] w fun e w' => e = .returned (.bool true) ∧ Below w.heap.size w w' := by
  have s0 : YSt w [(A, rowV la), (B, rowV lb)] [] w := ⟨Below.refl _ _, fun o ho => (by simp only [List.mem_cons, List.not_mem_nil, or_false] at ho; rcases ho with rfl | rfl <;> assumption), fun o ho => (by cases ho), hE⟩
  have S0 := Lib.hid s0
  have IA := Lib.hid iA; have IB := Lib.hid iB; have LA := Lib.hid lA; have LB := Lib.hid lB
  clear s0 hE eA eB iA iB lA lB
  unfold maxLen at kA kB
  go_enter Tryz.func18, Tryz.ntmps18
  go_wp2_with fail
  refine (lcut_at _ A n1 c1 la (Nat.le_trans hA kA) LA.out S0.out.e0 IA.out).mono ?_
  rintro en w1 ⟨P, cP, rfl, l1, b1⟩
  have S1 := Lib.hid ((S0.out.step b1).push l1)
  clear l1 b1
  go_wp2_with fail
  refine (lcut_at _ B n2 c2 lb (Nat.le_trans hB kB) LB.out S1.out.e1 IB.out).mono ?_
  rintro en w2 ⟨Q, cQ, rfl, l2, b2⟩
  have S2 := Lib.hid ((S1.out.step b2).push l2)
  clear l2 b2
  go_wp2_with fail
  refine (rowCompare_any _ P Q _ cP _ cQ _ _ (cut_max _) (cut_max _) rfl rfl S2.out.o1 S2.out.o0).mono ?_
  rintro en w3 ⟨rfl, b3⟩
  have S3 := Lib.hid (S2.out.step b3)
  clear b3
  go_wp2_with fail
  refine (rrowcompare_any _ P Q _ cP _ cQ _ _ (cut_max _) (cut_max _) rfl rfl S3.out.o1 S3.out.o0).mono ?_
  rintro en w4 ⟨rfl, b4⟩
  have S4 := Lib.hid (S3.out.step b4)
  clear b4
  go_wp2_with fail
  refine (rowSame_any _ P Q _ cP _ cQ _ _ (cut_max _) (cut_max _) rfl rfl S4.out.o1 S4.out.o0).mono ?_
  rintro en w5 ⟨rfl, b5⟩
  have S5 := Lib.hid (S4.out.step b5)
  clear b5
  go_wp2_with fail
  refine (reqrow_any _ P Q _ cP _ cQ _ _ (cut_max _) (cut_max _) rfl rfl S5.out.o1 S5.out.o0).mono ?_
  rintro en w6 ⟨rfl, b6⟩
  have S6 := Lib.hid (S5.out.step b6)
  clear b6
  go_wp2_with fail
  refine (lcut_at _ P _ cP (cutR la) (cut_max _) rfl S6.out.o1.ext (cutR_in IA.out)).mono ?_
  rintro en w7 ⟨R, cR, rfl, l7, b7⟩
  rw [cutR_idem] at l7 ⊢
  have S7 := Lib.hid ((S6.out.step b7).push l7)
  clear l7 b7
  go_wp2_with fail
  have hs := rowSame_any w7 P R _ cP _ cR _ _ (cut_max _) (cut_max _) rfl rfl S7.out.o2_ S7.out.o0
  rw [decide_eq_true rfl] at hs
  refine hs.mono ?_
  rintro en w8 ⟨rfl, b8⟩
  have S8 := Lib.hid (S7.out.step b8)
  clear hs b8
  go_wp2_with fail
  refine (rworks_any _ S8.out.env).mono ?_
  rintro en w9 ⟨rfl, b9⟩
  have S9 := Lib.hid (S8.out.step b9)
  clear b9
  go_wp2_with fail
  go_ret
  exact ⟨rfl, S9.out.bel⟩
end Go.Proofs.YtcdmiiaamajfoaaGreatDoor
