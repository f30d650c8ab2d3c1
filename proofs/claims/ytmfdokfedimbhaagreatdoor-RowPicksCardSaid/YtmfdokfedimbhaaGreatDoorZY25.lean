/- Rows: RowPicks, walked. -/
import Derived.Test.YtmfdokfedimbhaaGreatDoorZYg
import Derived.Test.YtmfdokfedimbhaaGreatDoorZYh
set_option linter.unusedVariables false
set_option linter.unusedSimpArgs false
namespace Go.Proofs.YtmfdokfedimbhaaGreatDoor
open Go.RowKit Go.Ms Go.Lib

theorem YSt.o5 {w0 w : World} {E L : List (Option Addr × List Value)} {a b c d e f : Option Addr × List Value} (h : YSt w0 E (a :: b :: c :: d :: e :: f :: L) w) : Lay w w.heap.size f.1 f.2 := h.objs _ (by simp)
set_option maxRecDepth 100000 in
set_option maxHeartbeats 2000000 in
theorem rowPicks_bad0 (A : Option Addr) (n1 c1 : Nat) (la : List Cl) (B : Option Addr) (n2 c2 : Nat) (lb : List Int) (C : Option Addr) (n3 c3 : Nat) (lc : List Int) (w : World) (hA : n1 ≤ c1) (kA : c1 ≤ maxLen) (lA : la.length = n1) (eA : Ext w w.heap.size A (rowV la)) (iA : ∀ c ∈ la, ClIn c) (hB : n2 ≤ c2) (kB : c2 ≤ maxLen) (lB : lb.length = n2) (eB : Ext w w.heap.size B (intV lb)) (hC : n3 ≤ c3) (kC : c3 ≤ maxLen) (lC : lc.length = n3) (eC : Ext w w.heap.size C (intV lc)) (hE : Env w) (hf : rInE (lc.take 12) (rPick (cutR la) (lb.take 12)).length ≠ 0) (hx : rInE (lb.take 12) (cutR la).length = 0) :
    Calls Tryz.prog 7 #[.slice A n1 c1, .slice B n2 c2, .slice C n3 c3] w fun e w' => e = .returned (.bool true) ∧ Below w.heap.size w w' := by
  have s0 : YSt w [(A, rowV la), (B, intV lb), (C, intV lc)] [] w := ⟨Below.refl _ _, fun o ho => (by simp only [List.mem_cons, List.not_mem_nil, or_false] at ho; rcases ho with rfl | rfl | rfl <;> assumption), fun o ho => (by cases ho), hE⟩
  have S0 := Lib.hid s0
  obtain ⟨a, ha0⟩ : ∃ a, rPick (cutR la) (lb.take 12) = a := ⟨_, rfl⟩
  obtain ⟨b, hb0⟩ : ∃ b, rPick a (lc.take 12) = b := ⟨_, rfl⟩
  obtain ⟨x, hx0⟩ : ∃ x, rInE (lb.take 12) (cutR la).length = x := ⟨_, rfl⟩
  obtain ⟨y, hy0⟩ : ∃ y, rInE (lc.take 12) a.length = y := ⟨_, rfl⟩
  have ha3 : a.length ≤ 12 := by
    rw [← ha0]; unfold rPick; split
    · unfold rPickL; rw [List.length_map]; exact take12' lb
    · simp
  rw [hx0] at hx
  rw [ha0, hy0] at hf
  have hb1 : b = [] := by rw [← hb0]; unfold rPick; rw [if_neg]; intro h; unfold rInE at hy0; rw [if_pos h] at hy0; exact hf hy0.symm
  subst hb1
  have hf1 : (y == 0) = false := by simpa using hf
  have hf2 : (y != 0) = true := by simpa using hf
  subst hx
  have HA0 := Lib.hid ha0; have HB0 := Lib.hid hb0; have HX := Lib.hid hx0; have HY := Lib.hid hy0; have H12 := Lib.hid ha3
  clear ha0 hb0 hx0 hy0 ha3
  clear hf
  have LA := Lib.hid lA; have LB := Lib.hid lB; have LC := Lib.hid lC; have IA := Lib.hid iA
  clear s0 hE eA eB eC iA lA lB lC
  unfold maxLen at kA kB kC
  go_enter Tryz.func7, Tryz.ntmps7
  go_wp2_with fail
  refine (lcut_at _ A n1 c1 la (Nat.le_trans hA kA) LA.out S0.out.e0 IA.out).mono ?_
  rintro en w1 ⟨P, cP, rfl, l1, b1⟩
  have S1 := Lib.hid ((S0.out.step b1).push l1)
  clear l1 b1
  go_wp2_with fail
  refine (lfew_at _ B n2 c2 lb hB kB LB.out S1.out.e1).mono ?_
  rintro en w2 ⟨Q, nQ, cQ, rfl, lnQ, l2, b2⟩
  have S2 := Lib.hid ((S1.out.step b2).push l2)
  have NQ := Lib.hid lnQ
  clear l2 b2 lnQ
  go_wp2_with fail
  refine (lfew_at _ C n3 c3 lc hC kC LC.out S2.out.e2).mono ?_
  rintro en w3 ⟨R, nR, cR, rfl, lnR, l3, b3⟩
  have S3 := Lib.hid ((S2.out.step b3).push l3)
  have NR := Lib.hid lnR
  clear l3 b3 lnR
  go_wp2_with fail
  have q4 := rowPick_any w3 P Q _ cP nQ cQ _ _ (by have := cutR_len la; omega) (by have := take12 lb; have := NQ.out; omega) rfl NQ.out S3.out.o2_ S3.out.o1
  rw [HA0.out] at q4
  rw [HX.out] at q4
  refine q4.mono ?_
  rintro en w4 ⟨v4, rfl, o4, b4⟩
  obtain ⟨U, cU, rfl, _⟩ := yown_slice o4
  have S4 := Lib.hid ((S3.out.step b4).push o4.lay.2)
  clear o4 b4 q4
  go_wp2_with fail
  have q5 := rowPick_any w4 U R _ cU nR cR _ _ (by have := H12.out; omega) (by have := take12 lc; have := NR.out; omega) rfl NR.out S4.out.o0 S4.out.o1
  rw [HB0.out] at q5
  rw [HY.out] at q5
  refine q5.mono ?_
  rintro en w5 ⟨v5, rfl, o5, b5⟩
  obtain ⟨V, cV, rfl, _⟩ := yown_slice o5
  have S5 := Lib.hid ((S4.out.step b5).push o5.lay.2)
  clear o5 b5 q5
  go_wp2_with fail
  go_loopw [11, 12] (fun bo id wr => bo = .slice none 0 0 ∧ id = .int .i64 0 ∧ wr = w5) (fun _ _ _ => 0)
  case atStart => exact ⟨rfl, rfl, rfl⟩
  case round =>
    obtain ⟨rfl, rfl, rfl⟩ := hrel
    by_cases h0 : 0 < nR
    · have h1 : (0 : Int) < nR := by omega
      go_wp2_with fail
      refine (rworks_any _ S5.out.env).mono ?_
      rintro en w6 ⟨rfl, b6⟩
      have S6 := Lib.hid (S5.out.step b6)
      clear b6
      go_wp2_with fail
      go_ret
      exact ⟨rfl, S6.out.bel⟩
    · have h1 : ¬ (0 : Int) < nR := by omega
      go_wp2_with fail
      refine (rworks_any _ S5.out.env).mono ?_
      rintro en w6 ⟨rfl, b6⟩
      have S6 := Lib.hid (S5.out.step b6)
      clear b6
      go_wp2_with fail
      go_ret
      exact ⟨rfl, S6.out.bel⟩
set_option maxRecDepth 100000 in
set_option maxHeartbeats 2000000 in
theorem rowPicks_bad1 (A : Option Addr) (n1 c1 : Nat) (la : List Cl) (B : Option Addr) (n2 c2 : Nat) (lb : List Int) (C : Option Addr) (n3 c3 : Nat) (lc : List Int) (w : World) (hA : n1 ≤ c1) (kA : c1 ≤ maxLen) (lA : la.length = n1) (eA : Ext w w.heap.size A (rowV la)) (iA : ∀ c ∈ la, ClIn c) (hB : n2 ≤ c2) (kB : c2 ≤ maxLen) (lB : lb.length = n2) (eB : Ext w w.heap.size B (intV lb)) (hC : n3 ≤ c3) (kC : c3 ≤ maxLen) (lC : lc.length = n3) (eC : Ext w w.heap.size C (intV lc)) (hE : Env w) (hf : rInE (lc.take 12) (rPick (cutR la) (lb.take 12)).length ≠ 0) (hx : rInE (lb.take 12) (cutR la).length ≠ 0) :
    Calls Tryz.prog 7 #[.slice A n1 c1, .slice B n2 c2, .slice C n3 c3] w fun e w' => e = .returned (.bool true) ∧ Below w.heap.size w w' := by
  have s0 : YSt w [(A, rowV la), (B, intV lb), (C, intV lc)] [] w := ⟨Below.refl _ _, fun o ho => (by simp only [List.mem_cons, List.not_mem_nil, or_false] at ho; rcases ho with rfl | rfl | rfl <;> assumption), fun o ho => (by cases ho), hE⟩
  have S0 := Lib.hid s0
  obtain ⟨a, ha0⟩ : ∃ a, rPick (cutR la) (lb.take 12) = a := ⟨_, rfl⟩
  obtain ⟨b, hb0⟩ : ∃ b, rPick a (lc.take 12) = b := ⟨_, rfl⟩
  obtain ⟨x, hx0⟩ : ∃ x, rInE (lb.take 12) (cutR la).length = x := ⟨_, rfl⟩
  obtain ⟨y, hy0⟩ : ∃ y, rInE (lc.take 12) a.length = y := ⟨_, rfl⟩
  have ha3 : a.length ≤ 12 := by
    rw [← ha0]; unfold rPick; split
    · unfold rPickL; rw [List.length_map]; exact take12' lb
    · simp
  rw [hx0] at hx
  rw [ha0, hy0] at hf
  have hb1 : b = [] := by rw [← hb0]; unfold rPick; rw [if_neg]; intro h; unfold rInE at hy0; rw [if_pos h] at hy0; exact hf hy0.symm
  subst hb1
  have hf1 : (y == 0) = false := by simpa using hf
  have hf2 : (y != 0) = true := by simpa using hf
  have ha1 : a = [] := by
    rw [← ha0]; unfold rPick; rw [if_neg]; intro h; unfold rInE at hx0; rw [if_pos h] at hx0; exact hx hx0.symm
  subst ha1
  have hxa : (x == 0) = false := by simpa using hx
  have hxb : (x != 0) = true := by simpa using hx
  have HA0 := Lib.hid ha0; have HB0 := Lib.hid hb0; have HX := Lib.hid hx0; have HY := Lib.hid hy0; have H12 := Lib.hid ha3
  clear ha0 hb0 hx0 hy0 ha3
  clear hf hx
  have LA := Lib.hid lA; have LB := Lib.hid lB; have LC := Lib.hid lC; have IA := Lib.hid iA
  clear s0 hE eA eB eC iA lA lB lC
  unfold maxLen at kA kB kC
  go_enter Tryz.func7, Tryz.ntmps7
  go_wp2_with fail
  refine (lcut_at _ A n1 c1 la (Nat.le_trans hA kA) LA.out S0.out.e0 IA.out).mono ?_
  rintro en w1 ⟨P, cP, rfl, l1, b1⟩
  have S1 := Lib.hid ((S0.out.step b1).push l1)
  clear l1 b1
  go_wp2_with fail
  refine (lfew_at _ B n2 c2 lb hB kB LB.out S1.out.e1).mono ?_
  rintro en w2 ⟨Q, nQ, cQ, rfl, lnQ, l2, b2⟩
  have S2 := Lib.hid ((S1.out.step b2).push l2)
  have NQ := Lib.hid lnQ
  clear l2 b2 lnQ
  go_wp2_with fail
  refine (lfew_at _ C n3 c3 lc hC kC LC.out S2.out.e2).mono ?_
  rintro en w3 ⟨R, nR, cR, rfl, lnR, l3, b3⟩
  have S3 := Lib.hid ((S2.out.step b3).push l3)
  have NR := Lib.hid lnR
  clear l3 b3 lnR
  go_wp2_with fail
  have q4 := rowPick_any w3 P Q _ cP nQ cQ _ _ (by have := cutR_len la; omega) (by have := take12 lb; have := NQ.out; omega) rfl NQ.out S3.out.o2_ S3.out.o1
  rw [HA0.out] at q4
  rw [HX.out] at q4
  refine q4.mono ?_
  rintro en w4 ⟨v4, rfl, o4, b4⟩
  obtain ⟨U, cU, rfl, _⟩ := yown_slice o4
  have S4 := Lib.hid ((S3.out.step b4).push o4.lay.2)
  clear o4 b4 q4
  go_wp2_with fail
  have q5 := rowPick_any w4 U R _ cU nR cR _ _ (by have := H12.out; omega) (by have := take12 lc; have := NR.out; omega) rfl NR.out S4.out.o0 S4.out.o1
  rw [HB0.out] at q5
  rw [HY.out] at q5
  refine q5.mono ?_
  rintro en w5 ⟨v5, rfl, o5, b5⟩
  obtain ⟨V, cV, rfl, _⟩ := yown_slice o5
  have S5 := Lib.hid ((S4.out.step b5).push o5.lay.2)
  clear o5 b5 q5
  go_wp2_with fail
  go_loopw [11, 12] (fun bo id wr => bo = .slice none 0 0 ∧ id = .int .i64 0 ∧ wr = w5) (fun _ _ _ => 0)
  case atStart => exact ⟨rfl, rfl, rfl⟩
  case round =>
    obtain ⟨rfl, rfl, rfl⟩ := hrel
    by_cases h0 : 0 < nR
    · have h1 : (0 : Int) < nR := by omega
      go_wp2_with fail
      refine (rworks_any _ S5.out.env).mono ?_
      rintro en w6 ⟨rfl, b6⟩
      have S6 := Lib.hid (S5.out.step b6)
      clear b6
      go_wp2_with fail
      go_ret
      exact ⟨rfl, S6.out.bel⟩
    · have h1 : ¬ (0 : Int) < nR := by omega
      go_wp2_with fail
      refine (rworks_any _ S5.out.env).mono ?_
      rintro en w6 ⟨rfl, b6⟩
      have S6 := Lib.hid (S5.out.step b6)
      clear b6
      go_wp2_with fail
      go_ret
      exact ⟨rfl, S6.out.bel⟩
set_option maxRecDepth 100000 in
set_option maxHeartbeats 2000000 in
theorem rowPicks_none (A : Option Addr) (n1 c1 : Nat) (la : List Cl) (B : Option Addr) (n2 c2 : Nat) (lb : List Int) (C : Option Addr) (n3 c3 : Nat) (lc : List Int) (w : World) (hA : n1 ≤ c1) (kA : c1 ≤ maxLen) (lA : la.length = n1) (eA : Ext w w.heap.size A (rowV la)) (iA : ∀ c ∈ la, ClIn c) (hB : n2 ≤ c2) (kB : c2 ≤ maxLen) (lB : lb.length = n2) (eB : Ext w w.heap.size B (intV lb)) (hC : n3 ≤ c3) (kC : c3 ≤ maxLen) (lC : lc.length = n3) (eC : Ext w w.heap.size C (intV lc)) (hE : Env w) (hf : rInE (lc.take 12) (rPick (cutR la) (lb.take 12)).length = 0) (hx : rInE (lb.take 12) (cutR la).length ≠ 0) :
    Calls Tryz.prog 7 #[.slice A n1 c1, .slice B n2 c2, .slice C n3 c3] w fun e w' => e = .returned (.bool true) ∧ Below w.heap.size w w' := by
  have s0 : YSt w [(A, rowV la), (B, intV lb), (C, intV lc)] [] w := ⟨Below.refl _ _, fun o ho => (by simp only [List.mem_cons, List.not_mem_nil, or_false] at ho; rcases ho with rfl | rfl | rfl <;> assumption), fun o ho => (by cases ho), hE⟩
  have S0 := Lib.hid s0
  obtain ⟨a, ha0⟩ : ∃ a, rPick (cutR la) (lb.take 12) = a := ⟨_, rfl⟩
  obtain ⟨b, hb0⟩ : ∃ b, rPick a (lc.take 12) = b := ⟨_, rfl⟩
  obtain ⟨x, hx0⟩ : ∃ x, rInE (lb.take 12) (cutR la).length = x := ⟨_, rfl⟩
  obtain ⟨y, hy0⟩ : ∃ y, rInE (lc.take 12) a.length = y := ⟨_, rfl⟩
  have ha3 : a.length ≤ 12 := by
    rw [← ha0]; unfold rPick; split
    · unfold rPickL; rw [List.length_map]; exact take12' lb
    · simp
  rw [hx0] at hx
  rw [ha0, hy0] at hf
  subst hf
  have ha1 : a = [] := by
    rw [← ha0]; unfold rPick; rw [if_neg]; intro h; unfold rInE at hx0; rw [if_pos h] at hx0; exact hx hx0.symm
  subst ha1
  have hxa : (x == 0) = false := by simpa using hx
  have hxb : (x != 0) = true := by simpa using hx
  have hq0 : (lc.take 12) = [] := by
    rcases hq : (lc.take 12) with _ | ⟨q, qs⟩
    · rfl
    · rw [hq] at hy0
      have hz : rIn (q :: qs) ([] : List Cl).length = true := by
        unfold rInE at hy0
        by_cases h : rIn (q :: qs) ([] : List Cl).length = true
        · exact h
        · rw [if_neg h] at hy0; omega
      have := rIn_at hz (k := 0) rfl
      simp only [List.length_nil] at this
      omega
  have HQ0 := Lib.hid hq0
  have hb1 : b = [] := by rw [← hb0, hq0]; unfold rPick; split <;> rfl
  subst hb1
  have HA0 := Lib.hid ha0; have HB0 := Lib.hid hb0; have HX := Lib.hid hx0; have HY := Lib.hid hy0; have H12 := Lib.hid ha3
  clear ha0 hb0 hx0 hy0 ha3
  clear hx hq0
  have LA := Lib.hid lA; have LB := Lib.hid lB; have LC := Lib.hid lC; have IA := Lib.hid iA
  clear s0 hE eA eB eC iA lA lB lC
  unfold maxLen at kA kB kC
  go_enter Tryz.func7, Tryz.ntmps7
  go_wp2_with fail
  refine (lcut_at _ A n1 c1 la (Nat.le_trans hA kA) LA.out S0.out.e0 IA.out).mono ?_
  rintro en w1 ⟨P, cP, rfl, l1, b1⟩
  have S1 := Lib.hid ((S0.out.step b1).push l1)
  clear l1 b1
  go_wp2_with fail
  refine (lfew_at _ B n2 c2 lb hB kB LB.out S1.out.e1).mono ?_
  rintro en w2 ⟨Q, nQ, cQ, rfl, lnQ, l2, b2⟩
  have S2 := Lib.hid ((S1.out.step b2).push l2)
  have NQ := Lib.hid lnQ
  clear l2 b2 lnQ
  go_wp2_with fail
  refine (lfew_at _ C n3 c3 lc hC kC LC.out S2.out.e2).mono ?_
  rintro en w3 ⟨R, nR, cR, rfl, lnR, l3, b3⟩
  have S3 := Lib.hid ((S2.out.step b3).push l3)
  have NR := Lib.hid lnR
  clear l3 b3 lnR
  go_wp2_with fail
  have q4 := rowPick_any w3 P Q _ cP nQ cQ _ _ (by have := cutR_len la; omega) (by have := take12 lb; have := NQ.out; omega) rfl NQ.out S3.out.o2_ S3.out.o1
  rw [HA0.out] at q4
  rw [HX.out] at q4
  refine q4.mono ?_
  rintro en w4 ⟨v4, rfl, o4, b4⟩
  obtain ⟨U, cU, rfl, _⟩ := yown_slice o4
  have S4 := Lib.hid ((S3.out.step b4).push o4.lay.2)
  clear o4 b4 q4
  go_wp2_with fail
  have q5 := rowPick_any w4 U R _ cU nR cR _ _ (by have := H12.out; omega) (by have := take12 lc; have := NR.out; omega) rfl NR.out S4.out.o0 S4.out.o1
  rw [HB0.out] at q5
  rw [HY.out] at q5
  refine q5.mono ?_
  rintro en w5 ⟨v5, rfl, o5, b5⟩
  obtain ⟨V, cV, rfl, _⟩ := yown_slice o5
  have S5 := Lib.hid ((S4.out.step b5).push o5.lay.2)
  clear o5 b5 q5
  go_wp2_with fail
  go_loopw [11, 12] (fun bo id wr => bo = .slice none 0 0 ∧ id = .int .i64 0 ∧ wr = w5) (fun _ _ _ => 0)
  case atStart => exact ⟨rfl, rfl, rfl⟩
  case round =>
    obtain ⟨rfl, rfl, rfl⟩ := hrel
    have h0 : nR = 0 := by rw [NR.out, HQ0.out]; rfl
    subst h0
    go_wp2_with fail
    refine (rworks_any _ S5.out.env).mono ?_
    rintro en w6 ⟨rfl, b6⟩
    have S6 := Lib.hid (S5.out.step b6)
    clear b6
    go_wp2_with fail
    go_ret
    exact ⟨rfl, S6.out.bel⟩
set_option maxRecDepth 100000 in
set_option maxHeartbeats 2000000 in
theorem rowPicks_ok (A : Option Addr) (n1 c1 : Nat) (la : List Cl) (B : Option Addr) (n2 c2 : Nat) (lb : List Int) (C : Option Addr) (n3 c3 : Nat) (lc : List Int) (w : World) (hA : n1 ≤ c1) (kA : c1 ≤ maxLen) (lA : la.length = n1) (eA : Ext w w.heap.size A (rowV la)) (iA : ∀ c ∈ la, ClIn c) (hB : n2 ≤ c2) (kB : c2 ≤ maxLen) (lB : lb.length = n2) (eB : Ext w w.heap.size B (intV lb)) (hC : n3 ≤ c3) (kC : c3 ≤ maxLen) (lC : lc.length = n3) (eC : Ext w w.heap.size C (intV lc)) (hE : Env w) (hf : rInE (lc.take 12) (rPick (cutR la) (lb.take 12)).length = 0) (hx : rInE (lb.take 12) (cutR la).length = 0) :
    Calls Tryz.prog 7 #[.slice A n1 c1, .slice B n2 c2, .slice C n3 c3] w fun e w' => e = .returned (.bool true) ∧ Below w.heap.size w w' := by
  have s0 : YSt w [(A, rowV la), (B, intV lb), (C, intV lc)] [] w := ⟨Below.refl _ _, fun o ho => (by simp only [List.mem_cons, List.not_mem_nil, or_false] at ho; rcases ho with rfl | rfl | rfl <;> assumption), fun o ho => (by cases ho), hE⟩
  have S0 := Lib.hid s0
  obtain ⟨a, ha0⟩ : ∃ a, rPick (cutR la) (lb.take 12) = a := ⟨_, rfl⟩
  obtain ⟨b, hb0⟩ : ∃ b, rPick a (lc.take 12) = b := ⟨_, rfl⟩
  obtain ⟨x, hx0⟩ : ∃ x, rInE (lb.take 12) (cutR la).length = x := ⟨_, rfl⟩
  obtain ⟨y, hy0⟩ : ∃ y, rInE (lc.take 12) a.length = y := ⟨_, rfl⟩
  have ha3 : a.length ≤ 12 := by
    rw [← ha0]; unfold rPick; split
    · unfold rPickL; rw [List.length_map]; exact take12' lb
    · simp
  rw [hx0] at hx
  rw [ha0, hy0] at hf
  subst hf
  subst hx
  have hin1 : rIn (lb.take 12) (cutR la).length = true := by
    unfold rInE at hx0
    by_cases h : rIn (lb.take 12) (cutR la).length = true
    · exact h
    · rw [if_neg h] at hx0; omega
  have ha1 : a = rPickL (cutR la) (lb.take 12) := by rw [← ha0]; unfold rPick; rw [if_pos hin1]
  have hal : a.length = (lb.take 12).length := by rw [ha1]; unfold rPickL; rw [List.length_map]
  have hin2 : rIn (lc.take 12) (lb.take 12).length = true := by
    unfold rInE at hy0
    rw [← hal]
    by_cases h : rIn (lc.take 12) a.length = true
    · exact h
    · rw [if_neg h] at hy0; omega
  obtain ⟨hp1, hp2⟩ := picks_back hin1 hin2
  have hb1 : b = rPickL a (lc.take 12) := by rw [← hb0]; unfold rPick; rw [hal, if_pos hin2]
  rw [← ha1, ← hb1] at hp2
  have hp3 : rPick (cutR la) (placesOf (lb.take 12) (lc.take 12)) = b := by unfold rPick; rw [if_pos hp1, hp2]
  have hp4 : rInE (placesOf (lb.take 12) (lc.take 12)) (cutR la).length = 0 := by unfold rInE; rw [if_pos hp1]
  have hb3 : b.length ≤ 12 := by rw [hb1]; unfold rPickL; rw [List.length_map]; exact take12' lc
  have HP3 := Lib.hid hp3; have HP4 := Lib.hid hp4; have HI2 := Lib.hid hin2; have HAL := Lib.hid hal; have H13 := Lib.hid hb3
  clear hin1 hin2 ha1 hal hp1 hp2 hb1 hp3 hp4 hb3
  obtain ⟨i0, hi, hz0, hz1, hz2⟩ := info_parts int_info
  have HA0 := Lib.hid ha0; have HB0 := Lib.hid hb0; have HX := Lib.hid hx0; have HY := Lib.hid hy0; have H12 := Lib.hid ha3
  clear ha0 hb0 hx0 hy0 ha3
  have LA := Lib.hid lA; have LB := Lib.hid lB; have LC := Lib.hid lC; have IA := Lib.hid iA
  clear s0 hE eA eB eC iA lA lB lC
  unfold maxLen at kA kB kC
  go_enter Tryz.func7, Tryz.ntmps7
  go_wp2_with fail
  refine (lcut_at _ A n1 c1 la (Nat.le_trans hA kA) LA.out S0.out.e0 IA.out).mono ?_
  rintro en w1 ⟨P, cP, rfl, l1, b1⟩
  have S1 := Lib.hid ((S0.out.step b1).push l1)
  clear l1 b1
  go_wp2_with fail
  refine (lfew_at _ B n2 c2 lb hB kB LB.out S1.out.e1).mono ?_
  rintro en w2 ⟨Q, nQ, cQ, rfl, lnQ, l2, b2⟩
  have S2 := Lib.hid ((S1.out.step b2).push l2)
  have NQ := Lib.hid lnQ
  clear l2 b2 lnQ
  go_wp2_with fail
  refine (lfew_at _ C n3 c3 lc hC kC LC.out S2.out.e2).mono ?_
  rintro en w3 ⟨R, nR, cR, rfl, lnR, l3, b3⟩
  have S3 := Lib.hid ((S2.out.step b3).push l3)
  have NR := Lib.hid lnR
  clear l3 b3 lnR
  go_wp2_with fail
  have q4 := rowPick_any w3 P Q _ cP nQ cQ _ _ (by have := cutR_len la; omega) (by have := take12 lb; have := NQ.out; omega) rfl NQ.out S3.out.o2_ S3.out.o1
  rw [HA0.out] at q4
  rw [HX.out] at q4
  refine q4.mono ?_
  rintro en w4 ⟨v4, rfl, o4, b4⟩
  obtain ⟨U, cU, rfl, _⟩ := yown_slice o4
  have S4 := Lib.hid ((S3.out.step b4).push o4.lay.2)
  clear o4 b4 q4
  go_wp2_with fail
  have q5 := rowPick_any w4 U R _ cU nR cR _ _ (by have := H12.out; omega) (by have := take12 lc; have := NR.out; omega) rfl NR.out S4.out.o0 S4.out.o1
  rw [HB0.out] at q5
  rw [HY.out] at q5
  refine q5.mono ?_
  rintro en w5 ⟨v5, rfl, o5, b5⟩
  obtain ⟨V, cV, rfl, _⟩ := yown_slice o5
  have S5 := Lib.hid ((S4.out.step b5).push o5.lay.2)
  clear o5 b5 q5
  go_wp2_with fail
  go_loopw [11, 12] (fun bo id wr => ∃ k : Nat, k ≤ nR ∧ id = .int .i64 k ∧ OwnI wr w5.heap.size 3 bo (placesOf (lb.take 12) ((lc.take 12).take k)) ∧ Below w5.heap.size w5 wr) (fun _ id _ => nR - (RowKit.intOf id).toNat)
  case atStart => exact ⟨0, by omega, rfl, World.ownsRow_nil _ _ _ _, Below.refl _ _⟩
  case round =>
    obtain ⟨k, hk, rfl, hown, hb⟩ := hrel
    by_cases hlk : k < nR
    · have hki : (k : Int) < nR := by omega
      obtain ⟨p, hp⟩ : ∃ c, (lc.take 12)[k]? = some c := ⟨_, List.getElem?_eq_getElem (by rw [← NR.out]; exact hlk)⟩
      obtain ⟨p0, p1⟩ := rIn_at HI2.out hp
      rw [← NQ.out] at p1
      obtain ⟨q, rfl⟩ : ∃ q : Nat, p = q := ⟨p.toNat, by omega⟩
      obtain ⟨m, hm⟩ : ∃ c, (lb.take 12)[q]? = some c := ⟨_, List.getElem?_eq_getElem (by rw [← NQ.out]; omega)⟩
      obtain ⟨g, o, er, hg, h1⟩ := S5.out.o2_.num hp
      obtain ⟨g', o', eq, hg', h2⟩ := S5.out.o3.num hm
      simp only at er eq
      subst er eq
      have g1 := (hb.cell hg).trans h1
      have g2 := (hb.cell hg').trans h2
      have pq1 : ¬ (q : Int) < 0 := by omega
      have pq2 : ¬ (nQ : Int) ≤ (q : Int) := by omega
      have pq3 : q < nQ := by omega
      have hpk : placesOf (lb.take 12) ((lc.take 12).take (k + 1)) = placesOf (lb.take 12) ((lc.take 12).take k) ++ [m] := by
        unfold placesOf
        rw [List.take_add_one (l := (lc.take 12)), List.map_append, hp]
        show _ ++ [(lb.take 12).getD (q : Int).toNat 0] = _
        rw [Int.toNat_natCast, List.getD_eq_getElem?_getD, hm]; rfl
      have hlen : (placesOf (lb.take 12) ((lc.take 12).take k)).length = k := by unfold placesOf; rw [List.length_map, List.length_take]; have := NR.out; omega
      have k13 : k ≤ 12 := by have := take12' lc; have := NR.out; omega
      have HPK := Lib.hid hpk; have HO := Lib.hid hown; have HB := Lib.hid hb; have HLen := Lib.hid hlen
      clear hpk hown hb hp hm h1 h2 hlen
      have hnew : Lay (wr.alloc (.cells #[.int .i64 m] 3)) (wr.alloc (.cells #[.int .i64 m] 3)).heap.size (some ⟨wr.heap.size, 0, none⟩) (intV [m]) := lay_new wr [.int .i64 m] 3
      have hown1 := World.ownsRow.alloc HO.out (.cells #[.int .i64 m] 3)
      have hb1 := HB.out.alloc HB.out.size (.cells #[.int .i64 m] 3)
      have HW1 := Lib.hid hnew; have HO1 := Lib.hid hown1; have HB1 := Lib.hid hb1
      clear hnew hown1 hb1
      go_wp2_with (at_builtin; refine wpList_append_lay rfl (.tmp 57) (.tmp 65) _ rfl w5.heap.size 3 i0 _ 1 8 Tryz.underlying23 hi hz0 hz1 hz2 rfl (by omega) _ _ _ rfl HO1.out _ (some ⟨wr.heap.size, 0, none⟩) 1 1 (intV [m]) rfl rfl HW1.out (intV_one _) (by rw [HLen.out]; unfold maxLen; omega) (by rw [HLen.out]; omega) HB1.out.size ?_; intro v2 w2 hown2 hg2)
      have HO2 := Lib.hid hown2
      have HB2 := Lib.hid (own_grown HO1.out HB1.out HB1.out.size (Nat.le_refl _) hg2)
      clear hown2 hg2
      go_wp2_with fail
      go_roundw
      case rel =>
        refine ⟨k + 1, by omega, by go_num, ?_, HB2.out⟩
        unfold OwnI
        rw [HPK.out, intV, List.map_append, List.length_append]
        exact HO2.out
      case measure => simp [RowKit.intOf]; omega
    · have hki : ¬ (k : Int) < nR := by omega
      have hkm : k = nR := by omega
      rw [hkm, NR.out, List.take_length] at hown
      obtain ⟨X, cX, rfl, _⟩ := yown_slice hown
      have S6 := Lib.hid ((S5.out.step hb).push hown.lay.2)
      clear hown hb hkm
      go_wp2_with fail
      have q7 := rowPick_any wr P X _ cP _ cX _ _ (by have := cutR_len la; omega) (by unfold placesOf; rw [List.length_map]; have := take12' lc; omega) rfl rfl S6.out.o5 S6.out.o0
      rw [HP3.out, HP4.out] at q7
      refine q7.mono ?_
      rintro en w7 ⟨v7, rfl, o7, b7⟩
      obtain ⟨Y, cY, rfl, _⟩ := yown_slice o7
      have S7 := Lib.hid ((S6.out.step b7).push o7.lay.2)
      clear o7 b7 q7
      go_wp2_with fail
      have q8 := reqrow_any w7 V Y _ cV _ cY _ _ (by have := H13.out; unfold maxLen; omega) (by have := H13.out; unfold maxLen; omega) rfl rfl S7.out.o2_ S7.out.o0
      rw [decide_eq_true rfl] at q8
      refine q8.mono ?_
      rintro en w8 ⟨rfl, b8⟩
      have S8 := Lib.hid (S7.out.step b8)
      clear b8 q8
      have hqa : nQ = a.length := by rw [HAL.out, NQ.out]
      subst hqa
      go_wp2_with fail
      refine (rworks_any _ S8.out.env).mono ?_
      rintro en w9 ⟨rfl, b9⟩
      have S9 := Lib.hid (S8.out.step b9)
      clear b9
      go_wp2_with fail
      go_ret
      exact ⟨rfl, S9.out.bel⟩
theorem rowPicks_walk (A : Option Addr) (n1 c1 : Nat) (la : List Cl) (B : Option Addr) (n2 c2 : Nat) (lb : List Int) (C : Option Addr) (n3 c3 : Nat) (lc : List Int) (w : World) (hA : n1 ≤ c1) (kA : c1 ≤ maxLen) (lA : la.length = n1) (eA : Ext w w.heap.size A (rowV la)) (iA : ∀ c ∈ la, ClIn c) (hB : n2 ≤ c2) (kB : c2 ≤ maxLen) (lB : lb.length = n2) (eB : Ext w w.heap.size B (intV lb)) (hC : n3 ≤ c3) (kC : c3 ≤ maxLen) (lC : lc.length = n3) (eC : Ext w w.heap.size C (intV lc)) (hE : Env w) :
    Calls Tryz.prog 7 #[.slice A n1 c1, .slice B n2 c2, .slice C n3 c3] w fun e w' => e = .returned (.bool true) ∧ Below w.heap.size w w' := by
  by_cases hf : rInE (lc.take 12) (rPick (cutR la) (lb.take 12)).length = 0
  · by_cases hx : rInE (lb.take 12) (cutR la).length = 0
    · exact rowPicks_ok A n1 c1 la B n2 c2 lb C n3 c3 lc w hA kA lA eA iA hB kB lB eB hC kC lC eC hE hf hx
    · exact rowPicks_none A n1 c1 la B n2 c2 lb C n3 c3 lc w hA kA lA eA iA hB kB lB eB hC kC lC eC hE hf hx
  · by_cases hx : rInE (lb.take 12) (cutR la).length = 0
    · exact rowPicks_bad0 A n1 c1 la B n2 c2 lb C n3 c3 lc w hA kA lA eA iA hB kB lB eB hC kC lC eC hE hf hx
    · exact rowPicks_bad1 A n1 c1 la B n2 c2 lb C n3 c3 lc w hA kA lA eA iA hB kB lB eB hC kC lC eC hE hf hx
end Go.Proofs.YtmfdokfedimbhaaGreatDoor
