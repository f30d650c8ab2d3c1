/- The reference of the cells: which types and cells may be; how two stand. The reference of the cells: Check. -/
import Derived.Test.YthlinmkengoliaaGreatDoorZFa
import Derived.Test.YthlinmkengoliaaGreatDoorZRa
set_option linter.unusedVariables false
namespace Go.Proofs.YthlinmkengoliaaGreatDoor
open Go.RowKit Go.Ms Go.Lib
theorem rmay_any (k : Int) (nu : Bool) (w : World) :
    Calls Tryz.prog 84 #[.agg #[.int .i64 k, .bool nu]] w fun e w' => e = .returned (.bool (kMay k)) ∧ Below w.heap.size w w' := by
 by_cases h1 : 1 ≤ k
 · by_cases h2 : k ≤ 5
   · have hd : kMay k = true := by simp [kMay]; omega
     rw [hd]; clear hd
     go_enter Tryz.func84, Tryz.ntmps84
     go_wp2
     go_ret
     exact ⟨rfl, (Below.refl _ _).alloc (Nat.le_refl _) _⟩
   · have hd : kMay k = false := by simp [kMay]; omega
     rw [hd]; clear hd
     go_enter Tryz.func84, Tryz.ntmps84
     go_wp2
     go_ret
     exact ⟨rfl, (Below.refl _ _).alloc (Nat.le_refl _) _⟩
 · have hd : kMay k = false := by simp [kMay]; omega
   rw [hd]; clear hd
   go_enter Tryz.func84, Tryz.ntmps84
   go_wp2
   go_ret
   exact ⟨rfl, (Below.refl _ _).alloc (Nat.le_refl _) _⟩
end Go.Proofs.YthlinmkengoliaaGreatDoor
namespace Go.Proofs.YthlinmkengoliaaGreatDoor
open Go.RowKit Go.Ms Go.Lib
theorem rof_null (k : Int) (tn : Bool) (n : Int) (S : ByteArray) (w : World) :
    Calls Tryz.prog 85 #[.agg #[.int .i64 k, .bool tn], .agg #[.bool true, .int .i64 n, .string S]] w fun e w' => e = .returned (.bool (tn && decide (n = 0) && decide (S.data.toList = []))) ∧ Below w.heap.size w w' := by
 cases tn with
 | false =>
  simp only [Bool.false_and]
  go_enter Tryz.func85, Tryz.ntmps85
  go_wp2
  go_ret
  exact ⟨rfl, ((Below.refl _ _).alloc (Nat.le_refl _) _).alloc (by simp) _⟩
 | true =>
  by_cases hn : n = 0
  · subst hn
    by_cases hS : S.data.toList = []
    · obtain rfl : S = ⟨#[]⟩ := ba_ext hS; simp only [decide_true, Bool.and_true]
      go_enter Tryz.func85, Tryz.ntmps85
      go_wp2
      go_ret
      exact ⟨rfl, ((Below.refl _ _).alloc (Nat.le_refl _) _).alloc (by simp) _⟩
    · have e1 : (S.toList == []) = false := by rw [Lib.toList_data]; simpa using hS
      have e2 : ¬ S.toList = [] := by rw [Lib.toList_data]; exact hS
      have e3 : S.toList.isEmpty = false := by rw [Lib.toList_data]; simpa using hS
      rw [decide_eq_false hS, Bool.and_false]; clear hS
      go_enter Tryz.func85, Tryz.ntmps85
      go_wp2
      go_ret
      exact ⟨rfl, ((Below.refl _ _).alloc (Nat.le_refl _) _).alloc (by simp) _⟩
  · have e1 : (n == 0) = false := by simpa using hn
    rw [decide_eq_false hn, Bool.and_false, Bool.false_and]; clear hn
    go_enter Tryz.func85, Tryz.ntmps85
    go_wp2
    go_ret
    exact ⟨rfl, ((Below.refl _ _).alloc (Nat.le_refl _) _).alloc (by simp) _⟩
theorem rof_num (k : Int) (hk : k = 1 ∨ k = 2 ∨ k = 3) (tn : Bool) (n : Int) (S : ByteArray) (w : World) (b0 : -9223372036854775808 ≤ n) (b1 : n ≤ 9223372036854775807) :
    Calls Tryz.prog 85 #[.agg #[.int .i64 k, .bool tn], .agg #[.bool false, .int .i64 n, .string S]] w fun e w' => e = .returned (.bool (kIs k n S.data.toList)) ∧ Below w.heap.size w w' := by
 by_cases hS : S.data.toList = []
 · obtain rfl : S = ⟨#[]⟩ := ba_ext hS; clear hS
   rcases hk with rfl | rfl | rfl
   · have hd : kIs 1 n (⟨#[]⟩ : ByteArray).data.toList = (decide (n = 0) || decide (n = 1)) := by
       rw [Bool.eq_iff_iff, is1, Bool.or_eq_true, decide_eq_true_iff, decide_eq_true_iff]; exact ⟨fun h => by omega, fun h => ⟨rfl, by omega, by omega⟩⟩
     rw [hd]; clear hd
     by_cases h0 : n = 0
     · subst h0
       go_enter Tryz.func85, Tryz.ntmps85
       go_wp2
       go_ret
       exact ⟨rfl, ((Below.refl _ _).alloc (Nat.le_refl _) _).alloc (by simp) _⟩
     · have q0 : (n == 0) = false := by simpa using h0
       rw [decide_eq_false h0, Bool.false_or]
       by_cases h1 : n = 1
       · subst h1; clear h0
         go_enter Tryz.func85, Tryz.ntmps85
         go_wp2
         go_ret
         exact ⟨rfl, ((Below.refl _ _).alloc (Nat.le_refl _) _).alloc (by simp) _⟩
       · have q1 : (n == 1) = false := by simpa using h1
         rw [decide_eq_false h1]; clear h0 h1
         go_enter Tryz.func85, Tryz.ntmps85
         go_wp2
         go_ret
         exact ⟨rfl, ((Below.refl _ _).alloc (Nat.le_refl _) _).alloc (by simp) _⟩
   · by_cases h0 : -2147483648 ≤ n
     · by_cases h1 : n ≤ 2147483647
       · rw [show kIs 2 n (⟨#[]⟩ : ByteArray).data.toList = true from is2.2 ⟨rfl, h0, h1⟩]
         go_enter Tryz.func85, Tryz.ntmps85
         go_wp2
         go_ret
         exact ⟨rfl, ((Below.refl _ _).alloc (Nat.le_refl _) _).alloc (by simp) _⟩
       · rw [show kIs 2 n (⟨#[]⟩ : ByteArray).data.toList = false from by rw [← Bool.not_eq_true]; exact fun h => h1 (is2.1 h).2.2]
         go_enter Tryz.func85, Tryz.ntmps85
         go_wp2
         go_ret
         exact ⟨rfl, ((Below.refl _ _).alloc (Nat.le_refl _) _).alloc (by simp) _⟩
     · rw [show kIs 2 n (⟨#[]⟩ : ByteArray).data.toList = false from by rw [← Bool.not_eq_true]; exact fun h => h0 (is2.1 h).2.1]
       go_enter Tryz.func85, Tryz.ntmps85
       go_wp2
       go_ret
       exact ⟨rfl, ((Below.refl _ _).alloc (Nat.le_refl _) _).alloc (by simp) _⟩
   · rw [show kIs 3 n (⟨#[]⟩ : ByteArray).data.toList = true from is3.2 ⟨rfl, b0, b1⟩]
     go_enter Tryz.func85, Tryz.ntmps85
     go_wp2
     go_ret
     exact ⟨rfl, ((Below.refl _ _).alloc (Nat.le_refl _) _).alloc (by simp) _⟩
 · have e1 : (S.toList == []) = false := by rw [Lib.toList_data]; simpa using hS
   have e2 : ¬ S.toList = [] := by rw [Lib.toList_data]; exact hS
   have e3 : S.toList.isEmpty = false := by rw [Lib.toList_data]; simpa using hS
   rcases hk with rfl | rfl | rfl
   · rw [show kIs 1 n S.data.toList = false from by rw [← Bool.not_eq_true]; exact fun h => hS (is1.1 h).1]; clear hS
     go_enter Tryz.func85, Tryz.ntmps85
     go_wp2
     go_ret
     exact ⟨rfl, ((Below.refl _ _).alloc (Nat.le_refl _) _).alloc (by simp) _⟩
   · rw [show kIs 2 n S.data.toList = false from by rw [← Bool.not_eq_true]; exact fun h => hS (is2.1 h).1]; clear hS
     go_enter Tryz.func85, Tryz.ntmps85
     go_wp2
     go_ret
     exact ⟨rfl, ((Below.refl _ _).alloc (Nat.le_refl _) _).alloc (by simp) _⟩
   · rw [show kIs 3 n S.data.toList = false from by rw [← Bool.not_eq_true]; exact fun h => hS (is3.1 h).1]; clear hS
     go_enter Tryz.func85, Tryz.ntmps85
     go_wp2
     go_ret
     exact ⟨rfl, ((Below.refl _ _).alloc (Nat.le_refl _) _).alloc (by simp) _⟩
theorem rof_str (k : Int) (hk : k = 4 ∨ k = 5) (tn : Bool) (n : Int) (S : ByteArray) (w : World) (hs : S.size ≤ 100000) :
    Calls Tryz.prog 85 #[.agg #[.int .i64 k, .bool tn], .agg #[.bool false, .int .i64 n, .string S]] w fun e w' => e = .returned (.bool (kIs k n S.data.toList)) ∧ Below w.heap.size w w' := by
 have cv := fun w => rvalid_any S w (by omega)
 have hl := lenS S
 by_cases hn : n = 0
 · subst hn
   by_cases hz : S.size ≤ 1024
   · have hzi : (S.size : Int) ≤ 1024 := by omega
     rcases hk with rfl | rfl
     · have hd : kIs 4 0 S.data.toList = validD S.data.toList := by
         rw [Bool.eq_iff_iff, is4]; exact ⟨fun h => h.2.2, fun h => ⟨rfl, by omega, h⟩⟩
       rw [hd]
       generalize validD S.data.toList = V at *
       have CV := Lib.hid cv; clear cv hl hd
       go_enter Tryz.func85, Tryz.ntmps85
       go_wp2_with fail
       refine (CV.out _).mono ?_; rintro en w1 ⟨rfl, b1⟩
       go_wp2_with fail
       go_ret
       exact ⟨rfl, (((Below.refl _ _).alloc (Nat.le_refl _) _).alloc (by simp) _).trans (b1.mono (by simp; omega))⟩
     · rw [show kIs 5 0 S.data.toList = true from is5.2 ⟨rfl, by omega⟩]; clear cv hl
       go_enter Tryz.func85, Tryz.ntmps85
       go_wp2
       go_ret
       exact ⟨rfl, ((Below.refl _ _).alloc (Nat.le_refl _) _).alloc (by simp) _⟩
   · have hzi : ¬ (S.size : Int) ≤ 1024 := by omega
     rw [show kIs k 0 S.data.toList = false from by rw [← Bool.not_eq_true]; exact fun h => hz (by have := (is45 hk h).2; omega)]; clear cv hl
     rcases hk with rfl | rfl
     · go_enter Tryz.func85, Tryz.ntmps85
       go_wp2
       go_ret
       exact ⟨rfl, ((Below.refl _ _).alloc (Nat.le_refl _) _).alloc (by simp) _⟩
     · go_enter Tryz.func85, Tryz.ntmps85
       go_wp2
       go_ret
       exact ⟨rfl, ((Below.refl _ _).alloc (Nat.le_refl _) _).alloc (by simp) _⟩
 · have q0 : (n == 0) = false := by simpa using hn
   rw [show kIs k n S.data.toList = false from by rw [← Bool.not_eq_true]; exact fun h => hn (is45 hk h).1]; clear cv hl
   rcases hk with rfl | rfl
   · go_enter Tryz.func85, Tryz.ntmps85
     go_wp2
     go_ret
     exact ⟨rfl, ((Below.refl _ _).alloc (Nat.le_refl _) _).alloc (by simp) _⟩
   · go_enter Tryz.func85, Tryz.ntmps85
     go_wp2
     go_ret
     exact ⟨rfl, ((Below.refl _ _).alloc (Nat.le_refl _) _).alloc (by simp) _⟩
theorem rof_any (k : Int) (hk : kMay k = true) (tn u : Bool) (n : Int) (S : ByteArray) (w : World) (hs : S.size ≤ 100000) (b0 : -9223372036854775808 ≤ n) (b1 : n ≤ 9223372036854775807) :
    Calls Tryz.prog 85 #[.agg #[.int .i64 k, .bool tn], .agg #[.bool u, .int .i64 n, .string S]] w fun e w' => e = .returned (.bool (kOk k tn u n S.data.toList)) ∧ Below w.heap.size w w' := by
 cases u with
 | true =>
  have h : kOk k tn true n S.data.toList = (tn && decide (n = 0) && decide (S.data.toList = [])) := rfl; rw [h]; exact rof_null k tn n S w
 | false =>
  have h : kOk k tn false n S.data.toList = kIs k n S.data.toList := by simp [kOk]
  rw [h]
  rcases may_cases hk with rfl | rfl | rfl | rfl | rfl
  · exact rof_num 1 (.inl rfl) tn n S w b0 b1
  · exact rof_num 2 (.inr (.inl rfl)) tn n S w b0 b1
  · exact rof_num 3 (.inr (.inr rfl)) tn n S w b0 b1
  · exact rof_str 4 (.inl rfl) tn n S w hs
  · exact rof_str 5 (.inr rfl) tn n S w hs
theorem rcheck_any (k : Int) (tn u : Bool) (n : Int) (S : ByteArray) (w : World) (hs : S.size ≤ 100000) (b0 : -9223372036854775808 ≤ n) (b1 : n ≤ 9223372036854775807) :
    Calls Tryz.prog 48 #[.agg #[.int .i64 k, .bool tn], .agg #[.bool u, .int .i64 n, .string S]] w fun e w' => e = .returned (.int .i64 (kCheck k tn u n S.data.toList)) ∧ Below w.heap.size w w' := by
 have cm := fun w' => rmay_any k tn w'
 have x0 := TBx.start w k tn u n S; unfold kCheck
 cases hk : kMay k with
 | false =>
  rw [if_neg (by simp)]; rw [hk] at cm
  have CM := Lib.hid cm; have X0 := Lib.hid x0
  clear cm x0 hk
  go_enter Tryz.func48, Tryz.ntmps48
  go_wp2_with fail
  refine (CM.out _).mono ?_; rintro en w1 ⟨rfl, bb1⟩
  go_wp2_with fail
  go_ret
  exact ⟨rfl, (X0.out.step bb1).bel⟩
 | true =>
  rw [if_pos rfl]; rw [hk] at cm
  have co := fun w' => rof_any k hk tn u n S w' hs b0 b1
  generalize kOk k tn u n S.data.toList = V at *
  have CM := Lib.hid cm; have X0 := Lib.hid x0; have CO := Lib.hid co
  clear cm x0 co hk
  cases V
  all_goals
   go_enter Tryz.func48, Tryz.ntmps48
   go_wp2_with fail
   refine (CM.out _).mono ?_; rintro en w1 ⟨rfl, bb1⟩; have x1 := X0.out.step bb1; obtain ⟨d0, d1, a0, a1, a2, f0, f1, f2, l0, l1⟩ := x1.cells; have X1 := Lib.hid x1; clear x1 bb1
   go_wp2_with fail
   refine (CO.out _).mono ?_; rintro en w2 ⟨rfl, bb2⟩
   go_wp2_with fail
   go_ret
   exact ⟨rfl, (X1.out.step bb2).bel⟩
end Go.Proofs.YthlinmkengoliaaGreatDoor
