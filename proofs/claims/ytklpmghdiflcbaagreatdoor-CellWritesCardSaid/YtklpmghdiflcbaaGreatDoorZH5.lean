/- The reference of the cells: Text. -/
import Derived.Test.YtklpmghdiflcbaaGreatDoorZH4
set_option linter.unusedVariables false
namespace Go.Proofs.YtklpmghdiflcbaaGreatDoor
open Go.RowKit Go.Ms Go.Lib

theorem rtext_null (k : Int) (tn : Bool) (n : Int) (S : ByteArray) (w : World) :
    Calls Tryz.prog 34 #[.agg #[.int .i64 k, .bool tn], .agg #[.bool true, .int .i64 n, .string S]] w fun e w' => e = .returned (.string ⟨#[110, 117, 108, 108]⟩) ∧ Below w.heap.size w w' := by
  go_enter Tryz.func34, Tryz.ntmps34
  go_wp2
  go_ret
  exact ⟨rfl, ((Below.refl _ _).alloc (Nat.le_refl _) _).alloc (by simp) _⟩
theorem rtext_bool (tn : Bool) (n : Int) (S : ByteArray) (w : World) :
    Calls Tryz.prog 34 #[.agg #[.int .i64 1, .bool tn], .agg #[.bool false, .int .i64 n, .string S]] w fun e w' => e = .returned (.string ⟨(formatBool (n == 1)).toArray⟩) ∧ Below w.heap.size w w' := by
  by_cases h : n = 1
  · subst h
    go_enter Tryz.func34, Tryz.ntmps34
    go_wp2
    go_ret
    exact ⟨rfl, ((Below.refl _ _).alloc (Nat.le_refl _) _).alloc (by simp) _⟩
  · have q : (n == 1) = false := by simpa using h
    rw [q]
    clear h
    go_enter Tryz.func34, Tryz.ntmps34
    go_wp2
    go_ret
    exact ⟨rfl, ((Below.refl _ _).alloc (Nat.le_refl _) _).alloc (by simp) _⟩
theorem rtext_num (k : Int) (hk : k = 2 ∨ k = 3) (tn : Bool) (n : Int) (S : ByteArray) (w : World) (b0 : -9223372036854775808 ≤ n) (b1 : n ≤ 9223372036854775807) :
    Calls Tryz.prog 34 #[.agg #[.int .i64 k, .bool tn], .agg #[.bool false, .int .i64 n, .string S]] w fun e w' => e = .returned (.string ⟨(itoa n).toArray⟩) ∧ Below w.heap.size w w' := by
  have cd := fun w => rdigits_any n w b0 b1
  generalize itoa n = L at *
  have CD := Lib.hid cd
  clear cd
  rcases hk with rfl | rfl
  all_goals
    go_enter Tryz.func34, Tryz.ntmps34
    go_wp2_with fail
    refine (CD.out _).mono ?_
    rintro en w1 ⟨rfl, rfl⟩
    go_wp2_with fail
    go_ret
    exact ⟨rfl, ((Below.refl _ _).alloc (Nat.le_refl _) _).alloc (by simp) _⟩
theorem rtext_str (tn : Bool) (n : Int) (S : ByteArray) (w : World) (hs : S.size ≤ 10000) :
    Calls Tryz.prog 34 #[.agg #[.int .i64 4, .bool tn], .agg #[.bool false, .int .i64 n, .string S]] w fun e w' => e = .returned (.string ⟨(kQuote S.data.toList).toArray⟩) ∧ Below w.heap.size w w' := by
  have cq := fun w => rquote_any S w hs
  unfold kQuote
  generalize (if validD S.data.toList = true then quoteD S.data.toList else []) = L at *
  generalize (if validD S.data.toList = true then (0 : Int) else 40) = e0 at *
  have CQ := Lib.hid cq
  clear cq
  go_enter Tryz.func34, Tryz.ntmps34
  go_wp2_with fail
  refine (CQ.out _).mono ?_
  rintro en w1 ⟨rfl, bb1⟩
  go_wp2_with fail
  go_ret
  exact ⟨rfl, (((Below.refl _ _).alloc (Nat.le_refl _) _).alloc (by simp) _).trans (bb1.mono (by simp; omega))⟩
theorem rtext_bytes (tn : Bool) (n : Int) (S : ByteArray) (w : World) (hs : S.size ≤ 100000) :
    Calls Tryz.prog 34 #[.agg #[.int .i64 5, .bool tn], .agg #[.bool false, .int .i64 n, .string S]] w fun e w' => e = .returned (.string ⟨(hexD S.data.toList).toArray⟩) ∧ Below w.heap.size w w' := by
  have ch := fun w => rhex_any S w hs
  have hl := khex_len S.data.toList
  unfold hexD at hl ⊢
  rw [List.length_cons, lenS] at hl
  have hz : (⟨(S.data.toList.flatMap hexb).toArray⟩ : ByteArray).size = (S.data.toList.flatMap hexb).length := List.size_toArray
  have hap : (⟨#[120]⟩ : ByteArray) ++ ⟨(S.data.toList.flatMap hexb).toArray⟩ = ⟨((120 : UInt8) :: S.data.toList.flatMap hexb).toArray⟩ := by apply ba_ext; simp
  rw [← hap]
  generalize (⟨(S.data.toList.flatMap hexb).toArray⟩ : ByteArray) = X at *
  have hxl : X.size ≤ 200000 := by omega
  have hq : ¬ 9223372036854775807 < 1 + X.size := by omega
  have CH := Lib.hid ch
  clear ch hap hz hl
  go_enter Tryz.func34, Tryz.ntmps34
  go_wp2_with fail
  refine (CH.out _).mono ?_
  rintro en w1 ⟨rfl, bb1⟩
  go_wp2_with fail
  go_ret
  exact ⟨rfl, (((Below.refl _ _).alloc (Nat.le_refl _) _).alloc (by simp) _).trans (bb1.mono (by simp; omega))⟩
theorem rtext_any (k : Int) (hk : kMay k = true) (tn u : Bool) (n : Int) (S : ByteArray) (w : World) (hs : S.size ≤ 10000) (b0 : -9223372036854775808 ≤ n) (b1 : n ≤ 9223372036854775807) :
    Calls Tryz.prog 34 #[.agg #[.int .i64 k, .bool tn], .agg #[.bool u, .int .i64 n, .string S]] w fun e w' => e = .returned (.string ⟨(if u = true then kNull else kText k n S.data.toList).toArray⟩) ∧ Below w.heap.size w w' := by
  cases u with
  | true => exact rtext_null k tn n S w
  | false =>
    simp only [Bool.false_eq_true, if_false]
    rcases may_cases hk with rfl | rfl | rfl | rfl | rfl
    · exact rtext_bool tn n S w
    · exact rtext_num 2 (.inl rfl) tn n S w b0 b1
    · exact rtext_num 3 (.inr rfl) tn n S w b0 b1
    · exact rtext_str tn n S w hs
    · exact rtext_bytes tn n S w (by omega)
theorem rText_any (k : Int) (tn u : Bool) (n : Int) (S : ByteArray) (w : World) (hs : S.size ≤ 10000) (b0 : -9223372036854775808 ≤ n) (b1 : n ≤ 9223372036854775807) :
    Calls Tryz.prog 14 #[.agg #[.int .i64 k, .bool tn], .agg #[.bool u, .int .i64 n, .string S]] w fun e w' => e = .returned (.tuple #[.string ⟨(kTextD k tn u n S.data.toList).toArray⟩, .int .i64 (kCheck k tn u n S.data.toList)]) ∧ Below w.heap.size w w' := by
  have cc := fun w' => rcheck_any k tn u n S w' (by omega) b0 b1
  have x0 := TBx.start w k tn u n S
  unfold kTextD
  by_cases hc : kCheck k tn u n S.data.toList = 0
  · rw [if_pos hc]
    rw [hc] at cc ⊢
    have ct := fun w' => rtext_any k (check_zero hc).1 tn u n S w' hs b0 b1
    generalize (if u = true then kNull else kText k n S.data.toList) = L at *
    have CC := Lib.hid cc; have CT := Lib.hid ct; have X0 := Lib.hid x0
    clear cc ct x0 hc
    go_enter Tryz.func14, Tryz.ntmps14
    go_wp2_with fail
    refine (CC.out _).mono ?_
    rintro en w1 ⟨rfl, bb1⟩
    have x1 := X0.out.step bb1
    obtain ⟨d0, d1, a0, a1, a2, f0, f1, f2, l0, l1⟩ := x1.cells
    have X1 := Lib.hid x1
    clear x1 bb1
    go_wp2_with fail
    refine (CT.out _).mono ?_
    rintro en w2 ⟨rfl, bb2⟩
    go_wp2_with fail
    go_ret2
    exact ⟨rfl, (X1.out.step bb2).bel⟩
  · rw [if_neg hc]
    generalize kCheck k tn u n S.data.toList = c at *
    have q : (c != 0) = true := by simpa using hc
    have CC := Lib.hid cc; have X0 := Lib.hid x0
    clear cc x0 hc
    go_enter Tryz.func14, Tryz.ntmps14
    go_wp2_with fail
    refine (CC.out _).mono ?_
    rintro en w1 ⟨rfl, bb1⟩
    go_wp2_with fail
    go_ret2
    exact ⟨rfl, (X0.out.step bb1).bel⟩
end Go.Proofs.YtklpmghdiflcbaaGreatDoor
