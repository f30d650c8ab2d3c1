/- The reference of the cells: Bits, whole. CellWrites: the walk. -/
import Derived.Test.YtklpmghdiflcbaaGreatDoorZH6
import Derived.Test.YtklpmghdiflcbaaGreatDoorZW6
set_option linter.unusedVariables false
namespace Go.Proofs.YtklpmghdiflcbaaGreatDoor
open Go.RowKit Go.Ms Go.Lib

theorem rbits_err (k : Int) (tn u : Bool) (n : Int) (S : ByteArray) (w : World) (hs : S.size ≤ 100000) (b0 : -9223372036854775808 ≤ n) (b1 : n ≤ 9223372036854775807) (hc : kCheck k tn u n S.data.toList ≠ 0) :
    Calls Tryz.prog 16 #[.agg #[.int .i64 k, .bool tn], .agg #[.bool u, .int .i64 n, .string S]] w fun e w' => e = .returned (.tuple #[.string ⟨#[]⟩, .int .i64 (kCheck k tn u n S.data.toList)]) ∧ Below w.heap.size w w' := by
  have cc := fun w' => rcheck_any k tn u n S w' hs b0 b1
  have x0 := TBx.start w k tn u n S
  generalize kCheck k tn u n S.data.toList = c at *
  have q : (c != 0) = true := by simpa using hc
  have CC := Lib.hid cc; have X0 := Lib.hid x0
  clear cc x0 hc
  go_enter Tryz.func16, Tryz.ntmps16
  go_wp2_with fail
  refine (CC.out _).mono ?_
  rintro en w1 ⟨rfl, bb1⟩
  go_wp2_with fail
  go_ret2
  exact ⟨rfl, (X0.out.step bb1).bel⟩
theorem rbits_null (k : Int) (tn : Bool) (n : Int) (S : ByteArray) (w : World) (hs : S.size ≤ 100000) (b0 : -9223372036854775808 ≤ n) (b1 : n ≤ 9223372036854775807) (hc : kCheck k tn true n S.data.toList = 0) :
    Calls Tryz.prog 16 #[.agg #[.int .i64 k, .bool tn], .agg #[.bool true, .int .i64 n, .string S]] w fun e w' => e = .returned (.tuple #[.string ⟨#[0]⟩, .int .i64 0]) ∧ Below w.heap.size w w' := by
  have cc := fun w' => rcheck_any k tn true n S w' hs b0 b1
  have x0 := TBx.start w k tn true n S
  rw [hc] at cc
  have CC := Lib.hid cc; have X0 := Lib.hid x0
  clear cc x0 hc
  go_enter Tryz.func16, Tryz.ntmps16
  go_wp2_with fail
  refine (CC.out _).mono ?_
  rintro en w1 ⟨rfl, bb1⟩
  have x1 := X0.out.step bb1
  obtain ⟨d0, d1, a0, a1, a2, f0, f1, f2, l0, l1⟩ := x1.cells
  have X1 := Lib.hid x1
  clear x1 bb1
  go_wp2_with fail
  go_ret2
  exact ⟨rfl, X1.out.bel⟩
theorem rBits_any (k : Int) (tn u : Bool) (n : Int) (S : ByteArray) (w : World) (hs : S.size ≤ 100000) (b0 : -9223372036854775808 ≤ n) (b1 : n ≤ 9223372036854775807) :
    Calls Tryz.prog 16 #[.agg #[.int .i64 k, .bool tn], .agg #[.bool u, .int .i64 n, .string S]] w fun e w' => e = .returned (.tuple #[.string ⟨(kBitsD k tn u n S.data.toList).toArray⟩, .int .i64 (kCheck k tn u n S.data.toList)]) ∧ Below w.heap.size w w' := by
  unfold kBitsD
  by_cases hc : kCheck k tn u n S.data.toList = 0
  · rw [if_pos hc, hc]
    cases u with
    | true => rw [if_pos rfl]; exact rbits_null k tn n S w hs b0 b1 hc
    | false =>
      simp only [Bool.false_eq_true, if_false]
      cases tn with
      | true =>
        rw [if_pos rfl]
        rcases may_cases (check_zero hc).1 with rfl | rfl | rfl | rfl | rfl
        · exact rbits_bt n S w hs b0 b1 hc
        · exact rbits_n2t n S w hs b0 b1 hc
        · exact rbits_n3t n S w hs b0 b1 hc
        · exact rbits_t4t n S w hs b0 b1 hc
        · exact rbits_t5t n S w hs b0 b1 hc
      | false =>
        simp only [Bool.false_eq_true, if_false]
        rcases may_cases (check_zero hc).1 with rfl | rfl | rfl | rfl | rfl
        · exact rbits_bf n S w hs b0 b1 hc
        · exact rbits_n2f n S w hs b0 b1 hc
        · exact rbits_n3f n S w hs b0 b1 hc
        · exact rbits_t4f n S w hs b0 b1 hc
        · exact rbits_t5f n S w hs b0 b1 hc
  · rw [if_neg hc]
    exact rbits_err k tn u n S w hs b0 b1 hc
set_option maxRecDepth 100000 in
set_option maxHeartbeats 4000000 in
theorem cellWrites_walk (k : Int) (tn u : Bool) (n : Int) (S0 : ByteArray) (w : World) (hn : (Lit.int .i64 n).wf = true) (hE : Env w) :
    Calls Tryz.prog 3 #[.agg #[.int .i64 k, .bool tn], .agg #[.bool u, .int .i64 n, .string S0]] w fun e w' => e = .returned (.bool true) ∧ Below w.heap.size w w' := by
  obtain ⟨b0, b1⟩ := wf64 hn
  have k1 := fun w => cut_any u n S0 w
  have hcs := cutS_size S0
  generalize cutS S0 = S at *
  have ct := fun w' (hE' : Env w') => ktext_any k tn u n S w' (by omega) hE'
  have rt := fun w' => rText_any k tn u n S w' (by omega) b0 b1
  have cb := fun w' (hE' : Env w') => kbits_any k tn u n S w' (by omega) hE'
  have rb := fun w' => rBits_any k tn u n S w' (by omega) b0 b1
  have x0 := TBx.start w k tn u n S0
  generalize (⟨(kTextD k tn u n S.data.toList).toArray⟩ : ByteArray) = X at *
  generalize (⟨(kBitsD k tn u n S.data.toList).toArray⟩ : ByteArray) = Y at *
  generalize kCheck k tn u n S.data.toList = c at *
  have K1 := Lib.hid k1; have CT := Lib.hid ct; have RT := Lib.hid rt; have CB := Lib.hid cb; have RB := Lib.hid rb; have HE := Lib.hid hE; have X0 := Lib.hid x0
  clear k1 ct rt cb rb hE x0 hn hcs b0 b1
  go_enter Tryz.func3, Tryz.ntmps3
  go_wp2_with fail
  refine (K1.out _).mono ?_
  rintro en w1 ⟨rfl, bb1⟩
  have x1 := X0.out.step bb1
  obtain ⟨d0, d1, a0, a1, a2, f0, f1, f2, l0, l1⟩ := x1.cells
  have x2 := x1.set S
  have X2 := Lib.hid x2
  clear x1 x2 bb1
  go_wp2_with fail
  refine (CT.out _ (HE.out.below X2.out.bel)).mono ?_
  rintro en w3 ⟨rfl, bb3⟩
  have x3 := X2.out.step bb3
  clear d0 d1 a0 a1 a2 f0 f1 f2 l0 l1
  obtain ⟨d0, d1, a0, a1, a2, f0, f1, f2, l0, l1⟩ := x3.cells
  have X3 := Lib.hid x3
  clear x3 bb3
  go_wp2_with fail
  refine (RT.out _).mono ?_
  rintro en w4 ⟨rfl, bb4⟩
  have x4 := X3.out.step bb4
  clear d0 d1 a0 a1 a2 f0 f1 f2 l0 l1
  obtain ⟨d0, d1, a0, a1, a2, f0, f1, f2, l0, l1⟩ := x4.cells
  have X4 := Lib.hid x4
  clear x4 bb4
  go_wp2_with fail
  refine (CB.out _ (HE.out.below X4.out.bel)).mono ?_
  rintro en w5 ⟨rfl, bb5⟩
  have x5 := X4.out.step bb5
  clear d0 d1 a0 a1 a2 f0 f1 f2 l0 l1
  obtain ⟨d0, d1, a0, a1, a2, f0, f1, f2, l0, l1⟩ := x5.cells
  have X5 := Lib.hid x5
  clear x5 bb5
  go_wp2_with fail
  refine (RB.out _).mono ?_
  rintro en w6 ⟨rfl, bb6⟩
  have x6 := X5.out.step bb6
  clear d0 d1 a0 a1 a2 f0 f1 f2 l0 l1
  have X6 := Lib.hid x6
  clear x6 bb6
  go_wp2_with fail
  refine (kworks_any _ (HE.out.below X6.out.bel)).mono ?_
  rintro en w9 ⟨rfl, b9⟩
  go_wp2_with fail
  go_ret
  exact ⟨rfl, X6.out.bel.trans (b9.mono X6.out.bel.size)⟩
end Go.Proofs.YtklpmghdiflcbaaGreatDoor
