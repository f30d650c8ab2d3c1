/- CellOrder: the walk. -/
import Derived.Test.YtklpmghdiflcbaaGreatDoorZFa
set_option linter.unusedVariables false
namespace Go.Proofs.YtklpmghdiflcbaaGreatDoor
open Go.RowKit Go.Ms Go.Lib

set_option maxRecDepth 100000 in
set_option maxHeartbeats 4000000 in
theorem cellOrder_walk (ua : Bool) (a : Int) (SA : ByteArray) (ub : Bool) (b : Int) (SB : ByteArray) (uc : Bool) (c : Int) (SC : ByteArray) (w : World) (hE : Env w) :
    Calls Tryz.prog 5 #[.agg #[.bool ua, .int .i64 a, .string SA], .agg #[.bool ub, .int .i64 b, .string SB], .agg #[.bool uc, .int .i64 c, .string SC]] w fun e w' => e = .returned (.bool true) ∧ Below w.heap.size w w' := by
  have k1 := fun w => cut_any ua a SA w
  have k2 := fun w => cut_any ub b SB w
  have k3 := fun w => cut_any uc c SC w
  have p1 := fun w => compare_any ua ub a b (cutS SA) (cutS SB) w
  have p2 := fun w => compare_any ub ua b a (cutS SB) (cutS SA) w
  have p3 := fun w => compare_any ub uc b c (cutS SB) (cutS SC) w
  have p4 := fun w => compare_any ua uc a c (cutS SA) (cutS SC) w
  have s0 := Box3.start w ua a SA ub b SB uc c SC
  obtain ⟨W0, hW0⟩ : ∃ W0, (((w.alloc (.cells #[.bool ua, .int .i64 a, .string SA] 25)).alloc (.cells #[.bool ub, .int .i64 b, .string SB] 25)).alloc (.cells #[.bool uc, .int .i64 c, .string SC] 25)) = W0 := ⟨_, rfl⟩
  rw [hW0] at s0
  have s0d := s0.drew
  have K1 := Lib.hid k1; have K2 := Lib.hid k2; have K3 := Lib.hid k3; have P1 := Lib.hid p1; have P2 := Lib.hid p2; have P3 := Lib.hid p3; have P4 := Lib.hid p4; have HE := Lib.hid hE; have HW0 := Lib.hid hW0
  clear k1 k2 k3 p1 p2 p3 p4 hE hW0 s0
  obtain ⟨a0, a1, a2, b0, b1, b2, c0, c1, c2, _, _, _, _, _, _, _, _, _⟩ := s0d.cells
  go_enter Tryz.func5, Tryz.ntmps5
  go_wp2_with fail
  rw [HW0.out]
  go_upto_region 1 with fail
  go_cut [] (fun wx => Box3 w w.heap.size ua a (cutS SA) ub b (cutS SB) uc c (cutS SC) wx)
  case first =>
    go_region_with ((first | ((with_reducible refine (K1.out _).mono ?_); rintro en w1 ⟨rfl, b1⟩; have x1 := Box3.step (by assumption) b1; obtain ⟨a0, a1, a2, b0, b1, b2, c0, c1, c2, fa0, fa1, fa2, fb0, fb1, fb2, fc0, fc1, fc2⟩ := x1.cells) | ((with_reducible refine (K2.out _).mono ?_); rintro en w1 ⟨rfl, b1⟩; have x1 := Box3.step (by assumption) b1; obtain ⟨a0, a1, a2, b0, b1, b2, c0, c1, c2, fa0, fa1, fa2, fb0, fb1, fb2, fc0, fc1, fc2⟩ := x1.cells) | ((with_reducible refine (K3.out _).mono ?_); rintro en w1 ⟨rfl, b1⟩; have x1 := Box3.step (by assumption) b1; obtain ⟨a0, a1, a2, b0, b1, b2, c0, c1, c2, fa0, fa1, fa2, fb0, fb1, fb2, fc0, fc1, fc2⟩ := x1.cells)))
    all_goals (go_wp2_with fail; go_meet; exact Box3.set (by assumption) _ _ _)
  case rest =>
    have x0 : Box3 w w.heap.size ua a (cutS SA) ub b (cutS SB) uc c (cutS SC) _ := hcut
    obtain ⟨hx1, hx1'⟩ := cmp_bd ua a (cutS SA).data.toList ub b (cutS SB).data.toList
    have hx2 := cmp_neg ua a (cutS SA).data.toList ub b (cutS SB).data.toList
    have hx3 := cmp_zero ua a (cutS SA).data.toList ub b (cutS SB).data.toList
    have hx4 := @cmp_trans ua a (cutS SA).data.toList ub b (cutS SB).data.toList uc c (cutS SC).data.toList
    obtain ⟨hx5, hx5'⟩ := cmp_bd ub b (cutS SB).data.toList uc c (cutS SC).data.toList
    obtain ⟨hx6, hx6'⟩ := cmp_bd ua a (cutS SA).data.toList uc c (cutS SC).data.toList
    have q1 := P1.out; have q2 := P2.out; have q3 := P3.out; have q4 := P4.out
    rw [hx2] at q2
    generalize kCmp ua a (cutS SA).data.toList ub b (cutS SB).data.toList = x at *
    generalize kCmp ub b (cutS SB).data.toList uc c (cutS SC).data.toList = y at *
    generalize kCmp ua a (cutS SA).data.toList uc c (cutS SC).data.toList = z at *
    clear K1 K2 K3
    generalize cutS SA = A at *
    generalize cutS SB = B at *
    generalize cutS SC = C at *
    have Q1 := Lib.hid q1; have Q2 := Lib.hid q2; have Q3 := Lib.hid q3; have Q4 := Lib.hid q4; have HX := Lib.hid x0; have H4 := Lib.hid hx4
    clear q1 q2 q3 q4 x0 hcut hx2 hx4 P1 P2 P3 P4 s0d HW0 a0 a1 a2 b0 b1 b2 c0 c1 c2
    have hcase : (x = 0 ∧ ua = ub ∧ a = b ∧ A = B) ∨ (x ≠ 0 ∧ ua ≠ ub) ∨ (x ≠ 0 ∧ ua = ub ∧ a ≠ b) ∨ (x ≠ 0 ∧ ua = ub ∧ a = b ∧ ¬ A.toList = B.toList) := by
      rw [Lib.toList_data, Lib.toList_data]
      by_cases h : x = 0
      · obtain ⟨e1, e2, e3⟩ := hx3.1 h
        exact .inl ⟨h, e1, e2, by rw [ba_ext e3]⟩
      · refine .inr ?_
        by_cases h1 : ua = ub
        · by_cases h2 : a = b
          · exact .inr (.inr ⟨h, h1, h2, fun h3 => h (hx3.2 ⟨h1, h2, h3⟩)⟩)
          · exact .inr (.inl ⟨h, h1, h2⟩)
        · exact .inl ⟨h, h1⟩
    clear hx3
    rcases hcase with ⟨rfl, rfl, rfl, rfl⟩ | ⟨hx, hne⟩ | ⟨hx, rfl, hne⟩ | ⟨hx, rfl, rfl, hne⟩
    · have X0 := HX
      obtain ⟨a0, a1, a2, b0, b1, b2, c0, c1, c2, _, _, _, _, _, _, _, _, _⟩ := X0.out.cells
      clear HX
      go_wp2_with fail
      clear a0 a1 a2 b0 b1 b2 c0 c1 c2
      refine (Q1.out _).mono ?_
      rintro en w1 ⟨rfl, bb1⟩
      have x1 := X0.out.step bb1
      obtain ⟨a0, a1, a2, b0, b1, b2, c0, c1, c2, _, _, _, _, _, _, _, _, _⟩ := x1.cells
      have X1 := Lib.hid x1
      clear x1 bb1
      go_wp2_with fail
      clear a0 a1 a2 b0 b1 b2 c0 c1 c2
      refine (Q2.out _).mono ?_
      rintro en w2 ⟨rfl, bb2⟩
      have x2 := X1.out.step bb2
      obtain ⟨a0, a1, a2, b0, b1, b2, c0, c1, c2, _, _, _, _, _, _, _, _, _⟩ := x2.cells
      have X2 := Lib.hid x2
      clear x2 bb2
      by_cases hy : 0 < y
      · go_wp2_with fail
        clear a0 a1 a2 b0 b1 b2 c0 c1 c2
        refine (Q3.out _).mono ?_
        rintro en w3 ⟨rfl, bb3⟩
        have x3 := X2.out.step bb3
        obtain ⟨a0, a1, a2, b0, b1, b2, c0, c1, c2, _, _, _, _, _, _, _, _, _⟩ := x3.cells
        have X3 := Lib.hid x3
        clear x3 bb3
        go_wp2_with fail
        refine (kworks_any _ (HE.out.below X3.out.bel)).mono ?_
        rintro en w9 ⟨rfl, b9⟩
        go_wp2_with fail
        go_ret
        exact ⟨rfl, X3.out.bel.trans (b9.mono X3.out.bel.size)⟩
      · have hz := H4.out (by omega) (by omega)
        go_wp2_with fail
        clear a0 a1 a2 b0 b1 b2 c0 c1 c2
        refine (Q3.out _).mono ?_
        rintro en w3 ⟨rfl, bb3⟩
        have x3 := X2.out.step bb3
        obtain ⟨a0, a1, a2, b0, b1, b2, c0, c1, c2, _, _, _, _, _, _, _, _, _⟩ := x3.cells
        have X3 := Lib.hid x3
        clear x3 bb3
        go_wp2_with fail
        clear a0 a1 a2 b0 b1 b2 c0 c1 c2
        refine (Q4.out _).mono ?_
        rintro en w4 ⟨rfl, bb4⟩
        have x4 := X3.out.step bb4
        obtain ⟨a0, a1, a2, b0, b1, b2, c0, c1, c2, _, _, _, _, _, _, _, _, _⟩ := x4.cells
        have X4 := Lib.hid x4
        clear x4 bb4
        go_wp2_with fail
        refine (kworks_any _ (HE.out.below X4.out.bel)).mono ?_
        rintro en w9 ⟨rfl, b9⟩
        go_wp2_with fail
        go_ret
        exact ⟨rfl, X4.out.bel.trans (b9.mono X4.out.bel.size)⟩
    · have q0 : (x == 0) = false := by simpa using hx
      have q9 : (ua == ub) = false := by simpa using hne
      have X0 := HX
      obtain ⟨a0, a1, a2, b0, b1, b2, c0, c1, c2, _, _, _, _, _, _, _, _, _⟩ := X0.out.cells
      clear HX
      go_wp2_with fail
      clear a0 a1 a2 b0 b1 b2 c0 c1 c2
      refine (Q1.out _).mono ?_
      rintro en w1 ⟨rfl, bb1⟩
      have x1 := X0.out.step bb1
      obtain ⟨a0, a1, a2, b0, b1, b2, c0, c1, c2, _, _, _, _, _, _, _, _, _⟩ := x1.cells
      have X1 := Lib.hid x1
      clear x1 bb1
      go_wp2_with fail
      clear a0 a1 a2 b0 b1 b2 c0 c1 c2
      refine (Q2.out _).mono ?_
      rintro en w2 ⟨rfl, bb2⟩
      have x2 := X1.out.step bb2
      obtain ⟨a0, a1, a2, b0, b1, b2, c0, c1, c2, _, _, _, _, _, _, _, _, _⟩ := x2.cells
      have X2 := Lib.hid x2
      clear x2 bb2
      by_cases hp : 0 < x
      · go_wp2_with fail
        refine (kworks_any _ (HE.out.below X2.out.bel)).mono ?_
        rintro en w9 ⟨rfl, b9⟩
        go_wp2_with fail
        go_ret
        exact ⟨rfl, X2.out.bel.trans (b9.mono X2.out.bel.size)⟩
      · by_cases hy : 0 < y
        · go_wp2_with fail
          clear a0 a1 a2 b0 b1 b2 c0 c1 c2
          refine (Q3.out _).mono ?_
          rintro en w3 ⟨rfl, bb3⟩
          have x3 := X2.out.step bb3
          obtain ⟨a0, a1, a2, b0, b1, b2, c0, c1, c2, _, _, _, _, _, _, _, _, _⟩ := x3.cells
          have X3 := Lib.hid x3
          clear x3 bb3
          go_wp2_with fail
          refine (kworks_any _ (HE.out.below X3.out.bel)).mono ?_
          rintro en w9 ⟨rfl, b9⟩
          go_wp2_with fail
          go_ret
          exact ⟨rfl, X3.out.bel.trans (b9.mono X3.out.bel.size)⟩
        · have hz := H4.out (by omega) (by omega)
          go_wp2_with fail
          clear a0 a1 a2 b0 b1 b2 c0 c1 c2
          refine (Q3.out _).mono ?_
          rintro en w3 ⟨rfl, bb3⟩
          have x3 := X2.out.step bb3
          obtain ⟨a0, a1, a2, b0, b1, b2, c0, c1, c2, _, _, _, _, _, _, _, _, _⟩ := x3.cells
          have X3 := Lib.hid x3
          clear x3 bb3
          go_wp2_with fail
          clear a0 a1 a2 b0 b1 b2 c0 c1 c2
          refine (Q4.out _).mono ?_
          rintro en w4 ⟨rfl, bb4⟩
          have x4 := X3.out.step bb4
          obtain ⟨a0, a1, a2, b0, b1, b2, c0, c1, c2, _, _, _, _, _, _, _, _, _⟩ := x4.cells
          have X4 := Lib.hid x4
          clear x4 bb4
          go_wp2_with fail
          refine (kworks_any _ (HE.out.below X4.out.bel)).mono ?_
          rintro en w9 ⟨rfl, b9⟩
          go_wp2_with fail
          go_ret
          exact ⟨rfl, X4.out.bel.trans (b9.mono X4.out.bel.size)⟩
    · have q0 : (x == 0) = false := by simpa using hx
      have q9 : (a == b) = false := by simpa using hne
      have X0 := HX
      obtain ⟨a0, a1, a2, b0, b1, b2, c0, c1, c2, _, _, _, _, _, _, _, _, _⟩ := X0.out.cells
      clear HX
      go_wp2_with fail
      clear a0 a1 a2 b0 b1 b2 c0 c1 c2
      refine (Q1.out _).mono ?_
      rintro en w1 ⟨rfl, bb1⟩
      have x1 := X0.out.step bb1
      obtain ⟨a0, a1, a2, b0, b1, b2, c0, c1, c2, _, _, _, _, _, _, _, _, _⟩ := x1.cells
      have X1 := Lib.hid x1
      clear x1 bb1
      go_wp2_with fail
      clear a0 a1 a2 b0 b1 b2 c0 c1 c2
      refine (Q2.out _).mono ?_
      rintro en w2 ⟨rfl, bb2⟩
      have x2 := X1.out.step bb2
      obtain ⟨a0, a1, a2, b0, b1, b2, c0, c1, c2, _, _, _, _, _, _, _, _, _⟩ := x2.cells
      have X2 := Lib.hid x2
      clear x2 bb2
      by_cases hp : 0 < x
      · go_wp2_with fail
        refine (kworks_any _ (HE.out.below X2.out.bel)).mono ?_
        rintro en w9 ⟨rfl, b9⟩
        go_wp2_with fail
        go_ret
        exact ⟨rfl, X2.out.bel.trans (b9.mono X2.out.bel.size)⟩
      · by_cases hy : 0 < y
        · go_wp2_with fail
          clear a0 a1 a2 b0 b1 b2 c0 c1 c2
          refine (Q3.out _).mono ?_
          rintro en w3 ⟨rfl, bb3⟩
          have x3 := X2.out.step bb3
          obtain ⟨a0, a1, a2, b0, b1, b2, c0, c1, c2, _, _, _, _, _, _, _, _, _⟩ := x3.cells
          have X3 := Lib.hid x3
          clear x3 bb3
          go_wp2_with fail
          refine (kworks_any _ (HE.out.below X3.out.bel)).mono ?_
          rintro en w9 ⟨rfl, b9⟩
          go_wp2_with fail
          go_ret
          exact ⟨rfl, X3.out.bel.trans (b9.mono X3.out.bel.size)⟩
        · have hz := H4.out (by omega) (by omega)
          go_wp2_with fail
          clear a0 a1 a2 b0 b1 b2 c0 c1 c2
          refine (Q3.out _).mono ?_
          rintro en w3 ⟨rfl, bb3⟩
          have x3 := X2.out.step bb3
          obtain ⟨a0, a1, a2, b0, b1, b2, c0, c1, c2, _, _, _, _, _, _, _, _, _⟩ := x3.cells
          have X3 := Lib.hid x3
          clear x3 bb3
          go_wp2_with fail
          clear a0 a1 a2 b0 b1 b2 c0 c1 c2
          refine (Q4.out _).mono ?_
          rintro en w4 ⟨rfl, bb4⟩
          have x4 := X3.out.step bb4
          obtain ⟨a0, a1, a2, b0, b1, b2, c0, c1, c2, _, _, _, _, _, _, _, _, _⟩ := x4.cells
          have X4 := Lib.hid x4
          clear x4 bb4
          go_wp2_with fail
          refine (kworks_any _ (HE.out.below X4.out.bel)).mono ?_
          rintro en w9 ⟨rfl, b9⟩
          go_wp2_with fail
          go_ret
          exact ⟨rfl, X4.out.bel.trans (b9.mono X4.out.bel.size)⟩
    · have q0 : (x == 0) = false := by simpa using hx
      have q9 : (A.toList == B.toList) = false := by rw [beq_eq_false_iff_ne]; exact hne
      have X0 := HX
      obtain ⟨a0, a1, a2, b0, b1, b2, c0, c1, c2, _, _, _, _, _, _, _, _, _⟩ := X0.out.cells
      clear HX
      go_wp2_with fail
      clear a0 a1 a2 b0 b1 b2 c0 c1 c2
      refine (Q1.out _).mono ?_
      rintro en w1 ⟨rfl, bb1⟩
      have x1 := X0.out.step bb1
      obtain ⟨a0, a1, a2, b0, b1, b2, c0, c1, c2, _, _, _, _, _, _, _, _, _⟩ := x1.cells
      have X1 := Lib.hid x1
      clear x1 bb1
      go_wp2_with fail
      clear a0 a1 a2 b0 b1 b2 c0 c1 c2
      refine (Q2.out _).mono ?_
      rintro en w2 ⟨rfl, bb2⟩
      have x2 := X1.out.step bb2
      obtain ⟨a0, a1, a2, b0, b1, b2, c0, c1, c2, _, _, _, _, _, _, _, _, _⟩ := x2.cells
      have X2 := Lib.hid x2
      clear x2 bb2
      by_cases hp : 0 < x
      · go_wp2_with fail
        refine (kworks_any _ (HE.out.below X2.out.bel)).mono ?_
        rintro en w9 ⟨rfl, b9⟩
        go_wp2_with fail
        go_ret
        exact ⟨rfl, X2.out.bel.trans (b9.mono X2.out.bel.size)⟩
      · by_cases hy : 0 < y
        · go_wp2_with fail
          clear a0 a1 a2 b0 b1 b2 c0 c1 c2
          refine (Q3.out _).mono ?_
          rintro en w3 ⟨rfl, bb3⟩
          have x3 := X2.out.step bb3
          obtain ⟨a0, a1, a2, b0, b1, b2, c0, c1, c2, _, _, _, _, _, _, _, _, _⟩ := x3.cells
          have X3 := Lib.hid x3
          clear x3 bb3
          go_wp2_with fail
          refine (kworks_any _ (HE.out.below X3.out.bel)).mono ?_
          rintro en w9 ⟨rfl, b9⟩
          go_wp2_with fail
          go_ret
          exact ⟨rfl, X3.out.bel.trans (b9.mono X3.out.bel.size)⟩
        · have hz := H4.out (by omega) (by omega)
          go_wp2_with fail
          clear a0 a1 a2 b0 b1 b2 c0 c1 c2
          refine (Q3.out _).mono ?_
          rintro en w3 ⟨rfl, bb3⟩
          have x3 := X2.out.step bb3
          obtain ⟨a0, a1, a2, b0, b1, b2, c0, c1, c2, _, _, _, _, _, _, _, _, _⟩ := x3.cells
          have X3 := Lib.hid x3
          clear x3 bb3
          go_wp2_with fail
          clear a0 a1 a2 b0 b1 b2 c0 c1 c2
          refine (Q4.out _).mono ?_
          rintro en w4 ⟨rfl, bb4⟩
          have x4 := X3.out.step bb4
          obtain ⟨a0, a1, a2, b0, b1, b2, c0, c1, c2, _, _, _, _, _, _, _, _, _⟩ := x4.cells
          have X4 := Lib.hid x4
          clear x4 bb4
          go_wp2_with fail
          refine (kworks_any _ (HE.out.below X4.out.bel)).mono ?_
          rintro en w9 ⟨rfl, b9⟩
          go_wp2_with fail
          go_ret
          exact ⟨rfl, X4.out.bel.trans (b9.mono X4.out.bel.size)⟩
end Go.Proofs.YtklpmghdiflcbaaGreatDoor
