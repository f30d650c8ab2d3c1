import Derived.Test.YtnjljcgapijadaaDoorW1
import Derived.Test.YtnjljcgapijadaaDoorR3
set_option linter.unusedVariables false
namespace Go.Proofs.YtnjljcgapijadaaDoor
open Go.RowKit Go.Ms Go.Lib

set_option maxHeartbeats 1000000 in
theorem utfRunes_walk (s0 : ByteArray) (r : Int) (w : World) (hm : s0.size ≤ maxLen) (hr : (Lit.int .i32 r).wf = true) (hT : Tabs w) :
    Calls Tryd.prog 3 #[.string s0, .int .i32 r] w fun e w' => e = .returned (.bool true) ∧ Below w.heap.size w w' := by
  have hm2 : s0.size ≤ 9223372036854775807 := by simpa [maxLen] using hm
  have hrb : -2147483648 ≤ r ∧ r ≤ 2147483647 := by simpa [Lit.wf, IntKind.min, IntKind.max, IntKind.signed, IntKind.bits] using hr
  obtain ⟨s, hs⟩ : ∃ s, s0.extract 0 (min (↑s0.size : Int) 400).toNat = s := ⟨_, rfl⟩
  have hz : s.size ≤ 400 := by rw [← hs, ByteArray.size_extract]; omega
  have c1 := fun w' (hT' : Tabs w') => next_any s w' hT'
  have c2 := fun w' => rnext_any s w' (by omega)
  have c3 := fun w' => put_any r hrb.1 hrb.2 w'
  have c4 := fun w' => rput_any r hrb.1 hrb.2 w'
  have c5 := fun w' (hT' : Tabs w') => valid_any s w' (by omega) hT'
  have c6 := fun w' => rvalid_any s w' (by omega)
  generalize nextD s.data.toList = q at *
  generalize validD s.data.toList = v at *
  generalize put r = P at *
  generalize isRune r = B at *
  obtain ⟨q1, q2, q3⟩ := q
  simp only at c1 c2
  have C1 := Lib.hid c1; have C2 := Lib.hid c2; have C3 := Lib.hid c3; have C4 := Lib.hid c4; have C5 := Lib.hid c5; have C6 := Lib.hid c6
  have HS := Lib.hid hs
  clear c1 c2 c3 c4 c5 c6 hs hm hr hrb hz
  go_enter Tryd.func3, Tryd.ntmps3
  go_wp2_with fail
  rw [HS.out]
  refine (C1.out _ hT).mono ?_
  rintro en w1 ⟨rfl, b1⟩
  have T1 := tabs_below hT b1
  go_wp2_with fail
  refine (C2.out _).mono ?_
  rintro en w2 ⟨rfl, b2⟩
  have T2 := tabs_below T1 b2
  have B2 := b1.trans (b2.mono b1.size)
  go_wp2_with fail
  refine (C3.out _).mono ?_
  rintro en w3 ⟨rfl, b3⟩
  have T3 := tabs_below T2 b3
  have B3 := B2.trans (b3.mono B2.size)
  go_wp2_with fail
  refine (C4.out _).mono ?_
  rintro en w4 ⟨rfl, b4⟩
  have T4 := tabs_below T3 b4
  have B4 := B3.trans (b4.mono B3.size)
  go_wp2_with fail
  refine (C5.out _ T4).mono ?_
  rintro en w5 ⟨rfl, b5⟩
  have T5 := tabs_below T4 b5
  have B5 := B4.trans (b5.mono B4.size)
  go_wp2_with fail
  refine (C6.out _).mono ?_
  rintro en w6 ⟨rfl, b6⟩
  have T6 := tabs_below T5 b6
  have B6 := B5.trans (b6.mono B5.size)
  go_wp2_with fail
  refine (works_any _ T6).mono ?_
  rintro en w7 ⟨rfl, b7⟩
  go_wp2_with fail
  go_ret
  exact ⟨rfl, B6.trans (b7.mono B6.size)⟩
end Go.Proofs.YtnjljcgapijadaaDoor
