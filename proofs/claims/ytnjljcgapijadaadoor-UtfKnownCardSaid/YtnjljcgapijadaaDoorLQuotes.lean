import Derived.Test.YtnjljcgapijadaaDoorW1
import Derived.Test.YtnjljcgapijadaaDoorR8
set_option linter.unusedVariables false
namespace Go.Proofs.YtnjljcgapijadaaDoor
open Go.RowKit Go.Ms Go.Lib

theorem quote_bad (s : ByteArray) (w : World) (hs : s.size ≤ 1000000) (hv : validD s.data.toList = false) (hT : Tabs w) :
    Calls Tryd.prog 20 #[.string s] w fun e w' => e = .returned (.tuple #[.string ⟨#[]⟩, .int .i64 40]) ∧ Below w.heap.size w w' := by
  have cv := valid_any s w (by omega) hT
  rw [hv] at cv
  have CV := Lib.hid cv
  clear cv hv
  go_enter Tryd.func20, Tryd.ntmps20
  go_wp2_with fail
  refine CV.out.mono ?_
  rintro en w1 ⟨rfl, b1⟩
  go_wp2_with fail
  go_ret2
  exact ⟨rfl, b1⟩
/-- utf.Quote, of every text. -/
theorem quote_any (s : ByteArray) (w : World) (hs : s.size ≤ 1000000) (hT : Tabs w) :
    Calls Tryd.prog 20 #[.string s] w fun e w' => e = .returned (.tuple #[.string ⟨(if validD s.data.toList = true then quoteD s.data.toList else []).toArray⟩, .int .i64 (if validD s.data.toList = true then 0 else 40)]) ∧ Below w.heap.size w w' := by
  cases hv : validD s.data.toList with
  | true => exact quote_ok s w hs hv hT
  | false => exact quote_bad s w hs hv hT

set_option maxHeartbeats 1000000 in
theorem utfQuotes_walk (s0 t0 : ByteArray) (w : World) (hm : s0.size ≤ maxLen) (hn : t0.size ≤ maxLen) (hT : Tabs w) :
    Calls Tryd.prog 4 #[.string s0, .string t0] w fun e w' => e = .returned (.bool true) ∧ Below w.heap.size w w' := by
  have hm2 : s0.size ≤ 9223372036854775807 := by simpa [maxLen] using hm
  have hn2 : t0.size ≤ 9223372036854775807 := by simpa [maxLen] using hn
  obtain ⟨s, hs⟩ : ∃ s, s0.extract 0 (min (↑s0.size : Int) 400).toNat = s := ⟨_, rfl⟩
  have hz : s.size ≤ 400 := by rw [← hs, ByteArray.size_extract]; omega
  obtain ⟨t, ht⟩ : ∃ t, t0.extract 0 (min (↑t0.size : Int) 400).toNat = t := ⟨_, rfl⟩
  have hzt : t.size ≤ 400 := by rw [← ht, ByteArray.size_extract]; omega
  have c1 := fun w' (hT' : Tabs w') => quote_any s w' (by omega) hT'
  have c2 := fun w' => rquote_any s w' (by omega)
  have c3 := fun w' (hT' : Tabs w') => unquote_any t w' (by omega) hT'
  have c4 := fun w' => runquote_any t w' (by omega)
  generalize unquoteD t.data.toList = q at *
  generalize (if validD s.data.toList = true then quoteD s.data.toList else []) = A at *
  generalize (if validD s.data.toList = true then (0 : Int) else 40) = E at *
  obtain ⟨q1, q2, q3⟩ := q
  simp only at c3 c4
  have C1 := Lib.hid c1; have C2 := Lib.hid c2; have C3 := Lib.hid c3; have C4 := Lib.hid c4
  have HS := Lib.hid hs
  have HT := Lib.hid ht
  clear c1 c2 c3 c4 hs ht hm hn hz hzt
  go_enter Tryd.func4, Tryd.ntmps4
  go_wp2_with fail
  have g1 : 0 ≤ min (↑s0.size : Int) 400 := by omega
  have g2 : min (↑s0.size : Int) 400 ≤ (s0.size : Int) := by omega
  have g3 : 0 ≤ min (↑t0.size : Int) 400 := by omega
  have g4 : min (↑t0.size : Int) 400 ≤ (t0.size : Int) := by omega
  go_quiet (fail)
  go_wp2_with fail
  rw [HS.out]
  refine (C1.out _ (tabs_drewN hT _)).mono ?_
  rintro en w1 ⟨rfl, b1'⟩
  have b1 : Below w.heap.size w w1 := (below_drewN (Below.refl _ w) _).trans b1'
  have T1 := tabs_below hT b1
  clear b1'
  go_wp2_with fail
  refine (C2.out _).mono ?_
  rintro en w2 ⟨rfl, b2⟩
  have T2 := tabs_below T1 b2
  have B2 := b1.trans (b2.mono b1.size)
  go_wp2_with fail
  rw [HT.out]
  refine (C3.out _ T2).mono ?_
  rintro en w3 ⟨rfl, b3⟩
  have T3 := tabs_below T2 b3
  have B3 := B2.trans (b3.mono B2.size)
  go_wp2_with fail
  refine (C4.out _).mono ?_
  rintro en w4 ⟨rfl, b4⟩
  have T4 := tabs_below T3 b4
  have B4 := B3.trans (b4.mono B3.size)
  go_wp2_with fail
  refine (works_any _ T4).mono ?_
  rintro en w7 ⟨rfl, b7⟩
  go_wp2_with fail
  go_ret
  exact ⟨rfl, B4.trans (b7.mono B4.size)⟩
end Go.Proofs.YtnjljcgapijadaaDoor
