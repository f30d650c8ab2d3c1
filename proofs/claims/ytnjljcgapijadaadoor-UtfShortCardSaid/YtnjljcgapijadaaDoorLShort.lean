import Derived.Test.YtnjljcgapijadaaDoorW1
import Derived.Test.YtnjljcgapijadaaDoorU6
set_option linter.unusedVariables false
namespace Go.Proofs.YtnjljcgapijadaaDoor
open Go.RowKit Go.Ms Go.Lib

set_option maxHeartbeats 400000 in
theorem utfShort_walk (s0 : ByteArray) (w : World) (hm : s0.size ≤ maxLen) (hT : Tabs w) :
    Calls Tryd.prog 6 #[.string s0] w fun e w' => e = .returned (.bool true) ∧ Below w.heap.size w w' := by
  have hm2 : s0.size ≤ 9223372036854775807 := by simpa [maxLen] using hm
  obtain ⟨s, hs⟩ : ∃ s, s0.extract 0 (min (↑s0.size : Int) 300).toNat = s := ⟨_, rfl⟩
  have hz : s.size ≤ 300 := by rw [← hs, ByteArray.size_extract]; omega
  have hll : s.data.toList.length = s.size := by simp
  have cu := fun w' (hT' : Tabs w') => unquote_any s w' (by omega) hT'
  rcases unquote_short s.data.toList with ⟨t, n, hu, h2, hn, hv, hq, hqq⟩ | ⟨e, he, hu⟩
  · rw [hu] at cu
    have hge := quoteD_ge t
    have ht : (⟨t.toArray⟩ : ByteArray).size = t.length := List.size_toArray
    have hqs : (⟨(quoteD t).toArray⟩ : ByteArray).size = (quoteD t).length := List.size_toArray
    have cq := fun w' (hT' : Tabs w') => quote_ok ⟨t.toArray⟩ w' (by rw [ht]; omega) hv hT'
    have cs := fun w' (hT' : Tabs w') => says_true ⟨(quoteD t).toArray⟩ ⟨t.toArray⟩ (quoteD t).length w' (by rw [hqs]; omega) hT' hqq
    have cv := fun w' (hT' : Tabs w') => valid_any ⟨t.toArray⟩ w' (by rw [ht]; omega) hT'
    have cw := fun w' (hT' : Tabs w') => works_any w' hT'
    simp only at cq cv
    rw [hv] at cv
    have CU := Lib.hid cu; have CQ := Lib.hid cq; have CS := Lib.hid cs; have CV := Lib.hid cv; have CW := Lib.hid cw
    have HS := Lib.hid hs
    have hns : (n : Int) ≤ (s.size : Int) := by omega
    have h2n : (2 : Int) ≤ (n : Int) := by omega
    have hqn : ((quoteD t).length : Int) ≤ (n : Int) := by omega
    clear cu cq cs cv cw hs hu hqq hv hq hn h2 hge ht hqs hm hll
    generalize quoteD t = q at *
    go_enter Tryd.func6, Tryd.ntmps6
    go_wp2_with fail
    rw [HS.out]
    refine (CU.out _ hT).mono ?_
    rintro en w1 ⟨rfl, b1⟩
    have s1 := b1.size
    have T1 := tabs_below hT b1
    go_wp2_with fail
    refine (CQ.out _ T1).mono ?_
    rintro en w2 ⟨rfl, b2⟩
    have B2 := b1.trans (b2.mono s1)
    have T2 := tabs_below hT B2
    go_wp2_with fail
    refine (CS.out _ T2).mono ?_
    rintro en w3 ⟨rfl, b3⟩
    have B3 := B2.trans (b3.mono B2.size)
    have T3 := tabs_below hT B3
    go_wp2_with fail
    refine (CV.out _ T3).mono ?_
    rintro en w4 ⟨rfl, b4⟩
    have B4 := B3.trans (b4.mono B3.size)
    have T4 := tabs_below hT B4
    go_wp2_with fail
    refine (CW.out _ T4).mono ?_
    rintro en w5 ⟨rfl, b5⟩
    go_wp2_with fail
    go_ret
    exact ⟨rfl, B4.trans (b5.mono B4.size)⟩
  · rw [hu] at cu
    have cw := fun w' (hT' : Tabs w') => works_any w' hT'
    have CU := Lib.hid cu; have CW := Lib.hid cw
    have HS := Lib.hid hs
    have e1 : (e == 0) = false := by simpa using he
    have e2 : (e != 0) = true := by simpa using he
    clear cu cw hs hu hm hll he
    go_enter Tryd.func6, Tryd.ntmps6
    go_wp2_with fail
    rw [HS.out]
    refine (CU.out _ hT).mono ?_
    rintro en w1 ⟨rfl, b1⟩
    have s1 := b1.size
    have T1 := tabs_below hT b1
    go_wp2_with fail
    refine (CW.out _ T1).mono ?_
    rintro en w2 ⟨rfl, b2⟩
    go_wp2_with fail
    go_ret
    exact ⟨rfl, b1.trans (b2.mono s1)⟩
end Go.Proofs.YtnjljcgapijadaaDoor
