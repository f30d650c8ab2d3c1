import Derived.Test.YtnjljcgapijadaaDoorQ2
import Derived.Test.YtnjljcgapijadaaDoorQ4
set_option linter.unusedVariables false
namespace Go.Proofs.YtnjljcgapijadaaDoor
open Go.RowKit Go.Ms Go.Lib

theorem says_true (s want : ByteArray) (n : Nat) (w : World) (hs : s.size ≤ 100000) (hT : Tabs w) (h : unquoteD s.data.toList = (want.data.toList, n, 0)) :
    Calls Tryd.prog 25 #[.string s, .string want, .int .i64 n] w fun e w' => e = .returned (.bool true) ∧ Below w.heap.size w w' := by
  have cu := unquote_any s w hs hT
  rw [h, ← ba_ext (s := want) rfl] at cu
  clear h
  go_enter Tryd.func25, Tryd.ntmps25
  go_wp2_with fail
  refine cu.mono ?_
  rintro en w1 ⟨rfl, hb⟩
  go_wp2_with fail
  go_ret
  exact ⟨rfl, hb⟩
theorem fails_true (s : ByteArray) (x : Int) (w : World) (hs : s.size ≤ 100000) (hT : Tabs w) (h : unquoteD s.data.toList = ([], 0, x)) :
    Calls Tryd.prog 27 #[.string s, .int .i64 x] w fun e w' => e = .returned (.bool true) ∧ Below w.heap.size w w' := by
  have cu := unquote_any s w hs hT
  rw [h] at cu
  clear h
  go_enter Tryd.func27, Tryd.ntmps27
  go_wp2_with fail
  refine cu.mono ?_
  rintro en w1 ⟨rfl, hb⟩
  go_wp2_with fail
  go_ret
  exact ⟨rfl, hb⟩
theorem next_none (s : ByteArray) (w : World) (hT : Tabs w) (h : nextD s.data.toList = (0, 0, false)) :
    Calls Tryd.prog 35 #[.string s, .int .i32 0, .int .i64 0] w fun e w' => e = .returned (.bool true) ∧ Below w.heap.size w w' := by
  have cu := next_any s w hT
  rw [h] at cu
  clear h
  go_enter Tryd.func35, Tryd.ntmps35
  go_wp2_with fail
  refine cu.mono ?_
  rintro en w1 ⟨rfl, hb⟩
  go_wp2_with fail
  go_ret
  exact ⟨rfl, hb⟩
theorem next_some (s : ByteArray) (r n : Nat) (w : World) (hT : Tabs w) (hn : 0 < n) (h : nextD s.data.toList = (r, n, true)) :
    Calls Tryd.prog 35 #[.string s, .int .i32 r, .int .i64 n] w fun e w' => e = .returned (.bool true) ∧ Below w.heap.size w w' := by
  have cu := next_any s w hT
  rw [h] at cu
  clear h
  go_enter Tryd.func35, Tryd.ntmps35
  go_wp2_with fail
  refine cu.mono ?_
  rintro en w1 ⟨rfl, hb⟩
  go_wp2_with fail
  go_ret
  exact ⟨rfl, hb⟩

set_option maxHeartbeats 4000000 in
set_option maxRecDepth 100000 in
theorem works_any (w : World) (hT : Tabs w) :
    Calls Tryd.prog 19 #[] w fun e w' => e = .returned (.bool true) ∧ Below w.heap.size w w' := by
  go_enter Tryd.func19, Tryd.ntmps19
  go_wp2_with fail
  refine (put_any 8364 (by decide) (by decide) _).mono ?_
  rintro en w1 ⟨rfl, b1⟩
  rw [show isRune 8364 = true by decide, show put 8364 = [226, 130, 172] by decide]
  have T1 := tabs_below hT b1
  have B1 := b1
  go_wp2_with fail
  refine (put_any 55296 (by decide) (by decide) _).mono ?_
  rintro en w2 ⟨rfl, b2⟩
  rw [show isRune 55296 = false by decide, show put 55296 = [] by decide]
  have T2 := tabs_below T1 b2
  have B2 := B1.trans (b2.mono B1.size)
  go_wp2_with fail
  refine (put_any (-1) (by decide) (by decide) _).mono ?_
  rintro en w3 ⟨rfl, b3⟩
  rw [show isRune (-1) = false by decide, show put (-1) = [] by decide]
  have T3 := tabs_below T2 b3
  have B3 := B2.trans (b3.mono B2.size)
  go_wp2_with fail
  refine (quote_ok ⟨#[97, 34, 92, 10, 1, 195, 164]⟩ _ (by decide) (by decide +kernel) T3).mono ?_
  rintro en w4 ⟨rfl, b4⟩
  rw [show quoteD (ByteArray.mk #[97, 34, 92, 10, 1, 195, 164]).data.toList = [34, 97, 92, 34, 92, 92, 92, 110, 92, 117, 48, 48, 48, 49, 195, 164, 34] by decide +kernel]
  have T4 := tabs_below T3 b4
  have B4 := B3.trans (b4.mono B3.size)
  go_wp2_with fail
  refine (next_some ⟨#[195, 164, 65]⟩ 228 2 _ T4 (by decide) (by decide +kernel)).mono ?_
  rintro en w5 ⟨rfl, b5⟩
  have T5 := tabs_below T4 b5
  have B5 := B4.trans (b5.mono B4.size)
  go_wp2_with fail
  refine (next_none ⟨#[195]⟩ _ T5 (by decide +kernel)).mono ?_
  rintro en w6 ⟨rfl, b6⟩
  have T6 := tabs_below T5 b6
  have B6 := B5.trans (b6.mono B5.size)
  go_wp2_with fail
  refine (next_none ⟨#[192, 128]⟩ _ T6 (by decide +kernel)).mono ?_
  rintro en w7 ⟨rfl, b7⟩
  have T7 := tabs_below T6 b7
  have B7 := B6.trans (b7.mono B6.size)
  go_wp2_with fail
  refine (next_none ⟨#[237, 160, 128]⟩ _ T7 (by decide +kernel)).mono ?_
  rintro en w8 ⟨rfl, b8⟩
  have T8 := tabs_below T7 b8
  have B8 := B7.trans (b8.mono B7.size)
  go_wp2_with fail
  refine (says_true ⟨#[34, 92, 117, 48, 48, 52, 49, 92, 117, 100, 56, 51, 100, 92, 117, 100, 101, 48, 48, 92, 47, 34, 120]⟩ ⟨#[65, 240, 159, 152, 128, 47]⟩ 22 _ (by decide) T8 (by decide +kernel)).mono ?_
  rintro en w9 ⟨rfl, b9⟩
  have T9 := tabs_below T8 b9
  have B9 := B8.trans (b9.mono B8.size)
  go_wp2_with fail
  refine (fails_true ⟨#[34, 97]⟩ 3 _ (by decide) T9 (by decide +kernel)).mono ?_
  rintro en w10 ⟨rfl, b10⟩
  have T10 := tabs_below T9 b10
  have B10 := B9.trans (b10.mono B9.size)
  go_wp2_with fail
  refine (fails_true ⟨#[34, 92, 120, 34]⟩ 41 _ (by decide) T10 (by decide +kernel)).mono ?_
  rintro en w11 ⟨rfl, b11⟩
  have T11 := tabs_below T10 b11
  have B11 := B10.trans (b11.mono B10.size)
  go_wp2_with fail
  refine (fails_true ⟨#[34, 92, 117, 100, 101, 48, 48, 34]⟩ 41 _ (by decide) T11 (by decide +kernel)).mono ?_
  rintro en w12 ⟨rfl, b12⟩
  have T12 := tabs_below T11 b12
  have B12 := B11.trans (b12.mono B11.size)
  go_wp2_with fail
  refine (fails_true ⟨#[34, 92, 117, 100, 56, 51, 100, 120, 34]⟩ 41 _ (by decide) T12 (by decide +kernel)).mono ?_
  rintro en w13 ⟨rfl, b13⟩
  have T13 := tabs_below T12 b13
  have B13 := B12.trans (b13.mono B12.size)
  go_wp2_with fail
  refine (fails_true ⟨#[34, 92, 117, 48, 48]⟩ 3 _ (by decide) T13 (by decide +kernel)).mono ?_
  rintro en w14 ⟨rfl, b14⟩
  have T14 := tabs_below T13 b14
  have B14 := B13.trans (b14.mono B13.size)
  go_wp2_with fail
  refine (fails_true ⟨#[120]⟩ 41 _ (by decide) T14 (by decide +kernel)).mono ?_
  rintro en w15 ⟨rfl, b15⟩
  have T15 := tabs_below T14 b15
  have B15 := B14.trans (b15.mono B14.size)
  go_wp2_with fail
  refine (fails_true ⟨#[34, 255, 34]⟩ 40 _ (by decide) T15 (by decide +kernel)).mono ?_
  rintro en w16 ⟨rfl, b16⟩
  have T16 := tabs_below T15 b16
  have B16 := B15.trans (b16.mono B15.size)
  go_wp2_with fail
  refine (fails_true ⟨#[]⟩ 3 _ (by decide) T16 (by decide +kernel)).mono ?_
  rintro en w17 ⟨rfl, b17⟩
  have T17 := tabs_below T16 b17
  have B17 := B16.trans (b17.mono B16.size)
  go_wp2_with fail
  refine (fails_true ⟨#[34, 9, 34]⟩ 41 _ (by decide) T17 (by decide +kernel)).mono ?_
  rintro en w18 ⟨rfl, b18⟩
  have T18 := tabs_below T17 b18
  have B18 := B17.trans (b18.mono B17.size)
  go_wp2_with fail
  go_ret
  exact ⟨rfl, B18⟩
end Go.Proofs.YtnjljcgapijadaaDoor
