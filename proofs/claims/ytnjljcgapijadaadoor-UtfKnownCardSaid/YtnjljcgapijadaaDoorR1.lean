import Derived.Test.YtnjljcgapijadaaDoorGen
set_option linter.unusedVariables false
namespace Go.Proofs.YtnjljcgapijadaaDoor
open Go.RowKit Go.Ms Go.Lib
set_option maxHeartbeats 400000 in
theorem rput_any (r : Int) (h0 : -2147483648 ≤ r) (h1 : r ≤ 2147483647) (w : World) :
    Calls Tryd.prog 16 #[.int .i32 r] w fun e w' => e = .returned (.tuple #[.string ⟨(put r).toArray⟩, .bool (isRune r)]) ∧ Below w.heap.size w w' := by
  have kc1 := fun (w : World) (n : Nat) (hn : n = w.heap.size) (a : Int) => conv_new (P := Tryd.prog) w n hn 46 5 Tryd.underlying46 Tryd.underlying5 [a] 9 Tryd.underlying9
  have kc2 := fun (w : World) (n : Nat) (hn : n = w.heap.size) (a b : Int) => conv_new (P := Tryd.prog) w n hn 46 5 Tryd.underlying46 Tryd.underlying5 [a, b] 9 Tryd.underlying9
  have kc3 := fun (w : World) (n : Nat) (hn : n = w.heap.size) (a b c : Int) => conv_new (P := Tryd.prog) w n hn 46 5 Tryd.underlying46 Tryd.underlying5 [a, b, c] 9 Tryd.underlying9
  have kc4 := fun (w : World) (n : Nat) (hn : n = w.heap.size) (a b c d : Int) => conv_new (P := Tryd.prog) w n hn 46 5 Tryd.underlying46 Tryd.underlying5 [a, b, c, d] 9 Tryd.underlying9
  simp only [List.map_cons, List.map_nil, List.length_cons, List.length_nil, Nat.zero_add, Nat.reduceAdd] at kc1 kc2 kc3 kc4
  by_cases c1 : r < 0 ∨ (55296 ≤ r ∧ r ≤ 57343) ∨ 1114111 < r
  · have hn : isRune r = false := by rw [Bool.eq_false_iff]; intro h; rw [isRune_iff] at h; omega
    rw [hn, put_none hn]
    clear hn
    rcases c1 with c | ⟨c, d⟩ | c
    · go_enter Tryd.func16, Tryd.ntmps16
      go_wp2
      go_ret2
      exact ⟨rfl, Below.refl _ _⟩
    · have c' : ¬ r < 0 := by omega
      go_enter Tryd.func16, Tryd.ntmps16
      go_wp2
      go_ret2
      exact ⟨rfl, Below.refl _ _⟩
    · have c' : ¬ r < 0 := by omega
      go_enter Tryd.func16, Tryd.ntmps16
      go_wp2
      go_ret2
      exact ⟨rfl, Below.refl _ _⟩
  have hn : isRune r = true := by rw [isRune_iff]; omega
  rw [hn, put_rune hn, ← strNums_enc]
  clear hn
  have c0 : 0 ≤ r := by omega
  have c0' : ¬ r < 0 := by omega
  have c3 : r ≤ 1114111 := by omega
  by_cases d1 : r < 128
  · rw [encodeRuneZ_one c0 (by omega)]
    clear c1
    go_enter Tryd.func16, Tryd.ntmps16
    go_wp2
    all_goals go_ret2
    all_goals exact ⟨rfl, (Below.refl _ _).alloc (Nat.le_refl _) _⟩
  by_cases d2 : r < 2048
  · rw [encodeRuneZ_two (by omega) (by omega)]
    clear c1
    go_enter Tryd.func16, Tryd.ntmps16
    go_wp2
    all_goals go_ret2
    all_goals exact ⟨rfl, ((Below.refl _ _).alloc (Nat.le_refl _) _).alloc (by simp) _⟩
  by_cases d3 : r < 65536
  · rw [encodeRuneZ_three (by omega)]
    have d4 : r < 55296 ∨ 57343 < r := by omega
    rcases d4 with d4 | d4
    all_goals
      clear c1
      go_enter Tryd.func16, Tryd.ntmps16
      go_wp2
      all_goals go_ret2
      all_goals exact ⟨rfl, ((Below.refl _ _).alloc (Nat.le_refl _) _).alloc (by simp) _⟩
  · rw [encodeRuneZ_four (by omega) (by omega)]
    clear c1
    go_enter Tryd.func16, Tryd.ntmps16
    go_wp2
    all_goals go_ret2
    all_goals exact ⟨rfl, ((Below.refl _ _).alloc (Nat.le_refl _) _).alloc (by simp) _⟩


set_option maxHeartbeats 400000 in
theorem number_1 (s : ByteArray) (w : World) (h : s.size = 1) :
    Calls Tryd.prog 31 #[.string s] w fun e w' => e = .returned (.int .i32 (numberD s.data.toList)) ∧ w = w' := by
  have hl : s.data.toList.length = 1 := by simpa using h
  have hb0 := bt_lt s.data.toList 0
  have g0 : (s[0]'(by omega)).toNat = bt s.data.toList 0 := by rw [get_of]; rfl
  have hn : numberD s.data.toList = (bt s.data.toList 0 : Int) := by simp [numberD, hl]
  rw [hn]
  clear hn hl
  generalize bt s.data.toList 0 = b0 at *
  go_enter Tryd.func31, Tryd.ntmps31
  go_wp2
  go_rounds 5
  go_ret
  exact ⟨ret_int (by omega), rfl⟩

set_option maxHeartbeats 400000 in
theorem number_2 (s : ByteArray) (w : World) (h : s.size = 2) :
    Calls Tryd.prog 31 #[.string s] w fun e w' => e = .returned (.int .i32 (numberD s.data.toList)) ∧ w = w' := by
  have hl : s.data.toList.length = 2 := by simpa using h
  have hb0 := bt_lt s.data.toList 0
  have g0 : (s[0]'(by omega)).toNat = bt s.data.toList 0 := by rw [get_of]; rfl
  have hb1 := bt_lt s.data.toList 1
  have g1 : (s[1]'(by omega)).toNat = bt s.data.toList 1 := by rw [get_of]; rfl
  have hn : numberD s.data.toList = 64 * (bt s.data.toList 0 % 32 : Nat) + (bt s.data.toList 1 % 64 : Nat) := by simp [numberD, hl]
  rw [hn]
  clear hn hl
  generalize bt s.data.toList 0 = b0 at *
  generalize bt s.data.toList 1 = b1 at *
  go_enter Tryd.func31, Tryd.ntmps31
  go_wp2
  go_rounds 5
  go_ret
  exact ⟨ret_int (by omega), rfl⟩

set_option maxHeartbeats 400000 in
theorem number_3 (s : ByteArray) (w : World) (h : s.size = 3) :
    Calls Tryd.prog 31 #[.string s] w fun e w' => e = .returned (.int .i32 (numberD s.data.toList)) ∧ w = w' := by
  have hl : s.data.toList.length = 3 := by simpa using h
  have hb0 := bt_lt s.data.toList 0
  have g0 : (s[0]'(by omega)).toNat = bt s.data.toList 0 := by rw [get_of]; rfl
  have hb1 := bt_lt s.data.toList 1
  have g1 : (s[1]'(by omega)).toNat = bt s.data.toList 1 := by rw [get_of]; rfl
  have hb2 := bt_lt s.data.toList 2
  have g2 : (s[2]'(by omega)).toNat = bt s.data.toList 2 := by rw [get_of]; rfl
  have hn : numberD s.data.toList = 64 * (64 * (bt s.data.toList 0 % 16 : Nat) + (bt s.data.toList 1 % 64 : Nat)) + (bt s.data.toList 2 % 64 : Nat) := by simp [numberD, hl]
  rw [hn]
  clear hn hl
  generalize bt s.data.toList 0 = b0 at *
  generalize bt s.data.toList 1 = b1 at *
  generalize bt s.data.toList 2 = b2 at *
  go_enter Tryd.func31, Tryd.ntmps31
  go_wp2
  go_rounds 5
  go_ret
  exact ⟨ret_int (by omega), rfl⟩

set_option maxHeartbeats 400000 in
theorem number_4 (s : ByteArray) (w : World) (h : s.size = 4) :
    Calls Tryd.prog 31 #[.string s] w fun e w' => e = .returned (.int .i32 (numberD s.data.toList)) ∧ w = w' := by
  have hl : s.data.toList.length = 4 := by simpa using h
  have hb0 := bt_lt s.data.toList 0
  have g0 : (s[0]'(by omega)).toNat = bt s.data.toList 0 := by rw [get_of]; rfl
  have hb1 := bt_lt s.data.toList 1
  have g1 : (s[1]'(by omega)).toNat = bt s.data.toList 1 := by rw [get_of]; rfl
  have hb2 := bt_lt s.data.toList 2
  have g2 : (s[2]'(by omega)).toNat = bt s.data.toList 2 := by rw [get_of]; rfl
  have hb3 := bt_lt s.data.toList 3
  have g3 : (s[3]'(by omega)).toNat = bt s.data.toList 3 := by rw [get_of]; rfl
  have hn : numberD s.data.toList = 64 * (64 * (64 * (bt s.data.toList 0 % 8 : Nat) + (bt s.data.toList 1 % 64 : Nat)) + (bt s.data.toList 2 % 64 : Nat)) + (bt s.data.toList 3 % 64 : Nat) := by simp [numberD, hl]
  rw [hn]
  clear hn hl
  generalize bt s.data.toList 0 = b0 at *
  generalize bt s.data.toList 1 = b1 at *
  generalize bt s.data.toList 2 = b2 at *
  generalize bt s.data.toList 3 = b3 at *
  go_enter Tryd.func31, Tryd.ntmps31
  go_wp2
  go_rounds 5
  go_ret
  exact ⟨ret_int (by omega), rfl⟩

theorem number_any (s : ByteArray) (w : World) (h1 : 1 ≤ s.size) (h4 : s.size ≤ 4) :
    Calls Tryd.prog 31 #[.string s] w fun e w' => e = .returned (.int .i32 (numberD s.data.toList)) ∧ w = w' := by
  rcases (by omega : s.size = 1 ∨ s.size = 2 ∨ s.size = 3 ∨ s.size = 4) with h | h | h | h
  · exact number_1 s w h
  · exact number_2 s w h
  · exact number_3 s w h
  · exact number_4 s w h
end Go.Proofs.YtnjljcgapijadaaDoor
