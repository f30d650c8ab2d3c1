/- The reference's Valid. -/
import Derived.Test.YthlinmkengoliaaGreatDoorZB
import Derived.Test.YthlinmkengoliaaGreatDoorZA
set_option linter.unusedVariables false
namespace Go.Proofs.YthlinmkengoliaaGreatDoor
open Go.RowKit Go.Ms Go.Lib
set_option maxHeartbeats 400000 in
theorem rput_any (r : Int) (h0 : -2147483648 ≤ r) (h1 : r ≤ 2147483647) (w : World) :
    Calls Tryz.prog 184 #[.int .i32 r] w fun e w' => e = .returned (.tuple #[.string ⟨(put r).toArray⟩, .bool (isRune r)]) ∧ Below w.heap.size w w' := by
 have kc1 := fun (w : World) (n : Nat) (hn : n = w.heap.size) (a : Int) => conv_new (P := Tryz.prog) w n hn 77 5 Tryz.underlying77 Tryz.underlying5 [a] 9 Tryz.underlying9
 have kc2 := fun (w : World) (n : Nat) (hn : n = w.heap.size) (a b : Int) => conv_new (P := Tryz.prog) w n hn 77 5 Tryz.underlying77 Tryz.underlying5 [a, b] 9 Tryz.underlying9
 have kc3 := fun (w : World) (n : Nat) (hn : n = w.heap.size) (a b c : Int) => conv_new (P := Tryz.prog) w n hn 77 5 Tryz.underlying77 Tryz.underlying5 [a, b, c] 9 Tryz.underlying9
 have kc4 := fun (w : World) (n : Nat) (hn : n = w.heap.size) (a b c d : Int) => conv_new (P := Tryz.prog) w n hn 77 5 Tryz.underlying77 Tryz.underlying5 [a, b, c, d] 9 Tryz.underlying9
 simp only [List.map_cons, List.map_nil, List.length_cons, List.length_nil, Nat.zero_add, Nat.reduceAdd] at kc1 kc2 kc3 kc4
 by_cases c1 : r < 0 ∨ (55296 ≤ r ∧ r ≤ 57343) ∨ 1114111 < r
 · have hn : isRune r = false := by rw [Bool.eq_false_iff]; intro h; rw [isRune_iff] at h; omega
   rw [hn, put_none hn]; clear hn
   rcases c1 with c | ⟨c, d⟩ | c
   · go_enter Tryz.func184, Tryz.ntmps184
     go_wp2
     go_ret2
     exact ⟨rfl, Below.refl _ _⟩
   · have c' : ¬ r < 0 := by omega
     go_enter Tryz.func184, Tryz.ntmps184
     go_wp2
     go_ret2
     exact ⟨rfl, Below.refl _ _⟩
   · have c' : ¬ r < 0 := by omega
     go_enter Tryz.func184, Tryz.ntmps184
     go_wp2
     go_ret2
     exact ⟨rfl, Below.refl _ _⟩
 have hn : isRune r = true := by rw [isRune_iff]; omega
 rw [hn, put_rune hn, ← strNums_enc]; clear hn
 have c0 : 0 ≤ r := by omega
 have c0' : ¬ r < 0 := by omega
 have c3 : r ≤ 1114111 := by omega
 by_cases d1 : r < 128
 · rw [encodeRuneZ_one c0 (by omega)]; clear c1
   go_enter Tryz.func184, Tryz.ntmps184
   go_wp2
   all_goals go_ret2
   all_goals exact ⟨rfl, (Below.refl _ _).alloc (Nat.le_refl _) _⟩
 by_cases d2 : r < 2048
 · rw [encodeRuneZ_two (by omega) (by omega)]; clear c1
   go_enter Tryz.func184, Tryz.ntmps184
   go_wp2
   all_goals go_ret2
   all_goals exact ⟨rfl, ((Below.refl _ _).alloc (Nat.le_refl _) _).alloc (by simp) _⟩
 by_cases d3 : r < 65536
 · rw [encodeRuneZ_three (by omega)]
   have d4 : r < 55296 ∨ 57343 < r := by omega
   rcases d4 with d4 | d4
   all_goals
    clear c1
    go_enter Tryz.func184, Tryz.ntmps184
    go_wp2
    all_goals go_ret2
    all_goals exact ⟨rfl, ((Below.refl _ _).alloc (Nat.le_refl _) _).alloc (by simp) _⟩
 · rw [encodeRuneZ_four (by omega) (by omega)]; clear c1
   go_enter Tryz.func184, Tryz.ntmps184
   go_wp2
   all_goals go_ret2
   all_goals exact ⟨rfl, ((Below.refl _ _).alloc (Nat.le_refl _) _).alloc (by simp) _⟩
set_option maxHeartbeats 400000 in
theorem number_1 (s : ByteArray) (w : World) (h : s.size = 1) :
    Calls Tryz.prog 183 #[.string s] w fun e w' => e = .returned (.int .i32 (numberD s.data.toList)) ∧ w = w' := by
 have hl : s.data.toList.length = 1 := by simpa using h
 have hb0 := bt_lt s.data.toList 0
 have g0 : (s[0]'(by omega)).toNat = bt s.data.toList 0 := by rw [get_of]; rfl
 have hn : numberD s.data.toList = (bt s.data.toList 0 : Int) := by simp [numberD, hl]
 rw [hn]; clear hn hl
 generalize bt s.data.toList 0 = b0 at *
 go_enter Tryz.func183, Tryz.ntmps183
 go_wp2
 go_rounds 5
 go_ret
 exact ⟨ret_int (by omega), rfl⟩
set_option maxHeartbeats 400000 in
theorem number_2 (s : ByteArray) (w : World) (h : s.size = 2) :
    Calls Tryz.prog 183 #[.string s] w fun e w' => e = .returned (.int .i32 (numberD s.data.toList)) ∧ w = w' := by
 have hl : s.data.toList.length = 2 := by simpa using h
 have hb0 := bt_lt s.data.toList 0
 have g0 : (s[0]'(by omega)).toNat = bt s.data.toList 0 := by rw [get_of]; rfl
 have hb1 := bt_lt s.data.toList 1
 have g1 : (s[1]'(by omega)).toNat = bt s.data.toList 1 := by rw [get_of]; rfl
 have hn : numberD s.data.toList = 64 * (bt s.data.toList 0 % 32 : Nat) + (bt s.data.toList 1 % 64 : Nat) := by simp [numberD, hl]
 rw [hn]; clear hn hl
 generalize bt s.data.toList 0 = b0 at *
 generalize bt s.data.toList 1 = b1 at *
 go_enter Tryz.func183, Tryz.ntmps183
 go_wp2
 go_rounds 5
 go_ret
 exact ⟨ret_int (by omega), rfl⟩
set_option maxHeartbeats 400000 in
theorem number_3 (s : ByteArray) (w : World) (h : s.size = 3) :
    Calls Tryz.prog 183 #[.string s] w fun e w' => e = .returned (.int .i32 (numberD s.data.toList)) ∧ w = w' := by
 have hl : s.data.toList.length = 3 := by simpa using h
 have hb0 := bt_lt s.data.toList 0
 have g0 : (s[0]'(by omega)).toNat = bt s.data.toList 0 := by rw [get_of]; rfl
 have hb1 := bt_lt s.data.toList 1
 have g1 : (s[1]'(by omega)).toNat = bt s.data.toList 1 := by rw [get_of]; rfl
 have hb2 := bt_lt s.data.toList 2
 have g2 : (s[2]'(by omega)).toNat = bt s.data.toList 2 := by rw [get_of]; rfl
 have hn : numberD s.data.toList = 64 * (64 * (bt s.data.toList 0 % 16 : Nat) + (bt s.data.toList 1 % 64 : Nat)) + (bt s.data.toList 2 % 64 : Nat) := by simp [numberD, hl]
 rw [hn]; clear hn hl
 generalize bt s.data.toList 0 = b0 at *
 generalize bt s.data.toList 1 = b1 at *
 generalize bt s.data.toList 2 = b2 at *
 go_enter Tryz.func183, Tryz.ntmps183
 go_wp2
 go_rounds 5
 go_ret
 exact ⟨ret_int (by omega), rfl⟩
set_option maxHeartbeats 400000 in
theorem number_4 (s : ByteArray) (w : World) (h : s.size = 4) :
    Calls Tryz.prog 183 #[.string s] w fun e w' => e = .returned (.int .i32 (numberD s.data.toList)) ∧ w = w' := by
 have hl : s.data.toList.length = 4 := by simpa using h
 have hb0 := bt_lt s.data.toList 0
 have g0 : (s[0]'(by omega)).toNat = bt s.data.toList 0 := by rw [get_of]; rfl
 have hb1 := bt_lt s.data.toList 1
 have g1 : (s[1]'(by omega)).toNat = bt s.data.toList 1 := by rw [get_of]; rfl
 have hb2 := bt_lt s.data.toList 2
 have g2 : (s[2]'(by omega)).toNat = bt s.data.toList 2 := by rw [get_of]; rfl
 have hb3 := bt_lt s.data.toList 3
 have g3 : (s[3]'(by omega)).toNat = bt s.data.toList 3 := by rw [get_of]; rfl
 have hn : numberD s.data.toList = 64 * (64 * (64 * (bt s.data.toList 0 % 8 : Nat) + (bt s.data.toList 1 % 64 : Nat)) + (bt s.data.toList 2 % 64 : Nat)) + (bt s.data.toList 3 % 64 : Nat) := by simp [numberD, hl]
 rw [hn]; clear hn hl
 generalize bt s.data.toList 0 = b0 at *
 generalize bt s.data.toList 1 = b1 at *
 generalize bt s.data.toList 2 = b2 at *
 generalize bt s.data.toList 3 = b3 at *
 go_enter Tryz.func183, Tryz.ntmps183
 go_wp2
 go_rounds 5
 go_ret
 exact ⟨ret_int (by omega), rfl⟩
theorem number_any (s : ByteArray) (w : World) (h1 : 1 ≤ s.size) (h4 : s.size ≤ 4) :
    Calls Tryz.prog 183 #[.string s] w fun e w' => e = .returned (.int .i32 (numberD s.data.toList)) ∧ w = w' := by
 rcases (by omega : s.size = 1 ∨ s.size = 2 ∨ s.size = 3 ∨ s.size = 4) with h | h | h | h
 · exact number_1 s w h
 · exact number_2 s w h
 · exact number_3 s w h
 · exact number_4 s w h
end Go.Proofs.YthlinmkengoliaaGreatDoor
namespace Go.Proofs.YthlinmkengoliaaGreatDoor
open Go.RowKit Go.Ms Go.Lib
theorem numberD_bd (l : Bs) : 0 ≤ numberD l ∧ numberD l ≤ 2097151 := by
 have h0 := bt_lt l 0; have h1 := bt_lt l 1; have h2 := bt_lt l 2; have h3 := bt_lt l 3
 unfold numberD
 repeat' split
 all_goals omega
set_option maxHeartbeats 400000 in
theorem rnext_any (s : ByteArray) (w : World) (hs : s.size ≤ 1000000) :
    Calls Tryz.prog 155 #[.string s] w fun e w' => e = .returned (.tuple #[.int .i32 (nextD s.data.toList).1, .int .i64 (nextD s.data.toList).2.1, .bool (nextD s.data.toList).2.2]) ∧ Below w.heap.size w w' := by
 have hlen : s.data.toList.length = s.size := by simp
 go_enter Tryz.func155, Tryz.ntmps155
 go_wp2
 go_loopw [5] (fun i wr => ∃ k : Nat, 1 ≤ k ∧ k ≤ 5 ∧ k ≤ s.size + 1 ∧ i = .int .i64 k ∧ Hid (∀ n, 1 ≤ n → n < k → Ms.hit s.data.toList n = false) ∧ Below w.heap.size w wr)
              (fun i _ => 5 - (RowKit.intOf i).toNat)
 case atStart => exact ⟨1, by omega, by omega, by omega, rfl, fun n a b => by omega, Below.refl _ _⟩
 case round =>
  obtain ⟨k, h1, h5, hk, rfl, hno, hb⟩ := hrel
  by_cases hlt : k ≤ 4 ∧ k ≤ s.size
  · obtain ⟨h4, hks⟩ := hlt
    have hsz : (s.extract 0 k).size = k := by simp; omega
    have hbd := numberD_bd (s.data.toList.take k)
    have hext : (s.extract 0 k).toList = s.data.toList.take k := by rw [Lib.toList_data, ext_list]; simp
    have Hext := Lib.hid hext; clear hext
    go_wp2_with (go_at_call 183; refine (number_any _ _ (by rw [hsz]; omega) (by rw [hsz]; omega)).mono ?_; rintro e w' ⟨rfl, rfl⟩)
    refine (rput_any _ (by omega) (by omega) _).mono ?_; rintro e w' ⟨rfl, hb1⟩
    go_wp2_with fail
    · have e1 : isRune (numberD (List.take k s.data.toList)) = true := by assumption
      have e2 : (put (numberD (List.take k s.data.toList)) == (s.extract 0 k).toList) = true := by assumption
      rw [Hext.out] at e2; have hh := hit_next s.data.toList k (by omega) (by unfold Ms.hit; rw [e1, e2]; rfl)
      go_ret3
      rw [hh]; exact ⟨ret3n (isRune_nat e1).symm rfl rfl, hb.trans (hb1.mono hb.size)⟩
    all_goals
     go_roundw
     case rel =>
      refine ⟨k + 1, by omega, by omega, by omega, by go_num, fun n a b => ?_, hb.trans (hb1.mono hb.size)⟩
      by_cases hn : n = k
      · subst hn; unfold Ms.hit
        first
        | (have e2 : (put (numberD (List.take n s.data.toList)) == (s.extract 0 n).toList) = false := by assumption
           rw [Hext.out] at e2; rw [e2]; simp)
        | (have e1 : ¬ isRune (numberD (List.take n s.data.toList)) = true := by assumption
           rw [Bool.eq_false_iff.2 e1]; rfl)
      · exact hno.out n a (by omega)
     case measure => simp [RowKit.intOf]; omega
  · have hnn := no_hit s.data.toList (fun n a b c => hno.out n a (by omega)); have Hnn := Lib.hid hnn; clear hnn
    have hl2 : (5 : Nat) ≤ k ∨ s.size < k := by omega
    rcases hl2 with hl2 | hl2
    · have hl3 : ¬ ((k : Int) ≤ 4) := by omega
      go_wp2_with fail
      go_ret3
      rw [Hnn.out]; exact ⟨rfl, hb⟩
    · have hl3 : ¬ (k : Int) ≤ (s.size : Int) := by omega
      go_wp2_with fail
      all_goals
       go_ret3
       rw [Hnn.out]; exact ⟨rfl, hb⟩
end Go.Proofs.YthlinmkengoliaaGreatDoor
namespace Go.Proofs.YthlinmkengoliaaGreatDoor
open Go.RowKit Go.Ms Go.Lib
def strSize : Value → Nat
  | .string s => s.size
  | _ => 0
set_option maxHeartbeats 400000 in
theorem rvalid_any (s0 : ByteArray) (w : World) (hs : s0.size ≤ 1000000) :
    Calls Tryz.prog 127 #[.string s0] w fun e w' => e = .returned (.bool (validD s0.data.toList)) ∧ Below w.heap.size w w' := by
 obtain ⟨V, hV⟩ : ∃ V, validD s0.data.toList = V := ⟨_, rfl⟩; rw [hV]; have HV := Lib.hid hV; clear hV
 go_enter Tryz.func127, Tryz.ntmps127
 go_wp2
 go_loopw [0] (fun x wr => ∃ s : ByteArray, x = .string s ∧ s.size ≤ 1000000 ∧ Hid (validD s.data.toList = V) ∧ Below w.heap.size w wr) (fun x _ => strSize x)
 case atStart => exact ⟨s0, rfl, hs, HV, Below.refl _ _⟩
 case round =>
  obtain ⟨s, rfl, hsz, hv, hb⟩ := hrel
  have hl : s.data.toList.length = s.size := by simp
  by_cases h0 : s.size = 0
  · have hnil : s.data.toList = [] := List.eq_nil_of_length_eq_zero (by omega)
    have hvt : V = true := by rw [← hv.out, hnil]; rfl
    subst hvt
    have hlt : ¬ (0 : Int) < (s.size : Int) := by omega
    clear hnil h0
    go_wp2_with fail
    go_ret
    exact ⟨rfl, hb⟩
  · have hne : s.data.toList ≠ [] := by intro e; rw [e] at hl; simp at hl; omega
    have hlt : (0 : Int) < (s.size : Int) := by omega
    have hv1 := hv.out; rw [valid_next _ hne] at hv1
    have cn := fun w => rnext_any s w hsz
    rcases next_cases s.data.toList with e | ⟨r, h1, h2, h3⟩
    · rw [e] at cn hv1
      simp at hv1
      subst hv1; have CN := Lib.hid cn; clear cn e hne hl h0 hv
      go_wp2_with fail
      refine (CN.out _).mono ?_; rintro en w1 ⟨rfl, b1⟩
      go_wp2_with fail
      go_ret
      exact ⟨rfl, hb.trans (b1.mono hb.size)⟩
    · rw [h2] at cn hv1; simp only [if_true] at hv1; have hle := encodeRune_length r; have hll := congrArg List.length h3; rw [List.length_append, List.length_drop] at hll
      generalize (encodeRune r).length = n at *
      have hn : n ≤ s.size := by omega
      have hext : (s.extract n s.size).data.toList = s.data.toList.drop n := by rw [ext_list, List.take_of_length_le (by omega)]
      rw [← hext] at hv1
      have hz : (s.extract n s.size).size = s.size - n := by simp
      have hv' := Lib.hid hv1; have hz' := Lib.hid hz; have CN := Lib.hid cn; have hn1 := hle.1
      have hni : (n : Int) ≤ (s.size : Int) := by omega
      clear cn h2 h3 hne hl hv hext hv1 hz h1 h0 hll hle
      go_wp2_with fail
      refine (CN.out _).mono ?_; rintro en w1 ⟨rfl, b1⟩
      go_wp2_with fail
      go_roundw
      case rel => exact ⟨_, rfl, by rw [hz'.out]; omega, hv', hb.trans (b1.mono hb.size)⟩
      case measure => simp only [strSize]; rw [hz'.out]; omega
end Go.Proofs.YthlinmkengoliaaGreatDoor
