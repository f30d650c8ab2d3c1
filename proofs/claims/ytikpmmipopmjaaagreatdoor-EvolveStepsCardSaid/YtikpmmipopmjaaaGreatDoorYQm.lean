/- The reference's Valid. The reference of the cells: which types and cells may be; how two stand. The reference of the cells: Check. The reference's begins. What the reader takes for a literal is one: a row of parts between quotes. A literal that is cut off anywhere is ErrTrunc. The short escapes. What the reference answers of an escape, way by way. The reference's escape. The steps of Unquote's loop, as the reference takes them. The reference's Unquote. The reference's Quote. The reference of the cells: whole numbers' texts; hex. The reference of the cells: Text. The reference of the cells: Bits. Bounds of whole numbers. The reference of the cells: Bits, whole. CellWrites: the walk. The reference of the cells: Whole. The reference of the cells: Unhex. The reference of the cells: Unhex, the walk. The reference of the cells: run, the walk. The reference of the cells: what Read answers, in plain terms. The reference of the cells: guess, the walk. The reference of the cells: bare, the walk. The reference of the cells: Unbits. Rows: what is known of cells. Rows: cells stand while only new blocks are written. -/
import Derived.Test.YtikpmmipopmjaaaGreatDoorYQl
import Derived.Test.YtikpmmipopmjaaaGreatDoorYQc
import Derived.Test.YtikpmmipopmjaaaGreatDoorYQf
import Derived.Test.YtikpmmipopmjaaaGreatDoorYQb
import Derived.Test.YtikpmmipopmjaaaGreatDoorYQi
import Derived.Test.YtikpmmipopmjaaaGreatDoorYQk
import Derived.Deep.RegionHeld3
import Derived.Deep.RegionLaw
import Derived.Deep.RegionWith
set_option linter.unusedVariables false
namespace Go.Proofs.YtikpmmipopmjaaaGreatDoor
open Go.RowKit Go.Ms Go.Lib
theorem numberD_bd (l : Bs) : 0 ≤ numberD l ∧ numberD l ≤ 2097151 := by
 have h0 := bt_lt l 0; have h1 := bt_lt l 1; have h2 := bt_lt l 2; have h3 := bt_lt l 3
 unfold numberD
 repeat' split
 all_goals omega
set_option maxHeartbeats 400000 in
theorem rnext_any (s : ByteArray) (w : World) (hs : s.size ≤ 1000000) :
    Calls Tryz.prog 166 #[.string s] w fun e w' => e = .returned (.tuple #[.int .i32 (nextD s.data.toList).1, .int .i64 (nextD s.data.toList).2.1, .bool (nextD s.data.toList).2.2]) ∧ Below w.heap.size w w' := by
 have hlen : s.data.toList.length = s.size := by simp
 go_enter Tryz.func166, Tryz.ntmps166
 go_wp2
 go_loopw [5] (fun i wr => ∃ k : Nat, 1 ≤ k ∧ k ≤ 5 ∧ k ≤ s.size + 1 ∧ i = .int .i64 k ∧ Hid (∀ n, 1 ≤ n → n < k → Ms.hit s.data.toList n = false) ∧ Below w.heap.size w wr)
              (fun i _ => 5 - (RowKit.intOf i).toNat)
 case atStart => exact ⟨1, by omega, by omega, by omega, rfl, fun n a b => by omega, Below.refl _ _⟩
 case round =>
  obtain ⟨k, h1, h5, hk, rfl, hno, hb⟩ := hrel
  by_cases hlt : k ≤ 4 ∧ k ≤ s.size
  · obtain ⟨h4, hks⟩ := hlt
    have hsz : (s.extract 0 k).size = k := by simp; omega
    have hbd := numberD_bd (s.data.toList.take k)
    have hext : (s.extract 0 k).toList = s.data.toList.take k := by rw [Lib.toList_data, ext_list]; simp
    have Hext := Lib.hid hext; clear hext
    go_wp2_with (go_at_call 190; refine (number_any _ _ (by rw [hsz]; omega) (by rw [hsz]; omega)).mono ?_; rintro e w' ⟨rfl, rfl⟩)
    refine (rput_any _ (by omega) (by omega) _).mono ?_; rintro e w' ⟨rfl, hb1⟩
    go_wp2_with fail
    · have e1 : isRune (numberD (List.take k s.data.toList)) = true := by assumption
      have e2 : (put (numberD (List.take k s.data.toList)) == (s.extract 0 k).toList) = true := by assumption
      rw [Hext.out] at e2; have hh := hit_next s.data.toList k (by omega) (by unfold Ms.hit; rw [e1, e2]; rfl)
      go_ret3
      rw [hh]; exact ⟨ret3n (isRune_nat e1).symm rfl rfl, hb.trans (hb1.mono hb.size)⟩
    all_goals
     go_roundw
     case rel =>
      refine ⟨k + 1, by omega, by omega, by omega, by go_num, fun n a b => ?_, hb.trans (hb1.mono hb.size)⟩
      by_cases hn : n = k
      · subst hn; unfold Ms.hit
        first
        | (have e2 : (put (numberD (List.take n s.data.toList)) == (s.extract 0 n).toList) = false := by assumption
           rw [Hext.out] at e2; rw [e2]; simp)
        | (have e1 : ¬ isRune (numberD (List.take n s.data.toList)) = true := by assumption
           rw [Bool.eq_false_iff.2 e1]; rfl)
      · exact hno.out n a (by omega)
     case measure => simp [RowKit.intOf]; omega
  · have hnn := no_hit s.data.toList (fun n a b c => hno.out n a (by omega)); have Hnn := Lib.hid hnn; clear hnn
    have hl2 : (5 : Nat) ≤ k ∨ s.size < k := by omega
    rcases hl2 with hl2 | hl2
    · have hl3 : ¬ ((k : Int) ≤ 4) := by omega
      go_wp2_with fail
      go_ret3
      rw [Hnn.out]; exact ⟨rfl, hb⟩
    · have hl3 : ¬ (k : Int) ≤ (s.size : Int) := by omega
      go_wp2_with fail
      all_goals
       go_ret3
       rw [Hnn.out]; exact ⟨rfl, hb⟩
end Go.Proofs.YtikpmmipopmjaaaGreatDoor
namespace Go.Proofs.YtikpmmipopmjaaaGreatDoor
open Go.RowKit Go.Ms Go.Lib
def strSize : Value → Nat
  | .string s => s.size
  | _ => 0
set_option maxHeartbeats 400000 in
theorem rvalid_any (s0 : ByteArray) (w : World) (hs : s0.size ≤ 1000000) :
    Calls Tryz.prog 140 #[.string s0] w fun e w' => e = .returned (.bool (validD s0.data.toList)) ∧ Below w.heap.size w w' := by
 obtain ⟨V, hV⟩ : ∃ V, validD s0.data.toList = V := ⟨_, rfl⟩; rw [hV]; have HV := Lib.hid hV; clear hV
 go_enter Tryz.func140, Tryz.ntmps140
 go_wp2
 go_loopw [0] (fun x wr => ∃ s : ByteArray, x = .string s ∧ s.size ≤ 1000000 ∧ Hid (validD s.data.toList = V) ∧ Below w.heap.size w wr) (fun x _ => strSize x)
 case atStart => exact ⟨s0, rfl, hs, HV, Below.refl _ _⟩
 case round =>
  obtain ⟨s, rfl, hsz, hv, hb⟩ := hrel
  have hl : s.data.toList.length = s.size := by simp
  by_cases h0 : s.size = 0
  · have hnil : s.data.toList = [] := List.eq_nil_of_length_eq_zero (by omega)
    have hvt : V = true := by rw [← hv.out, hnil]; rfl
    subst hvt
    have hlt : ¬ (0 : Int) < (s.size : Int) := by omega
    clear hnil h0
    go_wp2_with fail
    go_ret
    exact ⟨rfl, hb⟩
  · have hne : s.data.toList ≠ [] := by intro e; rw [e] at hl; simp at hl; omega
    have hlt : (0 : Int) < (s.size : Int) := by omega
    have hv1 := hv.out; rw [valid_next _ hne] at hv1
    have cn := fun w => rnext_any s w hsz
    rcases next_cases s.data.toList with e | ⟨r, h1, h2, h3⟩
    · rw [e] at cn hv1
      simp at hv1
      subst hv1; have CN := Lib.hid cn; clear cn e hne hl h0 hv
      go_wp2_with fail
      refine (CN.out _).mono ?_; rintro en w1 ⟨rfl, b1⟩
      go_wp2_with fail
      go_ret
      exact ⟨rfl, hb.trans (b1.mono hb.size)⟩
    · rw [h2] at cn hv1; simp only [if_true] at hv1; have hle := encodeRune_length r; have hll := congrArg List.length h3; rw [List.length_append, List.length_drop] at hll
      generalize (encodeRune r).length = n at *
      have hn : n ≤ s.size := by omega
      have hext : (s.extract n s.size).data.toList = s.data.toList.drop n := by rw [ext_list, List.take_of_length_le (by omega)]
      rw [← hext] at hv1
      have hz : (s.extract n s.size).size = s.size - n := by simp
      have hv' := Lib.hid hv1; have hz' := Lib.hid hz; have CN := Lib.hid cn; have hn1 := hle.1
      have hni : (n : Int) ≤ (s.size : Int) := by omega
      clear cn h2 h3 hne hl hv hext hv1 hz h1 h0 hll hle
      go_wp2_with fail
      refine (CN.out _).mono ?_; rintro en w1 ⟨rfl, b1⟩
      go_wp2_with fail
      go_roundw
      case rel => exact ⟨_, rfl, by rw [hz'.out]; omega, hv', hb.trans (b1.mono hb.size)⟩
      case measure => simp only [strSize]; rw [hz'.out]; omega
end Go.Proofs.YtikpmmipopmjaaaGreatDoor
namespace Go.Proofs.YtikpmmipopmjaaaGreatDoor
open Go.RowKit Go.Ms Go.Lib
theorem rmay_any (k : Int) (nu : Bool) (w : World) :
    Calls Tryz.prog 96 #[.agg #[.int .i64 k, .bool nu]] w fun e w' => e = .returned (.bool (kMay k)) ∧ Below w.heap.size w w' := by
 by_cases h1 : 1 ≤ k
 · by_cases h2 : k ≤ 5
   · have hd : kMay k = true := by simp [kMay]; omega
     rw [hd]; clear hd
     go_enter Tryz.func96, Tryz.ntmps96
     go_wp2
     go_ret
     exact ⟨rfl, (Below.refl _ _).alloc (Nat.le_refl _) _⟩
   · have hd : kMay k = false := by simp [kMay]; omega
     rw [hd]; clear hd
     go_enter Tryz.func96, Tryz.ntmps96
     go_wp2
     go_ret
     exact ⟨rfl, (Below.refl _ _).alloc (Nat.le_refl _) _⟩
 · have hd : kMay k = false := by simp [kMay]; omega
   rw [hd]; clear hd
   go_enter Tryz.func96, Tryz.ntmps96
   go_wp2
   go_ret
   exact ⟨rfl, (Below.refl _ _).alloc (Nat.le_refl _) _⟩
end Go.Proofs.YtikpmmipopmjaaaGreatDoor
namespace Go.Proofs.YtikpmmipopmjaaaGreatDoor
open Go.RowKit Go.Ms Go.Lib
theorem rof_null (k : Int) (tn : Bool) (n : Int) (S : ByteArray) (w : World) :
    Calls Tryz.prog 97 #[.agg #[.int .i64 k, .bool tn], .agg #[.bool true, .int .i64 n, .string S]] w fun e w' => e = .returned (.bool (tn && decide (n = 0) && decide (S.data.toList = []))) ∧ Below w.heap.size w w' := by
 cases tn with
 | false =>
  simp only [Bool.false_and]
  go_enter Tryz.func97, Tryz.ntmps97
  go_wp2
  go_ret
  exact ⟨rfl, ((Below.refl _ _).alloc (Nat.le_refl _) _).alloc (by simp) _⟩
 | true =>
  by_cases hn : n = 0
  · subst hn
    by_cases hS : S.data.toList = []
    · obtain rfl : S = ⟨#[]⟩ := ba_ext hS; simp only [decide_true, Bool.and_true]
      go_enter Tryz.func97, Tryz.ntmps97
      go_wp2
      go_ret
      exact ⟨rfl, ((Below.refl _ _).alloc (Nat.le_refl _) _).alloc (by simp) _⟩
    · have e1 : (S.toList == []) = false := by rw [Lib.toList_data]; simpa using hS
      have e2 : ¬ S.toList = [] := by rw [Lib.toList_data]; exact hS
      have e3 : S.toList.isEmpty = false := by rw [Lib.toList_data]; simpa using hS
      rw [decide_eq_false hS, Bool.and_false]; clear hS
      go_enter Tryz.func97, Tryz.ntmps97
      go_wp2
      go_ret
      exact ⟨rfl, ((Below.refl _ _).alloc (Nat.le_refl _) _).alloc (by simp) _⟩
  · have e1 : (n == 0) = false := by simpa using hn
    rw [decide_eq_false hn, Bool.and_false, Bool.false_and]; clear hn
    go_enter Tryz.func97, Tryz.ntmps97
    go_wp2
    go_ret
    exact ⟨rfl, ((Below.refl _ _).alloc (Nat.le_refl _) _).alloc (by simp) _⟩
theorem rof_num (k : Int) (hk : k = 1 ∨ k = 2 ∨ k = 3) (tn : Bool) (n : Int) (S : ByteArray) (w : World) (b0 : -9223372036854775808 ≤ n) (b1 : n ≤ 9223372036854775807) :
    Calls Tryz.prog 97 #[.agg #[.int .i64 k, .bool tn], .agg #[.bool false, .int .i64 n, .string S]] w fun e w' => e = .returned (.bool (kIs k n S.data.toList)) ∧ Below w.heap.size w w' := by
 by_cases hS : S.data.toList = []
 · obtain rfl : S = ⟨#[]⟩ := ba_ext hS; clear hS
   rcases hk with rfl | rfl | rfl
   · have hd : kIs 1 n (⟨#[]⟩ : ByteArray).data.toList = (decide (n = 0) || decide (n = 1)) := by
       rw [Bool.eq_iff_iff, is1, Bool.or_eq_true, decide_eq_true_iff, decide_eq_true_iff]; exact ⟨fun h => by omega, fun h => ⟨rfl, by omega, by omega⟩⟩
     rw [hd]; clear hd
     by_cases h0 : n = 0
     · subst h0
       go_enter Tryz.func97, Tryz.ntmps97
       go_wp2
       go_ret
       exact ⟨rfl, ((Below.refl _ _).alloc (Nat.le_refl _) _).alloc (by simp) _⟩
     · have q0 : (n == 0) = false := by simpa using h0
       rw [decide_eq_false h0, Bool.false_or]
       by_cases h1 : n = 1
       · subst h1; clear h0
         go_enter Tryz.func97, Tryz.ntmps97
         go_wp2
         go_ret
         exact ⟨rfl, ((Below.refl _ _).alloc (Nat.le_refl _) _).alloc (by simp) _⟩
       · have q1 : (n == 1) = false := by simpa using h1
         rw [decide_eq_false h1]; clear h0 h1
         go_enter Tryz.func97, Tryz.ntmps97
         go_wp2
         go_ret
         exact ⟨rfl, ((Below.refl _ _).alloc (Nat.le_refl _) _).alloc (by simp) _⟩
   · by_cases h0 : -2147483648 ≤ n
     · by_cases h1 : n ≤ 2147483647
       · rw [show kIs 2 n (⟨#[]⟩ : ByteArray).data.toList = true from is2.2 ⟨rfl, h0, h1⟩]
         go_enter Tryz.func97, Tryz.ntmps97
         go_wp2
         go_ret
         exact ⟨rfl, ((Below.refl _ _).alloc (Nat.le_refl _) _).alloc (by simp) _⟩
       · rw [show kIs 2 n (⟨#[]⟩ : ByteArray).data.toList = false from by rw [← Bool.not_eq_true]; exact fun h => h1 (is2.1 h).2.2]
         go_enter Tryz.func97, Tryz.ntmps97
         go_wp2
         go_ret
         exact ⟨rfl, ((Below.refl _ _).alloc (Nat.le_refl _) _).alloc (by simp) _⟩
     · rw [show kIs 2 n (⟨#[]⟩ : ByteArray).data.toList = false from by rw [← Bool.not_eq_true]; exact fun h => h0 (is2.1 h).2.1]
       go_enter Tryz.func97, Tryz.ntmps97
       go_wp2
       go_ret
       exact ⟨rfl, ((Below.refl _ _).alloc (Nat.le_refl _) _).alloc (by simp) _⟩
   · rw [show kIs 3 n (⟨#[]⟩ : ByteArray).data.toList = true from is3.2 ⟨rfl, b0, b1⟩]
     go_enter Tryz.func97, Tryz.ntmps97
     go_wp2
     go_ret
     exact ⟨rfl, ((Below.refl _ _).alloc (Nat.le_refl _) _).alloc (by simp) _⟩
 · have e1 : (S.toList == []) = false := by rw [Lib.toList_data]; simpa using hS
   have e2 : ¬ S.toList = [] := by rw [Lib.toList_data]; exact hS
   have e3 : S.toList.isEmpty = false := by rw [Lib.toList_data]; simpa using hS
   rcases hk with rfl | rfl | rfl
   · rw [show kIs 1 n S.data.toList = false from by rw [← Bool.not_eq_true]; exact fun h => hS (is1.1 h).1]; clear hS
     go_enter Tryz.func97, Tryz.ntmps97
     go_wp2
     go_ret
     exact ⟨rfl, ((Below.refl _ _).alloc (Nat.le_refl _) _).alloc (by simp) _⟩
   · rw [show kIs 2 n S.data.toList = false from by rw [← Bool.not_eq_true]; exact fun h => hS (is2.1 h).1]; clear hS
     go_enter Tryz.func97, Tryz.ntmps97
     go_wp2
     go_ret
     exact ⟨rfl, ((Below.refl _ _).alloc (Nat.le_refl _) _).alloc (by simp) _⟩
   · rw [show kIs 3 n S.data.toList = false from by rw [← Bool.not_eq_true]; exact fun h => hS (is3.1 h).1]; clear hS
     go_enter Tryz.func97, Tryz.ntmps97
     go_wp2
     go_ret
     exact ⟨rfl, ((Below.refl _ _).alloc (Nat.le_refl _) _).alloc (by simp) _⟩
theorem rof_str (k : Int) (hk : k = 4 ∨ k = 5) (tn : Bool) (n : Int) (S : ByteArray) (w : World) (hs : S.size ≤ 100000) :
    Calls Tryz.prog 97 #[.agg #[.int .i64 k, .bool tn], .agg #[.bool false, .int .i64 n, .string S]] w fun e w' => e = .returned (.bool (kIs k n S.data.toList)) ∧ Below w.heap.size w w' := by
 have cv := fun w => rvalid_any S w (by omega)
 have hl := lenS S
 by_cases hn : n = 0
 · subst hn
   by_cases hz : S.size ≤ 1024
   · have hzi : (S.size : Int) ≤ 1024 := by omega
     rcases hk with rfl | rfl
     · have hd : kIs 4 0 S.data.toList = validD S.data.toList := by
         rw [Bool.eq_iff_iff, is4]; exact ⟨fun h => h.2.2, fun h => ⟨rfl, by omega, h⟩⟩
       rw [hd]
       generalize validD S.data.toList = V at *
       have CV := Lib.hid cv; clear cv hl hd
       go_enter Tryz.func97, Tryz.ntmps97
       go_wp2_with fail
       refine (CV.out _).mono ?_; rintro en w1 ⟨rfl, b1⟩
       go_wp2_with fail
       go_ret
       exact ⟨rfl, (((Below.refl _ _).alloc (Nat.le_refl _) _).alloc (by simp) _).trans (b1.mono (by simp; omega))⟩
     · rw [show kIs 5 0 S.data.toList = true from is5.2 ⟨rfl, by omega⟩]; clear cv hl
       go_enter Tryz.func97, Tryz.ntmps97
       go_wp2
       go_ret
       exact ⟨rfl, ((Below.refl _ _).alloc (Nat.le_refl _) _).alloc (by simp) _⟩
   · have hzi : ¬ (S.size : Int) ≤ 1024 := by omega
     rw [show kIs k 0 S.data.toList = false from by rw [← Bool.not_eq_true]; exact fun h => hz (by have := (is45 hk h).2; omega)]; clear cv hl
     rcases hk with rfl | rfl
     · go_enter Tryz.func97, Tryz.ntmps97
       go_wp2
       go_ret
       exact ⟨rfl, ((Below.refl _ _).alloc (Nat.le_refl _) _).alloc (by simp) _⟩
     · go_enter Tryz.func97, Tryz.ntmps97
       go_wp2
       go_ret
       exact ⟨rfl, ((Below.refl _ _).alloc (Nat.le_refl _) _).alloc (by simp) _⟩
 · have q0 : (n == 0) = false := by simpa using hn
   rw [show kIs k n S.data.toList = false from by rw [← Bool.not_eq_true]; exact fun h => hn (is45 hk h).1]; clear cv hl
   rcases hk with rfl | rfl
   · go_enter Tryz.func97, Tryz.ntmps97
     go_wp2
     go_ret
     exact ⟨rfl, ((Below.refl _ _).alloc (Nat.le_refl _) _).alloc (by simp) _⟩
   · go_enter Tryz.func97, Tryz.ntmps97
     go_wp2
     go_ret
     exact ⟨rfl, ((Below.refl _ _).alloc (Nat.le_refl _) _).alloc (by simp) _⟩
theorem rof_any (k : Int) (hk : kMay k = true) (tn u : Bool) (n : Int) (S : ByteArray) (w : World) (hs : S.size ≤ 100000) (b0 : -9223372036854775808 ≤ n) (b1 : n ≤ 9223372036854775807) :
    Calls Tryz.prog 97 #[.agg #[.int .i64 k, .bool tn], .agg #[.bool u, .int .i64 n, .string S]] w fun e w' => e = .returned (.bool (kOk k tn u n S.data.toList)) ∧ Below w.heap.size w w' := by
 cases u with
 | true =>
  have h : kOk k tn true n S.data.toList = (tn && decide (n = 0) && decide (S.data.toList = [])) := rfl; rw [h]; exact rof_null k tn n S w
 | false =>
  have h : kOk k tn false n S.data.toList = kIs k n S.data.toList := by simp [kOk]
  rw [h]
  rcases may_cases hk with rfl | rfl | rfl | rfl | rfl
  · exact rof_num 1 (.inl rfl) tn n S w b0 b1
  · exact rof_num 2 (.inr (.inl rfl)) tn n S w b0 b1
  · exact rof_num 3 (.inr (.inr rfl)) tn n S w b0 b1
  · exact rof_str 4 (.inl rfl) tn n S w hs
  · exact rof_str 5 (.inr rfl) tn n S w hs
theorem rcheck_any (k : Int) (tn u : Bool) (n : Int) (S : ByteArray) (w : World) (hs : S.size ≤ 100000) (b0 : -9223372036854775808 ≤ n) (b1 : n ≤ 9223372036854775807) :
    Calls Tryz.prog 73 #[.agg #[.int .i64 k, .bool tn], .agg #[.bool u, .int .i64 n, .string S]] w fun e w' => e = .returned (.int .i64 (kCheck k tn u n S.data.toList)) ∧ Below w.heap.size w w' := by
 have cm := fun w' => rmay_any k tn w'
 have x0 := TBx.start w k tn u n S; unfold kCheck
 cases hk : kMay k with
 | false =>
  rw [if_neg (by simp)]; rw [hk] at cm
  have CM := Lib.hid cm; have X0 := Lib.hid x0
  clear cm x0 hk
  go_enter Tryz.func73, Tryz.ntmps73
  go_wp2_with fail
  refine (CM.out _).mono ?_; rintro en w1 ⟨rfl, bb1⟩
  go_wp2_with fail
  go_ret
  exact ⟨rfl, (X0.out.step bb1).bel⟩
 | true =>
  rw [if_pos rfl]; rw [hk] at cm
  have co := fun w' => rof_any k hk tn u n S w' hs b0 b1
  generalize kOk k tn u n S.data.toList = V at *
  have CM := Lib.hid cm; have X0 := Lib.hid x0; have CO := Lib.hid co
  clear cm x0 co hk
  cases V
  all_goals
   go_enter Tryz.func73, Tryz.ntmps73
   go_wp2_with fail
   refine (CM.out _).mono ?_; rintro en w1 ⟨rfl, bb1⟩; have x1 := X0.out.step bb1; obtain ⟨d0, d1, a0, a1, a2, f0, f1, f2, l0, l1⟩ := x1.cells; have X1 := Lib.hid x1; clear x1 bb1
   go_wp2_with fail
   refine (CO.out _).mono ?_; rintro en w2 ⟨rfl, bb2⟩
   go_wp2_with fail
   go_ret
   exact ⟨rfl, (X1.out.step bb2).bel⟩
end Go.Proofs.YtikpmmipopmjaaaGreatDoor
namespace Go.Proofs.YtikpmmipopmjaaaGreatDoor
open Go.RowKit Go.Ms Go.Lib
end Go.Proofs.YtikpmmipopmjaaaGreatDoor
namespace Go.Ms
open Go.Lib
end Go.Ms
namespace Go.Ms
open Go.Lib
theorem esc_three {l : Bs} {p n : Nat} {acc r : Bs} (h : l.drop p = 92 :: r) (he : (rdEscape l (p + 1) 0).2.2 = 3) : uqGo l (n + 2) acc p 0 = ([], 0, 3) := by
 obtain ⟨g1, g2, _⟩ := drop_cons h; rw [uqGo_succ, if_pos rfl, if_neg (by omega), if_neg (by rw [g2]; decide), if_pos (by rw [g2]; rfl), he, go_err _ _ _ _ (by decide)]
theorem end_three {l : Bs} {p n : Nat} {acc : Bs} (hp : p ≤ l.length) (h : l.drop p = []) : uqGo l (n + 1) acc p 0 = ([], 0, 3) := by
 have : p = l.length := by
  have := congrArg List.length h; simp at this; omega
 rw [uqGo_succ, if_pos rfl, if_pos this]
theorem w1_three {l : Bs} {p : Nat} {n : Int} (h : (rdWant l 92 p 0).2 = 3) : (rdPair l p 0 n).2.2 = 3 := by
 unfold rdPair; simp only [h, want_err _ _ _ (show (3 : Int) ≠ 0 by decide)]; rw [(half_err l true _ (by decide)).1, if_neg (by decide)]
theorem w2_three {l : Bs} {p p' : Nat} {n : Int} (h : rdWant l 92 p 0 = (p', 0)) (h2 : (rdWant l 117 p' 0).2 = 3) : (rdPair l p 0 n).2.2 = 3 := by
 unfold rdPair; simp only [h, h2]; rw [(half_err l true _ (by decide)).1, if_neg (by decide)]
theorem w3_three {l : Bs} {p p' p'' : Nat} {n : Int} (h : rdWant l 92 p 0 = (p', 0)) (h2 : rdWant l 117 p' 0 = (p'', 0)) (h3 : (rdHalf l true p'' 0).2.2 = 3) : (rdPair l p 0 n).2.2 = 3 := by
 unfold rdPair; simp only [h, h2, h3]; rw [if_neg (by decide)]
theorem long_pair {l : Bs} {p p3 : Nat} {n : Int} (h : rdHalf l false p 0 = (n, p3, 0)) (hn : 55296 ≤ n ∧ n < 56320) : rdLong l (p, 0) (0, 0) = rdPair l p3 0 n := by
 unfold rdLong; simp only [h]; rw [if_pos hn]
theorem part_cut {q t : Bs} (hq : Part q t) {l : Bs} {p j n : Nat} {acc : Bs} (hj : j < q.length) (hp : p ≤ l.length) (h : l.drop p = q.take j) : uqGo l (n + 2) acc p 0 = ([], 0, 3) := by
 have hlen := congrArg List.length h; rw [List.length_drop, List.length_take] at hlen
 cases j with
 | zero => exact end_three hp h
 | succ j =>
 cases hq with
 | rune r hr h1 h2 h3 =>
  obtain ⟨c, tl, e, ea, eh⟩ := enc_head hr; have hb := (isRune_iff r).1 hr
  have hr2 : 128 ≤ r := by
   rcases Int.lt_or_le r 128 with g | g
   · rw [enc_ascii (by omega) (by omega)] at hj; simp at hj
   · exact g
  have hc : l.drop p = c :: tl.take j := by rw [h, e]; rfl
  obtain ⟨g1, g2, _⟩ := drop_cons hc; have hx := eh hr2; have n1 := cut_none hr (j := j + 1) (by omega) hj; have n2 := cut_more hr (j := j + 1) (by omega) hj
  have hpl : rdPlain l p 0 = ([], p, (3 : Int)) := by
   unfold rdPlain; rw [if_neg (by omega), h, n1, n2]; rfl
  rw [uqGo_succ, if_pos rfl, if_neg (by omega), if_neg (by omega), if_neg (by omega), hpl, go_err _ _ _ _ (show (3 : Int) ≠ 0 by decide)]
 | slash =>
  obtain rfl : j = 0 := by simp at hj; omega
  have h' : l.drop p = 92 :: [] := h; exact esc_three h' (esc_end (by simp at hlen; omega) (drop_cons h').2.2)
 | short c k hk =>
  obtain rfl : j = 0 := by simp at hj; omega
  have h' : l.drop p = 92 :: [] := h; exact esc_three h' (esc_end (by simp at hlen; omega) (drop_cons h').2.2)
 | four c1 c2 c3 c4 k1 k2 k3 k4 ho hn =>
  have h' : l.drop p = 92 :: ([117, c1, c2, c3, c4] : Bs).take j := h; obtain ⟨g1, g2, g3⟩ := drop_cons h'
  cases j with
  | zero => exact esc_three h' (esc_end (by omega) g3)
  | succ j =>
   have g4 : l.drop (p + 1) = 117 :: ([c1, c2, c3, c4] : Bs).take j := g3; obtain ⟨g5, g6, g7⟩ := drop_cons g4; refine esc_three h' ?_; rw [esc_u g4]; exact long_err (by decide) (half_end false (by omega) (by simp at hj; omega) g7 k1 k2 k3 ho)
 | pair c1 c2 c3 c4 d1 d2 d3 d4 k1 k2 k3 k4 j1 j2 j3 j4 ho hn hp2 =>
  have h' : l.drop p = 92 :: ([117, c1, c2, c3, c4, 92, 117, d1, d2, d3, d4] : Bs).take j := h; obtain ⟨g1, g2, g3⟩ := drop_cons h'
  cases j with
  | zero => exact esc_three h' (esc_end (by omega) g3)
  | succ j =>
   have g4 : l.drop (p + 1) = 117 :: ([c1, c2, c3, c4, 92, 117, d1, d2, d3, d4] : Bs).take j := g3; obtain ⟨g5, g6, g7⟩ := drop_cons g4; refine esc_three h' ?_; rw [esc_u g4]
   by_cases hj4 : j < 4
   · have e : ([c1, c2, c3, c4, 92, 117, d1, d2, d3, d4] : Bs).take j = ([c1, c2, c3, c4] : Bs).take j := by
       rcases (by omega : j = 0 ∨ j = 1 ∨ j = 2 ∨ j = 3) with rfl | rfl | rfl | rfl <;> rfl
     rw [e] at g7; exact long_err (by decide) (half_end false (by omega) hj4 g7 k1 k2 k3 ho)
   · obtain ⟨i, rfl⟩ : ∃ i, j = i + 4 := ⟨j - 4, by omega⟩; have g8 : l.drop (p + 1 + 1) = c1 :: c2 :: c3 :: c4 :: ([92, 117, d1, d2, d3, d4] : Bs).take i := g7; have hh := half_ok false g8 k1 k2 k3 k4 ho; have g9 := (drop_cons (drop_cons (drop_cons (drop_cons g8).2.2).2.2).2.2); obtain ⟨g10, _, g11⟩ := g9; rw [long_pair hh hn]
     cases i with
     | zero => exact w1_three (by rw [want_end (by omega) g11 (by decide)])
     | succ i =>
      have g12 : l.drop (p + 1 + 1 + 4) = 92 :: ([117, d1, d2, d3, d4] : Bs).take i := g11; have w1 : rdWant l 92 (p + 1 + 1 + 4) 0 = (p + 1 + 1 + 4 + 1, (0 : Int)) := want_ok g12; obtain ⟨g13, _, g14⟩ := drop_cons g12
      cases i with
      | zero => exact w2_three w1 (by rw [want_end (by omega) g14 (by decide)])
      | succ i =>
       have g15 : l.drop (p + 1 + 1 + 4 + 1) = 117 :: ([d1, d2, d3, d4] : Bs).take i := g14; have w2 : rdWant l 117 (p + 1 + 1 + 4 + 1) 0 = (p + 1 + 1 + 4 + 1 + 1, (0 : Int)) := want_ok g15; obtain ⟨g16, _, g17⟩ := drop_cons g15; exact w3_three w1 w2 (half_end true (by omega) (by simp at hj; omega) g17 j1 j2 j3 hp2)
theorem go_cut {k : Nat} {q t : Bs} (h : Lits k q t) : ∀ {l : Bs} {p j N : Nat} {acc : Bs}, j ≤ q.length → p ≤ l.length → l.drop p = q.take j → j + 2 ≤ N → uqGo l N acc p 0 = ([], 0, 3) := by
 induction h with
 | nil =>
  intro l p j N acc _ hp hd hN
  obtain ⟨N, rfl⟩ : ∃ M, N = M + 1 := ⟨N - 1, by omega⟩; exact end_three hp (by rw [hd]; simp)
 | @cons k' q t q' t' h _ ih =>
  intro l p j N acc hj hp hd hN
  obtain ⟨N, rfl⟩ : ∃ M, N = M + 2 := ⟨N - 2, by omega⟩
  by_cases hc : j < q.length
  · rw [List.take_append_of_le_length (by omega)] at hd; exact part_cut h hc hp hd
  · have e : (q ++ q').take j = q ++ q'.take (j - q.length) := by
      rw [List.take_append, List.take_of_length_le (by omega)]
    rw [e] at hd; have hlen := congrArg List.length hd; rw [List.length_drop, List.length_append] at hlen; have := h.pos; rw [go_part h hd]; exact ih (by rw [List.length_append] at hj; omega) (by omega) (drop_app hd) (by omega)
end Go.Ms
namespace Go.Ms
open Go.Lib
end Go.Ms
namespace Go.Ms
open Go.Lib
end Go.Ms
namespace Go.Proofs.YtikpmmipopmjaaaGreatDoor
open Go.RowKit Go.Ms Go.Lib
end Go.Proofs.YtikpmmipopmjaaaGreatDoor
namespace Go.Ms
open Go.Lib
end Go.Ms
namespace Go.Proofs.YtikpmmipopmjaaaGreatDoor
open Go.RowKit Go.Ms Go.Lib
end Go.Proofs.YtikpmmipopmjaaaGreatDoor
namespace Go.Proofs.YtikpmmipopmjaaaGreatDoor
open Go.RowKit Go.Ms Go.Lib
end Go.Proofs.YtikpmmipopmjaaaGreatDoor
namespace Go.Ms
open Go.Lib
end Go.Ms
namespace Go.Proofs.YtikpmmipopmjaaaGreatDoor
open Go.RowKit Go.Ms Go.Lib
end Go.Proofs.YtikpmmipopmjaaaGreatDoor
namespace Go.Proofs.YtikpmmipopmjaaaGreatDoor
open Go.RowKit Go.Ms Go.Lib
end Go.Proofs.YtikpmmipopmjaaaGreatDoor
set_option linter.unusedSimpArgs false
namespace Go.Ms
open Go.Lib
end Go.Ms
namespace Go.Proofs.YtikpmmipopmjaaaGreatDoor
open Go.RowKit Go.Ms Go.Lib
end Go.Proofs.YtikpmmipopmjaaaGreatDoor
namespace Go.Proofs.YtikpmmipopmjaaaGreatDoor
open Go.RowKit Go.Ms Go.Lib
end Go.Proofs.YtikpmmipopmjaaaGreatDoor
namespace Go.Proofs.YtikpmmipopmjaaaGreatDoor
open Go.RowKit Go.Ms Go.Lib
end Go.Proofs.YtikpmmipopmjaaaGreatDoor
set_option linter.unusedSimpArgs false
namespace Go.Ms
open Go.Lib
end Go.Ms
namespace Go.Proofs.YtikpmmipopmjaaaGreatDoor
open Go.RowKit Go.Ms Go.Lib
end Go.Proofs.YtikpmmipopmjaaaGreatDoor
set_option linter.unusedSimpArgs false
namespace Go.Ms
open Go.Lib
end Go.Ms
namespace Go.Proofs.YtikpmmipopmjaaaGreatDoor
open Go.RowKit Go.Ms Go.Lib
end Go.Proofs.YtikpmmipopmjaaaGreatDoor
set_option linter.unusedSimpArgs false
namespace Go.Proofs.YtikpmmipopmjaaaGreatDoor
open Go.RowKit Go.Ms Go.Lib
end Go.Proofs.YtikpmmipopmjaaaGreatDoor
set_option linter.unusedSimpArgs false
namespace Go.Proofs.YtikpmmipopmjaaaGreatDoor
open Go.RowKit Go.Ms Go.Lib
end Go.Proofs.YtikpmmipopmjaaaGreatDoor
set_option linter.unusedSimpArgs false
namespace Go.Ms
open Go.Lib
end Go.Ms
namespace Go.Proofs.YtikpmmipopmjaaaGreatDoor
open Go.RowKit Go.Ms Go.Lib
end Go.Proofs.YtikpmmipopmjaaaGreatDoor
set_option linter.unusedSimpArgs false
namespace Go.Proofs.YtikpmmipopmjaaaGreatDoor
open Go.RowKit Go.Ms Go.Lib
end Go.Proofs.YtikpmmipopmjaaaGreatDoor
set_option linter.unusedSimpArgs false
namespace Go.Ms
open Go.Lib
end Go.Ms
namespace Go.Proofs.YtikpmmipopmjaaaGreatDoor
open Go.RowKit Go.Ms Go.Lib
end Go.Proofs.YtikpmmipopmjaaaGreatDoor
set_option linter.unusedSimpArgs false
namespace Go.Ms
open Go.Lib
end Go.Ms
namespace Go.Proofs.YtikpmmipopmjaaaGreatDoor
open Go.RowKit Go.Ms Go.Lib
end Go.Proofs.YtikpmmipopmjaaaGreatDoor
namespace Go.Ms
end Go.Ms
namespace Go.Proofs.YtikpmmipopmjaaaGreatDoor
open Go.RowKit Go.Ms Go.Lib
theorem ykeep5 {W w1 w2 : World} {p1 p2 p3 p4 p5 : Addr} {v1 v2 v3 v4 v5 : Value} (h : (w1.cell? p1 = some v1 ∧ w1.cell? p2 = some v2 ∧ w1.cell? p3 = some v3 ∧ w1.cell? p4 = some v4 ∧ w1.cell? p5 = some v5) ∧ Below W.heap.size W w1) (hb : Below w1.heap.size w1 w2) :
    (w2.cell? p1 = some v1 ∧ w2.cell? p2 = some v2 ∧ w2.cell? p3 = some v3 ∧ w2.cell? p4 = some v4 ∧ w2.cell? p5 = some v5) ∧ Below W.heap.size W w2 := by
 obtain ⟨⟨c1, c2, c3, c4, c5⟩, f⟩ := h; exact ⟨⟨(hb.cell (cell_lt c1)).trans c1, (hb.cell (cell_lt c2)).trans c2, (hb.cell (cell_lt c3)).trans c3, (hb.cell (cell_lt c4)).trans c4, (hb.cell (cell_lt c5)).trans c5⟩, f.trans (hb.mono f.size)⟩
theorem ykeep6 {W w1 w2 : World} {p1 p2 p3 p4 p5 p6 : Addr} {v1 v2 v3 v4 v5 v6 : Value} (h : (w1.cell? p1 = some v1 ∧ w1.cell? p2 = some v2 ∧ w1.cell? p3 = some v3 ∧ w1.cell? p4 = some v4 ∧ w1.cell? p5 = some v5 ∧ w1.cell? p6 = some v6) ∧ Below W.heap.size W w1) (hb : Below w1.heap.size w1 w2) :
    (w2.cell? p1 = some v1 ∧ w2.cell? p2 = some v2 ∧ w2.cell? p3 = some v3 ∧ w2.cell? p4 = some v4 ∧ w2.cell? p5 = some v5 ∧ w2.cell? p6 = some v6) ∧ Below W.heap.size W w2 := by
 obtain ⟨⟨c1, c2, c3, c4, c5, c6⟩, f⟩ := h; exact ⟨⟨(hb.cell (cell_lt c1)).trans c1, (hb.cell (cell_lt c2)).trans c2, (hb.cell (cell_lt c3)).trans c3, (hb.cell (cell_lt c4)).trans c4, (hb.cell (cell_lt c5)).trans c5, (hb.cell (cell_lt c6)).trans c6⟩, f.trans (hb.mono f.size)⟩
theorem endK {A : Prop} {W w1 : World} (h : A ∧ Below W.heap.size W w1) : Below W.heap.size W w1 := h.2
end Go.Proofs.YtikpmmipopmjaaaGreatDoor
