/- The reference's digit and half. The reference's begins. -/
import Derived.Test.YthlinmkengoliaaGreatDoorZB
import Derived.Test.YthlinmkengoliaaGreatDoorZUa
import Derived.Test.YthlinmkengoliaaGreatDoorZRa
set_option linter.unusedVariables false
namespace Go.Proofs.YthlinmkengoliaaGreatDoor
open Go.RowKit Go.Ms Go.Lib
def lowD (k : Nat) : Int := if k < 10 then 48 + k else 87 + k
def upD (k : Nat) : Int := if k < 10 then 48 + k else 55 + k
theorem hexv_at {k : Nat} (hk : k < 16) {c : Int} : (c = lowD k ∨ c = upD k) ↔ hexv c = k := by
 unfold lowD upD hexv
 repeat' split
 all_goals omega
theorem low_at : ∀ k : Fin 16, ((((⟨#[48, 49, 50, 51, 52, 53, 54, 55, 56, 57, 97, 98, 99, 100, 101, 102]⟩ : ByteArray)[k.val]'(k.isLt)).toNat : Nat) : Int) = lowD k.val := by decide
theorem up_at : ∀ k : Fin 16, ((((⟨#[48, 49, 50, 51, 52, 53, 54, 55, 56, 57, 65, 66, 67, 68, 69, 70]⟩ : ByteArray)[k.val]'(k.isLt)).toNat : Nat) : Int) = upD k.val := by decide
def rDigit (c : Int) : Int := if hexv c = 16 then -1 else hexv c
set_option maxHeartbeats 400000 in
theorem rdigit_any (c : Int) (w : World) (h0 : 0 ≤ c) (h1 : c < 256) :
    Calls Tryz.prog 208 #[.int .u8 c] w fun e w' => e = .returned (.int .i64 (rDigit c)) ∧ w = w' := by
 have hb := hexv_bd c; obtain ⟨D, hD⟩ : ∃ D, hexv c = D := ⟨_, rfl⟩; have HD := Lib.hid hD; rw [hD] at hb; obtain ⟨R, hR⟩ : ∃ R, rDigit c = R := ⟨_, rfl⟩; rw [hR]; unfold rDigit at hR; rw [hD] at hR; have HR := Lib.hid hR; clear hD hR
 go_enter Tryz.func208, Tryz.ntmps208
 go_wp2
 go_loop [3] (fun i => ∃ k : Nat, k ≤ 16 ∧ i = .int .i64 k ∧ (k : Int) ≤ D) (fun i => 16 - (RowKit.intOf i).toNat)
 case atStart => exact ⟨0, by omega, rfl, by omega⟩
 case round =>
  obtain ⟨k, hk, rfl, hkD⟩ := hrel
  by_cases hlt : k < 16
  · have gl := low_at ⟨k, hlt⟩; have gu := up_at ⟨k, hlt⟩; have hx := hexv_at hlt (c := c); rw [HD.out] at hx; simp only at gl gu
    generalize lowD k = lo at *
    generalize upD k = up at *
    by_cases e1 : c = lo
    · subst e1; obtain rfl : D = k := hx.1 (.inl rfl); have hr := HR.out; rw [if_neg (by omega)] at hr; subst hr; clear hx
      go_wp2_with fail
      go_ret
      exact ⟨rfl, rfl⟩
    · have e1' : (c == lo) = false := by simpa using e1
      by_cases e2 : c = up
      · subst e2; obtain rfl : D = k := hx.1 (.inr rfl); have hr := HR.out; rw [if_neg (by omega)] at hr; subst hr; clear hx
        go_wp2_with fail
        go_ret
        exact ⟨rfl, rfl⟩
      · have e2' : (c == up) = false := by simpa using e2
        have hne : ¬ D = k := by intro e; rcases hx.2 e with e | e <;> contradiction
        clear hx
        go_wp2_with fail
        go_round
        case rel => exact ⟨k + 1, by omega, by go_num, by omega⟩
        case measure => simp [RowKit.intOf]; omega
  · obtain rfl : k = 16 := by omega
    have hr := HR.out; rw [if_pos (by omega)] at hr; subst hr
    go_wp2_with fail
    go_ret
    exact ⟨rfl, rfl⟩
theorem rDigit_neg {c : Int} (h : hexv c = 16) : rDigit c = -1 := by unfold rDigit; rw [if_pos h]
theorem rDigit_pos {c : Int} (h : ¬ hexv c = 16) : rDigit c = hexv c := by unfold rDigit; rw [if_neg h]
set_option maxHeartbeats 4000000 in
theorem rhalf_any (s : ByteArray) (second : Bool) (w : World) (hs : s.size ≤ 1000000) :
    Calls Tryz.prog 205 #[.string s, .bool second] w fun e w' => e = .returned (.tuple #[.int .i64 (rhalf s.data.toList second).1, .int .i64 (rhalf s.data.toList second).2]) ∧ w = w' := by
 have hl : s.data.toList.length = s.size := by simp
 obtain ⟨R, hR⟩ : ∃ R, rhalf s.data.toList second = R := ⟨_, rfl⟩; rw [hR]; have HR := Lib.hid hR; clear hR
 go_enter Tryz.func205, Tryz.ntmps205
 go_wp2
 go_loop [6, 7] (fun a i => ∃ (k : Nat) (n : Int), k ≤ 4 ∧ k ≤ s.size ∧ i = .int .i64 k ∧ a = .int .i64 n ∧ 0 ≤ n ∧ n < 65536 ∧ Hid (n < 16 ^ k) ∧ Hid (stage s.data.toList second k = (n, k, 0))) (fun _ i => 4 - (RowKit.intOf i).toNat)
 case atStart => exact ⟨0, 0, by omega, by omega, rfl, rfl, by omega, by omega, (by decide : (0 : Int) < 16 ^ 0), rfl⟩
 case round =>
  obtain ⟨k, n, hk, hks, rfl, rfl, n0, n1, hn16, HST⟩ := hrel
  by_cases h4 : k = 4
  · subst h4; have hr := HR.out; rw [rhalf_ok HST.out] at hr; subst hr; clear hn16
    go_wp2_with fail
    go_ret2
    exact ⟨rfl, rfl⟩
  have hk4 : k < 4 := by omega
  by_cases hkl : k < s.size
  · have hxb := hexv_bd (bt s.data.toList k)
    have hg : ((s[k]'hkl).toNat : Int) = (bt s.data.toList k : Int) := by rw [get_of]; rfl
    have hbl := bt_lt s.data.toList k
    have cd := fun w => rdigit_any (bt s.data.toList k) w (by omega) (by omega)
    by_cases hx : hexv (bt s.data.toList k) = 16
    · rw [rDigit_neg hx] at cd; have hr := HR.out; rw [rhalf_err (by decide) (stage_none _ second hk4 HST.out (by omega) hx)] at hr; subst hr; have CD := Lib.hid cd; clear cd hx hxb hn16
      generalize bt s.data.toList k = b at *
      go_wp2_with fail
      refine (CD.out _).mono ?_; rintro en w1 ⟨rfl, rfl⟩
      go_wp2_with fail
      go_ret2
      exact ⟨rfl, rfl⟩
    · rw [rDigit_pos hx] at cd
      have hbad := fun hb => stage_bad _ second hk4 HST.out (by omega) hx hb
      have hgood := fun hb => stage_ok _ second hk4 HST.out (by omega) hx hb
      obtain ⟨d, hd⟩ : ∃ d, hexv (bt s.data.toList k) = d := ⟨_, rfl⟩
      have hd15 : 0 ≤ d ∧ d ≤ 15 := by omega
      rw [hd] at hbad hgood cd
      generalize bt s.data.toList k = b at *
      have CD := Lib.hid cd; clear cd hx hxb hd
      have hn' : 16 * n + d < 16 ^ (k + 1) := by rw [Int.pow_succ]; have := hn16.out; omega
      have HN := Lib.hid hn'; clear hn'; have hd0 : 0 ≤ d := hd15.1; have hd1 : d ≤ 15 := hd15.2; clear hd15
      cases hb : badAt second k (16 * n + d) with
      | true =>
       have hr := HR.out; rw [rhalf_err (by decide) (hbad hb)] at hr; subst hr; clear hbad hgood
       rcases (by omega : k = 0 ∨ k = 1 ∨ k = 2 ∨ k = 3) with rfl | rfl | rfl | rfl
       · have hn0 : n < 1 := hn16.out
         obtain rfl : n = 0 := by omega
         have q1 : ¬ s.size = 0 := by omega
         have q2 : ¬ s = ByteArray.empty := by intro e; apply q1; rw [e]; rfl
         have q3 : ¬ (s.size : Int) ≤ 0 := by omega
         have hb2 : second = true ∧ ¬ d = 13 := by simpa [badAt] using hb
         obtain ⟨rfl, hne⟩ := hb2
         have e1 : (d == 13) = false := by simpa using hne
         have e2 : (d != 13) = true := by simpa using hne
         clear hb hn16 hne
         go_wp2_with fail
         refine (CD.out _).mono ?_; rintro en w1 ⟨rfl, rfl⟩
         go_wp2_with fail
         go_ret2
         exact ⟨rfl, rfl⟩
       · have hn0 : n < 16 := hn16.out
         have hb2 : ¬ second = decide (220 ≤ 16 * n + d ∧ 16 * n + d ≤ 223) := by simpa [badAt] using hb
         clear hb hn16
         cases second
         · have hb3 : 220 ≤ 16 * n + d ∧ 16 * n + d ≤ 223 := by simpa using hb2
           clear hb2; obtain ⟨g1, g2⟩ := hb3
           go_wp2_with fail
           refine (CD.out _).mono ?_; rintro en w1 ⟨rfl, rfl⟩
           go_wp2_with fail
           go_ret2
           exact ⟨rfl, rfl⟩
         · have hb3 : 16 * n + d < 220 ∨ 223 < 16 * n + d := by
             have : ¬ (220 ≤ 16 * n + d ∧ 16 * n + d ≤ 223) := by intro h; apply hb2; rw [decide_eq_true h]
             omega
           clear hb2
           rcases hb3 with g | g
           · go_wp2_with fail
             refine (CD.out _).mono ?_; rintro en w1 ⟨rfl, rfl⟩
             go_wp2_with fail
             go_ret2
             exact ⟨rfl, rfl⟩
           · have g' : ¬ 16 * n + d < 220 := by omega
             have g'' : decide (16 * n + d ≤ 223) = false := decide_eq_false (by omega)
             go_wp2_with fail
             refine (CD.out _).mono ?_; rintro en w1 ⟨rfl, rfl⟩
             go_wp2_with fail
             go_ret2
             exact ⟨rfl, rfl⟩
       · simp [badAt] at hb
       · simp [badAt] at hb
      | false =>
       have hso := hgood hb; have HSO := Lib.hid hso; clear hso hbad hgood
       rcases (by omega : k = 0 ∨ k = 1 ∨ k = 2 ∨ k = 3) with rfl | rfl | rfl | rfl
       · have hn0 : n < 1 := hn16.out
         obtain rfl : n = 0 := by omega
         have q1 : ¬ s.size = 0 := by omega
         have q2 : ¬ s = ByteArray.empty := by intro e; apply q1; rw [e]; rfl
         have q3 : ¬ (s.size : Int) ≤ 0 := by omega
         have hb2 : second = true → d = 13 := by simpa [badAt] using hb
         clear hb hn16
         cases second
         · clear hb2
           go_wp2_with fail
           refine (CD.out _).mono ?_; rintro en w1 ⟨rfl, rfl⟩
           go_wp2_with fail
           go_round
           case rel => exact ⟨1, d, by omega, by omega, by go_num, by go_num, by omega, by omega, by simpa using HN, by simpa using HSO⟩
           case measure => simp [RowKit.intOf]
         · obtain rfl := hb2 rfl
           go_wp2_with fail
           refine (CD.out _).mono ?_; rintro en w1 ⟨rfl, rfl⟩
           go_wp2_with fail
           go_round
           case rel => exact ⟨1, 13, by omega, by omega, by go_num, by go_num, by omega, by omega, by simpa using HN, by simpa using HSO⟩
           case measure => simp [RowKit.intOf]
       · have hn0 : n < 16 := hn16.out
         have hb2 : second = decide (220 ≤ 16 * n + d ∧ 16 * n + d ≤ 223) := by simpa [badAt] using hb
         clear hb hn16
         cases second
         · have hb3 : 16 * n + d < 220 ∨ 223 < 16 * n + d := by
             have : ¬ (220 ≤ 16 * n + d ∧ 16 * n + d ≤ 223) := by intro h; rw [decide_eq_true h] at hb2; cases hb2
             omega
           clear hb2
           rcases hb3 with g | g
           · go_wp2_with fail
             refine (CD.out _).mono ?_; rintro en w1 ⟨rfl, rfl⟩
             go_wp2_with fail
             go_round
             case rel => exact ⟨2, 16 * n + d, by omega, by omega, by go_num, by go_num, by omega, by omega, HN, HSO⟩
             case measure => simp [RowKit.intOf]
           · have g' : ¬ 16 * n + d < 220 := by omega
             have g'' : decide (16 * n + d ≤ 223) = false := decide_eq_false (by omega)
             go_wp2_with fail
             refine (CD.out _).mono ?_; rintro en w1 ⟨rfl, rfl⟩
             go_wp2_with fail
             go_round
             case rel => exact ⟨2, 16 * n + d, by omega, by omega, by go_num, by go_num, by omega, by omega, HN, HSO⟩
             case measure => simp [RowKit.intOf]
         · have hb3 : 220 ≤ 16 * n + d ∧ 16 * n + d ≤ 223 := by simpa using hb2.symm
           clear hb2; obtain ⟨g1, g2⟩ := hb3
           go_wp2_with fail
           refine (CD.out _).mono ?_; rintro en w1 ⟨rfl, rfl⟩
           go_wp2_with fail
           go_round
           case rel => exact ⟨2, 16 * n + d, by omega, by omega, by go_num, by go_num, by omega, by omega, HN, HSO⟩
           case measure => simp [RowKit.intOf]
       · have hn0 : n < 256 := hn16.out; clear hb hn16
         go_wp2_with fail
         refine (CD.out _).mono ?_; rintro en w1 ⟨rfl, rfl⟩
         go_wp2_with fail
         go_round
         case rel => exact ⟨3, 16 * n + d, by omega, by omega, by go_num, by go_num, by omega, by omega, HN, HSO⟩
         case measure => simp [RowKit.intOf]
       · have hn0 : n < 4096 := hn16.out; clear hb hn16
         go_wp2_with fail
         refine (CD.out _).mono ?_; rintro en w1 ⟨rfl, rfl⟩
         go_wp2_with fail
         go_round
         case rel => exact ⟨4, 16 * n + d, by omega, by omega, by go_num, by go_num, by omega, by omega, HN, HSO⟩
         case measure => simp [RowKit.intOf]
  · have hr := HR.out; rw [rhalf_err (by decide) (stage_end _ second hk4 HST.out (by omega))] at hr; subst hr; clear hn16
    have hge : (s.size : Int) ≤ (k : Int) := by omega
    go_wp2_with fail
    go_ret2
    exact ⟨rfl, rfl⟩
end Go.Proofs.YthlinmkengoliaaGreatDoor
namespace Go.Proofs.YthlinmkengoliaaGreatDoor
open Go.RowKit Go.Ms Go.Lib
theorem str_push (l : Bs) (c : UInt8) (x : ByteArray) (hx : x = ⟨#[c]⟩) : (⟨l.toArray⟩ : ByteArray) ++ x = ⟨(l ++ [c]).toArray⟩ := by
 apply ba_ext; subst hx; simp
theorem rep_push (l : Bs) (j : Nat) (c : UInt8) : l ++ List.replicate j c ++ [c] = l ++ List.replicate (j + 1) c := by
 rw [List.append_assoc, List.replicate_succ']
set_option maxHeartbeats 1000000 in
theorem begins_any (s : ByteArray) (w : World) (h1 : 1 ≤ s.size) (hs : s.size ≤ 10000) :
    Calls Tryz.prog 194 #[.string s] w fun e w' => e = .returned (.bool (!fullD s.data.toList)) ∧ Below w.heap.size w w' := by
 have hl : s.data.toList.length = s.size := by simp
 have hne : s.data.toList ≠ [] := by intro e; rw [e] at hl; simp at hl; omega
 obtain ⟨R, hR⟩ : ∃ R, (!fullD s.data.toList) = R := ⟨_, rfl⟩; rw [hR]
 have hyes : ∀ n, s.size < n → n ≤ 4 → moreN s.data.toList n = true → R = true := by
  intro n a b c
  rw [← hR, (begins_full hne).2 ⟨n, by omega, b, c⟩]; rfl
 have hno : (∀ n, s.size < n → n ≤ 4 → moreN s.data.toList n = false) → R = false := by
  intro h
  rw [← hR]
  cases hf : fullD s.data.toList with
  | true => rfl
  | false =>
   obtain ⟨n, a, b, c⟩ := (begins_full hne).1 hf; rw [h n (by omega) b] at c
   cases c
 have HY := Lib.hid hyes; have HN := Lib.hid hno
 have hsl : s = ⟨(s.data.toList ++ List.replicate 0 (128 : UInt8)).toArray⟩ := by apply ba_ext; simp
 have hsh : s = ⟨(s.data.toList ++ List.replicate 0 (191 : UInt8)).toArray⟩ := by apply ba_ext; simp
 have HSL := Lib.hid hsl; have HSH := Lib.hid hsh; clear hR hyes hno hne hsl hsh
 go_enter Tryz.func194, Tryz.ntmps194
 go_wp2
 go_loopw [3] (fun i wr => ∃ k : Nat, s.size < k ∧ (k ≤ 5 ∨ k = s.size + 1) ∧ i = .int .i64 k ∧ Hid (∀ n, s.size < n → n < k → moreN s.data.toList n = false) ∧ Below w.heap.size w wr)
              (fun i _ => 5 - (RowKit.intOf i).toNat)
 case atStart => exact ⟨s.size + 1, by omega, by omega, by go_num, (fun n a b => by omega), Below.refl _ _⟩
 case round =>
  obtain ⟨k, hsk, hk5, rfl, hno, hb⟩ := hrel
  by_cases hlt : k ≤ 4
  · obtain ⟨wo, hwo⟩ : ∃ wo : World, wo = wr := ⟨_, rfl⟩; subst hwo
    go_wp2_with fail
    go_loop [4, 5] (fun a c => ∃ j : Nat, s.size + j ≤ k ∧ a = .string ⟨(s.data.toList ++ List.replicate j (128 : UInt8)).toArray⟩ ∧ c = .string ⟨(s.data.toList ++ List.replicate j (191 : UInt8)).toArray⟩) (fun a _ => k - strSize a)
    case atStart => exact ⟨0, by omega, by rw [← HSL.out], by rw [← HSH.out]⟩
    case round =>
     obtain ⟨j, hj, rfl, rfl⟩ := hrel
     have hz : (⟨(s.data.toList ++ List.replicate j (128 : UInt8)).toArray⟩ : ByteArray).size = s.size + j := by
      show (s.data.toList ++ List.replicate j (128 : UInt8)).toArray.size = _
      rw [List.size_toArray, List.length_append, List.length_replicate, hl]
     have hz2 : (⟨(s.data.toList ++ List.replicate j (191 : UInt8)).toArray⟩ : ByteArray).size = s.size + j := by
      show (s.data.toList ++ List.replicate j (191 : UInt8)).toArray.size = _
      rw [List.size_toArray, List.length_append, List.length_replicate, hl]
     have hzb : s.size + j ≤ 10000 := by omega
     by_cases hjk : s.size + j < k
     · have hjk' : ((s.size + j : Nat) : Int) < (k : Int) := by omega
       go_wp2_with fail
       go_round
       case rel => exact ⟨j + 1, by omega, by rw [str_push _ 128 _ rfl, rep_push], by rw [str_push _ 191 _ rfl, rep_push]⟩
       case measure => simp only [strSize]; rw [str_push _ 128 _ rfl, hz, ByteArray.size]; simp [hl]; omega
     · have hjk2 : k = s.size + j := by omega
       have hjk' : ¬ ((s.size + j : Nat) : Int) < (k : Int) := by omega
       have hm : moreN s.data.toList k = (hasN (s.data.toList ++ List.replicate j 128) k || hasN (s.data.toList ++ List.replicate j 191) k) := by
        unfold moreN; rw [hl, show k - s.size = j by omega]
       have c1 := fun w => rnext_any (⟨(s.data.toList ++ List.replicate j (128 : UInt8)).toArray⟩ : ByteArray) w (by omega)
       have c2 := fun w => rnext_any (⟨(s.data.toList ++ List.replicate j (191 : UInt8)).toArray⟩ : ByteArray) w (by omega)
       simp only at c1 c2; unfold hasN at hm
       generalize hn1 : nextD (s.data.toList ++ List.replicate j (128 : UInt8)) = q1 at *
       generalize hn2 : nextD (s.data.toList ++ List.replicate j (191 : UInt8)) = q2 at *
       obtain ⟨r1, n1, a1⟩ := q1; obtain ⟨r2, n2, a2⟩ := q2; simp only at c1 c2 hm; have C1 := Lib.hid c1; have C2 := Lib.hid c2; have HM := Lib.hid hm
       have hyes := fun h => HY.out k hsk hlt h
       have HYE := Lib.hid hyes; clear c1 c2 hm hn1 hn2 hjk2 hyes
       by_cases g1 : a1 = true ∧ n1 = k
       · obtain ⟨rfl, rfl⟩ := g1; obtain rfl : R = true := HYE.out (by rw [HM.out]; simp)
         go_wp2_with fail
         refine (C1.out _).mono ?_; rintro en w1 ⟨rfl, b1⟩
         go_wp2_with fail
         refine (C2.out _).mono ?_; rintro en w2 ⟨rfl, b2⟩
         go_wp2_with fail
         go_ret
         have B1 := hb.trans (b1.mono hb.size); exact ⟨rfl, B1.trans (b2.mono B1.size)⟩
       · by_cases g2 : a2 = true ∧ n2 = k
         · obtain ⟨rfl, rfl⟩ := g2; obtain rfl : R = true := HYE.out (by rw [HM.out]; simp)
           go_wp2_with fail
           refine (C1.out _).mono ?_; rintro en w1 ⟨rfl, b1⟩
           go_wp2_with fail
           refine (C2.out _).mono ?_; rintro en w2 ⟨rfl, b2⟩; have B1 := hb.trans (b1.mono hb.size); have B2 := B1.trans (b2.mono B1.size)
           cases a1
           · go_wp2_with fail
             go_ret
             exact ⟨rfl, B2⟩
           · have e1 : ¬ n1 = n2 := fun e => g1 ⟨rfl, e⟩
             have e2 : (n1 == n2) = false := by simpa using e1
             go_wp2_with fail
             go_ret
             exact ⟨rfl, B2⟩
         · have hk : moreN s.data.toList k = false := by
             rw [HM.out]
             cases a1 <;> cases a2 <;> simp at g1 g2 ⊢ <;> first | exact g1 | exact g2 | exact ⟨g1, g2⟩
           have hno' : Hid (∀ n, s.size < n → n < k + 1 → moreN s.data.toList n = false) := by
            intro n a b
            by_cases e : n = k
            · subst e; exact hk
            · exact hno.out n a (by omega)
           clear hk
           have goal : ∀ w', Below w.heap.size w w' → (∃ k' : Nat, s.size < k' ∧ (k' ≤ 5 ∨ k' = s.size + 1) ∧ (Value.int .i64 ((k : Int) + 1)) = .int .i64 k' ∧ Hid (∀ n, s.size < n → n < k' → moreN s.data.toList n = false) ∧ Below w.heap.size w w') :=
             fun w' hb' => ⟨k + 1, by omega, by omega, by go_num, hno', hb'⟩
           have GOAL := Lib.hid goal; clear goal
           cases a1 <;> cases a2
           · go_wp2_with fail
             refine (C1.out _).mono ?_; rintro en w1 ⟨rfl, b1⟩
             go_wp2_with fail
             refine (C2.out _).mono ?_; rintro en w2 ⟨rfl, b2⟩; have B1 := hb.trans (b1.mono hb.size); have B2 := B1.trans (b2.mono B1.size)
             go_wp2_with fail
             go_roundw
             case rel => exact GOAL.out _ B2
             case measure => simp [RowKit.intOf]; omega
           · have e1 : ¬ n2 = k := fun e => g2 ⟨rfl, e⟩
             have e2 : (n2 == k) = false := by simpa using e1
             go_wp2_with fail
             refine (C1.out _).mono ?_; rintro en w1 ⟨rfl, b1⟩
             go_wp2_with fail
             refine (C2.out _).mono ?_; rintro en w2 ⟨rfl, b2⟩; have B1 := hb.trans (b1.mono hb.size); have B2 := B1.trans (b2.mono B1.size)
             go_wp2_with fail
             go_roundw
             case rel => exact GOAL.out _ B2
             case measure => simp [RowKit.intOf]; omega
           · have e1 : ¬ n1 = k := fun e => g1 ⟨rfl, e⟩
             have e2 : (n1 == k) = false := by simpa using e1
             go_wp2_with fail
             refine (C1.out _).mono ?_; rintro en w1 ⟨rfl, b1⟩
             go_wp2_with fail
             refine (C2.out _).mono ?_; rintro en w2 ⟨rfl, b2⟩; have B1 := hb.trans (b1.mono hb.size); have B2 := B1.trans (b2.mono B1.size)
             go_wp2_with fail
             go_roundw
             case rel => exact GOAL.out _ B2
             case measure => simp [RowKit.intOf]; omega
           · have e1 : ¬ n1 = k := fun e => g1 ⟨rfl, e⟩
             have e2 : (n1 == k) = false := by simpa using e1
             have e3 : ¬ n2 = k := fun e => g2 ⟨rfl, e⟩
             have e4 : (n2 == k) = false := by simpa using e3
             have e5 : ((n1 : Int) == (k : Int)) = false := by simp; omega
             have e6 : ((n2 : Int) == (k : Int)) = false := by simp; omega
             go_wp2_with fail
             refine (C1.out _).mono ?_; rintro en w1 ⟨rfl, b1⟩
             go_wp2_with fail
             refine (C2.out _).mono ?_; rintro en w2 ⟨rfl, b2⟩; have B1 := hb.trans (b1.mono hb.size); have B2 := B1.trans (b2.mono B1.size)
             go_wp2_with fail
             go_roundw
             case rel => exact GOAL.out _ B2
             case measure => simp [RowKit.intOf]; omega
  · have hgt : ¬ (k : Int) ≤ 4 := by omega
    obtain rfl : R = false := HN.out (fun n a b => hno.out n a (by omega))
    go_wp2_with fail
    go_ret
    exact ⟨rfl, hb⟩
end Go.Proofs.YthlinmkengoliaaGreatDoor
