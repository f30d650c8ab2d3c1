/- The reference's begins. -/
import Derived.Test.YtklpmghdiflcbaaGreatDoorZRa
import Derived.Test.YtklpmghdiflcbaaGreatDoorZU9
set_option linter.unusedVariables false
namespace Go.Proofs.YtklpmghdiflcbaaGreatDoor
open Go.RowKit Go.Ms Go.Lib

theorem str_push (l : Bs) (c : UInt8) (x : ByteArray) (hx : x = ⟨#[c]⟩) : (⟨l.toArray⟩ : ByteArray) ++ x = ⟨(l ++ [c]).toArray⟩ := by
  apply ba_ext; subst hx; simp
theorem rep_push (l : Bs) (j : Nat) (c : UInt8) : l ++ List.replicate j c ++ [c] = l ++ List.replicate (j + 1) c := by
  rw [List.append_assoc, List.replicate_succ']

set_option maxHeartbeats 1000000 in
theorem begins_any (s : ByteArray) (w : World) (h1 : 1 ≤ s.size) (hs : s.size ≤ 10000) :
    Calls Tryz.prog 99 #[.string s] w fun e w' => e = .returned (.bool (!fullD s.data.toList)) ∧ Below w.heap.size w w' := by
  have hl : s.data.toList.length = s.size := by simp
  have hne : s.data.toList ≠ [] := by intro e; rw [e] at hl; simp at hl; omega
  obtain ⟨R, hR⟩ : ∃ R, (!fullD s.data.toList) = R := ⟨_, rfl⟩
  rw [hR]
  have hyes : ∀ n, s.size < n → n ≤ 4 → moreN s.data.toList n = true → R = true := by
    intro n a b c
    rw [← hR, (begins_full hne).2 ⟨n, by omega, b, c⟩]; rfl
  have hno : (∀ n, s.size < n → n ≤ 4 → moreN s.data.toList n = false) → R = false := by
    intro h
    rw [← hR]
    cases hf : fullD s.data.toList with
    | true => rfl
    | false =>
      obtain ⟨n, a, b, c⟩ := (begins_full hne).1 hf
      rw [h n (by omega) b] at c
      cases c
  have HY := Lib.hid hyes
  have HN := Lib.hid hno
  have hsl : s = ⟨(s.data.toList ++ List.replicate 0 (128 : UInt8)).toArray⟩ := by apply ba_ext; simp
  have hsh : s = ⟨(s.data.toList ++ List.replicate 0 (191 : UInt8)).toArray⟩ := by apply ba_ext; simp
  have HSL := Lib.hid hsl
  have HSH := Lib.hid hsh
  clear hR hyes hno hne hsl hsh
  go_enter Tryz.func99, Tryz.ntmps99
  go_wp2
  go_loopw [3] (fun i wr => ∃ k : Nat, s.size < k ∧ (k ≤ 5 ∨ k = s.size + 1) ∧ i = .int .i64 k ∧ Hid (∀ n, s.size < n → n < k → moreN s.data.toList n = false) ∧ Below w.heap.size w wr)
               (fun i _ => 5 - (RowKit.intOf i).toNat)
  case atStart => exact ⟨s.size + 1, by omega, by omega, by go_num, (fun n a b => by omega), Below.refl _ _⟩
  case round =>
    obtain ⟨k, hsk, hk5, rfl, hno, hb⟩ := hrel
    by_cases hlt : k ≤ 4
    · obtain ⟨wo, hwo⟩ : ∃ wo : World, wo = wr := ⟨_, rfl⟩
      subst hwo
      go_wp2_with fail
      go_loop [4, 5] (fun a c => ∃ j : Nat, s.size + j ≤ k ∧ a = .string ⟨(s.data.toList ++ List.replicate j (128 : UInt8)).toArray⟩ ∧ c = .string ⟨(s.data.toList ++ List.replicate j (191 : UInt8)).toArray⟩) (fun a _ => k - strSize a)
      case atStart => exact ⟨0, by omega, by rw [← HSL.out], by rw [← HSH.out]⟩
      case round =>
        obtain ⟨j, hj, rfl, rfl⟩ := hrel
        have hz : (⟨(s.data.toList ++ List.replicate j (128 : UInt8)).toArray⟩ : ByteArray).size = s.size + j := by
          show (s.data.toList ++ List.replicate j (128 : UInt8)).toArray.size = _
          rw [List.size_toArray, List.length_append, List.length_replicate, hl]
        have hz2 : (⟨(s.data.toList ++ List.replicate j (191 : UInt8)).toArray⟩ : ByteArray).size = s.size + j := by
          show (s.data.toList ++ List.replicate j (191 : UInt8)).toArray.size = _
          rw [List.size_toArray, List.length_append, List.length_replicate, hl]
        have hzb : s.size + j ≤ 10000 := by omega
        by_cases hjk : s.size + j < k
        · have hjk' : ((s.size + j : Nat) : Int) < (k : Int) := by omega
          go_wp2_with fail
          go_round
          case rel => exact ⟨j + 1, by omega, by rw [str_push _ 128 _ rfl, rep_push], by rw [str_push _ 191 _ rfl, rep_push]⟩
          case measure => simp only [strSize]; rw [str_push _ 128 _ rfl, hz, ByteArray.size]; simp [hl]; omega
        · have hjk2 : k = s.size + j := by omega
          have hjk' : ¬ ((s.size + j : Nat) : Int) < (k : Int) := by omega
          have hm : moreN s.data.toList k = (hasN (s.data.toList ++ List.replicate j 128) k || hasN (s.data.toList ++ List.replicate j 191) k) := by
            unfold moreN
            rw [hl, show k - s.size = j by omega]
          have c1 := fun w => rnext_any (⟨(s.data.toList ++ List.replicate j (128 : UInt8)).toArray⟩ : ByteArray) w (by omega)
          have c2 := fun w => rnext_any (⟨(s.data.toList ++ List.replicate j (191 : UInt8)).toArray⟩ : ByteArray) w (by omega)
          simp only at c1 c2
          unfold hasN at hm
          generalize hn1 : nextD (s.data.toList ++ List.replicate j (128 : UInt8)) = q1 at *
          generalize hn2 : nextD (s.data.toList ++ List.replicate j (191 : UInt8)) = q2 at *
          obtain ⟨r1, n1, a1⟩ := q1
          obtain ⟨r2, n2, a2⟩ := q2
          simp only at c1 c2 hm
          have C1 := Lib.hid c1
          have C2 := Lib.hid c2
          have HM := Lib.hid hm
          have hyes := fun h => HY.out k hsk hlt h
          have HYE := Lib.hid hyes
          clear c1 c2 hm hn1 hn2 hjk2 hyes
          by_cases g1 : a1 = true ∧ n1 = k
          · obtain ⟨rfl, rfl⟩ := g1
            obtain rfl : R = true := HYE.out (by rw [HM.out]; simp)
            go_wp2_with fail
            refine (C1.out _).mono ?_
            rintro en w1 ⟨rfl, b1⟩
            go_wp2_with fail
            refine (C2.out _).mono ?_
            rintro en w2 ⟨rfl, b2⟩
            go_wp2_with fail
            go_ret
            have B1 := hb.trans (b1.mono hb.size)
            exact ⟨rfl, B1.trans (b2.mono B1.size)⟩
          · by_cases g2 : a2 = true ∧ n2 = k
            · obtain ⟨rfl, rfl⟩ := g2
              obtain rfl : R = true := HYE.out (by rw [HM.out]; simp)
              go_wp2_with fail
              refine (C1.out _).mono ?_
              rintro en w1 ⟨rfl, b1⟩
              go_wp2_with fail
              refine (C2.out _).mono ?_
              rintro en w2 ⟨rfl, b2⟩
              have B1 := hb.trans (b1.mono hb.size)
              have B2 := B1.trans (b2.mono B1.size)
              cases a1
              · go_wp2_with fail
                go_ret
                exact ⟨rfl, B2⟩
              · have e1 : ¬ n1 = n2 := fun e => g1 ⟨rfl, e⟩
                have e2 : (n1 == n2) = false := by simpa using e1
                go_wp2_with fail
                go_ret
                exact ⟨rfl, B2⟩
            · have hk : moreN s.data.toList k = false := by
                rw [HM.out]
                cases a1 <;> cases a2 <;> simp at g1 g2 ⊢ <;> first | exact g1 | exact g2 | exact ⟨g1, g2⟩
              have hno' : Hid (∀ n, s.size < n → n < k + 1 → moreN s.data.toList n = false) := by
                intro n a b
                by_cases e : n = k
                · subst e; exact hk
                · exact hno.out n a (by omega)
              clear hk
              have goal : ∀ w', Below w.heap.size w w' → (∃ k' : Nat, s.size < k' ∧ (k' ≤ 5 ∨ k' = s.size + 1) ∧ (Value.int .i64 ((k : Int) + 1)) = .int .i64 k' ∧ Hid (∀ n, s.size < n → n < k' → moreN s.data.toList n = false) ∧ Below w.heap.size w w') :=
                fun w' hb' => ⟨k + 1, by omega, by omega, by go_num, hno', hb'⟩
              have GOAL := Lib.hid goal
              clear goal
              cases a1 <;> cases a2
              · go_wp2_with fail
                refine (C1.out _).mono ?_
                rintro en w1 ⟨rfl, b1⟩
                go_wp2_with fail
                refine (C2.out _).mono ?_
                rintro en w2 ⟨rfl, b2⟩
                have B1 := hb.trans (b1.mono hb.size)
                have B2 := B1.trans (b2.mono B1.size)
                go_wp2_with fail
                go_roundw
                case rel => exact GOAL.out _ B2
                case measure => simp [RowKit.intOf]; omega
              · have e1 : ¬ n2 = k := fun e => g2 ⟨rfl, e⟩
                have e2 : (n2 == k) = false := by simpa using e1
                go_wp2_with fail
                refine (C1.out _).mono ?_
                rintro en w1 ⟨rfl, b1⟩
                go_wp2_with fail
                refine (C2.out _).mono ?_
                rintro en w2 ⟨rfl, b2⟩
                have B1 := hb.trans (b1.mono hb.size)
                have B2 := B1.trans (b2.mono B1.size)
                go_wp2_with fail
                go_roundw
                case rel => exact GOAL.out _ B2
                case measure => simp [RowKit.intOf]; omega
              · have e1 : ¬ n1 = k := fun e => g1 ⟨rfl, e⟩
                have e2 : (n1 == k) = false := by simpa using e1
                go_wp2_with fail
                refine (C1.out _).mono ?_
                rintro en w1 ⟨rfl, b1⟩
                go_wp2_with fail
                refine (C2.out _).mono ?_
                rintro en w2 ⟨rfl, b2⟩
                have B1 := hb.trans (b1.mono hb.size)
                have B2 := B1.trans (b2.mono B1.size)
                go_wp2_with fail
                go_roundw
                case rel => exact GOAL.out _ B2
                case measure => simp [RowKit.intOf]; omega
              · have e1 : ¬ n1 = k := fun e => g1 ⟨rfl, e⟩
                have e2 : (n1 == k) = false := by simpa using e1
                have e3 : ¬ n2 = k := fun e => g2 ⟨rfl, e⟩
                have e4 : (n2 == k) = false := by simpa using e3
                have e5 : ((n1 : Int) == (k : Int)) = false := by simp; omega
                have e6 : ((n2 : Int) == (k : Int)) = false := by simp; omega
                go_wp2_with fail
                refine (C1.out _).mono ?_
                rintro en w1 ⟨rfl, b1⟩
                go_wp2_with fail
                refine (C2.out _).mono ?_
                rintro en w2 ⟨rfl, b2⟩
                have B1 := hb.trans (b1.mono hb.size)
                have B2 := B1.trans (b2.mono B1.size)
                go_wp2_with fail
                go_roundw
                case rel => exact GOAL.out _ B2
                case measure => simp [RowKit.intOf]; omega
    · have hgt : ¬ (k : Int) ≤ 4 := by omega
      obtain rfl : R = false := HN.out (fun n a b => hno.out n a (by omega))
      go_wp2_with fail
      go_ret
      exact ⟨rfl, hb⟩
end Go.Proofs.YtklpmghdiflcbaaGreatDoor
