/- Facts for the walks. -/
import Derived.Test.YtklpmghdiflcbaaGreatDoorZP1
set_option linter.unusedVariables false
namespace Go.Proofs.YtklpmghdiflcbaaGreatDoor
open Go.RowKit Go.Ms Go.Lib

theorem or_i64 (a b : Nat) (ha : a < 9223372036854775808) (hb : b < 9223372036854775808) :
    bits .or .i64 (a : Int) (b : Int) = ((a ||| b : Nat) : Int) := by
  have hx : a ||| b < 2 ^ 63 := Nat.or_lt_two_pow (by omega) (by omega)
  have h1 : (BitVec.ofInt 64 (a : Int)).toNat = a := by
    rw [BitVec.ofInt_natCast, BitVec.toNat_ofNat]; exact Nat.mod_eq_of_lt (by omega)
  have h2 : (BitVec.ofInt 64 (b : Int)).toNat = b := by
    rw [BitVec.ofInt_natCast, BitVec.toNat_ofNat]; exact Nat.mod_eq_of_lt (by omega)
  show IntKind.i64.wrap ((BitVec.ofInt 64 (a : Int) ||| BitVec.ofInt 64 (b : Int)).toNat : Int) = _
  rw [BitVec.toNat_or, h1, h2, IntKind.wrap_i64]
  omega
theorem or_16 (n d : Int) (h0 : 0 ≤ n) (h1 : n < 65536) (h2 : 0 ≤ d) (h3 : d < 16) : bits .or .i64 (n * 16) d = 16 * n + d := by
  obtain ⟨a, rfl⟩ := Int.eq_ofNat_of_zero_le h0
  obtain ⟨b, rfl⟩ := Int.eq_ofNat_of_zero_le h2
  have e : ((a : Int) * (16 : Int)) = ((a <<< 4 : Nat) : Int) := by rw [Nat.shiftLeft_eq]; omega
  rw [e, or_i64 _ _ (by rw [Nat.shiftLeft_eq]; omega) (by omega), ← Nat.shiftLeft_add_eq_or_of_lt (by omega : b < 2 ^ 4), Nat.shiftLeft_eq]
  simp; omega

set_option maxHeartbeats 2000000 in
theorem half_core (b : Nat) (s : ByteArray) (second : Bool) (n0 n1 n2 n3 e0 E0 e1 E1 e2 e3 : Int) (p0 p1 p2 p3 : Nat) (w : World)
    (b0 : 0 ≤ n0 ∧ n0 < 16) (b1 : 0 ≤ n1 ∧ n1 < 16) (b2 : 0 ≤ n2 ∧ n2 < 16) (b3 : 0 ≤ n3 ∧ n3 < 16)
    (c0 : Calls Tryz.prog 149 #[.pointer (some ⟨b, 0, none⟩)] w (RdP 128 b s p0 e0 (.int .i64 n0) w))
    (c1 : ∀ w, Tri 128 b (.string s) (.int .i64 p0) (.int .i64 E0) w → Calls Tryz.prog 149 #[.pointer (some ⟨b, 0, none⟩)] w (RdP 128 b s p1 e1 (.int .i64 n1) w))
    (c2 : ∀ w, Tri 128 b (.string s) (.int .i64 p1) (.int .i64 E1) w → Calls Tryz.prog 149 #[.pointer (some ⟨b, 0, none⟩)] w (RdP 128 b s p2 e2 (.int .i64 n2) w))
    (c3 : ∀ w, Tri 128 b (.string s) (.int .i64 p2) (.int .i64 e2) w → Calls Tryz.prog 149 #[.pointer (some ⟨b, 0, none⟩)] w (RdP 128 b s p3 e3 (.int .i64 n3) w))
    (hE0 : E0 = if second = true ∧ ¬ n0 = 13 then rdFail e0 41 else e0)
    (hE1 : E1 = if second = decide (220 ≤ 16 * n0 + n1 ∧ 16 * n0 + n1 ≤ 223) then e1 else rdFail e1 41) :
    Calls Tryz.prog 130 #[.pointer (some ⟨b, 0, none⟩), .bool second] w (RdP 128 b s p3 e3 (.int .i32 (16 * (16 * (16 * n0 + n1) + n2) + n3)) w) := by
  have o1 := or_16 n0 n1 b0.1 (by omega) b1.1 b1.2
  have o2 := or_16 (16 * n0 + n1) n2 (by omega) (by omega) b2.1 b2.2
  have o3 := or_16 (16 * (16 * n0 + n1) + n2) n3 (by omega) (by omega) b3.1 b3.2
  obtain ⟨b00, b01⟩ := b0; obtain ⟨b10, b11⟩ := b1; obtain ⟨b20, b21⟩ := b2; obtain ⟨b30, b31⟩ := b3
  have C1 := Lib.hid c1; have C2 := Lib.hid c2; have C3 := Lib.hid c3
  clear c1 c2 c3
  cases second
  · rw [if_neg (by simp)] at hE0
    subst hE0
    by_cases hr1 : 220 ≤ 16 * n0 + n1
    · by_cases hr2 : 16 * n0 + n1 ≤ 223
      · have q2 : decide (16 * n0 + n1 ≤ 223) = true := by simpa using hr2
        rw [if_neg (by simp [hr1, hr2])] at hE1
        subst hE1
        go_enter Tryz.func130, Tryz.ntmps130
        go_wp2_with fail
        refine c0.mono ?_
        rintro en w1 ⟨rfl, t1, k1⟩
        go_wp2_with fail
        refine (C1.out _ t1).mono ?_
        rintro en w3 ⟨rfl, t3, k3⟩
        go_wp2_with fail
        refine (fail_any b s _ _ 41 _ t3).mono ?_
        rintro en w4 ⟨rfl, t3, k4⟩
        go_wp2_with fail
        refine (C2.out _ t3).mono ?_
        rintro en w5 ⟨rfl, t5, k5⟩
        go_wp2_with fail
        refine (C3.out _ t5).mono ?_
        rintro en w6 ⟨rfl, t6, k6⟩
        go_wp2_with fail
        go_ret
        exact ⟨rfl, t6, ((((k1.trans k3).trans k4).trans k5).trans k6)⟩
      · have q2 : decide (16 * n0 + n1 ≤ 223) = false := by simpa using hr2
        rw [if_pos (by simp [hr2])] at hE1
        subst hE1
        go_enter Tryz.func130, Tryz.ntmps130
        go_wp2_with fail
        refine c0.mono ?_
        rintro en w1 ⟨rfl, t1, k1⟩
        go_wp2_with fail
        refine (C1.out _ t1).mono ?_
        rintro en w3 ⟨rfl, t3, k3⟩
        go_wp2_with fail
        refine (C2.out _ t3).mono ?_
        rintro en w5 ⟨rfl, t5, k5⟩
        go_wp2_with fail
        refine (C3.out _ t5).mono ?_
        rintro en w6 ⟨rfl, t6, k6⟩
        go_wp2_with fail
        go_ret
        exact ⟨rfl, t6, (((k1.trans k3).trans k5).trans k6)⟩
    · rw [if_pos (by simp [hr1])] at hE1
      subst hE1
      go_enter Tryz.func130, Tryz.ntmps130
      go_wp2_with fail
      refine c0.mono ?_
      rintro en w1 ⟨rfl, t1, k1⟩
      go_wp2_with fail
      refine (C1.out _ t1).mono ?_
      rintro en w3 ⟨rfl, t3, k3⟩
      go_wp2_with fail
      refine (C2.out _ t3).mono ?_
      rintro en w5 ⟨rfl, t5, k5⟩
      go_wp2_with fail
      refine (C3.out _ t5).mono ?_
      rintro en w6 ⟨rfl, t6, k6⟩
      go_wp2_with fail
      go_ret
      exact ⟨rfl, t6, (((k1.trans k3).trans k5).trans k6)⟩
  · by_cases h13 : n0 = 13
    · rw [if_neg (by simp [h13])] at hE0
      subst hE0
      have h13b : (n0 != 13) = false := by simpa using h13
      have h13c : (n0 == 13) = true := by simpa using h13
      clear h13
      by_cases hr1 : 220 ≤ 16 * n0 + n1
      · by_cases hr2 : 16 * n0 + n1 ≤ 223
        · have q2 : decide (16 * n0 + n1 ≤ 223) = true := by simpa using hr2
          rw [if_pos (by simp [hr1, hr2])] at hE1
          subst hE1
          go_enter Tryz.func130, Tryz.ntmps130
          go_wp2_with fail
          refine c0.mono ?_
          rintro en w1 ⟨rfl, t1, k1⟩
          go_wp2_with fail
          refine (C1.out _ t1).mono ?_
          rintro en w3 ⟨rfl, t3, k3⟩
          go_wp2_with fail
          refine (C2.out _ t3).mono ?_
          rintro en w5 ⟨rfl, t5, k5⟩
          go_wp2_with fail
          refine (C3.out _ t5).mono ?_
          rintro en w6 ⟨rfl, t6, k6⟩
          go_wp2_with fail
          go_ret
          exact ⟨rfl, t6, (((k1.trans k3).trans k5).trans k6)⟩
        · have q2 : decide (16 * n0 + n1 ≤ 223) = false := by simpa using hr2
          rw [if_neg (by simp [hr2])] at hE1
          subst hE1
          go_enter Tryz.func130, Tryz.ntmps130
          go_wp2_with fail
          refine c0.mono ?_
          rintro en w1 ⟨rfl, t1, k1⟩
          go_wp2_with fail
          refine (C1.out _ t1).mono ?_
          rintro en w3 ⟨rfl, t3, k3⟩
          go_wp2_with fail
          refine (fail_any b s _ _ 41 _ t3).mono ?_
          rintro en w4 ⟨rfl, t3, k4⟩
          go_wp2_with fail
          refine (C2.out _ t3).mono ?_
          rintro en w5 ⟨rfl, t5, k5⟩
          go_wp2_with fail
          refine (C3.out _ t5).mono ?_
          rintro en w6 ⟨rfl, t6, k6⟩
          go_wp2_with fail
          go_ret
          exact ⟨rfl, t6, ((((k1.trans k3).trans k4).trans k5).trans k6)⟩
      · rw [if_neg (by simp [hr1])] at hE1
        subst hE1
        go_enter Tryz.func130, Tryz.ntmps130
        go_wp2_with fail
        refine c0.mono ?_
        rintro en w1 ⟨rfl, t1, k1⟩
        go_wp2_with fail
        refine (C1.out _ t1).mono ?_
        rintro en w3 ⟨rfl, t3, k3⟩
        go_wp2_with fail
        refine (fail_any b s _ _ 41 _ t3).mono ?_
        rintro en w4 ⟨rfl, t3, k4⟩
        go_wp2_with fail
        refine (C2.out _ t3).mono ?_
        rintro en w5 ⟨rfl, t5, k5⟩
        go_wp2_with fail
        refine (C3.out _ t5).mono ?_
        rintro en w6 ⟨rfl, t6, k6⟩
        go_wp2_with fail
        go_ret
        exact ⟨rfl, t6, ((((k1.trans k3).trans k4).trans k5).trans k6)⟩
    · rw [if_pos ⟨rfl, h13⟩] at hE0
      subst hE0
      have h13b : (n0 != 13) = true := by simpa using h13
      have h13c : (n0 == 13) = false := by simpa using h13
      by_cases hr1 : 220 ≤ 16 * n0 + n1
      · by_cases hr2 : 16 * n0 + n1 ≤ 223
        · have q2 : decide (16 * n0 + n1 ≤ 223) = true := by simpa using hr2
          rw [if_pos (by simp [hr1, hr2])] at hE1
          subst hE1
          go_enter Tryz.func130, Tryz.ntmps130
          go_wp2_with fail
          refine c0.mono ?_
          rintro en w1 ⟨rfl, t1, k1⟩
          go_wp2_with fail
          refine (fail_any b s _ _ 41 _ t1).mono ?_
          rintro en w2 ⟨rfl, t1, k2⟩
          go_wp2_with fail
          refine (C1.out _ t1).mono ?_
          rintro en w3 ⟨rfl, t3, k3⟩
          go_wp2_with fail
          refine (C2.out _ t3).mono ?_
          rintro en w5 ⟨rfl, t5, k5⟩
          go_wp2_with fail
          refine (C3.out _ t5).mono ?_
          rintro en w6 ⟨rfl, t6, k6⟩
          go_wp2_with fail
          go_ret
          exact ⟨rfl, t6, ((((k1.trans k2).trans k3).trans k5).trans k6)⟩
        · have q2 : decide (16 * n0 + n1 ≤ 223) = false := by simpa using hr2
          rw [if_neg (by simp [hr2])] at hE1
          subst hE1
          go_enter Tryz.func130, Tryz.ntmps130
          go_wp2_with fail
          refine c0.mono ?_
          rintro en w1 ⟨rfl, t1, k1⟩
          go_wp2_with fail
          refine (fail_any b s _ _ 41 _ t1).mono ?_
          rintro en w2 ⟨rfl, t1, k2⟩
          go_wp2_with fail
          refine (C1.out _ t1).mono ?_
          rintro en w3 ⟨rfl, t3, k3⟩
          go_wp2_with fail
          refine (fail_any b s _ _ 41 _ t3).mono ?_
          rintro en w4 ⟨rfl, t3, k4⟩
          go_wp2_with fail
          refine (C2.out _ t3).mono ?_
          rintro en w5 ⟨rfl, t5, k5⟩
          go_wp2_with fail
          refine (C3.out _ t5).mono ?_
          rintro en w6 ⟨rfl, t6, k6⟩
          go_wp2_with fail
          go_ret
          exact ⟨rfl, t6, (((((k1.trans k2).trans k3).trans k4).trans k5).trans k6)⟩
      · rw [if_neg (by simp [hr1])] at hE1
        subst hE1
        go_enter Tryz.func130, Tryz.ntmps130
        go_wp2_with fail
        refine c0.mono ?_
        rintro en w1 ⟨rfl, t1, k1⟩
        go_wp2_with fail
        refine (fail_any b s _ _ 41 _ t1).mono ?_
        rintro en w2 ⟨rfl, t1, k2⟩
        go_wp2_with fail
        refine (C1.out _ t1).mono ?_
        rintro en w3 ⟨rfl, t3, k3⟩
        go_wp2_with fail
        refine (fail_any b s _ _ 41 _ t3).mono ?_
        rintro en w4 ⟨rfl, t3, k4⟩
        go_wp2_with fail
        refine (C2.out _ t3).mono ?_
        rintro en w5 ⟨rfl, t5, k5⟩
        go_wp2_with fail
        refine (C3.out _ t5).mono ?_
        rintro en w6 ⟨rfl, t6, k6⟩
        go_wp2_with fail
        go_ret
        exact ⟨rfl, t6, (((((k1.trans k2).trans k3).trans k4).trans k5).trans k6)⟩

theorem half_any (b : Nat) (s : ByteArray) (second : Bool) (p : Nat) (e : Int) (w : World) (hp : p ≤ s.size) (hs : s.size ≤ 1000000) (h : Tri 128 b (.string s) (.int .i64 p) (.int .i64 e) w) :
    Calls Tryz.prog 130 #[.pointer (some ⟨b, 0, none⟩), .bool second] w (RdP 128 b s (rdHalf s.data.toList second p e).2.1 (rdHalf s.data.toList second p e).2.2 (.int .i32 (rdHalf s.data.toList second p e).1) w) := by
  have hl : s.data.toList.length = s.size := by simp
  have l0 := h0_le s.data.toList second p e (by omega)
  have l1 := h1_le s.data.toList second p e (by omega)
  have l2 := h2_le s.data.toList second p e (by omega)
  exact half_core b s second _ _ _ _ _ _ _ _ _ _ _ _ _ _ w (rdDigit_bd s.data.toList p e) (rdDigit_bd s.data.toList (h0 s.data.toList second p e).2.1 (h0 s.data.toList second p e).2.2)
    (rdDigit_bd s.data.toList (h1 s.data.toList second p e).2.1 (h1 s.data.toList second p e).2.2) (rdDigit_bd s.data.toList (h2 s.data.toList second p e).2.1 (h2 s.data.toList second p e).2.2)
    (digit_any b s p e w hp hs h) (fun w h => digit_any b s _ _ w (by omega) hs h) (fun w h => digit_any b s _ _ w (by omega) hs h) (fun w h => digit_any b s _ _ w (by omega) hs h) rfl rfl
end Go.Proofs.YtklpmghdiflcbaaGreatDoor
