/- A literal that is cut off: ErrTrunc. The reference's reader answers as the program's: plain facts. -/
import Derived.Test.YthgmdlibnjkdoaaGreatDoorZA
set_option linter.unusedVariables false
namespace Go.Ms
open Go.Lib

theorem h0_ok {l : Bs} {p : Nat} {c1 : UInt8} {r : Bs} (second : Bool) (h : l.drop p = c1 :: r) (k1 : hexv c1.toNat ≠ 16) (ho : ¬ (second = true ∧ ¬ hexv c1.toNat = 13)) :
    h0 l second p 0 = (hexv c1.toNat, p + 1, (0 : Int)) := by
  unfold h0; rw [digit_cons h k1]; simp only; rw [if_neg ho]
theorem h1_ok {l : Bs} {p : Nat} {c1 c2 : UInt8} {r : Bs} (second : Bool) (h : l.drop p = c1 :: c2 :: r) (k1 : hexv c1.toNat ≠ 16) (k2 : hexv c2.toNat ≠ 16) (ho : okPair second (hexv c1.toNat) (hexv c2.toNat)) :
    h1 l second p 0 = (16 * hexv c1.toNat + hexv c2.toNat, p + 2, (0 : Int)) := by
  have e1 := (drop_cons h).2.2
  unfold h1; rw [h0_ok second h k1 ho.1]; simp only; rw [digit_cons e1 k2]; simp only; rw [if_pos ho.2]
theorem h2_ok {l : Bs} {p : Nat} {c1 c2 c3 : UInt8} {r : Bs} (second : Bool) (h : l.drop p = c1 :: c2 :: c3 :: r) (k1 : hexv c1.toNat ≠ 16) (k2 : hexv c2.toNat ≠ 16) (k3 : hexv c3.toNat ≠ 16) (ho : okPair second (hexv c1.toNat) (hexv c2.toNat)) :
    h2 l second p 0 = (16 * (16 * hexv c1.toNat + hexv c2.toNat) + hexv c3.toNat, p + 3, (0 : Int)) := by
  have e1 := (drop_cons h).2.2
  have e2 := (drop_cons e1).2.2
  unfold h2; rw [h1_ok second h k1 k2 ho]; simp only; rw [digit_cons e2 k3]
theorem half_h0 {l : Bs} {p : Nat} {second : Bool} {e x : Int} (hx : x ≠ 0) (h : (h0 l second p e).2.2 = x) : (rdHalf l second p e).2.2 = x := by
  unfold rdHalf h2 h1
  simp only
  rw [h, digit_err _ _ hx]
  simp only
  split
  · simp only [digit_err _ _ hx]
  · simp only [fail_err hx, digit_err _ _ hx]
theorem half_h1 {l : Bs} {p : Nat} {second : Bool} {e x : Int} (hx : x ≠ 0) (h : (h1 l second p e).2.2 = x) : (rdHalf l second p e).2.2 = x := by
  unfold rdHalf h2
  simp only
  rw [h, digit_err _ _ hx]
  simp only [digit_err _ _ hx]
theorem half_h2 {l : Bs} {p : Nat} {second : Bool} {e x : Int} (hx : x ≠ 0) (h : (h2 l second p e).2.2 = x) : (rdHalf l second p e).2.2 = x := by
  unfold rdHalf
  simp only
  rw [h, digit_err _ _ hx]
/-- Less than four digits. -/
theorem half_end {l : Bs} {p j : Nat} {c1 c2 c3 c4 : UInt8} (second : Bool) (hp : p ≤ l.length) (hj : j < 4) (h : l.drop p = [c1, c2, c3, c4].take j)
    (k1 : hexv c1.toNat ≠ 16) (k2 : hexv c2.toNat ≠ 16) (k3 : hexv c3.toNat ≠ 16) (ho : okPair second (hexv c1.toNat) (hexv c2.toNat)) : (rdHalf l second p 0).2.2 = 3 := by
  have hlen := congrArg List.length h
  rw [List.length_drop] at hlen
  match j, hj with
  | 0, _ =>
    apply half_h0 (by omega)
    unfold h0
    rw [digit_end hp h]
    simp only
    split
    · rfl
    · rfl
  | 1, _ =>
    have h' : l.drop p = c1 :: [] := h
    have e1 := (drop_cons h').2.2
    simp at hlen
    apply half_h1 (by omega)
    unfold h1
    rw [h0_ok second h' k1 ho.1]
    simp only
    rw [digit_end (by omega) e1]
    simp only
    split
    · rfl
    · rfl
  | 2, _ =>
    have h' : l.drop p = c1 :: c2 :: [] := h
    have e2 := (drop_cons (drop_cons h').2.2).2.2
    simp at hlen
    apply half_h2 (by omega)
    unfold h2
    rw [h1_ok second h' k1 k2 ho]
    simp only
    rw [digit_end (by omega) e2]
  | 3, _ =>
    have h' : l.drop p = c1 :: c2 :: c3 :: [] := h
    have e3 := (drop_cons (drop_cons (drop_cons h').2.2).2.2).2.2
    simp at hlen
    unfold rdHalf
    rw [h2_ok second h' k1 k2 k3 ho]
    simp only
    rw [digit_end (by omega) e3]
theorem pair_err (l : Bs) (p : Nat) (n : Int) {e : Int} (he : e ≠ 0) : (rdPair l p e n).2.2 = e := by
  unfold rdPair
  simp only [want_err _ _ _ he]
  have := (half_err l true p he).1
  rw [this, if_neg he]
theorem long_err {l : Bs} {p : Nat} {x e z : Int} {y : Nat} (he : e ≠ 0) (h : (rdHalf l false p x).2.2 = e) : (rdLong l (p, z) (y, x)).2.2 = e := by
  unfold rdLong
  simp only
  split
  · rw [h]; exact pair_err _ _ _ he
  · rw [h, if_neg he]
/-- Nothing behind a backslash. -/
theorem esc_end {l : Bs} {p : Nat} (hp : p ≤ l.length) (h : l.drop p = []) : (rdEscape l p 0).2.2 = 3 := by
  unfold rdEscape
  simp only [take_end hp h]
  rw [if_neg (by decide)]
  simp only [show unesc 0 = none from by decide]
  rw [if_neg (by decide), fail_err (by decide)]
  exact long_err (by decide) (half_err l false p (by decide)).1
theorem esc_u {l : Bs} {p : Nat} {r : Bs} (h : l.drop p = 117 :: r) : rdEscape l p 0 = rdLong l (p + 1, 0) (0, 0) := by
  unfold rdEscape
  simp only [take_cons h]
  rw [if_neg (by decide)]
  simp only [show (((117 : UInt8).toNat : Nat) : Int) = 117 from rfl, if_true, show unesc 117 = none from by decide]

/-- A rune's bytes, cut: none, and more could come. -/
theorem cut_none {r : Int} (h : isRune r = true) {j : Nat} (h1 : 1 ≤ j) (h2 : j < (encodeRune r).length) : nextD ((encodeRune r).take j) = (0, 0, false) := by
  rcases next_cases ((encodeRune r).take j) with e | ⟨r', g1, g2, g3⟩
  · exact e
  · exfalso
    have hl := congrArg List.length g3
    rw [List.length_take, List.length_append, List.length_drop, List.length_take] at hl
    have hr' := encodeRune_length r'
    have e : encodeRune r = encodeRune r' ++ (((encodeRune r).take j).drop (encodeRune r').length ++ (encodeRune r).drop j) := by
      rw [← List.append_assoc, ← g3, List.take_append_drop]
    have n1 := next_enc r' (((encodeRune r).take j).drop (encodeRune r').length ++ (encodeRune r).drop j) g1
    rw [← e] at n1
    have n2 := next_enc r [] h
    rw [List.append_nil, n1] at n2
    simp only [Prod.mk.injEq] at n2
    omega
theorem firstT_two {b : Nat} (h : 194 ≤ b) (h2 : b < 224) : firstT b = 2 := by
  unfold firstT; rw [if_neg (by omega), if_neg (by omega), if_pos h2]
set_option maxRecDepth 100000 in
theorem cut_more {r : Int} (h : isRune r = true) {j : Nat} (h1 : 1 ≤ j) (h2 : j < (encodeRune r).length) : fullD ((encodeRune r).take j) = false := by
  have hb := (isRune_iff r).1 h
  by_cases c0 : r ≤ 127
  · rw [enc_ascii (by omega) c0] at h2; simp at h2; omega
  unfold encodeRune at h2 ⊢
  by_cases c1 : r ≤ 2047
  · rw [encodeRuneZ_two (by omega) c1] at h2 ⊢
    simp only [List.map_cons, List.map_nil, List.length_cons, List.length_nil] at h2 ⊢
    obtain rfl : j = 1 := by omega
    simp only [List.take_succ_cons, List.take_zero]
    unfold fullD
    simp only [bt, List.getD_cons_zero, List.length_cons, List.length_nil]
    rw [toU8_nat (by omega) (by omega), firstT_two (by omega) (by omega)]
    simp
  by_cases c2 : r ≤ 65535
  · rw [encodeRuneZ_three (by omega)] at h2 ⊢
    obtain ⟨b0, e0⟩ : ∃ b, 224 + r / 4096 = b := ⟨_, rfl⟩
    obtain ⟨b1, e1⟩ : ∃ b, 128 + r / 64 % 64 = b := ⟨_, rfl⟩
    obtain ⟨b2, e2⟩ : ∃ b, 128 + r % 64 = b := ⟨_, rfl⟩
    have f0 : 224 ≤ b0 ∧ b0 < 240 := by omega
    have f1 : 128 ≤ b1 ∧ b1 ≤ 191 := by omega
    have f2 : b0 = 224 → 160 ≤ b1 := by omega
    have f3 : b0 = 237 → b1 ≤ 159 := by omega
    rw [e0, e1, e2] at h2 ⊢
    clear e0 e1 e2 hb h c0 c1 c2
    simp only [List.map_cons, List.map_nil, List.length_cons, List.length_nil] at h2 ⊢
    have hf : ∀ x : Nat, 224 ≤ x → x < 240 → firstT x % 8 = 3 ∧ firstT x / 16 = (if x = 224 then 1 else if x = 237 then 2 else 0) := by
      intro x a b
      unfold firstT
      repeat' split
      all_goals omega
    have hfx := hf b0.toNat (by omega) (by omega)
    rcases (by omega : j = 1 ∨ j = 2) with rfl | rfl
    · simp only [List.take_succ_cons, List.take_zero]
      unfold fullD
      simp only [bt, List.getD_cons_zero, List.length_cons, List.length_nil]
      rw [toU8_nat (by omega) (by omega), hfx.1]
      simp
    · simp only [List.take_succ_cons, List.take_zero]
      unfold fullD
      simp only [bt, List.getD_cons_zero, List.getD_cons_succ, List.length_cons, List.length_nil]
      rw [toU8_nat (by omega) (by omega), toU8_nat (by omega) (by omega), hfx.1, hfx.2]
      have g : ¬ b1.toNat < accLo (if b0.toNat = 224 then 1 else if b0.toNat = 237 then 2 else 0) ∧ ¬ accHi (if b0.toNat = 224 then 1 else if b0.toNat = 237 then 2 else 0) < b1.toNat := by
        split
        · simp only [show accLo 1 = 160 from rfl, show accHi 1 = 191 from rfl]; omega
        split
        · simp only [show accLo 2 = 128 from rfl, show accHi 2 = 159 from rfl]; omega
        · simp only [show accLo 0 = 128 from rfl, show accHi 0 = 191 from rfl]; omega
      simp [g.1, g.2]
  · rw [encodeRuneZ_four (by omega) (by omega)] at h2 ⊢
    obtain ⟨b0, e0⟩ : ∃ b, 240 + r / 262144 = b := ⟨_, rfl⟩
    obtain ⟨b1, e1⟩ : ∃ b, 128 + r / 4096 % 64 = b := ⟨_, rfl⟩
    obtain ⟨b2, e2⟩ : ∃ b, 128 + r / 64 % 64 = b := ⟨_, rfl⟩
    obtain ⟨b3, e3⟩ : ∃ b, 128 + r % 64 = b := ⟨_, rfl⟩
    have f0 : 240 ≤ b0 ∧ b0 < 245 := by omega
    have f1 : 128 ≤ b1 ∧ b1 ≤ 191 := by omega
    have f2 : b0 = 240 → 144 ≤ b1 := by omega
    have f3 : b0 = 244 → b1 ≤ 143 := by omega
    have f4 : 128 ≤ b2 ∧ b2 ≤ 191 := by omega
    rw [e0, e1, e2, e3] at h2 ⊢
    clear e0 e1 e2 e3 hb h c0 c1 c2
    simp only [List.map_cons, List.map_nil, List.length_cons, List.length_nil] at h2 ⊢
    have hf : ∀ x : Nat, 240 ≤ x → x < 245 → firstT x % 8 = 4 ∧ firstT x / 16 = (if x = 240 then 3 else if x = 244 then 4 else 0) := by
      intro x a b
      unfold firstT
      repeat' split
      all_goals omega
    have hfx := hf b0.toNat (by omega) (by omega)
    have g : ¬ b1.toNat < accLo (if b0.toNat = 240 then 3 else if b0.toNat = 244 then 4 else 0) ∧ ¬ accHi (if b0.toNat = 240 then 3 else if b0.toNat = 244 then 4 else 0) < b1.toNat := by
      split
      · simp only [show accLo 3 = 144 from rfl, show accHi 3 = 191 from rfl]; omega
      split
      · simp only [show accLo 4 = 128 from rfl, show accHi 4 = 143 from rfl]; omega
      · simp only [show accLo 0 = 128 from rfl, show accHi 0 = 191 from rfl]; omega
    have g2 : ¬ b2.toNat < 128 ∧ ¬ 191 < b2.toNat := by omega
    rcases (by omega : j = 1 ∨ j = 2 ∨ j = 3) with rfl | rfl | rfl
    · simp only [List.take_succ_cons, List.take_zero]
      unfold fullD
      simp only [bt, List.getD_cons_zero, List.length_cons, List.length_nil]
      rw [toU8_nat (by omega) (by omega), hfx.1]
      simp
    · simp only [List.take_succ_cons, List.take_zero]
      unfold fullD
      simp only [bt, List.getD_cons_zero, List.getD_cons_succ, List.length_cons, List.length_nil]
      rw [toU8_nat (by omega) (by omega), toU8_nat (by omega) (by omega), hfx.1, hfx.2]
      simp [g.1, g.2]
    · simp only [List.take_succ_cons, List.take_zero]
      unfold fullD
      simp only [bt, List.getD_cons_zero, List.getD_cons_succ, List.length_cons, List.length_nil]
      rw [toU8_nat (by omega) (by omega), toU8_nat (by omega) (by omega), toU8_nat (by omega) (by omega), hfx.1, hfx.2]
      simp [g.1, g.2, g2.1, g2.2]
end Go.Ms
namespace Go.Ms
open Go.Lib

/-! Reading from further on. -/

/-! Four digits, one by one. -/

/-! Can more bytes make a rune's bytes of some? -/
theorem w2 {n b0 b1 b2 b3 : Nat} (h0 : b0 < 256) (h1 : b1 < 256) (h2 : b2 < 256) (h3 : b3 < 256) : (decodeN n b0 b1 b2 b3).2 = 2 ↔ 194 ≤ b0 ∧ b0 < 224 ∧ 1 < n ∧ 128 ≤ b1 ∧ b1 < 192 := by
  unfold decodeN
  repeat' split
  all_goals constructor
  all_goals intro hh
  all_goals first | (exfalso; revert hh; decide) | omega | skip
set_option maxRecDepth 100000 in
theorem w3 {n b0 b1 b2 b3 : Nat} (h0 : b0 < 256) (h1 : b1 < 256) (h2 : b2 < 256) (h3 : b3 < 256) : (decodeN n b0 b1 b2 b3).2 = 3 ↔ 224 ≤ b0 ∧ b0 < 240 ∧ 2 < n ∧ 128 ≤ b1 ∧ b1 < 192 ∧ 128 ≤ b2 ∧ b2 < 192 ∧ (b0 = 224 → 160 ≤ b1) ∧ (b0 = 237 → b1 < 160) := by
  unfold decodeN
  repeat' split
  all_goals constructor
  all_goals intro hh
  all_goals first | (exfalso; revert hh; decide) | omega | skip
set_option maxRecDepth 100000 in
theorem w4 {n b0 b1 b2 b3 : Nat} (h0 : b0 < 256) (h1 : b1 < 256) (h2 : b2 < 256) (h3 : b3 < 256) : (decodeN n b0 b1 b2 b3).2 = 4 ↔ 240 ≤ b0 ∧ b0 < 245 ∧ 3 < n ∧ 128 ≤ b1 ∧ b1 < 192 ∧ 128 ≤ b2 ∧ b2 < 192 ∧ 128 ≤ b3 ∧ b3 < 192 ∧ (b0 = 240 → 144 ≤ b1) ∧ (b0 = 244 → b1 < 144) := by
  unfold decodeN
  repeat' split
  all_goals constructor
  all_goals intro hh
  all_goals first | (exfalso; revert hh; decide) | omega | skip
end Go.Ms
