/- A literal that is cut off: ErrTrunc. The reference's reader answers as the program's: plain facts. -/
import Derived.Test.YthlinmkengoliaaGreatDoorZA
set_option linter.unusedVariables false
namespace Go.Ms
open Go.Lib
theorem h0_ok {l : Bs} {p : Nat} {c1 : UInt8} {r : Bs} (second : Bool) (h : l.drop p = c1 :: r) (k1 : hexv c1.toNat ≠ 16) (ho : ¬ (second = true ∧ ¬ hexv c1.toNat = 13)) :
    h0 l second p 0 = (hexv c1.toNat, p + 1, (0 : Int)) := by
 unfold h0; rw [digit_cons h k1]; simp only; rw [if_neg ho]
theorem h1_ok {l : Bs} {p : Nat} {c1 c2 : UInt8} {r : Bs} (second : Bool) (h : l.drop p = c1 :: c2 :: r) (k1 : hexv c1.toNat ≠ 16) (k2 : hexv c2.toNat ≠ 16) (ho : okPair second (hexv c1.toNat) (hexv c2.toNat)) :
    h1 l second p 0 = (16 * hexv c1.toNat + hexv c2.toNat, p + 2, (0 : Int)) := by
 have e1 := (drop_cons h).2.2
 unfold h1; rw [h0_ok second h k1 ho.1]; simp only; rw [digit_cons e1 k2]; simp only; rw [if_pos ho.2]
theorem h2_ok {l : Bs} {p : Nat} {c1 c2 c3 : UInt8} {r : Bs} (second : Bool) (h : l.drop p = c1 :: c2 :: c3 :: r) (k1 : hexv c1.toNat ≠ 16) (k2 : hexv c2.toNat ≠ 16) (k3 : hexv c3.toNat ≠ 16) (ho : okPair second (hexv c1.toNat) (hexv c2.toNat)) :
    h2 l second p 0 = (16 * (16 * hexv c1.toNat + hexv c2.toNat) + hexv c3.toNat, p + 3, (0 : Int)) := by
 have e1 := (drop_cons h).2.2; have e2 := (drop_cons e1).2.2
 unfold h2; rw [h1_ok second h k1 k2 ho]; simp only; rw [digit_cons e2 k3]
theorem half_h0 {l : Bs} {p : Nat} {second : Bool} {e x : Int} (hx : x ≠ 0) (h : (h0 l second p e).2.2 = x) : (rdHalf l second p e).2.2 = x := by
 unfold rdHalf h2 h1
 simp only
 rw [h, digit_err _ _ hx]
 simp only
 split
 · simp only [digit_err _ _ hx]
 · simp only [fail_err hx, digit_err _ _ hx]
theorem half_h1 {l : Bs} {p : Nat} {second : Bool} {e x : Int} (hx : x ≠ 0) (h : (h1 l second p e).2.2 = x) : (rdHalf l second p e).2.2 = x := by
 unfold rdHalf h2
 simp only
 rw [h, digit_err _ _ hx]; simp only [digit_err _ _ hx]
theorem half_h2 {l : Bs} {p : Nat} {second : Bool} {e x : Int} (hx : x ≠ 0) (h : (h2 l second p e).2.2 = x) : (rdHalf l second p e).2.2 = x := by
 unfold rdHalf
 simp only
 rw [h, digit_err _ _ hx]
theorem half_end {l : Bs} {p j : Nat} {c1 c2 c3 c4 : UInt8} (second : Bool) (hp : p ≤ l.length) (hj : j < 4) (h : l.drop p = [c1, c2, c3, c4].take j)
    (k1 : hexv c1.toNat ≠ 16) (k2 : hexv c2.toNat ≠ 16) (k3 : hexv c3.toNat ≠ 16) (ho : okPair second (hexv c1.toNat) (hexv c2.toNat)) : (rdHalf l second p 0).2.2 = 3 := by
 have hlen := congrArg List.length h; rw [List.length_drop] at hlen
 match j, hj with
 | 0, _ =>
  apply half_h0 (by omega)
  unfold h0; rw [digit_end hp h]
  simp only
  split
  · rfl
  · rfl
 | 1, _ =>
  have h' : l.drop p = c1 :: [] := h; have e1 := (drop_cons h').2.2
  simp at hlen
  apply half_h1 (by omega)
  unfold h1; rw [h0_ok second h' k1 ho.1]
  simp only
  rw [digit_end (by omega) e1]
  simp only
  split
  · rfl
  · rfl
 | 2, _ =>
  have h' : l.drop p = c1 :: c2 :: [] := h; have e2 := (drop_cons (drop_cons h').2.2).2.2
  simp at hlen
  apply half_h2 (by omega)
  unfold h2; rw [h1_ok second h' k1 k2 ho]
  simp only
  rw [digit_end (by omega) e2]
 | 3, _ =>
  have h' : l.drop p = c1 :: c2 :: c3 :: [] := h; have e3 := (drop_cons (drop_cons (drop_cons h').2.2).2.2).2.2
  simp at hlen
  unfold rdHalf; rw [h2_ok second h' k1 k2 k3 ho]
  simp only
  rw [digit_end (by omega) e3]
theorem pair_err (l : Bs) (p : Nat) (n : Int) {e : Int} (he : e ≠ 0) : (rdPair l p e n).2.2 = e := by
 unfold rdPair; simp only [want_err _ _ _ he]; have := (half_err l true p he).1; rw [this, if_neg he]
theorem long_err {l : Bs} {p : Nat} {x e z : Int} {y : Nat} (he : e ≠ 0) (h : (rdHalf l false p x).2.2 = e) : (rdLong l (p, z) (y, x)).2.2 = e := by
 unfold rdLong
 simp only
 split
 · rw [h]; exact pair_err _ _ _ he
 · rw [h, if_neg he]
theorem esc_end {l : Bs} {p : Nat} (hp : p ≤ l.length) (h : l.drop p = []) : (rdEscape l p 0).2.2 = 3 := by
 unfold rdEscape; simp only [take_end hp h]; rw [if_neg (by decide)]; simp only [show unesc 0 = none from by decide]; rw [if_neg (by decide), fail_err (by decide)]; exact long_err (by decide) (half_err l false p (by decide)).1
theorem esc_u {l : Bs} {p : Nat} {r : Bs} (h : l.drop p = 117 :: r) : rdEscape l p 0 = rdLong l (p + 1, 0) (0, 0) := by
 unfold rdEscape; simp only [take_cons h]; rw [if_neg (by decide)]; simp only [show (((117 : UInt8).toNat : Nat) : Int) = 117 from rfl, if_true, show unesc 117 = none from by decide]
theorem cut_none {r : Int} (h : isRune r = true) {j : Nat} (h1 : 1 ≤ j) (h2 : j < (encodeRune r).length) : nextD ((encodeRune r).take j) = (0, 0, false) := by
 rcases next_cases ((encodeRune r).take j) with e | ⟨r', g1, g2, g3⟩
 · exact e
 · exfalso
   have hl := congrArg List.length g3; rw [List.length_take, List.length_append, List.length_drop, List.length_take] at hl; have hr' := encodeRune_length r'
   have e : encodeRune r = encodeRune r' ++ (((encodeRune r).take j).drop (encodeRune r').length ++ (encodeRune r).drop j) := by
    rw [← List.append_assoc, ← g3, List.take_append_drop]
   have n1 := next_enc r' (((encodeRune r).take j).drop (encodeRune r').length ++ (encodeRune r).drop j) g1; rw [← e] at n1; have n2 := next_enc r [] h; rw [List.append_nil, n1] at n2; simp only [Prod.mk.injEq] at n2; omega
theorem firstT_two {b : Nat} (h : 194 ≤ b) (h2 : b < 224) : firstT b = 2 := by
 unfold firstT; rw [if_neg (by omega), if_neg (by omega), if_pos h2]
set_option maxRecDepth 100000 in
theorem cut_more {r : Int} (h : isRune r = true) {j : Nat} (h1 : 1 ≤ j) (h2 : j < (encodeRune r).length) : fullD ((encodeRune r).take j) = false := by
 have hb := (isRune_iff r).1 h
 by_cases c0 : r ≤ 127
 · rw [enc_ascii (by omega) c0] at h2; simp at h2; omega
 unfold encodeRune at h2 ⊢
 by_cases c1 : r ≤ 2047
 · rw [encodeRuneZ_two (by omega) c1] at h2 ⊢; simp only [List.map_cons, List.map_nil, List.length_cons, List.length_nil] at h2 ⊢
   obtain rfl : j = 1 := by omega
   simp only [List.take_succ_cons, List.take_zero]; unfold fullD; simp only [bt, List.getD_cons_zero, List.length_cons, List.length_nil]; rw [toU8_nat (by omega) (by omega), firstT_two (by omega) (by omega)]
   simp
 by_cases c2 : r ≤ 65535
 · rw [encodeRuneZ_three (by omega)] at h2 ⊢; obtain ⟨b0, e0⟩ : ∃ b, 224 + r / 4096 = b := ⟨_, rfl⟩; obtain ⟨b1, e1⟩ : ∃ b, 128 + r / 64 % 64 = b := ⟨_, rfl⟩; obtain ⟨b2, e2⟩ : ∃ b, 128 + r % 64 = b := ⟨_, rfl⟩
   have f0 : 224 ≤ b0 ∧ b0 < 240 := by omega
   have f1 : 128 ≤ b1 ∧ b1 ≤ 191 := by omega
   have f2 : b0 = 224 → 160 ≤ b1 := by omega
   have f3 : b0 = 237 → b1 ≤ 159 := by omega
   rw [e0, e1, e2] at h2 ⊢; clear e0 e1 e2 hb h c0 c1 c2; simp only [List.map_cons, List.map_nil, List.length_cons, List.length_nil] at h2 ⊢
   have hf : ∀ x : Nat, 224 ≤ x → x < 240 → firstT x % 8 = 3 ∧ firstT x / 16 = (if x = 224 then 1 else if x = 237 then 2 else 0) := by
    intro x a b
    unfold firstT
    repeat' split
    all_goals omega
   have hfx := hf b0.toNat (by omega) (by omega)
   rcases (by omega : j = 1 ∨ j = 2) with rfl | rfl
   · simp only [List.take_succ_cons, List.take_zero]; unfold fullD; simp only [bt, List.getD_cons_zero, List.length_cons, List.length_nil]; rw [toU8_nat (by omega) (by omega), hfx.1]
     simp
   · simp only [List.take_succ_cons, List.take_zero]; unfold fullD; simp only [bt, List.getD_cons_zero, List.getD_cons_succ, List.length_cons, List.length_nil]; rw [toU8_nat (by omega) (by omega), toU8_nat (by omega) (by omega), hfx.1, hfx.2]
     have g : ¬ b1.toNat < accLo (if b0.toNat = 224 then 1 else if b0.toNat = 237 then 2 else 0) ∧ ¬ accHi (if b0.toNat = 224 then 1 else if b0.toNat = 237 then 2 else 0) < b1.toNat := by
      split
      · simp only [show accLo 1 = 160 from rfl, show accHi 1 = 191 from rfl]; omega
      split
      · simp only [show accLo 2 = 128 from rfl, show accHi 2 = 159 from rfl]; omega
      · simp only [show accLo 0 = 128 from rfl, show accHi 0 = 191 from rfl]; omega
     simp [g.1, g.2]
 · rw [encodeRuneZ_four (by omega) (by omega)] at h2 ⊢; obtain ⟨b0, e0⟩ : ∃ b, 240 + r / 262144 = b := ⟨_, rfl⟩; obtain ⟨b1, e1⟩ : ∃ b, 128 + r / 4096 % 64 = b := ⟨_, rfl⟩; obtain ⟨b2, e2⟩ : ∃ b, 128 + r / 64 % 64 = b := ⟨_, rfl⟩; obtain ⟨b3, e3⟩ : ∃ b, 128 + r % 64 = b := ⟨_, rfl⟩
   have f0 : 240 ≤ b0 ∧ b0 < 245 := by omega
   have f1 : 128 ≤ b1 ∧ b1 ≤ 191 := by omega
   have f2 : b0 = 240 → 144 ≤ b1 := by omega
   have f3 : b0 = 244 → b1 ≤ 143 := by omega
   have f4 : 128 ≤ b2 ∧ b2 ≤ 191 := by omega
   rw [e0, e1, e2, e3] at h2 ⊢; clear e0 e1 e2 e3 hb h c0 c1 c2; simp only [List.map_cons, List.map_nil, List.length_cons, List.length_nil] at h2 ⊢
   have hf : ∀ x : Nat, 240 ≤ x → x < 245 → firstT x % 8 = 4 ∧ firstT x / 16 = (if x = 240 then 3 else if x = 244 then 4 else 0) := by
    intro x a b
    unfold firstT
    repeat' split
    all_goals omega
   have hfx := hf b0.toNat (by omega) (by omega)
   have g : ¬ b1.toNat < accLo (if b0.toNat = 240 then 3 else if b0.toNat = 244 then 4 else 0) ∧ ¬ accHi (if b0.toNat = 240 then 3 else if b0.toNat = 244 then 4 else 0) < b1.toNat := by
    split
    · simp only [show accLo 3 = 144 from rfl, show accHi 3 = 191 from rfl]; omega
    split
    · simp only [show accLo 4 = 128 from rfl, show accHi 4 = 143 from rfl]; omega
    · simp only [show accLo 0 = 128 from rfl, show accHi 0 = 191 from rfl]; omega
   have g2 : ¬ b2.toNat < 128 ∧ ¬ 191 < b2.toNat := by omega
   rcases (by omega : j = 1 ∨ j = 2 ∨ j = 3) with rfl | rfl | rfl
   · simp only [List.take_succ_cons, List.take_zero]; unfold fullD; simp only [bt, List.getD_cons_zero, List.length_cons, List.length_nil]; rw [toU8_nat (by omega) (by omega), hfx.1]
     simp
   · simp only [List.take_succ_cons, List.take_zero]; unfold fullD; simp only [bt, List.getD_cons_zero, List.getD_cons_succ, List.length_cons, List.length_nil]; rw [toU8_nat (by omega) (by omega), toU8_nat (by omega) (by omega), hfx.1, hfx.2]
     simp [g.1, g.2]
   · simp only [List.take_succ_cons, List.take_zero]; unfold fullD; simp only [bt, List.getD_cons_zero, List.getD_cons_succ, List.length_cons, List.length_nil]; rw [toU8_nat (by omega) (by omega), toU8_nat (by omega) (by omega), toU8_nat (by omega) (by omega), hfx.1, hfx.2]
     simp [g.1, g.2, g2.1, g2.2]
end Go.Ms
namespace Go.Ms
open Go.Lib
/-! Reading from further on. -/
theorem bt_drop (l : Bs) (q p : Nat) : bt (l.drop q) p = bt l (q + p) := by
 unfold bt; rw [List.getD_eq_getElem?_getD, List.getElem?_drop, ← List.getD_eq_getElem?_getD]
theorem take_sh {l : Bs} {q : Nat} (hq : q ≤ l.length) (p : Nat) (e : Int) : rdTake l (q + p) e = ((rdTake (l.drop q) p e).1, q + (rdTake (l.drop q) p e).2.1, (rdTake (l.drop q) p e).2.2) := by
 unfold rdTake; rw [bt_drop, List.length_drop]
 by_cases he : e = 0
 · rw [if_pos he, if_pos he]
   by_cases hp : p = l.length - q
   · rw [if_pos (by omega), if_pos hp]
   · rw [if_neg (by omega), if_neg hp]; rfl
 · rw [if_neg he, if_neg he]
theorem want_sh {l : Bs} {q : Nat} (hq : q ≤ l.length) (x : Int) (p : Nat) (e : Int) : rdWant l x (q + p) e = (q + (rdWant (l.drop q) x p e).1, (rdWant (l.drop q) x p e).2) := by
 unfold rdWant; rw [take_sh hq]
theorem digit_sh {l : Bs} {q : Nat} (hq : q ≤ l.length) (p : Nat) (e : Int) : rdDigit l (q + p) e = ((rdDigit (l.drop q) p e).1, q + (rdDigit (l.drop q) p e).2.1, (rdDigit (l.drop q) p e).2.2) := by
 unfold rdDigit; rw [take_sh hq]
 simp only
 by_cases h : hexv (rdTake (l.drop q) p e).1 = 16
 · rw [if_pos h, if_pos h]
 · rw [if_neg h, if_neg h]
theorem h0_sh {l : Bs} {q : Nat} (hq : q ≤ l.length) (s : Bool) (p : Nat) (e : Int) : h0 l s (q + p) e = ((h0 (l.drop q) s p e).1, q + (h0 (l.drop q) s p e).2.1, (h0 (l.drop q) s p e).2.2) := by
 unfold h0; rw [digit_sh hq]
theorem h1_sh {l : Bs} {q : Nat} (hq : q ≤ l.length) (s : Bool) (p : Nat) (e : Int) : h1 l s (q + p) e = ((h1 (l.drop q) s p e).1, q + (h1 (l.drop q) s p e).2.1, (h1 (l.drop q) s p e).2.2) := by
 unfold h1; rw [h0_sh hq]; simp only; rw [digit_sh hq]
theorem h2_sh {l : Bs} {q : Nat} (hq : q ≤ l.length) (s : Bool) (p : Nat) (e : Int) : h2 l s (q + p) e = ((h2 (l.drop q) s p e).1, q + (h2 (l.drop q) s p e).2.1, (h2 (l.drop q) s p e).2.2) := by
 unfold h2; rw [h1_sh hq]; simp only; rw [digit_sh hq]
theorem half_sh {l : Bs} {q : Nat} (hq : q ≤ l.length) (s : Bool) (p : Nat) (e : Int) : rdHalf l s (q + p) e = ((rdHalf (l.drop q) s p e).1, q + (rdHalf (l.drop q) s p e).2.1, (rdHalf (l.drop q) s p e).2.2) := by
 unfold rdHalf; rw [h2_sh hq]; simp only; rw [digit_sh hq]
theorem pair_sh {l : Bs} {q : Nat} (hq : q ≤ l.length) (p : Nat) (e n : Int) : rdPair l (q + p) e n = ((rdPair (l.drop q) p e n).1, q + (rdPair (l.drop q) p e n).2.1, (rdPair (l.drop q) p e n).2.2) := by
 unfold rdPair; simp only [want_sh hq, half_sh hq]
 split <;> rfl
theorem long_sh {l : Bs} {q : Nat} (hq : q ≤ l.length) (p : Nat) (y : Nat) (z e : Int) : rdLong l (q + p, z) (y, e) = ((rdLong (l.drop q) (p, z) (y, e)).1, q + (rdLong (l.drop q) (p, z) (y, e)).2.1, (rdLong (l.drop q) (p, z) (y, e)).2.2) := by
 unfold rdLong; simp only [half_sh hq, pair_sh hq]
 split
 · rfl
 · split <;> rfl
theorem escape_sh {l : Bs} {q : Nat} (hq : q ≤ l.length) (p : Nat) (e : Int) : rdEscape l (q + p) e = ((rdEscape (l.drop q) p e).1, q + (rdEscape (l.drop q) p e).2.1, (rdEscape (l.drop q) p e).2.2) := by
 unfold rdEscape; simp only [take_sh hq, long_sh hq]
 split
 · rfl
 · split <;> rfl
/-! Four digits, one by one. -/
def stage (l : Bs) (second : Bool) (k : Nat) : Int × Nat × Int :=
  if k = 0 then (0, 0, 0) else if k = 1 then h0 l second 0 0 else if k = 2 then h1 l second 0 0 else if k = 3 then h2 l second 0 0 else rdHalf l second 0 0
theorem stage_err {l : Bs} {s : Bool} {k : Nat} {x : Int} (hk : k ≤ 4) (hx : x ≠ 0) (h : (stage l s k).2.2 = x) : (rdHalf l s 0 0).2.2 = x := by
 rcases (by omega : k = 0 ∨ k = 1 ∨ k = 2 ∨ k = 3 ∨ k = 4) with rfl | rfl | rfl | rfl | rfl
 · exact absurd h.symm hx
 · exact half_h0 hx h
 · exact half_h1 hx h
 · exact half_h2 hx h
 · exact h
def badAt (second : Bool) (k : Nat) (n : Int) : Bool := (decide (k = 0) && second && !decide (n = 13)) || (decide (k = 1) && (second != decide (220 ≤ n ∧ n ≤ 223)))
theorem stage_succ (l : Bs) (s : Bool) {k : Nat} (hk : k < 4) {n : Int} (h : stage l s k = (n, k, 0)) :
    stage l s (k + 1) = (16 * n + (rdDigit l k 0).1, (rdDigit l k 0).2.1, if badAt s k (16 * n + (rdDigit l k 0).1) = true then rdFail (rdDigit l k 0).2.2 41 else (rdDigit l k 0).2.2) := by
 rcases (by omega : k = 0 ∨ k = 1 ∨ k = 2 ∨ k = 3) with rfl | rfl | rfl | rfl
 · have hn : n = 0 := by simp [stage] at h; exact h.symm
   subst hn; have e1 : stage l s (0 + 1) = h0 l s 0 0 := rfl
   rw [e1]; unfold h0
   have e2 : badAt s 0 (16 * 0 + (rdDigit l 0 0).1) = true ↔ (s = true ∧ ¬ (rdDigit l 0 0).1 = 13) := by unfold badAt; simp
   by_cases hb : s = true ∧ ¬ (rdDigit l 0 0).1 = 13
   · rw [if_pos hb, if_pos (e2.2 hb)]; simp
   · rw [if_neg hb, if_neg (fun x => hb (e2.1 x))]; simp
 · have e0 : h0 l s 0 0 = (n, 1, 0) := h; have e1 : stage l s (1 + 1) = h1 l s 0 0 := rfl
   rw [e1]; unfold h1; rw [e0]; simp only
   have e2 : badAt s 1 (16 * n + (rdDigit l 1 0).1) = true ↔ ¬ (s = decide (220 ≤ 16 * n + (rdDigit l 1 0).1 ∧ 16 * n + (rdDigit l 1 0).1 ≤ 223)) := by unfold badAt; simp
   by_cases hb : s = decide (220 ≤ 16 * n + (rdDigit l 1 0).1 ∧ 16 * n + (rdDigit l 1 0).1 ≤ 223)
   · rw [if_pos hb, if_neg (fun x => e2.1 x hb)]
   · rw [if_neg hb, if_pos (e2.2 hb)]
 · have e0 : h1 l s 0 0 = (n, 2, 0) := h; have e1 : stage l s (2 + 1) = h2 l s 0 0 := rfl
   rw [e1]; unfold h2; rw [e0]; simp [badAt]
 · have e0 : h2 l s 0 0 = (n, 3, 0) := h; have e1 : stage l s (3 + 1) = rdHalf l s 0 0 := rfl
   rw [e1]; unfold rdHalf; rw [e0]; simp [badAt]
theorem digit_at {l : Bs} {k : Nat} (hk : k < l.length) : rdDigit l k 0 = if hexv (bt l k) = 16 then ((0 : Int), k + 1, (41 : Int)) else (hexv (bt l k), k + 1, 0) := by
 have h : l.drop k = l[k] :: l.drop (k + 1) := List.drop_eq_getElem_cons hk
 have hb : bt l k = (l[k]).toNat := by simp [bt, List.getD_eq_getElem?_getD, hk]
 rw [hb]
 by_cases hx : hexv (l[k]).toNat = 16
 · rw [if_pos hx, digit_bad h hx]
 · rw [if_neg hx, digit_cons h hx]
theorem stage_end (l : Bs) (s : Bool) {k : Nat} (hk : k < 4) {n : Int} (h : stage l s k = (n, k, 0)) (hl : l.length = k) : (rdHalf l s 0 0).2.2 = 3 := by
 refine stage_err (k := k + 1) (by omega) (by decide) ?_; rw [stage_succ l s hk h, digit_end (by omega) (by rw [List.drop_of_length_le (by omega)])]
 simp only
 split <;> rfl
theorem stage_none (l : Bs) (s : Bool) {k : Nat} (hk : k < 4) {n : Int} (h : stage l s k = (n, k, 0)) (hl : k < l.length) (hx : hexv (bt l k) = 16) : (rdHalf l s 0 0).2.2 = 41 := by
 refine stage_err (k := k + 1) (by omega) (by decide) ?_; rw [stage_succ l s hk h, digit_at hl, if_pos hx]
 simp only
 split <;> rfl
theorem stage_bad (l : Bs) (s : Bool) {k : Nat} (hk : k < 4) {n : Int} (h : stage l s k = (n, k, 0)) (hl : k < l.length) (hx : ¬ hexv (bt l k) = 16) (hb : badAt s k (16 * n + hexv (bt l k)) = true) : (rdHalf l s 0 0).2.2 = 41 := by
 refine stage_err (k := k + 1) (by omega) (by decide) ?_; rw [stage_succ l s hk h, digit_at hl, if_neg hx]
 simp only
 rw [if_pos hb]; rfl
theorem stage_ok (l : Bs) (s : Bool) {k : Nat} (hk : k < 4) {n : Int} (h : stage l s k = (n, k, 0)) (hl : k < l.length) (hx : ¬ hexv (bt l k) = 16) (hb : badAt s k (16 * n + hexv (bt l k)) = false) : stage l s (k + 1) = (16 * n + hexv (bt l k), k + 1, 0) := by
 rw [stage_succ l s hk h, digit_at hl, if_neg hx]
 simp only
 rw [hb]; rfl
def rhalf (l : Bs) (s : Bool) : Int × Int := if (rdHalf l s 0 0).2.2 = 0 then ((rdHalf l s 0 0).1, 0) else (0, (rdHalf l s 0 0).2.2)
theorem rhalf_err {l : Bs} {s : Bool} {x : Int} (hx : x ≠ 0) (h : (rdHalf l s 0 0).2.2 = x) : rhalf l s = (0, x) := by
 unfold rhalf; rw [h, if_neg hx]
theorem rhalf_ok {l : Bs} {s : Bool} {n : Int} {k : Nat} (h : stage l s 4 = (n, k, 0)) : rhalf l s = (n, 0) := by
 have h' : rdHalf l s 0 0 = (n, k, 0) := h
 unfold rhalf; rw [h']; rfl
/-! Can more bytes make a rune's bytes of some? -/
theorem w2 {n b0 b1 b2 b3 : Nat} (h0 : b0 < 256) (h1 : b1 < 256) (h2 : b2 < 256) (h3 : b3 < 256) : (decodeN n b0 b1 b2 b3).2 = 2 ↔ 194 ≤ b0 ∧ b0 < 224 ∧ 1 < n ∧ 128 ≤ b1 ∧ b1 < 192 := by
 unfold decodeN
 repeat' split
 all_goals constructor
 all_goals intro hh
 all_goals first | (exfalso; revert hh; decide) | omega | skip
set_option maxRecDepth 100000 in
theorem w3 {n b0 b1 b2 b3 : Nat} (h0 : b0 < 256) (h1 : b1 < 256) (h2 : b2 < 256) (h3 : b3 < 256) : (decodeN n b0 b1 b2 b3).2 = 3 ↔ 224 ≤ b0 ∧ b0 < 240 ∧ 2 < n ∧ 128 ≤ b1 ∧ b1 < 192 ∧ 128 ≤ b2 ∧ b2 < 192 ∧ (b0 = 224 → 160 ≤ b1) ∧ (b0 = 237 → b1 < 160) := by
 unfold decodeN
 repeat' split
 all_goals constructor
 all_goals intro hh
 all_goals first | (exfalso; revert hh; decide) | omega | skip
set_option maxRecDepth 100000 in
theorem w4 {n b0 b1 b2 b3 : Nat} (h0 : b0 < 256) (h1 : b1 < 256) (h2 : b2 < 256) (h3 : b3 < 256) : (decodeN n b0 b1 b2 b3).2 = 4 ↔ 240 ≤ b0 ∧ b0 < 245 ∧ 3 < n ∧ 128 ≤ b1 ∧ b1 < 192 ∧ 128 ≤ b2 ∧ b2 < 192 ∧ 128 ≤ b3 ∧ b3 < 192 ∧ (b0 = 240 → 144 ≤ b1) ∧ (b0 = 244 → b1 < 144) := by
 unfold decodeN
 repeat' split
 all_goals constructor
 all_goals intro hh
 all_goals first | (exfalso; revert hh; decide) | omega | skip
def hasN (l : Bs) (n : Nat) : Bool := (nextD l).2.2 && decide ((nextD l).2.1 = n)
theorem hasN_iff {l : Bs} {n : Nat} (hl : l ≠ []) (hn : 2 ≤ n) : hasN l n = true ↔ (decodeL l).2 = n := by
 unfold hasN nextD; rw [if_neg hl]
 by_cases h : (decodeL l).1 = 65533 ∧ (decodeL l).2 < 2
 · rw [if_pos h]; simp; omega
 · rw [if_neg h]; simp
def moreN (l : Bs) (n : Nat) : Bool := hasN (l ++ List.replicate (n - l.length) 128) n || hasN (l ++ List.replicate (n - l.length) 191) n
theorem full_four {l : Bs} (h : 4 ≤ l.length) : fullD l = true := by
 have hf : firstT (bt l 0) % 8 ≤ 4 := by
  unfold firstT
  repeat' split
  all_goals omega
 unfold fullD
 rw [decide_eq_true (show firstT (bt l 0) % 8 ≤ l.length by omega)]; rfl
theorem firstT_small (b : Nat) : firstT b % 8 = (if b < 128 then 0 else if b < 194 then 1 else if b < 224 then 2 else if b < 240 then 3 else if b < 245 then 4 else 1) := by
 unfold firstT
 repeat' split
 all_goals omega
theorem firstT_row (b : Nat) : firstT b / 16 = (if b < 194 then 15 else if b = 224 then 1 else if b = 237 then 2 else if b = 240 then 3 else if b = 244 then 4 else if b < 244 then 0 else 15) := by
 unfold firstT
 repeat' split
 all_goals omega
theorem acc_row (b : Nat) (h : 194 ≤ b) (h2 : b < 245) : accLo (firstT b / 16) = (if b = 224 then 160 else if b = 240 then 144 else 128) ∧ accHi (firstT b / 16) = (if b = 237 then 159 else if b = 244 then 143 else 191) := by
 rw [firstT_row]; unfold accLo accHi
 by_cases c1 : b = 224
 · subst c1; decide
 by_cases c2 : b = 237
 · subst c2; decide
 by_cases c3 : b = 240
 · subst c3; decide
 by_cases c4 : b = 244
 · subst c4; decide
 rw [if_neg (show ¬ b < 194 by omega), if_neg c1, if_neg c2, if_neg c3, if_neg c4, if_pos (show b < 244 by omega), if_neg c1, if_neg c3, if_neg c2, if_neg c4]
 decide
theorem firstT_le {b : Nat} (h : ¬ (194 ≤ b ∧ b < 245)) : firstT b % 8 ≤ 1 := by
 rw [firstT_small]
 repeat' split
 all_goals omega
set_option maxRecDepth 100000 in
set_option maxHeartbeats 1000000 in
theorem begins_one (a : UInt8) : fullD [a] = false ↔ (moreN [a] 2 = true ∨ moreN [a] 3 = true ∨ moreN [a] 4 = true) := by
 have ha := UInt8.toNat_lt a; unfold moreN; simp only [Bool.or_eq_true]; rw [hasN_iff (by simp) (by omega), hasN_iff (by simp) (by omega), hasN_iff (by simp) (by omega), hasN_iff (by simp) (by omega), hasN_iff (by simp) (by omega), hasN_iff (by simp) (by omega)]; simp only [decodeL_eq, List.length_cons, List.length_nil, Nat.zero_add, Nat.reduceSub, List.replicate, List.cons_append, List.nil_append, bt, List.getD_cons_zero, List.getD_cons_succ, List.getD_nil, Nat.reduceAdd]
 rw [w2 ha (by decide) (by decide) (by decide), w2 ha (by decide) (by decide) (by decide), w3 ha (by decide) (by decide) (by decide), w3 ha (by decide) (by decide) (by decide), w4 ha (by decide) (by decide) (by decide), w4 ha (by decide) (by decide) (by decide)]; unfold fullD; simp only [bt, List.getD_cons_zero, List.length_cons, List.length_nil, Nat.zero_add, Nat.lt_irrefl, decide_false, Bool.false_and, Bool.or_false]; rw [firstT_small]; simp only [show (128 : UInt8).toNat = 128 from rfl, show (191 : UInt8).toNat = 191 from rfl]
 generalize a.toNat = x at *
 repeat' split
 all_goals simp
 all_goals omega
set_option maxRecDepth 100000 in
set_option maxHeartbeats 1000000 in
theorem begins_two (a b : UInt8) : fullD [a, b] = false ↔ (moreN [a, b] 3 = true ∨ moreN [a, b] 4 = true) := by
 have ha := UInt8.toNat_lt a; have hb := UInt8.toNat_lt b; unfold moreN; simp only [Bool.or_eq_true]; rw [hasN_iff (by simp) (by omega), hasN_iff (by simp) (by omega), hasN_iff (by simp) (by omega), hasN_iff (by simp) (by omega)]; simp only [decodeL_eq, List.length_cons, List.length_nil, Nat.zero_add, Nat.reduceSub, List.replicate, List.cons_append, List.nil_append, bt, List.getD_cons_zero, List.getD_cons_succ, List.getD_nil, Nat.reduceAdd]; rw [w3 ha hb (by decide) (by decide), w3 ha hb (by decide) (by decide), w4 ha hb (by decide) (by decide), w4 ha hb (by decide) (by decide)]; unfold fullD
 simp only [bt, List.getD_cons_zero, List.getD_cons_succ, List.length_cons, List.length_nil, Nat.zero_add, Nat.reduceAdd, Nat.lt_irrefl, decide_false, Bool.false_and, Bool.or_false, show (128 : UInt8).toNat = 128 from rfl, show (191 : UInt8).toNat = 191 from rfl]
 by_cases hr : 194 ≤ a.toNat ∧ a.toNat < 245
 · obtain ⟨r1, r2⟩ := acc_row a.toNat hr.1 hr.2; rw [r1, r2, firstT_small]
   generalize a.toNat = x at *
   generalize b.toNat = y at *
   simp only [Bool.or_eq_false_iff, Bool.and_eq_false_iff, decide_eq_false_iff_not]
   repeat' split
   all_goals simp
   all_goals omega
 · have hf := firstT_le hr; rw [decide_eq_true (show firstT a.toNat % 8 ≤ 2 by omega)]
   generalize a.toNat = x at *
   generalize b.toNat = y at *
   simp
   omega
set_option maxRecDepth 100000 in
set_option maxHeartbeats 1000000 in
theorem begins_three (a b c : UInt8) : fullD [a, b, c] = false ↔ moreN [a, b, c] 4 = true := by
 have ha := UInt8.toNat_lt a; have hb := UInt8.toNat_lt b; have hc := UInt8.toNat_lt c; unfold moreN; simp only [Bool.or_eq_true]; rw [hasN_iff (by simp) (by omega), hasN_iff (by simp) (by omega)]; simp only [decodeL_eq, List.length_cons, List.length_nil, Nat.zero_add, Nat.reduceSub, List.replicate, List.cons_append, List.nil_append, bt, List.getD_cons_zero, List.getD_cons_succ, Nat.reduceAdd]; rw [w4 ha hb hc (by decide), w4 ha hb hc (by decide)]; unfold fullD
 simp only [bt, List.getD_cons_zero, List.getD_cons_succ, List.length_cons, List.length_nil, Nat.zero_add, Nat.reduceAdd, show (128 : UInt8).toNat = 128 from rfl, show (191 : UInt8).toNat = 191 from rfl]
 by_cases hr : 194 ≤ a.toNat ∧ a.toNat < 245
 · obtain ⟨r1, r2⟩ := acc_row a.toNat hr.1 hr.2; rw [r1, r2, firstT_small]
   generalize a.toNat = x at *
   generalize b.toNat = y at *
   generalize c.toNat = z at *
   simp only [Bool.or_eq_false_iff, Bool.and_eq_false_iff, decide_eq_false_iff_not]
   repeat' split
   all_goals simp
   all_goals omega
 · have hf := firstT_le hr; rw [decide_eq_true (show firstT a.toNat % 8 ≤ 3 by omega)]
   generalize a.toNat = x at *
   generalize b.toNat = y at *
   generalize c.toNat = z at *
   simp
   omega
theorem begins_full {l : Bs} (hl : l ≠ []) : fullD l = false ↔ ∃ n, l.length < n ∧ n ≤ 4 ∧ moreN l n = true := by
 match l, hl with
 | [a], _ =>
  rw [begins_one]
  constructor
  · rintro (h | h | h)
    · exact ⟨2, by simp, by omega, h⟩
    · exact ⟨3, by simp, by omega, h⟩
    · exact ⟨4, by simp, by omega, h⟩
  · rintro ⟨n, h1, h2, h⟩
    simp at h1
    rcases (by omega : n = 2 ∨ n = 3 ∨ n = 4) with rfl | rfl | rfl
    · exact .inl h
    · exact .inr (.inl h)
    · exact .inr (.inr h)
 | [a, b], _ =>
  rw [begins_two]
  constructor
  · rintro (h | h)
    · exact ⟨3, by simp, by omega, h⟩
    · exact ⟨4, by simp, by omega, h⟩
  · rintro ⟨n, h1, h2, h⟩
    simp at h1
    rcases (by omega : n = 3 ∨ n = 4) with rfl | rfl
    · exact .inl h
    · exact .inr h
 | [a, b, c], _ =>
  rw [begins_three]
  constructor
  · intro h; exact ⟨4, by simp, by omega, h⟩
  · rintro ⟨n, h1, h2, h⟩
    simp at h1
    obtain rfl : n = 4 := by omega
    exact h
 | a :: b :: c :: d :: t, _ =>
  rw [full_four (by simp)]
  constructor
  · intro h; cases h
  · rintro ⟨n, h1, h2, h⟩
    simp at h1; omega
end Go.Ms
