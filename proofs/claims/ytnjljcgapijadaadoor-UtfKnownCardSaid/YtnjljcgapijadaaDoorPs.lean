/- Quote's answer, as a plain function; runes gone over. -/
import Derived.Test.YtnjljcgapijadaaDoorPq
import Derived.Lib.ValidU
set_option linter.unusedVariables false
namespace Go.Ms
open Go.Lib

theorem decode_drop (s : ByteArray) (pos : Nat) : Utf8.decode s pos = decodeL (s.data.toList.drop pos) := by
  rw [decode_at, decodeL_eq]
  have hg : ∀ k, s.get! k = s.data.toList.getD k 0 := by
    intro k
    have hs : s = ⟨s.data.toList.toArray⟩ := by cases s; simp
    have key : ∀ s' : ByteArray, s' = ⟨s.data.toList.toArray⟩ → s'.get! k = s.data.toList.getD k 0 := fun s' h => by rw [h]; exact get!_list _ _
    exact key s hs
  simp only [hg, bt, List.length_drop, Array.length_toList, ByteArray.size_data, List.getD_eq_getElem?_getD, List.getElem?_drop, Nat.add_zero]

/-- Runes that have an escape of two bytes, and its second one. -/
def esc2 (r : Int) : Option Int :=
  if r = 34 then some 34 else if r = 92 then some 92 else if r = 8 then some 98 else if r = 12 then some 102 else if r = 10 then some 110 else if r = 13 then some 114 else if r = 9 then some 116 else none
def hexd (n : Nat) : UInt8 := if n < 10 then (48 + n).toUInt8 else (87 + n).toUInt8
/-- A byte's piece of the tidy literal. -/
def qb (c : UInt8) : Bs :=
  match esc2 c.toNat with
  | some x => [92, x.toNat.toUInt8]
  | none => if c.toNat < 32 then [92, 117, 48, 48, hexd (c.toNat / 16), hexd (c.toNat % 16)] else [c]
def quoteD (l : Bs) : Bs := 34 :: (l.flatMap qb ++ [34])

theorem validGoD_more : ∀ (n : Nat) (l : Bs), l.length ≤ n → validGoD n l = validD l := by
  intro n
  induction n using Nat.strongRecOn with
  | ind n ih =>
    intro l hl
    cases n with
    | zero =>
      have : l = [] := List.eq_nil_of_length_eq_zero (by omega)
      subst this; rfl
    | succ n =>
      cases l with
      | nil => rfl
      | cons a t =>
        unfold validD
        simp only [List.length_cons, validGoD]
        have hw := decodeL_width (a :: t)
        have h2 : ((a :: t).drop (decodeL (a :: t)).2).length ≤ t.length := by simp; omega
        rw [ih n (by omega) _ (by simp at hl h2 ⊢; omega)]
        by_cases hn : t.length = n
        · rw [hn, ih n (by omega) _ (by rw [← hn]; exact h2)]
        · rw [ih t.length (by simp at hl; omega) _ h2]

theorem valid_nil : validD [] = true := rfl
theorem valid_step (l : Bs) (h : l ≠ []) : validD l = if (decodeL l).1 = 65533 ∧ (decodeL l).2 = 1 then false else validD (l.drop (decodeL l).2) := by
  obtain ⟨a, t, rfl⟩ := List.exists_cons_of_ne_nil h
  have hw := decodeL_width (a :: t)
  show validGoD (a :: t).length (a :: t) = _
  simp only [List.length_cons, validGoD]
  rw [validGoD_more _ _ (by simp; omega)]
  rfl
theorem valid_next (l : Bs) (h : l ≠ []) : validD l = if (nextD l).2.2 = true then validD (l.drop (nextD l).2.1) else false := by
  rw [valid_step l h]
  have hw := decodeL_width l
  unfold nextD
  rw [if_neg h]
  by_cases hc : (decodeL l).1 = 65533 ∧ (decodeL l).2 < 2
  · rw [if_pos hc, if_pos ⟨hc.1, by omega⟩]; simp
  · rw [if_neg hc, if_neg (by omega)]; simp
theorem valid_enc (r : Int) (m : Bs) (h : isRune r = true) : validD (encodeRune r ++ m) = validD m := by
  have hl := encodeRune_length r
  rw [valid_next _ (by intro e; rw [List.append_eq_nil_iff] at e; rw [e.1] at hl; simp at hl), next_enc r m h]
  simp
/-- Of what is valid and not nothing a rune comes first. -/
theorem valid_first (l : Bs) (h : l ≠ []) (hv : validD l = true) : ∃ r : Int, isRune r = true ∧ nextD l = (r.toNat, (encodeRune r).length, true) ∧ l = encodeRune r ++ l.drop (encodeRune r).length ∧ validD (l.drop (encodeRune r).length) = true := by
  rw [valid_next l h] at hv
  rcases next_cases l with e | ⟨r, h1, h2, h3⟩
  · rw [e] at hv; simp at hv
  · refine ⟨r, h1, h2, h3, ?_⟩
    rw [h2] at hv
    simpa using hv
/-- Put or decoded. -/
theorem next_dec (l : Bs) (r : Int) (h : l ≠ []) (h2 : nextD l = (r.toNat, (encodeRune r).length, true)) : decodeL l = (r.toNat, (encodeRune r).length) := by
  unfold nextD at h2
  rw [if_neg h] at h2
  split at h2
  · simp at h2
  · simp only [Prod.mk.injEq] at h2
    exact Prod.ext h2.1 h2.2.1

set_option maxRecDepth 100000 in
theorem qb_high (c : UInt8) (h : 128 ≤ c.toNat) : qb c = [c] := by
  unfold qb esc2
  simp only [show ¬ ((c.toNat : Int) = 34) by omega, show ¬ ((c.toNat : Int) = 92) by omega, show ¬ ((c.toNat : Int) = 8) by omega, show ¬ ((c.toNat : Int) = 12) by omega, show ¬ ((c.toNat : Int) = 10) by omega, show ¬ ((c.toNat : Int) = 13) by omega, show ¬ ((c.toNat : Int) = 9) by omega, if_false]
  rw [if_neg (by omega)]
theorem enc_ascii {r : Int} (h0 : 0 ≤ r) (h1 : r ≤ 127) : encodeRune r = [r.toNat.toUInt8] := by
  unfold encodeRune; rw [encodeRuneZ_one h0 h1]; rfl
theorem enc_high {r : Int} (h : isRune r = true) (h1 : 128 ≤ r) : ∀ c ∈ encodeRune r, 128 ≤ c.toNat := by
  rw [isRune_iff] at h
  have key : ∀ x : Int, x ∈ encodeRuneZ r → 128 ≤ x := by
    intro x hx
    by_cases c1 : r ≤ 2047
    · rw [encodeRuneZ_two (by omega) c1] at hx; simp at hx; omega
    by_cases c2 : r ≤ 65535
    · rw [encodeRuneZ_three (by omega)] at hx; simp at hx; omega
    · rw [encodeRuneZ_four (by omega) (by omega)] at hx; simp at hx; omega
  intro c hc
  unfold encodeRune at hc
  rw [List.mem_map] at hc
  obtain ⟨x, hx, rfl⟩ := hc
  have := key x hx
  have := encodeRuneZ_byte r x hx
  rw [toU8_nat (by omega) (by omega)]
  omega
theorem flat_high : ∀ l : Bs, (∀ c ∈ l, 128 ≤ c.toNat) → l.flatMap qb = l := by
  intro l h
  induction l with
  | nil => rfl
  | cons a t ih => rw [List.flatMap_cons, qb_high a (h a (by simp)), ih (fun c hc => h c (by simp [hc]))]; rfl
theorem u8_nat {r : Int} (h0 : 0 ≤ r) (h1 : r ≤ 127) : ((r.toNat.toUInt8).toNat : Int) = r := toU8_toNat h0 (by omega)
theorem q_esc {r x : Int} (h : isRune r = true) (hx : esc2 r = some x) : (encodeRune r).flatMap qb = [92, x.toNat.toUInt8] := by
  have hr : 0 ≤ r ∧ r ≤ 127 := by
    rw [isRune_iff] at h
    unfold esc2 at hx
    repeat' split at hx
    all_goals first | omega | (cases hx)
  rw [enc_ascii hr.1 hr.2]
  simp only [List.flatMap_cons, List.flatMap_nil, List.append_nil, qb]
  rw [u8_nat hr.1 hr.2, hx]
theorem q_hex {r : Int} (h0 : 0 ≤ r) (hx : esc2 r = none) (h1 : r < 32) : (encodeRune r).flatMap qb = [92, 117, 48, 48, hexd (r.toNat / 16), hexd (r.toNat % 16)] := by
  rw [enc_ascii h0 (by omega)]
  simp only [List.flatMap_cons, List.flatMap_nil, List.append_nil, qb]
  rw [u8_nat h0 (by omega), hx]
  have e : (r.toNat.toUInt8).toNat = r.toNat := by have := u8_nat h0 (by omega : r ≤ 127); omega
  simp only [e]
  rw [if_pos (by omega)]
theorem q_plain {r : Int} (h : isRune r = true) (hx : esc2 r = none) (h1 : ¬ r < 32) : (encodeRune r).flatMap qb = encodeRune r := by
  by_cases c : r ≤ 127
  · rw [enc_ascii (by omega) c]
    simp only [List.flatMap_cons, List.flatMap_nil, List.append_nil, qb]
    rw [u8_nat (by omega) c, hx]
    have e : (r.toNat.toUInt8).toNat = r.toNat := by have := u8_nat (by omega : 0 ≤ r) c; omega
    simp only [e]
    rw [if_neg (by omega)]
  · exact flat_high _ (enc_high h (by omega))
end Go.Ms
