/- A byte of a text of runes that becomes another one below 128. -/
import Derived.Test.YtnjljcgapijadaaDoorPs
set_option linter.unusedVariables false
namespace Go.Ms
open Go.Lib

theorem get_congr {a b : Bs} (h : a = b) (k : Nat) : a[k]? = b[k]? := by rw [h]
/-- How a rune's bytes look. -/
theorem enc_shape {r : Int} (h : isRune r = true) : ∃ c t, encodeRune r = c :: t ∧ (∀ x ∈ t, 128 ≤ x.toNat ∧ x.toNat < 192) ∧
    ((t.length = 0 ∧ c.toNat < 128) ∨ (t.length = 1 ∧ 192 ≤ c.toNat ∧ c.toNat < 224) ∨ (t.length = 2 ∧ 224 ≤ c.toNat ∧ c.toNat < 240) ∨ (t.length = 3 ∧ 240 ≤ c.toNat)) := by
  rw [isRune_iff] at h
  unfold encodeRune
  by_cases c0 : r ≤ 127
  · rw [encodeRuneZ_one (by omega) c0]
    refine ⟨_, _, rfl, by simp, .inl ⟨rfl, ?_⟩⟩
    rw [toU8_nat (by omega) (by omega)]; omega
  by_cases c1 : r ≤ 2047
  · rw [encodeRuneZ_two (by omega) c1]
    refine ⟨_, _, rfl, ?_, .inr (.inl ⟨rfl, ?_⟩)⟩
    · intro x hx
      simp only [List.map_cons, List.map_nil, List.mem_singleton] at hx
      subst hx; rw [toU8_nat (by omega) (by omega)]; omega
    · rw [toU8_nat (by omega) (by omega)]; omega
  by_cases c2 : r ≤ 65535
  · rw [encodeRuneZ_three (by omega)]
    refine ⟨_, _, rfl, ?_, .inr (.inr (.inl ⟨rfl, ?_⟩))⟩
    · intro x hx
      simp only [List.map_cons, List.map_nil, List.mem_cons, List.not_mem_nil, or_false] at hx
      rcases hx with rfl | rfl <;> (rw [toU8_nat (by omega) (by omega)]; omega)
    · rw [toU8_nat (by omega) (by omega)]; omega
  · rw [encodeRuneZ_four (by omega) (by omega)]
    refine ⟨_, _, rfl, ?_, .inr (.inr (.inr ⟨rfl, ?_⟩))⟩
    · intro x hx
      simp only [List.map_cons, List.map_nil, List.mem_cons, List.not_mem_nil, or_false] at hx
      rcases hx with rfl | rfl | rfl <;> (rw [toU8_nat (by omega) (by omega)]; omega)
    · rw [toU8_nat (by omega) (by omega)]; omega

/-- No text of runes begins with a byte that goes on. -/
theorem valid_head {c : UInt8} {l : Bs} (h : 128 ≤ c.toNat) (h2 : c.toNat < 192) : validD (c :: l) = false := by
  rw [Bool.eq_false_iff]
  intro hv
  obtain ⟨r, h1, _, h3, _⟩ := valid_first _ (by simp) hv
  obtain ⟨d, t, e, _, hc⟩ := enc_shape h1
  rw [e] at h3
  have : c = d := (List.cons.inj h3).1
  subst this
  omega

theorem turned (rs : List Int) : (∀ r ∈ rs, isRune r = true) → ∀ (k : Nat) (c : UInt8) (rest : Bs), validD rest = true → c.toNat < 128 → k < (rs.flatMap encodeRune).length →
    validD ((rs.flatMap encodeRune).take k ++ c :: ((rs.flatMap encodeRune).drop (k + 1) ++ rest)) = decide (bt (rs.flatMap encodeRune) k < 128) := by
  induction rs with
  | nil => intro _ k c rest _ _ hk; simp at hk
  | cons r rs ih =>
    intro hall k c rest hrest hc hk
    have hr := hall r (by simp)
    have hall' : ∀ x ∈ rs, isRune x = true := fun x hx => hall x (by simp [hx])
    have hvs : ∀ ys : List Int, (∀ x ∈ ys, isRune x = true) → validD (ys.flatMap encodeRune ++ rest) = true := by
      intro ys
      induction ys with
      | nil => intro _; simpa using hrest
      | cons y ys ih2 => intro h; rw [List.flatMap_cons, List.append_assoc, valid_enc _ _ (h y (by simp))]; exact ih2 (fun x hx => h x (by simp [hx]))
    rw [List.flatMap_cons] at hk ⊢
    by_cases hlt : k < (encodeRune r).length
    · have h1 : bt (encodeRune r ++ rs.flatMap encodeRune) k = bt (encodeRune r) k := by
        unfold bt; rw [List.getD_eq_getElem?_getD, List.getElem?_append_left hlt, ← List.getD_eq_getElem?_getD]
      have h2 : (encodeRune r ++ rs.flatMap encodeRune).take k = (encodeRune r).take k := by rw [List.take_append_of_le_length (by omega)]
      have h3 : (encodeRune r ++ rs.flatMap encodeRune).drop (k + 1) = (encodeRune r).drop (k + 1) ++ rs.flatMap encodeRune := by rw [List.drop_append_of_le_length (by omega)]
      rw [h1, h2, h3]
      obtain ⟨d, t, e, ht, hs⟩ := enc_shape hr
      rw [e] at hlt ⊢
      by_cases hd : d.toNat < 128
      · have h0 : t = [] := List.eq_nil_of_length_eq_zero (by omega)
        subst h0
        have hk0 : k = 0 := by simp at hlt; omega
        subst hk0
        have ec : encodeRune (c.toNat : Int) = [c] := by rw [enc_ascii (by omega) (by omega)]; simp
        have := valid_enc (c.toNat : Int) (rs.flatMap encodeRune ++ rest) (by rw [isRune_iff]; omega)
        rw [ec] at this
        simp only [List.take_zero, List.nil_append, List.drop_succ_cons, List.drop_zero] at *
        rw [show [c] ++ (rs.flatMap encodeRune ++ rest) = c :: (rs.flatMap encodeRune ++ rest) from rfl] at this
        rw [this, hvs rs hall']
        simp [bt, hd]
      · have hb : ¬ bt (d :: t) k < 128 := by
          cases k with
          | zero => simpa [bt] using hd
          | succ k =>
            have hk2 : k < t.length := by simpa using hlt
            have := ht (t[k]) (List.getElem_mem hk2)
            simp [bt, List.getD_eq_getElem?_getD, hk2]; omega
        rw [decide_eq_false hb]
        cases k with
        | zero =>
          have ec : encodeRune (c.toNat : Int) = [c] := by rw [enc_ascii (by omega) (by omega)]; simp
          have := valid_enc (c.toNat : Int) (t ++ rs.flatMap encodeRune ++ rest) (by rw [isRune_iff]; omega)
          rw [ec] at this
          simp only [List.take_zero, List.nil_append, List.drop_succ_cons, List.drop_zero, List.append_assoc] at *
          rw [show [c] ++ (t ++ (rs.flatMap encodeRune ++ rest)) = c :: (t ++ (rs.flatMap encodeRune ++ rest)) from rfl] at this
          rw [this]
          obtain ⟨x, t', e2⟩ : ∃ x t', t = x :: t' := List.exists_cons_of_ne_nil (by intro e2; subst e2; simp at hs; omega)
          subst e2
          have := ht x (by simp)
          exact valid_head this.1 this.2
        | succ k =>
          have hk2 : k < t.length := by simpa using hlt
          rw [Bool.eq_false_iff]
          intro hv
          obtain ⟨r', h1', _, h3', _⟩ := valid_first _ (by simp) hv
          obtain ⟨d', t', e', ht', hs'⟩ := enc_shape h1'
          rw [e'] at h3'
          simp only [List.take_succ_cons, List.cons_append, List.length_cons] at h3'
          have hdd : d = d' := (List.cons.inj h3').1
          subst hdd
          have htl := (List.cons.inj h3').2
          have hlen : t'.length = t.length := by omega
          have hget := get_congr htl k
          rw [List.getElem?_append_right (by simp; omega), List.length_take, Nat.min_eq_left (by omega), Nat.sub_self, List.getElem?_append_left (by omega)] at hget
          simp only [List.getElem?_cons_zero] at hget
          have hm := List.mem_of_getElem? hget.symm
          have := ht' c hm
          omega
    · have h1 : bt (encodeRune r ++ rs.flatMap encodeRune) k = bt (rs.flatMap encodeRune) (k - (encodeRune r).length) := by
        unfold bt; rw [List.getD_eq_getElem?_getD, List.getElem?_append_right (by omega), ← List.getD_eq_getElem?_getD]
      have h2 : (encodeRune r ++ rs.flatMap encodeRune).take k = encodeRune r ++ (rs.flatMap encodeRune).take (k - (encodeRune r).length) := by rw [List.take_append, List.take_of_length_le (by omega)]
      have h3 : (encodeRune r ++ rs.flatMap encodeRune).drop (k + 1) = (rs.flatMap encodeRune).drop (k - (encodeRune r).length + 1) := by
        rw [List.drop_append, List.drop_of_length_le (by omega), List.nil_append]; congr 1; omega
      rw [h1, h2, h3, List.append_assoc, valid_enc _ _ hr]
      exact ih hall' _ c rest hrest hc (by rw [List.length_append] at hk; omega)
end Go.Ms
