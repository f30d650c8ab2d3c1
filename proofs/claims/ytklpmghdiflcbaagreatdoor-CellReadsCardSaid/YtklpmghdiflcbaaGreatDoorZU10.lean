/- What the reference answers of an escape, way by way. -/
import Derived.Test.YtklpmghdiflcbaaGreatDoorZU5
import Derived.Test.YtklpmghdiflcbaaGreatDoorZU4
import Derived.Test.YtklpmghdiflcbaaGreatDoorZU7s
import Derived.Test.YtklpmghdiflcbaaGreatDoorZU9
set_option linter.unusedVariables false
namespace Go.Ms
open Go.Lib

def rEsc (l : Bs) : Bs × Nat × Int := if (rdEscape l 1 0).2.2 = 0 then ((rdEscape l 1 0).1, (rdEscape l 1 0).2.1, 0) else ([], 0, (rdEscape l 1 0).2.2)
theorem re_err {l : Bs} {e : Int} (he : e ≠ 0) (h : (rdEscape l 1 0).2.2 = e) : rEsc l = ([], 0, e) := by
  unfold rEsc; rw [h, if_neg he]
theorem re_ok {l t : Bs} {n : Nat} (h : rdEscape l 1 0 = (t, n, 0)) : rEsc l = (t, n, 0) := by
  unfold rEsc; rw [h]; rfl
theorem re_end {l : Bs} (h : l.length = 1) : rEsc l = ([], 0, 3) :=
  re_err (by decide) (esc_end (by omega) (List.drop_of_length_le (by omega)))
theorem short_take {l : Bs} {c : UInt8} {r : Bs} (h : l.drop 1 = c :: r) : ∀ i : Fin 8, shortT.getD i.val 0 = c → rdEscape l 1 0 = ([shortS.getD i.val 0], 2, 0) := by
  have ht := take_cons h
  intro i hi
  have key : ∀ (k : Int), c.toNat ≠ 47 → unesc c.toNat = some k → rdEscape l 1 0 = (encodeRune k, 2, 0) := by
    intro k h47 hk
    unfold rdEscape
    simp only [ht]
    rw [if_neg (by omega), hk]
  match i, hi with
  | 0, hi => subst hi; exact key 34 (by decide) rfl
  | 1, hi => subst hi; exact key 92 (by decide) rfl
  | 2, hi =>
    subst hi
    unfold rdEscape
    simp only [ht]
    rfl
  | 3, hi => subst hi; exact key 8 (by decide) rfl
  | 4, hi => subst hi; exact key 12 (by decide) rfl
  | 5, hi => subst hi; exact key 10 (by decide) rfl
  | 6, hi => subst hi; exact key 13 (by decide) rfl
  | 7, hi => subst hi; exact key 9 (by decide) rfl
theorem re_short {l : Bs} {c : UInt8} {r : Bs} (h : l.drop 1 = c :: r) {i : Nat} (hi : i < 8) (hc : shortT.getD i 0 = c) : rEsc l = ([shortS.getD i 0], 2, 0) :=
  re_ok (short_take h ⟨i, hi⟩ hc)
theorem no_short {c : UInt8} (h : ∀ i, i < 8 → shortT.getD i 0 ≠ c) : c.toNat ≠ 47 ∧ unesc c.toNat = none := by
  have f : ∀ (i : Nat) (x : UInt8), i < 8 → shortT.getD i 0 = x → c.toNat ≠ x.toNat := by
    intro i x hi hx e
    exact h i hi (by rw [hx]; exact (UInt8.toNat_inj.1 e).symm)
  have h0 := f 0 34 (by omega) rfl
  have h1 := f 1 92 (by omega) rfl
  have h2 := f 2 47 (by omega) rfl
  have h3 := f 3 98 (by omega) rfl
  have h4 := f 4 102 (by omega) rfl
  have h5 := f 5 110 (by omega) rfl
  have h6 := f 6 114 (by omega) rfl
  have h7 := f 7 116 (by omega) rfl
  simp only [show (34 : UInt8).toNat = 34 from rfl, show (92 : UInt8).toNat = 92 from rfl, show (47 : UInt8).toNat = 47 from rfl, show (98 : UInt8).toNat = 98 from rfl, show (102 : UInt8).toNat = 102 from rfl, show (110 : UInt8).toNat = 110 from rfl, show (114 : UInt8).toNat = 114 from rfl, show (116 : UInt8).toNat = 116 from rfl] at *
  refine ⟨h2, ?_⟩
  unfold unesc
  rw [if_neg (by omega), if_neg (by omega), if_neg (by omega), if_neg (by omega), if_neg (by omega), if_neg (by omega), if_neg (by omega)]
theorem re_bad {l : Bs} {c : UInt8} {r : Bs} (h : l.drop 1 = c :: r) (hs : ∀ i, i < 8 → shortT.getD i 0 ≠ c) (hu : c.toNat ≠ 117) : rEsc l = ([], 0, 41) := by
  obtain ⟨h1, h2⟩ := no_short hs
  refine re_err (by decide) ?_
  unfold rdEscape
  simp only [take_cons h]
  rw [if_neg (by omega), h2]
  simp only
  rw [if_neg (by omega)]
  exact long_err (by decide) (half_err l false 2 (by decide)).1
theorem re_u {l r : Bs} (h : l.drop 1 = 117 :: r) : rdEscape l 1 0 = rdLong l (2, 0) (0, 0) := esc_u h
theorem half_2 {l : Bs} (hl : 2 ≤ l.length) (s : Bool) : rdHalf l s 2 0 = ((rdHalf (l.drop 2) s 0 0).1, 2 + (rdHalf (l.drop 2) s 0 0).2.1, (rdHalf (l.drop 2) s 0 0).2.2) := half_sh (q := 2) hl s 0 0
theorem half_8 {l : Bs} (hl : 8 ≤ l.length) (s : Bool) : rdHalf l s 8 0 = ((rdHalf (l.drop 8) s 0 0).1, 8 + (rdHalf (l.drop 8) s 0 0).2.1, (rdHalf (l.drop 8) s 0 0).2.2) := half_sh (q := 8) hl s 0 0
theorem len_cons {l r : Bs} {c : UInt8} {k : Nat} (h : l.drop k = c :: r) : k < l.length := (drop_cons h).1
theorem re_uerr {l r : Bs} (h : l.drop 1 = 117 :: r) {x e : Int} (he : e ≠ 0) (hh : rhalf (l.drop 2) false = (x, e)) : rEsc l = ([], 0, e) := by
  refine re_err he ?_
  rw [re_u h]
  refine long_err he ?_
  rw [half_2 (by have := len_cons h; omega)]
  unfold rhalf at hh
  split at hh
  · exact absurd (Prod.ext_iff.1 hh).2.symm he
  · exact (Prod.ext_iff.1 hh).2
/-- A half that is read: four digits. -/
theorem rhalf_inv {l : Bs} {s : Bool} {n : Int} (hh : rhalf l s = (n, 0)) : 4 ≤ l.length ∧ rdHalf l s 0 0 = (n, 4, 0) ∧ 0 ≤ n ∧ n < 65536 ∧ (s = false → n < 56320 ∨ 57343 < n) ∧ (s = true → 56320 ≤ n ∧ n ≤ 57343) := by
  have h0 : (rdHalf l s 0 0).2.2 = 0 := by
    unfold rhalf at hh
    split at hh
    · assumption
    · exact (Prod.ext_iff.1 hh).2
  have hn : (rdHalf l s 0 0).1 = n := by
    unfold rhalf at hh
    rw [if_pos h0] at hh
    exact (Prod.ext_iff.1 hh).1
  obtain ⟨_, c1, c2, c3, c4, r, hd, _, _, _, _, hok, he⟩ := half_inv (by omega) h0
  have hl := congrArg List.length hd
  simp only [List.drop_zero, List.length_cons] at hl
  have b1 := hexv_bd c1.toNat
  have b2 := hexv_bd c2.toNat
  have b3 := hexv_bd c3.toNat
  have b4 := hexv_bd c4.toNat
  have hbd := rdHalf_bd l s 0 0
  rw [he] at hn hbd ⊢
  simp only at hn hbd
  subst hn
  refine ⟨by omega, rfl, hbd.1, hbd.2, fun hs => ?_, fun hs => ?_⟩
  · subst hs
    have h2 := hok.2
    have : ¬ (220 ≤ 16 * hexv c1.toNat + hexv c2.toNat ∧ 16 * hexv c1.toNat + hexv c2.toNat ≤ 223) := of_decide_eq_false h2.symm
    unfold num4; omega
  · subst hs
    have h2 := hok.2
    have : (220 ≤ 16 * hexv c1.toNat + hexv c2.toNat ∧ 16 * hexv c1.toNat + hexv c2.toNat ≤ 223) := of_decide_eq_true h2.symm
    unfold num4; omega
theorem re_four {l r : Bs} (h : l.drop 1 = 117 :: r) {n : Int} (hh : rhalf (l.drop 2) false = (n, 0)) (hn : n < 55296 ∨ 56319 < n) : isRune n = true ∧ rEsc l = (put n, 6, 0) := by
  obtain ⟨hl, he, n0, n1, hs, _⟩ := rhalf_inv hh
  have hs := hs rfl
  have hr : isRune n = true := by rw [isRune_iff]; omega
  refine ⟨hr, ?_⟩
  rw [put_rune hr]
  refine re_ok ?_
  rw [re_u h]
  unfold rdLong
  simp only
  rw [half_2 (by have := len_cons h; omega), he]
  simp only
  rw [if_neg (by omega)]
  rfl
theorem re_pr {l r : Bs} (h : l.drop 1 = 117 :: r) {n : Int} (hh : rhalf (l.drop 2) false = (n, 0)) (hn : 55296 ≤ n ∧ n ≤ 56319) : 6 ≤ l.length ∧ rdEscape l 1 0 = rdPair l 6 0 n := by
  obtain ⟨hl, he, n0, n1, hs, _⟩ := rhalf_inv hh
  rw [List.length_drop] at hl
  refine ⟨by omega, ?_⟩
  rw [re_u h]
  unfold rdLong
  simp only
  rw [half_2 (by omega), he]
  simp only
  rw [if_pos (by omega)]
theorem re_p6end {l r : Bs} (h : l.drop 1 = 117 :: r) {n : Int} (hh : rhalf (l.drop 2) false = (n, 0)) (hn : 55296 ≤ n ∧ n ≤ 56319) (hl : l.length ≤ 6) : rEsc l = ([], 0, 3) := by
  obtain ⟨h6, he⟩ := re_pr h hh hn
  refine re_err (by decide) ?_
  rw [he]
  unfold rdPair
  simp only
  rw [want_end (by omega) (List.drop_of_length_le (by omega)) (by decide)]
  simp only [want_err _ _ _ (show (3 : Int) ≠ 0 by decide)]
  rw [(half_err l true _ (by decide)).1, if_neg (by decide)]
theorem re_p6 {l r r' : Bs} {c : UInt8} (h : l.drop 1 = 117 :: r) {n : Int} (hh : rhalf (l.drop 2) false = (n, 0)) (hn : 55296 ≤ n ∧ n ≤ 56319) (h6 : l.drop 6 = c :: r') (hc : c.toNat ≠ 92) : rEsc l = ([], 0, 41) := by
  obtain ⟨_, he⟩ := re_pr h hh hn
  refine re_err (by decide) ?_
  rw [he]
  unfold rdPair
  simp only
  rw [want_bad h6 (by omega)]
  simp only [want_err _ _ _ (show (41 : Int) ≠ 0 by decide)]
  rw [(half_err l true _ (by decide)).1, if_neg (by decide)]
theorem re_p7end {l r r' : Bs} (h : l.drop 1 = 117 :: r) {n : Int} (hh : rhalf (l.drop 2) false = (n, 0)) (hn : 55296 ≤ n ∧ n ≤ 56319) (h6 : l.drop 6 = 92 :: r') (hl : l.length ≤ 7) : rEsc l = ([], 0, 3) := by
  obtain ⟨_, he⟩ := re_pr h hh hn
  have h7 := len_cons h6
  refine re_err (by decide) ?_
  rw [he]
  refine w2_three (p' := 7) (want_ok (c := 92) h6) ?_
  rw [want_end (by omega) (List.drop_of_length_le (by omega)) (by decide)]
theorem re_p7 {l r r' r'' : Bs} {c : UInt8} (h : l.drop 1 = 117 :: r) {n : Int} (hh : rhalf (l.drop 2) false = (n, 0)) (hn : 55296 ≤ n ∧ n ≤ 56319) (h6 : l.drop 6 = 92 :: r') (h7 : l.drop 7 = c :: r'') (hc : c.toNat ≠ 117) : rEsc l = ([], 0, 41) := by
  obtain ⟨_, he⟩ := re_pr h hh hn
  refine re_err (by decide) ?_
  rw [he]
  unfold rdPair
  simp only
  rw [show rdWant l 92 6 0 = (7, 0) from want_ok (c := 92) h6]
  simp only
  rw [want_bad h7 (by omega)]
  simp only
  rw [(half_err l true _ (by decide)).1, if_neg (by decide)]
theorem re_herr {l r r' r'' : Bs} (h : l.drop 1 = 117 :: r) {n x e : Int} (hh : rhalf (l.drop 2) false = (n, 0)) (hn : 55296 ≤ n ∧ n ≤ 56319) (h6 : l.drop 6 = 92 :: r') (h7 : l.drop 7 = 117 :: r'') (he : e ≠ 0) (h8 : rhalf (l.drop 8) true = (x, e)) : rEsc l = ([], 0, e) := by
  obtain ⟨_, hp⟩ := re_pr h hh hn
  have hl := len_cons h7
  refine re_err he ?_
  rw [hp]
  unfold rdPair
  simp only
  rw [show rdWant l 92 6 0 = (7, 0) from want_ok (c := 92) h6]
  simp only
  rw [show rdWant l 117 7 0 = (8, 0) from want_ok (c := 117) h7]
  simp only
  rw [half_8 (by omega)]
  unfold rhalf at h8
  split at h8
  · exact absurd (Prod.ext_iff.1 h8).2.symm he
  · have h9 := (Prod.ext_iff.1 h8).2
    simp only at h9 ⊢
    rw [h9, if_neg he]
theorem re_pair {l r r' r'' : Bs} (h : l.drop 1 = 117 :: r) {n k : Int} (hh : rhalf (l.drop 2) false = (n, 0)) (hn : 55296 ≤ n ∧ n ≤ 56319) (h6 : l.drop 6 = 92 :: r') (h7 : l.drop 7 = 117 :: r'') (h8 : rhalf (l.drop 8) true = (k, 0)) :
    56320 ≤ k ∧ k ≤ 57343 ∧ rEsc l = (put (65536 + 1024 * (n - 55296) + k - 56320), 12, 0) := by
  obtain ⟨_, hp⟩ := re_pr h hh hn
  have hl := len_cons h7
  obtain ⟨hl8, he8, k0, k1, _, hs⟩ := rhalf_inv h8
  have hs := hs rfl
  have hr : isRune (65536 + 1024 * (n - 55296) + k - 56320) = true := by rw [isRune_iff]; omega
  refine ⟨hs.1, hs.2, ?_⟩
  rw [put_rune hr]
  refine re_ok ?_
  rw [hp]
  unfold rdPair
  simp only
  rw [show rdWant l 92 6 0 = (7, 0) from want_ok (c := 92) h6]
  simp only
  rw [show rdWant l 117 7 0 = (8, 0) from want_ok (c := 117) h7]
  simp only
  rw [half_8 (by omega), he8]
  simp only
  rw [if_pos trivial, show 65536 + (n - 55296) * 1024 + k - 56320 = 65536 + 1024 * (n - 55296) + k - 56320 by omega]
end Go.Ms
