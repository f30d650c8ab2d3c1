/- Rows, plainly: a key is taken apart into what it was put together of. Rows, plainly: keys stand as the picked cells do. Rows, plainly: bytes that can be taken apart are the key of these cells; picks of picks. Rows: an array of two lists, among the arguments, read as such. -/
import Derived.Test.YtcdmiiaamajfoaaGreatDoorYYg
import Derived.Test.YtcdmiiaamajfoaaGreatDoorYYc
import Derived.Test.YtcdmiiaamajfoaaGreatDoorYA
import Derived.Test.YtcdmiiaamajfoaaGreatDoorYYf
set_option linter.unusedVariables false
namespace Go.Ms
theorem unCl_back (c : Cl) : unCl (c.1, c.2.1, c.2.2.data.toList) = c := by
  obtain ⟨u, n, S⟩ := c
  rfl
theorem un_keys (ts : List Ty) (cs : List Cl) (hok : ∀ (q : Nat) (t : Ty) (c : Cl), ts[q]? = some t → cs[q]? = some c → cCheck t c = 0) (hl : ts.length = cs.length) : ∀ (ps : List Int) (acc : List Cl), rIn ps cs.length = true → rUnA acc (rUnT ts ps) (rKeyL ts cs ps) = (acc ++ rPickL cs ps, [], 0)
  | [], acc, _ => by
    show rUnA acc [] [] = _
    simp [rPickL, rUnA]
  | p :: ps, acc, hin => by
    obtain ⟨h0, h1⟩ := rIn_at hin (k := 0) rfl
    have hin' : rIn ps cs.length = true := by
      unfold rIn at hin ⊢
      rw [List.all_cons, Bool.and_eq_true] at hin
      exact hin.2
    obtain ⟨c, hc⟩ : ∃ c, cs[p.toNat]? = some c := ⟨_, List.getElem?_eq_getElem (by omega)⟩
    obtain ⟨t, ht⟩ : ∃ c, ts[p.toNat]? = some c := ⟨_, List.getElem?_eq_getElem (by omega)⟩
    have hck := hok _ t c ht hc
    have hk := unbits_back (rKeyL ts cs ps) hck
    have e1 : rUnT ts (p :: ps) = t :: rUnT ts ps := by simp [rUnT, List.getD_eq_getElem?_getD, ht]
    have e2 : rKeyL ts cs (p :: ps) = cBits t c ++ rKeyL ts cs ps := by simp [rKeyL, List.getD_eq_getElem?_getD, ht, hc]
    have e3 : rPickL cs (p :: ps) = c :: rPickL cs ps := by simp [rPickL, List.getD_eq_getElem?_getD, hc]
    rw [e1, e2, e3]
    have hD : kUnD t.1 t.2 (cBits t c ++ rKeyL ts cs ps) = ((c.1, c.2.1, c.2.2.data.toList), (cBits t c).length, 0) := hk
    unfold rUnA
    rw [hD]
    simp only [if_true]
    rw [List.drop_left, unCl_back, un_keys ts cs hok hl ps (acc ++ [c]) hin']
    simp
theorem key_parts {ts : List Ty} {cs : List Cl} {ps : List Int} (h : rKeyE ts cs ps = 0) : ts.length = cs.length ∧ rCheckL ts cs = 0 ∧ rIn ps cs.length = true ∧ rKey ts cs ps = rKeyL ts cs ps := by
  have hk : rKey ts cs ps = rKeyL ts cs ps := by unfold rKey; rw [if_pos h]
  unfold rKeyE at h
  by_cases hr : rCheck ts cs = 0
  · rw [if_pos hr] at h
    have hts : ts.length = cs.length := by
      by_cases h : ts.length = cs.length
      · exact h
      · unfold rCheck at hr; rw [if_neg h] at hr; omega
    refine ⟨hts, by unfold rCheck at hr; rw [if_pos hts] at hr; exact hr, ?_, hk⟩
    unfold rInE at h
    by_cases hi : rIn ps cs.length = true
    · exact hi
    · rw [if_neg hi] at h; omega
  · rw [if_neg hr] at h; exact absurd h hr
theorem key_back {ts : List Ty} {cs : List Cl} {ps : List Int} (h : rKeyE ts cs ps = 0) :
    rUn ts ps (rKey ts cs ps) = rPickL cs ps ∧ rUnE ts ps (rKey ts cs ps) = 0 ∧ rInE ps cs.length = 0 ∧ rPick cs ps = rPickL cs ps := by
  obtain ⟨h1, h2, h3, h4⟩ := key_parts h
  have hu := un_keys ts cs (fun q t c ht hc => rCheckL_at h2 ht hc) h1 ps [] h3
  have hE : rUnE ts ps (rKey ts cs ps) = 0 := by
    unfold rUnE
    rw [h4, h1, if_pos h3, hu]; rfl
  refine ⟨?_, hE, by unfold rInE; rw [if_pos h3], by unfold rPick; rw [if_pos h3]⟩
  unfold rUn
  rw [if_pos hE, h4, hu]; rfl
theorem key_len {ts : List Ty} {cs : List Cl} {ps : List Int} (h : rKeyE ts cs ps = 0) : (rKey ts cs ps).length ≤ 2051 * ps.length := by
  obtain ⟨h1, h2, h3, h4⟩ := key_parts h
  rw [h4]
  clear h h4
  induction ps with
  | nil => simp [rKeyL]
  | cons p ps ih =>
    obtain ⟨g0, g1⟩ := rIn_at h3 (k := 0) rfl
    obtain ⟨c, hc⟩ : ∃ c, cs[p.toNat]? = some c := ⟨_, List.getElem?_eq_getElem (by omega)⟩
    obtain ⟨t, ht⟩ : ∃ c, ts[p.toNat]? = some c := ⟨_, List.getElem?_eq_getElem (by omega)⟩
    have e2 : rKeyL ts cs (p :: ps) = cBits t c ++ rKeyL ts cs ps := by simp [rKeyL, List.getD_eq_getElem?_getD, ht, hc]
    have := ybits_len t c (rCheckL_at h2 ht hc)
    have := ih (by unfold rIn at h3 ⊢; rw [List.all_cons, Bool.and_eq_true] at h3; exact h3.2)
    rw [e2, List.length_append, List.length_cons]
    omega
theorem unA_len : ∀ (tys : List Ty) (acc : List Cl) (s : Bs), (rUnA acc tys s).1.length ≤ acc.length + tys.length
  | [], acc, s => by unfold rUnA; simp
  | t :: ts, acc, s => by
    unfold rUnA
    split
    · have := unA_len ts (acc ++ [unCl (kUnD t.1 t.2 s).1]) (s.drop (kUnD t.1 t.2 s).2.1)
      rw [List.length_append] at this
      simp only [List.length_cons, List.length_nil] at this ⊢
      omega
    · simp
theorem un_max (ts : List Ty) (l : List Int) (s : Bs) : (rUn ts (l.take 12) s).length ≤ Go.maxLen := by
  have h : (rUn ts (l.take 12) s).length ≤ 12 := by
    unfold rUn
    split
    · have := unA_len (rUnT ts (l.take 12)) [] s
      have e : (rUnT ts (l.take 12)).length ≤ 12 := by unfold rUnT; rw [List.length_map, List.length_take]; omega
      simp only [List.length_nil] at this
      omega
    · simp
  unfold Go.maxLen; omega
theorem take12' (l : List Int) : (l.take 12).length ≤ 12 := by rw [List.length_take]; omega
theorem pickL_max (cs : List Cl) (l : List Int) : (rPickL cs (l.take 12)).length ≤ Go.maxLen := by
  unfold rPickL
  rw [List.length_map, List.length_take]
  unfold Go.maxLen; omega
end Go.Ms
namespace Go.Ms
open Go.Lib
theorem ycb_app : ∀ (s t X Y : Bs), s.isPrefixOf t = false → t.isPrefixOf s = false → compareBytes (s ++ X) (t ++ Y) = compareBytes s t
  | [], t, X, Y, h, _ => by simp [List.isPrefixOf] at h
  | _ :: _, [], X, Y, _, h => by simp [List.isPrefixOf] at h
  | a :: s, b :: t, X, Y, h1, h2 => by
    show compareBytes (a :: (s ++ X)) (b :: (t ++ Y)) = _
    unfold compareBytes
    by_cases hab : a < b
    · rw [if_pos hab, if_pos hab]
    · rw [if_neg hab, if_neg hab]
      by_cases hba : b < a
      · rw [if_pos hba, if_pos hba]
      · rw [if_neg hba, if_neg hba]
        have he : a = b := by
          have h3 : ¬ a.toNat < b.toNat := fun h => hab (UInt8.lt_iff_toNat_lt.2 h)
          have h4 : ¬ b.toNat < a.toNat := fun h => hba (UInt8.lt_iff_toNat_lt.2 h)
          exact UInt8.toNat_inj.1 (by omega)
        subst he
        refine ycb_app s t X Y ?_ ?_
        · simpa [List.isPrefixOf] using h1
        · simpa [List.isPrefixOf] using h2
theorem ycb_same (X Y : Bs) : ∀ s : Bs, compareBytes (s ++ X) (s ++ Y) = compareBytes X Y
  | [] => rfl
  | a :: s => by
    show compareBytes (a :: (s ++ X)) (a :: (s ++ Y)) = _
    conv => lhs; unfold compareBytes
    rw [if_neg (UInt8.lt_irrefl a), if_neg (UInt8.lt_irrefl a)]
    exact ycb_same X Y s
theorem keys_cmp (ts : List Ty) (a b : List Cl) (ha : ts.length = a.length) (hb : ts.length = b.length) (oa : rCheckL ts a = 0) (ob : rCheckL ts b = 0) : ∀ (ps : List Int), rIn ps ts.length = true → compareBytes (rKeyL ts a ps) (rKeyL ts b ps) = rCmp (rPickL a ps) (rPickL b ps)
  | [], _ => rfl
  | p :: ps, hin => by
    obtain ⟨h0, h1⟩ := rIn_at hin (k := 0) rfl
    have hin' : rIn ps ts.length = true := by
      unfold rIn at hin ⊢
      rw [List.all_cons, Bool.and_eq_true] at hin
      exact hin.2
    obtain ⟨c, hc⟩ : ∃ c, a[p.toNat]? = some c := ⟨_, List.getElem?_eq_getElem (by omega)⟩
    obtain ⟨d, hd⟩ : ∃ c, b[p.toNat]? = some c := ⟨_, List.getElem?_eq_getElem (by omega)⟩
    obtain ⟨t, ht⟩ : ∃ c, ts[p.toNat]? = some c := ⟨_, List.getElem?_eq_getElem (by omega)⟩
    have kc := rCheckL_at oa ht hc
    have kd := rCheckL_at ob ht hd
    have e1 : rKeyL ts a (p :: ps) = cBits t c ++ rKeyL ts a ps := by simp [rKeyL, List.getD_eq_getElem?_getD, ht, hc]
    have e2 : rKeyL ts b (p :: ps) = cBits t d ++ rKeyL ts b ps := by simp [rKeyL, List.getD_eq_getElem?_getD, ht, hd]
    have e3 : rPickL a (p :: ps) = c :: rPickL a ps := by simp [rPickL, List.getD_eq_getElem?_getD, hc]
    have e4 : rPickL b (p :: ps) = d :: rPickL b ps := by simp [rPickL, List.getD_eq_getElem?_getD, hd]
    rw [e1, e2, e3, e4]
    have hcmp : compareBytes (cBits t c) (cBits t d) = cCmp c d ∧ ((cBits t c).isPrefixOf (cBits t d) = true → cCmp c d = 0) := bitsD_cmp kc kd
    have hcmp2 : compareBytes (cBits t d) (cBits t c) = cCmp d c ∧ ((cBits t d).isPrefixOf (cBits t c) = true → cCmp d c = 0) := bitsD_cmp kd kc
    have hneg := cCmp_neg c d
    unfold rCmp
    by_cases hz : cCmp c d = 0
    · rw [if_pos hz]
      have := (cCmp_zero c d).1 hz
      subst this
      rw [ycb_same]
      exact keys_cmp ts a b ha hb oa ob ps hin'
    · rw [if_neg hz, ycb_app _ _ _ _ (by
        cases h : (cBits t c).isPrefixOf (cBits t d) with
        | false => rfl
        | true => exact absurd (hcmp.2 h) hz) (by
        cases h : (cBits t d).isPrefixOf (cBits t c) with
        | false => rfl
        | true => have := hcmp2.2 h; omega)]
      exact hcmp.1
end Go.Ms
namespace Go.Ms
open Go.Lib
end Go.Ms
namespace Go.Ms
open Go.RowKit Go.Lib Go.ChangeShapes Go.WideShapes Go.Deep
variable {H : Type} {enc : TypeId × Value → H} {P : Program} {w : World} {base : Nat} {spare : Nat → Bool} {held : Bool}
end Go.Ms
