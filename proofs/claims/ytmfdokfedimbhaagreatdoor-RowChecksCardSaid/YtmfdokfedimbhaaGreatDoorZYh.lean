/- Rows, plainly: a key is taken apart into what it was put together of. Rows, plainly: keys stand as the picked cells do. Rows, plainly: bytes that can be taken apart are the key of these cells; picks of picks. Rows: an array of two lists, among the arguments, read as such. -/
import Derived.Test.YtmfdokfedimbhaaGreatDoorZYg
import Derived.Test.YtmfdokfedimbhaaGreatDoorZYc
import Derived.Test.YtmfdokfedimbhaaGreatDoorZA
import Derived.Test.YtmfdokfedimbhaaGreatDoorZYf
set_option linter.unusedVariables false
namespace Go.Ms
theorem unCl_back (c : Cl) : unCl (c.1, c.2.1, c.2.2.data.toList) = c := by
  obtain ⟨u, n, S⟩ := c
  rfl
theorem un_keys (ts : List Ty) (cs : List Cl) (hok : ∀ (q : Nat) (t : Ty) (c : Cl), ts[q]? = some t → cs[q]? = some c → cCheck t c = 0) (hl : ts.length = cs.length) : ∀ (ps : List Int) (acc : List Cl), rIn ps cs.length = true → rUnA acc (rUnT ts ps) (rKeyL ts cs ps) = (acc ++ rPickL cs ps, [], 0)
  | [], acc, _ => by
    show rUnA acc [] [] = _
    simp [rPickL, rUnA]
  | p :: ps, acc, hin => by
    obtain ⟨h0, h1⟩ := rIn_at hin (k := 0) rfl
    have hin' : rIn ps cs.length = true := by
      unfold rIn at hin ⊢
      rw [List.all_cons, Bool.and_eq_true] at hin
      exact hin.2
    obtain ⟨c, hc⟩ : ∃ c, cs[p.toNat]? = some c := ⟨_, List.getElem?_eq_getElem (by omega)⟩
    obtain ⟨t, ht⟩ : ∃ c, ts[p.toNat]? = some c := ⟨_, List.getElem?_eq_getElem (by omega)⟩
    have hck := hok _ t c ht hc
    have hk := unbits_back (rKeyL ts cs ps) hck
    have e1 : rUnT ts (p :: ps) = t :: rUnT ts ps := by simp [rUnT, List.getD_eq_getElem?_getD, ht]
    have e2 : rKeyL ts cs (p :: ps) = cBits t c ++ rKeyL ts cs ps := by simp [rKeyL, List.getD_eq_getElem?_getD, ht, hc]
    have e3 : rPickL cs (p :: ps) = c :: rPickL cs ps := by simp [rPickL, List.getD_eq_getElem?_getD, hc]
    rw [e1, e2, e3]
    have hD : kUnD t.1 t.2 (cBits t c ++ rKeyL ts cs ps) = ((c.1, c.2.1, c.2.2.data.toList), (cBits t c).length, 0) := hk
    unfold rUnA
    rw [hD]
    simp only [if_true]
    rw [List.drop_left, unCl_back, un_keys ts cs hok hl ps (acc ++ [c]) hin']
    simp
theorem key_parts {ts : List Ty} {cs : List Cl} {ps : List Int} (h : rKeyE ts cs ps = 0) : ts.length = cs.length ∧ rCheckL ts cs = 0 ∧ rIn ps cs.length = true ∧ rKey ts cs ps = rKeyL ts cs ps := by
  have hk : rKey ts cs ps = rKeyL ts cs ps := by unfold rKey; rw [if_pos h]
  unfold rKeyE at h
  by_cases hr : rCheck ts cs = 0
  · rw [if_pos hr] at h
    have hts : ts.length = cs.length := by
      by_cases h : ts.length = cs.length
      · exact h
      · unfold rCheck at hr; rw [if_neg h] at hr; omega
    refine ⟨hts, by unfold rCheck at hr; rw [if_pos hts] at hr; exact hr, ?_, hk⟩
    unfold rInE at h
    by_cases hi : rIn ps cs.length = true
    · exact hi
    · rw [if_neg hi] at h; omega
  · rw [if_neg hr] at h; exact absurd h hr
theorem key_back {ts : List Ty} {cs : List Cl} {ps : List Int} (h : rKeyE ts cs ps = 0) :
    rUn ts ps (rKey ts cs ps) = rPickL cs ps ∧ rUnE ts ps (rKey ts cs ps) = 0 ∧ rInE ps cs.length = 0 ∧ rPick cs ps = rPickL cs ps := by
  obtain ⟨h1, h2, h3, h4⟩ := key_parts h
  have hu := un_keys ts cs (fun q t c ht hc => rCheckL_at h2 ht hc) h1 ps [] h3
  have hE : rUnE ts ps (rKey ts cs ps) = 0 := by
    unfold rUnE
    rw [h4, h1, if_pos h3, hu]; rfl
  refine ⟨?_, hE, by unfold rInE; rw [if_pos h3], by unfold rPick; rw [if_pos h3]⟩
  unfold rUn
  rw [if_pos hE, h4, hu]; rfl
theorem key_len {ts : List Ty} {cs : List Cl} {ps : List Int} (h : rKeyE ts cs ps = 0) : (rKey ts cs ps).length ≤ 2051 * ps.length := by
  obtain ⟨h1, h2, h3, h4⟩ := key_parts h
  rw [h4]
  clear h h4
  induction ps with
  | nil => simp [rKeyL]
  | cons p ps ih =>
    obtain ⟨g0, g1⟩ := rIn_at h3 (k := 0) rfl
    obtain ⟨c, hc⟩ : ∃ c, cs[p.toNat]? = some c := ⟨_, List.getElem?_eq_getElem (by omega)⟩
    obtain ⟨t, ht⟩ : ∃ c, ts[p.toNat]? = some c := ⟨_, List.getElem?_eq_getElem (by omega)⟩
    have e2 : rKeyL ts cs (p :: ps) = cBits t c ++ rKeyL ts cs ps := by simp [rKeyL, List.getD_eq_getElem?_getD, ht, hc]
    have := ybits_len t c (rCheckL_at h2 ht hc)
    have := ih (by unfold rIn at h3 ⊢; rw [List.all_cons, Bool.and_eq_true] at h3; exact h3.2)
    rw [e2, List.length_append, List.length_cons]
    omega
theorem unA_len : ∀ (tys : List Ty) (acc : List Cl) (s : Bs), (rUnA acc tys s).1.length ≤ acc.length + tys.length
  | [], acc, s => by unfold rUnA; simp
  | t :: ts, acc, s => by
    unfold rUnA
    split
    · have := unA_len ts (acc ++ [unCl (kUnD t.1 t.2 s).1]) (s.drop (kUnD t.1 t.2 s).2.1)
      rw [List.length_append] at this
      simp only [List.length_cons, List.length_nil] at this ⊢
      omega
    · simp
theorem un_max (ts : List Ty) (l : List Int) (s : Bs) : (rUn ts (l.take 12) s).length ≤ Go.maxLen := by
  have h : (rUn ts (l.take 12) s).length ≤ 12 := by
    unfold rUn
    split
    · have := unA_len (rUnT ts (l.take 12)) [] s
      have e : (rUnT ts (l.take 12)).length ≤ 12 := by unfold rUnT; rw [List.length_map, List.length_take]; omega
      simp only [List.length_nil] at this
      omega
    · simp
  unfold Go.maxLen; omega
theorem take12' (l : List Int) : (l.take 12).length ≤ 12 := by rw [List.length_take]; omega
theorem pickL_max (cs : List Cl) (l : List Int) : (rPickL cs (l.take 12)).length ≤ Go.maxLen := by
  unfold rPickL
  rw [List.length_map, List.length_take]
  unfold Go.maxLen; omega
end Go.Ms
namespace Go.Ms
open Go.Lib
theorem ycb_app : ∀ (s t X Y : Bs), s.isPrefixOf t = false → t.isPrefixOf s = false → compareBytes (s ++ X) (t ++ Y) = compareBytes s t
  | [], t, X, Y, h, _ => by simp [List.isPrefixOf] at h
  | _ :: _, [], X, Y, _, h => by simp [List.isPrefixOf] at h
  | a :: s, b :: t, X, Y, h1, h2 => by
    show compareBytes (a :: (s ++ X)) (b :: (t ++ Y)) = _
    unfold compareBytes
    by_cases hab : a < b
    · rw [if_pos hab, if_pos hab]
    · rw [if_neg hab, if_neg hab]
      by_cases hba : b < a
      · rw [if_pos hba, if_pos hba]
      · rw [if_neg hba, if_neg hba]
        have he : a = b := by
          have h3 : ¬ a.toNat < b.toNat := fun h => hab (UInt8.lt_iff_toNat_lt.2 h)
          have h4 : ¬ b.toNat < a.toNat := fun h => hba (UInt8.lt_iff_toNat_lt.2 h)
          exact UInt8.toNat_inj.1 (by omega)
        subst he
        refine ycb_app s t X Y ?_ ?_
        · simpa [List.isPrefixOf] using h1
        · simpa [List.isPrefixOf] using h2
theorem ycb_same (X Y : Bs) : ∀ s : Bs, compareBytes (s ++ X) (s ++ Y) = compareBytes X Y
  | [] => rfl
  | a :: s => by
    show compareBytes (a :: (s ++ X)) (a :: (s ++ Y)) = _
    conv => lhs; unfold compareBytes
    rw [if_neg (UInt8.lt_irrefl a), if_neg (UInt8.lt_irrefl a)]
    exact ycb_same X Y s
theorem keys_cmp (ts : List Ty) (a b : List Cl) (ha : ts.length = a.length) (hb : ts.length = b.length) (oa : rCheckL ts a = 0) (ob : rCheckL ts b = 0) : ∀ (ps : List Int), rIn ps ts.length = true → compareBytes (rKeyL ts a ps) (rKeyL ts b ps) = rCmp (rPickL a ps) (rPickL b ps)
  | [], _ => rfl
  | p :: ps, hin => by
    obtain ⟨h0, h1⟩ := rIn_at hin (k := 0) rfl
    have hin' : rIn ps ts.length = true := by
      unfold rIn at hin ⊢
      rw [List.all_cons, Bool.and_eq_true] at hin
      exact hin.2
    obtain ⟨c, hc⟩ : ∃ c, a[p.toNat]? = some c := ⟨_, List.getElem?_eq_getElem (by omega)⟩
    obtain ⟨d, hd⟩ : ∃ c, b[p.toNat]? = some c := ⟨_, List.getElem?_eq_getElem (by omega)⟩
    obtain ⟨t, ht⟩ : ∃ c, ts[p.toNat]? = some c := ⟨_, List.getElem?_eq_getElem (by omega)⟩
    have kc := rCheckL_at oa ht hc
    have kd := rCheckL_at ob ht hd
    have e1 : rKeyL ts a (p :: ps) = cBits t c ++ rKeyL ts a ps := by simp [rKeyL, List.getD_eq_getElem?_getD, ht, hc]
    have e2 : rKeyL ts b (p :: ps) = cBits t d ++ rKeyL ts b ps := by simp [rKeyL, List.getD_eq_getElem?_getD, ht, hd]
    have e3 : rPickL a (p :: ps) = c :: rPickL a ps := by simp [rPickL, List.getD_eq_getElem?_getD, hc]
    have e4 : rPickL b (p :: ps) = d :: rPickL b ps := by simp [rPickL, List.getD_eq_getElem?_getD, hd]
    rw [e1, e2, e3, e4]
    have hcmp : compareBytes (cBits t c) (cBits t d) = cCmp c d ∧ ((cBits t c).isPrefixOf (cBits t d) = true → cCmp c d = 0) := bitsD_cmp kc kd
    have hcmp2 : compareBytes (cBits t d) (cBits t c) = cCmp d c ∧ ((cBits t d).isPrefixOf (cBits t c) = true → cCmp d c = 0) := bitsD_cmp kd kc
    have hneg := cCmp_neg c d
    unfold rCmp
    by_cases hz : cCmp c d = 0
    · rw [if_pos hz]
      have := (cCmp_zero c d).1 hz
      subst this
      rw [ycb_same]
      exact keys_cmp ts a b ha hb oa ob ps hin'
    · rw [if_neg hz, ycb_app _ _ _ _ (by
        cases h : (cBits t c).isPrefixOf (cBits t d) with
        | false => rfl
        | true => exact absurd (hcmp.2 h) hz) (by
        cases h : (cBits t d).isPrefixOf (cBits t c) with
        | false => rfl
        | true => have := hcmp2.2 h; omega)]
      exact hcmp.1
end Go.Ms
namespace Go.Ms
open Go.Lib
/-- The bits of cells, one type each. -/
def bitsAll : List Ty → List Cl → Bs
  | t :: ts, c :: cs => cBits t c ++ bitsAll ts cs
  | _, _ => []
theorem unA_back : ∀ (tys : List Ty) (acc : List Cl) (s : Bs), (rUnA acc tys s).2.2 = 0 → ∃ l, (rUnA acc tys s).1 = acc ++ l ∧ l.length = tys.length ∧ rCheckL tys l = 0 ∧ s = bitsAll tys l ++ (rUnA acc tys s).2.1
  | [], acc, s, _ => ⟨[], by simp [rUnA], rfl, rfl, by simp [rUnA, bitsAll]⟩
  | t :: ts, acc, s, h => by
    unfold rUnA at h ⊢
    by_cases h0 : (kUnD t.1 t.2 s).2.2 = 0
    · rw [if_pos h0] at h ⊢
      obtain ⟨l, h1, h2, h3, h4⟩ := unA_back ts _ _ h
      rcases hk : kUnD t.1 t.2 s with ⟨⟨nu, n, x⟩, d, e⟩
      rw [hk] at h0 h1 h4
      simp only at h0 h1 h4 ⊢
      subst h0
      obtain ⟨k1, k2, k3⟩ := unbits_only hk
      have hx : (unCl (nu, n, x)).2.2.data.toList = x := by simp [unCl]
      have hc : cCheck t (unCl (nu, n, x)) = 0 := by
        show kCheck t.1 t.2 nu n (unCl (nu, n, x)).2.2.data.toList = 0
        rw [hx]; exact k1
      have hb : cBits t (unCl (nu, n, x)) = s.take d := by
        show kBitsD t.1 t.2 nu n (unCl (nu, n, x)).2.2.data.toList = _
        rw [hx]; exact k3
      refine ⟨unCl (nu, n, x) :: l, ?_, by simp [h2], ?_, ?_⟩
      · rw [h1, List.append_assoc]; rfl
      · unfold rCheckL; rw [if_pos hc]; exact h3
      · unfold bitsAll
        rw [hb, List.append_assoc, ← h4, List.take_append_drop]
    · rw [if_neg h0] at h
      exact absurd h h0
theorem checkL_len : ∀ {ts : List Ty} {cs : List Cl}, rCheckL ts cs = 0 → ts.length = cs.length → ∀ c ∈ cs, c.2.2.size ≤ 1200
  | _, [], _, _ => fun c hc => by cases hc
  | [], _ :: _, _, h => by simp at h
  | t :: ts, c0 :: cs, h, hl => fun c hc => by
    unfold rCheckL at h
    by_cases h0 : cCheck t c0 = 0
    · rw [if_pos h0] at h
      rcases List.mem_cons.1 hc with rfl | hc
      · have := ycheck_len t _ h0; omega
      · exact checkL_len h (by simpa using hl) c hc
    · rw [if_neg h0] at h; exact absurd h h0
theorem check_len {ts : List Ty} {cs : List Cl} (h : rCheck ts cs = 0) : ∀ c ∈ cs, c.2.2.size ≤ 1200 := by
  unfold rCheck at h
  by_cases hl : ts.length = cs.length
  · rw [if_pos hl] at h; exact checkL_len h hl
  · rw [if_neg hl] at h; omega
/-- The places 0 to below n. -/
def placesTo (n : Nat) : List Int := (List.range n).map Int.ofNat
theorem placesTo_len (n : Nat) : (placesTo n).length = n := by simp [placesTo]
theorem placesTo_next (n : Nat) : placesTo (n + 1) = placesTo n ++ [(n : Int)] := by simp [placesTo, List.range_succ]
theorem placesTo_in (n : Nat) : rIn (placesTo n) n = true := by
  unfold rIn placesTo
  rw [List.all_eq_true]
  intro p hp
  obtain ⟨k, hk, rfl⟩ := List.mem_map.1 hp
  have := List.mem_range.1 hk
  simp
  exact this
theorem rUnT_all (ts : List Ty) : rUnT ts (placesTo ts.length) = ts := by
  unfold rUnT placesTo
  rw [List.map_map]
  apply List.ext_getElem?
  intro i
  rw [List.getElem?_map]
  by_cases h : i < ts.length
  · rw [List.getElem?_range h, List.getElem?_eq_getElem h]
    show some (ts.getD ((i : Int).toNat) zTy) = _
    rw [Int.toNat_natCast, List.getD_eq_getElem?_getD, List.getElem?_eq_getElem h]
    rfl
  · rw [List.getElem?_eq_none (by simpa using h), List.getElem?_eq_none (by omega)]
    rfl
theorem rKeyL_shift (t : Ty) (c : Cl) (ts : List Ty) (cs : List Cl) (l : List Nat) : rKeyL (t :: ts) (c :: cs) ((l.map Nat.succ).map Int.ofNat) = rKeyL ts cs (l.map Int.ofNat) := by
  unfold rKeyL
  induction l with
  | nil => rfl
  | cons a l ih =>
    simp only [List.map_cons, List.flatMap_cons]
    rw [ih]
    rfl
theorem rKeyL_all : ∀ (ts : List Ty) (cs : List Cl), ts.length = cs.length → rKeyL ts cs (placesTo ts.length) = bitsAll ts cs
  | [], [], _ => rfl
  | t :: ts, c :: cs, h => by
    have ih := rKeyL_all ts cs (by simpa using h)
    unfold placesTo at ih ⊢
    rw [List.length_cons, List.range_succ_eq_map]
    show cBits t c ++ rKeyL (t :: ts) (c :: cs) (((List.range ts.length).map Nat.succ).map Int.ofNat) = cBits t c ++ bitsAll ts cs
    rw [rKeyL_shift, ih]
theorem bytes_back {ts : List Ty} {s : Bs} (h : rUnE ts (placesTo ts.length) s = 0) :
    rCheck ts (rUn ts (placesTo ts.length) s) = 0 ∧ rKeyE ts (rUn ts (placesTo ts.length) s) (placesTo ts.length) = 0 ∧ rKey ts (rUn ts (placesTo ts.length) s) (placesTo ts.length) = s ∧ (rUn ts (placesTo ts.length) s).length = ts.length := by
  have hu : rUn ts (placesTo ts.length) s = (rUnA [] (rUnT ts (placesTo ts.length)) s).1 := by unfold rUn; rw [if_pos h]
  unfold rUnE at h
  rw [if_pos (placesTo_in _)] at h
  rw [rUnT_all] at h hu
  by_cases h0 : (rUnA [] ts s).2.2 = 0
  · rw [if_pos h0] at h
    by_cases h1 : (rUnA [] ts s).2.1 = []
    · obtain ⟨l, e1, e2, e3, e4⟩ := unA_back ts [] s h0
      rw [h1, List.append_nil] at e4
      rw [List.nil_append] at e1
      rw [hu, e1]
      have hc : rCheck ts l = 0 := by unfold rCheck; rw [if_pos e2.symm]; exact e3
      have hk : rKeyE ts l (placesTo ts.length) = 0 := by
        unfold rKeyE
        rw [if_pos hc]
        unfold rInE
        rw [e2, if_pos (placesTo_in _)]
      refine ⟨hc, hk, ?_, e2⟩
      unfold rKey
      rw [if_pos hk, rKeyL_all ts l e2.symm, ← e4]
    · rw [if_neg h1] at h
      exact absurd h (by decide)
  · rw [if_neg h0] at h
    exact absurd h h0
/-- The places of places. -/
def placesOf (ps qs : List Int) : List Int := qs.map fun q => ps.getD q.toNat 0
theorem picks_back {cs : List Cl} {ps qs : List Int} (h1 : rIn ps cs.length = true) (h2 : rIn qs ps.length = true) :
    rIn (placesOf ps qs) cs.length = true ∧ rPickL cs (placesOf ps qs) = rPickL (rPickL cs ps) qs := by
  have hat : ∀ q ∈ qs, ∃ p, ps[q.toNat]? = some p := by
    intro q hq
    unfold rIn at h2
    have := List.all_eq_true.1 h2 q hq
    simp only [Bool.and_eq_true, decide_eq_true_eq] at this
    exact ⟨_, List.getElem?_eq_getElem (by omega)⟩
  constructor
  · unfold rIn placesOf
    rw [List.all_eq_true]
    intro x hx
    obtain ⟨q, hq, rfl⟩ := List.mem_map.1 hx
    obtain ⟨p, hp⟩ := hat q hq
    rw [List.getD_eq_getElem?_getD, hp]
    unfold rIn at h1
    exact List.all_eq_true.1 h1 p (List.mem_of_getElem? hp)
  · unfold rPickL placesOf
    rw [List.map_map]
    apply List.map_congr_left
    intro q hq
    obtain ⟨p, hp⟩ := hat q hq
    show cs.getD (ps.getD q.toNat 0).toNat zCl = (ps.map fun p => cs.getD p.toNat zCl).getD q.toNat zCl
    rw [List.getD_eq_getElem?_getD (l := ps), hp, List.getD_eq_getElem?_getD (l := List.map _ ps), List.getElem?_map, hp]
    rfl
end Go.Ms
namespace Go.Ms
open Go.RowKit Go.Lib Go.ChangeShapes Go.WideShapes Go.Deep
variable {H : Type} {enc : TypeId × Value → H} {P : Program} {w : World} {base : Nat} {spare : Nat → Bool} {held : Bool}
theorem trod_array2 {t e : TypeId} {fuel : Nat} {c0 c1 : Value} {x : DataW H × List MemPlace} (ht : P.underlying t = some (.array 2 e)) (hce : P.cellsOf e = 1)
    (h : DataW.trod enc P w base spare held fuel t [c0, c1] = some x) :
    ∃ y0 y1 n, x = (.agg [y0.1, y1.1], y0.2 ++ y1.2) ∧ DataW.trod enc P w base spare held n e [c0] = some y0 ∧ DataW.trod enc P w base spare held n e [c1] = some y1 := by
  cases fuel with
  | zero => simp [DataW.trod] at h
  | succ n =>
    unfold DataW.trod at h
    rw [ht] at h
    have r2 : List.range 2 = [0, 1] := rfl
    simp [r2, hce] at h
    obtain ⟨_, h⟩ := h
    cases h0 : DataW.trod enc P w base spare held n e [c0] with
    | none => simp [h0] at h
    | some y0 =>
      cases h1 : DataW.trod enc P w base spare held n e [c1] with
      | none => simp [h0, h1] at h
      | some y1 =>
        simp [h0, h1] at h
        exact ⟨y0, y1, n, h.symm, h0, h1⟩
theorem open_two {r : Reach} {b0 : Nat} {t e : TypeId} {v : Value} {d : DataW H} {p : List MemPlace} (ht : P.underlying t = some (.array 2 e)) (hce : P.cellsOf e = 1) (hC : P.cellsOf t = 2)
    (hv : Value.okWide P w r b0 t v) (h : DataW.Trod enc P w base spare held t v d p) :
    ∃ (c0 c1 : Value) (y0 y1 : DataW H × List MemPlace) (n : Nat), v = .agg #[c0, c1] ∧ DataW.trod enc P w base spare held n e [c0] = some y0 ∧ DataW.trod enc P w base spare held n e [c1] = some y1 := by
  simp only [Value.okWide, ht] at hv
  obtain ⟨cs, rfl, hsz, _⟩ := hv
  obtain ⟨c0, c1, rfl⟩ : ∃ c0 c1, cs = #[c0, c1] := by
    have h2 := hsz.trans hC
    obtain ⟨l⟩ := cs
    match l, h2 with
    | [a, b], _ => exact ⟨a, b, rfl⟩
  obtain ⟨fuel, hf⟩ := h
  obtain ⟨y0, y1, n, _, h0, h1⟩ := trod_array2 ht hce (show DataW.trod enc P w base spare held fuel t [c0, c1] = some (d, p) from hf)
  exact ⟨c0, c1, y0, y1, n, rfl, h0, h1⟩
end Go.Ms
