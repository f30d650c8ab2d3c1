/- Marks: lists compared; a list loaded. Marks: the chapter's examples. Marks: a step at a partition that has a number; rows of sixteen cells. -/
import Derived.Test.YtoapigiapcmjnaaDoorZQd
import Derived.Test.YtoapigiapcmjnaaDoorZQc
import Derived.BigQuiet
import Derived.Deep.QuietTactic
set_option linter.unusedVariables false
set_option linter.unusedSimpArgs false
namespace Go.Ms
open Go.RowKit Go.Lib Go.Maps
theorem mkV_at : ∀ (l : List (ByteArray × Int)) (i : Nat) (c : ByteArray × Int), l[i]? = some c → (mkV l)[i * 2]? = some (.string c.1) ∧ (mkV l)[i * 2 + 1]? = some (.int .i64 c.2)
  | [], i, c, h => by simp at h
  | a :: t, 0, c, h => by
    obtain rfl : a = c := by simpa using h
    exact ⟨rfl, rfl⟩
  | a :: t, i + 1, c, h => by
    obtain ⟨h1, h2⟩ := mkV_at t i c (by simpa using h)
    have e : mkV (a :: t) = [.string a.1, .int .i64 a.2] ++ mkV t := rfl
    rw [e, show (i + 1) * 2 = i * 2 + 2 by omega]
    refine ⟨?_, ?_⟩
    · rw [List.getElem?_append_right (by simp)]; simpa using h1
    · rw [List.getElem?_append_right (by simp)]; simpa using h2
theorem Lay.mk {w : World} {B : Nat} {A : Option Addr} {l : List (ByteArray × Int)} {i : Nat} {c : ByteArray × Int} (h : Lay w B A (mkV l)) (hi : l[i]? = some c) :
    ∃ g o, A = some ⟨g, o, none⟩ ∧ g < B ∧ w.cell? ⟨g, o + i * 2, none⟩ = some (.string c.1) ∧ w.cell? ⟨g, o + i * 2 + 1, none⟩ = some (.int .i64 c.2) := by
  have hl : i < l.length := (List.getElem?_eq_some_iff.1 hi).1
  obtain ⟨g, o, e, hb, hc⟩ := h.some_ (by rw [mkV_len]; omega)
  have k := mkV_at l i c hi
  exact ⟨g, o, e, hb, hc _ _ k.1, hc _ _ k.2⟩
theorem mkV_one (l : List (ByteArray × Int)) : ∀ u ∈ mkV l, u.oneCell' = true := by
  intro u hu
  obtain ⟨c, _, hc⟩ := List.mem_flatMap.1 hu
  simp at hc
  rcases hc with rfl | rfl <;> rfl
end Go.Ms
namespace Go.Proofs.YtoapigiapcmjnaaDoor
open Go.RowKit Go.Ms Go.Lib Go.Maps Go.Rel
theorem run_mark_eq (s1 s2 : ByteArray) (o1 o2 : Int) (w : World) :
    (Op.equalIn 10000 38 (.agg #[.string s1, .int .i64 o1]) (.agg #[.string s2, .int .i64 o2])).run Tryd.prog w = .ok (decide (((s1, o1) : ByteArray × Int) = (s2, o2))) w := by
  have q : ∀ S T : ByteArray, S.toList = T.toList ↔ S = T := fun S T => by
    rw [Lib.toList_data, Lib.toList_data]
    exact ⟨fun h => by rw [ba_ext (s := S) rfl, ba_ext (s := T) rfl, h], fun h => by rw [h]⟩
  by_cases h0 : s1 = s2
  · by_cases h1 : o1 = o2
    · simp [go_sem, Tryd.underlying38, q, h0, h1]
    · simp [go_sem, Tryd.underlying38, q, h0, h1]
  · simp [go_sem, Tryd.underlying38, q, h0]
set_option maxRecDepth 100000 in
set_option maxHeartbeats 2000000 in
theorem mkeq_any (w : World) (A B : Option Addr) (n cap m capm : Nat) (xs ys : List (ByteArray × Int)) (hn' : n ≤ maxLen) (hm' : m ≤ maxLen) (hn : n = xs.length) (hm : m = ys.length) (hA : Lay w w.heap.size A (mkV xs)) (hB : Lay w w.heap.size B (mkV ys)) :
    Calls Tryd.prog 13 #[.slice A n cap, .slice B m capm] w fun e w' => e = .returned (.bool (decide (xs = ys))) ∧ Below w.heap.size w w' := by
  unfold maxLen at hn' hm'
  by_cases hnm : n = m
  · subst hnm
    have HA := Lib.hid hA; have HB := Lib.hid hB; have HN := Lib.hid hn; have HM := Lib.hid hm
    clear hA hB hn hm
    go_enter Tryd.func13, Tryd.ntmps13
    go_wp2_with fail
    go_loopw [5] (fun id wr => ∃ k : Nat, k ≤ n ∧ id = .int .i64 k ∧ Below w.heap.size w wr ∧ xs.take k = ys.take k) (fun id _ => n - (RowKit.intOf id).toNat)
    case atStart => exact ⟨0, by omega, rfl, Below.refl _ _, rfl⟩
    case round =>
      obtain ⟨k, hk, rfl, hb, hr⟩ := hrel
      have HR := Lib.hid hr
      clear hr
      by_cases hlk : k < n
      · have hki : (k : Int) < n := by omega
        obtain ⟨c, hc⟩ : ∃ c, xs[k]? = some c := ⟨_, List.getElem?_eq_getElem (by rw [← HN.out]; omega)⟩
        obtain ⟨d, hd⟩ : ∃ c, ys[k]? = some c := ⟨_, List.getElem?_eq_getElem (by rw [← HM.out]; omega)⟩
        obtain ⟨g, o, rfl, hg, h1, h2⟩ := HA.out.mk hc
        obtain ⟨g', o', rfl, hg', k1, k2⟩ := HB.out.mk hd
        have g1 := (hb.cell hg).trans h1
        have g2 := (hb.cell hg).trans h2
        have j1 := (hb.cell hg').trans k1
        have j2 := (hb.cell hg').trans k2
        clear h1 h2 k1 k2
        have HB := Lib.hid hb
        clear hb
        have HC := Lib.hid hc; have HD := Lib.hid hd
        clear hc hd
        obtain ⟨s1, o1⟩ := c
        obtain ⟨s2, o2⟩ := d
        simp only at g1 g2 j1 j2
        have he := fun w => run_mark_eq s1 s2 o1 o2 w
        have hst : xs.take (k + 1) = ys.take (k + 1) ↔ ((s1, o1) : ByteArray × Int) = (s2, o2) := by
          rw [List.take_add_one, List.take_add_one, HC.out, HD.out, HR.out]
          simp
        have HST := Lib.hid hst
        clear hst
        by_cases hcd : ((s1, o1) : ByteArray × Int) = (s2, o2)
        · rw [decide_eq_true hcd] at he
          have HCD := Lib.hid hcd
          clear hcd
          go_wp2_with fail
          go_quiet (fail)
          go_wp2_with fail
          go_roundw
          case rel => exact ⟨k + 1, by omega, by go_num, ms_drewN HB.out _, HST.out.2 HCD.out⟩
          case measure => simp [RowKit.intOf]; omega
        · rw [decide_eq_false hcd] at he
          have hne : decide (xs = ys) = false := by
            apply decide_eq_false
            intro e
            exact hcd (HST.out.1 (by rw [e]))
          have HNE := Lib.hid hne
          clear hcd hne
          go_wp2_with fail
          go_quiet (fail)
          go_wp2_with fail
          go_ret
          exact ⟨by rw [HNE.out]; rfl, ms_drewN HB.out _⟩
      · have hki : ¬ (k : Int) < n := by omega
        have hkn : k = n := by omega
        have heq : decide (xs = ys) = true := by
          apply decide_eq_true
          have := HR.out
          rw [hkn, List.take_of_length_le (by have := HN.out; omega), List.take_of_length_le (by have := HM.out; omega)] at this
          exact this
        have HEQ := Lib.hid heq
        have HB := Lib.hid hb
        clear heq hkn hb
        go_wp2_with fail
        go_ret
        exact ⟨by rw [HEQ.out]; rfl, HB.out⟩
  · have hne : decide (xs = ys) = false := by
      apply decide_eq_false
      intro e
      rw [e] at hn
      omega
    have h1 : ((n : Int) != m) = true := by simp; omega
    have h2 : (n != m) = true := by simpa using hnm
    rw [hne]
    clear hne hnm hA hB hn hm
    go_enter Tryd.func13, Tryd.ntmps13
    go_wp2_with fail
    go_ret
    exact ⟨rfl, Below.refl _ _⟩
/-- Of no list: marks that have none. -/
theorem mkload_nil (w : World) : Calls Tryd.prog 15 #[.slice none 0 0] w fun e w' => ∃ p b, e = .returned (.tuple #[.pointer (some ⟨p, 0, none⟩), .int .i64 0]) ∧ MkSt0 (H := Unit) p b 0 (.map []) w' ∧ Below w.heap.size w w' ∧ w.heap.size ≤ p ∧ w.heap.size ≤ b := by
  have hnew := mknew_any w
  have HN := Lib.hid hnew
  clear hnew
  go_enter Tryd.func15, Tryd.ntmps15
  go_wp2_with fail
  refine HN.out.mono ?_
  rintro e w1 ⟨p, b, rfl, h1, h2, h3, h4⟩
  have H1 := Lib.hid h1; have H2 := Lib.hid h2
  clear h1 h2
  go_wp2_with fail
  go_loopw [13] (fun i wr => i = .int .i64 0 ∧ wr = w1) (fun _ _ => 0)
  case atStart => exact ⟨rfl, rfl⟩
  case round =>
    obtain ⟨rfl, rfl⟩ := hrel
    go_wp2_with fail
    go_ret2
    exact ⟨_, _, rfl, H1.out, H2.out, h3, h4⟩
set_option maxRecDepth 100000 in
set_option maxHeartbeats 2000000 in
/-- Of a list of two whose names do not rise: none. -/
theorem mkload_two (w : World) (A : Option Addr) (cap : Nat) (s1 s2 : ByteArray) (o1 o2 : Int) (hc : 2 ≤ cap) (hA : Lay w w.heap.size A (mkV [(s1, o1), (s2, o2)])) (m1 : mkMay s1 o1 = true) (m2 : mkMay s2 o2 = true) (z1 : s1.size ≤ 1000) (z2 : s2.size ≤ 1000)
    (hle : (Op.bytesLess s2.toList s1.toList || s2.toList == s1.toList) = true) :
    Calls Tryd.prog 15 #[.slice A 2 cap] w fun e w' => e = .returned (.tuple #[.pointer none, .int .i64 2]) ∧ Below w.heap.size w w' := by
  have hnew := mknew_any w
  have HN := Lib.hid hnew
  obtain ⟨g, o, rfl, hg, a1, a2⟩ := hA.mk (i := 0) rfl
  obtain ⟨g', o', e, -, a3, a4⟩ := hA.mk (i := 1) rfl
  obtain ⟨rfl, rfl⟩ : g = g' ∧ o = o' := by simpa using e
  clear hnew e
  have hwf : (Lit.int .i64 o1).wf = true := by
    have h2 := m1
    unfold mkMay at h2
    simp only [Bool.and_eq_true, decide_eq_true_eq] at h2
    exact WalkArith.wf_i64 (by omega)
  have HLE := Lib.hid hle
  clear hle
  go_enter Tryd.func15, Tryd.ntmps15
  go_wp2_with fail
  refine HN.out.mono ?_
  rintro e w1 ⟨p, b, rfl, h1, h2, h3, h4⟩
  have H1 := Lib.hid h1; have H2 := Lib.hid h2
  clear h1 h2
  go_wp2_with fail
  go_loopw [13] (fun i wr => ∃ (k n : Nat) (D : DataW Unit), k ≤ 1 ∧ n ≤ k ∧ i = .int .i64 k ∧ MkSt0 p b n D wr ∧ Below w.heap.size w wr) (fun i _ => 2 - (RowKit.intOf i).toNat)
  case atStart => exact ⟨0, 0, _, by omega, by omega, rfl, H1.out, H2.out⟩
  case round =>
    obtain ⟨k, n, D, hk, hn, rfl, hst, hb⟩ := hrel
    have g1 : wr.cell? ⟨g, o, none⟩ = some (.string s1) := by have := (hb.cell hg).trans a1; simpa using this
    have g2 : wr.cell? ⟨g, o + 1, none⟩ = some (.int .i64 o1) := by have := (hb.cell hg).trans a2; simpa using this
    have g3 : wr.cell? ⟨g, o + 2, none⟩ = some (.string s2) := by have := (hb.cell hg).trans a3; simpa using this
    have g4 : wr.cell? ⟨g, o + 3, none⟩ = some (.int .i64 o2) := by have := (hb.cell hg).trans a4; simpa using this
    have HST := Lib.hid hst; have HB := Lib.hid hb
    clear hst hb
    have hk2 : k = 0 ∨ k = 1 := by omega
    rcases hk2 with rfl | rfl
    · have hm := fun W => mkmay_any s1 o1 W (by omega)
      rw [m1] at hm
      have HM := Lib.hid hm
      clear hm
      go_wp2_with fail
      obtain ⟨X, hX⟩ : ∃ X, X = wr.alloc (.cells #[.string s1, .int .i64 o1] 38) := ⟨_, rfl⟩
      have hq : X.heap[wr.heap.size]? = some (.cells #[.string s1, .int .i64 o1] 38 (0, 0)) := by rw [hX]; exact block_new _ _
      have hbx : Below wr.heap.size wr X := by rw [hX]; exact (Below.refl _ wr).alloc (Nat.le_refl _) _
      have hg1 : X.cell? ⟨g, o, none⟩ = some (.string s1) := (hbx.cell (cell_lt g1)).trans g1
      have HQ := Lib.hid hq; have HBX := Lib.hid hbx; have HG1 := Lib.hid hg1
      rw [← hX]
      clear hX hq hbx hg1 g1 g2 g3 g4
      refine wp_region_sel [isV (.pointer (some ⟨wr.heap.size, 0, none⟩)), isV (.string s1), isV (.pointer (some ⟨wr.heap.size, 1, none⟩)), isV (.int .i64 o1), isV (.bool true), isV (.bool false), isV (.bool false), isV (.int .i64 0), isV (.bool false), isV (.bool false), isV (undef), isV (undef), isV (undef), isV (undef), isV (undef), isV (undef), isV (undef), isV (undef), isV (undef), isV (.bool false), isV (.bool false)] (by kernel_rfl) (by kernel_rfl) ?_ ?_
      ·
        refine ⟨prem_of (WantOk.free rfl) (isV_stable _) (fun ev wo E => ?_), ?_⟩
        · have e6 : ev (.tmp 6) = .pointer (some ⟨wr.heap.size, 0, none⟩) := (E.base 6 rfl).trans rfl
          go_simp
          exact relUpon_value ⟨Below.refl _ _, rfl⟩
        refine ⟨prem_of (WantOk.free rfl) (isV_stable _) (fun ev wo E => ?_), ?_⟩
        · have e18 : ev (.tmp 18) = .pointer (some ⟨wr.heap.size, 0, none⟩) := E.dep 0 _ rfl rfl _ rfl
          have hx0 := cell_of_block (i := 0) (block_kept HQ.out E.bel) rfl
          go_simp
          exact relUpon_value ⟨Below.refl _ _, rfl⟩
        refine ⟨prem_of (WantOk.free rfl) (isV_stable _) (fun ev wo E => ?_), ?_⟩
        · have e6 : ev (.tmp 6) = .pointer (some ⟨wr.heap.size, 0, none⟩) := (E.base 6 rfl).trans rfl
          go_simp
          exact relUpon_value ⟨Below.refl _ _, rfl⟩
        refine ⟨prem_of (WantOk.free rfl) (isV_stable _) (fun ev wo E => ?_), ?_⟩
        · have e20 : ev (.tmp 20) = .pointer (some ⟨wr.heap.size, 1, none⟩) := E.dep 0 _ rfl rfl _ rfl
          have hx1 := cell_of_block (i := 1) (block_kept HQ.out E.bel) rfl
          go_simp
          exact relUpon_value ⟨Below.refl _ _, rfl⟩
        refine ⟨prem_of (WantOk.free rfl) (isV_stable _) (fun ev wo E => ?_), ?_⟩
        · have e19 : ev (.tmp 19) = .string s1 := E.dep 0 _ rfl rfl _ rfl
          have e21 : ev (.tmp 21) = .int .i64 o1 := E.dep 1 _ rfl rfl _ rfl
          have ef := E.func
          go_simp
          refine relUpon_enter ((HM.out wo).mono ?_)
          rintro e w' ⟨rfl, hb⟩
          exact ⟨_, rfl, hb, rfl⟩
        refine ⟨prem_of (WantOk.free rfl) (isV_stable _) (fun ev wo E => ?_), ?_⟩
        · have e22 : ev (.tmp 22) = .bool true := E.dep 0 _ rfl rfl _ rfl
          go_simp
          exact relUpon_value ⟨Below.refl _ _, rfl⟩
        refine ⟨prem_copy 0 (WantOk.free rfl) (.inl rfl) rfl rfl rfl rfl (isV_stable _), ?_⟩
        refine ⟨prem_base (WantOk.by 0 rfl rfl rfl rfl rfl) rfl rfl rfl rfl, ?_⟩
        refine ⟨prem_of (WantOk.by 1 rfl rfl rfl rfl rfl) (isV_stable _) (fun ev wo E => ?_), ?_⟩
        · have e25 : ev (.tmp 25) = .int .i64 0 := E.dep 0 _ rfl rfl _ rfl
          have ec := E.const
          go_simp
          exact relUpon_value ⟨Below.refl _ _, rfl⟩
        refine ⟨prem_copy 0 (WantOk.by 1 rfl rfl rfl rfl rfl) (.inl rfl) rfl rfl rfl rfl (isV_stable _), ?_⟩
        refine ⟨prem_off 0 rfl rfl rfl rfl rfl rfl, ?_⟩
        refine ⟨prem_off 1 rfl rfl rfl rfl rfl rfl, ?_⟩
        refine ⟨prem_off 0 rfl rfl rfl rfl rfl rfl, ?_⟩
        refine ⟨prem_off 0 rfl rfl rfl rfl rfl rfl, ?_⟩
        refine ⟨prem_off 1 rfl rfl rfl rfl rfl rfl, ?_⟩
        refine ⟨prem_off 2 rfl rfl rfl rfl rfl rfl, ?_⟩
        refine ⟨prem_off 1 rfl rfl rfl rfl rfl rfl, ?_⟩
        refine ⟨prem_off 1 rfl rfl rfl rfl rfl rfl, ?_⟩
        refine ⟨prem_off 2 rfl rfl rfl rfl rfl rfl, ?_⟩
        refine ⟨prem_of (WantOk.by 2 rfl rfl rfl rfl rfl) (isV_stable _) (fun ev wo E => ?_), ?_⟩
        · have e27 : ev (.tmp 27) = .bool false := E.dep 0 _ rfl rfl _ rfl
          have e36 : ev (.tmp 36) = undef := E.dep 1 _ rfl rfl _ rfl
          have ec := E.const
          go_simp
          exact relUpon_value ⟨Below.refl _ _, rfl⟩
        refine ⟨prem_of (WantOk.free rfl) (isV_stable _) (fun ev wo E => ?_), ?_⟩
        · have e24 : ev (.tmp 24) = .bool false := E.dep 0 _ rfl rfl _ rfl
          have e37 : ev (.tmp 37) = .bool false := E.dep 1 _ rfl rfl _ rfl
          have ec := E.const
          go_simp
          exact relUpon_value ⟨Below.refl _ _, rfl⟩
        trivial
      · intro wz bz
        rintro _ rfl
        rintro _ rfl
        rintro _ rfl
        rintro _ rfl
        rintro _ rfl
        rintro _ rfl
        rintro _ rfl
        rintro _ rfl
        rintro _ rfl
        rintro _ rfl
        rintro _ rfl
        rintro _ rfl
        rintro _ rfl
        rintro _ rfl
        rintro _ rfl
        rintro _ rfl
        rintro _ rfl
        rintro _ rfl
        rintro _ rfl
        rintro _ rfl
        rintro _ rfl
        have BZ := Lib.hid (HBX.out.trans (bz.mono HBX.out.size))
        have y0 := cell_of_block (i := 0) (block_kept HQ.out bz) rfl
        have y1 := cell_of_block (i := 1) (block_kept HQ.out bz) rfl
        clear bz
        simp only [relEnd]
        go_simp
        go_wp2_with fail
        have hs := mkset_any p b n D s1 o1 wz (by omega) (HST.out.below BZ.out) (by omega) hwf
        refine hs.mono ?_
        rintro e w3 ⟨⟨v, rfl⟩, r1, r2⟩
        have R1 := Lib.hid r1
        have R2 := Lib.hid ((HB.out.trans (BZ.out.mono HB.out.size)).grown r2 (Nat.le_trans HB.out.size BZ.out.size) (fun k e => by cases e; exact h4))
        clear r1 r2
        go_wp2_with fail
        go_roundw
        case rel => exact ⟨1, n + 1, _, by omega, by omega, rfl, R1.out, R2.out⟩
        case measure => simp [RowKit.intOf]
    · have hm := fun W => mkmay_any s2 o2 W (by omega)
      rw [m2] at hm
      have HM := Lib.hid hm
      clear hm
      go_wp2_with fail
      obtain ⟨X, hX⟩ : ∃ X, X = wr.alloc (.cells #[.string s2, .int .i64 o2] 38) := ⟨_, rfl⟩
      have hq : X.heap[wr.heap.size]? = some (.cells #[.string s2, .int .i64 o2] 38 (0, 0)) := by rw [hX]; exact block_new _ _
      have hbx : Below wr.heap.size wr X := by rw [hX]; exact (Below.refl _ wr).alloc (Nat.le_refl _) _
      have hg1 : X.cell? ⟨g, o, none⟩ = some (.string s1) := (hbx.cell (cell_lt g1)).trans g1
      have HQ := Lib.hid hq; have HBX := Lib.hid hbx; have HG1 := Lib.hid hg1
      rw [← hX]
      clear hX hq hbx hg1 g1 g2 g3 g4
      refine wp_region_sel [isV (.pointer (some ⟨wr.heap.size, 0, none⟩)), isV (.string s2), isV (.pointer (some ⟨wr.heap.size, 1, none⟩)), isV (.int .i64 o2), isV (.bool true), isV (.bool false), isV (.bool false), isV (.int .i64 1), isV (.bool true), isV (.bool true), isV (.pointer (some ⟨wr.heap.size, 0, none⟩)), isV (.string s2), isV (.slice (some ⟨g, o, none⟩) 2 cap), isV (.int .i64 1), isV (.int .i64 0), isV (.pointer (some ⟨g, o, none⟩)), isV (.pointer (some ⟨g, o, none⟩)), isV (.string s1), isV (.bool true), isV (.bool true), isV (.bool true)] (by kernel_rfl) (by kernel_rfl) ?_ ?_
      ·
        refine ⟨prem_of (WantOk.free rfl) (isV_stable _) (fun ev wo E => ?_), ?_⟩
        · have e6 : ev (.tmp 6) = .pointer (some ⟨wr.heap.size, 0, none⟩) := (E.base 6 rfl).trans rfl
          go_simp
          exact relUpon_value ⟨Below.refl _ _, rfl⟩
        refine ⟨prem_of (WantOk.free rfl) (isV_stable _) (fun ev wo E => ?_), ?_⟩
        · have e18 : ev (.tmp 18) = .pointer (some ⟨wr.heap.size, 0, none⟩) := E.dep 0 _ rfl rfl _ rfl
          have hx0 := cell_of_block (i := 0) (block_kept HQ.out E.bel) rfl
          go_simp
          exact relUpon_value ⟨Below.refl _ _, rfl⟩
        refine ⟨prem_of (WantOk.free rfl) (isV_stable _) (fun ev wo E => ?_), ?_⟩
        · have e6 : ev (.tmp 6) = .pointer (some ⟨wr.heap.size, 0, none⟩) := (E.base 6 rfl).trans rfl
          go_simp
          exact relUpon_value ⟨Below.refl _ _, rfl⟩
        refine ⟨prem_of (WantOk.free rfl) (isV_stable _) (fun ev wo E => ?_), ?_⟩
        · have e20 : ev (.tmp 20) = .pointer (some ⟨wr.heap.size, 1, none⟩) := E.dep 0 _ rfl rfl _ rfl
          have hx1 := cell_of_block (i := 1) (block_kept HQ.out E.bel) rfl
          go_simp
          exact relUpon_value ⟨Below.refl _ _, rfl⟩
        refine ⟨prem_of (WantOk.free rfl) (isV_stable _) (fun ev wo E => ?_), ?_⟩
        · have e19 : ev (.tmp 19) = .string s2 := E.dep 0 _ rfl rfl _ rfl
          have e21 : ev (.tmp 21) = .int .i64 o2 := E.dep 1 _ rfl rfl _ rfl
          have ef := E.func
          go_simp
          refine relUpon_enter ((HM.out wo).mono ?_)
          rintro e w' ⟨rfl, hb⟩
          exact ⟨_, rfl, hb, rfl⟩
        refine ⟨prem_of (WantOk.free rfl) (isV_stable _) (fun ev wo E => ?_), ?_⟩
        · have e22 : ev (.tmp 22) = .bool true := E.dep 0 _ rfl rfl _ rfl
          go_simp
          exact relUpon_value ⟨Below.refl _ _, rfl⟩
        refine ⟨prem_copy 0 (WantOk.free rfl) (.inl rfl) rfl rfl rfl rfl (isV_stable _), ?_⟩
        refine ⟨prem_base (WantOk.by 0 rfl rfl rfl rfl rfl) rfl rfl rfl rfl, ?_⟩
        refine ⟨prem_of (WantOk.by 1 rfl rfl rfl rfl rfl) (isV_stable _) (fun ev wo E => ?_), ?_⟩
        · have e25 : ev (.tmp 25) = .int .i64 1 := E.dep 0 _ rfl rfl _ rfl
          have ec := E.const
          go_simp
          exact relUpon_value ⟨Below.refl _ _, rfl⟩
        refine ⟨prem_copy 0 (WantOk.by 1 rfl rfl rfl rfl rfl) (.inl rfl) rfl rfl rfl rfl (isV_stable _), ?_⟩
        refine ⟨prem_of (WantOk.by 0 rfl rfl rfl rfl rfl) (isV_stable _) (fun ev wo E => ?_), ?_⟩
        · have e6 : ev (.tmp 6) = .pointer (some ⟨wr.heap.size, 0, none⟩) := (E.base 6 rfl).trans rfl
          go_simp
          exact relUpon_value ⟨Below.refl _ _, rfl⟩
        refine ⟨prem_of (WantOk.by 1 rfl rfl rfl rfl rfl) (isV_stable _) (fun ev wo E => ?_), ?_⟩
        · have e28 : ev (.tmp 28) = .pointer (some ⟨wr.heap.size, 0, none⟩) := E.dep 0 _ rfl rfl _ rfl
          have hx0 := cell_of_block (i := 0) (block_kept HQ.out E.bel) rfl
          go_simp
          exact relUpon_value ⟨Below.refl _ _, rfl⟩
        refine ⟨prem_base (WantOk.by 0 rfl rfl rfl rfl rfl) rfl rfl rfl rfl, ?_⟩
        refine ⟨prem_base (WantOk.by 0 rfl rfl rfl rfl rfl) rfl rfl rfl rfl, ?_⟩
        refine ⟨prem_of (WantOk.by 1 rfl rfl rfl rfl rfl) (isV_stable _) (fun ev wo E => ?_), ?_⟩
        · have e31 : ev (.tmp 31) = .int .i64 1 := E.dep 0 _ rfl rfl _ rfl
          have ec := E.const
          go_simp
          exact relUpon_value ⟨Below.refl _ _, rfl⟩
        refine ⟨prem_of (WantOk.by 2 rfl rfl rfl rfl rfl) (isV_stable _) (fun ev wo E => ?_), ?_⟩
        · have e30 : ev (.tmp 30) = .slice (some ⟨g, o, none⟩) 2 cap := E.dep 0 _ rfl rfl _ rfl
          have e32 : ev (.tmp 32) = .int .i64 0 := E.dep 1 _ rfl rfl _ rfl
          go_simp
          exact relUpon_value ⟨Below.refl _ _, rfl⟩
        refine ⟨prem_of (WantOk.by 1 rfl rfl rfl rfl rfl) (isV_stable _) (fun ev wo E => ?_), ?_⟩
        · have e33 : ev (.tmp 33) = .pointer (some ⟨g, o, none⟩) := E.dep 0 _ rfl rfl _ rfl
          go_simp
          exact relUpon_value ⟨Below.refl _ _, rfl⟩
        refine ⟨prem_of (WantOk.by 1 rfl rfl rfl rfl rfl) (isV_stable _) (fun ev wo E => ?_), ?_⟩
        · have e34 : ev (.tmp 34) = .pointer (some ⟨g, o, none⟩) := E.dep 0 _ rfl rfl _ rfl
          have hx2 := (E.bel.cell (cell_lt HG1.out)).trans HG1.out
          go_simp
          exact relUpon_value ⟨Below.refl _ _, rfl⟩
        refine ⟨prem_of (WantOk.by 2 rfl rfl rfl rfl rfl) (isV_stable _) (fun ev wo E => ?_), ?_⟩
        · have e29 : ev (.tmp 29) = .string s2 := E.dep 0 _ rfl rfl _ rfl
          have e35 : ev (.tmp 35) = .string s1 := E.dep 1 _ rfl rfl _ rfl
          have hl := HLE.out
          go_simp
          exact relUpon_value ⟨Below.refl _ _, rfl⟩
        refine ⟨prem_of (WantOk.by 2 rfl rfl rfl rfl rfl) (isV_stable _) (fun ev wo E => ?_), ?_⟩
        · have e27 : ev (.tmp 27) = .bool true := E.dep 0 _ rfl rfl _ rfl
          have e36 : ev (.tmp 36) = .bool true := E.dep 1 _ rfl rfl _ rfl
          have ec := E.const
          go_simp
          exact relUpon_value ⟨Below.refl _ _, rfl⟩
        refine ⟨prem_of (WantOk.free rfl) (isV_stable _) (fun ev wo E => ?_), ?_⟩
        · have e24 : ev (.tmp 24) = .bool false := E.dep 0 _ rfl rfl _ rfl
          have e37 : ev (.tmp 37) = .bool true := E.dep 1 _ rfl rfl _ rfl
          have ec := E.const
          go_simp
          exact relUpon_value ⟨Below.refl _ _, rfl⟩
        trivial
      · intro wz bz
        rintro _ rfl
        rintro _ rfl
        rintro _ rfl
        rintro _ rfl
        rintro _ rfl
        rintro _ rfl
        rintro _ rfl
        rintro _ rfl
        rintro _ rfl
        rintro _ rfl
        rintro _ rfl
        rintro _ rfl
        rintro _ rfl
        rintro _ rfl
        rintro _ rfl
        rintro _ rfl
        rintro _ rfl
        rintro _ rfl
        rintro _ rfl
        rintro _ rfl
        rintro _ rfl
        have BZ := Lib.hid (HBX.out.trans (bz.mono HBX.out.size))
        have y0 := cell_of_block (i := 0) (block_kept HQ.out bz) rfl
        have y1 := cell_of_block (i := 1) (block_kept HQ.out bz) rfl
        clear bz
        simp only [relEnd]
        go_simp
        go_wp2_with fail
        go_ret2
        exact ⟨rfl, HB.out.trans (BZ.out.mono HB.out.size)⟩
end Go.Proofs.YtoapigiapcmjnaaDoor
set_option linter.unusedSimpArgs false
namespace Go.Ms
open Go.RowKit Go.Lib Go.Maps
def mkPQ (k : Nat) : ByteArray := if k = 0 then ⟨#[112]⟩ else ⟨#[113]⟩
theorem mkPQ_up : NmUp 2 mkPQ := fun i j hij hj => by
  obtain rfl : i = 0 := by omega
  obtain rfl : j = 1 := by omega
  show ([112] : List UInt8) < [113]
  decide
def mkD1 : DataW Unit := (DataW.map []).put (.string [112]) (.lit (.int .i64 5))
def mkD2 : DataW Unit := mkD1.put (.string [113]) (.lit (.int .i64 0))
theorem mkD2_means : Means 2 mkPQ mkD2 (mkSet (mkSet (fun _ => false) 0 true) 1 true) (mkSet (mkSet (fun _ => 0) 0 5) 1 0) :=
  ((Means.nil 2 mkPQ (fun _ => 0)).put mkPQ_up.apart (k := 0) (by omega) 5).put mkPQ_up.apart (k := 1) (by omega) 0
theorem mkD2_list {ss : List (List UInt8)} (hk : ∀ es, mkD2 = .map es → ∀ p ∈ es, ∃ x, p.1 = .string x) (hp : ss.Perm (strKeys mkD2)) : (ss.mergeSort leB).map (mkPair mkD2) = [(⟨#[112]⟩, 5), (⟨#[113]⟩, 0)] := by
  rw [mkD2_means.sorted mkPQ_up hk hp]
  kernel_rfl
theorem mkAns1 : mkAns (.map [] : DataW Unit) ⟨#[112]⟩ 5 = (true, 0) := by kernel_rfl
theorem mkNext1 : mkNext (.map [] : DataW Unit) ⟨#[112]⟩ 5 = mkD1 := by kernel_rfl
theorem mkAns2 : mkAns mkD1 ⟨#[112]⟩ 5 = (false, 0) := by kernel_rfl
theorem mkNext2 : mkNext mkD1 ⟨#[112]⟩ 5 = mkD1 := by kernel_rfl
theorem mkAns3 : mkAns mkD1 ⟨#[112]⟩ 4 = (false, 0) := by kernel_rfl
theorem mkNext3 : mkNext mkD1 ⟨#[112]⟩ 4 = mkD1 := by kernel_rfl
theorem mkAns4 : mkAns mkD1 ⟨#[113]⟩ 0 = (true, 0) := by kernel_rfl
theorem mkNext4 : mkNext mkD1 ⟨#[113]⟩ 0 = mkD2 := by kernel_rfl
theorem mkAns5 : mkAns mkD2 ⟨#[80]⟩ 1 = (false, 2) := by kernel_rfl
theorem mkNext5 : mkNext mkD2 ⟨#[80]⟩ 1 = mkD2 := by kernel_rfl
theorem mkAns6 : mkAns mkD2 ⟨#[112]⟩ (-1) = (false, 2) := by kernel_rfl
theorem mkNext6 : mkNext mkD2 ⟨#[112]⟩ (-1) = mkD2 := by kernel_rfl
theorem mkAns7 : mkAns mkD2 ⟨#[112]⟩ 9007199254740992 = (false, 2) := by kernel_rfl
theorem mkNext7 : mkNext mkD2 ⟨#[112]⟩ 9007199254740992 = mkD2 := by kernel_rfl
theorem mkAns8 : mkAns mkD2 ⟨#[112]⟩ 6 = (true, 0) := by kernel_rfl
theorem mkMay1 : mkMay ⟨#[112]⟩ 1 = true := by kernel_rfl
theorem mkMay2 : mkMay ⟨#[112]⟩ 2 = true := by kernel_rfl
theorem mkMay3 : mkMay ⟨#[113]⟩ 1 = true := by kernel_rfl
end Go.Ms
namespace Go.Proofs.YtoapigiapcmjnaaDoor
open Go.RowKit Go.Ms Go.Lib Go.Maps
theorem mkstr_keys {H : Type} {w : World} {b n : Nat} {D : DataW H} (h : w.ownsMap Tryd.prog 9 (plainElem Tryd.prog 2) b n D) : ∀ es, D = .map es → ∀ p ∈ es, ∃ x, p.1 = .string x := fun es e p hp => by
  obtain ⟨es', e', hk⟩ := h.keysOf
  rw [e'] at e
  obtain rfl : es' = es := by simpa using e
  obtain ⟨v, hv⟩ := hk p hp
  obtain ⟨x, _, hx, _⟩ := Maps.keyOf_str Tryd.underlying9 hv
  exact ⟨x, hx⟩
theorem mksteps_is {H : Type} (p b n : Nat) (D D' : DataW H) (s : ByteArray) (o : Int) (want : Bool) (er : Int) (w : World) (hs : s.size ≤ 100000) (hst : MkSt0 p b n D w) (hn : n < 1000000) (ha : mkAns D s o = (want, er)) (hd : mkNext D s o = D') :
    Calls Tryd.prog 14 #[.pointer (some ⟨p, 0, none⟩), .string s, .int .i64 o, .bool want, .int .i64 er] w fun e w' => e = .returned (.bool true) ∧ MkSt0 p b (n + 1) D' w' ∧ w.grownBy w' (some b) := by
  have h := mksteps_any p b n D s o want er w hs hst hn
  rw [ha, hd, decide_eq_true (by exact ⟨rfl, rfl⟩)] at h
  exact h
theorem mk_bel {w w1 w2 : World} {b m : Nat} (h : Below m w w1) (hg : w1.grownBy w2 (some b)) (hm : m ≤ w1.heap.size) (hb : m ≤ b) : Below m w w2 := h.grown hg hm (fun k e => by cases e; exact hb)
set_option maxRecDepth 100000 in
set_option maxHeartbeats 2000000 in
theorem mkworks_any (w : World) : Calls Tryd.prog 6 #[] w fun e w' => e = .returned (.bool true) ∧ Below w.heap.size w w' := by
  have hnew := mknew_any w
  have HN := Lib.hid hnew
  clear hnew
  go_enter Tryd.func6, Tryd.ntmps6
  go_wp2_with fail
  refine HN.out.mono ?_
  rintro e w0 ⟨p, b, rfl, s0, b0, h1, h2⟩
  have S0 := Lib.hid s0; have B0 := Lib.hid b0
  clear s0 b0
  go_wp2_with fail
  refine (mksteps_is p b 0 _ _ ⟨#[112]⟩ 5 true 0 w0 (by decide) S0.out (by omega) mkAns1 mkNext1).mono ?_
  rintro e w1 ⟨rfl, s1, g1⟩
  have S1 := Lib.hid s1; have B1 := Lib.hid (mk_bel B0.out g1 B0.out.size h2)
  clear s1 g1
  go_wp2_with fail
  refine (mksteps_is p b 1 _ _ ⟨#[112]⟩ 5 false 0 w1 (by decide) S1.out (by omega) mkAns2 mkNext2).mono ?_
  rintro e w2 ⟨rfl, s2, g2⟩
  have S2 := Lib.hid s2; have B2 := Lib.hid (mk_bel B1.out g2 B1.out.size h2)
  clear s2 g2
  go_wp2_with fail
  refine (mksteps_is p b 2 _ _ ⟨#[112]⟩ 4 false 0 w2 (by decide) S2.out (by omega) mkAns3 mkNext3).mono ?_
  rintro e w3 ⟨rfl, s3, g3⟩
  have S3 := Lib.hid s3; have B3 := Lib.hid (mk_bel B2.out g3 B2.out.size h2)
  clear s3 g3
  go_wp2_with fail
  refine (mksteps_is p b 3 _ _ ⟨#[113]⟩ 0 true 0 w3 (by decide) S3.out (by omega) mkAns4 mkNext4).mono ?_
  rintro e w4 ⟨rfl, s4, g4⟩
  have S4 := Lib.hid s4; have B4 := Lib.hid (mk_bel B3.out g4 B3.out.size h2)
  clear s4 g4
  go_wp2_with fail
  refine (mksteps_is p b 4 _ _ ⟨#[80]⟩ 1 false 2 w4 (by decide) S4.out (by omega) mkAns5 mkNext5).mono ?_
  rintro e w5 ⟨rfl, s5, g5⟩
  have S5 := Lib.hid s5; have B5 := Lib.hid (mk_bel B4.out g5 B4.out.size h2)
  clear s5 g5
  go_wp2_with fail
  refine (mksteps_is p b 5 _ _ ⟨#[112]⟩ (-1) false 2 w5 (by decide) S5.out (by omega) mkAns6 mkNext6).mono ?_
  rintro e w6 ⟨rfl, s6, g6⟩
  have S6 := Lib.hid s6; have B6 := Lib.hid (mk_bel B5.out g6 B5.out.size h2)
  clear s6 g6
  go_wp2_with fail
  refine (mksteps_is p b 6 _ _ ⟨#[112]⟩ 9007199254740992 false 2 w6 (by decide) S6.out (by omega) mkAns7 mkNext7).mono ?_
  rintro e w7 ⟨rfl, s7, g7⟩
  have S7 := Lib.hid s7; have B7 := Lib.hid (mk_bel B6.out g7 B6.out.size h2)
  clear s7 g7
  go_wp2_with fail
  have hfr := mkfresh_any p b 7 mkD2 ⟨#[112]⟩ 6 w7 (by decide) S7.out (by omega)
  rw [mkAns8] at hfr
  refine hfr.mono ?_
  rintro e w8 ⟨rfl, s8, b8⟩
  have S8 := Lib.hid s8; have B8 := Lib.hid (B7.out.trans (b8.mono B7.out.size))
  clear s8 b8 hfr
  go_wp2_with fail
  refine (mkload_two _ (some ⟨w8.heap.size, 0, none⟩) 2 ⟨#[113]⟩ ⟨#[112]⟩ 1 1 (by omega) (lay_new w8 (mkV [(⟨#[113]⟩, 1), (⟨#[112]⟩, 1)]) 38) mkMay3 mkMay1 (by decide) (by decide) (by kernel_rfl)).mono ?_
  rintro e w9 ⟨rfl, b9⟩
  have b9' := ((Below.refl _ w8).alloc (Nat.le_refl _) (.cells #[.string ⟨#[113]⟩, .int .i64 1, .string ⟨#[112]⟩, .int .i64 1] 38)).trans (b9.mono (by rw [World.size_alloc]; omega))
  have S9 := Lib.hid (S8.out.below b9'); have B9 := Lib.hid (B8.out.trans (b9'.mono B8.out.size))
  clear b9 b9'
  go_wp2_with fail
  refine (mkload_two _ (some ⟨w9.heap.size, 0, none⟩) 2 ⟨#[112]⟩ ⟨#[112]⟩ 1 2 (by omega) (lay_new w9 (mkV [(⟨#[112]⟩, 1), (⟨#[112]⟩, 2)]) 38) mkMay1 mkMay2 (by decide) (by decide) (by kernel_rfl)).mono ?_
  rintro e wa ⟨rfl, ba⟩
  have ba' := ((Below.refl _ w9).alloc (Nat.le_refl _) (.cells #[.string ⟨#[112]⟩, .int .i64 1, .string ⟨#[112]⟩, .int .i64 2] 38)).trans (ba.mono (by rw [World.size_alloc]; omega))
  have Sa := Lib.hid (S9.out.below ba'); have Ba := Lib.hid (B9.out.trans (ba'.mono B9.out.size))
  clear ba ba'
  go_wp2_with fail
  refine (mkload_nil wa).mono ?_
  rintro e wb ⟨pn, bn, rfl, sn, bb, n1, n2⟩
  have Sb := Lib.hid (Sa.out.below bb); have Bb := Lib.hid (Ba.out.trans (bb.mono Ba.out.size)); have SN := Lib.hid sn
  clear bb sn
  go_wp2_with fail
  refine (mklist_any p b 7 mkD2 wb Sb.out (by omega) (by decide +kernel)).mono ?_
  rintro e wc ⟨v, ss, rfl, hp, hrow, bc⟩
  have hl := mkD2_list (mkstr_keys Sb.out.map) hp
  have hlen : ss.length = 2 := by rw [hp.length_eq]; kernel_rfl
  rw [hl, hlen] at hrow
  obtain ⟨A, c, rfl, hc1, hc2⟩ := yown_slice hrow
  have hlay := Lay.of_own hrow (Nat.le_refl _)
  have SNc := Lib.hid (SN.out.below bc); have Bc := Lib.hid (Bb.out.trans (bc.mono Bb.out.size)); have HLAY := Lib.hid hlay
  clear hrow bc hlay hp hl hlen
  go_wp2_with fail
  have bz := (Below.refl _ wc).alloc (Nat.le_refl _) (.cells #[.string ⟨#[112]⟩, .int .i64 5, .string ⟨#[113]⟩, .int .i64 0] 38)
  refine (mkeq_any _ A (some ⟨wc.heap.size, 0, none⟩) 2 c 2 2 [(⟨#[112]⟩, 5), (⟨#[113]⟩, 0)] [(⟨#[112]⟩, 5), (⟨#[113]⟩, 0)] (by unfold maxLen; omega) (by unfold maxLen; omega) rfl rfl ((HLAY.out.below bz).more bz.size) (lay_new wc (mkV [(⟨#[112]⟩, 5), (⟨#[113]⟩, 0)]) 38)).mono ?_
  rw [decide_eq_true rfl]
  rintro e wd ⟨rfl, bd⟩
  have bd' := bz.trans (bd.mono bz.size)
  have SNd := Lib.hid (SNc.out.below bd'); have Bd := Lib.hid (Bc.out.trans (bd'.mono Bc.out.size))
  clear bz bd bd'
  go_wp2_with fail
  refine (mklist_any pn bn 0 (.map []) wd SNd.out (by omega) (by decide +kernel)).mono ?_
  rintro e we ⟨v, ss2, rfl, hp2, hrow2, be⟩
  have hl2 : ss2.length = 0 := by rw [hp2.length_eq]; rfl
  rw [hl2] at hrow2
  obtain ⟨A2, c2, rfl, hc12, hc22⟩ := yown_slice hrow2
  have Be := Lib.hid (Bd.out.trans (be.mono Bd.out.size))
  clear hrow2 be hp2 hl2
  go_wp2_with fail
  go_ret
  exact ⟨rfl, Be.out⟩
end Go.Proofs.YtoapigiapcmjnaaDoor
set_option linter.unusedSimpArgs false
namespace Go.Ms
open Go.RowKit Go.Lib Go.Maps
/-- What a map has of partitions: where nothing is, the mark is 0. -/
structure MkIs {H : Type} (N : Nat) (nm : Nat → ByteArray) (D : DataW H) (had : Nat → Bool) (most : Nat → Int) : Prop where
  means : Means N nm D had most
  zero : ∀ j, had j = false → most j = 0
structure NmOk (N : Nat) (nm : Nat → ByteArray) : Prop where
  le : N ≤ 16
  ok : ∀ k, k < N → isNm (nm k).data.toList = true
  up : NmUp N nm
theorem MkIs.nil {H : Type} (N : Nat) (nm : Nat → ByteArray) : MkIs (H := H) N nm (.map []) (fun _ => false) (fun _ => 0) := ⟨Means.nil N nm _, fun _ _ => rfl⟩
variable {H : Type} {N : Nat} {nm : Nat → ByteArray} {D : DataW H} {had : Nat → Bool} {most : Nat → Int}
theorem MkIs.ans (h : MkIs N nm D had most) (hn : NmOk N nm) {k : Nat} (hk : k < N) {o : Int} (h0 : 0 ≤ o) (h1 : o ≤ 9007199254740991) : mkAns D (nm k) o = (mkFresh had most k o, 0) := by
  have ha := hn.up.apart
  have hm : mkMay (nm k) o = true := by
    unfold mkMay
    rw [hn.ok k hk]
    simp [h0, h1]
  have hh := h.means.has_at ha hk
  unfold mkAns mkFresh
  rw [if_neg (by rw [hm]; simp), hh]
  cases hd : had k with
  | false =>
    have hsz : ¬ Maps.size D = 16 := by
      rw [h.means.size]
      have := mkCnt_room hk hd
      have := hn.le
      omega
    rw [if_neg (fun e => hsz e.2), if_neg (fun e => by cases e.1)]
    rfl
  | true =>
    have hat := mkAt_of (h.means.at_ k hk hd)
    rw [if_neg (fun e => by cases e.1), hat]
    by_cases hle : o ≤ most k
    · rw [if_pos ⟨rfl, hle⟩]
      simp; omega
    · rw [if_neg (fun e => hle e.2)]
      simp; omega
theorem MkIs.next (h : MkIs N nm D had most) (hn : NmOk N nm) {k : Nat} (hk : k < N) {o : Int} (h0 : 0 ≤ o) (h1 : o ≤ 9007199254740991) :
    MkIs N nm (mkNext D (nm k) o) (mkSet had k true) (mkSet most k (max (most k) o)) := by
  have ha := hn.up.apart
  have hz : ∀ j, mkSet had k true j = false → mkSet most k (max (most k) o) j = 0 := fun j hj => by
    by_cases e : j = k
    · subst e; rw [mkSet_same] at hj; cases hj
    · rw [mkSet_other _ e] at hj ⊢; exact h.zero j hj
  refine ⟨?_, hz⟩
  unfold mkNext
  rw [h.ans hn hk h0 h1]
  unfold mkFresh
  cases hd : had k with
  | false =>
    have hm : max (most k) o = o := by rw [h.zero k hd]; omega
    rw [hm]
    exact h.means.put ha hk o
  | true =>
    by_cases hlt : most k < o
    · rw [if_pos (by simp [hlt])]
      have hm : max (most k) o = o := by omega
      rw [hm]
      exact h.means.put ha hk o
    · rw [if_neg (by simp [hlt])]
      have hm : max (most k) o = most k := by omega
      have e1 : mkSet had k true = had := by
        funext j
        unfold mkSet
        split
        · rename_i e; rw [e, hd]
        · rfl
      have e2 : mkSet most k (most k) = most := by
        funext j
        unfold mkSet
        split
        · rename_i e; rw [e]
        · rfl
      rw [hm, e1, e2]
      exact h.means
/-- The list of partitions' marks. -/
def mkMarks (nm : Nat → ByteArray) (had : Nat → Bool) (most : Nat → Int) : Nat → List (ByteArray × Int)
  | 0 => []
  | n + 1 => mkMarks nm had most n ++ (if had n = true then [(nm n, most n)] else [])
theorem mkMarks_eq (h : MkIs N nm D had most) : ∀ n, n ≤ N → (mkList nm had n).map (mkPair D) = mkMarks nm had most n
  | 0, _ => rfl
  | n + 1, hn => by
    rw [mkList, mkMarks, List.map_append, mkMarks_eq h n (by omega)]
    cases hd : had n with
    | false => rfl
    | true =>
      have hat := h.means.at_ n (by omega) hd
      have e : (⟨(nm n).data.toList.toArray⟩ : ByteArray) = nm n := by
        cases hb : nm n
        rfl
      show _ ++ [mkPair D (nm n).data.toList] = _
      unfold mkPair
      rw [e, mkAt_of hat]
      rfl
theorem mkMarks_len : ∀ n, (mkMarks nm had most n).length = mkCnt n had
  | 0 => rfl
  | n + 1 => by
    rw [mkMarks, mkCnt, List.length_append, mkMarks_len n]
    split <;> simp
/-- A block of N cells, by a function. -/
def arrF (N : Nat) (f : Nat → Value) : Array Value := ((List.range N).map f).toArray
theorem arrF_at {f : Nat → Value} {k : Nat} (h : k < N) : (arrF N f)[k]? = some (f k) := by
  unfold arrF
  simp [h]
theorem arrF_set {f : Nat → Value} {k : Nat} (h : k < N) (u : Value) : (arrF N f).setIfInBounds k u = arrF N (mkSet f k u) := by
  apply Array.ext'
  unfold arrF
  rw [Array.toList_setIfInBounds]
  apply List.ext_getElem?
  intro i
  rw [List.getElem?_set]
  simp only [List.getElem?_map, List.length_map, List.length_range]
  by_cases e : k = i
  · subst e
    rw [if_pos rfl, if_pos h]
    simp [List.getElem?_range h, mkSet_same]
  · rw [if_neg e]
    by_cases hi : i < N
    · simp [List.getElem?_range hi, mkSet_other _ (Ne.symm e)]
    · have : (List.range N)[i]? = none := List.getElem?_eq_none (by simp; omega)
      rw [this]; rfl
theorem block_setF {w : World} {b k : Nat} {f : Nat → Value} {T : TypeId} (h : w.heap[b]? = some (.cells (arrF N f) T (0, 0))) (hk : k < N) (u : Value) : (w.setCell ⟨b, k, none⟩ u).heap[b]? = some (.cells (arrF N (mkSet f k u)) T (0, 0)) := by
  rw [← arrF_set hk]
  simp [World.setCell, Array.getElem?_modify, h]
theorem mkSet_map {α β : Type} (g : α → β) (f : Nat → α) (k : Nat) (x : α) : (fun j => g (mkSet f k x j)) = mkSet (fun j => g (f j)) k (g x) := by
  funext j
  unfold mkSet
  split <;> rfl
end Go.Ms
