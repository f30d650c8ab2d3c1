/- Marks: MarksBack, walked. -/
import Derived.Test.YtoapigiapcmjnaaDoorZm9
import Derived.Test.YtoapigiapcmjnaaDoorZQc
import Derived.Test.YtoapigiapcmjnaaDoorZQf
set_option linter.unusedVariables false
set_option linter.unusedSimpArgs false
namespace Go.Ms
open Go.RowKit Go.Lib Go.Maps
/-- Offsets that rise. -/
def bkRow : Int → List Int → List Int
  | _, [] => []
  | a, x :: r => (a + 1 + x % 1000) :: bkRow (a + 1 + x % 1000) r
def bkEnd : Int → List Int → Int
  | a, [] => a
  | a, x :: r => bkEnd (a + 1 + x % 1000) r
theorem bkRow_snoc : ∀ (l : List Int) (a x : Int), bkRow a (l ++ [x]) = bkRow a l ++ [bkEnd a l + 1 + x % 1000]
  | [], a, x => rfl
  | y :: r, a, x => by show _ :: bkRow _ (r ++ [x]) = _; rw [bkRow_snoc r]; rfl
theorem bkEnd_snoc : ∀ (l : List Int) (a x : Int), bkEnd a (l ++ [x]) = bkEnd a l + 1 + x % 1000
  | [], a, x => rfl
  | y :: r, a, x => bkEnd_snoc r _ x
theorem bkRow_len : ∀ (l : List Int) (a : Int), (bkRow a l).length = l.length
  | [], a => rfl
  | y :: r, a => by show (bkRow _ r).length + 1 = _; rw [bkRow_len r]; rfl
theorem bkEnd_le : ∀ (l : List Int) (a : Int), a ≤ bkEnd a l ∧ bkEnd a l ≤ a + 1000 * l.length
  | [], a => ⟨Int.le_refl _, by simp [bkEnd]⟩
  | y :: r, a => by
    have := bkEnd_le r (a + 1 + y % 1000)
    show a ≤ bkEnd _ r ∧ bkEnd _ r ≤ _
    rw [List.length_cons]
    omega
theorem bkRow_bound : ∀ (l : List Int) (a : Int) (i : Nat) (x : Int), (bkRow a l)[i]? = some x → a < x ∧ x ≤ a + 1000 * l.length
  | [], a, i, x, h => by simp [bkRow] at h
  | y :: r, a, 0, x, h => by
    obtain rfl : a + 1 + y % 1000 = x := by simpa [bkRow] using h
    rw [List.length_cons]; omega
  | y :: r, a, i + 1, x, h => by
    have := bkRow_bound r (a + 1 + y % 1000) i x (by simpa [bkRow] using h)
    rw [List.length_cons]; omega
theorem bkRow_up : ∀ (l : List Int) (a : Int) (i j : Nat) (x y : Int), i < j → (bkRow a l)[i]? = some x → (bkRow a l)[j]? = some y → x < y
  | [], a, i, j, x, y, _, h, _ => by simp [bkRow] at h
  | z :: r, a, 0, j + 1, x, y, _, h, k => by
    obtain rfl : a + 1 + z % 1000 = x := by simpa [bkRow] using h
    exact (bkRow_bound r _ j y (by simpa [bkRow] using k)).1
  | z :: r, a, i + 1, j + 1, x, y, hij, h, k => bkRow_up r _ i j x y (by omega) (by simpa [bkRow] using h) (by simpa [bkRow] using k)
def nmP (_ : Nat) : ByteArray := ⟨#[112]⟩
theorem nmP_ok : NmOk 1 nmP := ⟨by omega, fun k _ => by show isNm [112] = true; decide +kernel, fun i j hij hj => by omega⟩
theorem nmP_size : ∀ k, k < 1 → (nmP k).size ≤ 100000 := fun k _ => by show (1 : Nat) ≤ 100000; omega
/-- What stands when the first j offsets have been fresh. -/
structure BackSt {H : Type} (P : Program) (tS tI tM : TypeId) (R : List Int) (p b m j : Nat) (D : DataW H) (wr : World) : Prop where
  st : MkSt P tS tI tM p b m D wr
  is_ : ∃ had most, MkIs 1 nmP D had most ∧ had 0 = decide (0 < j) ∧ ∀ x, 0 < j → R[j - 1]? = some x → most 0 = x
  le : j ≤ R.length
theorem BackSt.below {H : Type} {P : Program} {tS tI tM : TypeId} {R : List Int} {p b m j : Nat} {D : DataW H} {wr w' : World} (h : BackSt P tS tI tM R p b m j D wr) (hb : Below wr.heap.size wr w') : BackSt P tS tI tM R p b m j D w' := ⟨h.st.below hb, h.is_, h.le⟩
theorem BackSt.kept {H : Type} {P : Program} {tS tI tM : TypeId} {R : List Int} {p b m j : Nat} {D : DataW H} {wr w' : World} {row : Option Nat} (h : BackSt P tS tI tM R p b m j D wr) (hg : wr.grownBy w' row) (hp : some p ≠ row) (hb : some b ≠ row) : BackSt P tS tI tM R p b m j D w' := ⟨h.st.kept hg hp hb, h.is_, h.le⟩
end Go.Ms
namespace Go.Proofs.YtoapigiapcmjnaaDoor
open Go.RowKit Go.Ms Go.Lib Go.Maps
theorem i64_info : (Tryd.prog.info? 2).map (fun i => (i.zero, i.size, i.bytes)) = some (some (.int .i64 0), 1, 8) := by kernel_rfl
abbrev BackSt0 {H : Type} (R : List Int) (p b m j : Nat) (D : DataW H) (wr : World) : Prop := BackSt Tryd.prog 9 2 50 R p b m j D wr
/-- A step at one of the offsets. -/
theorem bkstep_at {H : Type} (l : List Int) (hl : l.length ≤ 60) (p b m j k : Nat) (D : DataW H) (x : Int) (W : World) (hst : BackSt0 (bkRow (-1) l) p b m j D W) (hm : m < 1000000) (hk : k ≤ j) (hx : (bkRow (-1) l)[k]? = some x) :
    Calls Tryd.prog 11 #[.pointer (some ⟨p, 0, none⟩), .string ⟨#[112]⟩, .int .i64 x] W fun e w' => e = .returned (.tuple #[.bool (decide (k = j)), .int .i64 0]) ∧
      BackSt0 (bkRow (-1) l) p b (m + 1) (if k = j then j + 1 else j) (mkNext D ⟨#[112]⟩ x) w' ∧ W.grownBy w' (some b) := by
  obtain ⟨had, most, hi, h0, h1⟩ := hst.is_
  have hb := bkRow_bound l (-1) k x hx
  have h := mkstep_at nmP_ok nmP_size p b m D had most 0 x W hst.st hi hm (by omega) (by omega) (by omega)
  have hn := hi.next nmP_ok (k := 0) (by omega) (o := x) (by omega) (by omega)
  have hf : mkFresh had most 0 x = decide (k = j) := by
    unfold mkFresh
    rw [h0]
    by_cases hj : 0 < j
    · have hjl : j - 1 < (bkRow (-1) l).length := by have := hst.le; omega
      have hy := List.getElem?_eq_getElem hjl
      rw [h1 _ hj hy]
      by_cases e : k = j
      · subst e
        have := bkRow_up l (-1) (k - 1) k _ _ (by omega) hy hx
        simp [hj, this]
      · have hle : ¬ (bkRow (-1) l)[j - 1] < x := by
          rcases Nat.lt_or_ge k (j - 1) with hlt | hge
          · have := bkRow_up l (-1) k (j - 1) _ _ hlt hx hy; omega
          · obtain rfl : k = j - 1 := by omega
            rw [hx] at hy
            have := Option.some.inj hy
            omega
        simp [hj, hle, e]
    · have hj0 : j = 0 := by omega
      subst hj0
      obtain rfl : k = 0 := by omega
      simp
  rw [hf] at h
  refine h.mono ?_
  rintro e w' ⟨he, h2, h3⟩
  refine ⟨he, ⟨h2, ⟨_, _, hn, ?_, ?_⟩, ?_⟩, h3⟩
  · rw [mkSet_same]
    split <;> simp
    omega
  · intro y hy hy2
    rw [mkSet_same]
    split at hy2
    · rename_i e
      subst e
      rw [Nat.add_sub_cancel, hx] at hy2
      obtain rfl := Option.some.inj hy2
      by_cases hj : 0 < k
      · have hprev : ∃ z, (bkRow (-1) l)[k - 1]? = some z := ⟨_, List.getElem?_eq_getElem (by have := (List.getElem?_eq_some_iff.1 hx).1; omega)⟩
        obtain ⟨z, hz⟩ := hprev
        have := bkRow_up l (-1) (k - 1) k _ _ (by omega) hz hx
        rw [h1 z hj hz]
        omega
      · have := hi.zero 0 (by rw [h0]; simp; omega)
        omega
    · rename_i e
      rw [h1 y (by omega) hy2]
      rcases Nat.lt_or_ge k (j - 1) with hlt | hge
      · have := bkRow_up l (-1) k (j - 1) _ _ hlt hx hy2; omega
      · obtain rfl : k = j - 1 := by omega
        rw [hx] at hy2
        obtain rfl := Option.some.inj hy2
        omega
  · have := (List.getElem?_eq_some_iff.1 hx).1
    have := hst.le
    split <;> omega
set_option maxRecDepth 100000 in
set_option maxHeartbeats 4000000 in
theorem marksBack_walk (w : World) (A : Option Addr) (n cap : Nat) (l : List Int) (B : Option Addr) (nb capb : Nat) (back : List Int) (hn : n = l.length) (hn' : n ≤ maxLen) (h64 : ∀ x ∈ l, I64 x) (hA : Lay w w.heap.size A (intV l)) (hb : nb = back.length) (hb' : nb ≤ maxLen) (k64 : ∀ x ∈ back, I64 x) (hB : Lay w w.heap.size B (intV back)) :
    Calls Tryd.prog 4 #[.slice A n cap, .slice B nb capb] w fun e w' => e = .returned (.bool true) ∧ Below w.heap.size w w' := by
  unfold maxLen at hn' hb'
  obtain ⟨i0, hi, hz0, hz1, hz2⟩ := info_parts i64_info
  have HN := Lib.hid hn; have H64 := Lib.hid h64; have HA := Lib.hid hA; have HNB := Lib.hid hb; have K64 := Lib.hid k64; have HB := Lib.hid hB
  clear hn h64 hA hb k64 hB
  go_enter Tryd.func4, Tryd.ntmps4
  go_wp2_with fail
  refine (mknew_any w).mono ?_
  rintro e w1 ⟨p, b, rfl, s1, b1, hp1, hb1⟩
  have hpl := (Array.getElem?_eq_some_iff.1 s1.box).1
  have hbl := s1.map.lt
  have S1 := Lib.hid s1; have B1 := Lib.hid b1
  clear s1 b1
  go_wp2_with fail
  go_loopw [6, 8, 9] (fun r a i wr => ∃ k : Nat, i = .int .i64 k ∧ k ≤ n ∧ k ≤ 60 ∧ a = .int .i64 (bkEnd (-1) (l.take k)) ∧ wr.ownsRow w1.heap.size 2 1 r k (intV (bkRow (-1) (l.take k))) ∧ Below w1.heap.size w1 wr) (fun _ _ i _ => 100 - (RowKit.intOf i).toNat)
  case atStart => exact ⟨0, rfl, by omega, by omega, rfl, World.ownsRow_nil _ _ _ _, Below.refl _ _⟩
  case round =>
    obtain ⟨k, rfl, hk, hk2, rfl, hown, hbw⟩ := hrel
    obtain ⟨A1, c1, rfl, hc1, hcm1⟩ := yown_slice hown
    have HOW := Lib.hid hown; have HBW := Lib.hid hbw
    clear hown hbw
    obtain ⟨a, ha⟩ : ∃ a, bkEnd (-1) (l.take k) = a := ⟨_, rfl⟩
    have hab := bkEnd_le (l.take k) (-1)
    rw [ha] at hab
    have hlt : (l.take k).length = k := by rw [List.length_take]; have := HN.out; omega
    rw [hlt] at hab
    rw [ha]
    by_cases hlk : k < n ∧ k < 60
    · obtain ⟨d1, d2⟩ := hlk
      have hki : (k : Int) < n := by omega
      have hki2 : (k : Int) < 60 := by omega
      obtain ⟨x, hx⟩ : ∃ c, l[k]? = some c := ⟨_, List.getElem?_eq_getElem (by rw [← HN.out]; omega)⟩
      obtain ⟨g, o, rfl, hg, h1⟩ := HA.out.num hx
      obtain ⟨x1, x2⟩ := H64.out _ (List.mem_of_getElem? hx)
      have htk : l.take (k + 1) = l.take k ++ [x] := by rw [List.take_add_one, hx]; rfl
      have hrs := bkRow_snoc (l.take k) (-1) x
      have hes := bkEnd_snoc (l.take k) (-1) x
      rw [← htk, ha] at hrs hes
      have hbx := fun W => bringI_any x 1000 x1 x2 (by omega) (by omega) W
      obtain ⟨z, hz⟩ : ∃ z, x % 1000 = z := ⟨_, rfl⟩
      have hz3 : 0 ≤ z ∧ z < 1000 := by omega
      rw [hz] at hbx hrs hes
      have g1 : wr.cell? ⟨g, o + k, none⟩ = some (.int .i64 x) := (HBW.out.cell (by show g < _; have := B1.out.size; omega)).trans ((B1.out.cell hg).trans h1)
      have e1 : IntKind.i64.wrap (a + 1) = a + 1 := IntWalk.i64_in _ ⟨by omega, by omega⟩
      have e2 : IntKind.i64.wrap (a + 1 + z) = a + 1 + z := IntWalk.i64_in _ ⟨by omega, by omega⟩
      have HBX := Lib.hid hbx; have HRS := Lib.hid hrs; have HES := Lib.hid hes
      clear hx hg h1 x1 x2 htk hrs hes hbx hz ha
      go_wp2_with fail
      refine (HBX.out _).mono ?_
      rintro e w3 ⟨rfl, b3⟩
      have hown3 := own_below HOW.out b3
      have hnew : Lay (w3.alloc (.cells #[.int .i64 (a + 1 + z)] 2)) (w3.alloc (.cells #[.int .i64 (a + 1 + z)] 2)).heap.size (some ⟨w3.heap.size, 0, none⟩) (intV [a + 1 + z]) := lay_new w3 [.int .i64 (a + 1 + z)] 2
      have hB3 := HBW.out.trans (b3.mono HBW.out.size)
      have hO4 := own_below hown3 ((Below.refl w3.heap.size w3).alloc (Nat.le_refl _) (.cells #[.int .i64 (a + 1 + z)] 2))
      have B3 := Lib.hid hB3; have O4 := Lib.hid hO4; have HNew := Lib.hid hnew
      have hsz3 : w1.heap.size ≤ (w3.alloc (.cells #[.int .i64 (a + 1 + z)] 2)).heap.size := by have := hB3.size; rw [World.size_alloc]; omega
      clear hown3 hnew hB3 hO4 b3
      go_wp2_with (first
        | (at_builtin; refine wpList_append_lay rfl (.tmp 34) (.tmp 36) _ rfl w1.heap.size 2 i0 _ 1 8 Tryd.underlying41 hi hz0 hz1 hz2 rfl (by omega) _ _ _ rfl O4.out _ (some ⟨w3.heap.size, 0, none⟩) 1 1 (intV [a + 1 + z]) rfl rfl HNew.out (intV_one _) (by unfold maxLen; omega) (by omega) hsz3 ?_; intro v5 w5 hown5 hg5; have HO5 := Lib.hid hown5; have HG5 := Lib.hid hg5; clear hown5 hg5))
      have hz4 : w1.heap.size ≤ (w3.alloc (.cells #[.int .i64 (a + 1 + z)] 2)).heap.size := hsz3
      have hB5 := own_grown O4.out (B3.out.trans ((Below.refl _ w3).alloc (Nat.le_refl _) _ |>.mono B3.out.size)) hz4 (Nat.le_refl _) HG5.out
      have HB5 := Lib.hid hB5
      clear hB5
      go_roundw
      case rel =>
        refine ⟨k + 1, by go_num, by omega, by omega, by rw [HES.out], ?_, HB5.out⟩
        rw [HRS.out, intV_app]
        exact HO5.out
      case measure => simp [RowKit.intOf]; omega
    · have hex : ¬ k < n ∨ (k < n ∧ ¬ k < 60) := by omega
      obtain ⟨L, hL⟩ : ∃ L, l.take k = L := ⟨_, rfl⟩
      rw [hL] at HOW hlt
      have hLl : L.length ≤ 60 := by omega
      obtain ⟨R, hR⟩ : ∃ R, bkRow (-1) L = R := ⟨_, rfl⟩
      have hRl : R.length = k := by rw [← hR, bkRow_len]; exact hlt
      have hstep := fun (m j k2 : Nat) (D : DataW Unit) (x : Int) (W : World) => bkstep_at L hLl p b m j k2 D x W
      rw [hR] at HOW hstep
      have hlay := Lay.of_own HOW.out (Nat.le_refl wr.heap.size)
      have hcell : ∀ (t : Nat) x, R[t]? = some x → ∃ g o, A1 = some ⟨g, o, none⟩ ∧ g < wr.heap.size ∧ b < g ∧ p < g ∧ wr.cell? ⟨g, o + t, none⟩ = some (.int .i64 x) := fun t x hx => by
        obtain ⟨g, o, e, h1, h2⟩ := hlay.num hx
        have := (World.ownsRow.lt HOW.out g (by rw [e]; rfl)).1
        exact ⟨g, o, e, h1, by omega, by omega, h2⟩
      have hst0 : BackSt0 R p b 0 0 (.map [] : DataW Unit) wr := ⟨⟨(HBW.out.block p hpl).trans S1.out.box, S1.out.map.kept (row := none) ⟨HBW.out.os, HBW.out.tape, HBW.out.output, HBW.out.size, fun k hk _ => HBW.out.block k hk⟩ (by simp), S1.out.ne⟩, ⟨_, _, MkIs.nil 1 nmP, by simp, fun x h => absurd h (by omega)⟩, by omega⟩
      have hwb := HBW.out.size
      have HSTEP := Lib.hid hstep; have HCELL := Lib.hid hcell; have HST0 := Lib.hid hst0; have HWK := Lib.hid (fun W => mkworks_any W)
      have BWw := Lib.hid (B1.out.trans (HBW.out.mono B1.out.size))
      clear hL hR hstep hlay hcell hst0 hab ha
      have hkm : k ≤ maxLen := by unfold maxLen; omega
      rcases hex with c1 | ⟨c1, c2⟩
      · have hki : ¬ (k : Int) < n := by omega
        go_wp2_with fail
        rename World => WR
        go_loopw [7, 10, 11] (fun fr kk ii W => ∃ (k2 i2 j m : Nat) (D : DataW Unit), kk = .int .i64 k2 ∧ ii = .int .i64 i2 ∧ k2 ≤ j ∧ i2 ≤ 60 + k2 ∧ m ≤ i2 ∧ BackSt0 R p b m j D W ∧ W.ownsRow WR.heap.size 2 1 fr j (intV (R.take j)) ∧ Keep1 WR.heap.size b WR W) (fun _ kk ii _ => (60 - (RowKit.intOf ii).toNat) * 61 + (k - (RowKit.intOf kk).toNat))
        case atStart => exact ⟨0, 0, 0, 0, _, rfl, rfl, by omega, by omega, by omega, HST0.out, World.ownsRow_nil _ _ _ _, Keep1.refl _ _ _⟩
        case round =>
          obtain ⟨k2, i2, j, m, D, rfl, rfl, hkj, hik, hmi, hst, hfr, hkp⟩ := hrel
          obtain ⟨A3, c3, rfl, hc3, hcm3⟩ := yown_slice hfr
          have HS := Lib.hid hst; have HFR := Lib.hid hfr; have HKP := Lib.hid hkp
          have hjk : j ≤ k := by have := hst.le; omega
          clear hst hfr hkp
          by_cases hlk : k2 < k
          · have hki3 : (k2 : Int) < k := by omega
            obtain ⟨x, hx⟩ : ∃ c, R[k2]? = some c := ⟨_, List.getElem?_eq_getElem (by omega)⟩
            obtain ⟨g, o, rfl, hg, hbg, hpg, hcx⟩ := HCELL.out k2 x hx
            have hblk := HKP.out.block g hg (by omega)
            have gx : wr.cell? ⟨g, o + k2, none⟩ = some (.int .i64 x) := by rw [← hcx]; simp [World.cell?, hblk]
            have hs := HSTEP.out m j k2 D x wr HS.out (by omega) hkj hx
            have hcd : ¬ i2 < nb ∨ (i2 < nb ∧ ¬ i2 < 60) ∨ (i2 < nb ∧ i2 < 60 ∧ ¬ k2 + 1 < k) ∨ (i2 < nb ∧ i2 < 60 ∧ k2 + 1 < k) := by omega
            have HX := Lib.hid hx; have HBK := Lib.hid hblk; have HCX := Lib.hid hcx
            by_cases e : k2 = j
            · subst e
              rw [decide_eq_true rfl, if_pos rfl] at hs
              have HSS := Lib.hid hs
              clear hs hx hblk hcx
              go_wp2_with fail
              refine HSS.out.mono ?_
              rintro e w5 ⟨rfl, s5, g5⟩
              have g5x : w5.cell? ⟨g, o + k2, none⟩ = some (.int .i64 x) := by
                rw [← HCX.out]
                have := (g5.block g (by have := HKP.out.size; omega) (by simp; omega)).trans HBK.out
                simp [World.cell?, this]
              have K5 := Lib.hid (HKP.out.trans (⟨g5.os, g5.tape, g5.output, g5.size, fun t ht hne => g5.block t (by have := HKP.out.size; omega) (by simp; omega)⟩ : Keep1 WR.heap.size b wr w5))
              have F5 := Lib.hid (World.ownsRow.kept HFR.out g5 (.inr (fun e => by have := (World.ownsRow.lt HFR.out _ e).1; omega)))
              have S5 := Lib.hid s5; have G5 := Lib.hid g5
              clear s5 g5
              have bal := (Below.refl w5.heap.size w5).alloc (Nat.le_refl _) (.cells #[.int .i64 x] 2)
              have hnew : Lay (w5.alloc (.cells #[.int .i64 x] 2)) (w5.alloc (.cells #[.int .i64 x] 2)).heap.size (some ⟨w5.heap.size, 0, none⟩) (intV [x]) := lay_new w5 [.int .i64 x] 2
              have hO6 := own_below F5.out bal
              have hz6 : WR.heap.size ≤ (w5.alloc (.cells #[.int .i64 x] 2)).heap.size := by have := K5.out.size; rw [World.size_alloc]; omega
              have O6 := Lib.hid hO6; have HNew := Lib.hid hnew; have BAL := Lib.hid bal
              clear hO6 hnew bal
              rcases hcd with q | q | q | q
              · have q1 : ¬ (i2 : Int) < nb := by omega
                go_wp2_with (first
                  | (at_builtin; refine wpList_append_lay rfl (.tmp 56) (.tmp 61) _ rfl WR.heap.size 2 i0 _ 1 8 Tryd.underlying41 hi hz0 hz1 hz2 rfl (by omega) _ _ _ rfl O6.out _ (some ⟨w5.heap.size, 0, none⟩) 1 1 (intV [x]) rfl rfl HNew.out (intV_one _) (by unfold maxLen; omega) (by omega) hz6 ?_; intro v7 w7 hown7 hg7; have HO7 := Lib.hid hown7; have HG7 := Lib.hid hg7; have K7 := Lib.hid ((K5.out.trans (Keep1.below BAL.out K5.out.size)).trans (⟨hg7.os, hg7.tape, hg7.output, hg7.size, fun t ht hne => hg7.block t (by have := K5.out.size; rw [World.size_alloc]; omega) (fun e => by have := (World.ownsRow.lt O6.out t e.symm).1; omega)⟩ : Keep1 WR.heap.size b (w5.alloc (.cells #[.int .i64 x] 2)) w7)); clear hown7 hg7))
                have SN := Lib.hid ((S5.out.below BAL.out).kept HG7.out (fun e => by have := (World.ownsRow.lt O6.out p e.symm).1; omega) (fun e => by have := (World.ownsRow.lt O6.out b e.symm).1; omega))
                have FN : Hid (w7.ownsRow WR.heap.size 2 1 v7 (k2 + 1) (intV (R.take (k2 + 1)))) := Lib.hid (by rw [List.take_add_one, HX.out, Option.toList_some, intV_app]; exact HO7.out)
                have KN := K7
                go_roundw
                case rel => exact ⟨k2 + 1, i2 + 1, k2 + 1, m + 1, _, by go_num, by go_num, by omega, by omega, by omega, SN.out, FN.out, KN.out⟩
                case measure => simp [RowKit.intOf]; omega
              · have q1 : (i2 : Int) < nb := by omega
                have q2 : ¬ (i2 : Int) < 60 := by omega
                go_wp2_with (first
                  | (at_builtin; refine wpList_append_lay rfl (.tmp 56) (.tmp 61) _ rfl WR.heap.size 2 i0 _ 1 8 Tryd.underlying41 hi hz0 hz1 hz2 rfl (by omega) _ _ _ rfl O6.out _ (some ⟨w5.heap.size, 0, none⟩) 1 1 (intV [x]) rfl rfl HNew.out (intV_one _) (by unfold maxLen; omega) (by omega) hz6 ?_; intro v7 w7 hown7 hg7; have HO7 := Lib.hid hown7; have HG7 := Lib.hid hg7; have K7 := Lib.hid ((K5.out.trans (Keep1.below BAL.out K5.out.size)).trans (⟨hg7.os, hg7.tape, hg7.output, hg7.size, fun t ht hne => hg7.block t (by have := K5.out.size; rw [World.size_alloc]; omega) (fun e => by have := (World.ownsRow.lt O6.out t e.symm).1; omega)⟩ : Keep1 WR.heap.size b (w5.alloc (.cells #[.int .i64 x] 2)) w7)); clear hown7 hg7))
                have SN := Lib.hid ((S5.out.below BAL.out).kept HG7.out (fun e => by have := (World.ownsRow.lt O6.out p e.symm).1; omega) (fun e => by have := (World.ownsRow.lt O6.out b e.symm).1; omega))
                have FN : Hid (w7.ownsRow WR.heap.size 2 1 v7 (k2 + 1) (intV (R.take (k2 + 1)))) := Lib.hid (by rw [List.take_add_one, HX.out, Option.toList_some, intV_app]; exact HO7.out)
                have KN := K7
                go_roundw
                case rel => exact ⟨k2 + 1, i2 + 1, k2 + 1, m + 1, _, by go_num, by go_num, by omega, by omega, by omega, SN.out, FN.out, KN.out⟩
                case measure => simp [RowKit.intOf]; omega
              · have q1 : (i2 : Int) < nb := by omega
                have q2 : (i2 : Int) < 60 := by omega
                have q3 : ¬ ((k2 : Int) + 1) < k := by omega
                go_wp2_with (first
                  | (at_builtin; refine wpList_append_lay rfl (.tmp 56) (.tmp 61) _ rfl WR.heap.size 2 i0 _ 1 8 Tryd.underlying41 hi hz0 hz1 hz2 rfl (by omega) _ _ _ rfl O6.out _ (some ⟨w5.heap.size, 0, none⟩) 1 1 (intV [x]) rfl rfl HNew.out (intV_one _) (by unfold maxLen; omega) (by omega) hz6 ?_; intro v7 w7 hown7 hg7; have HO7 := Lib.hid hown7; have HG7 := Lib.hid hg7; have K7 := Lib.hid ((K5.out.trans (Keep1.below BAL.out K5.out.size)).trans (⟨hg7.os, hg7.tape, hg7.output, hg7.size, fun t ht hne => hg7.block t (by have := K5.out.size; rw [World.size_alloc]; omega) (fun e => by have := (World.ownsRow.lt O6.out t e.symm).1; omega)⟩ : Keep1 WR.heap.size b (w5.alloc (.cells #[.int .i64 x] 2)) w7)); clear hown7 hg7))
                have SN := Lib.hid ((S5.out.below BAL.out).kept HG7.out (fun e => by have := (World.ownsRow.lt O6.out p e.symm).1; omega) (fun e => by have := (World.ownsRow.lt O6.out b e.symm).1; omega))
                have FN : Hid (w7.ownsRow WR.heap.size 2 1 v7 (k2 + 1) (intV (R.take (k2 + 1)))) := Lib.hid (by rw [List.take_add_one, HX.out, Option.toList_some, intV_app]; exact HO7.out)
                have KN := K7
                go_roundw
                case rel => exact ⟨k2 + 1, i2 + 1, k2 + 1, m + 1, _, by go_num, by go_num, by omega, by omega, by omega, SN.out, FN.out, KN.out⟩
                case measure => simp [RowKit.intOf]; omega
              · have q1 : (i2 : Int) < nb := by omega
                have q2 : (i2 : Int) < 60 := by omega
                have q3 : ((k2 : Int) + 1) < k := by omega
                obtain ⟨y, hy⟩ : ∃ c, back[i2]? = some c := ⟨_, List.getElem?_eq_getElem (by rw [← HNB.out]; omega)⟩
                obtain ⟨gb, ob, rfl, hgb, hcb⟩ := HB.out.num hy
                obtain ⟨y1, y2⟩ := K64.out _ (List.mem_of_getElem? hy)
                have hbr := fun W => bringI_any y ((k2 : Int) + 1 + 1) y1 y2 (by omega) (by omega) W
                obtain ⟨u, hu⟩ : ∃ u : Nat, y % ((k2 : Int) + 1 + 1) = (u : Int) := ⟨(y % ((k2 : Int) + 1 + 1)).toNat, by have := Int.emod_nonneg y (b := (k2 : Int) + 1 + 1) (by omega); omega⟩
                have hu2 : u ≤ k2 + 1 := by have := Int.emod_lt_of_pos y (b := (k2 : Int) + 1 + 1) (by omega); omega
                rw [hu] at hbr
                have gyw : wr.cell? ⟨gb, ob + i2, none⟩ = some (.int .i64 y) := ((BWw.out.trans (HKP.out.toBelow (m := w.heap.size) (by have := BWw.out.size; omega) (by omega))).cell hgb).trans hcb
                have GY : ∀ WN, Below w.heap.size wr WN → WN.cell? ⟨gb, ob + i2, none⟩ = some (.int .i64 y) := fun WN hw => (hw.cell hgb).trans gyw
                have HGY := Lib.hid GY
                have HBR := Lib.hid hbr
                clear hy hbr hu gyw GY
                go_wp2_with (first
                  | (at_builtin; refine wpList_append_lay rfl (.tmp 56) (.tmp 61) _ rfl WR.heap.size 2 i0 _ 1 8 Tryd.underlying41 hi hz0 hz1 hz2 rfl (by omega) _ _ _ rfl O6.out _ (some ⟨w5.heap.size, 0, none⟩) 1 1 (intV [x]) rfl rfl HNew.out (intV_one _) (by unfold maxLen; omega) (by omega) hz6 ?_; intro v7 w7 hown7 hg7; have HO7 := Lib.hid hown7; have HG7 := Lib.hid hg7; have K7 := Lib.hid ((K5.out.trans (Keep1.below BAL.out K5.out.size)).trans (⟨hg7.os, hg7.tape, hg7.output, hg7.size, fun t ht hne => hg7.block t (by have := K5.out.size; rw [World.size_alloc]; omega) (fun e => by have := (World.ownsRow.lt O6.out t e.symm).1; omega)⟩ : Keep1 WR.heap.size b (w5.alloc (.cells #[.int .i64 x] 2)) w7)); (have gy7 := HGY.out w7 ((mk_bel (Below.refl _ wr) G5.out (by have := HKP.out.size; have := BWw.out.size; omega) (by omega)).trans (((BAL.out.mono (by have := K5.out.size; have := BWw.out.size; omega)).trans (own_grown (B := w.heap.size) O6.out (Below.refl _ _) (by have := BWw.out.size; omega) (by have := BWw.out.size; omega) hg7))))); clear hown7 hg7))
                have SN := Lib.hid ((S5.out.below BAL.out).kept HG7.out (fun e => by have := (World.ownsRow.lt O6.out p e.symm).1; omega) (fun e => by have := (World.ownsRow.lt O6.out b e.symm).1; omega))
                have FN : Hid (w7.ownsRow WR.heap.size 2 1 v7 (k2 + 1) (intV (R.take (k2 + 1)))) := Lib.hid (by rw [List.take_add_one, HX.out, Option.toList_some, intV_app]; exact HO7.out)
                have KN := K7
                refine (HBR.out _).mono ?_
                rintro e wz ⟨rfl, bz⟩
                have SN2 := Lib.hid (SN.out.below bz)
                have FN2 := Lib.hid (own_below FN.out bz)
                have KN2 := Lib.hid (KN.out.trans (Keep1.below bz KN.out.size))
                have sub1 : IntKind.i64.wrap ((k2 : Int) + 1 - u) = ((k2 + 1 - u : Nat) : Int) := by rw [IntWalk.i64_in _ ⟨by omega, by omega⟩]; omega
                clear bz
                go_wp2_with fail
                go_roundw
                case rel => exact ⟨k2 + 1 - u, i2 + 1, k2 + 1, m + 1, _, by go_num, by go_num, by omega, by omega, by omega, SN2.out, FN2.out, KN2.out⟩
                case measure => simp [RowKit.intOf]; omega
            · rw [decide_eq_false e, if_neg e] at hs
              have HSS := Lib.hid hs
              clear hs hx hblk hcx
              have hj1 : k2 + 1 ≤ j := by omega
              go_wp2_with fail
              refine HSS.out.mono ?_
              rintro e w5 ⟨rfl, s5, g5⟩
              have K5 := Lib.hid (HKP.out.trans (⟨g5.os, g5.tape, g5.output, g5.size, fun t ht hne => g5.block t (by have := HKP.out.size; omega) (by simp; omega)⟩ : Keep1 WR.heap.size b wr w5))
              have F5 := Lib.hid (World.ownsRow.kept HFR.out g5 (.inr (fun e => by have := (World.ownsRow.lt HFR.out _ e).1; omega)))
              have S5 := Lib.hid s5; have G5 := Lib.hid g5
              clear s5 g5
              rcases hcd with q | q | q | q
              · have q1 : ¬ (i2 : Int) < nb := by omega
                go_wp2_with fail
                have SN := S5
                have FN := F5
                have KN := K5
                go_roundw
                case rel => exact ⟨k2 + 1, i2 + 1, j, m + 1, _, by go_num, by go_num, by omega, by omega, by omega, SN.out, FN.out, KN.out⟩
                case measure => simp [RowKit.intOf]; omega
              · have q1 : (i2 : Int) < nb := by omega
                have q2 : ¬ (i2 : Int) < 60 := by omega
                go_wp2_with fail
                have SN := S5
                have FN := F5
                have KN := K5
                go_roundw
                case rel => exact ⟨k2 + 1, i2 + 1, j, m + 1, _, by go_num, by go_num, by omega, by omega, by omega, SN.out, FN.out, KN.out⟩
                case measure => simp [RowKit.intOf]; omega
              · have q1 : (i2 : Int) < nb := by omega
                have q2 : (i2 : Int) < 60 := by omega
                have q3 : ¬ ((k2 : Int) + 1) < k := by omega
                go_wp2_with fail
                have SN := S5
                have FN := F5
                have KN := K5
                go_roundw
                case rel => exact ⟨k2 + 1, i2 + 1, j, m + 1, _, by go_num, by go_num, by omega, by omega, by omega, SN.out, FN.out, KN.out⟩
                case measure => simp [RowKit.intOf]; omega
              · have q1 : (i2 : Int) < nb := by omega
                have q2 : (i2 : Int) < 60 := by omega
                have q3 : ((k2 : Int) + 1) < k := by omega
                obtain ⟨y, hy⟩ : ∃ c, back[i2]? = some c := ⟨_, List.getElem?_eq_getElem (by rw [← HNB.out]; omega)⟩
                obtain ⟨gb, ob, rfl, hgb, hcb⟩ := HB.out.num hy
                obtain ⟨y1, y2⟩ := K64.out _ (List.mem_of_getElem? hy)
                have hbr := fun W => bringI_any y ((k2 : Int) + 1 + 1) y1 y2 (by omega) (by omega) W
                obtain ⟨u, hu⟩ : ∃ u : Nat, y % ((k2 : Int) + 1 + 1) = (u : Int) := ⟨(y % ((k2 : Int) + 1 + 1)).toNat, by have := Int.emod_nonneg y (b := (k2 : Int) + 1 + 1) (by omega); omega⟩
                have hu2 : u ≤ k2 + 1 := by have := Int.emod_lt_of_pos y (b := (k2 : Int) + 1 + 1) (by omega); omega
                rw [hu] at hbr
                have gyw : wr.cell? ⟨gb, ob + i2, none⟩ = some (.int .i64 y) := ((BWw.out.trans (HKP.out.toBelow (m := w.heap.size) (by have := BWw.out.size; omega) (by omega))).cell hgb).trans hcb
                have GY : ∀ WN, Below w.heap.size wr WN → WN.cell? ⟨gb, ob + i2, none⟩ = some (.int .i64 y) := fun WN hw => (hw.cell hgb).trans gyw
                have HGY := Lib.hid GY
                have HBR := Lib.hid hbr
                clear hy hbr hu gyw GY
                have gy7 := HGY.out w5 (mk_bel (Below.refl _ wr) G5.out (by have := HKP.out.size; have := BWw.out.size; omega) (by omega))
                go_wp2_with fail
                have SN := S5
                have FN := F5
                have KN := K5
                refine (HBR.out _).mono ?_
                rintro e wz ⟨rfl, bz⟩
                have SN2 := Lib.hid (SN.out.below bz)
                have FN2 := Lib.hid (own_below FN.out bz)
                have KN2 := Lib.hid (KN.out.trans (Keep1.below bz KN.out.size))
                have sub1 : IntKind.i64.wrap ((k2 : Int) + 1 - u) = ((k2 + 1 - u : Nat) : Int) := by rw [IntWalk.i64_in _ ⟨by omega, by omega⟩]; omega
                clear bz
                go_wp2_with fail
                go_roundw
                case rel => exact ⟨k2 + 1 - u, i2 + 1, j, m + 1, _, by go_num, by go_num, by omega, by omega, by omega, SN2.out, FN2.out, KN2.out⟩
                case measure => simp [RowKit.intOf]; omega
          · have hki3 : ¬ (k2 : Int) < k := by omega
            obtain rfl : j = k := by omega
            have htk : R.take j = R := List.take_of_length_le (by omega)
            rw [htk] at HFR
            have hl3 := Lay.of_own HFR.out (Nat.le_refl wr.heap.size)
            have hr3 : ∀ (t : Nat) x, R[t]? = some x → ∃ g o, A1 = some ⟨g, o, none⟩ ∧ g < wr.heap.size ∧ wr.cell? ⟨g, o + t, none⟩ = some (.int .i64 x) := fun t x hx => by
              obtain ⟨g, o, e, hg, hbg, hpg, hcx⟩ := HCELL.out t x hx
              have hblk := HKP.out.block g hg (by omega)
              exact ⟨g, o, e, Nat.lt_of_lt_of_le hg HKP.out.size, by rw [← hcx]; simp [World.cell?, hblk]⟩
            have hf3 : ∀ (t : Nat) x, R[t]? = some x → ∃ g o, A3 = some ⟨g, o, none⟩ ∧ g < wr.heap.size ∧ wr.cell? ⟨g, o + t, none⟩ = some (.int .i64 x) := fun t x hx => by
              obtain ⟨g, o, e, h1, h2⟩ := hl3.num hx
              exact ⟨g, o, e, h1, h2⟩
            have BZ := Lib.hid (BWw.out.trans (HKP.out.toBelow (m := w.heap.size) (by have := BWw.out.size; omega) (by omega)))
            have HR3 := Lib.hid hr3; have HF3 := Lib.hid hf3
            clear htk hl3 hr3 hf3
            rename World => W2
            go_wp2_with fail
            go_loopw [14] (fun i W => ∃ t : Nat, i = .int .i64 t ∧ t ≤ j ∧ Below W2.heap.size W2 W) (fun i _ => j - (RowKit.intOf i).toNat)
            case atStart => exact ⟨0, rfl, by omega, Below.refl _ _⟩
            case round =>
              obtain ⟨t, rfl, ht, hbw⟩ := hrel
              have HBY := Lib.hid hbw
              clear hbw
              by_cases htj : t < j
              · have hti : (t : Int) < j := by omega
                obtain ⟨x, hx⟩ : ∃ c, R[t]? = some c := ⟨_, List.getElem?_eq_getElem (by omega)⟩
                obtain ⟨g, o, rfl, hg, hc⟩ := HR3.out t x hx
                obtain ⟨g', o', rfl, hg', hc'⟩ := HF3.out t x hx
                have gx := (HBY.out.cell hg).trans hc
                have gy := (HBY.out.cell hg').trans hc'
                clear hx hg hc hg' hc'
                go_wp2_with fail
                go_quiet (fail)
                go_wp2_with fail
                go_roundw
                case rel => exact ⟨t + 1, by go_num, by omega, ms_drewN HBY.out _⟩
                case measure => simp [RowKit.intOf]; omega
              · have hti : ¬ (t : Int) < j := by omega
                go_wp2_with fail
                refine (HWK.out _).mono ?_
                rintro e wz ⟨rfl, bz⟩
                have BF := Lib.hid ((BZ.out.trans (HBY.out.mono BZ.out.size)).trans (bz.mono (by have := BZ.out.size; have := HBY.out.size; omega)))
                clear bz
                go_wp2_with fail
                go_ret
                exact ⟨rfl, BF.out⟩
      · have hki : (k : Int) < n := by omega
        have hki2 : ¬ (k : Int) < 60 := by omega
        go_wp2_with fail
        rename World => WR
        go_loopw [7, 10, 11] (fun fr kk ii W => ∃ (k2 i2 j m : Nat) (D : DataW Unit), kk = .int .i64 k2 ∧ ii = .int .i64 i2 ∧ k2 ≤ j ∧ i2 ≤ 60 + k2 ∧ m ≤ i2 ∧ BackSt0 R p b m j D W ∧ W.ownsRow WR.heap.size 2 1 fr j (intV (R.take j)) ∧ Keep1 WR.heap.size b WR W) (fun _ kk ii _ => (60 - (RowKit.intOf ii).toNat) * 61 + (k - (RowKit.intOf kk).toNat))
        case atStart => exact ⟨0, 0, 0, 0, _, rfl, rfl, by omega, by omega, by omega, HST0.out, World.ownsRow_nil _ _ _ _, Keep1.refl _ _ _⟩
        case round =>
          obtain ⟨k2, i2, j, m, D, rfl, rfl, hkj, hik, hmi, hst, hfr, hkp⟩ := hrel
          obtain ⟨A3, c3, rfl, hc3, hcm3⟩ := yown_slice hfr
          have HS := Lib.hid hst; have HFR := Lib.hid hfr; have HKP := Lib.hid hkp
          have hjk : j ≤ k := by have := hst.le; omega
          clear hst hfr hkp
          by_cases hlk : k2 < k
          · have hki3 : (k2 : Int) < k := by omega
            obtain ⟨x, hx⟩ : ∃ c, R[k2]? = some c := ⟨_, List.getElem?_eq_getElem (by omega)⟩
            obtain ⟨g, o, rfl, hg, hbg, hpg, hcx⟩ := HCELL.out k2 x hx
            have hblk := HKP.out.block g hg (by omega)
            have gx : wr.cell? ⟨g, o + k2, none⟩ = some (.int .i64 x) := by rw [← hcx]; simp [World.cell?, hblk]
            have hs := HSTEP.out m j k2 D x wr HS.out (by omega) hkj hx
            have hcd : ¬ i2 < nb ∨ (i2 < nb ∧ ¬ i2 < 60) ∨ (i2 < nb ∧ i2 < 60 ∧ ¬ k2 + 1 < k) ∨ (i2 < nb ∧ i2 < 60 ∧ k2 + 1 < k) := by omega
            have HX := Lib.hid hx; have HBK := Lib.hid hblk; have HCX := Lib.hid hcx
            by_cases e : k2 = j
            · subst e
              rw [decide_eq_true rfl, if_pos rfl] at hs
              have HSS := Lib.hid hs
              clear hs hx hblk hcx
              go_wp2_with fail
              refine HSS.out.mono ?_
              rintro e w5 ⟨rfl, s5, g5⟩
              have g5x : w5.cell? ⟨g, o + k2, none⟩ = some (.int .i64 x) := by
                rw [← HCX.out]
                have := (g5.block g (by have := HKP.out.size; omega) (by simp; omega)).trans HBK.out
                simp [World.cell?, this]
              have K5 := Lib.hid (HKP.out.trans (⟨g5.os, g5.tape, g5.output, g5.size, fun t ht hne => g5.block t (by have := HKP.out.size; omega) (by simp; omega)⟩ : Keep1 WR.heap.size b wr w5))
              have F5 := Lib.hid (World.ownsRow.kept HFR.out g5 (.inr (fun e => by have := (World.ownsRow.lt HFR.out _ e).1; omega)))
              have S5 := Lib.hid s5; have G5 := Lib.hid g5
              clear s5 g5
              have bal := (Below.refl w5.heap.size w5).alloc (Nat.le_refl _) (.cells #[.int .i64 x] 2)
              have hnew : Lay (w5.alloc (.cells #[.int .i64 x] 2)) (w5.alloc (.cells #[.int .i64 x] 2)).heap.size (some ⟨w5.heap.size, 0, none⟩) (intV [x]) := lay_new w5 [.int .i64 x] 2
              have hO6 := own_below F5.out bal
              have hz6 : WR.heap.size ≤ (w5.alloc (.cells #[.int .i64 x] 2)).heap.size := by have := K5.out.size; rw [World.size_alloc]; omega
              have O6 := Lib.hid hO6; have HNew := Lib.hid hnew; have BAL := Lib.hid bal
              clear hO6 hnew bal
              rcases hcd with q | q | q | q
              · have q1 : ¬ (i2 : Int) < nb := by omega
                go_wp2_with (first
                  | (at_builtin; refine wpList_append_lay rfl (.tmp 56) (.tmp 61) _ rfl WR.heap.size 2 i0 _ 1 8 Tryd.underlying41 hi hz0 hz1 hz2 rfl (by omega) _ _ _ rfl O6.out _ (some ⟨w5.heap.size, 0, none⟩) 1 1 (intV [x]) rfl rfl HNew.out (intV_one _) (by unfold maxLen; omega) (by omega) hz6 ?_; intro v7 w7 hown7 hg7; have HO7 := Lib.hid hown7; have HG7 := Lib.hid hg7; have K7 := Lib.hid ((K5.out.trans (Keep1.below BAL.out K5.out.size)).trans (⟨hg7.os, hg7.tape, hg7.output, hg7.size, fun t ht hne => hg7.block t (by have := K5.out.size; rw [World.size_alloc]; omega) (fun e => by have := (World.ownsRow.lt O6.out t e.symm).1; omega)⟩ : Keep1 WR.heap.size b (w5.alloc (.cells #[.int .i64 x] 2)) w7)); clear hown7 hg7))
                have SN := Lib.hid ((S5.out.below BAL.out).kept HG7.out (fun e => by have := (World.ownsRow.lt O6.out p e.symm).1; omega) (fun e => by have := (World.ownsRow.lt O6.out b e.symm).1; omega))
                have FN : Hid (w7.ownsRow WR.heap.size 2 1 v7 (k2 + 1) (intV (R.take (k2 + 1)))) := Lib.hid (by rw [List.take_add_one, HX.out, Option.toList_some, intV_app]; exact HO7.out)
                have KN := K7
                go_roundw
                case rel => exact ⟨k2 + 1, i2 + 1, k2 + 1, m + 1, _, by go_num, by go_num, by omega, by omega, by omega, SN.out, FN.out, KN.out⟩
                case measure => simp [RowKit.intOf]; omega
              · have q1 : (i2 : Int) < nb := by omega
                have q2 : ¬ (i2 : Int) < 60 := by omega
                go_wp2_with (first
                  | (at_builtin; refine wpList_append_lay rfl (.tmp 56) (.tmp 61) _ rfl WR.heap.size 2 i0 _ 1 8 Tryd.underlying41 hi hz0 hz1 hz2 rfl (by omega) _ _ _ rfl O6.out _ (some ⟨w5.heap.size, 0, none⟩) 1 1 (intV [x]) rfl rfl HNew.out (intV_one _) (by unfold maxLen; omega) (by omega) hz6 ?_; intro v7 w7 hown7 hg7; have HO7 := Lib.hid hown7; have HG7 := Lib.hid hg7; have K7 := Lib.hid ((K5.out.trans (Keep1.below BAL.out K5.out.size)).trans (⟨hg7.os, hg7.tape, hg7.output, hg7.size, fun t ht hne => hg7.block t (by have := K5.out.size; rw [World.size_alloc]; omega) (fun e => by have := (World.ownsRow.lt O6.out t e.symm).1; omega)⟩ : Keep1 WR.heap.size b (w5.alloc (.cells #[.int .i64 x] 2)) w7)); clear hown7 hg7))
                have SN := Lib.hid ((S5.out.below BAL.out).kept HG7.out (fun e => by have := (World.ownsRow.lt O6.out p e.symm).1; omega) (fun e => by have := (World.ownsRow.lt O6.out b e.symm).1; omega))
                have FN : Hid (w7.ownsRow WR.heap.size 2 1 v7 (k2 + 1) (intV (R.take (k2 + 1)))) := Lib.hid (by rw [List.take_add_one, HX.out, Option.toList_some, intV_app]; exact HO7.out)
                have KN := K7
                go_roundw
                case rel => exact ⟨k2 + 1, i2 + 1, k2 + 1, m + 1, _, by go_num, by go_num, by omega, by omega, by omega, SN.out, FN.out, KN.out⟩
                case measure => simp [RowKit.intOf]; omega
              · have q1 : (i2 : Int) < nb := by omega
                have q2 : (i2 : Int) < 60 := by omega
                have q3 : ¬ ((k2 : Int) + 1) < k := by omega
                go_wp2_with (first
                  | (at_builtin; refine wpList_append_lay rfl (.tmp 56) (.tmp 61) _ rfl WR.heap.size 2 i0 _ 1 8 Tryd.underlying41 hi hz0 hz1 hz2 rfl (by omega) _ _ _ rfl O6.out _ (some ⟨w5.heap.size, 0, none⟩) 1 1 (intV [x]) rfl rfl HNew.out (intV_one _) (by unfold maxLen; omega) (by omega) hz6 ?_; intro v7 w7 hown7 hg7; have HO7 := Lib.hid hown7; have HG7 := Lib.hid hg7; have K7 := Lib.hid ((K5.out.trans (Keep1.below BAL.out K5.out.size)).trans (⟨hg7.os, hg7.tape, hg7.output, hg7.size, fun t ht hne => hg7.block t (by have := K5.out.size; rw [World.size_alloc]; omega) (fun e => by have := (World.ownsRow.lt O6.out t e.symm).1; omega)⟩ : Keep1 WR.heap.size b (w5.alloc (.cells #[.int .i64 x] 2)) w7)); clear hown7 hg7))
                have SN := Lib.hid ((S5.out.below BAL.out).kept HG7.out (fun e => by have := (World.ownsRow.lt O6.out p e.symm).1; omega) (fun e => by have := (World.ownsRow.lt O6.out b e.symm).1; omega))
                have FN : Hid (w7.ownsRow WR.heap.size 2 1 v7 (k2 + 1) (intV (R.take (k2 + 1)))) := Lib.hid (by rw [List.take_add_one, HX.out, Option.toList_some, intV_app]; exact HO7.out)
                have KN := K7
                go_roundw
                case rel => exact ⟨k2 + 1, i2 + 1, k2 + 1, m + 1, _, by go_num, by go_num, by omega, by omega, by omega, SN.out, FN.out, KN.out⟩
                case measure => simp [RowKit.intOf]; omega
              · have q1 : (i2 : Int) < nb := by omega
                have q2 : (i2 : Int) < 60 := by omega
                have q3 : ((k2 : Int) + 1) < k := by omega
                obtain ⟨y, hy⟩ : ∃ c, back[i2]? = some c := ⟨_, List.getElem?_eq_getElem (by rw [← HNB.out]; omega)⟩
                obtain ⟨gb, ob, rfl, hgb, hcb⟩ := HB.out.num hy
                obtain ⟨y1, y2⟩ := K64.out _ (List.mem_of_getElem? hy)
                have hbr := fun W => bringI_any y ((k2 : Int) + 1 + 1) y1 y2 (by omega) (by omega) W
                obtain ⟨u, hu⟩ : ∃ u : Nat, y % ((k2 : Int) + 1 + 1) = (u : Int) := ⟨(y % ((k2 : Int) + 1 + 1)).toNat, by have := Int.emod_nonneg y (b := (k2 : Int) + 1 + 1) (by omega); omega⟩
                have hu2 : u ≤ k2 + 1 := by have := Int.emod_lt_of_pos y (b := (k2 : Int) + 1 + 1) (by omega); omega
                rw [hu] at hbr
                have gyw : wr.cell? ⟨gb, ob + i2, none⟩ = some (.int .i64 y) := ((BWw.out.trans (HKP.out.toBelow (m := w.heap.size) (by have := BWw.out.size; omega) (by omega))).cell hgb).trans hcb
                have GY : ∀ WN, Below w.heap.size wr WN → WN.cell? ⟨gb, ob + i2, none⟩ = some (.int .i64 y) := fun WN hw => (hw.cell hgb).trans gyw
                have HGY := Lib.hid GY
                have HBR := Lib.hid hbr
                clear hy hbr hu gyw GY
                go_wp2_with (first
                  | (at_builtin; refine wpList_append_lay rfl (.tmp 56) (.tmp 61) _ rfl WR.heap.size 2 i0 _ 1 8 Tryd.underlying41 hi hz0 hz1 hz2 rfl (by omega) _ _ _ rfl O6.out _ (some ⟨w5.heap.size, 0, none⟩) 1 1 (intV [x]) rfl rfl HNew.out (intV_one _) (by unfold maxLen; omega) (by omega) hz6 ?_; intro v7 w7 hown7 hg7; have HO7 := Lib.hid hown7; have HG7 := Lib.hid hg7; have K7 := Lib.hid ((K5.out.trans (Keep1.below BAL.out K5.out.size)).trans (⟨hg7.os, hg7.tape, hg7.output, hg7.size, fun t ht hne => hg7.block t (by have := K5.out.size; rw [World.size_alloc]; omega) (fun e => by have := (World.ownsRow.lt O6.out t e.symm).1; omega)⟩ : Keep1 WR.heap.size b (w5.alloc (.cells #[.int .i64 x] 2)) w7)); (have gy7 := HGY.out w7 ((mk_bel (Below.refl _ wr) G5.out (by have := HKP.out.size; have := BWw.out.size; omega) (by omega)).trans (((BAL.out.mono (by have := K5.out.size; have := BWw.out.size; omega)).trans (own_grown (B := w.heap.size) O6.out (Below.refl _ _) (by have := BWw.out.size; omega) (by have := BWw.out.size; omega) hg7))))); clear hown7 hg7))
                have SN := Lib.hid ((S5.out.below BAL.out).kept HG7.out (fun e => by have := (World.ownsRow.lt O6.out p e.symm).1; omega) (fun e => by have := (World.ownsRow.lt O6.out b e.symm).1; omega))
                have FN : Hid (w7.ownsRow WR.heap.size 2 1 v7 (k2 + 1) (intV (R.take (k2 + 1)))) := Lib.hid (by rw [List.take_add_one, HX.out, Option.toList_some, intV_app]; exact HO7.out)
                have KN := K7
                refine (HBR.out _).mono ?_
                rintro e wz ⟨rfl, bz⟩
                have SN2 := Lib.hid (SN.out.below bz)
                have FN2 := Lib.hid (own_below FN.out bz)
                have KN2 := Lib.hid (KN.out.trans (Keep1.below bz KN.out.size))
                have sub1 : IntKind.i64.wrap ((k2 : Int) + 1 - u) = ((k2 + 1 - u : Nat) : Int) := by rw [IntWalk.i64_in _ ⟨by omega, by omega⟩]; omega
                clear bz
                go_wp2_with fail
                go_roundw
                case rel => exact ⟨k2 + 1 - u, i2 + 1, k2 + 1, m + 1, _, by go_num, by go_num, by omega, by omega, by omega, SN2.out, FN2.out, KN2.out⟩
                case measure => simp [RowKit.intOf]; omega
            · rw [decide_eq_false e, if_neg e] at hs
              have HSS := Lib.hid hs
              clear hs hx hblk hcx
              have hj1 : k2 + 1 ≤ j := by omega
              go_wp2_with fail
              refine HSS.out.mono ?_
              rintro e w5 ⟨rfl, s5, g5⟩
              have K5 := Lib.hid (HKP.out.trans (⟨g5.os, g5.tape, g5.output, g5.size, fun t ht hne => g5.block t (by have := HKP.out.size; omega) (by simp; omega)⟩ : Keep1 WR.heap.size b wr w5))
              have F5 := Lib.hid (World.ownsRow.kept HFR.out g5 (.inr (fun e => by have := (World.ownsRow.lt HFR.out _ e).1; omega)))
              have S5 := Lib.hid s5; have G5 := Lib.hid g5
              clear s5 g5
              rcases hcd with q | q | q | q
              · have q1 : ¬ (i2 : Int) < nb := by omega
                go_wp2_with fail
                have SN := S5
                have FN := F5
                have KN := K5
                go_roundw
                case rel => exact ⟨k2 + 1, i2 + 1, j, m + 1, _, by go_num, by go_num, by omega, by omega, by omega, SN.out, FN.out, KN.out⟩
                case measure => simp [RowKit.intOf]; omega
              · have q1 : (i2 : Int) < nb := by omega
                have q2 : ¬ (i2 : Int) < 60 := by omega
                go_wp2_with fail
                have SN := S5
                have FN := F5
                have KN := K5
                go_roundw
                case rel => exact ⟨k2 + 1, i2 + 1, j, m + 1, _, by go_num, by go_num, by omega, by omega, by omega, SN.out, FN.out, KN.out⟩
                case measure => simp [RowKit.intOf]; omega
              · have q1 : (i2 : Int) < nb := by omega
                have q2 : (i2 : Int) < 60 := by omega
                have q3 : ¬ ((k2 : Int) + 1) < k := by omega
                go_wp2_with fail
                have SN := S5
                have FN := F5
                have KN := K5
                go_roundw
                case rel => exact ⟨k2 + 1, i2 + 1, j, m + 1, _, by go_num, by go_num, by omega, by omega, by omega, SN.out, FN.out, KN.out⟩
                case measure => simp [RowKit.intOf]; omega
              · have q1 : (i2 : Int) < nb := by omega
                have q2 : (i2 : Int) < 60 := by omega
                have q3 : ((k2 : Int) + 1) < k := by omega
                obtain ⟨y, hy⟩ : ∃ c, back[i2]? = some c := ⟨_, List.getElem?_eq_getElem (by rw [← HNB.out]; omega)⟩
                obtain ⟨gb, ob, rfl, hgb, hcb⟩ := HB.out.num hy
                obtain ⟨y1, y2⟩ := K64.out _ (List.mem_of_getElem? hy)
                have hbr := fun W => bringI_any y ((k2 : Int) + 1 + 1) y1 y2 (by omega) (by omega) W
                obtain ⟨u, hu⟩ : ∃ u : Nat, y % ((k2 : Int) + 1 + 1) = (u : Int) := ⟨(y % ((k2 : Int) + 1 + 1)).toNat, by have := Int.emod_nonneg y (b := (k2 : Int) + 1 + 1) (by omega); omega⟩
                have hu2 : u ≤ k2 + 1 := by have := Int.emod_lt_of_pos y (b := (k2 : Int) + 1 + 1) (by omega); omega
                rw [hu] at hbr
                have gyw : wr.cell? ⟨gb, ob + i2, none⟩ = some (.int .i64 y) := ((BWw.out.trans (HKP.out.toBelow (m := w.heap.size) (by have := BWw.out.size; omega) (by omega))).cell hgb).trans hcb
                have GY : ∀ WN, Below w.heap.size wr WN → WN.cell? ⟨gb, ob + i2, none⟩ = some (.int .i64 y) := fun WN hw => (hw.cell hgb).trans gyw
                have HGY := Lib.hid GY
                have HBR := Lib.hid hbr
                clear hy hbr hu gyw GY
                have gy7 := HGY.out w5 (mk_bel (Below.refl _ wr) G5.out (by have := HKP.out.size; have := BWw.out.size; omega) (by omega))
                go_wp2_with fail
                have SN := S5
                have FN := F5
                have KN := K5
                refine (HBR.out _).mono ?_
                rintro e wz ⟨rfl, bz⟩
                have SN2 := Lib.hid (SN.out.below bz)
                have FN2 := Lib.hid (own_below FN.out bz)
                have KN2 := Lib.hid (KN.out.trans (Keep1.below bz KN.out.size))
                have sub1 : IntKind.i64.wrap ((k2 : Int) + 1 - u) = ((k2 + 1 - u : Nat) : Int) := by rw [IntWalk.i64_in _ ⟨by omega, by omega⟩]; omega
                clear bz
                go_wp2_with fail
                go_roundw
                case rel => exact ⟨k2 + 1 - u, i2 + 1, j, m + 1, _, by go_num, by go_num, by omega, by omega, by omega, SN2.out, FN2.out, KN2.out⟩
                case measure => simp [RowKit.intOf]; omega
          · have hki3 : ¬ (k2 : Int) < k := by omega
            obtain rfl : j = k := by omega
            have htk : R.take j = R := List.take_of_length_le (by omega)
            rw [htk] at HFR
            have hl3 := Lay.of_own HFR.out (Nat.le_refl wr.heap.size)
            have hr3 : ∀ (t : Nat) x, R[t]? = some x → ∃ g o, A1 = some ⟨g, o, none⟩ ∧ g < wr.heap.size ∧ wr.cell? ⟨g, o + t, none⟩ = some (.int .i64 x) := fun t x hx => by
              obtain ⟨g, o, e, hg, hbg, hpg, hcx⟩ := HCELL.out t x hx
              have hblk := HKP.out.block g hg (by omega)
              exact ⟨g, o, e, Nat.lt_of_lt_of_le hg HKP.out.size, by rw [← hcx]; simp [World.cell?, hblk]⟩
            have hf3 : ∀ (t : Nat) x, R[t]? = some x → ∃ g o, A3 = some ⟨g, o, none⟩ ∧ g < wr.heap.size ∧ wr.cell? ⟨g, o + t, none⟩ = some (.int .i64 x) := fun t x hx => by
              obtain ⟨g, o, e, h1, h2⟩ := hl3.num hx
              exact ⟨g, o, e, h1, h2⟩
            have BZ := Lib.hid (BWw.out.trans (HKP.out.toBelow (m := w.heap.size) (by have := BWw.out.size; omega) (by omega)))
            have HR3 := Lib.hid hr3; have HF3 := Lib.hid hf3
            clear htk hl3 hr3 hf3
            rename World => W2
            go_wp2_with fail
            go_loopw [14] (fun i W => ∃ t : Nat, i = .int .i64 t ∧ t ≤ j ∧ Below W2.heap.size W2 W) (fun i _ => j - (RowKit.intOf i).toNat)
            case atStart => exact ⟨0, rfl, by omega, Below.refl _ _⟩
            case round =>
              obtain ⟨t, rfl, ht, hbw⟩ := hrel
              have HBY := Lib.hid hbw
              clear hbw
              by_cases htj : t < j
              · have hti : (t : Int) < j := by omega
                obtain ⟨x, hx⟩ : ∃ c, R[t]? = some c := ⟨_, List.getElem?_eq_getElem (by omega)⟩
                obtain ⟨g, o, rfl, hg, hc⟩ := HR3.out t x hx
                obtain ⟨g', o', rfl, hg', hc'⟩ := HF3.out t x hx
                have gx := (HBY.out.cell hg).trans hc
                have gy := (HBY.out.cell hg').trans hc'
                clear hx hg hc hg' hc'
                go_wp2_with fail
                go_quiet (fail)
                go_wp2_with fail
                go_roundw
                case rel => exact ⟨t + 1, by go_num, by omega, ms_drewN HBY.out _⟩
                case measure => simp [RowKit.intOf]; omega
              · have hti : ¬ (t : Int) < j := by omega
                go_wp2_with fail
                refine (HWK.out _).mono ?_
                rintro e wz ⟨rfl, bz⟩
                have BF := Lib.hid ((BZ.out.trans (HBY.out.mono BZ.out.size)).trans (bz.mono (by have := BZ.out.size; have := HBY.out.size; omega)))
                clear bz
                go_wp2_with fail
                go_ret
                exact ⟨rfl, BF.out⟩
end Go.Proofs.YtoapigiapcmjnaaDoor
