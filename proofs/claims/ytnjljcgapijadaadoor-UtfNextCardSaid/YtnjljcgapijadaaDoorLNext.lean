import Derived.Test.YtnjljcgapijadaaDoorL2
import Derived.Test.YtnjljcgapijadaaDoorW1
set_option linter.unusedVariables false
namespace Go.Proofs.YtnjljcgapijadaaDoor
open Go.RowKit Go.Ms Go.Lib

theorem valid_more (zs : List Int) (m : Bs) : validD (textD zs ++ m) = validD m := by
  induction zs with
  | nil => rfl
  | cons a t ih =>
    unfold textD at ih ⊢
    rw [List.flatMap_cons, List.append_assoc, valid_enc _ _ (oneD_rune a)]
    exact ih
theorem drop_cons_at {zs : List Int} {k : Nat} (h : k < zs.length) : zs.drop k = zs.getD k 0 :: zs.drop (k + 1) := by
  rw [List.drop_eq_getElem_cons h, List.getD_eq_getElem?_getD, List.getElem?_eq_getElem h]; rfl

set_option maxRecDepth 100000 in
set_option maxHeartbeats 4000000 in
theorem utfNext_walk (a0 : Option Addr) (len0 cap0 : Nat) (z0 : List Int) (more0 : ByteArray) (w : World) (h0 : IsRow .i64 w a0 len0 cap0 z0) (hm : more0.size ≤ maxLen) (hT : Tabs w) :
    Calls Tryd.prog 9 #[.slice a0 len0 cap0, .string more0] w fun e w' => e = .returned (.bool true) ∧ Below w.heap.size w w' := by
  have hm2 : more0.size ≤ 9223372036854775807 := by simpa [maxLen] using hm
  obtain ⟨more, hmo⟩ : ∃ s, more0.extract 0 (min (↑more0.size : Int) 100).toNat = s := ⟨_, rfl⟩
  have hz : more.size ≤ 100 := by rw [← hmo, ByteArray.size_extract]; omega
  have hmx : more.data.toList.length = more.size := by simp
  have c1 := text_any a0 len0 cap0 z0 w h0.rowIn
  have HI := Lib.hid h0.rowIn
  have hle := h0.rowIn.len_le
  have hle9 := h0.rowIn.le
  have hN : min len0 60 ≤ z0.length := by omega
  obtain ⟨ys, hys⟩ : ∃ ys, z0.take (min len0 60) = ys := ⟨_, rfl⟩
  have hyl : ys.length = min len0 60 := by rw [← hys, List.length_take]; omega
  have hyg : ∀ k, k < min len0 60 → ys.getD k 0 = z0.getD k 0 := by
    intro k hk
    rw [← hys, List.getD_eq_getElem?_getD, List.getElem?_take, if_pos hk, ← List.getD_eq_getElem?_getD]
  have hl0 := textD_len ys
  rw [hys] at c1
  have hvm := valid_more ys more.data.toList
  have hmr : more = ⟨more.data.toList.toArray⟩ := by apply ba_ext; rfl
  have hsum : (⟨(textD ys).toArray⟩ : ByteArray) ++ more = ⟨(textD ys ++ more.data.toList).toArray⟩ := by apply ba_ext; simp
  obtain ⟨S0, hS0⟩ : ∃ S0 : ByteArray, (⟨(textD ys).toArray⟩ : ByteArray) ++ more = S0 := ⟨_, rfl⟩
  have hSl : S0.data.toList = textD ys ++ more.data.toList := by rw [← hS0, hsum]
  have hSz : S0.size ≤ 1000 := by
    have := congrArg List.length hSl
    simp only [List.length_append, Array.length_toList, ByteArray.size_data] at this
    omega
  have cv1 := fun w' (hT' : Tabs w') => valid_any S0 w' (by omega) hT'
  have cv2 := fun w' (hT' : Tabs w') => valid_any more w' (by omega) hT'
  rw [hSl, hvm] at cv1
  generalize validD more.data.toList = V at *
  have hq1 : ¬ 9223372036854775807 < (⟨(textD ys).toArray⟩ : ByteArray).size + more.size := by
    show ¬ 9223372036854775807 < (textD ys).toArray.size + more.size
    rw [List.size_toArray]; omega
  have C1 := Lib.hid c1; have CV1 := Lib.hid cv1; have CV2 := Lib.hid cv2
  have HMO := Lib.hid hmo; have HS0 := Lib.hid hS0; have HSL := Lib.hid hSl; have HYG := Lib.hid hyg; have HYL := Lib.hid hyl
  clear c1 cv1 cv2 hmo hS0 hSl hyg hyl hys hsum hmr hvm hl0 hm h0 hmx
  generalize textD ys = t0 at C1 HS0 hq1
  go_enter Tryd.func9, Tryd.ntmps9
  go_wp2_with fail
  rw [HMO.out]
  refine C1.out.mono ?_
  rintro en w1 ⟨rfl, b1⟩
  have T1 := tabs_below hT b1
  go_wp2_with fail
  rw [HS0.out]
  refine (CV1.out _ T1).mono ?_
  rintro en w2 ⟨rfl, b2⟩
  have T2 := tabs_below T1 b2
  have B2 := b1.trans (b2.mono b1.size)
  go_wp2_with fail
  refine (CV2.out _ T2).mono ?_
  rintro en w3 ⟨rfl, b3⟩
  have B3 := B2.trans (b3.mono B2.size)
  go_wp2_with fail
  go_loopw [5, 6] (fun s i wr => ∃ (k : Nat) (S : ByteArray), k ≤ min len0 60 ∧ i = .int .i64 k ∧ s = .string S ∧ S.size ≤ 1000 ∧ Hid (S.data.toList = textD (ys.drop k) ++ more.data.toList) ∧ Below w.heap.size w wr) (fun _ i _ => 60 - (RowKit.intOf i).toNat)
  case atStart => exact ⟨0, S0, by omega, rfl, rfl, hSz, HSL, B3⟩
  case round =>
    obtain ⟨k, S, hk, rfl, rfl, hSs, hS, hb⟩ := hrel
    have hTr := tabs_below hT hb
    have HTr := Lib.hid hTr
    by_cases hlt : k < len0 ∧ k < 60
    · obtain ⟨hl1, hl2⟩ := hlt
      obtain ⟨bb, off, rfl, hc⟩ := HI.out.at' k hl1
      have hcw := hc
      rw [← hb.cell (cell_lt hc)] at hc
      have hzm := getD_mem (zs := z0) (i := k) (by omega)
      have z0' := HI.out.lo _ hzm
      have z1' := HI.out.hi _ hzm
      have hd := drop_cons_at (zs := ys) (k := k) (by rw [HYL.out]; omega)
      rw [HYG.out k (by omega)] at hd
      have hsl := hS.out
      rw [hd] at hsl
      generalize hx : z0.getD k 0 = x at *
      have hr := oneD_rune x
      have hrb := oneD_bd x
      have hsl2 : S.data.toList = encodeRune (oneD x) ++ (textD (ys.drop (k + 1)) ++ more.data.toList) := by
        rw [hsl]; unfold textD; rw [List.flatMap_cons, List.append_assoc]
      have cn := fun w' (hT' : Tabs w') => next_any S w' hT'
      rw [hsl2, next_enc _ _ hr] at cn
      have co := fun w' => one_any x w' z0' z1'
      have cp := fun w' => put_any (oneD x) (by omega) (by omega) w'
      rw [put_rune hr, hr] at cp
      have hel := encodeRune_length (oneD x)
      have hSlen : S.data.toList.length = S.size := by simp
      have hel2 : (encodeRune (oneD x)).length ≤ S.size := by rw [← hSlen, hsl2, List.length_append]; omega
      have hcut : (S.extract 0 (encodeRune (oneD x)).length).toList = encodeRune (oneD x) := by rw [Lib.toList_data, ext_list, hsl2]; simp
      have hrest : (S.extract (encodeRune (oneD x)).length S.size).data.toList = textD (ys.drop (k + 1)) ++ more.data.toList := by
        rw [ext_list, List.take_of_length_le (by omega), hsl2]; simp
      have hrz : (S.extract (encodeRune (oneD x)).length S.size).size ≤ 1000 := by rw [ByteArray.size_extract]; omega
      have hB : (⟨(encodeRune (oneD x)).toArray⟩ : ByteArray).size = (encodeRune (oneD x)).length := List.size_toArray
      have hrn : ((oneD x).toNat : Int) = oneD x := isRune_nat hr
      simp only at cn
      rw [hrn] at cn
      generalize oneD x = y at *
      generalize encodeRune y = e at *
      have CN := Lib.hid cn; have CO := Lib.hid co; have CP := Lib.hid cp; have HR := Lib.hid hrest; have HRZ := Lib.hid hrz; have HCW := Lib.hid hcw
      have hbs := hb.size
      clear cn co cp hrest hrz hsl hsl2 hd hx hr hrn hSlen hzm hcw hS
      go_wp2_with fail
      refine (CN.out _ HTr.out).mono ?_
      rintro en w4 ⟨rfl, b4⟩
      have B4 := hb.trans (b4.mono hbs)
      have hc4 : w4.cell? ⟨bb, off + k, none⟩ = some (.int .i64 x) := by rw [B4.cell (cell_lt HCW.out)]; exact HCW.out
      go_wp2_with fail
      refine (CO.out _).mono ?_
      rintro en w5 ⟨rfl, rfl⟩
      go_wp2_with fail
      refine (CP.out _).mono ?_
      rintro en w5 ⟨rfl, b5⟩
      have B5 := B4.trans (b5.mono B4.size)
      have hc5 : w5.cell? ⟨bb, off + k, none⟩ = some (.int .i64 x) := by rw [B5.cell (cell_lt HCW.out)]; exact HCW.out
      go_wp2_with fail
      refine (CO.out _).mono ?_
      rintro en w6 ⟨rfl, rfl⟩
      go_wp2_with fail
      go_roundw
      case rel => exact ⟨k + 1, _, by omega, by go_num, rfl, HRZ.out, HR, B5⟩
      case measure => simp [RowKit.intOf]; omega
    · have hkk : k = min len0 60 := by omega
      have hSm : S.data.toList = more.data.toList := by
        rw [hS.out, List.drop_of_length_le (by rw [HYL.out]; omega)]; rfl
      obtain rfl : S = more := by
        have e1 := ba_ext hSm
        have e2 : more = ⟨more.data.toList.toArray⟩ := ba_ext rfl
        rw [e1, ← e2]
      have cw := works_any wr HTr.out
      have CW := Lib.hid cw
      have hbs := hb.size
      clear hSm cw hS
      rcases (by omega : len0 ≤ k ∨ (k < len0 ∧ 60 ≤ k)) with hl | ⟨hl, hl2⟩
      · have hl3 : ¬ ((k : Int) < (len0 : Int)) := by omega
        clear hkk
        go_wp2_with fail
        refine CW.out.mono ?_
        rintro en w4 ⟨rfl, b4⟩
        go_wp2_with fail
        go_ret
        exact ⟨rfl, hb.trans (b4.mono hbs)⟩
      · have hl3 : ((k : Int) < (len0 : Int)) := by omega
        have hl4 : ¬ ((k : Int) < 60) := by omega
        clear hkk
        go_wp2_with fail
        refine CW.out.mono ?_
        rintro en w4 ⟨rfl, b4⟩
        go_wp2_with fail
        go_ret
        exact ⟨rfl, hb.trans (b4.mono hbs)⟩
end Go.Proofs.YtnjljcgapijadaaDoor
