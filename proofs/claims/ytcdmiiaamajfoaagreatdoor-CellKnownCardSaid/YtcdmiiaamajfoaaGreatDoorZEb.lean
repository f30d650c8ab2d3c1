/- Cells: the bits of texts taken off. Cells: hex. Cells: hex read. Cells: whole numbers' bits. Cells: whole numbers' bits taken off. -/
import Derived.Test.YtcdmiiaamajfoaaGreatDoorZEa
import Derived.Test.YtcdmiiaamajfoaaGreatDoorZA
import Derived.Test.YtcdmiiaamajfoaaGreatDoorZBr
import Derived.Test.YtcdmiiaamajfoaaGreatDoorZRb
import Derived.Lib.ConvBytes
import Derived.Test.YtcdmiiaamajfoaaGreatDoorZPa
set_option linter.unusedVariables false
namespace Go.Proofs.YtcdmiiaamajfoaaGreatDoor
open Go.RowKit Go.Ms Go.Lib

theorem ret_c3 {a : ByteArray} {b c : Int} {t : Bs} {n : Nat} {e : Int} {R : Bs × Nat × Int} (hR : R = (t, n, e)) (ha : a = ⟨t.toArray⟩) (hb : b = n) (hc : c = e) :
    Ending.returned (.tuple #[.agg #[.bool false, .int .i64 0, .string a], .int .i64 b, .int .i64 c]) = .returned (.tuple #[.agg #[.bool false, .int .i64 0, .string ⟨R.1.toArray⟩], .int .i64 R.2.1, .int .i64 R.2.2]) := by subst hR ha hb hc; rfl

set_option maxRecDepth 100000 in
set_option maxHeartbeats 4000000 in
theorem unrow_any (S : ByteArray) (w : World) (hs : S.size ≤ 100000) :
    Calls Tryz.prog 191 #[.string S] w fun e w' => e = .returned (.tuple #[.agg #[.bool false, .int .i64 0, .string ⟨(unrowD S.data.toList).1.toArray⟩], .int .i64 (unrowD S.data.toList).2.1, .int .i64 (unrowD S.data.toList).2.2]) ∧ Below w.heap.size w w' := by
  have hl : S.data.toList.length = S.size := by simp
  obtain ⟨R, hR⟩ : ∃ R, unrowD S.data.toList = R := ⟨_, rfl⟩
  rw [hR]
  have HR := Lib.hid hR
  clear hR
  obtain ⟨W0, hW0⟩ : ∃ W0, w.alloc (.cells #[.bool false, .int .i64 0, .string ⟨#[]⟩] 23) = W0 := ⟨_, rfl⟩
  have hsz0 : W0.heap.size = w.heap.size + 1 := by rw [← hW0]; simp
  have B0 : Below w.heap.size w W0 := by rw [← hW0]; exact (Below.refl _ w).alloc (Nat.le_refl _) _
  have hblk0 : W0.heap[w.heap.size]? = some (.cells #[.bool false, .int .i64 0, .string ⟨#[]⟩] 23 (0, 0)) := by rw [← hW0]; exact heap_alloc_new w _
  have hI0 : IsBuilderF 82 5 W0.heap.size W0.heap.size (Lib.byteCells []) (W0.alloc (.cells #[.pointer none, .slice none 0 0] 82)) := IsBuilderF.of (Lib.fresh_isBuilder 82 5 W0)
  have hb0 : Below W0.heap.size W0 (W0.alloc (.cells #[.pointer none, .slice none 0 0] 82)) := (Below.refl _ _).alloc (Nat.le_refl _) _
  have res : ∀ w1, Below W0.heap.size W0 w1 → Res3 w1 w.heap.size (.bool false) (.int .i64 0) (.string ⟨#[]⟩) ∧ Below w.heap.size w w1 := by
    intro w1 hb
    refine ⟨?_, B0.trans (hb.mono (by omega))⟩
    subst hW0
    exact res3_made _ _ _ _ (hb.mono (by simp))
  have HRES := Lib.hid res
  have HW0 := Lib.hid hW0
  have HSZ := Lib.hid hsz0
  clear res hblk0 hsz0 hW0
  go_enter Tryz.func191, Tryz.ntmps191
  go_wp2_with fail
  rw [HW0.out, ← HSZ.out]
  go_loopw [6] (fun x wr => ∃ (i f : Nat) (acc : Bs), x = .int .i64 i ∧ i ≤ S.size ∧ S.size + 1 ≤ f + i ∧ acc.length ≤ i ∧ IsBuilderF 82 5 W0.heap.size W0.heap.size (Lib.byteCells acc) wr ∧ Below W0.heap.size W0 wr ∧ W0.heap.size ≤ wr.heap.size ∧ Hid (unrowG S.data.toList f i acc = R)) (fun x _ => S.size - (RowKit.intOf x).toNat)
  case atStart => exact ⟨0, S.size + 1, [], rfl, by omega, by omega, by simp, hI0, hb0, by simp, by show _ = _; rw [← hl]; exact HR.out⟩
  case round =>
    obtain ⟨i, f, acc, rfl, hi, hf, hal, hI, hb, hsz, hg⟩ := hrel
    obtain ⟨f, rfl⟩ : ∃ g, f = g + 1 := ⟨f - 1, by omega⟩
    obtain ⟨⟨c0, c1, c2, f0, f1, f2, hlt⟩, bw⟩ := HRES.out _ hb
    have hr := hg.out
    rw [unrowG_succ] at hr
    by_cases hil : S.size ≤ i
    · rw [if_pos (by omega)] at hr
      subst hr
      have hli : ¬ (i : Int) < (S.size : Int) := by omega
      clear hg
      go_wp2_with fail
      exact bodyPost_ret (v := .tuple #[.agg #[.bool false, .int .i64 0, .string ⟨#[]⟩], .int .i64 0, .int .i64 3]) (by simp [results, Tryz.results191, go_sem, c0, c1, c2]) rfl ⟨rfl, ((bw.setCell (Nat.le_refl _) _).setCell (Nat.le_refl _) _).setCell (Nat.le_refl _) _⟩
    have hil' : i < S.size := by omega
    have hli : (i : Int) < (S.size : Int) := by omega
    rw [if_neg (by omega)] at hr
    have gi : ((S[i]'hil').toNat : Int) = (bt S.data.toList i : Int) := by rw [get_of]; rfl
    have hbl := bt_lt S.data.toList i
    have hgx : S.data.toList.getD i 0 = (bt S.data.toList i).toUInt8 := by unfold bt; simp
    obtain ⟨x, hx⟩ : ∃ x, bt S.data.toList i = x := ⟨_, rfl⟩
    rw [hx] at hr gi hbl hgx
    have cl := fun w' (h : IsBuilderF 82 5 W0.heap.size W0.heap.size (Lib.byteCells acc) w') => Tryz.Builder_Len_f W0.heap.size W0.heap.size (Lib.byteCells acc) w' h
    have hlc : (Lib.byteCells acc).length = acc.length := by rw [Lib.byteCells_length]
    rw [hlc] at cl
    have CL := Lib.hid cl
    have HLC := Lib.hid hlc
    clear cl hlc hg hx
    by_cases hx0 : x = 0
    · subst hx0
      rw [if_pos rfl] at hr
      have v1 : IntKind.i64.wrap ((i : Int) + 1) = (i : Int) + 1 := IntWalk.i64_in _ (by omega)
      by_cases hi1 : S.size ≤ i + 1
      · rw [if_pos (by omega)] at hr
        subst hr
        have e1 : ((i : Int) + 1 == (S.size : Int)) = true := by rw [beq_iff_eq]; omega
        go_wp2_with fail
        exact bodyPost_ret (v := .tuple #[.agg #[.bool false, .int .i64 0, .string ⟨#[]⟩], .int .i64 0, .int .i64 3]) (by simp [results, Tryz.results191, go_sem, c0, c1, c2]) rfl ⟨rfl, ((bw.setCell (Nat.le_refl _) _).setCell (Nat.le_refl _) _).setCell (Nat.le_refl _) _⟩
      rw [if_neg (by omega)] at hr
      have hi1' : i + 1 < S.size := by omega
      have e1 : ((i : Int) + 1 == (S.size : Int)) = false := by rw [beq_eq_false_iff_ne]; omega
      have e2 : (i : Int) + 1 < (S.size : Int) := by omega
      have gj : ((S[i + 1]'hi1').toNat : Int) = (bt S.data.toList (i + 1) : Int) := by rw [get_of]; rfl
      have hbj := bt_lt S.data.toList (i + 1)
      have hk0 : (((⟨#[0, 255]⟩ : ByteArray)[1]'(by decide)).toNat : Int) = 255 := rfl
      obtain ⟨y, hy⟩ : ∃ y, bt S.data.toList (i + 1) = y := ⟨_, rfl⟩
      rw [hy] at hr gj hbj
      clear hy
      by_cases hy0 : y = 0
      · subst hy0
        rw [if_pos rfl] at hr
        subst hr
        have cs := fun w' (h : IsBuilderF 82 5 W0.heap.size W0.heap.size (Lib.byteCells acc) w') (h2 : W0.heap.size ≤ w'.heap.size) => Tryz.Builder_String_any_k W0.heap.size W0.heap.size acc w' h h2
        have CS := Lib.hid cs
        clear cs
        have v2 : IntKind.i64.wrap ((i : Int) + 1 + 1) = (i : Int) + 1 + 1 := IntWalk.i64_in _ (by omega)
        go_wp2_with fail
        refine (CS.out _ hI hsz).mono ?_
        rintro en w2 ⟨rfl, _, b2, _⟩
        obtain ⟨⟨d0, d1, d2, g0, g1, g2, hlt2⟩, bw2⟩ := HRES.out _ (hb.trans b2)
        go_wp2_with fail
        exact bodyPost_ret (v := .tuple #[.agg #[.bool false, .int .i64 0, .string ⟨acc.toArray⟩], .int .i64 ((i : Int) + 1 + 1), .int .i64 0]) (by simp [results, Tryz.results191, go_sem, d0, d1, d2]) rfl ⟨rfl, ((bw2.setCell (Nat.le_refl _) _).setCell (Nat.le_refl _) _).setCell (Nat.le_refl _) _⟩
      rw [if_neg hy0] at hr
      have hy0' : ((y : Int) == 0) = false := by rw [beq_eq_false_iff_ne]; omega
      by_cases hy2 : y = 255
      · subst hy2
        rw [if_pos rfl] at hr
        by_cases ha : acc.length = 1024
        · rw [if_pos ha] at hr
          subst hr
          have ha' : ((acc.length : Int) == 1024) = true := by rw [beq_iff_eq]; omega
          have hID : ∀ n, IsBuilderF 82 5 W0.heap.size W0.heap.size (Lib.byteCells acc) (wr.drewN n) := fun n => hI
          have HID := Lib.hid hID
          clear hID
          go_wp2_with fail
          go_quiet (fail)
          go_wp2_with fail
          refine (CL.out _ (HID.out _)).mono ?_
          rintro en w2 ⟨rfl, rfl⟩
          go_wp2_with fail
          exact bodyPost_ret (v := .tuple #[.agg #[.bool false, .int .i64 0, .string ⟨#[]⟩], .int .i64 0, .int .i64 4]) (by simp [results, Tryz.results191, go_sem, c0, c1, c2]) rfl ⟨rfl, ((((ms_drewN bw _).setCell (Nat.le_refl _) _).setCell (Nat.le_refl _) _).setCell (Nat.le_refl _) _)⟩
        · rw [if_neg ha] at hr
          have ha' : ((acc.length : Int) == 1024) = false := by rw [beq_eq_false_iff_ne]; omega
          have hID : ∀ n, IsBuilderF 82 5 W0.heap.size W0.heap.size (Lib.byteCells acc) (wr.drewN n) := fun n => hI
          have hsD : ∀ n, W0.heap.size ≤ (wr.drewN n).heap.size := fun n => hsz
          have hbD : ∀ n, Below W0.heap.size W0 (wr.drewN n) := fun n => ms_drewN hb n
          have HG := Lib.hid hr
          have hbyte : Lib.byteCells acc ++ [Value.int .u8 (0 : Int)] = Lib.byteCells (acc ++ [0]) := by
            rw [Lib.byteCells_append]; rfl
          have cw := fun w' (h : IsBuilderF 82 5 W0.heap.size W0.heap.size (Lib.byteCells acc) w') (h2 : W0.heap.size ≤ w'.heap.size) => wbyte_any W0.heap.size W0.heap.size (Lib.byteCells acc) 0 w' h (by rw [HLC.out]; omega) h2
          rw [hbyte] at cw
          have CW := Lib.hid cw
          have HID := Lib.hid hID
          have HSD := Lib.hid hsD
          have HBD := Lib.hid hbD
          clear hID hsD hbD cw hbyte hgx hr
          go_wp2_with fail
          go_quiet (fail)
          go_wp2_with fail
          refine (CL.out _ (HID.out _)).mono ?_
          rintro en w2 ⟨rfl, rfl⟩
          go_wp2_with fail
          refine (CW.out _ (HID.out _) (HSD.out _)).mono ?_
          rintro en w2 ⟨rfl, hI2, b2, _⟩
          have B2 := (HBD.out _).trans b2
          have hs2 := b2.size
          go_wp2_with fail
          go_roundw
          case rel => exact ⟨i + 2, f, acc ++ [0], by go_num, by omega, by omega, by simp; omega, hI2, B2, Nat.le_trans hsz hs2, HG⟩
          case measure => simp [RowKit.intOf]; omega
      · rw [if_neg hy2] at hr
        subst hr
        have hy2' : ((y : Int) == 255) = false := by rw [beq_eq_false_iff_ne]; omega
        have hy2'' : ((y : Int) != 255) = true := by rw [bne_iff_ne]; omega
        go_wp2_with fail
        go_quiet (fail)
        go_wp2_with fail
        exact bodyPost_ret (v := .tuple #[.agg #[.bool false, .int .i64 0, .string ⟨#[]⟩], .int .i64 0, .int .i64 4]) (by simp [results, Tryz.results191, go_sem, c0, c1, c2]) rfl ⟨rfl, ((((ms_drewN bw _).setCell (Nat.le_refl _) _).setCell (Nat.le_refl _) _).setCell (Nat.le_refl _) _)⟩
    · rw [if_neg hx0] at hr
      have hx0' : ((x : Int) == 0) = false := by rw [beq_eq_false_iff_ne]; omega
      by_cases ha : acc.length = 1024
      · rw [if_pos ha] at hr
        subst hr
        have ha' : ((acc.length : Int) == 1024) = true := by rw [beq_iff_eq]; omega
        go_wp2_with fail
        refine (CL.out _ hI).mono ?_
        rintro en w2 ⟨rfl, rfl⟩
        go_wp2_with fail
        exact bodyPost_ret (v := .tuple #[.agg #[.bool false, .int .i64 0, .string ⟨#[]⟩], .int .i64 0, .int .i64 4]) (by simp [results, Tryz.results191, go_sem, c0, c1, c2]) rfl ⟨rfl, ((bw.setCell (Nat.le_refl _) _).setCell (Nat.le_refl _) _).setCell (Nat.le_refl _) _⟩
      · rw [if_neg ha] at hr
        have ha' : ((acc.length : Int) == 1024) = false := by rw [beq_eq_false_iff_ne]; omega
        have HG := Lib.hid hr
        clear hr
        have hbyte : Lib.byteCells acc ++ [Value.int .u8 (x : Int)] = Lib.byteCells (acc ++ [S.data.toList.getD i 0]) := by
          rw [hgx, Lib.byteCells_append]
          congr 1
          unfold Lib.byteCells
          simp [Nat.toUInt8]; omega
        have cw := fun w' (h : IsBuilderF 82 5 W0.heap.size W0.heap.size (Lib.byteCells acc) w') (h2 : W0.heap.size ≤ w'.heap.size) => wbyte_any W0.heap.size W0.heap.size (Lib.byteCells acc) x w' h (by rw [HLC.out]; omega) h2
        rw [hbyte] at cw
        have CW := Lib.hid cw
        clear cw hbyte hgx
        go_wp2_with fail
        refine (CL.out _ hI).mono ?_
        rintro en w2 ⟨rfl, rfl⟩
        go_wp2_with fail
        refine (CW.out _ hI hsz).mono ?_
        rintro en w2 ⟨rfl, hI2, b2, _⟩
        go_wp2_with fail
        go_roundw
        case rel => exact ⟨i + 1, f, acc ++ [S.data.toList.getD i 0], by go_num, by omega, by omega, by simp; omega, hI2, hb.trans b2, by have := b2.size; omega, HG⟩
        case measure => simp [RowKit.intOf]; omega
end Go.Proofs.YtcdmiiaamajfoaaGreatDoor
namespace Go.Proofs.YtcdmiiaamajfoaaGreatDoor
open Go.RowKit Go.Ms Go.Lib

set_option maxRecDepth 100000 in
theorem and15u : ∀ k : Fin 256, bits .and .u8 ((k.val : Nat) : Int) 15 = ((k.val % 16 : Nat) : Int) := by decide
set_option maxRecDepth 100000 in
theorem hexb_low : ∀ k : Fin 256, hexb k.val.toUInt8 = [(lowD (k.val / 16)).toNat.toUInt8, (lowD (k.val % 16)).toNat.toUInt8] := by decide
theorem lowD_bd : ∀ k : Fin 16, 0 ≤ lowD k.val ∧ lowD k.val < 256 := by decide
theorem hex_snoc (l : Bs) (k : Nat) (h : k < l.length) : (l.take (k + 1)).flatMap hexb = (l.take k).flatMap hexb ++ hexb l[k] := by
  rw [List.take_succ_eq_append_getElem h, List.flatMap_append]; simp
theorem hex_len (l : Bs) : (l.flatMap hexb).length = 2 * l.length := by
  induction l with
  | nil => rfl
  | cons c t ih => rw [List.flatMap_cons, List.length_append, ih, List.length_cons]; simp [hexb]; omega

set_option maxRecDepth 100000 in
set_option maxHeartbeats 4000000 in
theorem hex_str (n : Int) (nu : Bool) (S : ByteArray) (w : World) (hs : S.size ≤ 100000) :
    Calls Tryz.prog 192 #[.agg #[.bool nu, .int .i64 n, .string S]] w fun e w' => e = .returned (.string ⟨(hexD S.data.toList).toArray⟩) ∧ Below w.heap.size w w' := by
  have hl : S.data.toList.length = S.size := by simp
  have kb := fun (w : World) => Lib.run_convert_string_bytes (P := Tryz.prog) w 9 77 5 S Tryz.underlying9 Tryz.underlying77 Tryz.underlying5
  obtain ⟨W0, hW0⟩ : ∃ W0, w.alloc (.cells #[.bool nu, .int .i64 n, .string S] 23) = W0 := ⟨_, rfl⟩
  have hsz0 : W0.heap.size = w.heap.size + 1 := by rw [← hW0]; simp
  have B0 : Below w.heap.size w W0 := by rw [← hW0]; exact (Below.refl _ w).alloc (Nat.le_refl _) _
  have res : ∀ w1, Below W0.heap.size W0 w1 → Res3 w1 w.heap.size (.bool nu) (.int .i64 n) (.string S) ∧ Below w.heap.size w w1 := by
    intro w1 hb
    refine ⟨?_, B0.trans (hb.mono (by omega))⟩
    subst hW0
    exact res3_made _ _ _ _ (hb.mono (by simp))
  have cw := wstrO_fresh ⟨#[120]⟩ W0 (by decide) (by decide)
  have CW := Lib.hid cw
  have HRES := Lib.hid res
  have HW0 := Lib.hid hW0
  have HSZ := Lib.hid hsz0
  clear res cw hsz0 hW0
  go_enter Tryz.func192, Tryz.ntmps192
  go_wp2_with fail
  rw [HW0.out, ← HSZ.out]
  refine CW.out.mono ?_
  rintro en w1 ⟨rfl, v, hbo, hb1⟩
  obtain ⟨⟨c0, c1, c2, f0, f1, f2, hlt⟩, bw⟩ := HRES.out _ hb1
  have hK : w1.heap.size < (Lib.bytesWorld w1 5 S).heap.size := by rw [Lib.bytesWorld_size]; omega
  have hbb := Joins.below_bytesWorld w1.heap.size w1 5 S (Nat.le_refl _)
  have hvK : v.ownBlock ≠ some w1.heap.size := by
    intro e
    have := (World.ownsRow.lt hbo.own _ e).2
    omega
  have hcells : ∀ j, j < S.size → (Lib.bytesWorld w1 5 S).cell? ⟨w1.heap.size, j, none⟩ = some (.int .u8 ((bt S.data.toList j : Nat) : Int)) := fun j hj => Lib.bytesWorld_cell w1 5 S j hj
  have hbo2 := hbo.kept hbb
  have hB2 := hb1.trans (hbb.mono hb1.size)
  have hbz : W0.heap.size < w1.heap.size := hbo.lt
  have HC := Lib.hid hcells
  clear hcells hbb hbo
  go_wp2_with fail
  obtain ⟨K, hKe⟩ : ∃ K, w1.heap.size = K := ⟨_, rfl⟩
  obtain ⟨W2, hW2⟩ : ∃ W2, Lib.bytesWorld w1 5 S = W2 := ⟨_, rfl⟩
  rw [hKe, hW2] at hK HC
  rw [hKe] at hvK hbz
  rw [hW2] at hbo2 hB2
  rw [hKe, hW2]
  clear hKe hW2 hb1 c0 c1 c2 f0 f1 f2 hlt bw
  go_loopw [11] (fun i wr => ∃ (k : Nat) (v : Value), i = .int .i64 k ∧ k ≤ S.size ∧ BO W0.heap.size W0.heap.size v (120 :: (S.data.toList.take k).flatMap hexb) wr ∧ v.ownBlock ≠ some K ∧ wr.heap[K]? = W2.heap[K]? ∧ K < wr.heap.size ∧ Below W0.heap.size W0 wr) (fun i _ => S.size - (RowKit.intOf i).toNat)
  case atStart => exact ⟨0, v, rfl, by omega, hbo2, hvK, rfl, hK, hB2⟩
  case round =>
    obtain ⟨k, v, rfl, hk, hbo, hvK, hKb, hKl, hb⟩ := hrel
    by_cases hlt : k < S.size
    · have hli : (k : Int) < (S.size : Int) := by omega
      have hck := HC.out k hlt
      rw [← World.cell?_of_block (a := ⟨K, k, none⟩) hKb] at hck
      have hsn := hex_snoc S.data.toList k (by omega)
      have hbe : bt S.data.toList k = (S.data.toList[k]'(by omega)).toNat := by simp [bt, List.getD_eq_getElem?_getD, hlt]
      have hhb := hexb_low ⟨bt S.data.toList k, bt_lt _ _⟩
      have hx := bt_lt S.data.toList k
      have hll := hex_len (S.data.toList.take k)
      rw [List.length_take] at hll
      simp only at hhb
      rw [hbe] at hhb
      rw [show ((S.data.toList[k]'(by omega)).toNat).toUInt8 = S.data.toList[k]'(by omega) by simp] at hhb
      rw [hhb, ← hbe] at hsn
      clear hhb hbe
      generalize bt S.data.toList k = x at *
      have hd1 := lowD_bd ⟨x / 16, by omega⟩
      have hd2 := lowD_bd ⟨x % 16, by omega⟩
      have g1 := low_at ⟨x / 16, by omega⟩
      have g2 := low_at ⟨x % 16, by omega⟩
      simp only at hd1 hd2 g1 g2
      generalize lowD (x / 16) = d1 at *
      generalize lowD (x % 16) = d2 at *
      have a15 := and15u ⟨x, hx⟩
      simp only at a15
      have HSN := Lib.hid hsn
      have HLL := Lib.hid hll
      clear hsn hll
      have hbs := hb.size
      have hz0 : W0.heap.size ≤ wr.heap.size := hbs
      have L1 : Hid ((120 :: (S.data.toList.take k).flatMap hexb).length + 2 ≤ 140737488355328) := by show _ ≤ _; rw [List.length_cons, HLL.out]; omega
      go_wp2_with fail
      refine (wbyteO W0.heap.size W0.heap.size v _ d1 wr hbo hd1 (by have := L1.out; omega) hz0).mono ?_
      rintro en w3 ⟨rfl, v3, hw3⟩
      have hv3 : v3.ownBlock ≠ some K := by
        intro e
        rcases hw3.at' with h | ⟨q, h, hq⟩
        · exact hvK (by rw [← h]; exact e)
        · rw [h] at e; have := Option.some.inj e; omega
      have hk3 : w3.heap[K]? = W2.heap[K]? := by rw [hw3.keep K hKl (by omega) hvK]; exact hKb
      have hb3 := hb.trans hw3.bel
      have hs3 := hw3.bel.size
      have hK3 : K < w3.heap.size := by omega
      have hbo3 := hw3.bo
      clear hw3 hbo
      go_wp2_with fail
      refine (wbyteO W0.heap.size W0.heap.size v3 _ d2 w3 hbo3 hd2 (by have := L1.out; simp only [List.length_append, List.length_cons, List.length_nil] at this ⊢; omega) (by omega)).mono ?_
      rintro en w4 ⟨rfl, v4, hw4⟩
      have hv4 : v4.ownBlock ≠ some K := by
        intro e
        rcases hw4.at' with h | ⟨q, h, hq⟩
        · exact hv3 (by rw [← h]; exact e)
        · rw [h] at e; have := Option.some.inj e; omega
      have hk4 : w4.heap[K]? = W2.heap[K]? := by rw [hw4.keep K hK3 (by omega) hv3]; exact hk3
      have hb4 := hb3.trans hw4.bel
      have hs4 := hw4.bel.size
      have hK4 : K < w4.heap.size := by omega
      have hbo4 : BO W0.heap.size W0.heap.size v4 (120 :: (S.data.toList.take (k + 1)).flatMap hexb) w4 := by
        rw [HSN.out]
        have := hw4.bo
        rw [List.append_assoc] at this
        exact this
      clear hw4 hbo3
      go_wp2_with fail
      go_roundw
      case rel => exact ⟨k + 1, v4, by go_num, by omega, hbo4, hv4, hk4, hK4, hb4⟩
      case measure => simp [RowKit.intOf]; omega
    · have hli : ¬ (k : Int) < (S.size : Int) := by omega
      rw [List.take_of_length_le (by omega)] at hbo
      have cs := Tryz.Builder_String_any_k W0.heap.size W0.heap.size (120 :: S.data.toList.flatMap hexb) wr hbo.isF hb.size
      have CS := Lib.hid cs
      clear cs hbo
      go_wp2_with fail
      refine CS.out.mono ?_
      rintro en w3 ⟨rfl, _, b3, _⟩
      have bw := (HRES.out _ (hb.trans b3)).2
      go_wp2_with fail
      go_ret
      exact ⟨rfl, bw⟩
end Go.Proofs.YtcdmiiaamajfoaaGreatDoor
namespace Go.Proofs.YtcdmiiaamajfoaaGreatDoor
open Go.RowKit Go.Ms Go.Lib

theorem infoU8c : (Tryz.prog.info? 5).map (fun i => (i.zero, i.size, i.bytes)) = some (some (.int .u8 0), 1, 1) := by kernel_rfl
theorem new_cells1 (w : World) (e : TypeId) (c : Int) : ∀ j u, (([c] : List Int).map (Value.int .u8))[j]? = some u → (w.alloc (.cells #[.int .u8 c] e)).cell? ((⟨w.heap.size, 0, none⟩ : Addr).add j) = some u := by
  intro j u hj
  match j, hj with
  | 0, hj =>
    simp at hj
    subst hj
    have hadd : (⟨w.heap.size, 0, none⟩ : Addr).add 0 = ⟨w.heap.size, 0, none⟩ := by unfold Addr.add; simp
    rw [hadd, Lib.cell_of_heap (heap_alloc_new w _)]
    rfl

set_option maxRecDepth 100000 in
set_option maxHeartbeats 4000000 in
theorem unhex_any (S : ByteArray) (w : World) (hs : S.size ≤ 100000) :
    Calls Tryz.prog 193 #[.string S] w fun e w' => e = .returned (.agg #[.bool false, .int .i64 0, .string ⟨(unhexD S.data.toList).toArray⟩]) ∧ Below w.heap.size w w' := by
  obtain ⟨i0, hi, hz0, hz1, hz2⟩ := info_parts infoU8c
  obtain ⟨R, hR⟩ : ∃ R, unhexD S.data.toList = R := ⟨_, rfl⟩
  rw [hR]
  unfold unhexD at hR
  have cp := fun w => Tryz.strings_CutPrefix S ⟨#[120]⟩ w
  have hpl : (trimPrefix S.data.toList [120]).length ≤ S.size := by
    have hl : S.data.toList.length = S.size := by simp
    unfold trimPrefix
    split
    · rw [List.length_drop]; omega
    · omega
  rw [show (⟨#[120]⟩ : ByteArray).data.toList = [120] from rfl] at cp
  generalize trimPrefix S.data.toList [120] = P at *
  generalize hasPrefix S.data.toList [120] = hp at *
  have HR := Lib.hid hR
  have CP := Lib.hid cp
  clear hR cp
  obtain ⟨W0, hW0⟩ : ∃ W0, w.alloc (.cells #[.bool false, .int .i64 0, .string ⟨#[]⟩] 23) = W0 := ⟨_, rfl⟩
  have hsz0 : W0.heap.size = w.heap.size + 1 := by rw [← hW0]; simp
  have B0 : Below w.heap.size w W0 := by rw [← hW0]; exact (Below.refl _ w).alloc (Nat.le_refl _) _
  have res : ∀ w1, Below W0.heap.size W0 w1 → Res3 w1 w.heap.size (.bool false) (.int .i64 0) (.string ⟨#[]⟩) ∧ Below w.heap.size w w1 := by
    intro w1 hb
    refine ⟨?_, B0.trans (hb.mono (by omega))⟩
    subst hW0
    exact res3_made _ _ _ _ (hb.mono (by simp))
  have HRES := Lib.hid res
  have HW0 := Lib.hid hW0
  clear res hsz0 hW0 B0
  go_enter Tryz.func193, Tryz.ntmps193
  go_wp2_with fail
  rw [HW0.out]
  refine (CP.out _).mono ?_
  rintro en w1 ⟨rfl, hw1⟩
  subst hw1
  go_wp2_with fail
  go_loopw [0, 3] (fun x v wr => ∃ (T : ByteArray) (acc : Bs), x = .string T ∧ T.size ≤ 100000 ∧ acc.length + T.size ≤ 100000 ∧ OwnB wr w1.heap.size 5 v acc ∧ Hid (acc ++ unhexG T.data.toList = R) ∧ Below w1.heap.size w1 wr) (fun x _ _ => match x with | .string T => T.size | _ => 0)
  case atStart => exact ⟨⟨P.toArray⟩, [], rfl, by rw [str_size]; omega, by rw [str_size]; simp; omega, OwnB.nil _ _ _, by show _ = _; exact HR.out, Below.refl _ _⟩
  case round =>
    obtain ⟨T, acc, rfl, hT, hal, hown, hR, hb⟩ := hrel
    have hl : T.data.toList.length = T.size := by simp
    by_cases hlt : 1 < T.size
    · have hli : (1 : Int) < (T.size : Int) := by omega
      have hp0 : (0 : Int) < (T.size : Int) := by omega
      have hp0n : 0 < T.size := by omega
      have g0 : (T[0]'(by omega)) = T.data.toList.getD 0 0 := get_of _ _ _
      have g1 : (T[1]'(by omega)) = T.data.toList.getD 1 0 := get_of _ _ _
      obtain ⟨a, b, t, ht⟩ : ∃ a b t, T.data.toList = a :: b :: t := by
        match h : T.data.toList with
        | [] => rw [h] at hl; simp at hl; omega
        | [x] => rw [h] at hl; simp at hl; omega
        | x :: y :: t => exact ⟨x, y, t, rfl⟩
      rw [ht] at g0 g1
      have g0' : ((T[0]'(by omega)).toNat : Int) = (a.toNat : Int) := by rw [g0]; rfl
      have g1' : ((T[1]'(by omega)).toNat : Int) = (b.toNat : Int) := by rw [g1]; rfl
      have hr := hR.out
      rw [ht, unhexG] at hr
      have c1 := fun w => Tryz.strings_IndexByte ⟨#[48, 49, 50, 51, 52, 53, 54, 55, 56, 57, 97, 98, 99, 100, 101, 102]⟩ (a.toNat : Int) w
      have c2 := fun w => Tryz.strings_IndexByte ⟨#[48, 49, 50, 51, 52, 53, 54, 55, 56, 57, 97, 98, 99, 100, 101, 102]⟩ (b.toNat : Int) w
      rw [show (⟨#[48, 49, 50, 51, 52, 53, 54, 55, 56, 57, 97, 98, 99, 100, 101, 102]⟩ : ByteArray).data.toList = hexS from rfl] at c1 c2
      rw [show ((a.toNat : Int)).toNat.toUInt8 = a by simp] at c1
      rw [show ((b.toNat : Int)).toNat.toUInt8 = b by simp] at c2
      have ba := hx_bd a
      have bb := hx_bd b
      have m1 : max 0 (indexByte hexS a) = hx a := rfl
      have m2 : max 0 (indexByte hexS b) = hx b := rfl
      generalize indexByte hexS a = ia at *
      generalize indexByte hexS b = ib at *
      generalize hx a = A at *
      generalize hx b = B at *
      have hrest : (T.extract 2 T.size).data.toList = t := by rw [ext_list, List.take_of_length_le (by omega), ht]; rfl
      have hrz : (T.extract 2 T.size).size = T.size - 2 := by simp
      have v1 : IntKind.i64.wrap (A * 16) = A * 16 := IntWalk.i64_in _ (by omega)
      have v2 := or_16 A B ba.1 (by omega) bb.1 bb.2
      have v3 : IntKind.u8.wrap (16 * A + B) = 16 * A + B := IntWalk.u8_in _ (by omega)
      have hns : ∀ x ∈ ([16 * A + B] : List Int), 0 ≤ x ∧ x < 256 := by intro x hx; rw [List.mem_singleton] at hx; subst hx; omega
      have ownA := (hown.drewN 1).alloc (.cells #[.int .u8 (16 * A + B)] 5)
      have hbs := hb.size
      have BA : Below w1.heap.size w1 (wr.drew.alloc (.cells #[.int .u8 (16 * A + B)] 5)) := (ms_drewN hb 1).alloc hbs _
      have hsA := BA.size
      have hnew := new_cells1 wr.drew 5 (16 * A + B)
      have hlen : acc.length + 1 ≤ 140737488355328 := by omega
      have C1 := Lib.hid c1; have C2 := Lib.hid c2; have HNS := Lib.hid hns; have HOWN := Lib.hid ownA; have HSA := Lib.hid hsA; have HNEW := Lib.hid hnew; have HLEN := Lib.hid hlen
      have HREST := Lib.hid hrest; have HRZ := Lib.hid hrz; have HRR := Lib.hid hr; have HBA := Lib.hid BA
      have h2i : (2 : Int) ≤ (T.size : Int) := by omega
      clear c1 c2 hns ownA hsA hnew hlen hrest hrz hr BA ht g0 g1 hR hown ba bb
      go_wp2_with fail
      go_region_law (first | (refine step_append_new rfl _ _ 77 rfl w1.heap.size 5 i0 (.int .u8 0) Tryz.underlying77 hi hz0 hz1 hz2 rfl _ _ rfl HOWN.out ⟨wr.heap.size, 0, none⟩ 1 1 rfl [16 * A + B] rfl HNEW.out HNS.out HLEN.out HSA.out ?_; intro v' w2 own2 hg2) | (go_simp; (with_reducible refine (C1.out _).mono ?_); rintro e w' ⟨rfl, rfl⟩) | (go_simp; (with_reducible refine (C2.out _).mono ?_); rintro e w' ⟨rfl, rfl⟩))
      all_goals
        have B2 := HOWN.out.below HBA.out HSA.out hg2
        have own3 : OwnB w2 w1.heap.size 5 v' (acc ++ [(16 * A + B).toNat.toUInt8]) := own2
        clear own2 hg2
        go_wp2_with fail
        go_roundw
        case rel => exact ⟨T.extract 2 T.size, acc ++ [(16 * A + B).toNat.toUInt8], rfl, by rw [HRZ.out]; omega, by rw [HRZ.out, List.length_append, List.length_singleton]; omega, own3, by show _ = _; rw [HREST.out, List.append_assoc]; exact HRR.out, B2⟩
        case measure => show (T.extract 2 T.size).size < T.size; rw [HRZ.out]; omega
    · have hli : ¬ (1 : Int) < (T.size : Int) := by omega
      have hr := hR.out
      rw [unhexG_short (by omega), List.append_nil] at hr
      subst hr
      have hcv := run_ownB_string (P := Tryz.prog) (src := 77) (dst := 9) Tryz.underlying77 Tryz.underlying5 Tryz.underlying9 hown
      obtain ⟨⟨c0, c1, c2, f0, f1, f2, hlt⟩, bw⟩ := HRES.out _ hb
      go_wp2_with fail
      exact bodyPost_ret (v := .agg #[.bool false, .int .i64 0, .string ⟨acc.toArray⟩]) (by simp [results, Tryz.results193, go_sem, c0, c1, c2]) rfl ⟨rfl, ((bw.setCell (Nat.le_refl _) _).setCell (Nat.le_refl _) _).setCell (Nat.le_refl _) _⟩
end Go.Proofs.YtcdmiiaamajfoaaGreatDoor
namespace Go.Proofs.YtcdmiiaamajfoaaGreatDoor
open Go.RowKit Go.Ms Go.Lib

/-- The eight bytes of a number without a sign. -/
def num8 (U : Int) : List Int := [U / 72057594037927936, U / 281474976710656 % 256, U / 1099511627776 % 256, U / 4294967296 % 256, U / 16777216 % 256, U / 65536 % 256, U / 256 % 256, U % 256]

theorem conv_newT {P : Program} (w : World) (n : Nat) (hn : n = w.heap.size) (src e e' : TypeId) (hs : P.underlying src = some (.slice e)) (he : P.underlying e = some (.int .u8)) (ns : List Int) (dst : TypeId) (hd : P.underlying dst = some .string) :
    (convert src dst (.slice (some ⟨n, 0, none⟩) ns.length ns.length)).run P (w.alloc (.cells (ns.map (Value.int .u8)).toArray e')) = .ok (.string (strOfNums ns)) (w.alloc (.cells (ns.map (Value.int .u8)).toArray e')) := by
  refine run_convert_bytes_arg _ src e hs he _ 0 _ _ ns rfl (fun i hi => ?_) dst hd
  rw [Nat.zero_add, World.cell?_alloc_at _ _ _ _ hn]
  simp [hi]
set_option maxRecDepth 100000 in
set_option maxHeartbeats 4000000 in
theorem number_str (n : Int) (nu : Bool) (S : ByteArray) (w : World) (h0 : -9223372036854775808 ≤ n) (h1 : n ≤ 9223372036854775807) :
    Calls Tryz.prog 184 #[.agg #[.bool nu, .int .i64 n, .string S]] w fun e w' => e = .returned (.string (strOfNums (num8 (n + 9223372036854775808)))) ∧ Below w.heap.size w w' := by
  have fx := flip_up n h0 h1
  have u0 : 0 ≤ n + 9223372036854775808 := by omega
  have u1 : n + 9223372036854775808 < 18446744073709551616 := by omega
  generalize n + 9223372036854775808 = U at *
  have kc := fun (w : World) (n : Nat) (hn : n = w.heap.size) (a b c d e f g h : Int) => conv_newT (P := Tryz.prog) w n hn 77 5 207 Tryz.underlying77 Tryz.underlying5 [a, b, c, d, e, f, g, h] 9 Tryz.underlying9
  simp only [List.map_cons, List.map_nil, List.length_cons, List.length_nil, Nat.zero_add, Nat.reduceAdd] at kc
  go_enter Tryz.func184, Tryz.ntmps184
  go_wp2_with fail
  go_rounds 9
  go_ret
  exact ⟨rfl, ((Below.refl _ _).alloc (Nat.le_refl _) _).alloc (by simp) _⟩
end Go.Proofs.YtcdmiiaamajfoaaGreatDoor
namespace Go.Ms
/-- The number of bytes, the highest first. -/
def beD (l : Bs) : Nat := l.foldl (fun u c => 256 * u + c.toNat) 0
theorem beD_snoc (l : Bs) (c : UInt8) : beD (l ++ [c]) = 256 * beD l + c.toNat := by unfold beD; rw [List.foldl_append]; rfl
theorem be_lt : ∀ (l : Bs) (u : Nat), l.foldl (fun u c => 256 * u + c.toNat) u < (u + 1) * 256 ^ l.length
  | [], u => by simp
  | c :: l, u => by
    have h := be_lt l (256 * u + c.toNat)
    have hc := UInt8.toNat_lt c
    rw [List.foldl_cons, List.length_cons, Nat.pow_succ]
    have h2 : (256 * u + c.toNat + 1) * 256 ^ l.length ≤ (256 * (u + 1)) * 256 ^ l.length := Nat.mul_le_mul_right _ (by omega)
    have h3 : (256 * (u + 1)) * 256 ^ l.length = (u + 1) * (256 ^ l.length * 256) := by rw [Nat.mul_comm 256 (u + 1), Nat.mul_assoc, Nat.mul_comm 256 _]
    omega
theorem beD_lt (l : Bs) : beD l < 256 ^ l.length := by
  have := be_lt l 0
  simpa [beD] using this
theorem or_8 (u c : Int) (h0 : 0 ≤ u) (h1 : u < 72057594037927936) (h2 : 0 ≤ c) (h3 : c < 256) : bits .or .u64 (u * 256) c = 256 * u + c := by
  rw [u64_or _ _ (by omega) (by omega) h2 (by omega)]
  have e : (u * 256).toNat = u.toNat <<< 8 := by rw [Nat.shiftLeft_eq]; omega
  rw [e, ← Nat.shiftLeft_add_eq_or_of_lt (by omega), Nat.shiftLeft_eq]
  omega
/-- What unnumber answers. -/
def unnumD (l : Bs) : Int × Nat × Int := if l.length < 8 then (0, 0, 3) else ((beD (l.take 8) : Int) - 9223372036854775808, 8, 0)
end Go.Ms
namespace Go.Proofs.YtcdmiiaamajfoaaGreatDoor
open Go.RowKit Go.Ms Go.Lib

theorem be_take (l : Bs) (k : Nat) (h : k < l.length) : beD (l.take (k + 1)) = 256 * beD (l.take k) + (l[k]).toNat := by
  rw [List.take_succ_eq_append_getElem h, beD_snoc]
theorem pow_le8 {k : Nat} (h : k < 8) : 256 ^ k ≤ 72057594037927936 := by
  have : 256 ^ k ≤ 256 ^ 7 := Nat.pow_le_pow_right (by omega) (by omega)
  simpa using this

set_option maxRecDepth 100000 in
set_option maxHeartbeats 4000000 in
theorem unnumber_any (S : ByteArray) (w : World) (hs : S.size ≤ 100000) :
    Calls Tryz.prog 185 #[.string S] w fun e w' => e = .returned (.tuple #[.agg #[.bool false, .int .i64 (unnumD S.data.toList).1, .string ⟨#[]⟩], .int .i64 (unnumD S.data.toList).2.1, .int .i64 (unnumD S.data.toList).2.2]) ∧ Below w.heap.size w w' := by
  have hl : S.data.toList.length = S.size := by simp
  obtain ⟨R, hR⟩ : ∃ R, unnumD S.data.toList = R := ⟨_, rfl⟩
  rw [hR]
  unfold unnumD at hR
  obtain ⟨W0, hW0⟩ : ∃ W0, w.alloc (.cells #[.bool false, .int .i64 0, .string ⟨#[]⟩] 23) = W0 := ⟨_, rfl⟩
  have hsz0 : W0.heap.size = w.heap.size + 1 := by rw [← hW0]; simp
  have B0 : Below w.heap.size w W0 := by rw [← hW0]; exact (Below.refl _ w).alloc (Nat.le_refl _) _
  have res : ∀ w1, Below W0.heap.size W0 w1 → Res3 w1 w.heap.size (.bool false) (.int .i64 0) (.string ⟨#[]⟩) ∧ Below w.heap.size w w1 := by
    intro w1 hb
    refine ⟨?_, B0.trans (hb.mono (by omega))⟩
    subst hW0
    exact res3_made _ _ _ _ (hb.mono (by simp))
  by_cases h8 : S.size < 8
  · rw [if_pos (by omega)] at hR
    subst hR
    obtain ⟨⟨c0, c1, c2, f0, f1, f2, hlt⟩, bw⟩ := res W0 (Below.refl _ _)
    have h8' : (S.size : Int) < 8 := by omega
    have HW0 := Lib.hid hW0
    clear res hW0 hsz0
    go_enter Tryz.func185, Tryz.ntmps185
    go_wp2
    exact bodyPost_ret (v := .tuple #[.agg #[.bool false, .int .i64 0, .string ⟨#[]⟩], .int .i64 0, .int .i64 3]) (by simp [results, Tryz.results185, go_sem]) rfl ⟨rfl, (Below.refl _ _).alloc (Nat.le_refl _) _⟩
  · rw [if_neg (by omega)] at hR
    have HR := Lib.hid hR
    have h8' : ¬ (S.size : Int) < 8 := by omega
    have h8i : (8 : Int) ≤ (S.size : Int) := by omega
    obtain ⟨T, hT⟩ : ∃ T, S.extract 0 8 = T := ⟨_, rfl⟩
    have hTl : T.data.toList = S.data.toList.take 8 := by rw [← hT, ext_list]; simp
    have hTz : T.size = 8 := by rw [← hT, ByteArray.size_extract]; omega
    have kb := Lib.run_convert_string_bytes (P := Tryz.prog) W0 9 77 5 T Tryz.underlying9 Tryz.underlying77 Tryz.underlying5
    rw [hTz, hsz0] at kb
    generalize grownCap W0 8 0 5 = cap at kb
    have hcells : ∀ j, j < 8 → (Lib.bytesWorld W0 5 T).cell? ⟨W0.heap.size, j, none⟩ = some (.int .u8 ((bt T.data.toList j : Nat) : Int)) := fun j hj => Lib.bytesWorld_cell W0 5 T j (by omega)
    have hbb := Joins.below_bytesWorld W0.heap.size W0 5 T (Nat.le_refl _)
    have hszb := Lib.bytesWorld_size W0 5 T
    obtain ⟨W2, hW2⟩ : ∃ W2, Lib.bytesWorld W0 5 T = W2 := ⟨_, rfl⟩
    rw [hW2] at hcells hbb hszb kb
    rw [← hT, ← hW0] at kb
    have HC := Lib.hid hcells; have HT := Lib.hid hT; have HW2 := Lib.hid hW2; have HW0 := Lib.hid hW0; have HRES := Lib.hid res; have HTL := Lib.hid hTl; have HTZ := Lib.hid hTz; have HSB := Lib.hid hszb; have HS0 := Lib.hid hsz0
    clear hcells hT hW2 hW0 res hTl hTz hR hszb hsz0
    go_enter Tryz.func185, Tryz.ntmps185
    go_wp2_with fail
    go_loopw [5, 16] (fun u i wr => ∃ k : Nat, i = .int .i64 k ∧ k ≤ 8 ∧ u = .int .u64 ((beD (T.data.toList.take k) : Nat) : Int) ∧ wr = W2) (fun _ i _ => 8 - (RowKit.intOf i).toNat)
    case atStart => exact ⟨0, rfl, by omega, rfl, rfl⟩
    case round =>
      obtain ⟨k, rfl, hk, rfl, hwr⟩ := hrel
      subst hwr
      by_cases hlt : k < 8
      · have hli : (k : Int) < 8 := by omega
        have hck := HC.out k hlt
        rw [HS0.out] at hck
        have hTlen : T.data.toList.length = 8 := by rw [← HTZ.out]; simp
        have hsn := be_take T.data.toList k (by omega)
        have hbe : bt T.data.toList k = (T.data.toList[k]'(by omega)).toNat := by
          have : k < T.size := by rw [HTZ.out]; exact hlt
          simp [bt, List.getD_eq_getElem?_getD, this]
        rw [← hbe] at hsn
        have hx := bt_lt T.data.toList k
        have hlt2 := beD_lt (T.data.toList.take k)
        rw [List.length_take, hTlen, Nat.min_eq_left (by omega)] at hlt2
        have hp := pow_le8 hlt
        have hU : beD (T.data.toList.take k) < 72057594037927936 := Nat.lt_of_lt_of_le hlt2 hp
        generalize bt T.data.toList k = x at *
        have HSN := Lib.hid hsn
        clear hsn hbe hlt2 hp hTlen
        generalize beD (T.data.toList.take k) = u at *
        have w1 : IntKind.u64.wrap ((u : Int) * 256) = (u : Int) * 256 := IntWalk.u64_in _ (by omega)
        have w2 := or_8 (u : Int) (x : Int) (by omega) (by omega) (by omega) (by omega)
        go_wp2_with fail
        go_roundw
        case rel => exact ⟨k + 1, by go_num, by omega, by rw [HSN.out]; go_num, trivial⟩
        case measure => simp [RowKit.intOf]; omega
      · obtain rfl : k = 8 := by omega
        obtain ⟨⟨c0, c1, c2, f0, f1, f2, hlt⟩, bw⟩ := HRES.out _ hbb
        have hlt2 := beD_lt (T.data.toList.take 8)
        have hr := HR.out
        rw [← HTL.out] at hr
        have htt : T.data.toList.take 8 = T.data.toList := List.take_of_length_le (by have := HTZ.out; simp; omega)
        rw [htt] at hlt2 ⊢
        have hU : beD T.data.toList < 18446744073709551616 := by
          have hTlen : T.data.toList.length = 8 := by rw [← HTZ.out]; simp
          rw [hTlen] at hlt2
          exact hlt2
        clear htt hlt2
        have fd := flip_down (beD T.data.toList : Int) (by omega) (by omega)
        generalize beD T.data.toList = u at *
        subst hr
        go_wp2_with fail
        exact bodyPost_ret (v := .tuple #[.agg #[.bool false, .int .i64 ((u : Int) - 9223372036854775808), .string ⟨#[]⟩], .int .i64 8, .int .i64 0]) (by simp [results, Tryz.results185, go_sem, c0, c1, c2]) rfl ⟨rfl, ((bw.setCell (Nat.le_refl _) _).setCell (Nat.le_refl _) _).setCell (Nat.le_refl _) _⟩
end Go.Proofs.YtcdmiiaamajfoaaGreatDoor
