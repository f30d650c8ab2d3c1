import Derived.Test.YtnjljcgapijadaaDoorLRunes
import Derived.Test.YtnjljcgapijadaaDoorLQuotes
import Derived.Test.YtnjljcgapijadaaDoorL2
import Derived.Deep.RegionWith
import Derived.Deep.RegionHeld3
set_option linter.unusedVariables false
namespace Go.Proofs.YtnjljcgapijadaaDoor
open Go.RowKit Go.Ms Go.Lib

theorem runes_ok (s : ByteArray) (r : Int) (w : World) (hs : s.size ≤ 1000) (h0 : -2147483648 ≤ r) (h1 : r ≤ 2147483647) (hT : Tabs w) :
    Calls Tryd.prog 3 #[.string s, .int .i32 r] w fun e w' => e = .returned (.bool true) ∧ Below w.heap.size w w' :=
  utfRunes_walk s r w (by unfold maxLen; omega) (by simp [Lit.wf, IntKind.min, IntKind.max, IntKind.signed, IntKind.bits]; omega) hT
theorem quotes_ok (s t : ByteArray) (w : World) (hs : s.size ≤ 1000) (ht : t.size ≤ 1000) (hT : Tabs w) :
    Calls Tryd.prog 4 #[.string s, .string t] w fun e w' => e = .returned (.bool true) ∧ Below w.heap.size w w' :=
  utfQuotes_walk s t w (by unfold maxLen; omega) (by unfold maxLen; omega) hT

theorem keep_cell {W w w' : World} {p : Addr} {v : Value} (h : w.cell? p = some v) (hb : Below W.heap.size W w) (hb' : Below w.heap.size w w') : w'.cell? p = some v ∧ Below W.heap.size W w' :=
  ⟨by rw [hb'.cell (cell_lt h)]; exact h, hb.trans (hb'.mono hb.size)⟩
theorem keep_pair {W w w' : World} {p : Addr} {v : Value} (h : w.cell? p = some v ∧ Below W.heap.size W w) (hb' : Below w.heap.size w w') : w'.cell? p = some v ∧ Below W.heap.size W w' := keep_cell h.1 h.2 hb'
theorem keep_right {W w : World} {p : Addr} {v : Value} (h : w.cell? p = some v ∧ Below W.heap.size W w) : Below W.heap.size W w := h.2
def heads : List ByteArray := [⟨#[]⟩, ⟨#[97]⟩, ⟨#[194]⟩, ⟨#[223]⟩, ⟨#[224]⟩, ⟨#[224, 160]⟩, ⟨#[225, 128]⟩, ⟨#[237]⟩, ⟨#[239, 191]⟩, ⟨#[240]⟩, ⟨#[240, 144]⟩, ⟨#[241, 128, 128]⟩, ⟨#[244]⟩, ⟨#[244, 143, 191]⟩, ⟨#[92]⟩, ⟨#[92, 117]⟩, ⟨#[92, 117, 100]⟩, ⟨#[92, 117, 68, 56]⟩, ⟨#[92, 117, 48, 48]⟩, ⟨#[92, 117, 100, 56, 51]⟩, ⟨#[92, 117, 100, 56, 51, 100]⟩, ⟨#[92, 117, 100, 56, 51, 100, 92]⟩, ⟨#[92, 117, 100, 56, 51, 100, 92, 117]⟩, ⟨#[92, 117, 100, 56, 51, 100, 92, 117, 100]⟩, ⟨#[92, 117, 100, 56, 51, 100, 92, 117, 100, 99, 48]⟩]
def ends : List Int := [-2147483648, -1, 0, 127, 128, 2047, 2048, 55295, 55296, 56319, 56320, 57343, 57344, 65535, 65536, 1114111, 1114112, 2147483647]
theorem row_cell (w : World) (e : TypeId) (vs : List Value) (i : Nat) (h : i < vs.length) : (w.alloc (.cells vs.toArray e)).cell? ⟨w.heap.size, i, none⟩ = some vs[i] := by
  rw [Lib.cell_of_heap (heap_alloc_new w _)]
  simp [h]
theorem heads_size : ∀ i : Fin 25, (heads.getD i.val ByteArray.empty).size ≤ 11 := by decide
theorem heads_cell (w : World) (e : TypeId) (i : Nat) (h : i < 25) : (w.alloc (.cells (heads.map Value.string).toArray e)).cell? ⟨w.heap.size, i, none⟩ = some (.string (heads.getD i ByteArray.empty)) := by
  rw [row_cell w e (heads.map Value.string) i (by simpa [heads] using h)]
  simp [List.getD_eq_getElem?_getD, show i < heads.length by simpa [heads] using h]
theorem ends_cell (w : World) (e : TypeId) (i : Nat) (h : i < 18) : (w.alloc (.cells (ends.map (Value.int .i32)).toArray e)).cell? ⟨w.heap.size, i, none⟩ = some (.int .i32 (ends.getD i 0)) := by
  rw [row_cell w e (ends.map (Value.int .i32)) i (by simpa [ends] using h)]
  simp [List.getD_eq_getElem?_getD, show i < ends.length by simpa [ends] using h]
theorem ends_bd : ∀ i : Fin 18, -2147483648 ≤ ends.getD i.val 0 ∧ ends.getD i.val 0 ≤ 2147483647 := by decide

set_option maxRecDepth 100000 in
set_option maxHeartbeats 8000000 in
theorem utfKnown_walk (w : World) (hT : Tabs w) :
    Calls Tryd.prog 12 #[] w fun e w' => e = .returned (.bool true) ∧ Below w.heap.size w w' := by
  have kc := fun (w : World) (n : Nat) (hn : n = w.heap.size) (a : Int) => conv_new (P := Tryd.prog) w n hn 46 5 Tryd.underlying46 Tryd.underlying5 [a] 9 Tryd.underlying9
  simp only [List.map_cons, List.map_nil, List.length_cons, List.length_nil, Nat.zero_add] at kc
  have hcell := fun i h => heads_cell w 9 i h
  have HC := Lib.hid hcell
  have hB0 : Below w.heap.size w (w.alloc (.cells (heads.map Value.string).toArray 9)) := (Below.refl _ _).alloc (Nat.le_refl _) _
  have hsz : (w.alloc (.cells (heads.map Value.string).toArray 9)).heap.size = w.heap.size + 1 := by simp
  have HSZ := Lib.hid hsz
  clear hcell hsz
  obtain ⟨W, hW⟩ : ∃ W, w.alloc (.cells (heads.map Value.string).toArray 9) = W := ⟨_, rfl⟩
  rw [hW] at HC HSZ hB0
  have HW := Lib.hid hW
  have hWT := tabs_below hT hB0
  clear hW
  go_enter Tryd.func12, Tryd.ntmps12
  go_wp2_with fail
  rw [show w.alloc (.cells #[.string ⟨#[]⟩, .string ⟨#[97]⟩, .string ⟨#[194]⟩, .string ⟨#[223]⟩, .string ⟨#[224]⟩, .string ⟨#[224, 160]⟩, .string ⟨#[225, 128]⟩, .string ⟨#[237]⟩, .string ⟨#[239, 191]⟩, .string ⟨#[240]⟩, .string ⟨#[240, 144]⟩, .string ⟨#[241, 128, 128]⟩, .string ⟨#[244]⟩, .string ⟨#[244, 143, 191]⟩, .string ⟨#[92]⟩, .string ⟨#[92, 117]⟩, .string ⟨#[92, 117, 100]⟩, .string ⟨#[92, 117, 68, 56]⟩, .string ⟨#[92, 117, 48, 48]⟩, .string ⟨#[92, 117, 100, 56, 51]⟩, .string ⟨#[92, 117, 100, 56, 51, 100]⟩, .string ⟨#[92, 117, 100, 56, 51, 100, 92]⟩, .string ⟨#[92, 117, 100, 56, 51, 100, 92, 117]⟩, .string ⟨#[92, 117, 100, 56, 51, 100, 92, 117, 100]⟩, .string ⟨#[92, 117, 100, 56, 51, 100, 92, 117, 100, 99, 48]⟩] 9) = W from HW.out]
  go_loopw [2] (fun c wr => ∃ k : Nat, k ≤ 256 ∧ c = .int .i64 k ∧ Below W.heap.size W wr) (fun c _ => 256 - (RowKit.intOf c).toNat)
  case atStart => exact ⟨0, by omega, rfl, Below.refl _ _⟩
  case round =>
    obtain ⟨k, hk, rfl, hb⟩ := hrel
    by_cases hlt : k < 256
    · have hki : (k : Int) < 256 := by omega
      have u1 : IntKind.u8.wrap (k : Int) = (k : Int) := IntWalk.u8_in _ (by omega)
      have hbs := hb.size
      have hb1 : Below W.heap.size W (wr.alloc (.cells #[.int .u8 (k : Int)] 5)) := hb.alloc hbs _
      obtain ⟨b, hbe⟩ : ∃ b, strOfNums [(k : Int)] = b := ⟨_, rfl⟩
      have hbz : b.size ≤ 1 := by rw [← hbe, strOfNums_size]; simp
      have HBE := Lib.hid hbe
      clear hbe
      go_wp2_with fail
      rw [HBE.out]
      go_loopw [4] (fun c wi => ∃ j : Nat, j ≤ 25 ∧ c = .int .i64 j ∧ Below W.heap.size W wi) (fun c _ => 25 - (RowKit.intOf c).toNat)
      case atStart => exact ⟨0, by omega, rfl, hb1⟩
      case round =>
        obtain ⟨j, hj, rfl, hbi⟩ := hrel
        by_cases hlj : j < 25
        · have hji : (j : Int) < 25 := by omega
          have hc := HC.out j hlj
          have hhz := heads_size ⟨j, hlj⟩
          simp only at hhz
          generalize heads.getD j ByteArray.empty = h at *
          have HCW := Lib.hid hc
          have hci := hc
          rw [← hbi.cell (cell_lt hc)] at hci
          have hTi := tabs_below hWT hbi
          have HTi := Lib.hid hTi
          have l1 : (⟨#[34]⟩ : ByteArray).size = 1 := rfl
          have l2 : (⟨#[128, 128]⟩ : ByteArray).size = 2 := rfl
          have l3 : (⟨#[191]⟩ : ByteArray).size = 1 := rfl
          have l4 : (⟨#[48, 48, 34]⟩ : ByteArray).size = 3 := rfl
          have r1 := fun w' (hB : Below W.heap.size W w') => runes_ok (h ++ b) k w' (by rw [ByteArray.size_append]; omega) (by omega) (by omega) (tabs_below hWT hB)
          have r2 := fun w' (hB : Below W.heap.size W w') => runes_ok (h ++ b ++ ⟨#[128, 128]⟩) ((k : Int) * 4096) w' (by rw [ByteArray.size_append, ByteArray.size_append]; omega) (by omega) (by omega) (tabs_below hWT hB)
          have q1 := fun w' (hB : Below W.heap.size W w') => quotes_ok (h ++ b) (⟨#[34]⟩ ++ h ++ b) w' (by rw [ByteArray.size_append]; omega) (by rw [ByteArray.size_append, ByteArray.size_append]; omega) (tabs_below hWT hB)
          have q2 := fun w' (hB : Below W.heap.size W w') => quotes_ok (h ++ b ++ ⟨#[191]⟩) (⟨#[34]⟩ ++ h ++ b ++ ⟨#[34]⟩) w' (by rw [ByteArray.size_append, ByteArray.size_append]; omega) (by rw [ByteArray.size_append, ByteArray.size_append, ByteArray.size_append]; omega) (tabs_below hWT hB)
          have q3 := fun w' (hB : Below W.heap.size W w') => quotes_ok b (⟨#[34]⟩ ++ h ++ b ++ ⟨#[48, 48, 34]⟩) w' (by omega) (by rw [ByteArray.size_append, ByteArray.size_append, ByteArray.size_append]; omega) (tabs_below hWT hB)
          have R1 := Lib.hid r1; have R2 := Lib.hid r2; have Q1 := Lib.hid q1; have Q2 := Lib.hid q2; have Q3 := Lib.hid q3
          have s1 : ¬ 9223372036854775807 < h.size + b.size := by omega
          have s2 : ¬ 9223372036854775807 < h.size + b.size + 2 := by omega
          have s3 : ¬ 9223372036854775807 < 1 + h.size := by omega
          have s4 : ¬ 9223372036854775807 < 1 + h.size + b.size := by omega
          have s5 : ¬ 9223372036854775807 < h.size + b.size + 1 := by omega
          have s6 : ¬ 9223372036854775807 < 1 + h.size + b.size + 1 := by omega
          have s7 : ¬ 9223372036854775807 < 1 + h.size + b.size + 3 := by omega
          have v1 : IntKind.i32.wrap (k : Int) = (k : Int) := IntWalk.i32_in _ (by omega)
          have v2 : IntKind.i32.wrap ((k : Int) * 4096) = (k : Int) * 4096 := IntWalk.i32_in _ (by omega)
          have hD : wr.drew.cell? ⟨w.heap.size, j, none⟩ = some (.string h) ∧ Below W.heap.size W wr.drew := ⟨hci, below_drewN hbi 1⟩
          have HD := Lib.hid hD
          clear hc hTi r1 r2 q1 q2 q3 hD
          go_wp2_with fail
          simp only [List.append_eq, List.cons_append, List.nil_append]
          go_region_held3 (fun w' => w'.cell? ⟨w.heap.size, j, none⟩ = some (.string h) ∧ Below W.heap.size W w')
            (first
              | exact HD.out
              | exact keep_pair HD.out bb
              | exact keep_pair (by assumption) bb
              | exact keep_cell (by assumption) (by assumption) bb
              | exact ⟨by assumption, by assumption⟩
              | (go_keep; done))
            ((first | ((with_reducible refine (R1.out _ ?_).mono ?_); (first | assumption | exact HD.out.2 | exact (keep_right (by assumption))); rintro en wx ⟨rfl, bb⟩) | ((with_reducible refine (R2.out _ ?_).mono ?_); (first | assumption | exact HD.out.2 | exact (keep_right (by assumption))); rintro en wx ⟨rfl, bb⟩) | ((with_reducible refine (Q1.out _ ?_).mono ?_); (first | assumption | exact HD.out.2 | exact (keep_right (by assumption))); rintro en wx ⟨rfl, bb⟩) | ((with_reducible refine (Q2.out _ ?_).mono ?_); (first | assumption | exact HD.out.2 | exact (keep_right (by assumption))); rintro en wx ⟨rfl, bb⟩) | ((with_reducible refine (Q3.out _ ?_).mono ?_); (first | assumption | exact HD.out.2 | exact (keep_right (by assumption))); rintro en wx ⟨rfl, bb⟩)))
          all_goals
            go_wp2_with fail
            go_roundw
            case rel => exact ⟨j + 1, by omega, by go_num, by first | assumption | exact keep_right (by assumption)⟩
            case measure => simp [RowKit.intOf]; omega
        · obtain rfl : j = 25 := by omega
          go_wp2_with fail
          go_roundw
          case rel => exact ⟨k + 1, by omega, by go_num, hbi⟩
          case measure => simp [RowKit.intOf]; omega
    · obtain rfl : k = 256 := by omega
      obtain ⟨V, hV⟩ : ∃ V, wr.alloc (.cells (ends.map (Value.int .i32)).toArray 21) = V := ⟨_, rfl⟩
      have hcell := fun i h => ends_cell wr 21 i h
      have hbs := hb.size
      have hbV : Below W.heap.size W V := by rw [← hV]; exact hb.alloc hbs _
      have hbw : Below w.heap.size w V := hB0.trans (hbV.mono hB0.size)
      have hbN : Below wr.heap.size wr V := by rw [← hV]; exact (Below.refl _ _).alloc (Nat.le_refl _) _
      rw [hV] at hcell
      have HCE := Lib.hid hcell
      have HV := Lib.hid hV
      have hVT := tabs_below hT hbw
      clear hV hcell hbs HC HSZ hbV hb
      go_wp2_with fail
      rw [show wr.alloc (.cells #[.int .i32 (-2147483648), .int .i32 (-1), .int .i32 0, .int .i32 127, .int .i32 128, .int .i32 2047, .int .i32 2048, .int .i32 55295, .int .i32 55296, .int .i32 56319, .int .i32 56320, .int .i32 57343, .int .i32 57344, .int .i32 65535, .int .i32 65536, .int .i32 1114111, .int .i32 1114112, .int .i32 2147483647] 21) = V from HV.out]
      obtain ⟨B, hB⟩ : ∃ B, wr.heap.size = B := ⟨_, rfl⟩
      have HBB := Lib.hid hB
      rw [hB] at HCE
      rw [hB]
      clear hB
      go_loopw [6] (fun c wi => ∃ j : Nat, j ≤ 18 ∧ c = .int .i64 j ∧ Below V.heap.size V wi) (fun c _ => 18 - (RowKit.intOf c).toNat)
      case atStart => exact ⟨0, by omega, rfl, Below.refl _ _⟩
      case round =>
        obtain ⟨j, hj, rfl, hbi⟩ := hrel
        by_cases hlj : j < 18
        · have hji : (j : Int) < 18 := by omega
          have hc := HCE.out j hlj
          have hrb := ends_bd ⟨j, hlj⟩
          simp only at hrb
          generalize ends.getD j 0 = r at *
          have HCW := Lib.hid hc
          have hci := hc
          rw [← hbi.cell (cell_lt hc)] at hci
          have cp := fun w' => put_any r hrb.1 hrb.2 w'
          have hpl : (put r).length ≤ 4 := by unfold put; split <;> simp [(encodeRune_length r).2]
          obtain ⟨b, hb⟩ : ∃ b : ByteArray, (⟨(put r).toArray⟩ : ByteArray) = b := ⟨_, rfl⟩
          have hbz : b.size ≤ 4 := by rw [← hb]; show (put r).toArray.size ≤ 4; rw [List.size_toArray]; exact hpl
          rw [hb] at cp
          have l1 : (⟨#[34]⟩ : ByteArray).size = 1 := rfl
          have r1 := fun w' (hB : Below V.heap.size V w') => runes_ok b r w' (by omega) hrb.1 hrb.2 (tabs_below hVT hB)
          have r2 := fun w' (hB : Below V.heap.size V w') => runes_ok ⟨#[]⟩ r w' (by decide) hrb.1 hrb.2 (tabs_below hVT hB)
          have q1 := fun w' (hB : Below V.heap.size V w') => quotes_ok b (⟨#[34]⟩ ++ b ++ ⟨#[34]⟩) w' (by omega) (by rw [ByteArray.size_append, ByteArray.size_append]; omega) (tabs_below hVT hB)
          have R1 := Lib.hid r1; have R2 := Lib.hid r2; have Q1 := Lib.hid q1; have CP := Lib.hid cp
          have s1 : ¬ 9223372036854775807 < 1 + b.size := by omega
          have s2 : ¬ 9223372036854775807 < 1 + b.size + 1 := by omega
          have hbs := hbi.size
          clear hc r1 r2 q1 cp hb hpl hrb
          go_wp2_with fail
          refine (CP.out _).mono ?_
          rintro en w4 ⟨rfl, b4⟩
          have B4 := hbi.trans (b4.mono hbs)
          have hc4 : w4.cell? ⟨B, j, none⟩ = some (.int .i32 r) := by rw [B4.cell (cell_lt HCW.out)]; exact HCW.out
          go_wp2_with fail
          refine (R1.out _ B4).mono ?_
          rintro en w5 ⟨rfl, b5⟩
          have B5 := B4.trans (b5.mono B4.size)
          have hc5 : w5.cell? ⟨B, j, none⟩ = some (.int .i32 r) := by rw [B5.cell (cell_lt HCW.out)]; exact HCW.out
          go_wp2_with fail
          refine (R2.out _ B5).mono ?_
          rintro en w6 ⟨rfl, b6⟩
          have B6 := B5.trans (b6.mono B5.size)
          have hc6 : w6.cell? ⟨B, j, none⟩ = some (.int .i32 r) := by rw [B6.cell (cell_lt HCW.out)]; exact HCW.out
          go_wp2_with fail
          refine (Q1.out _ B6).mono ?_
          rintro en w7 ⟨rfl, b7⟩
          have B7 := B6.trans (b7.mono B6.size)
          go_wp2_with fail
          go_roundw
          case rel => first | exact ⟨j + 1, by omega, by go_num, B7⟩ | ((repeat apply Exists.intro); exact ⟨⟨j + 1, by omega, by go_num, B7⟩, rfl⟩)
          case measure => simp [RowKit.intOf]; omega
        · obtain rfl : j = 18 := by omega
          have hTi := tabs_below hVT hbi
          have cw := works_any _ hTi
          have CW := Lib.hid cw
          have hbf := hbw.trans (hbi.mono hbw.size)
          clear cw hTi
          go_wp2_with fail
          refine CW.out.mono ?_
          rintro en w4 ⟨rfl, b4⟩
          go_wp2_with fail
          go_ret
          exact ⟨rfl, hbf.trans (b4.mono hbf.size)⟩
end Go.Proofs.YtnjljcgapijadaaDoor
