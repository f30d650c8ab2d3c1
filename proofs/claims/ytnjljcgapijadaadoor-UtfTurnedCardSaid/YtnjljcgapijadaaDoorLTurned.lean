import Derived.Test.YtnjljcgapijadaaDoorL2
import Derived.Test.YtnjljcgapijadaaDoorU8
import Derived.Deep.RegionLaw
import Derived.Deep.RegionWith
set_option linter.unusedVariables false
namespace Go.Proofs.YtnjljcgapijadaaDoor
open Go.RowKit Go.Ms Go.Lib

theorem turned_text (zs : List Int) (c : UInt8) (hc : c.toNat < 128) (k : Nat) (hk : k < (textD zs).length) :
    validD ((textD zs).take k ++ c :: (textD zs).drop (k + 1)) = decide (bt (textD zs) k < 128) := by
  have h := turned (zs.map oneD) (by intro r hr; obtain ⟨n, _, rfl⟩ := List.mem_map.1 hr; exact oneD_rune n) k c [] rfl hc
  have e : (zs.map oneD).flatMap encodeRune = textD zs := by unfold textD; rw [List.flatMap_map]
  rw [e] at h
  rw [List.append_nil] at h
  exact h hk
theorem valid_text (zs : List Int) : validD (textD zs) = true := by
  induction zs with
  | nil => rfl
  | cons a t ih =>
    unfold textD at ih ⊢
    rw [List.flatMap_cons, valid_enc _ _ (oneD_rune a)]
    exact ih

set_option maxRecDepth 100000 in
set_option maxHeartbeats 1000000 in
theorem utfTurned_walk (a0 : Option Addr) (len0 cap0 : Nat) (z0 : List Int) (i c : Int) (w : World) (h0 : IsRow .i64 w a0 len0 cap0 z0) (hi : (Lit.int .i64 i).wf = true) (hc : (Lit.int .u8 c).wf = true) (hT : Tabs w) :
    Calls Tryd.prog 11 #[.slice a0 len0 cap0, .int .i64 i, .int .u8 c] w fun e w' => e = .returned (.bool true) ∧ Below w.heap.size w w' := by
  have hib : -9223372036854775808 ≤ i ∧ i ≤ 9223372036854775807 := by simpa [Lit.wf, IntKind.min, IntKind.max, IntKind.signed, IntKind.bits] using hi
  have hcb : 0 ≤ c ∧ c ≤ 255 := by simpa [Lit.wf, IntKind.min, IntKind.max, IntKind.signed, IntKind.bits] using hc
  have c1 := text_any a0 len0 cap0 z0 w h0.rowIn
  have hl0 := textD_len (z0.take (min len0 60))
  have hl1 : (z0.take (min len0 60)).length ≤ 60 := by rw [List.length_take]; omega
  have hv := valid_text (z0.take (min len0 60))
  have ht := turned_text (z0.take (min len0 60))
  generalize textD (z0.take (min len0 60)) = t at *
  have htl : t.length ≤ 240 := by omega
  clear hl0 hl1 hi hc h0
  obtain ⟨S, hS⟩ : ∃ S : ByteArray, S = ⟨t.toArray⟩ := ⟨_, rfl⟩
  have hSl : S.data.toList = t := by rw [hS]
  have hSz : S.size = t.length := by rw [hS]; exact List.size_toArray
  rw [← hS] at c1
  have cv := fun w' (hT' : Tabs w') => valid_any S w' (by omega) hT'
  rw [hSl, hv] at cv
  have C1 := Lib.hid c1; have CV := Lib.hid cv
  clear c1 cv hS hv
  by_cases hte : t = []
  · have hs0 : S.toList = [] := by rw [Lib.toList_data, hSl, hte]
    have hs1 : S.toList.isEmpty = true := by rw [hs0]; rfl
    go_enter Tryd.func11, Tryd.ntmps11
    go_wp2_with fail
    refine C1.out.mono ?_
    rintro en w1 ⟨rfl, b1⟩
    have T1 := tabs_below hT b1
    go_wp2_with fail
    refine (CV.out _ T1).mono ?_
    rintro en w2 ⟨rfl, b2⟩
    have B2 := b1.trans (b2.mono b1.size)
    have T2 := tabs_below T1 b2
    go_wp2_with fail
    refine (works_any _ T2).mono ?_
    rintro en w3 ⟨rfl, b3⟩
    go_wp2_with fail
    go_ret
    exact ⟨rfl, B2.trans (b3.mono B2.size)⟩
  · have hpos : 0 < t.length := List.length_pos_iff.2 hte
    have hs1 : S.toList.isEmpty = false := by rw [Lib.toList_data, hSl]; simpa using hte
    have hs2 : ¬ S.toList = [] := by rw [Lib.toList_data, hSl]; exact hte
    obtain ⟨j, hj⟩ : ∃ j, i % (S.size : Int) = j := ⟨_, rfl⟩
    have j0 : 0 ≤ j ∧ j < (S.size : Int) := by rw [← hj]; exact ⟨Int.emod_nonneg _ (by omega), Int.emod_lt_of_pos _ (by omega)⟩
    have cb := fun w' => bring_any i (S.size : Int) w' hib.1 hib.2 (by omega) (by omega)
    rw [hj] at cb
    obtain ⟨k, rfl⟩ : ∃ k : Nat, j = k := ⟨j.toNat, by omega⟩
    have hk : k < S.size := by omega
    have hkt : k < t.length := by omega
    obtain ⟨x, hx⟩ : ∃ x, c % 128 = x := ⟨_, rfl⟩
    have hx0 : 0 ≤ x ∧ x < 128 := by omega
    have htn := ht x.toNat.toUInt8 (by have := toU8_toNat (x := x) (by omega) (by omega); omega) k hkt
    have hg : ((S[k]'hk).toNat : Int) = (bt t k : Int) := by rw [get_of, hSl]; rfl
    obtain ⟨T', hT'⟩ : ∃ T' : ByteArray, S.extract 0 k ++ strOfNums [x] ++ S.extract (k + 1) S.size = T' := ⟨_, rfl⟩
    have hTl : T'.data.toList = t.take k ++ x.toNat.toUInt8 :: t.drop (k + 1) := by
      rw [← hT']
      simp only [ByteArray.data_append, Array.toList_append, ext_list, hSl, List.drop_zero]
      rw [List.take_of_length_le (l := t) (i := S.size) (by omega)]
      simp [strOfNums]
    have hTz : T'.size ≤ 1000 := by
      have := congrArg List.length hTl
      simp at this; omega
    have cv2 := fun w' (hT'' : Tabs w') => valid_any T' w' (by omega) hT''
    rw [hTl, htn] at cv2
    have kc := fun (w : World) (n : Nat) (hn : n = w.heap.size) (a : Int) => conv_new (P := Tryd.prog) w n hn 46 5 Tryd.underlying46 Tryd.underlying5 [a] 9 Tryd.underlying9
    simp only [List.map_cons, List.map_nil, List.length_cons, List.length_nil, Nat.zero_add] at kc
    have CB := Lib.hid cb; have CV2 := Lib.hid cv2; have HT := Lib.hid hT'; have HX := Lib.hid hx
    have j1 : (k : Int) < (S.size : Int) := by omega
    have hTb := hT
    have x1 : 0 ≤ x := hx0.1
    have x2 : x < 128 := hx0.2
    have x3 : IntKind.u8.wrap x = x := IntWalk.u8_in _ (by omega)
    have cm : c.tmod 128 = x := by rw [Int.tmod_eq_emod_of_nonneg hcb.1]; exact HX.out
    have k1 : IntKind.i64.wrap ((k : Int) + 1) = (k : Int) + 1 := IntWalk.i64_in _ (by omega)
    have k2 : 0 ≤ (k : Int) + 1 := by omega
    have k3 : ((k : Int) + 1).toNat = k + 1 := by omega
    have k4 : (k : Int) + 1 ≤ (S.size : Int) := by omega
    have kcd : ∀ (w : World) (n : Nat) (hn : n = w.heap.size) (a : Int), (convert 46 9 (.slice (some ⟨n, 0, none⟩) 1 1)).run Tryd.prog (w.alloc (.cells #[.int .u8 a] 5)).drew = .ok (.string (strOfNums [a])) (w.alloc (.cells #[.int .u8 a] 5)).drew := fun w n hn a => kc w.drew n hn a
    have q1 : ¬ 9223372036854775807 < min k S.size + (strOfNums [x]).size := by rw [strOfNums_size, List.length_singleton]; omega
    have q2 : ¬ 9223372036854775807 < min k S.size + (strOfNums [x]).size + (S.size - (k + 1)) := by rw [strOfNums_size, List.length_singleton]; omega
    have HSZ := Lib.hid hSz
    have k5 : (k : Int) ≤ (S.size : Int) := by omega
    have k6 : 0 ≤ (k : Int) := by omega
    clear cb cv2 hT' hx hTl htn ht hj hte hx0 hs2 hSz hSl hpos hkt htl
    go_enter Tryd.func11, Tryd.ntmps11
    go_wp2_with fail
    refine C1.out.mono ?_
    rintro en w1 ⟨rfl, b1⟩
    have T1 := tabs_below hT b1
    go_wp2_with fail
    refine (CB.out _).mono ?_
    rintro en w2 ⟨rfl, rfl⟩
    go_wp2_with fail
    go_region_law (fail)
    all_goals
      go_wp2_with fail
      rw [HT.out]
      have B2 : Below w.heap.size w (w1.alloc (.cells #[.int .u8 x] 5)).drew := below_drewN (b1.alloc b1.size _) 1
      have T2 : Tabs (w1.alloc (.cells #[.int .u8 x] 5)).drew := tabs_below hT B2
      generalize (w1.alloc (.cells #[.int .u8 x] 5)).drew = w2 at *
      have D2 : Below w.heap.size w w2.drew := below_drewN B2 1
      have D3 : Tabs w2.drew := tabs_below hT D2
      go_region_with (first | ((with_reducible refine (CV.out _ (by assumption)).mono ?_); rintro en w3 ⟨rfl, b3⟩; have T3 := tabs_below D3 b3; have B3 := D2.trans (b3.mono D2.size)) | ((with_reducible refine (CV2.out _ (by assumption)).mono ?_); rintro en w4 ⟨rfl, b4⟩; have T4 := tabs_below T3 b4; have B4 := B3.trans (b4.mono B3.size)) | ((with_reducible refine (works_any _ (by assumption)).mono ?_); rintro en w5 ⟨rfl, b5⟩))
      all_goals
        go_wp2_with fail
        go_ret
        exact ⟨rfl, B4.trans (b5.mono B4.size)⟩
end Go.Proofs.YtnjljcgapijadaaDoor
