import Derived.Test.YtnjljcgapijadaaDoorL4
import Derived.Test.YtnjljcgapijadaaDoorU4
set_option linter.unusedVariables false
namespace Go.Proofs.YtnjljcgapijadaaDoor
open Go.RowKit Go.Ms Go.Lib

set_option maxHeartbeats 400000 in
theorem utfSpelt_walk (a0 : Option Addr) (len0 cap0 : Nat) (z0 : List Int) (a1 : Option Addr) (len1 cap1 : Nat) (z1 : List Int) (w : World) (h0 : IsRow .i64 w a0 len0 cap0 z0) (h1 : IsRow .i64 w a1 len1 cap1 z1) (hT : Tabs w) :
    Calls Tryd.prog 7 #[.slice a0 len0 cap0, .slice a1 len1 cap1] w fun e w' => e = .returned (.bool true) ∧ Below w.heap.size w w' := by
  have c1 := spelt_any a0 a1 len0 cap0 len1 cap1 z0 z1 w h0.rowIn h1.rowIn
  have c2 := fun w' (hb : Below w.heap.size w w') => text_any a0 len0 cap0 z0 w' (isrow_below h0 hb).rowIn
  have hle := h0.rowIn.len_le
  obtain ⟨m, hm⟩ := body_lits z0 z1 len1 (min len0 60) (by omega)
  have hul := unquote_lits (more := []) hm
  have hbl := body_len z0 z1 len1 (min len0 60)
  generalize textD (z0.take (min len0 60)) = t at *
  obtain ⟨q, hq⟩ : ∃ q, 34 :: (bodyD z0 z1 len1 (min len0 60) ++ [34]) = q := ⟨_, rfl⟩
  have hql : q.length = (bodyD z0 z1 len1 (min len0 60)).length + 2 := by rw [← hq]; simp
  rw [hq] at c1 hul
  rw [← hql] at hul
  have hqs : (⟨q.toArray⟩ : ByteArray).size = q.length := List.size_toArray
  have cs := fun w' (hT' : Tabs w') => says_true ⟨q.toArray⟩ ⟨t.toArray⟩ q.length w' (by rw [hqs]; omega) hT' hul
  have C1 := Lib.hid c1; have C2 := Lib.hid c2; have CS := Lib.hid cs
  clear c1 c2 cs h0 h1 hul hm hq hql hqs hbl
  go_enter Tryd.func7, Tryd.ntmps7
  go_wp2_with fail
  refine C1.out.mono ?_
  rintro en w1 ⟨rfl, b1⟩
  go_wp2_with fail
  refine (C2.out _ b1).mono ?_
  rintro en w2 ⟨rfl, b2⟩
  have B2 := b1.trans (b2.mono b1.size)
  go_wp2_with fail
  refine (CS.out _ (tabs_below hT B2)).mono ?_
  rintro en w3 ⟨rfl, b3⟩
  have B3 := B2.trans (b3.mono B2.size)
  go_wp2_with fail
  refine (works_any _ (tabs_below hT B3)).mono ?_
  rintro en w4 ⟨rfl, b4⟩
  go_wp2_with fail
  go_ret
  exact ⟨rfl, B3.trans (b4.mono B3.size)⟩

set_option maxHeartbeats 400000 in
theorem utfCuts_walk (a0 : Option Addr) (len0 cap0 : Nat) (z0 : List Int) (a1 : Option Addr) (len1 cap1 : Nat) (z1 : List Int) (i : Int) (w : World) (h0 : IsRow .i64 w a0 len0 cap0 z0) (h1 : IsRow .i64 w a1 len1 cap1 z1) (hi : (Lit.int .i64 i).wf = true) (hT : Tabs w) :
    Calls Tryd.prog 8 #[.slice a0 len0 cap0, .slice a1 len1 cap1, .int .i64 i] w fun e w' => e = .returned (.bool true) ∧ Below w.heap.size w w' := by
  have hib : -9223372036854775808 ≤ i ∧ i ≤ 9223372036854775807 := by simpa [Lit.wf, IntKind.min, IntKind.max, IntKind.signed, IntKind.bits] using hi
  have c1 := spelt_any a0 a1 len0 cap0 len1 cap1 z0 z1 w h0.rowIn h1.rowIn
  have hle := h0.rowIn.len_le
  obtain ⟨m, hm⟩ := body_lits z0 z1 len1 (min len0 60) (by omega)
  have hbl := body_len z0 z1 len1 (min len0 60)
  obtain ⟨q, hq⟩ : ∃ q, 34 :: (bodyD z0 z1 len1 (min len0 60) ++ [34]) = q := ⟨_, rfl⟩
  have hql : q.length = (bodyD z0 z1 len1 (min len0 60)).length + 2 := by rw [← hq]; simp
  have hqs : (⟨q.toArray⟩ : ByteArray).size = q.length := List.size_toArray
  obtain ⟨j, hj⟩ : ∃ j, i % (q.length : Int) = j := ⟨_, rfl⟩
  have j0 : 0 ≤ j ∧ j < (q.length : Int) := by rw [← hj]; exact ⟨Int.emod_nonneg _ (by omega), Int.emod_lt_of_pos _ (by omega)⟩
  have hcut := unquote_cut hm (m := j.toNat) (by omega)
  rw [hq] at c1 hcut
  have cb := fun w' => bring_any i (q.length : Int) w' hib.1 hib.2 (by omega) (by omega)
  rw [hj] at cb
  have hex : ((⟨q.toArray⟩ : ByteArray).extract 0 j.toNat).data.toList = q.take j.toNat := by rw [ext_list]; simp
  rw [← hex] at hcut
  have hsz : ((⟨q.toArray⟩ : ByteArray).extract 0 j.toNat).size ≤ 100000 := by rw [ByteArray.size_extract, hqs]; omega
  have cs := fun w' (hT' : Tabs w') => fails_true ((⟨q.toArray⟩ : ByteArray).extract 0 j.toNat) 3 w' hsz hT' hcut
  have hjl : j ≤ (q.length : Int) := by omega
  obtain ⟨j0, _⟩ := j0
  have C1 := Lib.hid c1; have CB := Lib.hid cb; have CS := Lib.hid cs
  clear c1 cb cs h0 h1 hm hq hql hqs hbl hcut hex hsz hj hi hib
  go_enter Tryd.func8, Tryd.ntmps8
  go_wp2_with fail
  refine C1.out.mono ?_
  rintro en w1 ⟨rfl, b1⟩
  go_wp2_with fail
  refine (CB.out _).mono ?_
  rintro en w2 ⟨rfl, rfl⟩
  go_wp2_with fail
  refine (CS.out _ (tabs_below hT b1)).mono ?_
  rintro en w3 ⟨rfl, b3⟩
  have B3 := b1.trans (b3.mono b1.size)
  go_wp2_with fail
  refine (works_any _ (tabs_below hT B3)).mono ?_
  rintro en w4 ⟨rfl, b4⟩
  go_wp2_with fail
  go_ret
  exact ⟨rfl, B3.trans (b4.mono B3.size)⟩
end Go.Proofs.YtnjljcgapijadaaDoor
