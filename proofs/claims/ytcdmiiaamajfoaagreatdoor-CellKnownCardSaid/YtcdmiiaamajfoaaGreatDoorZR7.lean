/- The reference's Unquote. -/
import Derived.Test.YtcdmiiaamajfoaaGreatDoorZRb
import Derived.Test.YtcdmiiaamajfoaaGreatDoorZR6
import Derived.Test.YtcdmiiaamajfoaaGreatDoorZUb
import Derived.Test.YtcdmiiaamajfoaaGreatDoorZBr
set_option linter.unusedVariables false
namespace Go.Proofs.YtcdmiiaamajfoaaGreatDoor
open Go.RowKit Go.Ms Go.Lib

theorem infoU8 : (Tryz.prog.info? 5).map (fun i => (i.zero, i.size, i.bytes)) = some (some (.int .u8 0), 1, 1) := by kernel_rfl

set_option maxRecDepth 100000 in
set_option maxHeartbeats 8000000 in
theorem runquote_any (s : ByteArray) (w : World) (hs : s.size ≤ 10000) :
    Calls Tryz.prog 198 #[.string s] w fun e w' => e = .returned (.tuple #[.string ⟨(unquoteD s.data.toList).1.toArray⟩, .int .i64 (unquoteD s.data.toList).2.1, .int .i64 (unquoteD s.data.toList).2.2]) ∧ Below w.heap.size w w' := by
  have hl : s.data.toList.length = s.size := by simp
  obtain ⟨i0, hi, hz0, hz1, hz2⟩ := info_parts infoU8
  obtain ⟨R, hR⟩ : ∃ R, unquoteD s.data.toList = R := ⟨_, rfl⟩
  rw [hR]
  have HR := Lib.hid hR
  clear hR
  by_cases h0 : s.size = 0
  · have hnil : s.data.toList = [] := List.eq_nil_of_length_eq_zero (by omega)
    have hr := HR.out
    rw [hnil, uq_empty] at hr
    subst hr
    obtain rfl : s = ByteArray.empty := by apply ByteArray.ext; apply Array.toList_inj.1; simpa using hnil
    clear hnil h0
    go_enter Tryz.func198, Tryz.ntmps198
    go_wp2_with fail
    go_ret3
    exact ⟨rfl, Below.refl _ _⟩
  obtain ⟨c, r, hd, hc⟩ := drop_at (l := s.data.toList) (k := 0) (by omega)
  rw [List.drop_zero] at hd
  have hg : ((s[0]'(by omega)).toNat : Int) = (c.toNat : Int) := by rw [get_of, hc]; rfl
  have e1 : s.toList.isEmpty = false := by rw [Lib.toList_data, hd]; rfl
  have e2 : ¬ s.toList = [] := by rw [Lib.toList_data, hd]; simp
  have hcl := UInt8.toNat_lt c
  have hpos : (0 : Int) < (s.size : Int) := by omega
  by_cases h34 : c.toNat = 34
  · have hr := HR.out
    rw [hd, uq_head h34, ← hd] at hr
    have HG := Lib.hid hr
    obtain rfl : c = 34 := UInt8.toNat_inj.1 h34
    have hg' : ((s[0]'(by omega)).toNat : Int) = 34 := hg
    clear hr hd hc hg h34 hcl HR
    go_enter Tryz.func198, Tryz.ntmps198
    go_wp2_with fail
    go_loopw [5, 6] (fun v i wr => ∃ (k N : Nat) (acc : Bs), i = .int .i64 k ∧ 1 ≤ k ∧ k ≤ s.size ∧ s.size + 3 ≤ N + k ∧ acc.length ≤ 4 * k ∧ OwnB wr w.heap.size 5 v acc ∧ Hid (uqGo s.data.toList N acc k 0 = R) ∧ Below w.heap.size w wr)
      (fun _ i _ => s.size - (RowKit.intOf i).toNat)
    case atStart => exact ⟨1, _, [], rfl, by omega, by omega, by omega, by simp, OwnB.nil _ _ _, HG, Below.refl _ _⟩
    case round =>
      obtain ⟨k, N, acc, rfl, k1, kl, hN, hacc, hown, HG, hb⟩ := hrel
      obtain ⟨N, rfl⟩ : ∃ M, N = M + 2 := ⟨N - 2, by omega⟩
      have hbs := hb.size
      by_cases hkl : k = s.size
      · have hr := HG.out
        rw [hkl, ← hl, uq_end] at hr
        subst hr
        have hge : ¬ (k : Int) < (s.size : Int) := by omega
        clear hkl
        go_wp2_with fail
        go_ret3
        exact ⟨rfl, hb⟩
      have hlt : k < s.size := by omega
      have hlti : (k : Int) < (s.size : Int) := by omega
      have hgk : ((s[k]'hlt).toNat : Int) = (bt s.data.toList k : Int) := by rw [get_of]; rfl
      have hbl := bt_lt s.data.toList k
      obtain ⟨x, hx⟩ : ∃ x, bt s.data.toList k = x := ⟨_, rfl⟩
      rw [hx] at hgk hbl
      have HX := Lib.hid hx
      clear hx hkl
      by_cases x34 : x = 34
      · subst x34
        have hr := HG.out
        rw [uq_quote (by omega) HX.out] at hr
        subst hr
        have hcv := run_ownB_string (P := Tryz.prog) (src := 77) (dst := 9) Tryz.underlying77 Tryz.underlying5 Tryz.underlying9 hown
        go_wp2_with fail
        go_ret3
        exact ⟨rfl, hb⟩
      have x34' : ((x : Int) == 34) = false := by rw [beq_eq_false_iff_ne]; omega
      by_cases x32 : x < 32
      · have hr := HG.out
        rw [uq_low (by omega) (by rw [HX.out]; exact x32)] at hr
        subst hr
        have x32' : (x : Int) < 32 := by omega
        go_wp2_with fail
        go_ret3
        exact ⟨rfl, hb⟩
      have x32' : ¬ (x : Int) < 32 := by omega
      have hxe : (s.extract k s.size).data.toList = s.data.toList.drop k := by rw [ext_list, List.take_of_length_le (by omega)]
      have hxs : (s.extract k s.size).size = s.size - k := by simp
      by_cases x92 : x = 92
      · subst x92
        have ce := fun w => rescape_any (s.extract k s.size) w (by omega) (by omega)
        rw [hxe] at ce
        obtain ⟨q, hq⟩ : ∃ q, rEsc (s.data.toList.drop k) = q := ⟨_, rfl⟩
        rw [hq] at ce
        obtain ⟨t, n, e⟩ := q
        simp only at ce
        have CE := Lib.hid ce
        have HQ := Lib.hid hq
        clear ce hq hxe hxs
        by_cases he : e = 0
        · subst he
          obtain ⟨n1, n2, n3, hst⟩ := uq_esc (by omega) HX.out HQ.out
          have hr := HG.out
          rw [hst] at hr
          have HG' := Lib.hid hr
          clear hr hst HG
          have htz : (⟨t.toArray⟩ : ByteArray).size = t.length := List.size_toArray
          have HTZ := Lib.hid htz
          clear htz
          go_wp2_with fail
          refine (CE.out _).mono ?_
          rintro en w1 ⟨rfl, b1⟩
          have own1 := hown.kept b1
          have B1 := hb.trans (b1.mono hbs)
          have hs1 := B1.size
          have hbnd : acc.length + (⟨t.toArray⟩ : ByteArray).size ≤ 140737488355328 := by rw [HTZ.out]; omega
          have HB := Lib.hid hbnd
          clear hbnd
          go_wp2_with (at_builtin; refine wpList_append_str rfl _ _ 77 9 rfl w.heap.size 5 i0 (.int .u8 0) Tryz.underlying77 Tryz.underlying9 hi hz0 hz1 hz2 rfl _ acc rfl own1 ⟨t.toArray⟩ rfl HB.out hs1 ?_)
          intro v' w2 own2 hg2
          have B2 := own1.below B1 hs1 hg2
          clear own1 hg2 hown
          go_wp2_with fail
          go_roundw
          case rel => exact ⟨k + n, N + 1, acc ++ t, by go_num, by omega, by omega, by omega, by rw [List.length_append]; omega, own2, HG', B2⟩
          case measure => simp [RowKit.intOf]; omega
        · have hr := HG.out
          rw [uq_escerr (by omega) HX.out he HQ.out] at hr
          subst hr
          have he1 : (e == 0) = false := by simpa using he
          have he2 : (e != 0) = true := by simpa using he
          clear he
          go_wp2_with fail
          refine (CE.out _).mono ?_
          rintro en w1 ⟨rfl, b1⟩
          go_wp2_with fail
          go_ret3
          exact ⟨rfl, hb.trans (b1.mono hbs)⟩
      have x92' : ((x : Int) == 92) = false := by rw [beq_eq_false_iff_ne]; omega
      have cn := fun w => rnext_any (s.extract k s.size) w (by omega)
      have cb := fun w => begins_any (s.extract k s.size) w (by omega) (by omega)
      rw [hxe] at cn cb
      obtain ⟨q, hq⟩ : ∃ q, nextD (s.data.toList.drop k) = q := ⟨_, rfl⟩
      rw [hq] at cn
      obtain ⟨rr, n, ok⟩ := q
      simp only at cn
      have CN := Lib.hid cn
      have CB := Lib.hid cb
      have HQ := Lib.hid hq
      clear cn cb hq hxs
      cases ok with
      | true =>
        obtain ⟨n1, n2, n3, hst⟩ := uq_next (by omega) (by rw [HX.out]; exact x34) (by rw [HX.out]; exact x92) (by rw [HX.out]; exact x32) HQ.out
        have hr := HG.out
        rw [hst] at hr
        have HG' := Lib.hid hr
        have hcut : (s.extract k (k + n)).data.toList = (s.data.toList.drop k).take n := by rw [ext_list, List.drop_take]; congr 1; omega
        have HCUT := Lib.hid hcut
        have hcz : (s.extract k (k + n)).size = n := by rw [ByteArray.size_extract]; omega
        have HCZ := Lib.hid hcz
        have hkn : (k : Int) + (n : Int) ≤ (s.size : Int) := by omega
        clear hr hst HG hcut hcz hxe CB
        go_wp2_with fail
        refine (CN.out _).mono ?_
        rintro en w1 ⟨rfl, b1⟩
        have own1 := hown.kept b1
        have B1 := hb.trans (b1.mono hbs)
        have hs1 := B1.size
        have hbnd : acc.length + (s.extract k (k + n)).size ≤ 140737488355328 := by rw [HCZ.out]; omega
        have HB := Lib.hid hbnd
        clear hbnd
        go_wp2_with (at_builtin; refine wpList_append_str rfl _ _ 77 9 rfl w.heap.size 5 i0 (.int .u8 0) Tryz.underlying77 Tryz.underlying9 hi hz0 hz1 hz2 rfl _ acc rfl own1 (s.extract k (k + n)) rfl HB.out hs1 ?_)
        intro v' w2 own2 hg2
        have B2 := own1.below B1 hs1 hg2
        have own3 : OwnB w2 w.heap.size 5 v' (acc ++ (s.extract k (k + n)).data.toList) := by simpa using own2
        rw [HCUT.out] at own3
        clear own2
        clear own1 hg2 hown
        go_wp2_with fail
        go_roundw
        case rel => exact ⟨k + n, N + 1, acc ++ (s.data.toList.drop k).take n, by go_num, by omega, by omega, by omega, by rw [List.length_append, List.length_take]; omega, own3, HG', B2⟩
        case measure => simp [RowKit.intOf]; omega
      | false =>
        have hr := HG.out
        rw [uq_none (by omega) (by rw [HX.out]; exact x34) (by rw [HX.out]; exact x92) (by rw [HX.out]; exact x32) (by rw [HQ.out])] at hr
        cases hf : fullD (s.data.toList.drop k) with
        | true =>
          rw [hf] at CB
          rw [hf, if_pos rfl] at hr
          subst hr
          clear hf
          go_wp2_with fail
          refine (CN.out _).mono ?_
          rintro en w1 ⟨rfl, b1⟩
          go_wp2_with fail
          refine (CB.out _).mono ?_
          rintro en w2 ⟨rfl, b2⟩
          have B1 := hb.trans (b1.mono hbs)
          go_wp2_with fail
          go_ret3
          exact ⟨rfl, B1.trans (b2.mono B1.size)⟩
        | false =>
          rw [hf] at CB
          rw [hf, if_neg (by decide)] at hr
          subst hr
          clear hf
          go_wp2_with fail
          refine (CN.out _).mono ?_
          rintro en w1 ⟨rfl, b1⟩
          go_wp2_with fail
          refine (CB.out _).mono ?_
          rintro en w2 ⟨rfl, b2⟩
          have B1 := hb.trans (b1.mono hbs)
          go_wp2_with fail
          go_ret3
          exact ⟨rfl, B1.trans (b2.mono B1.size)⟩
  · have hr := HR.out
    rw [hd, uq_nohead h34] at hr
    subst hr
    have u1 : ((c.toNat : Int) == 34) = false := by rw [beq_eq_false_iff_ne]; omega
    have u2 : ((c.toNat : Int) != 34) = true := by rw [bne_iff_ne]; omega
    clear hd hc h34
    go_enter Tryz.func198, Tryz.ntmps198
    go_wp2_with fail
    go_ret3
    exact ⟨rfl, Below.refl _ _⟩
end Go.Proofs.YtcdmiiaamajfoaaGreatDoor
