/- The reference's escape. The reference's Unquote. -/
import Derived.Test.YthlinmkengoliaaGreatDoorZRa
import Derived.Test.YthlinmkengoliaaGreatDoorZRb
import Derived.Test.YthlinmkengoliaaGreatDoorZUb
import Derived.Test.YthlinmkengoliaaGreatDoorZBr
set_option linter.unusedVariables false
namespace Go.Proofs.YthlinmkengoliaaGreatDoor
open Go.RowKit Go.Ms Go.Lib
theorem shortT_at : ∀ k : Fin 8, ((((⟨#[34, 92, 47, 98, 102, 110, 114, 116]⟩ : ByteArray)[k.val]'(k.isLt)).toNat : Nat) : Int) = ((shortT.getD k.val 0).toNat : Int) := by decide
theorem shortS_cut : ∀ k : Fin 8, (⟨#[34, 92, 47, 8, 12, 10, 13, 9]⟩ : ByteArray).extract k.val (k.val + 1) = ⟨#[shortS.getD k.val 0]⟩ := by decide
theorem ret_esc {a : ByteArray} {b c : Int} {t : Bs} {n : Nat} {e : Int} {R : Bs × Nat × Int} (hR : R = (t, n, e)) (ha : a = ⟨t.toArray⟩) (hb : b = n) (hc : c = e) :
    Ending.returned (.tuple #[.string a, .int .i64 b, .int .i64 c]) = .returned (.tuple #[.string ⟨R.1.toArray⟩, .int .i64 R.2.1, .int .i64 R.2.2]) := by subst hR ha hb hc; rfl
theorem drop_at {l : Bs} {k : Nat} (h : k < l.length) : ∃ c r, l.drop k = c :: r ∧ c.toNat = bt l k := by
 refine ⟨l[k], l.drop (k + 1), List.drop_eq_getElem_cons h, ?_⟩
 simp [bt, List.getD_eq_getElem?_getD, h]
set_option maxHeartbeats 4000000 in
theorem rescape_any (s : ByteArray) (w : World) (h1 : 1 ≤ s.size) (hs : s.size ≤ 10000) :
    Calls Tryz.prog 193 #[.string s] w fun e w' => e = .returned (.tuple #[.string ⟨(rEsc s.data.toList).1.toArray⟩, .int .i64 (rEsc s.data.toList).2.1, .int .i64 (rEsc s.data.toList).2.2]) ∧ Below w.heap.size w w' := by
 have hl : s.data.toList.length = s.size := by simp
 obtain ⟨R, hR⟩ : ∃ R, rEsc s.data.toList = R := ⟨_, rfl⟩; rw [hR]; have HR := Lib.hid hR; clear hR
 by_cases h2 : s.size < 2
 · have hr := re_end (l := s.data.toList) (by omega); rw [HR.out] at hr; subst hr
   have h2' : (s.size : Int) < 2 := by omega
   go_enter Tryz.func193, Tryz.ntmps193
   go_wp2_with fail
   go_ret3
   exact ⟨rfl, Below.refl _ _⟩
 have h2' : ¬ (s.size : Int) < 2 := by omega
 have hs1 : (1 : Int) < (s.size : Int) := by omega
 obtain ⟨c, r, hd, hc⟩ := drop_at (l := s.data.toList) (k := 1) (by omega)
 have hg : ((s[1]'(by omega)).toNat : Int) = (c.toNat : Int) := by rw [get_of, hc]; rfl
 have hcl := UInt8.toNat_lt c; have HD := Lib.hid hd; clear hd hc
 go_enter Tryz.func193, Tryz.ntmps193
 go_wp2_with fail
 go_loopw [5] (fun i wr => ∃ k : Nat, k ≤ 8 ∧ i = .int .i64 k ∧ Hid (∀ j, j < k → shortT.getD j 0 ≠ c) ∧ Below w.heap.size w wr) (fun i _ => 8 - (RowKit.intOf i).toNat)
 case atStart => exact ⟨0, by omega, rfl, fun j h => by omega, Below.refl _ _⟩
 case round =>
  obtain ⟨k, hk, rfl, hno, hb⟩ := hrel
  by_cases hlt : k < 8
  · have ht := shortT_at ⟨k, hlt⟩; have hcut := shortS_cut ⟨k, hlt⟩; simp only at ht hcut; obtain ⟨x, hx⟩ : ∃ x : UInt8, shortT.getD k 0 = x := ⟨_, rfl⟩; rw [hx] at ht; have hxl := UInt8.toNat_lt x; have hz8 : (⟨#[34, 92, 47, 8, 12, 10, 13, 9]⟩ : ByteArray).size = 8 := rfl
    have hk1 : (k : Int) + 1 ≤ 8 := by omega
    by_cases he : x = c
    · subst he; have hr := re_short HD.out hlt hx; rw [HR.out] at hr; have HCUT := Lib.hid hcut; have HE := Lib.hid hr; clear hx hr hcut
      go_wp2_with fail
      go_quiet (fail)
      go_wp2_with fail
      go_ret3
      refine ⟨ret_esc HE.out ?_ rfl rfl, ms_drewN hb _⟩; exact HCUT.out
    · have he0 : ¬ c.toNat = x.toNat := fun e => he (UInt8.toNat_inj.1 e).symm
      have he' : ((c.toNat : Int) == (x.toNat : Int)) = false := by rw [beq_eq_false_iff_ne]; omega
      have he2 : (c.toNat == x.toNat) = false := by simpa using he0
      have hno' : Hid (∀ j, j < k + 1 → shortT.getD j 0 ≠ c) := by
       intro j hj
       by_cases e : j = k
       · subst e; rw [hx]; exact he
       · exact hno.out j (by omega)
      clear he hcut hx
      go_wp2_with fail
      go_quiet (fail)
      go_wp2_with fail
      go_roundw
      case rel => exact ⟨k + 1, by omega, by go_num, hno', ms_drewN hb _⟩
      case measure => simp [RowKit.intOf]; omega
  · obtain rfl : k = 8 := by omega
    by_cases hu : c.toNat = 117
    · have hgu : c = 117 := UInt8.toNat_inj.1 hu; subst hgu; clear hno hcl hu; have hg' : ((s[1]'(by omega)).toNat : Int) = 117 := hg; clear hg
      have hz2 : (s.extract 2 s.size).data.toList = s.data.toList.drop 2 := by rw [ext_list, List.take_of_length_le (by omega)]
      have hs2 : (s.extract 2 s.size).size = s.size - 2 := by simp
      have ch := fun w => rhalf_any (s.extract 2 s.size) false w (by omega)
      rw [hz2] at ch; obtain ⟨q, hq⟩ : ∃ q, rhalf (s.data.toList.drop 2) false = q := ⟨_, rfl⟩; rw [hq] at ch; obtain ⟨n, e⟩ := q; simp only at ch; have HQ := Lib.hid hq; have CH := Lib.hid ch
      have hs2i : (2 : Int) ≤ (s.size : Int) := by omega
      clear ch hq hz2 hs2
      by_cases he : e = 0
      · subst he; obtain ⟨hl4, _, n0, n1, _, _⟩ := rhalf_inv HQ.out; rw [List.length_drop] at hl4
        by_cases hn : n < 55296 ∨ 56319 < n
        · obtain ⟨hrn, hr⟩ := re_four HD.out HQ.out hn; rw [HR.out] at hr; have HE := Lib.hid hr
          have cp := fun w => rput_any n (by omega) (by omega) w
          have CP := Lib.hid cp; clear hr cp hrn
          rcases hn with hn | hn
          · go_wp2_with fail
            refine (CH.out _).mono ?_; rintro en w1 ⟨rfl, rfl⟩
            go_wp2_with fail
            refine (CP.out _).mono ?_; rintro en w1 ⟨rfl, b1⟩
            go_wp2_with fail
            go_ret3
            exact ⟨ret_esc HE.out rfl rfl rfl, hb.trans (b1.mono hb.size)⟩
          · have hn' : ¬ n < 55296 := by omega
            go_wp2_with fail
            refine (CH.out _).mono ?_; rintro en w1 ⟨rfl, rfl⟩
            go_wp2_with fail
            refine (CP.out _).mono ?_; rintro en w1 ⟨rfl, b1⟩
            go_wp2_with fail
            go_ret3
            exact ⟨ret_esc HE.out rfl rfl rfl, hb.trans (b1.mono hb.size)⟩
        · have hn1 : ¬ n < 55296 := by omega
          have hn2 : ¬ 56319 < n := by omega
          have hnn : 55296 ≤ n ∧ n ≤ 56319 := by omega
          have HNN := Lib.hid hnn; clear hn hnn
          have hs6 : (6 : Int) ≤ (s.size : Int) := by omega
          by_cases hs7 : s.size ≤ 6
          · have hr := re_p6end HD.out HQ.out HNN.out (by omega); rw [HR.out] at hr; have HE := Lib.hid hr; clear hr
            have hs7' : (s.size : Int) ≤ 6 := by omega
            go_wp2_with fail
            refine (CH.out _).mono ?_; rintro en w1 ⟨rfl, rfl⟩
            go_wp2_with fail
            go_rounds 1
            go_ret3
            exact ⟨ret_esc HE.out rfl rfl rfl, hb⟩
          · go_wp2_with fail
            refine (CH.out _).mono ?_; rintro en w1 ⟨rfl, rfl⟩
            go_wp2_with fail
            go_loopw [10] (fun i wr => ∃ k : Nat, i = .int .i64 k ∧ 6 ≤ k ∧ k ≤ 8 ∧ k ≤ s.size ∧ Hid (7 ≤ k → ∃ r', s.data.toList.drop 6 = 92 :: r') ∧ Hid (8 ≤ k → ∃ r', s.data.toList.drop 7 = 117 :: r') ∧ Below w.heap.size w wr) (fun i _ => 8 - (RowKit.intOf i).toNat)
            case atStart => exact ⟨6, rfl, by omega, by omega, by omega, fun h => by omega, fun h => by omega, hb⟩
            case round =>
             obtain ⟨k, rfl, k6, k8, kl, g6, g7, hb⟩ := hrel; have hk0 : (((⟨#[92, 117]⟩ : ByteArray)[0]'(by decide)).toNat : Int) = 92 := rfl; have hk1 : (((⟨#[92, 117]⟩ : ByteArray)[1]'(by decide)).toNat : Int) = 117 := rfl
             rcases (by omega : k = 6 ∨ k = 7 ∨ k = 8) with rfl | rfl | rfl
             · obtain ⟨c6, r6, hd6, hc6⟩ := drop_at (l := s.data.toList) (k := 6) (by omega)
               have hg6 : ((s[6]'(by omega)).toNat : Int) = (c6.toNat : Int) := by rw [get_of, hc6]; rfl
               have h67 : ¬ (s.size : Int) ≤ 6 := by omega
               have h67' : (6 : Int) < (s.size : Int) := by omega
               have HD6 := Lib.hid hd6; clear hd6 hc6
               by_cases h92 : c6.toNat = 92
               · obtain rfl : c6 = 92 := UInt8.toNat_inj.1 h92; have hg6' : ((s[6]'(by omega)).toNat : Int) = 92 := hg6; clear hg6 h92
                 go_wp2_with fail
                 go_quiet (fail)
                 go_wp2_with fail
                 go_roundw
                 case rel => exact ⟨7, rfl, by omega, by omega, by omega, fun h => ⟨_, HD6.out⟩, fun h => by omega, ms_drewN hb _⟩
                 case measure => simp [RowKit.intOf]
               · have hr := re_p6 HD.out HQ.out HNN.out HD6.out h92; rw [HR.out] at hr; have HE := Lib.hid hr
                 have hu1 : ((c6.toNat : Int) == 92) = false := by rw [beq_eq_false_iff_ne]; omega
                 have hu2 : ((c6.toNat : Int) != 92) = true := by rw [bne_iff_ne]; omega
                 clear hr h92
                 go_wp2_with fail
                 go_quiet (fail)
                 go_wp2_with fail
                 go_ret3
                 exact ⟨ret_esc HE.out rfl rfl rfl, ms_drewN hb _⟩
             · obtain ⟨r6, hd6⟩ := g6.out (by omega); have HD6 := Lib.hid hd6; clear hd6 g6 g7
               by_cases hs8 : s.size ≤ 7
               · have hr := re_p7end HD.out HQ.out HNN.out HD6.out (by omega); rw [HR.out] at hr; have HE := Lib.hid hr
                 have hs8' : (s.size : Int) ≤ 7 := by omega
                 clear hr
                 go_wp2_with fail
                 go_ret3
                 exact ⟨ret_esc HE.out rfl rfl rfl, hb⟩
               · obtain ⟨c7, r7, hd7, hc7⟩ := drop_at (l := s.data.toList) (k := 7) (by omega)
                 have hg7 : ((s[7]'(by omega)).toNat : Int) = (c7.toNat : Int) := by rw [get_of, hc7]; rfl
                 have h67 : ¬ (s.size : Int) ≤ 7 := by omega
                 have h67' : (7 : Int) < (s.size : Int) := by omega
                 have HD7 := Lib.hid hd7; clear hd7 hc7
                 by_cases h92 : c7.toNat = 117
                 · obtain rfl : c7 = 117 := UInt8.toNat_inj.1 h92; have hg7' : ((s[7]'(by omega)).toNat : Int) = 117 := hg7; clear hg7 h92
                   go_wp2_with fail
                   go_quiet (fail)
                   go_wp2_with fail
                   go_roundw
                   case rel => exact ⟨8, rfl, by omega, by omega, by omega, fun h => ⟨_, HD6.out⟩, fun h => ⟨_, HD7.out⟩, ms_drewN hb _⟩
                   case measure => simp [RowKit.intOf]
                 · have hr := re_p7 HD.out HQ.out HNN.out HD6.out HD7.out h92; rw [HR.out] at hr; have HE := Lib.hid hr
                   have hu1 : ((c7.toNat : Int) == 117) = false := by rw [beq_eq_false_iff_ne]; omega
                   have hu2 : ((c7.toNat : Int) != 117) = true := by rw [bne_iff_ne]; omega
                   clear hr h92
                   go_wp2_with fail
                   go_quiet (fail)
                   go_wp2_with fail
                   go_ret3
                   exact ⟨ret_esc HE.out rfl rfl rfl, ms_drewN hb _⟩
             · obtain ⟨r6, hd6⟩ := g6.out (by omega); obtain ⟨r7, hd7⟩ := g7.out (by omega); have HD6 := Lib.hid hd6; have HD7 := Lib.hid hd7; clear hd6 hd7 g6 g7
               have hz8 : (s.extract 8 s.size).data.toList = s.data.toList.drop 8 := by rw [ext_list, List.take_of_length_le (by omega)]
               have hs8 : (s.extract 8 s.size).size = s.size - 8 := by simp
               have ch8 := fun w => rhalf_any (s.extract 8 s.size) true w (by omega)
               rw [hz8] at ch8; obtain ⟨q, hq⟩ : ∃ q, rhalf (s.data.toList.drop 8) true = q := ⟨_, rfl⟩; rw [hq] at ch8; obtain ⟨m, e⟩ := q; simp only at ch8; have HQ8 := Lib.hid hq; have CH8 := Lib.hid ch8
               have hs8i : (8 : Int) ≤ (s.size : Int) := by omega
               clear ch8 hq hz8 hs8
               by_cases he : e = 0
               · subst he; obtain ⟨m0, m1, hr⟩ := re_pair HD.out HQ.out HNN.out HD6.out HD7.out HQ8.out; rw [HR.out] at hr; have HE := Lib.hid hr
                 have cp := fun w => rput_any (65536 + 1024 * (n - 55296) + m - 56320) (by omega) (by omega) w
                 have CP := Lib.hid cp; clear hr cp
                 go_wp2_with fail
                 refine (CH8.out _).mono ?_; rintro en w2 ⟨rfl, rfl⟩
                 go_wp2_with fail
                 refine (CP.out _).mono ?_; rintro en w2 ⟨rfl, b1⟩
                 go_wp2_with fail
                 go_ret3
                 exact ⟨ret_esc HE.out rfl rfl rfl, hb.trans (b1.mono hb.size)⟩
               · have hr := re_herr HD.out HQ.out HNN.out HD6.out HD7.out he HQ8.out; rw [HR.out] at hr; have HE := Lib.hid hr
                 have he1 : (e == 0) = false := by simpa using he
                 have he2 : (e != 0) = true := by simpa using he
                 clear hr he
                 go_wp2_with fail
                 refine (CH8.out _).mono ?_; rintro en w2 ⟨rfl, rfl⟩
                 go_wp2_with fail
                 go_ret3
                 exact ⟨ret_esc HE.out rfl rfl rfl, hb⟩
      · have hr := re_uerr HD.out he HQ.out; rw [HR.out] at hr; have HE := Lib.hid hr
        have he1 : (e == 0) = false := by simpa using he
        have he2 : (e != 0) = true := by simpa using he
        clear hr he
        go_wp2_with fail
        refine (CH.out _).mono ?_; rintro en w1 ⟨rfl, rfl⟩
        go_wp2_with fail
        go_ret3
        exact ⟨ret_esc HE.out rfl rfl rfl, hb⟩
    · have hr := re_bad HD.out hno.out hu; rw [HR.out] at hr; have HE := Lib.hid hr
      have hu1 : ((c.toNat : Int) == 117) = false := by rw [beq_eq_false_iff_ne]; omega
      have hu2 : ((c.toNat : Int) != 117) = true := by rw [bne_iff_ne]; omega
      clear hr hu hno
      go_wp2_with fail
      go_ret3
      exact ⟨ret_esc HE.out rfl rfl rfl, hb⟩
end Go.Proofs.YthlinmkengoliaaGreatDoor
namespace Go.Proofs.YthlinmkengoliaaGreatDoor
open Go.RowKit Go.Ms Go.Lib
theorem infoU8 : (Tryz.prog.info? 5).map (fun i => (i.zero, i.size, i.bytes)) = some (some (.int .u8 0), 1, 1) := by kernel_rfl
set_option maxRecDepth 100000 in
set_option maxHeartbeats 8000000 in
theorem runquote_any (s : ByteArray) (w : World) (hs : s.size ≤ 10000) :
    Calls Tryz.prog 170 #[.string s] w fun e w' => e = .returned (.tuple #[.string ⟨(unquoteD s.data.toList).1.toArray⟩, .int .i64 (unquoteD s.data.toList).2.1, .int .i64 (unquoteD s.data.toList).2.2]) ∧ Below w.heap.size w w' := by
 have hl : s.data.toList.length = s.size := by simp
 obtain ⟨i0, hi, hz0, hz1, hz2⟩ := info_parts infoU8; obtain ⟨R, hR⟩ : ∃ R, unquoteD s.data.toList = R := ⟨_, rfl⟩; rw [hR]; have HR := Lib.hid hR; clear hR
 by_cases h0 : s.size = 0
 · have hnil : s.data.toList = [] := List.eq_nil_of_length_eq_zero (by omega); have hr := HR.out; rw [hnil, uq_empty] at hr; subst hr
   obtain rfl : s = ByteArray.empty := by apply ByteArray.ext; apply Array.toList_inj.1; simpa using hnil
   clear hnil h0
   go_enter Tryz.func170, Tryz.ntmps170
   go_wp2_with fail
   go_ret3
   exact ⟨rfl, Below.refl _ _⟩
 obtain ⟨c, r, hd, hc⟩ := drop_at (l := s.data.toList) (k := 0) (by omega); rw [List.drop_zero] at hd
 have hg : ((s[0]'(by omega)).toNat : Int) = (c.toNat : Int) := by rw [get_of, hc]; rfl
 have e1 : s.toList.isEmpty = false := by rw [Lib.toList_data, hd]; rfl
 have e2 : ¬ s.toList = [] := by rw [Lib.toList_data, hd]; simp
 have hcl := UInt8.toNat_lt c
 have hpos : (0 : Int) < (s.size : Int) := by omega
 by_cases h34 : c.toNat = 34
 · have hr := HR.out; rw [hd, uq_head h34, ← hd] at hr; have HG := Lib.hid hr; obtain rfl : c = 34 := UInt8.toNat_inj.1 h34; have hg' : ((s[0]'(by omega)).toNat : Int) = 34 := hg; clear hr hd hc hg h34 hcl HR
   go_enter Tryz.func170, Tryz.ntmps170
   go_wp2_with fail
   go_loopw [5, 6] (fun v i wr => ∃ (k N : Nat) (acc : Bs), i = .int .i64 k ∧ 1 ≤ k ∧ k ≤ s.size ∧ s.size + 3 ≤ N + k ∧ acc.length ≤ 4 * k ∧ OwnB wr w.heap.size 5 v acc ∧ Hid (uqGo s.data.toList N acc k 0 = R) ∧ Below w.heap.size w wr)
     (fun _ i _ => s.size - (RowKit.intOf i).toNat)
   case atStart => exact ⟨1, _, [], rfl, by omega, by omega, by omega, by simp, OwnB.nil _ _ _, HG, Below.refl _ _⟩
   case round =>
    obtain ⟨k, N, acc, rfl, k1, kl, hN, hacc, hown, HG, hb⟩ := hrel; obtain ⟨N, rfl⟩ : ∃ M, N = M + 2 := ⟨N - 2, by omega⟩; have hbs := hb.size
    by_cases hkl : k = s.size
    · have hr := HG.out; rw [hkl, ← hl, uq_end] at hr; subst hr
      have hge : ¬ (k : Int) < (s.size : Int) := by omega
      clear hkl
      go_wp2_with fail
      go_ret3
      exact ⟨rfl, hb⟩
    have hlt : k < s.size := by omega
    have hlti : (k : Int) < (s.size : Int) := by omega
    have hgk : ((s[k]'hlt).toNat : Int) = (bt s.data.toList k : Int) := by rw [get_of]; rfl
    have hbl := bt_lt s.data.toList k; obtain ⟨x, hx⟩ : ∃ x, bt s.data.toList k = x := ⟨_, rfl⟩; rw [hx] at hgk hbl; have HX := Lib.hid hx; clear hx hkl
    by_cases x34 : x = 34
    · subst x34; have hr := HG.out; rw [uq_quote (by omega) HX.out] at hr; subst hr; have hcv := run_ownB_string (P := Tryz.prog) (src := 77) (dst := 9) Tryz.underlying77 Tryz.underlying5 Tryz.underlying9 hown
      go_wp2_with fail
      go_ret3
      exact ⟨rfl, hb⟩
    have x34' : ((x : Int) == 34) = false := by rw [beq_eq_false_iff_ne]; omega
    by_cases x32 : x < 32
    · have hr := HG.out; rw [uq_low (by omega) (by rw [HX.out]; exact x32)] at hr; subst hr
      have x32' : (x : Int) < 32 := by omega
      go_wp2_with fail
      go_ret3
      exact ⟨rfl, hb⟩
    have x32' : ¬ (x : Int) < 32 := by omega
    have hxe : (s.extract k s.size).data.toList = s.data.toList.drop k := by rw [ext_list, List.take_of_length_le (by omega)]
    have hxs : (s.extract k s.size).size = s.size - k := by simp
    by_cases x92 : x = 92
    · subst x92
      have ce := fun w => rescape_any (s.extract k s.size) w (by omega) (by omega)
      rw [hxe] at ce; obtain ⟨q, hq⟩ : ∃ q, rEsc (s.data.toList.drop k) = q := ⟨_, rfl⟩; rw [hq] at ce; obtain ⟨t, n, e⟩ := q; simp only at ce; have CE := Lib.hid ce; have HQ := Lib.hid hq; clear ce hq hxe hxs
      by_cases he : e = 0
      · subst he; obtain ⟨n1, n2, n3, hst⟩ := uq_esc (by omega) HX.out HQ.out; have hr := HG.out; rw [hst] at hr; have HG' := Lib.hid hr; clear hr hst HG; have htz : (⟨t.toArray⟩ : ByteArray).size = t.length := List.size_toArray; have HTZ := Lib.hid htz; clear htz
        go_wp2_with fail
        refine (CE.out _).mono ?_; rintro en w1 ⟨rfl, b1⟩; have own1 := hown.kept b1; have B1 := hb.trans (b1.mono hbs); have hs1 := B1.size
        have hbnd : acc.length + (⟨t.toArray⟩ : ByteArray).size ≤ 140737488355328 := by rw [HTZ.out]; omega
        have HB := Lib.hid hbnd; clear hbnd
        go_wp2_with (at_builtin; refine wpList_append_str rfl _ _ 77 9 rfl w.heap.size 5 i0 (.int .u8 0) Tryz.underlying77 Tryz.underlying9 hi hz0 hz1 hz2 rfl _ acc rfl own1 ⟨t.toArray⟩ rfl HB.out hs1 ?_)
        intro v' w2 own2 hg2
        have B2 := own1.below B1 hs1 hg2; clear own1 hg2 hown
        go_wp2_with fail
        go_roundw
        case rel => exact ⟨k + n, N + 1, acc ++ t, by go_num, by omega, by omega, by omega, by rw [List.length_append]; omega, own2, HG', B2⟩
        case measure => simp [RowKit.intOf]; omega
      · have hr := HG.out; rw [uq_escerr (by omega) HX.out he HQ.out] at hr; subst hr
        have he1 : (e == 0) = false := by simpa using he
        have he2 : (e != 0) = true := by simpa using he
        clear he
        go_wp2_with fail
        refine (CE.out _).mono ?_; rintro en w1 ⟨rfl, b1⟩
        go_wp2_with fail
        go_ret3
        exact ⟨rfl, hb.trans (b1.mono hbs)⟩
    have x92' : ((x : Int) == 92) = false := by rw [beq_eq_false_iff_ne]; omega
    have cn := fun w => rnext_any (s.extract k s.size) w (by omega)
    have cb := fun w => begins_any (s.extract k s.size) w (by omega) (by omega)
    rw [hxe] at cn cb; obtain ⟨q, hq⟩ : ∃ q, nextD (s.data.toList.drop k) = q := ⟨_, rfl⟩; rw [hq] at cn; obtain ⟨rr, n, ok⟩ := q; simp only at cn; have CN := Lib.hid cn; have CB := Lib.hid cb; have HQ := Lib.hid hq; clear cn cb hq hxs
    cases ok with
    | true =>
     obtain ⟨n1, n2, n3, hst⟩ := uq_next (by omega) (by rw [HX.out]; exact x34) (by rw [HX.out]; exact x92) (by rw [HX.out]; exact x32) HQ.out; have hr := HG.out; rw [hst] at hr; have HG' := Lib.hid hr
     have hcut : (s.extract k (k + n)).data.toList = (s.data.toList.drop k).take n := by rw [ext_list, List.drop_take]; congr 1; omega
     have HCUT := Lib.hid hcut
     have hcz : (s.extract k (k + n)).size = n := by rw [ByteArray.size_extract]; omega
     have HCZ := Lib.hid hcz
     have hkn : (k : Int) + (n : Int) ≤ (s.size : Int) := by omega
     clear hr hst HG hcut hcz hxe CB
     go_wp2_with fail
     refine (CN.out _).mono ?_; rintro en w1 ⟨rfl, b1⟩; have own1 := hown.kept b1; have B1 := hb.trans (b1.mono hbs); have hs1 := B1.size
     have hbnd : acc.length + (s.extract k (k + n)).size ≤ 140737488355328 := by rw [HCZ.out]; omega
     have HB := Lib.hid hbnd; clear hbnd
     go_wp2_with (at_builtin; refine wpList_append_str rfl _ _ 77 9 rfl w.heap.size 5 i0 (.int .u8 0) Tryz.underlying77 Tryz.underlying9 hi hz0 hz1 hz2 rfl _ acc rfl own1 (s.extract k (k + n)) rfl HB.out hs1 ?_)
     intro v' w2 own2 hg2
     have B2 := own1.below B1 hs1 hg2
     have own3 : OwnB w2 w.heap.size 5 v' (acc ++ (s.extract k (k + n)).data.toList) := by simpa using own2
     rw [HCUT.out] at own3; clear own2; clear own1 hg2 hown
     go_wp2_with fail
     go_roundw
     case rel => exact ⟨k + n, N + 1, acc ++ (s.data.toList.drop k).take n, by go_num, by omega, by omega, by omega, by rw [List.length_append, List.length_take]; omega, own3, HG', B2⟩
     case measure => simp [RowKit.intOf]; omega
    | false =>
     have hr := HG.out; rw [uq_none (by omega) (by rw [HX.out]; exact x34) (by rw [HX.out]; exact x92) (by rw [HX.out]; exact x32) (by rw [HQ.out])] at hr
     cases hf : fullD (s.data.toList.drop k) with
     | true =>
      rw [hf] at CB; rw [hf, if_pos rfl] at hr; subst hr; clear hf
      go_wp2_with fail
      refine (CN.out _).mono ?_; rintro en w1 ⟨rfl, b1⟩
      go_wp2_with fail
      refine (CB.out _).mono ?_; rintro en w2 ⟨rfl, b2⟩; have B1 := hb.trans (b1.mono hbs)
      go_wp2_with fail
      go_ret3
      exact ⟨rfl, B1.trans (b2.mono B1.size)⟩
     | false =>
      rw [hf] at CB; rw [hf, if_neg (by decide)] at hr; subst hr; clear hf
      go_wp2_with fail
      refine (CN.out _).mono ?_; rintro en w1 ⟨rfl, b1⟩
      go_wp2_with fail
      refine (CB.out _).mono ?_; rintro en w2 ⟨rfl, b2⟩; have B1 := hb.trans (b1.mono hbs)
      go_wp2_with fail
      go_ret3
      exact ⟨rfl, B1.trans (b2.mono B1.size)⟩
 · have hr := HR.out; rw [hd, uq_nohead h34] at hr; subst hr
   have u1 : ((c.toNat : Int) == 34) = false := by rw [beq_eq_false_iff_ne]; omega
   have u2 : ((c.toNat : Int) != 34) = true := by rw [bne_iff_ne]; omega
   clear hd hc h34
   go_enter Tryz.func170, Tryz.ntmps170
   go_wp2_with fail
   go_ret3
   exact ⟨rfl, Below.refl _ _⟩
end Go.Proofs.YthlinmkengoliaaGreatDoor
