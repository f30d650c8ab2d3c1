/- Schemas: the reference's digits, words, keys and cuts. Schemas: the reference's text of one, walked. Schemas: an id's digits, as the reference reads them. Schemas: the reference's number of an id, walked. -/
import Derived.Test.YthlinmkengoliaaGreatDoorZSx
import Derived.Deep.QuietTactic
import Derived.BigQuiet
import Derived.Deep.RegionWith
import Derived.Test.YthlinmkengoliaaGreatDoorZRe
import Derived.Test.YthlinmkengoliaaGreatDoorZSi
import Derived.Test.YthlinmkengoliaaGreatDoorZSd
import Derived.Test.YthlinmkengoliaaGreatDoorZYb
import Derived.Deep.RegionHeld3
set_option linter.unusedVariables false
set_option linter.unusedSimpArgs false
namespace Go.Ms
open Go.RowKit Go.Lib
theorem sdec_len : ∀ (k u : Nat), 1 ≤ k → u < 10 ^ k → (decDigits u).length ≤ k
  | 0, _, h, _ => by omega
  | k + 1, u, _, h => by
   by_cases hu : u < 10
   · rw [decDigits, dif_pos hu]; simp
   · rw [decDigits, dif_neg hu, List.length_append]; rw [Nat.pow_succ] at h
     have hk : 1 ≤ k := by
      rcases Nat.eq_zero_or_pos k with e | e
      · subst e; simp at h; omega
      · exact e
     have := sdec_len k (u / 10) hk (by omega); simp only [List.length_cons, List.length_nil]; omega
theorem itoa_nat (n : Nat) : itoa (n : Int) = decDigits n := rfl
theorem cutAt_lt {c : UInt8} {s x y : Bs} (h : cutAt c s = some (x, y)) : x.length < s.length ∧ s.take x.length = x ∧ s.drop (x.length + 1) = y := by
 obtain ⟨e, _⟩ := cutAt_some h; subst e
 simp
end Go.Ms
namespace Go.Proofs.YthlinmkengoliaaGreatDoor
open Go.RowKit Go.Ms Go.Lib Go.Rel
theorem sdig10 : ∀ k : Fin 10, (⟨#[48, 49, 50, 51, 52, 53, 54, 55, 56, 57]⟩ : ByteArray).extract k.val (k.val + 1) = ⟨#[UInt8.ofNat (48 + k.val)]⟩ := by decide
theorem sdig10_at (n : Nat) : (⟨#[48, 49, 50, 51, 52, 53, 54, 55, 56, 57]⟩ : ByteArray).extract (n % 10) (n % 10 + 1) = ⟨#[UInt8.ofNat (48 + n % 10)]⟩ := sdig10 ⟨n % 10, by omega⟩
set_option maxRecDepth 100000 in
set_option maxHeartbeats 1000000 in
theorem sdigits_nat (n : Nat) : ∀ (w : World), n < 9223372036854775800 →
    Calls Tryz.prog 61 #[.int .i64 n] w fun e w' => e = .returned (.string ⟨(decDigits n).toArray⟩) ∧ Below w.heap.size w w' := by
 induction n using Nat.strongRecOn with
 | _ n ih =>
  intro w hn
  have hd := sdig10_at n; have v0 : (n : Int).tmod 10 = (n : Int) % 10 := Int.tmod_eq_emod_of_nonneg (by omega); have v1 : IntKind.i64.wrap ((n : Int) % 10 + 1) = (n : Int) % 10 + 1 := IntWalk.i64_in _ (by omega); have v2 : (n : Int).tdiv 10 = (n : Int) / 10 := Int.tdiv_eq_ediv_of_nonneg (by omega); have v3 : IntKind.i64.wrap ((n : Int) / 10) = (n : Int) / 10 := IntWalk.i64_in _ (by omega); have v4 : IntKind.i64.wrap ((n : Int) % 10) = (n : Int) % 10 := IntWalk.i64_in _ (by omega)
  have b0 : 0 ≤ (n : Int) % 10 := by omega
  have b1 : (n : Int) % 10 ≤ (n : Int) % 10 + 1 := by omega
  have b2 : (n : Int) % 10 + 1 ≤ 10 := by omega
  have b3 : 0 ≤ (n : Int) % 10 + 1 := by omega
  have n0 : (0 : Int) ≤ (n : Int) := by omega
  have hni : (n : Int) < 9223372036854775800 := by omega
  have HD := Lib.hid hd; clear hd
  by_cases h : n < 10
  · have hi : (n : Int) < 10 := by omega
    have hi2 : (n : Int) + 1 ≤ 10 := by omega
    have hi3 : (0 : Int) ≤ (n : Int) + 1 := by omega
    have hi4 : (n : Int) ≤ (n : Int) + 1 := by omega
    rw [decDigits, dif_pos h]; have hm : n % 10 = n := Nat.mod_eq_of_lt h
    go_enter Tryz.func61, Tryz.ntmps61
    go_wp2_with fail
    go_ret
    exact ⟨by have hx := HD.out; rw [hm] at hx; rw [← hx]; first | done | rfl, Below.refl _ _⟩
  · have hi : ¬ (n : Int) < 10 := by omega
    have hq : ((n / 10 : Nat) : Int) = (n : Int) / 10 := by omega
    have cf := fun w => ih (n / 10) (by omega) w (by omega)
    rw [hq] at cf; have hl := sdec_len 20 (n / 10) (by omega) (by omega); have hz : (⟨(decDigits (n / 10)).toArray⟩ : ByteArray).size = (decDigits (n / 10)).length := List.size_toArray
    have hap : (⟨(decDigits (n / 10)).toArray⟩ : ByteArray) ++ ⟨#[UInt8.ofNat (48 + n % 10)]⟩ = ⟨(decDigits n).toArray⟩ := by
     rw [show decDigits n = decDigits (n / 10) ++ [UInt8.ofNat (48 + n % 10)] by rw [decDigits, dif_neg h]]
     apply sba_ext; simp
    rw [← hap]
    generalize (⟨(decDigits (n / 10)).toArray⟩ : ByteArray) = X at *
    have hxl : X.size ≤ 20 := by omega
    obtain ⟨DD, hDD⟩ : ∃ DD : ByteArray, DD = (⟨#[48, 49, 50, 51, 52, 53, 54, 55, 56, 57]⟩ : ByteArray).extract ((n : Int) % 10).toNat ((n : Int) % 10 + 1).toNat := ⟨_, rfl⟩
    have hdd : DD = ⟨#[UInt8.ofNat (48 + n % 10)]⟩ := by
     have e1 : ((n : Int) % 10).toNat = n % 10 := by omega
     have e2 : ((n : Int) % 10 + 1).toNat = n % 10 + 1 := by omega
     rw [hDD, e1, e2]; exact HD.out
    rw [← hdd]
    have hd1 : DD.size ≤ 1 := by rw [hdd]; exact Nat.le_refl _
    have hx1 : ¬ (9223372036854775807 < X.size + DD.size) := by omega
    have HDD := Lib.hid hDD; clear hDD hdd; have CF := Lib.hid cf; clear cf ih hap hz hl h hq
    go_enter Tryz.func61, Tryz.ntmps61
    go_wp2_with fail
    refine wp_region_sel [isV (.int .i64 (n : Nat)), isV (.int .i64 ((n : Int) / 10)), isV (.string X), isV (.int .i64 (n : Nat)), isV (.int .i64 ((n : Int) % 10)), isV (.int .i64 (n : Nat)), isV (.int .i64 ((n : Int) % 10)), isV (.int .i64 ((n : Int) % 10 + 1)), isV (.string DD), isV (.string (X ++ DD)), isV (.string (X ++ DD))] (by kernel_rfl) (by kernel_rfl) ?_ ?_
    ·
      refine rb ?_; refine rf (fun ev wo E => ?_) ?_
      · have e9 : ev (.tmp 9) = .int .i64 (n : Nat) := E.e 0; have ec := E.const; go_simp; exact rv
      refine rf (fun ev wo E => ?_) ?_
      · have e10 : ev (.tmp 10) = .int .i64 ((n : Int) / 10) := E.e 0; have ef := E.func; have HC2 := Lib.hid (CF.out wo); go_simp; refine relUpon_enter (HC2.out.mono ?_); rintro e w' ⟨rfl, hb⟩; exact ⟨_, rfl, hb, rfl⟩
      refine rb ?_; refine rf (fun ev wo E => ?_) ?_
      · have e12 : ev (.tmp 12) = .int .i64 (n : Nat) := E.e 0; have ec := E.const; go_simp; exact rv
      refine rb ?_; refine rf (fun ev wo E => ?_) ?_
      · have e14 : ev (.tmp 14) = .int .i64 (n : Nat) := E.e 0; have ec := E.const; go_simp; exact rv
      refine rf (fun ev wo E => ?_) ?_
      · have e15 : ev (.tmp 15) = .int .i64 ((n : Int) % 10) := E.e 0; have ec := E.const; go_simp; exact rv
      refine rf (fun ev wo E => ?_) ?_
      · have e13 : ev (.tmp 13) = .int .i64 ((n : Int) % 10) := E.e 0; have e16 : ev (.tmp 16) = .int .i64 ((n : Int) % 10 + 1) := E.e 1; have ec := E.const; go_simp; exact relUpon_value ⟨Below.refl _ _, congrArg Value.string HDD.out.symm⟩
      refine rf (fun ev wo E => ?_) ?_
      · have e11 : ev (.tmp 11) = .string X := E.e 0; have e17 : ev (.tmp 17) = .string DD := E.e 1; go_simp; exact rv
      refine ⟨prem_copy 0 (WantOk.free rfl) (.inr rfl) rfl rfl rfl rfl (isV_stable _), ?_⟩; trivial
    · intro wz bz
      (iterate 11 rintro _ rfl); simp only [relEnd]; go_simp
      go_wp2_with fail
      go_ret
      exact ⟨rfl, bz⟩
theorem sdigits_any (n : Int) (w : World) (h0 : 0 ≤ n) (h1 : n ≤ 1048576) :
    Calls Tryz.prog 61 #[.int .i64 n] w fun e w' => e = .returned (.string ⟨(itoa n).toArray⟩) ∧ Below w.heap.size w w' := by
 obtain ⟨m, rfl⟩ : ∃ m : Nat, n = m := ⟨n.toNat, by omega⟩; exact sdigits_nat m w (by omega)
theorem sword_any (k : Int) (w : World) : Calls Tryz.prog 62 #[.int .i64 k] w fun e w' => e = .returned (.string ⟨(wordOf k).toArray⟩) ∧ Below w.heap.size w w' := by
 unfold wordOf
 by_cases h1 : k = 1
 · subst h1
   go_enter Tryz.func62, Tryz.ntmps62
   go_wp2_with fail
   go_ret
   exact ⟨rfl, Below.refl _ _⟩
 by_cases h2 : k = 2
 · subst h2
   go_enter Tryz.func62, Tryz.ntmps62
   go_wp2_with fail
   go_ret
   exact ⟨rfl, Below.refl _ _⟩
 by_cases h3 : k = 3
 · subst h3
   go_enter Tryz.func62, Tryz.ntmps62
   go_wp2_with fail
   go_ret
   exact ⟨rfl, Below.refl _ _⟩
 by_cases h4 : k = 4
 · subst h4
   go_enter Tryz.func62, Tryz.ntmps62
   go_wp2_with fail
   go_ret
   exact ⟨rfl, Below.refl _ _⟩
 by_cases h5 : k = 5
 · subst h5
   go_enter Tryz.func62, Tryz.ntmps62
   go_wp2_with fail
   go_ret
   exact ⟨rfl, Below.refl _ _⟩
 have e1 : (k == 1) = false := by simpa using h1
 have e2 : (k == 2) = false := by simpa using h2
 have e3 : (k == 3) = false := by simpa using h3
 have e4 : (k == 4) = false := by simpa using h4
 have e5 : (k == 5) = false := by simpa using h5
 rw [if_neg h1, if_neg h2, if_neg h3, if_neg h4, if_neg h5]
 go_enter Tryz.func62, Tryz.ntmps62
 go_wp2_with fail
 go_ret
 exact ⟨rfl, Below.refl _ _⟩
set_option maxHeartbeats 1000000 in
theorem siskey_any (w : World) (A : Option Addr) (n cap : Nat) (l : List Int) (S : Int) (hn' : n ≤ maxLen) (hn : n = l.length) (hA : Lay w w.heap.size A (intV l)) :
    Calls Tryz.prog 63 #[.slice A n cap, .int .i64 S] w fun e w' => e = .returned (.bool (l.contains S)) ∧ Below w.heap.size w w' := by
 unfold maxLen at hn'; obtain ⟨R, hR⟩ : ∃ b, l.contains S = b := ⟨_, rfl⟩; rw [hR]; have HRR := Lib.hid hR
 have HA := Lib.hid hA; have HN := Lib.hid hn
 clear hA hn hR
 go_enter Tryz.func63, Tryz.ntmps63
 go_wp2_with fail
 go_loopw [5] (fun id wr => ∃ k : Nat, k ≤ n ∧ id = .int .i64 k ∧ Below w.heap.size w wr ∧ ∀ (j : Nat) x, j < k → l[j]? = some x → x ≠ S) (fun id _ => n - (RowKit.intOf id).toNat)
 case atStart => exact ⟨0, by omega, rfl, Below.refl _ _, fun j c h => absurd h (by omega)⟩
 case round =>
  obtain ⟨k, hk, rfl, hb, hp⟩ := hrel; have HP := Lib.hid hp; clear hp
  by_cases hlk : k < n
  · have hki : (k : Int) < n := by omega
    obtain ⟨x, hx⟩ : ∃ x, l[k]? = some x := ⟨_, List.getElem?_eq_getElem (by rw [← HN.out]; omega)⟩; obtain ⟨g, o, rfl, hg, h1⟩ := HA.out.num hx; have g1 := (hb.cell hg).trans h1
    have HX := Lib.hid hx; have HB := Lib.hid hb
    clear hx hb h1
    by_cases hpx : x = S
    · have hc : R = true := by rw [← HRR.out, List.contains_iff_mem, ← hpx]; exact List.mem_of_getElem? HX.out
      have HR := Lib.hid hc; subst hpx; clear hc
      go_wp2_with fail
      go_ret
      exact ⟨congrArg (fun i => Ending.returned (.bool i)) HR.out.symm, HB.out⟩
    · have HPX := Lib.hid hpx
      have hb1 : (x == S) = false := by simpa using hpx
      have hb2 : (S == x) = false := by simpa using (Ne.symm hpx)
      clear hpx
      go_wp2_with fail
      go_roundw
      case rel =>
       refine ⟨k + 1, by omega, by go_num, HB.out, fun j y hj hy => ?_⟩
       by_cases e : j = k
       · subst e; rw [HX.out] at hy
         cases hy
         exact HPX.out
       · exact HP.out j y (by omega) hy
      case measure => simp [RowKit.intOf]; omega
  · have hki : ¬ (k : Int) < n := by omega
    have hc : R = false := by
     cases h : R with
     | false => rfl
     | true =>
      have h := HRR.out.trans h; rw [List.contains_iff_mem] at h; obtain ⟨j, hj, e⟩ := List.getElem_of_mem h; exact absurd e (HP.out j _ (by have := HN.out; omega) (List.getElem?_eq_getElem hj))
    have HR := Lib.hid hc; have HB := Lib.hid hb; clear hb hc
    go_wp2_with fail
    go_ret
    exact ⟨congrArg (fun i => Ending.returned (.bool i)) HR.out.symm, HB.out⟩
def cutV : Option (Bs × Bs) → Value
  | some x => .tuple #[.string ⟨x.1.toArray⟩, .string ⟨x.2.toArray⟩, .bool true]
  | none => .tuple #[.string ⟨#[]⟩, .string ⟨#[]⟩, .bool false]
set_option maxHeartbeats 2000000 in
theorem scut_any (S : ByteArray) (c : UInt8) (w : World) (hs : S.size ≤ 9000000) :
    Calls Tryz.prog 66 #[.string S, .int .u8 c.toNat] w fun e w' => e = .returned (cutV (cutAt c S.data.toList)) ∧ Below w.heap.size w w' := by
 have hl : S.data.toList.length = S.size := by simp
 have HL := Lib.hid hl; clear hl
 go_enter Tryz.func66, Tryz.ntmps66
 go_wp2_with fail
 go_loopw [7] (fun id wr => ∃ k : Nat, k ≤ S.size ∧ id = .int .i64 k ∧ Below w.heap.size w wr ∧ c ∉ S.data.toList.take k) (fun id _ => S.size - (RowKit.intOf id).toNat)
 case atStart => exact ⟨0, by omega, rfl, Below.refl _ _, by simp⟩
 case round =>
  obtain ⟨k, hk, rfl, hb, hp⟩ := hrel
  have HP := Lib.hid hp; have HB := Lib.hid hb
  clear hp hb
  by_cases hlk : k < S.size
  · have hki : (k : Int) < S.size := by omega
    have hk0 : (0 : Int) ≤ (k : Int) := by omega
    have hle : (k : Int) ≤ S.size := by omega
    have hle1 : (k : Int) + 1 ≤ S.size := by omega
    have hle0 : (0 : Int) ≤ (k : Int) + 1 := by omega
    have hw1 : IntKind.i64.wrap ((k : Int) + 1) = (k : Int) + 1 := IntWalk.i64_in _ (by omega)
    have hx : S.data.toList[k]? = some S[k] := by rw [List.getElem?_eq_getElem (by rw [HL.out]; exact hlk)]; rfl
    have HX := Lib.hid hx; clear hx
    have hxb : S.data.toList.take (k + 1) = S.data.toList.take k ++ [S[k]] := by rw [List.take_add_one, HX.out]; rfl
    have HXB := Lib.hid hxb; clear hxb
    by_cases he : S[k] = c
    · have hcut : some (S.data.toList.take k, S.data.toList.drop (k + 1)) = cutAt c S.data.toList := by
        have e : S.data.toList = S.data.toList.take k ++ c :: S.data.toList.drop (k + 1) := by
         conv => lhs; rw [← List.take_append_drop k S.data.toList]
         rw [List.drop_eq_getElem_cons (by rw [HL.out]; exact hlk)]
         congr 1; congr 1
        have h5 := cutAt_app (y := S.data.toList.drop (k + 1)) HP.out; rw [← e] at h5; exact h5.symm
      have HCU := Lib.hid hcut; clear hcut
      have b1 : (((S[k]).toNat : Int) == ((c.toNat : Nat) : Int)) = true := by simp [he]
      go_wp2_with fail
      refine wp_region_sel [isV (.string S), isV (.int .i64 (k : Nat)), isV (.string (S.extract 0 k)), isV (.string S), isV (.int .i64 (k : Nat)), isV (.int .i64 ((k : Int) + 1)), isV (.string (S.extract (k + 1) S.size)), isV (.string (S.extract 0 k)), isV (.string (S.extract (k + 1) S.size)), isV (Value.bool true)] (by kernel_rfl) (by kernel_rfl) ?_ ?_
      ·
        refine rb ?_; refine rb ?_; refine rf (fun ev wo E => ?_) ?_
        · have e19 : ev (.tmp 19) = .string S := E.e 0; have e20 : ev (.tmp 20) = .int .i64 (k : Nat) := E.e 1; go_simp; exact rv
        refine rb ?_; refine rb ?_; refine rf (fun ev wo E => ?_) ?_
        · have e23 : ev (.tmp 23) = .int .i64 (k : Nat) := E.e 0; have ec := E.const; go_simp; exact rv
        refine rf (fun ev wo E => ?_) ?_
        · have e22 : ev (.tmp 22) = .string S := E.e 0; have e24 : ev (.tmp 24) = .int .i64 ((k : Int) + 1) := E.e 1; go_simp; exact rv
        refine ⟨prem_copy 0 (WantOk.free rfl) (.inr rfl) rfl rfl rfl rfl (isV_stable _), ?_⟩; refine ⟨prem_copy 0 (WantOk.free rfl) (.inr rfl) rfl rfl rfl rfl (isV_stable _), ?_⟩; refine ⟨prem_const (WantOk.free rfl) (.inr rfl) rfl, ?_⟩; trivial
      · intro wz bz
        (iterate 10 rintro _ rfl)
        have e1 : S.extract 0 k = ⟨(S.data.toList.take k).toArray⟩ := by apply sba_ext; simp [List.extract]
        have e2 : S.extract (k + 1) S.size = ⟨(S.data.toList.drop (k + 1)).toArray⟩ := by apply sba_ext; simp [List.extract]; rw [List.take_of_length_le (by simp)]
        have E1 := Lib.hid e1; have E2 := Lib.hid e2
        clear e1 e2; simp only [relEnd]; go_simp
        go_wp2_with fail
        refine bodyPost_ret (v := .tuple #[.string (S.extract 0 k), .string (S.extract (k + 1) S.size), .bool true]) (by simp [results, Tryz.results66, go_sem]) rfl ⟨?_, HB.out.trans (bz.mono HB.out.size)⟩; rw [E1.out, E2.out]; exact congrArg (fun x => Ending.returned (cutV x)) HCU.out
    · have b1 : (((S[k]).toNat : Int) == ((c.toNat : Nat) : Int)) = false := by
        rw [beq_eq_false_iff_ne]; intro e; exact he (UInt8.toNat_inj.1 (by omega))
      have HE := Lib.hid he; clear he
      go_wp2_with fail
      go_roundw
      case rel => exact ⟨k + 1, by omega, by go_num, HB.out, by rw [HXB.out]; simp only [List.mem_append, List.mem_singleton, not_or]; exact ⟨HP.out, fun e => HE.out e.symm⟩⟩
      case measure => simp [RowKit.intOf]; omega
  · have hki : ¬ (k : Int) < S.size := by omega
    have hc : none = cutAt c S.data.toList := Eq.symm <| cutAt_none.2 (by have := HP.out; rw [List.take_of_length_le (by rw [HL.out]; omega)] at this; exact this); have HCU := Lib.hid hc; clear hc
    go_wp2_with fail
    exact bodyPost_ret (v := .tuple #[.string ⟨#[]⟩, .string ⟨#[]⟩, .bool false]) (by simp [results, Tryz.results66, go_sem]) rfl ⟨congrArg (fun x => Ending.returned (cutV x)) HCU.out, HB.out⟩
end Go.Proofs.YthlinmkengoliaaGreatDoor
set_option linter.unusedSimpArgs false
namespace Go.Ms
open Go.RowKit Go.Lib
theorem rline_eq {key u n0 : Bool} {i0 k m0 : Int} {s0 t0 DG WD TT O KW : ByteArray} (h1 : DG = ⟨(itoa i0).toArray⟩) (h2 : WD = ⟨(wordOf k).toArray⟩) (h3 : TT = ⟨(kTextD k u n0 m0 t0.data.toList).toArray⟩)
    (hK : KW.data.toList = O.data.toList ++ (DG.data.toList ++ 32 :: (s0.data.toList ++ 32 :: (WD.data.toList ++ (if u = true then [63] else []) ++ (if key = true then [42] else []))))) :
    (((KW ++ ⟨#[32]⟩) ++ TT) ++ ⟨#[10]⟩).data.toList = O.data.toList ++ (coLine key ((i0, s0, (k, u), n0, m0, t0) : Co) ++ [10]) := by
 have e : (((KW ++ ⟨#[32]⟩) ++ TT) ++ ⟨#[10]⟩).data.toList = KW.data.toList ++ [32] ++ TT.data.toList ++ [10] := by simp [ByteArray.data_append]
 rw [e, hK, h1, h2, h3]; unfold coLine coText
 simp
end Go.Ms
namespace Go.Proofs.YthlinmkengoliaaGreatDoor
open Go.RowKit Go.Ms Go.Lib Go.Rel
set_option maxRecDepth 100000 in
set_option maxHeartbeats 8000000 in
theorem rsctext_any (w : World) (A B : Option Addr) (n cap m capm : Nat) (cs : List Co) (ks : List Int) (hsz : ∀ c ∈ cs, c.2.1.size ≤ 100000 ∧ c.2.2.2.2.2.size ≤ 100000 ∧ -9223372036854775808 ≤ c.2.2.2.2.1 ∧ c.2.2.2.2.1 ≤ 9223372036854775807) (h1 : n ≤ 100000) (h2 : m ≤ 100000) (hn : n = cs.length) (hm : m = ks.length)
    (hA : Lay w w.heap.size A (colV cs)) (hB : Lay w w.heap.size B (intV ks)) :
    Calls Tryz.prog 26 #[.agg #[.slice A n cap, .slice B m capm]] w fun e w' => e = .returned (.tuple #[.string ⟨(scText cs ks).toArray⟩, .int .i64 (scCheck cs ks)]) ∧ Below w.heap.size w w' := by
 have bX : Below w.heap.size w (w.alloc (.cells #[.slice A n cap, .slice B m capm] 28)) := (Below.refl _ w).alloc (Nat.le_refl _) _; have hck := rsccheck_any (w.alloc (.cells #[.slice A n cap, .slice B m capm] 28)) A B n cap m capm cs ks hsz h1 h2 hn hm ((hA.below bX).more bX.size) ((hB.below bX).more bX.size); have q0 := block_new w (.cells #[.slice A n cap, .slice B m capm] 28); unfold scText; unfold scCheck at hck ⊢
 by_cases hok : scOk cs ks = true
 · have hso := (scOk_iff cs ks).1 hok; rw [if_pos hok] at hck ⊢; rw [if_pos hok]
   have HCK := Lib.hid hck; have Q0 := Lib.hid q0; have BX0 := Lib.hid bX; have HA := Lib.hid hA; have HB := Lib.hid hB; have HN := Lib.hid hn; have HM0 := Lib.hid hm; have HSO := Lib.hid hso; have HSZ := Lib.hid hsz
   clear hck q0 bX hA hB hn hm hso hok hsz
   go_enter Tryz.func26, Tryz.ntmps26
   go_wp2_with fail
   refine HCK.out.mono ?_; rintro en w1 ⟨rfl, b1⟩; have q1 := block_kept Q0.out b1
   have Q1 := Lib.hid q1; have B1 := Lib.hid (BX0.out.trans (b1.mono BX0.out.size))
   clear b1 q1
   go_wp2_with fail
   go_loopw [5, 6] (fun o id wr => ∃ k : Nat, k ≤ n ∧ id = .int .i64 k ∧ Below w1.heap.size w1 wr ∧ ∃ O : ByteArray, o = .string O ∧ O.data.toList = scLines ks 0 (cs.take k) ∧ O.size ≤ 6500 * k) (fun o id _ => n - (RowKit.intOf id).toNat)
   case atStart => exact ⟨0, by omega, rfl, Below.refl _ _, ⟨#[]⟩, rfl, by simp [scLines], by show (0 : Nat) ≤ _; omega⟩
   case round =>
    obtain ⟨k, hk, rfl, hb, O, rfl, hO, hOz⟩ := hrel
    have n32 : n ≤ 32 := by rw [HN.out]; exact HSO.out.most
    have qx := block_kept Q1.out hb; have v0 := cell_of_block (i := 0) qx rfl; have v1 := cell_of_block (i := 1) qx rfl
    by_cases hlk : k < n
    · have hki : (k : Int) < n := by omega
      have hk0 : (0 : Int) ≤ (k : Int) := by omega
      obtain ⟨c, hc⟩ : ∃ c, cs[k]? = some c := ⟨_, List.getElem?_eq_getElem (by rw [← HN.out]; exact hlk)⟩; obtain ⟨hnm, hcz⟩ := HSO.out.co k c hc; obtain ⟨hi1, hi2⟩ := HSO.out.id k c hc
      have hcok : coOk c = true := by unfold coOk; simp only [Bool.and_eq_true, decide_eq_true_eq]; exact ⟨hnm, hcz⟩
      have hsml := coOk_small hcok; have hsn := scLines_snoc ks c (cs.take k) 0
      have htk : cs.take (k + 1) = cs.take k ++ [c] := by rw [List.take_add_one, hc]; rfl
      have hlk2 : (cs.take k).length = k := by rw [List.length_take]; have := HN.out; omega
      rw [← htk, hlk2, Nat.zero_add] at hsn; obtain ⟨g, o, rfl, hg, g1, g2, g3, g4, g5, g6, g7⟩ := HA.out.co hc; have hwr : Below w.heap.size w wr := B1.out.trans (hb.mono B1.out.size); replace g1 := (hwr.cell hg).trans g1; replace g2 := (hwr.cell hg).trans g2; replace g3 := (hwr.cell hg).trans g3; replace g4 := (hwr.cell hg).trans g4; replace g5 := (hwr.cell hg).trans g5; replace g6 := (hwr.cell hg).trans g6; replace g7 := (hwr.cell hg).trans g7; obtain ⟨i0, s0, ⟨k0, u0⟩, n0, m0, t0⟩ := c; simp only at g1 g2 g3 g4 g5 g6 g7 hi1 hi2 hcz hsml
      have hX : Below w1.heap.size w1 (wr.alloc (.cells #[.int .i64 i0, .string s0, .int .i64 k0, .bool u0, .bool n0, .int .i64 m0, .string t0] 37)) := hb.alloc hb.size _
      have hdg := fun w' => sdigits_any i0 w' (by omega) hi2
      have hwd := fun w' => sword_any k0 w'
      have hil := itoa_length_le i0 (by omega) (by omega); have hwl := wordOf_len k0; have htl := sctext_len hcz
      have htx := fun w' => rText_any k0 u0 n0 m0 t0 w' (by omega) hsml.2.2.1 hsml.2.2.2
      rw [show kCheck k0 u0 n0 m0 t0.data.toList = 0 from hcz] at htx; obtain ⟨DG, hDG⟩ : ∃ DG : ByteArray, DG = ⟨(itoa i0).toArray⟩ := ⟨_, rfl⟩; obtain ⟨WD, hWD⟩ : ∃ WD : ByteArray, WD = ⟨(wordOf k0).toArray⟩ := ⟨_, rfl⟩; obtain ⟨TT, hTT⟩ : ∃ TT : ByteArray, TT = ⟨(kTextD k0 u0 n0 m0 t0.data.toList).toArray⟩ := ⟨_, rfl⟩; rw [← hDG] at hdg; rw [← hWD] at hwd; rw [← hTT] at htx
      have z1 : DG.size ≤ 21 := by rw [hDG]; exact hil
      have z2 : WD.size ≤ 6 := by rw [hWD]; exact hwl
      have z3 : TT.size ≤ 6200 := by rw [hTT]; exact htl
      have z4 : s0.size ≤ 32 := hsml.1
      have z5 : O.size ≤ 210000 := by omega
      have o1 : ¬ (9223372036854775807 < O.size + DG.size) := by omega
      have o2 : ¬ (9223372036854775807 < O.size + DG.size + 1) := by omega
      have o3 : ¬ (9223372036854775807 < O.size + DG.size + 1 + s0.size) := by omega
      have o4 : ¬ (9223372036854775807 < O.size + DG.size + 1 + s0.size + 1) := by omega
      have o5 : ¬ (9223372036854775807 < O.size + DG.size + 1 + s0.size + 1 + WD.size) := by omega
      have o6 : ¬ (9223372036854775807 < O.size + DG.size + 1 + s0.size + 1 + WD.size + 1) := by omega
      have o7 : ¬ (9223372036854775807 < O.size + DG.size + 1 + s0.size + 1 + WD.size + 1 + 1) := by omega
      have o8 : ¬ (9223372036854775807 < O.size + DG.size + 1 + s0.size + 1 + WD.size + 1 + 1 + 1) := by omega
      have p6 : ¬ (9223372036854775807 < O.size + DG.size + 1 + s0.size + 1 + WD.size + 1 + TT.size) := by omega
      have p7 : ¬ (9223372036854775807 < O.size + DG.size + 1 + s0.size + 1 + WD.size + 1 + 1 + TT.size) := by omega
      have p8 : ¬ (9223372036854775807 < O.size + DG.size + 1 + s0.size + 1 + WD.size + 1 + 1 + 1 + TT.size) := by omega
      have r6 : ¬ (9223372036854775807 < O.size + DG.size + 1 + s0.size + 1 + WD.size + 1 + TT.size + 1) := by omega
      have r7 : ¬ (9223372036854775807 < O.size + DG.size + 1 + s0.size + 1 + WD.size + 1 + 1 + TT.size + 1) := by omega
      have r8 : ¬ (9223372036854775807 < O.size + DG.size + 1 + s0.size + 1 + WD.size + 1 + 1 + 1 + TT.size + 1) := by omega
      obtain ⟨key, hkey⟩ : ∃ b, ks.contains (k : Int) = b := ⟨_, rfl⟩; rw [hkey] at hsn
      have HQ := Lib.hid (block_new wr (.cells #[.int .i64 i0, .string s0, .int .i64 k0, .bool u0, .bool n0, .int .i64 m0, .string t0] 37)); have HX := Lib.hid hX; have HSN := Lib.hid hsn; have HKEY := Lib.hid hkey; have HDG := Lib.hid hdg; have HWD := Lib.hid hwd; have HTX := Lib.hid htx; have HDE := Lib.hid hDG; have HWE := Lib.hid hWD; have HTT := Lib.hid hTT; have HM := Lib.hid hO
      have HZ1 := Lib.hid z1; have HZ2 := Lib.hid z2; have HZ3 := Lib.hid z3; have HZ4 := Lib.hid z4; have HZ5 := Lib.hid hOz
      clear hX hsn hkey hdg hwd htx hDG hWD hTT hO hil hwl htl hwr htk hlk2 hcok hnm hc hcz hb qx z1 z2 z3 z4 z5 hOz
      go_wp2_with fail
      refine (HTX.out _).mono ?_; rintro en w4 ⟨rfl, b4⟩
      have Q4 := Lib.hid (block_kept HQ.out b4); have B4 := Lib.hid (HX.out.trans (b4.mono HX.out.size))
      clear b4
      go_wp2_with fail
      have s0' : (w4.drew.cell? ⟨wr.heap.size, 0, none⟩ = some (.int .i64 i0) ∧ w4.drew.cell? ⟨wr.heap.size, 1, none⟩ = some (.string s0) ∧ w4.drew.cell? ⟨wr.heap.size, 2, none⟩ = some (.int .i64 k0)) ∧ Below w4.heap.size w4 w4.drew := ⟨⟨cell_of_block (i := 0) Q4.out rfl, cell_of_block (i := 1) Q4.out rfl, cell_of_block (i := 2) Q4.out rfl⟩, ms_drewN (Below.refl _ _) 1⟩; have S0 := Lib.hid s0'; clear s0'
      go_region_held3 (fun w' => (w'.cell? ⟨wr.heap.size, 0, none⟩ = some (.int .i64 i0) ∧ w'.cell? ⟨wr.heap.size, 1, none⟩ = some (.string s0) ∧ w'.cell? ⟨wr.heap.size, 2, none⟩ = some (.int .i64 k0)) ∧ Below w4.heap.size w4 w')
        (first
          | with_reducible exact S0.out
          | with_reducible exact ykeep3 S0.out bb
          | with_reducible exact ykeep3 (by assumption) bb
          | (go_keep; done))
        (first
          | ((with_reducible refine (HDG.out _).mono ?_); rintro en w5 ⟨rfl, bb⟩)
          | ((with_reducible refine (HWD.out _).mono ?_); rintro en w5 ⟨rfl, bb⟩))
      all_goals
       have bz : Below w4.heap.size w4 w5 := And.right (by assumption); have B5 := Lib.hid (B4.out.trans (bz.mono B4.out.size)); have q5 := block_kept Q4.out bz; have qb := block_kept Q1.out B5.out; have y1 := cell_of_block (i := 1) qb rfl; have y0 := cell_of_block (i := 0) qb rfl; have hki2 := siskey_any w5 B m capm ks (k : Int) (by unfold maxLen; omega) HM0.out ((HB.out.below (B1.out.trans (B5.out.mono B1.out.size))).more (B1.out.trans (B5.out.mono B1.out.size)).size); rw [HKEY.out] at hki2; have HKI := Lib.hid hki2; clear hki2 qb v0 v1 g1 g2 g3 g4 g5 g6 g7 bz
       have x0 := cell_of_block (i := 0) q5 rfl; have x1 := cell_of_block (i := 1) q5 rfl; have x2 := cell_of_block (i := 2) q5 rfl; have x3 := cell_of_block (i := 3) q5 rfl; have x4 := cell_of_block (i := 4) q5 rfl; have x5 := cell_of_block (i := 5) q5 rfl; have x6 := cell_of_block (i := 6) q5 rfl; clear q5
       cases u0 with
       | false =>
        go_wp2_with fail
        refine HKI.out.mono ?_; rintro en w6 ⟨rfl, b6⟩; have B6 := Lib.hid (B5.out.trans (b6.mono B5.out.size)); clear b6
        cases key with
        | false =>
         go_wp2_with fail
         go_roundw
         case rel =>
          have hle := rline_eq (key := false) (s0 := s0) HDE.out HWE.out HTT.out (O := O) (KW := (((((O ++ DG) ++ ⟨#[32]⟩) ++ s0) ++ ⟨#[32]⟩) ++ WD)) (by simp [ByteArray.data_append]); refine ⟨k + 1, by omega, by go_num, B6.out, _, rfl, ?_, ?_⟩
          · rw [hle, HM.out, HSN.out]
          · have e1 : (⟨#[63]⟩ : ByteArray).size = 1 := rfl; have e2 : (⟨#[42]⟩ : ByteArray).size = 1 := rfl; have e3 : (⟨#[32]⟩ : ByteArray).size = 1 := rfl; have e4 : (⟨#[10]⟩ : ByteArray).size = 1 := rfl; simp only [ByteArray.size_append]
            have := HZ1.out; have := HZ2.out; have := HZ3.out; have := HZ4.out; have := HZ5.out
            omega
         case measure => first | (simp [RowKit.intOf]; done) | (simp [RowKit.intOf]; omega)
        | true =>
         go_wp2_with fail
         go_roundw
         case rel =>
          have hle := rline_eq (key := true) (s0 := s0) HDE.out HWE.out HTT.out (O := O) (KW := ((((((O ++ DG) ++ ⟨#[32]⟩) ++ s0) ++ ⟨#[32]⟩) ++ WD) ++ ⟨#[42]⟩)) (by simp [ByteArray.data_append]); refine ⟨k + 1, by omega, by go_num, B6.out, _, rfl, ?_, ?_⟩
          · rw [hle, HM.out, HSN.out]
          · have e1 : (⟨#[63]⟩ : ByteArray).size = 1 := rfl; have e2 : (⟨#[42]⟩ : ByteArray).size = 1 := rfl; have e3 : (⟨#[32]⟩ : ByteArray).size = 1 := rfl; have e4 : (⟨#[10]⟩ : ByteArray).size = 1 := rfl; simp only [ByteArray.size_append]
            have := HZ1.out; have := HZ2.out; have := HZ3.out; have := HZ4.out; have := HZ5.out
            omega
         case measure => first | (simp [RowKit.intOf]; done) | (simp [RowKit.intOf]; omega)
       | true =>
        go_wp2_with fail
        refine HKI.out.mono ?_; rintro en w6 ⟨rfl, b6⟩; have B6 := Lib.hid (B5.out.trans (b6.mono B5.out.size)); clear b6
        cases key with
        | false =>
         go_wp2_with fail
         go_roundw
         case rel =>
          have hle := rline_eq (key := false) (s0 := s0) HDE.out HWE.out HTT.out (O := O) (KW := ((((((O ++ DG) ++ ⟨#[32]⟩) ++ s0) ++ ⟨#[32]⟩) ++ WD) ++ ⟨#[63]⟩)) (by simp [ByteArray.data_append]); refine ⟨k + 1, by omega, by go_num, B6.out, _, rfl, ?_, ?_⟩
          · rw [hle, HM.out, HSN.out]
          · have e1 : (⟨#[63]⟩ : ByteArray).size = 1 := rfl; have e2 : (⟨#[42]⟩ : ByteArray).size = 1 := rfl; have e3 : (⟨#[32]⟩ : ByteArray).size = 1 := rfl; have e4 : (⟨#[10]⟩ : ByteArray).size = 1 := rfl; simp only [ByteArray.size_append]
            have := HZ1.out; have := HZ2.out; have := HZ3.out; have := HZ4.out; have := HZ5.out
            omega
         case measure => first | (simp [RowKit.intOf]; done) | (simp [RowKit.intOf]; omega)
        | true =>
         go_wp2_with fail
         go_roundw
         case rel =>
          have hle := rline_eq (key := true) (s0 := s0) HDE.out HWE.out HTT.out (O := O) (KW := (((((((O ++ DG) ++ ⟨#[32]⟩) ++ s0) ++ ⟨#[32]⟩) ++ WD) ++ ⟨#[63]⟩) ++ ⟨#[42]⟩)) (by simp [ByteArray.data_append]); refine ⟨k + 1, by omega, by go_num, B6.out, _, rfl, ?_, ?_⟩
          · rw [hle, HM.out, HSN.out]
          · have e1 : (⟨#[63]⟩ : ByteArray).size = 1 := rfl; have e2 : (⟨#[42]⟩ : ByteArray).size = 1 := rfl; have e3 : (⟨#[32]⟩ : ByteArray).size = 1 := rfl; have e4 : (⟨#[10]⟩ : ByteArray).size = 1 := rfl; simp only [ByteArray.size_append]
            have := HZ1.out; have := HZ2.out; have := HZ3.out; have := HZ4.out; have := HZ5.out
            omega
         case measure => first | (simp [RowKit.intOf]; done) | (simp [RowKit.intOf]; omega)
    · have hki : ¬ (k : Int) < n := by omega
      obtain rfl : k = n := by omega
      have htk : cs.take k = cs := List.take_of_length_le (by have := HN.out; omega); rw [htk] at hO
      have HO := Lib.hid (sba_ext hO); have HBW := Lib.hid (B1.out.trans (hb.mono B1.out.size))
      clear hO hb
      go_wp2_with fail
      go_ret2
      exact ⟨by rw [HO.out]; rfl, HBW.out⟩
 · rw [if_neg hok] at hck ⊢; rw [if_neg hok]
   have HCK := Lib.hid hck; have BX := Lib.hid bX
   clear hck bX q0 hA hB hn hm hok hsz
   go_enter Tryz.func26, Tryz.ntmps26
   go_wp2_with fail
   refine HCK.out.mono ?_; rintro en w1 ⟨rfl, b1⟩; have B1 := Lib.hid (BX.out.trans (b1.mono BX.out.size)); clear b1
   go_wp2_with fail
   go_ret2
   exact ⟨rfl, B1.out⟩
end Go.Proofs.YthlinmkengoliaaGreatDoor
set_option linter.unusedSimpArgs false
namespace Go.Ms
open Go.RowKit Go.Lib
def numGo (n : Nat) : Bs → Int
  | [] => n
  | c :: r => if 48 ≤ c.toNat ∧ c.toNat ≤ 57 ∧ n ≤ (1048576 - (c.toNat - 48)) / 10 then numGo (10 * n + (c.toNat - 48)) r else -1
def numD (s : Bs) : Int := if s = [] ∨ (2 ≤ s.length ∧ s.head? = some 48) then -1 else numGo 0 s
theorem numGo_app : ∀ (a b : Bs) (n : Nat), numGo n (a ++ b) = if numGo n a < 0 then -1 else numGo (numGo n a).toNat b
  | [], b, n => by
   rw [List.nil_append, numGo, if_neg (by omega), Int.toNat_natCast]
  | c :: r, b, n => by
   rw [List.cons_append, numGo, numGo]
   by_cases h : 48 ≤ c.toNat ∧ c.toNat ≤ 57 ∧ n ≤ (1048576 - (c.toNat - 48)) / 10
   · rw [if_pos h, if_pos h]; exact numGo_app r b _
   · rw [if_neg h, if_neg h]; simp
theorem dig_nat {d : Nat} (h : d < 10) : (UInt8.ofNat (48 + d)).toNat = 48 + d := by simp; omega
theorem numGo_dec (u : Nat) : u ≤ 1048576 → numGo 0 (decDigits u) = u := by
 induction u using Nat.strongRecOn with
 | _ u ih =>
  intro hu
  by_cases h : u < 10
  · rw [decDigits, dif_pos h, numGo, dig_nat h, numGo, if_pos (by omega)]; omega
  · rw [decDigits, dif_neg h, numGo_app, ih (u / 10) (by omega) (by omega)]; rw [if_neg (by omega), Int.toNat_natCast, numGo, dig_nat (by omega), numGo, if_pos (by omega)]; omega
theorem snum_head (u : Nat) : 1 ≤ u → ∃ c r, decDigits u = c :: r ∧ c ≠ 48 := by
 induction u using Nat.strongRecOn with
 | _ u ih =>
  intro hu
  by_cases h : u < 10
  · refine ⟨_, [], by rw [decDigits, dif_pos h], ?_⟩
    intro e
    have := congrArg UInt8.toNat e; rw [dig_nat h] at this
    simp at this
    omega
  · obtain ⟨c, r, e, hc⟩ := ih (u / 10) (by omega) (by omega); exact ⟨c, r ++ [UInt8.ofNat (48 + u % 10)], by rw [decDigits, dif_neg h, e]; rfl, hc⟩
theorem numD_dec {u : Nat} (h : u ≤ 1048576) : numD (decDigits u) = u := by
 unfold numD; rw [if_neg, numGo_dec u h]; rintro (e | ⟨e1, e2⟩)
 · by_cases h1 : u < 10
   · rw [decDigits, dif_pos h1] at e; cases e
   · rw [decDigits, dif_neg h1] at e; simp at e
 · by_cases h1 : u < 10
   · rw [decDigits, dif_pos h1] at e1; simp at e1
   · obtain ⟨c, r, e, hc⟩ := snum_head u (by omega); rw [e] at e2; exact hc (by simpa using e2)
theorem numGo_back : ∀ (m : Nat) (s : Bs), s.length ≤ m → s ≠ [] → ¬ (2 ≤ s.length ∧ s.head? = some 48) → 0 ≤ numGo 0 s → ∃ v : Nat, numGo 0 s = v ∧ v ≤ 1048576 ∧ s = decDigits v
  | 0, s, hm, hne, _, _ => absurd (List.eq_nil_of_length_eq_zero (by omega)) hne
  | m + 1, s, hm, hne, hz, h0 => by
   obtain ⟨l, c, rfl⟩ : ∃ (l : Bs) (c : UInt8), s = l ++ [c] := ⟨s.dropLast, s.getLast hne, (List.dropLast_concat_getLast hne).symm⟩; rw [numGo_app] at h0 ⊢
   by_cases hl : l = []
   · subst hl
     have hz0 : ¬ numGo 0 [] < 0 := by rw [numGo]; omega
     have e0 : (numGo 0 []).toNat = 0 := rfl; rw [if_neg hz0, e0, numGo] at h0 ⊢
     by_cases hc : 48 ≤ c.toNat ∧ c.toNat ≤ 57 ∧ 0 ≤ (1048576 - (c.toNat - 48)) / 10
     · rw [if_pos hc] at h0 ⊢; refine ⟨c.toNat - 48, by rw [numGo]; omega, by omega, ?_⟩; rw [decDigits, dif_pos (by omega), List.nil_append]
       congr 1
       apply UInt8.toNat_inj.1
       rw [dig_nat (by omega)]; omega
     · rw [if_neg hc] at h0; omega
   · have hln : ¬ numGo 0 l < 0 := by
       intro hneg
       rw [if_pos hneg] at h0; omega
     rw [if_neg hln] at h0 ⊢; rw [List.length_append, List.length_singleton] at hm
     have hl1 : 1 ≤ l.length := by
      rcases Nat.eq_zero_or_pos l.length with e | e
      · exact absurd (List.eq_nil_of_length_eq_zero e) hl
      · exact e
     have hh : l.head? ≠ some 48 := by
      intro e
      apply hz
      refine ⟨by rw [List.length_append, List.length_singleton]; omega, ?_⟩; rw [List.head?_append, e]; rfl
     obtain ⟨v, e1, e2, e3⟩ := numGo_back m l (by omega) hl (fun h => hh h.2) (by omega); rw [e1, Int.toNat_natCast, numGo] at h0 ⊢
     by_cases hc : 48 ≤ c.toNat ∧ c.toNat ≤ 57 ∧ v ≤ (1048576 - (c.toNat - 48)) / 10
     · rw [if_pos hc] at h0 ⊢
       have hv1 : 1 ≤ v := by
        rcases Nat.eq_zero_or_pos v with e | e
        · subst e; rw [e3, decDigits, dif_pos (by omega)] at hh; exact absurd (by decide) hh
        · exact e
       refine ⟨10 * v + (c.toNat - 48), by simp [numGo], by omega, ?_⟩; rw [decDigits, dif_neg (by omega), show (10 * v + (c.toNat - 48)) / 10 = v by omega, show (10 * v + (c.toNat - 48)) % 10 = c.toNat - 48 by omega, ← e3]
       congr 2
       apply UInt8.toNat_inj.1
       rw [dig_nat (by omega)]; omega
     · rw [if_neg hc] at h0; omega
theorem numGo_neg : ∀ (s : Bs) (n : Nat), numGo n s < 0 → numGo n s = -1
  | [], n, h => by simp [numGo] at h; omega
  | c :: r, n, h => by
   rw [numGo] at h ⊢
   by_cases hc : 48 ≤ c.toNat ∧ c.toNat ≤ 57 ∧ n ≤ (1048576 - (c.toNat - 48)) / 10
   · rw [if_pos hc] at h ⊢; exact numGo_neg r _ h
   · rw [if_neg hc]
theorem numD_id (s : Bs) : numD s = idOf s := by
 by_cases hi : 0 ≤ idOf s
 · obtain ⟨h1, h2⟩ := idOf_back hi; obtain ⟨u, hu⟩ : ∃ u : Nat, idOf s = u := ⟨(idOf s).toNat, by omega⟩; rw [hu] at h1 h2 ⊢; rw [← h1, itoa_nat]; exact numD_dec (by omega)
 · have hi1 : idOf s = -1 := by
     unfold idOf at hi ⊢
     split
     · rename_i h; rw [if_pos h] at hi; omega
     · rfl
   rw [hi1]
   by_cases hn : 0 ≤ numD s
   · exfalso
     unfold numD at hn
     split at hn
     · omega
     · rename_i hc
       obtain ⟨v, e1, e2, e3⟩ := numGo_back s.length s (Nat.le_refl _) (fun e => hc (.inl e)) (fun e => hc (.inr e)) hn; have hw := whole_itoa (n := (v : Int)) (by omega) (by omega); rw [itoa_nat, ← e3] at hw
       apply hi
       unfold idOf; rw [hw, if_pos ⟨by rw [itoa_nat, ← e3], by omega, by omega⟩]; omega
   · unfold numD at hn ⊢
     split
     · rfl
     · rename_i hc
       rw [if_neg hc] at hn; exact numGo_neg s 0 (by omega)
end Go.Ms
set_option linter.unusedSimpArgs false
namespace Go.Proofs.YthlinmkengoliaaGreatDoor
open Go.RowKit Go.Ms Go.Lib
set_option maxHeartbeats 4000000 in
theorem snumber_any (S : ByteArray) (w : World) (hs : S.size ≤ 20000) :
    Calls Tryz.prog 98 #[.string S, .int .i64 1048576] w fun e w' => e = .returned (.int .i64 (idOf S.data.toList)) ∧ Below w.heap.size w w' := by
 have hl : S.data.toList.length = S.size := by simp
 rw [← numD_id]; obtain ⟨R, hR⟩ : ∃ R, numD S.data.toList = R := ⟨_, rfl⟩; rw [hR]; unfold numD at hR
 by_cases h0 : S.size = 0
 · have e : S.data.toList = [] := List.eq_nil_of_length_eq_zero (by omega); rw [if_pos (.inl e)] at hR; subst hR
   have h0' : (S.size : Int) < 1 := by omega
   clear hl e
   go_enter Tryz.func98, Tryz.ntmps98
   go_wp2_with fail
   go_ret
   exact ⟨rfl, Below.refl _ _⟩
 have h1 : ¬ (S.size : Int) < 1 := by omega
 have h1' : (0 : Int) < S.size := by omega
 have h1n : 0 < S.size := by omega
 have hd : S.data.toList.head? = some S[0] := by
  rw [List.head?_eq_getElem?, List.getElem?_eq_getElem (by omega)]; rfl
 have hne : S.data.toList ≠ [] := fun e => by rw [e] at hl; simp at hl; omega
 by_cases hz : 2 ≤ S.size ∧ S[0] = 48
 · rw [if_pos (.inr ⟨by omega, by rw [hd, hz.2]⟩)] at hR; subst hR
   have h2 : (1 : Int) < S.size := by omega
   have h3 : ((S[0].toNat : Int) == 48) = true := by rw [hz.2]; rfl
   clear hl hd hne hz
   go_enter Tryz.func98, Tryz.ntmps98
   go_wp2_with fail
   go_ret
   exact ⟨rfl, Below.refl _ _⟩
 rw [if_neg (by
   rintro (e | ⟨e1, e2⟩)
   · exact hne e
   · rw [hd] at e2; exact hz ⟨by omega, by simpa using e2⟩)] at hR
 have hgo : ∀ (w0 : World), True := fun _ => trivial
 have HR := Lib.hid hR; have HL := Lib.hid hl
 have h2 : (1 : Int) < S.size → ((S[0].toNat : Int) == 48) = false := by
  intro h
  rw [beq_eq_false_iff_ne]
  intro e
  exact hz ⟨by omega, UInt8.toNat_inj.1 (by show (S[0]).toNat = 48; omega)⟩
 clear hl hd hne hgo hR hz
 by_cases h4 : (1 : Int) < S.size
 all_goals
  first
    | (have h5 := h2 h4)
    | skip
  clear h2
  go_enter Tryz.func98, Tryz.ntmps98
  go_wp2_with fail
  go_loopw [5, 6] (fun v id wr => ∃ k V : Nat, k ≤ S.size ∧ id = .int .i64 k ∧ v = .int .i64 V ∧ V ≤ 1048576 ∧ Below w.heap.size w wr ∧ Hid (numGo V (S.data.toList.drop k) = R)) (fun v id _ => S.size - (RowKit.intOf id).toNat)
  case atStart => exact ⟨0, 0, by omega, rfl, rfl, by omega, Below.refl _ _, by rw [List.drop_zero]; exact HR.out⟩
  case round =>
   obtain ⟨k, V, hk, rfl, rfl, hV, hb, hg⟩ := hrel; have HB := Lib.hid hb; clear hb
   by_cases hlk : k < S.size
   · have hki : (k : Int) < S.size := by omega
     have hk0 : (0 : Int) ≤ (k : Int) := by omega
     have hdr : S.data.toList.drop k = S[k] :: S.data.toList.drop (k + 1) := by
      rw [List.drop_eq_getElem_cons (by rw [HL.out]; exact hlk)]; rfl
     have hstep := hg.out; rw [hdr, numGo] at hstep; have hx256 := S[k].toNat_lt; obtain ⟨x, hx⟩ : ∃ x : Nat, S[k].toNat = x := ⟨_, rfl⟩; rw [hx] at hstep hx256
     have hxi : ((S[k].toNat : Nat) : Int) = (x : Int) := by rw [hx]
     have HX := Lib.hid hx; clear hdr hx
     by_cases hc1 : x < 48
     · have hr : R = -1 := by rw [← hstep, if_neg (by omega)]
       have HRR := Lib.hid hr
       have e1 : (x : Int) < 48 := by omega
       clear hstep hr hg hc1
       go_wp2_with fail
       go_ret
       exact ⟨congrArg (fun i => Ending.returned (.int .i64 i)) HRR.out.symm, HB.out⟩
     by_cases hc2 : 57 < x
     · have hr : R = -1 := by rw [← hstep, if_neg (by omega)]
       have HRR := Lib.hid hr
       have e1 : ¬ (x : Int) < 48 := by omega
       have e2 : (57 : Int) < (x : Int) := by omega
       clear hstep hr hg hc1 hc2
       go_wp2_with fail
       go_ret
       exact ⟨congrArg (fun i => Ending.returned (.int .i64 i)) HRR.out.symm, HB.out⟩
     have e1 : ¬ (x : Int) < 48 := by omega
     have e2 : ¬ (57 : Int) < (x : Int) := by omega
     have t1 : IntKind.u8.wrap ((x : Int) - 48) = (x : Int) - 48 := IntWalk.u8_in _ (by omega); have t2 : IntKind.i64.wrap ((x : Int) - 48) = (x : Int) - 48 := IntWalk.i64_in _ (by omega); have t3 : IntKind.i64.wrap (1048576 - ((x : Int) - 48)) = 1048576 - ((x : Int) - 48) := IntWalk.i64_in _ (by omega); have t4 : (1048576 - ((x : Int) - 48)).tdiv 10 = (1048576 - ((x : Int) - 48)) / 10 := Int.tdiv_eq_ediv_of_nonneg (by omega); have t5 : IntKind.i64.wrap ((1048576 - ((x : Int) - 48)) / 10) = (1048576 - ((x : Int) - 48)) / 10 := IntWalk.i64_in _ (by omega)
     by_cases hc3 : (1048576 - (x - 48)) / 10 < V
     · have hr : R = -1 := by rw [← hstep, if_neg (by omega)]
       have HRR := Lib.hid hr
       have e3 : (1048576 - ((x : Int) - 48)) / 10 < (V : Int) := by omega
       clear hstep hr hg hc1 hc2 hc3
       go_wp2_with fail
       go_ret
       exact ⟨congrArg (fun i => Ending.returned (.int .i64 i)) HRR.out.symm, HB.out⟩
     · have e3 : ¬ (1048576 - ((x : Int) - 48)) / 10 < (V : Int) := by omega
       rw [if_pos (by omega)] at hstep; have HST := Lib.hid hstep
       have hv2 : 10 * V + (x - 48) ≤ 1048576 := by omega
       have hvi : ((10 * V + (x - 48) : Nat) : Int) = 10 * (V : Int) + ((x : Int) - 48) := by omega
       have t6 : IntKind.i64.wrap (10 * (V : Int)) = 10 * (V : Int) := IntWalk.i64_in _ (by omega); have t7 : IntKind.i64.wrap (10 * (V : Int) + ((x : Int) - 48)) = 10 * (V : Int) + ((x : Int) - 48) := IntWalk.i64_in _ (by omega); have HV := Lib.hid hvi; clear hstep hg hc1 hc2 hc3 hvi
       go_wp2_with fail
       go_roundw
       case rel => exact ⟨k + 1, 10 * V + (x - 48), by omega, by go_num, by rw [HV.out], by omega, HB.out, HST.out⟩
       case measure => first | (simp [RowKit.intOf]; done) | (simp [RowKit.intOf]; omega)
   · have hki : ¬ (k : Int) < S.size := by omega
     have hdr : S.data.toList.drop k = [] := List.drop_eq_nil_of_le (by rw [HL.out]; omega); have hr := hg.out; rw [hdr, numGo] at hr; have HRR := Lib.hid hr; clear hdr hr hg
     go_wp2_with fail
     go_ret
     exact ⟨congrArg (fun i => Ending.returned (.int .i64 i)) HRR.out, HB.out⟩
end Go.Proofs.YthlinmkengoliaaGreatDoor
