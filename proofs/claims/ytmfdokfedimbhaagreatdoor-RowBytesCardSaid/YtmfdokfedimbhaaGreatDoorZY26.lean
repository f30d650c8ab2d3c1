/- Rows: RowBytes, walked. -/
import Derived.Test.YtmfdokfedimbhaaGreatDoorZYg
import Derived.Lib.MinMax
import Derived.Test.YtmfdokfedimbhaaGreatDoorZYh
set_option linter.unusedVariables false
set_option linter.unusedSimpArgs false
namespace Go.Proofs.YtmfdokfedimbhaaGreatDoor
open Go.RowKit Go.Ms Go.Lib

set_option maxRecDepth 100000 in
set_option maxHeartbeats 2000000 in
theorem rowBytes_err (A : Option Addr) (n1 c1 : Nat) (la : List Col) (X : ByteArray) (w : World) (hA : n1 ≤ c1) (kA : c1 ≤ maxLen) (lA : la.length = n1) (eA : Ext w w.heap.size A (colsV la)) (hX : X.size ≤ maxLen) (hE : Env w) (T : ByteArray) (hT : X.extract 0 (min (↑X.size : Int) 3000).toNat = T) (hTz : T.size ≤ 3000) (m : Nat) (hm : (m : Int) = min (n1 : Int) 12) (hx : rUnE ((la.take m).map colTy) (placesTo m) T.data.toList ≠ 0) :
    Calls Tryz.prog 6 #[.slice A n1 c1, .string X] w fun e w' => e = .returned (.bool true) ∧ Below w.heap.size w w' := by
  have s0 : YSt w [(A, colsV la)] [] w := ⟨Below.refl _ _, fun o ho => (by simp only [List.mem_cons, List.not_mem_nil, or_false] at ho; rcases ho with rfl; assumption), fun o ho => (by cases ho), hE⟩
  have S0 := Lib.hid s0
  have m4 : m ≤ 12 := by omega
  have m5 : m ≤ c1 := by omega
  have m6 : (m : Int) ≤ c1 := by omega
  have m7 : m ≤ n1 := by omega
  have hcp : Calls Tryz.prog 24 #[.slice A m c1] w fun e w' => ∃ P cP, e = .returned (.slice P m cP) ∧ Lay w' w'.heap.size P (colsV (la.take m)) ∧ Below w.heap.size w w' := by
    refine (copycols_any w A m c1 (colsV (la.take m)) (by omega) (by rw [colsV_len, List.length_take]; omega) (by rw [← colsV_take]; exact Ext.take eA _) (colsV_one _)).mono ?_
    rintro e w' ⟨v, rfl, ho, hb⟩
    obtain ⟨A', c', rfl, _⟩ := yown_slice ho
    exact ⟨A', c', rfl, Lay.of_own ho (Nat.le_refl _), hb⟩
  have htl : ((la.take m).map colTy).length = m := by rw [List.length_map, List.length_take]; omega
  obtain ⟨ts, hts⟩ : ∃ ts, ((la.take m).map colTy) = ts := ⟨_, rfl⟩
  rw [hts] at htl
  rw [hts] at hx
  have hu : rUn ts (placesTo m) T.data.toList = [] := by unfold rUn; rw [if_neg hx]
  obtain ⟨x, hx0⟩ : ∃ x, rUnE ts (placesTo m) T.data.toList = x := ⟨_, rfl⟩
  rw [hx0] at hx
  have hx1 : (x != 0) = true := by simpa using hx
  have HU := Lib.hid hu; have HX := Lib.hid hx0
  clear hu hx0 hx
  have HTS := Lib.hid hts; have HTL := Lib.hid htl; have HCP := Lib.hid hcp; have HTZ := Lib.hid hTz
  clear s0 hE eA lA hTz hts htl hcp
  obtain ⟨i0, hi, hz0, hz1, hz2⟩ := info_parts int_info
  unfold maxLen at kA hX
  have x1 : (0 : Int) ≤ min (X.size : Int) 3000 := by omega
  have x2 : min (X.size : Int) 3000 ≤ X.size := by omega
  have hm2 : min (n1 : Int) 12 = (m : Int) := hm.symm
  clear hm
  go_enter Tryz.func6, Tryz.ntmps6
  go_wp2_with fail
  refine HCP.out.mono ?_
  rintro en w1 ⟨P, cP, rfl, l1, b1⟩
  have S1 := Lib.hid ((S0.out.step b1).push l1)
  clear l1 b1
  go_wp2_with fail
  go_loopw [5, 6] (fun bo id wr => ∃ k : Nat, k ≤ m ∧ id = .int .i64 k ∧ OwnI wr w1.heap.size 3 bo (placesTo k) ∧ Below w1.heap.size w1 wr) (fun _ id _ => m - (RowKit.intOf id).toNat)
  case atStart => exact ⟨0, by omega, rfl, World.ownsRow_nil _ _ _ _, Below.refl _ _⟩
  case round =>
    obtain ⟨k, hk, rfl, hown, hb⟩ := hrel
    by_cases hlk : k < m
    · have hki : (k : Int) < m := by omega
      have HO := Lib.hid hown; have HB := Lib.hid hb
      clear hown hb
      have hnew : Lay (wr.alloc (.cells #[.int .i64 k] 3)) (wr.alloc (.cells #[.int .i64 k] 3)).heap.size (some ⟨wr.heap.size, 0, none⟩) (intV [(k : Int)]) := lay_new wr [.int .i64 k] 3
      have hown1 := World.ownsRow.alloc HO.out (.cells #[.int .i64 k] 3)
      have hb1 := HB.out.alloc HB.out.size (.cells #[.int .i64 k] 3)
      have HW1 := Lib.hid hnew; have HO1 := Lib.hid hown1; have HB1 := Lib.hid hb1
      clear hnew hown1 hb1
      go_wp2_with (at_builtin; refine wpList_append_lay rfl (.tmp 28) (.tmp 30) _ rfl w1.heap.size 3 i0 _ 1 8 Tryz.underlying23 hi hz0 hz1 hz2 rfl (by omega) _ _ _ rfl HO1.out _ (some ⟨wr.heap.size, 0, none⟩) 1 1 (intV [(k : Int)]) rfl rfl HW1.out (intV_one _) (by rw [placesTo_len]; unfold maxLen; omega) (by rw [placesTo_len]; omega) HB1.out.size ?_; intro v2 w2 hown2 hg2)
      have HO2 := Lib.hid hown2
      have HB2 := Lib.hid (own_grown HO1.out HB1.out HB1.out.size (Nat.le_refl _) hg2)
      clear hown2 hg2
      go_wp2_with fail
      go_roundw
      case rel =>
        refine ⟨k + 1, by omega, by go_num, ?_, HB2.out⟩
        unfold OwnI
        rw [placesTo_next, intV, List.map_append, List.length_append]
        exact HO2.out
      case measure => simp [RowKit.intOf]; omega
    · have hki : ¬ (k : Int) < m := by omega
      have hkm : k = m := by omega
      subst hkm
      unfold OwnI at hown
      rw [placesTo_len] at hown
      obtain ⟨Q, cQ, rfl, _⟩ := yown_slice hown
      have S2 := Lib.hid ((S1.out.step hb).push (Lay.of_own hown (Nat.le_refl _)))
      clear hown hb
      go_wp2_with fail
      have q3 := rowUnkey_any wr P Q k cP k cQ ts (colsV (la.take k)) (placesTo k) T (by have := HTZ.out; omega) (by unfold maxLen; omega) (by omega) HTL.out.symm (placesTo_len k).symm (by have h := cols_of S2.out.o1; rw [HTS.out] at h; exact h) S2.out.o0 S2.out.env
      rw [HU.out, HX.out] at q3
      refine q3.mono ?_
      rintro en w3 ⟨v3, rfl, o3, b3⟩
      obtain ⟨U, cU, rfl, _⟩ := yown_slice o3
      have S3 := Lib.hid ((S2.out.step b3).push o3.lay.2)
      clear o3 b3 q3
      go_wp2_with fail
      refine (rworks_any _ S3.out.env).mono ?_
      rintro en w4 ⟨rfl, b4⟩
      have S4 := Lib.hid (S3.out.step b4)
      clear b4
      go_wp2_with fail
      go_ret
      exact ⟨rfl, S4.out.bel⟩

set_option maxRecDepth 100000 in
set_option maxHeartbeats 2000000 in
theorem rowBytes_ok (A : Option Addr) (n1 c1 : Nat) (la : List Col) (X : ByteArray) (w : World) (hA : n1 ≤ c1) (kA : c1 ≤ maxLen) (lA : la.length = n1) (eA : Ext w w.heap.size A (colsV la)) (hX : X.size ≤ maxLen) (hE : Env w) (T : ByteArray) (hT : X.extract 0 (min (↑X.size : Int) 3000).toNat = T) (hTz : T.size ≤ 3000) (m : Nat) (hm : (m : Int) = min (n1 : Int) 12) (hx : rUnE ((la.take m).map colTy) (placesTo m) T.data.toList = 0) :
    Calls Tryz.prog 6 #[.slice A n1 c1, .string X] w fun e w' => e = .returned (.bool true) ∧ Below w.heap.size w w' := by
  have s0 : YSt w [(A, colsV la)] [] w := ⟨Below.refl _ _, fun o ho => (by simp only [List.mem_cons, List.not_mem_nil, or_false] at ho; rcases ho with rfl; assumption), fun o ho => (by cases ho), hE⟩
  have S0 := Lib.hid s0
  have m4 : m ≤ 12 := by omega
  have m5 : m ≤ c1 := by omega
  have m6 : (m : Int) ≤ c1 := by omega
  have m7 : m ≤ n1 := by omega
  have hcp : Calls Tryz.prog 24 #[.slice A m c1] w fun e w' => ∃ P cP, e = .returned (.slice P m cP) ∧ Lay w' w'.heap.size P (colsV (la.take m)) ∧ Below w.heap.size w w' := by
    refine (copycols_any w A m c1 (colsV (la.take m)) (by omega) (by rw [colsV_len, List.length_take]; omega) (by rw [← colsV_take]; exact Ext.take eA _) (colsV_one _)).mono ?_
    rintro e w' ⟨v, rfl, ho, hb⟩
    obtain ⟨A', c', rfl, _⟩ := yown_slice ho
    exact ⟨A', c', rfl, Lay.of_own ho (Nat.le_refl _), hb⟩
  have htl : ((la.take m).map colTy).length = m := by rw [List.length_map, List.length_take]; omega
  obtain ⟨ts, hts⟩ : ∃ ts, ((la.take m).map colTy) = ts := ⟨_, rfl⟩
  rw [hts] at htl
  rw [hts] at hx
  have hbb : rCheck ts (rUn ts (placesTo m) T.data.toList) = 0 ∧ rKeyE ts (rUn ts (placesTo m) T.data.toList) (placesTo m) = 0 ∧ rKey ts (rUn ts (placesTo m) T.data.toList) (placesTo m) = T.data.toList ∧ (rUn ts (placesTo m) T.data.toList).length = m := by
    have h := bytes_back (ts := ts) (s := T.data.toList) (by rw [htl]; exact hx)
    rw [htl] at h; exact h
  obtain ⟨hc, hk, hkk, hcl⟩ := hbb
  obtain ⟨cs, hu⟩ : ∃ x, rUn ts (placesTo m) T.data.toList = x := ⟨_, rfl⟩
  rw [hu] at hc hk hkk hcl
  have hkt : (⟨(rKey ts cs (placesTo m)).toArray⟩ : ByteArray) = T := by rw [hkk]
  have HU := Lib.hid hu; have HX := Lib.hid hx; have HCK := Lib.hid hc; have HKE := Lib.hid hk; have HKT := Lib.hid hkt; have HCL := Lib.hid hcl
  clear hu hx hc hk hkk hcl hkt
  have HTS := Lib.hid hts; have HTL := Lib.hid htl; have HCP := Lib.hid hcp; have HTZ := Lib.hid hTz
  clear s0 hE eA lA hTz hts htl hcp
  obtain ⟨i0, hi, hz0, hz1, hz2⟩ := info_parts int_info
  unfold maxLen at kA hX
  have x1 : (0 : Int) ≤ min (X.size : Int) 3000 := by omega
  have x2 : min (X.size : Int) 3000 ≤ X.size := by omega
  have hm2 : min (n1 : Int) 12 = (m : Int) := hm.symm
  clear hm
  go_enter Tryz.func6, Tryz.ntmps6
  go_wp2_with fail
  refine HCP.out.mono ?_
  rintro en w1 ⟨P, cP, rfl, l1, b1⟩
  have S1 := Lib.hid ((S0.out.step b1).push l1)
  clear l1 b1
  go_wp2_with fail
  go_loopw [5, 6] (fun bo id wr => ∃ k : Nat, k ≤ m ∧ id = .int .i64 k ∧ OwnI wr w1.heap.size 3 bo (placesTo k) ∧ Below w1.heap.size w1 wr) (fun _ id _ => m - (RowKit.intOf id).toNat)
  case atStart => exact ⟨0, by omega, rfl, World.ownsRow_nil _ _ _ _, Below.refl _ _⟩
  case round =>
    obtain ⟨k, hk, rfl, hown, hb⟩ := hrel
    by_cases hlk : k < m
    · have hki : (k : Int) < m := by omega
      have HO := Lib.hid hown; have HB := Lib.hid hb
      clear hown hb
      have hnew : Lay (wr.alloc (.cells #[.int .i64 k] 3)) (wr.alloc (.cells #[.int .i64 k] 3)).heap.size (some ⟨wr.heap.size, 0, none⟩) (intV [(k : Int)]) := lay_new wr [.int .i64 k] 3
      have hown1 := World.ownsRow.alloc HO.out (.cells #[.int .i64 k] 3)
      have hb1 := HB.out.alloc HB.out.size (.cells #[.int .i64 k] 3)
      have HW1 := Lib.hid hnew; have HO1 := Lib.hid hown1; have HB1 := Lib.hid hb1
      clear hnew hown1 hb1
      go_wp2_with (at_builtin; refine wpList_append_lay rfl (.tmp 28) (.tmp 30) _ rfl w1.heap.size 3 i0 _ 1 8 Tryz.underlying23 hi hz0 hz1 hz2 rfl (by omega) _ _ _ rfl HO1.out _ (some ⟨wr.heap.size, 0, none⟩) 1 1 (intV [(k : Int)]) rfl rfl HW1.out (intV_one _) (by rw [placesTo_len]; unfold maxLen; omega) (by rw [placesTo_len]; omega) HB1.out.size ?_; intro v2 w2 hown2 hg2)
      have HO2 := Lib.hid hown2
      have HB2 := Lib.hid (own_grown HO1.out HB1.out HB1.out.size (Nat.le_refl _) hg2)
      clear hown2 hg2
      go_wp2_with fail
      go_roundw
      case rel =>
        refine ⟨k + 1, by omega, by go_num, ?_, HB2.out⟩
        unfold OwnI
        rw [placesTo_next, intV, List.map_append, List.length_append]
        exact HO2.out
      case measure => simp [RowKit.intOf]; omega
    · have hki : ¬ (k : Int) < m := by omega
      have hkm : k = m := by omega
      subst hkm
      unfold OwnI at hown
      rw [placesTo_len] at hown
      obtain ⟨Q, cQ, rfl, _⟩ := yown_slice hown
      have S2 := Lib.hid ((S1.out.step hb).push (Lay.of_own hown (Nat.le_refl _)))
      clear hown hb
      go_wp2_with fail
      have q3 := rowUnkey_any wr P Q k cP k cQ ts (colsV (la.take k)) (placesTo k) T (by have := HTZ.out; omega) (by unfold maxLen; omega) (by omega) HTL.out.symm (placesTo_len k).symm (by have h := cols_of S2.out.o1; rw [HTS.out] at h; exact h) S2.out.o0 S2.out.env
      rw [HU.out, HX.out] at q3
      refine q3.mono ?_
      rintro en w3 ⟨v3, rfl, o3, b3⟩
      obtain ⟨U, cU, rfl, _⟩ := yown_slice o3
      have S3 := Lib.hid ((S2.out.step b3).push o3.lay.2)
      clear o3 b3 q3
      have hqk := HCL.out
      rw [hqk]
      clear hqk
      go_wp2_with fail
      have q4 := rowKey_any w3 P Q U k cP k cQ k cU ts (colsV (la.take k)) cs (placesTo k) (check_len HCK.out) (by unfold maxLen; omega) (by omega) (by unfold maxLen; omega) HTL.out.symm (placesTo_len k).symm HCL.out.symm (by have h := cols_of S3.out.o2_; rw [HTS.out] at h; exact h) S3.out.o1 S3.out.o0 S3.out.env
      rw [HKT.out, HKE.out] at q4
      refine q4.mono ?_
      rintro en w4 ⟨rfl, b4⟩
      have S4 := Lib.hid (S3.out.step b4)
      clear b4 q4
      go_wp2_with fail
      have q5 := rowCheck_any w4 P U k cP k cU ts (colsV (la.take k)) cs (fun c hc => by have := check_len HCK.out c hc; omega) (by unfold maxLen; omega) (by unfold maxLen; omega) HTL.out.symm HCL.out.symm (by have h := cols_of S4.out.o2_; rw [HTS.out] at h; exact h) S4.out.o0 S4.out.env
      rw [HCK.out] at q5
      refine q5.mono ?_
      rintro en w5 ⟨rfl, b5⟩
      have S5 := Lib.hid (S4.out.step b5)
      clear b5 q5
      go_wp2_with fail
      refine (rworks_any _ S5.out.env).mono ?_
      rintro en w6 ⟨rfl, b6⟩
      have S6 := Lib.hid (S5.out.step b6)
      clear b6
      go_wp2_with fail
      go_ret
      exact ⟨rfl, S6.out.bel⟩

theorem rowBytes_walk (A : Option Addr) (n1 c1 : Nat) (la : List Col) (X : ByteArray) (w : World) (hA : n1 ≤ c1) (kA : c1 ≤ maxLen) (lA : la.length = n1) (eA : Ext w w.heap.size A (colsV la)) (hX : X.size ≤ maxLen) (hE : Env w) :
    Calls Tryz.prog 6 #[.slice A n1 c1, .string X] w fun e w' => e = .returned (.bool true) ∧ Below w.heap.size w w' := by
  have hz : (X.extract 0 (min (↑X.size : Int) 3000).toNat).size ≤ 3000 := by rw [ByteArray.size_extract]; omega
  obtain ⟨m, hm⟩ : ∃ m : Nat, (m : Int) = min (n1 : Int) 12 := ⟨(min (n1 : Int) 12).toNat, by omega⟩
  by_cases hx : rUnE ((la.take m).map colTy) (placesTo m) (X.extract 0 (min (↑X.size : Int) 3000).toNat).data.toList = 0
  · exact rowBytes_ok A n1 c1 la X w hA kA lA eA hX hE _ rfl hz m hm hx
  · exact rowBytes_err A n1 c1 la X w hA kA lA eA hX hE _ rfl hz m hm hx
end Go.Proofs.YtmfdokfedimbhaaGreatDoor
