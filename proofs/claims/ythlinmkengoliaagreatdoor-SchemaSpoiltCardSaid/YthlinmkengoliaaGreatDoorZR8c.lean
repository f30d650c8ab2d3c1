/- The reference's Quote. -/
import Derived.Test.YthlinmkengoliaaGreatDoorZRa
import Derived.Test.YthlinmkengoliaaGreatDoorZRc
import Derived.Test.YthlinmkengoliaaGreatDoorZQa
import Derived.Test.YthlinmkengoliaaGreatDoorZA
set_option linter.unusedVariables false
namespace Go.Proofs.YthlinmkengoliaaGreatDoor
open Go.RowKit Go.Ms Go.Lib
theorem new_cells (w : World) (e : TypeId) (ns : List Int) : ∀ j u, (ns.map (Value.int .u8))[j]? = some u → (w.alloc (.cells (ns.map (Value.int .u8)).toArray e)).cell? ((⟨w.heap.size, 0, none⟩ : Addr).add j) = some u := by
 intro j u hu
 have hadd : (⟨w.heap.size, 0, none⟩ : Addr).add j = ⟨w.heap.size, j, none⟩ := by unfold Addr.add; split <;> simp_all
 rw [hadd, Lib.cell_of_heap (heap_alloc_new w _)]
 simpa using hu
theorem own_made (w : World) (base : Nat) (e : TypeId) (ns : List Int) (hb : base ≤ w.heap.size) (hn : ∀ x ∈ ns, 0 ≤ x ∧ x < 256) (hm : ns.length ≤ maxLen) :
    OwnB (w.alloc (.cells (ns.map (Value.int .u8)).toArray e)) base e (.slice (some ⟨w.heap.size, 0, none⟩) ns.length ns.length) (ns.map fun x => x.toNat.toUInt8) := by
 have he : (ns.map fun x => x.toNat.toUInt8).map (fun b => Value.int .u8 b.toNat) = ns.map (Value.int .u8) := by
  rw [List.map_map]
  apply List.map_congr_left
  intro x hx
  have := hn x hx
  have h2 : (x.toNat.toUInt8).toNat = x.toNat := by simp [Nat.toUInt8]; omega
  simp only [Function.comp, h2]; rw [show ((x.toNat : Nat) : Int) = x by omega]
 unfold OwnB; rw [he, List.length_map]; refine ⟨by simp, .inr ⟨w.heap.size, ns.length, _, rfl, hb, heap_alloc_new w _, Nat.le_refl _, hm, by simp, by simp only [Nat.mul_one]; rw [List.take_of_length_le (by simp)]⟩⟩
theorem flat_snoc (l : Bs) (k : Nat) (h : k < l.length) : (l.take (k + 1)).flatMap qb = (l.take k).flatMap qb ++ qb l[k] := by
 rw [List.take_succ_eq_append_getElem h, List.flatMap_append]; simp
set_option maxRecDepth 100000 in
set_option maxHeartbeats 8000000 in
theorem rquote_any (s : ByteArray) (w : World) (hs : s.size ≤ 13000) :
    Calls Tryz.prog 132 #[.string s] w fun e w' => e = .returned (.tuple #[.string ⟨(if validD s.data.toList = true then quoteD s.data.toList else []).toArray⟩, .int .i64 (if validD s.data.toList = true then 0 else 40)]) ∧ Below w.heap.size w w' := by
 have hl : s.data.toList.length = s.size := by simp
 obtain ⟨i0, hi, hz0, hz1, hz2⟩ := info_parts infoU8
 have cv := fun w => rvalid_any s w (by omega)
 cases hv : validD s.data.toList with
 | false =>
  rw [hv] at cv; clear hv; simp only [Bool.false_eq_true, if_false]; have CV := Lib.hid cv; clear cv
  go_enter Tryz.func132, Tryz.ntmps132
  go_wp2_with fail
  refine (CV.out _).mono ?_; rintro en w1 ⟨rfl, b1⟩
  go_wp2_with fail
  go_ret2
  exact ⟨rfl, b1⟩
 | true =>
  rw [hv] at cv; clear hv; simp only [if_true]; have CV := Lib.hid cv; clear cv
  go_enter Tryz.func132, Tryz.ntmps132
  go_wp2_with fail
  refine (CV.out _).mono ?_; rintro en w1 ⟨rfl, b1⟩; have own0 := own_made w1 w.heap.size 5 [34] b1.size (by decide) (by decide); have B0 : Below w.heap.size w (w1.alloc (.cells #[.int .u8 34] 5)) := b1.alloc b1.size _
  go_wp2_with fail
  go_loopw [4, 5] (fun v i wr => ∃ k : Nat, i = .int .i64 k ∧ k ≤ s.size ∧ OwnB wr w.heap.size 5 v (34 :: (s.data.toList.take k).flatMap qb) ∧ Below w.heap.size w wr)
    (fun _ i _ => s.size - (RowKit.intOf i).toNat)
  case atStart => exact ⟨0, rfl, by omega, own0, B0⟩
  case round =>
   obtain ⟨k, rfl, kl, hown, hb⟩ := hrel; have hbs := hb.size; have hfl := kflat_len (s.data.toList.take k)
   have hfl2 : (34 :: (s.data.toList.take k).flatMap qb).length ≤ 6 * s.size + 1 := by rw [List.length_take] at hfl; rw [List.length_cons]; omega
   by_cases hlt : k < s.size
   · have hg : ((s[k]'hlt).toNat : Int) = ((s.data.toList[k]'(by omega)).toNat : Int) := by rw [get_of]; simp [hlt]
     have hsn := flat_snoc s.data.toList k (by omega); obtain ⟨c, hc⟩ : ∃ c, s.data.toList[k]'(by omega) = c := ⟨_, rfl⟩; rw [hc] at hg hsn; have hcl := UInt8.toNat_lt c; have HSN := Lib.hid hsn; clear hc hsn hfl
     have HB : Hid ((34 :: (s.data.toList.take k).flatMap qb).length + 6 ≤ 140737488355328) := by show _ ≤ _; omega
     have hki : (k : Int) < (s.size : Int) := by omega
     clear hfl2
     by_cases c34 : c = 34
     · subst c34; have hg' : ((s[k]'hlt).toNat : Int) = 34 := hg
       have hns : Hid (∀ x ∈ ([92, 34] : List Int), 0 ≤ x ∧ x < 256) := by show ∀ x ∈ ([92, 34] : List Int), 0 ≤ x ∧ x < 256; decide
       have hq : Hid (qb 34 = [92, 34]) := by show qb 34 = [92, 34]; decide
       clear hg hcl; have ownA := hown.alloc (.cells #[.int .u8 92, .int .u8 34] 5); have BA : Below w.heap.size w (wr.alloc (.cells #[.int .u8 92, .int .u8 34] 5)) := hb.alloc hbs _; have hsA := BA.size
       go_wp2_with (at_builtin; refine wpList_append_new rfl _ _ 77 rfl w.heap.size 5 i0 (.int .u8 0) Tryz.underlying77 hi hz0 hz1 hz2 rfl _ _ rfl ownA ⟨wr.heap.size, 0, none⟩ 2 2 rfl [92, 34] rfl (new_cells wr 5 [92, 34]) hns.out (by have := HB.out; omega) hsA ?_)
       intro v' w2 own2 hg2
       have B2 := ownA.below BA hsA hg2
       have own3 : OwnB w2 w.heap.size 5 v' (34 :: (s.data.toList.take (k + 1)).flatMap qb) := by rw [HSN.out, hq.out]; exact own2
       clear own2 ownA hg2 hown
       go_wp2_with fail
       go_roundw
       case rel => exact ⟨k + 1, by go_num, by omega, own3, B2⟩
       case measure => simp [RowKit.intOf]; omega
     by_cases c92 : c = 92
     · subst c92; have hg' : ((s[k]'hlt).toNat : Int) = 92 := hg
       have hns : Hid (∀ x ∈ ([92, 92] : List Int), 0 ≤ x ∧ x < 256) := by show ∀ x ∈ ([92, 92] : List Int), 0 ≤ x ∧ x < 256; decide
       have hq : Hid (qb 92 = [92, 92]) := by show qb 92 = [92, 92]; decide
       clear hg hcl; have ownA := hown.alloc (.cells #[.int .u8 92, .int .u8 92] 5); have BA : Below w.heap.size w (wr.alloc (.cells #[.int .u8 92, .int .u8 92] 5)) := hb.alloc hbs _; have hsA := BA.size
       go_wp2_with (at_builtin; refine wpList_append_new rfl _ _ 77 rfl w.heap.size 5 i0 (.int .u8 0) Tryz.underlying77 hi hz0 hz1 hz2 rfl _ _ rfl ownA ⟨wr.heap.size, 0, none⟩ 2 2 rfl [92, 92] rfl (new_cells wr 5 [92, 92]) hns.out (by have := HB.out; omega) hsA ?_)
       intro v' w2 own2 hg2
       have B2 := ownA.below BA hsA hg2
       have own3 : OwnB w2 w.heap.size 5 v' (34 :: (s.data.toList.take (k + 1)).flatMap qb) := by rw [HSN.out, hq.out]; exact own2
       clear own2 ownA hg2 hown
       go_wp2_with fail
       go_roundw
       case rel => exact ⟨k + 1, by go_num, by omega, own3, B2⟩
       case measure => simp [RowKit.intOf]; omega
     by_cases c8 : c = 8
     · subst c8; have hg' : ((s[k]'hlt).toNat : Int) = 8 := hg
       have hns : Hid (∀ x ∈ ([92, 98] : List Int), 0 ≤ x ∧ x < 256) := by show ∀ x ∈ ([92, 98] : List Int), 0 ≤ x ∧ x < 256; decide
       have hq : Hid (qb 8 = [92, 98]) := by show qb 8 = [92, 98]; decide
       clear hg hcl; have ownA := hown.alloc (.cells #[.int .u8 92, .int .u8 98] 5); have BA : Below w.heap.size w (wr.alloc (.cells #[.int .u8 92, .int .u8 98] 5)) := hb.alloc hbs _; have hsA := BA.size
       go_wp2_with (at_builtin; refine wpList_append_new rfl _ _ 77 rfl w.heap.size 5 i0 (.int .u8 0) Tryz.underlying77 hi hz0 hz1 hz2 rfl _ _ rfl ownA ⟨wr.heap.size, 0, none⟩ 2 2 rfl [92, 98] rfl (new_cells wr 5 [92, 98]) hns.out (by have := HB.out; omega) hsA ?_)
       intro v' w2 own2 hg2
       have B2 := ownA.below BA hsA hg2
       have own3 : OwnB w2 w.heap.size 5 v' (34 :: (s.data.toList.take (k + 1)).flatMap qb) := by rw [HSN.out, hq.out]; exact own2
       clear own2 ownA hg2 hown
       go_wp2_with fail
       go_roundw
       case rel => exact ⟨k + 1, by go_num, by omega, own3, B2⟩
       case measure => simp [RowKit.intOf]; omega
     by_cases c12 : c = 12
     · subst c12; have hg' : ((s[k]'hlt).toNat : Int) = 12 := hg
       have hns : Hid (∀ x ∈ ([92, 102] : List Int), 0 ≤ x ∧ x < 256) := by show ∀ x ∈ ([92, 102] : List Int), 0 ≤ x ∧ x < 256; decide
       have hq : Hid (qb 12 = [92, 102]) := by show qb 12 = [92, 102]; decide
       clear hg hcl; have ownA := hown.alloc (.cells #[.int .u8 92, .int .u8 102] 5); have BA : Below w.heap.size w (wr.alloc (.cells #[.int .u8 92, .int .u8 102] 5)) := hb.alloc hbs _; have hsA := BA.size
       go_wp2_with (at_builtin; refine wpList_append_new rfl _ _ 77 rfl w.heap.size 5 i0 (.int .u8 0) Tryz.underlying77 hi hz0 hz1 hz2 rfl _ _ rfl ownA ⟨wr.heap.size, 0, none⟩ 2 2 rfl [92, 102] rfl (new_cells wr 5 [92, 102]) hns.out (by have := HB.out; omega) hsA ?_)
       intro v' w2 own2 hg2
       have B2 := ownA.below BA hsA hg2
       have own3 : OwnB w2 w.heap.size 5 v' (34 :: (s.data.toList.take (k + 1)).flatMap qb) := by rw [HSN.out, hq.out]; exact own2
       clear own2 ownA hg2 hown
       go_wp2_with fail
       go_roundw
       case rel => exact ⟨k + 1, by go_num, by omega, own3, B2⟩
       case measure => simp [RowKit.intOf]; omega
     by_cases c10 : c = 10
     · subst c10; have hg' : ((s[k]'hlt).toNat : Int) = 10 := hg
       have hns : Hid (∀ x ∈ ([92, 110] : List Int), 0 ≤ x ∧ x < 256) := by show ∀ x ∈ ([92, 110] : List Int), 0 ≤ x ∧ x < 256; decide
       have hq : Hid (qb 10 = [92, 110]) := by show qb 10 = [92, 110]; decide
       clear hg hcl; have ownA := hown.alloc (.cells #[.int .u8 92, .int .u8 110] 5); have BA : Below w.heap.size w (wr.alloc (.cells #[.int .u8 92, .int .u8 110] 5)) := hb.alloc hbs _; have hsA := BA.size
       go_wp2_with (at_builtin; refine wpList_append_new rfl _ _ 77 rfl w.heap.size 5 i0 (.int .u8 0) Tryz.underlying77 hi hz0 hz1 hz2 rfl _ _ rfl ownA ⟨wr.heap.size, 0, none⟩ 2 2 rfl [92, 110] rfl (new_cells wr 5 [92, 110]) hns.out (by have := HB.out; omega) hsA ?_)
       intro v' w2 own2 hg2
       have B2 := ownA.below BA hsA hg2
       have own3 : OwnB w2 w.heap.size 5 v' (34 :: (s.data.toList.take (k + 1)).flatMap qb) := by rw [HSN.out, hq.out]; exact own2
       clear own2 ownA hg2 hown
       go_wp2_with fail
       go_roundw
       case rel => exact ⟨k + 1, by go_num, by omega, own3, B2⟩
       case measure => simp [RowKit.intOf]; omega
     by_cases c13 : c = 13
     · subst c13; have hg' : ((s[k]'hlt).toNat : Int) = 13 := hg
       have hns : Hid (∀ x ∈ ([92, 114] : List Int), 0 ≤ x ∧ x < 256) := by show ∀ x ∈ ([92, 114] : List Int), 0 ≤ x ∧ x < 256; decide
       have hq : Hid (qb 13 = [92, 114]) := by show qb 13 = [92, 114]; decide
       clear hg hcl; have ownA := hown.alloc (.cells #[.int .u8 92, .int .u8 114] 5); have BA : Below w.heap.size w (wr.alloc (.cells #[.int .u8 92, .int .u8 114] 5)) := hb.alloc hbs _; have hsA := BA.size
       go_wp2_with (at_builtin; refine wpList_append_new rfl _ _ 77 rfl w.heap.size 5 i0 (.int .u8 0) Tryz.underlying77 hi hz0 hz1 hz2 rfl _ _ rfl ownA ⟨wr.heap.size, 0, none⟩ 2 2 rfl [92, 114] rfl (new_cells wr 5 [92, 114]) hns.out (by have := HB.out; omega) hsA ?_)
       intro v' w2 own2 hg2
       have B2 := ownA.below BA hsA hg2
       have own3 : OwnB w2 w.heap.size 5 v' (34 :: (s.data.toList.take (k + 1)).flatMap qb) := by rw [HSN.out, hq.out]; exact own2
       clear own2 ownA hg2 hown
       go_wp2_with fail
       go_roundw
       case rel => exact ⟨k + 1, by go_num, by omega, own3, B2⟩
       case measure => simp [RowKit.intOf]; omega
     by_cases c9 : c = 9
     · subst c9; have hg' : ((s[k]'hlt).toNat : Int) = 9 := hg
       have hns : Hid (∀ x ∈ ([92, 116] : List Int), 0 ≤ x ∧ x < 256) := by show ∀ x ∈ ([92, 116] : List Int), 0 ≤ x ∧ x < 256; decide
       have hq : Hid (qb 9 = [92, 116]) := by show qb 9 = [92, 116]; decide
       clear hg hcl; have ownA := hown.alloc (.cells #[.int .u8 92, .int .u8 116] 5); have BA : Below w.heap.size w (wr.alloc (.cells #[.int .u8 92, .int .u8 116] 5)) := hb.alloc hbs _; have hsA := BA.size
       go_wp2_with (at_builtin; refine wpList_append_new rfl _ _ 77 rfl w.heap.size 5 i0 (.int .u8 0) Tryz.underlying77 hi hz0 hz1 hz2 rfl _ _ rfl ownA ⟨wr.heap.size, 0, none⟩ 2 2 rfl [92, 116] rfl (new_cells wr 5 [92, 116]) hns.out (by have := HB.out; omega) hsA ?_)
       intro v' w2 own2 hg2
       have B2 := ownA.below BA hsA hg2
       have own3 : OwnB w2 w.heap.size 5 v' (34 :: (s.data.toList.take (k + 1)).flatMap qb) := by rw [HSN.out, hq.out]; exact own2
       clear own2 ownA hg2 hown
       go_wp2_with fail
       go_roundw
       case rel => exact ⟨k + 1, by go_num, by omega, own3, B2⟩
       case measure => simp [RowKit.intOf]; omega
     have n34 : c.toNat ≠ 34 := fun e => c34 (UInt8.toNat_inj.1 e)
     have n92 : c.toNat ≠ 92 := fun e => c92 (UInt8.toNat_inj.1 e)
     have n8 : c.toNat ≠ 8 := fun e => c8 (UInt8.toNat_inj.1 e)
     have n12 : c.toNat ≠ 12 := fun e => c12 (UInt8.toNat_inj.1 e)
     have n10 : c.toNat ≠ 10 := fun e => c10 (UInt8.toNat_inj.1 e)
     have n13 : c.toNat ≠ 13 := fun e => c13 (UInt8.toNat_inj.1 e)
     have n9 : c.toNat ≠ 9 := fun e => c9 (UInt8.toNat_inj.1 e)
     have hesc : esc2 c.toNat = none := by
      unfold esc2; rw [if_neg (by omega), if_neg (by omega), if_neg (by omega), if_neg (by omega), if_neg (by omega), if_neg (by omega), if_neg (by omega)]
     have hcc : c = ((c.toNat : Nat) : Int).toNat.toUInt8 := by simp [Nat.toUInt8]
     have HCC := Lib.hid hcc; have HE := Lib.hid hesc
     have b34 : ((c.toNat : Int) == 34) = false := by rw [beq_eq_false_iff_ne]; omega
     have b92 : ((c.toNat : Int) == 92) = false := by rw [beq_eq_false_iff_ne]; omega
     have b8 : ((c.toNat : Int) == 8) = false := by rw [beq_eq_false_iff_ne]; omega
     have b12 : ((c.toNat : Int) == 12) = false := by rw [beq_eq_false_iff_ne]; omega
     have b10 : ((c.toNat : Int) == 10) = false := by rw [beq_eq_false_iff_ne]; omega
     have b13 : ((c.toNat : Int) == 13) = false := by rw [beq_eq_false_iff_ne]; omega
     have b9 : ((c.toNat : Int) == 9) = false := by rw [beq_eq_false_iff_ne]; omega
     clear c34 c92 c8 c12 c10 c13 c9 n34 n92 n8 n12 n10 n13 n9 hcc hesc
     by_cases c32 : c.toNat < 32
     · have c32' : (c.toNat : Int) < 32 := by omega
       obtain ⟨a, ha⟩ : ∃ a, c.toNat / 16 = a := ⟨_, rfl⟩; obtain ⟨b, hb'⟩ : ∃ b, c.toNat % 16 = b := ⟨_, rfl⟩
       have t1 : (c.toNat : Int).tdiv 16 = (a : Int) := by rw [Int.tdiv_eq_ediv_of_nonneg (by omega)]; omega
       have t2 : (c.toNat : Int).tmod 16 = (b : Int) := by rw [Int.tmod_eq_emod_of_nonneg (by omega)]; omega
       have t1' : (c.toNat : Int) / 16 = (a : Int) := by omega
       have t2' : (c.toNat : Int) % 16 = (b : Int) := by omega
       have ha2 : a < 16 := by omega
       have hb2 : b < 16 := by omega
       have ga := low_at ⟨a, ha2⟩; have gb := low_at ⟨b, hb2⟩; simp only at ga gb
       have hd : ∀ k : Fin 16, 0 ≤ lowD k.val ∧ lowD k.val < 256 ∧ (lowD k.val).toNat.toUInt8 = hexd k.val := by decide
       have da := hd ⟨a, ha2⟩; have db := hd ⟨b, hb2⟩; simp only at da db
       have hq : Hid (qb c = [92, 117, 48, 48, (lowD a).toNat.toUInt8, (lowD b).toNat.toUInt8]) := by
        show qb c = _
        unfold qb; rw [HE.out]
        simp only
        rw [if_pos c32, ha, hb', da.2.2, db.2.2]
       obtain ⟨da0, da1, _⟩ := da; obtain ⟨db0, db1, _⟩ := db
       generalize lowD a = A at *
       generalize lowD b = B at *
       have hns : Hid (∀ x ∈ ([92, 117, 48, 48, A, B] : List Int), 0 ≤ x ∧ x < 256) := by
        show ∀ x ∈ ([92, 117, 48, 48, A, B] : List Int), 0 ≤ x ∧ x < 256
        intro x hx
        simp only [List.mem_cons, List.not_mem_nil, or_false] at hx
        rcases hx with rfl | rfl | rfl | rfl | rfl | rfl <;> omega
       clear ha hb' hd; have v1 : IntKind.u8.wrap (a : Int) = (a : Int) := IntWalk.u8_in _ (by omega); have v2 : IntKind.u8.wrap (b : Int) = (b : Int) := IntWalk.u8_in _ (by omega)
       have v3 : (a : Int) < 16 := by omega
       have v4 : (b : Int) < 16 := by omega
       have hownd := hown.drewN 1; have hbd : Below w.heap.size w wr.drew := ms_drewN hb 1
       go_wp2_with fail
       have ownA := hownd.alloc (.cells #[.int .u8 92, .int .u8 117, .int .u8 48, .int .u8 48, .int .u8 A, .int .u8 B] 5); have BA : Below w.heap.size w (wr.drew.alloc (.cells #[.int .u8 92, .int .u8 117, .int .u8 48, .int .u8 48, .int .u8 A, .int .u8 B] 5)) := hbd.alloc hbs _; have hsA := BA.size; have hnew := new_cells wr.drew 5 [92, 117, 48, 48, A, B]; have HOWN := Lib.hid ownA; have HSA := Lib.hid hsA; have HNEW := Lib.hid hnew; clear ownA hsA hnew
       go_region_law (refine step_append_new rfl _ _ 77 rfl w.heap.size 5 i0 (.int .u8 0) Tryz.underlying77 hi hz0 hz1 hz2 rfl _ _ rfl HOWN.out ⟨wr.heap.size, 0, none⟩ 6 6 rfl [92, 117, 48, 48, A, B] rfl HNEW.out hns.out HB.out HSA.out ?_; intro v' w2 own2 hg2)
       all_goals
        have B2 := HOWN.out.below BA HSA.out hg2
        have own3 : OwnB w2 w.heap.size 5 v' (34 :: (s.data.toList.take (k + 1)).flatMap qb) := by rw [HSN.out, hq.out]; exact own2
        clear own2 hg2 hown
        go_wp2_with fail
        go_roundw
        case rel => exact ⟨k + 1, by go_num, by omega, own3, B2⟩
        case measure => simp [RowKit.intOf]; omega
     · have c32' : ¬ (c.toNat : Int) < 32 := by omega
       have hns : Hid (∀ x ∈ ([(c.toNat : Int)] : List Int), 0 ≤ x ∧ x < 256) := by
        show ∀ x ∈ ([(c.toNat : Int)] : List Int), 0 ≤ x ∧ x < 256
        intro x hx
        rw [List.mem_singleton] at hx; subst hx; omega
       have hq : Hid (qb c = [c]) := by
        show qb c = _
        unfold qb; rw [HE.out]
        simp only
        rw [if_neg c32]
       have ownA := hown.alloc (.cells #[.int .u8 (c.toNat : Int)] 5); have BA : Below w.heap.size w (wr.alloc (.cells #[.int .u8 (c.toNat : Int)] 5)) := hb.alloc hbs _; have hsA := BA.size
       go_wp2_with (at_builtin; refine wpList_append_new rfl _ _ 77 rfl w.heap.size 5 i0 (.int .u8 0) Tryz.underlying77 hi hz0 hz1 hz2 rfl _ _ rfl ownA ⟨wr.heap.size, 0, none⟩ 1 1 rfl [(c.toNat : Int)] rfl (new_cells wr 5 [(c.toNat : Int)]) hns.out (by have := HB.out; omega) hsA ?_)
       intro v' w2 own2 hg2
       have B2 := ownA.below BA hsA hg2
       have own3 : OwnB w2 w.heap.size 5 v' (34 :: (s.data.toList.take (k + 1)).flatMap qb) := by rw [HSN.out, hq.out]; exact own2
       clear own2 ownA hg2 hown
       go_wp2_with fail
       go_roundw
       case rel => exact ⟨k + 1, by go_num, by omega, own3, B2⟩
       case measure => simp [RowKit.intOf]; omega
   · have hk : k = s.size := by omega
     have hge : ¬ (k : Int) < (s.size : Int) := by omega
     have htk : s.data.toList.take k = s.data.toList := List.take_of_length_le (by omega); rw [htk] at hown
     have HB : Hid ((34 :: s.data.toList.flatMap qb).length + 1 ≤ 140737488355328) := by rw [htk] at hfl2; show _ ≤ _; omega
     have hcv := fun (v : Value) (w' : World) (h : OwnB w' w.heap.size 5 v (34 :: s.data.toList.flatMap qb ++ [34])) => run_ownB_string (P := Tryz.prog) (src := 77) (dst := 9) Tryz.underlying77 Tryz.underlying5 Tryz.underlying9 h
     have HCV := Lib.hid hcv; have ownA := hown.alloc (.cells #[.int .u8 34] 5); have BA : Below w.heap.size w (wr.alloc (.cells #[.int .u8 34] 5)) := hb.alloc hbs _; have hsA := BA.size
     have hn34 : ∀ x ∈ ([34] : List Int), 0 ≤ x ∧ x < 256 := by decide
     clear hk htk hfl hfl2 hcv
     go_wp2_with (at_builtin; refine wpList_append_new rfl _ _ 77 rfl w.heap.size 5 i0 (.int .u8 0) Tryz.underlying77 hi hz0 hz1 hz2 rfl _ _ rfl ownA ⟨wr.heap.size, 0, none⟩ 1 1 rfl [34] rfl (new_cells wr 5 [34]) hn34 HB.out hsA ?_)
     intro v' w2 own2 hg2
     have B2 := ownA.below BA hsA hg2; have hcv := HCV.out v' w2 own2; clear own2 ownA hg2 hown
     go_wp2_with fail
     go_ret2
     exact ⟨rfl, B2⟩
end Go.Proofs.YthlinmkengoliaaGreatDoor
