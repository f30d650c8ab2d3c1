/- Evolve's laws: EvolveRows, walked. -/
import Derived.Test.YtikpmmipopmjaaaGreatDoorZx2
import Derived.Test.YtikpmmipopmjaaaGreatDoorZQbc
import Derived.Test.YtikpmmipopmjaaaGreatDoorZQbf
import Derived.Test.YtikpmmipopmjaaaGreatDoorZQr
set_option linter.unusedVariables false
set_option linter.unusedSimpArgs false
namespace Go.Proofs.YtikpmmipopmjaaaGreatDoor
open Go.RowKit Go.Ms Go.Lib Go.Shelf Go.Rel
set_option maxRecDepth 100000 in
set_option maxHeartbeats 4000000 in
theorem evolveRows_walk (A : Option Addr) (n c : Nat) (C : List Int) (B : Option Addr) (m d : Nat) (V : List (Int × Int × Int)) (x : Int) (D : Option Addr) (q qc : Nat) (N : List Int) (w : World) (hs : SdArg w A n C B m V) (hx : I64 x) (hN : NmArg w D q N) (hE : Env w) :
    Calls Tryz.prog 10 #[.agg #[.slice A n c, .slice B m d], .int .i64 x, .slice D q qc] w fun e w' => e = .returned (.bool true) ∧ Below w.heap.size w w' := by
 have hv := seedV C V hN.c
 have hcn := fun (W : World) (hb : Below w.heap.size w W) => chain12_any W A B n c m d C V hs.en hs.em hs.nn hs.mm (hs.to hb).la hs.c (hs.to hb).lb hs.v
 have hnext := fun (i : Nat) (hi : i < (evSeed C V).length) => seed_next C V hi hN.c
 generalize evSeed C V = L at hv hcn hnext
 obtain ⟨X, hX⟩ : ∃ X, X = w.alloc (.cells #[.slice A n c, .slice B m d] 45) := ⟨_, rfl⟩
 have bX : Below w.heap.size w X := by rw [hX]; exact (Below.refl _ w).alloc (Nat.le_refl _) _
 have qX : X.heap[w.heap.size]? = some (.cells #[.slice A n c, .slice B m d] 45 (0, 0)) := by rw [hX]; exact block_new _ _
 have B0 := Lib.hid bX; have HV := Lib.hid hv; have HCN := Lib.hid hcn; have HE := Lib.hid hE; have HN := Lib.hid hN; have HX := Lib.hid hx; have HNEXT := Lib.hid hnext
 have y0 := cell_of_block (i := 0) qX rfl; have y1 := cell_of_block (i := 1) qX rfl; clear bX qX hv hcn hE hN hx hs hnext
 go_enter Tryz.func10, Tryz.ntmps10
 go_upto_region 1 with fail
 rw [← hX]; clear hX
 go_wp2_with fail
 refine (HCN.out _ B0.out).mono ?_; rintro en w2 ⟨A', c', rs, rfl, hL, b2⟩
 have B2 := Lib.hid (B0.out.trans (b2.mono B0.out.size)); have HL := Lib.hid hL
 have hn8 : rs.length = L.length := hL.len; clear b2 y0 y1 hL; obtain ⟨l, hl⟩ : ∃ l, rs.length = l := ⟨_, rfl⟩
 have hl1 : 1 ≤ l := by have := HV.out.some_; omega
 have hl8 : l ≤ 8 := by have := HV.out.few; omega
 have HLL := Lib.hid (hn8.symm.trans hl); rw [hl]; clear hn8
 go_wp2_with fail
 have r1 := Int.emod_nonneg x (show (l : Int) ≠ 0 by omega); have r2 := Int.emod_lt_of_pos x (show (0 : Int) < l by omega); have hbr := bringI_any x l HX.out.1 HX.out.2 (by omega) (by omega) w2
 generalize x % (l : Int) = i at r1 r2 hbr
 obtain ⟨i, rfl⟩ : ∃ k : Nat, i = k := ⟨i.toNat, by omega⟩; refine hbr.mono ?_; clear hbr; rintro en w4 ⟨rfl, b4⟩
 have B4 := Lib.hid (B2.out.trans (b4.mono B2.out.size)); have HL4 := Lib.hid (HL.out.to b4)
 clear b4 r1; have hw1 : IntKind.i64.wrap ((i : Int) + 1) = (i : Int) + 1 := IntWalk.i64_in _ (by omega); have hw2 : IntKind.i64.wrap ((l : Int) - 1) = (l : Int) - 1 := IntWalk.i64_in _ (by omega)
 have i1 : (i : Int) < l := by omega
 have i2 : i < l := by omega
 obtain ⟨hn1, hn2⟩ := HNEXT.out i (by have := HLL.out; omega); obtain ⟨j, hj⟩ : ∃ j, min (i + 1) (L.length - 1) = j := ⟨_, rfl⟩; rw [hj] at hn2
 have i4 : j < l := by have := HLL.out; omega
 have i3 : (j : Int) < l := by omega
 have HMIN := Lib.hid (show min ((i : Int) + 1) ((l : Int) - 1) = (j : Int) by have := HLL.out; omega); clear hj; have hsa := getD_at (l := L) (i := i) (by have := HLL.out; omega); have hsb := getD_at (l := L) (i := j) (by have := HLL.out; omega); obtain ⟨ra, hra⟩ : ∃ r, rs[i]? = some r := ⟨_, List.getElem?_eq_getElem (by rw [hl]; omega)⟩; obtain ⟨rb, hrb⟩ : ∃ r, rs[j]? = some r := ⟨_, List.getElem?_eq_getElem (by rw [hl]; omega)⟩
 generalize hSA : L.getD i zSc = sa at hsa hn1 hn2
 generalize hSB : L.getD j zSc = sb at hsb hn2
 have msa := List.mem_of_getElem? hsa; have msb := List.mem_of_getElem? hsb; obtain ⟨gl, ol, e1, ta⟩ := HL4.out.at_ hra; subst e1; obtain ⟨gl', ol', e2, tb⟩ := HL4.out.at_ hrb
 cases e2
 have pa := HL4.out.each _ _ _ hra hsa; have pb := HL4.out.each _ _ _ hrb hsb
 have TA := Lib.hid ta; have TB := Lib.hid tb; have PA := Lib.hid pa; have PB := Lib.hid pb; have HRK := Lib.hid hn1; have HST := Lib.hid hn2; have MA := Lib.hid msa; have MB := Lib.hid msb
 clear ta tb pa pb hn1 hn2 msa msb hSA hSB hsa hsb hra hrb
 go_upto_region 3 with fail
 refine wp_region_two (q := [_, _, _, _, _, _, _, _, _, _, _, _, _]) (oA := _) (oB := _) (sA := _) (sB := _) [isV (.slice (some ⟨gl, ol, none⟩) l c'), isV (.int .i64 (i : Nat)), isV (.pointer (some ⟨gl, ol + i * 2, none⟩)), isV (.agg #[.slice ra.a ra.n ra.c, .slice ra.b ra.m ra.d]), isV (.slice (some ⟨gl, ol, none⟩) l c'), isV (.int .i64 (i : Nat)), isV (.int .i64 ((i : Int) + 1)), isV (.slice (some ⟨gl, ol, none⟩) l c'), isV (.int .i64 l), isV (.int .i64 ((l : Int) - 1)), isV (.int .i64 (j : Nat)), isV (.pointer (some ⟨gl, ol + j * 2, none⟩)), isV (.agg #[.slice rb.a rb.n rb.c, .slice rb.b rb.m rb.d])] (by kernel_rfl) 3 12 #[.slice none 0 0, .slice none 0 0] #[.slice ra.a ra.n ra.c, .slice ra.b ra.m ra.d] #[.slice rb.a rb.n rb.c, .slice rb.b rb.m rb.d] 25 (by kernel_rfl) (by kernel_rfl) (by kernel_rfl) (isV_cons (isV_cons (isV_cons (isV_cons (isV_cons (isV_cons (isV_cons (isV_cons (isV_cons (isV_cons (isV_cons (isV_cons (isV_cons isV_nil))))))))))))) rfl rfl rfl rfl rfl rfl rfl rfl (by kernel_rfl) (by kernel_rfl) (by kernel_rfl) (by kernel_rfl) (by decide) (by decide) rfl rfl rfl rfl (fun _ _ => by kernel_rfl) (fun _ _ => by kernel_rfl) (by intro ev w g e1 e2 hh; have f0 := frozen_of_block (i := 0) hh; have f1 := frozen_of_block (i := 1) hh; have c0 := cell_of_block (i := 0) hh rfl; have c1 := cell_of_block (i := 1) hh rfl; go_simp; exact ⟨(grown_set' _ _ _ _).trans (grown_set' _ _ _ _), two_set1 (two_set0 hh _) _⟩) (by intro ev w g e1 e2 hh; have f0 := frozen_of_block (i := 0) hh; have f1 := frozen_of_block (i := 1) hh; have c0 := cell_of_block (i := 0) hh rfl; have c1 := cell_of_block (i := 1) hh rfl; go_simp; exact ⟨(grown_set' _ _ _ _).trans (grown_set' _ _ _ _), two_set1 (two_set0 hh _) _⟩) ?_ ?_
 ·
   refine ⟨prem_base (WantOk.free rfl) rfl rfl rfl rfl, ?_⟩; refine ⟨prem_base (WantOk.free rfl) rfl rfl rfl rfl, ?_⟩; refine ⟨prem_of (WantOk.free rfl) (isV_stable _) (fun ev wo E => ?_), ?_⟩
   · have e26 : ev (.tmp 26) = .slice (some ⟨gl, ol, none⟩) l c' := E.dep 0 _ rfl rfl _ rfl; have e27 : ev (.tmp 27) = .int .i64 (i : Nat) := E.dep 1 _ rfl rfl _ rfl; have h0 := i1; have h1 := i2; have h2 := i3; have h3 := i4; go_simp; exact relUpon_value ⟨Below.refl _ _, rfl⟩
   refine ⟨prem_of (WantOk.free rfl) (isV_stable _) (fun ev wo E => ?_), ?_⟩
   · have e28 : ev (.tmp 28) = .pointer (some ⟨gl, ol + i * 2, none⟩) := E.dep 0 _ rfl rfl _ rfl; have hx0 := (E.bel.cell TA.out.lt).trans TA.out.c0; have hx1 := (E.bel.cell TA.out.lt).trans TA.out.c1; go_simp; exact relUpon_value ⟨Below.refl _ _, rfl⟩
   refine ⟨prem_base (WantOk.free rfl) rfl rfl rfl rfl, ?_⟩; refine ⟨prem_base (WantOk.free rfl) rfl rfl rfl rfl, ?_⟩; refine ⟨prem_of (WantOk.free rfl) (isV_stable _) (fun ev wo E => ?_), ?_⟩
   · have e31 : ev (.tmp 31) = .int .i64 (i : Nat) := E.dep 0 _ rfl rfl _ rfl; have ec := E.const; have h0 := hw1; go_simp; exact relUpon_value ⟨Below.refl _ _, rfl⟩
   refine ⟨prem_base (WantOk.free rfl) rfl rfl rfl rfl, ?_⟩; refine ⟨prem_of (WantOk.free rfl) (isV_stable _) (fun ev wo E => ?_), ?_⟩
   · have e33 : ev (.tmp 33) = .slice (some ⟨gl, ol, none⟩) l c' := E.dep 0 _ rfl rfl _ rfl; go_simp; exact relUpon_value ⟨Below.refl _ _, rfl⟩
   refine ⟨prem_of (WantOk.free rfl) (isV_stable _) (fun ev wo E => ?_), ?_⟩
   · have e34 : ev (.tmp 34) = .int .i64 l := E.dep 0 _ rfl rfl _ rfl; have ec := E.const; have h0 := hw2; go_simp; exact relUpon_value ⟨Below.refl _ _, rfl⟩
   refine ⟨prem_of (WantOk.free rfl) (isV_stable _) (fun ev wo E => ?_), ?_⟩
   · have e32 : ev (.tmp 32) = .int .i64 ((i : Int) + 1) := E.dep 0 _ rfl rfl _ rfl; have e35 : ev (.tmp 35) = .int .i64 ((l : Int) - 1) := E.dep 1 _ rfl rfl _ rfl; have h0 := HMIN.out; go_simp; exact relUpon_value ⟨Below.refl _ _, rfl⟩
   refine ⟨prem_of (WantOk.free rfl) (isV_stable _) (fun ev wo E => ?_), ?_⟩
   · have e30 : ev (.tmp 30) = .slice (some ⟨gl, ol, none⟩) l c' := E.dep 0 _ rfl rfl _ rfl; have e36 : ev (.tmp 36) = .int .i64 (j : Nat) := E.dep 1 _ rfl rfl _ rfl; have h0 := i1; have h1 := i2; have h2 := i3; have h3 := i4; go_simp; exact relUpon_value ⟨Below.refl _ _, rfl⟩
   refine ⟨prem_of (WantOk.free rfl) (isV_stable _) (fun ev wo E => ?_), ?_⟩
   · have e37 : ev (.tmp 37) = .pointer (some ⟨gl, ol + j * 2, none⟩) := E.dep 0 _ rfl rfl _ rfl; have hx0 := (E.bel.cell TB.out.lt).trans TB.out.c0; have hx1 := (E.bel.cell TB.out.lt).trans TB.out.c1; go_simp; exact relUpon_value ⟨Below.refl _ _, rfl⟩
   trivial
 · intro wz gA gB bz hA hB
   (iterate 13 rintro _ rfl)
   have TS := Lib.hid (TwoSc.mk (T := 25) (ra := ra) (rb := rb) (B := w.heap.size) (w := w) hA hB (B4.out.trans (bz.mono B4.out.size))); have PA2 := Lib.hid (PA.out.to bz); have PB2 := Lib.hid (PB.out.to bz)
   clear hA hB bz HL4 HL TA TB PA PB HMIN HLL HNEXT HCN; simp only [relEnd]; go_simp; have z0 := cell_of_block (i := 0) TS.out.ba rfl; have z1 := cell_of_block (i := 1) TS.out.ba rfl; have hN := HN.out.to TS.out.bel; obtain ⟨r, hr⟩ : ∃ r, evRow sa.1 N = r := ⟨_, rfl⟩; have hrow := rowOf_any wz ra.a D ra.n ra.c q qc sa.1 N PA2.out.n hN.en PA2.out.nn hN.nn PA2.out.la hN.la hN.c; have rl := HV.out.rlen _ MA.out; have rs_ := HV.out.rsz _ MA.out; have r8 := evRowAt_sz8 N sa.1 0; have hrk := HRK.out; rw [show evRowAt N 0 sa.1 = r from hr] at r8; rw [hr] at hrow rl rs_ hrk
   have hrl : sa.1.length = r.length := by have := (rCheck_parts hrk).1; rwa [coTys_len] at this
   have HROW := Lib.hid hrow; have RL := Lib.hid rl; have RS := Lib.hid rs_; have R8 := Lib.hid r8; have RK := Lib.hid hrk; have RLEN := Lib.hid hrl
   clear hrow rl rs_ hN hr r8 hrk HRK hrl
   go_wp2_with fail
   refine HROW.out.mono ?_; rintro en w5 ⟨v, rfl, ho5, b5⟩; obtain ⟨Cr, cr, rfl, lr⟩ := RwLay.own ho5 (by have := RL.out; omega) RS.out
   have TS5 := Lib.hid (TS.out.step b5 (Nat.le_refl _)); have PA3 := Lib.hid (PA2.out.to b5); have PB3 := Lib.hid (PB2.out.to b5); have LR := Lib.hid lr
   clear b5 ho5 lr z0 z1; have z0 := cell_of_block (i := 0) TS5.out.ba rfl; have z1 := cell_of_block (i := 1) TS5.out.ba rfl; have z2 := cell_of_block (i := 0) TS5.out.bb rfl; have z3 := cell_of_block (i := 1) TS5.out.bb rfl; obtain ⟨hr1, hr2, hr3, hr4, hr5, hr6⟩ := rows_plain HST.out RK.out; have hul := moved_len sa.1 sb.1 r
   have hcp := fun k d (hd : sb.1[k]? = some d) => cells_plain (a := sa.1) (r := r) RLEN.out hd
   have hus : ∀ c ∈ evMoved sa.1 sb.1 r, c.2.2.size ≤ 1200 := moved_szM (fun d hd => by have := (coOk_small ((sc_cols (HV.out.ok _ MB.out)).1 d hd)).2.1; omega) (fun c hc => by have := R8.out c hc; omega)
   generalize evMoved sa.1 sb.1 r = u at hr1 hr3 hr4 hr5 hr6 hul hcp hus
   have hub : sb.1.length ≤ 32 := HV.out.cols _ MB.out; have hab : sa.1.length ≤ 32 := HV.out.cols _ MA.out
   have HR1 := Lib.hid hr1; have HR2 := Lib.hid hr2; have HR3 := Lib.hid hr3; have HR4 := Lib.hid hr4; have HR5 := Lib.hid hr5; have HR6 := Lib.hid hr6; have HUL := Lib.hid hul; have HCP := Lib.hid hcp; have HUS := Lib.hid hus; have HUB := Lib.hid hub; have HAB := Lib.hid hab
   clear hr1 hr2 hr3 hr4 hr5 hr6 hul hcp hus hub hab
   go_wp2_with fail
   have hmv := move_any ra rb sa sb Cr r.length cr r w5 PA3.out PB3.out (HV.out.sz _ MA.out) (HV.out.sz _ MB.out) LR.out (HE.out.below TS5.out.bel); rw [HR1.out] at hmv; refine hmv.mono ?_; clear hmv z0 z1 z2 z3; rintro en w6 ⟨v, rfl, ho6, b6⟩; obtain ⟨Cu, cu, rfl, lu⟩ := RwLay.own (r := u) ho6 (by have := HUL.out; have := HUB.out; omega) (fun c hc => by have := HUS.out c hc; omega)
   have TS6 := Lib.hid (TS5.out.step b6 (Nat.le_refl _)); have PA4 := Lib.hid (PA3.out.to b6); have PB4 := Lib.hid (PB3.out.to b6); have LR2 := Lib.hid (LR.out.to b6); have LU := Lib.hid lu
   clear b6 ho6 lu; have z0 := cell_of_block (i := 0) TS6.out.ba rfl; have z1 := cell_of_block (i := 1) TS6.out.ba rfl; have z2 := cell_of_block (i := 0) TS6.out.bb rfl; have z3 := cell_of_block (i := 1) TS6.out.bb rfl
   go_wp2_with fail
   have hmv := move_any ra ra sa sa Cr r.length cr r w6 PA4.out PA4.out (HV.out.sz _ MA.out) (HV.out.sz _ MA.out) LR2.out (HE.out.below TS6.out.bel); rw [HR2.out] at hmv; refine hmv.mono ?_; clear hmv z0 z1 z2 z3; rintro en w7 ⟨v, rfl, ho7, b7⟩; obtain ⟨Cv, cv, rfl, lv⟩ := RwLay.own (r := r) ho7 (by have := RL.out; omega) RS.out
   have TS7 := Lib.hid (TS6.out.step b7 (Nat.le_refl _)); have PA5 := Lib.hid (PA4.out.to b7); have PB5 := Lib.hid (PB4.out.to b7); have LR3 := Lib.hid (LR2.out.to b7); have LU2 := Lib.hid (LU.out.to b7); have LV := Lib.hid lv
   clear b7 ho7 lv; have z0 := cell_of_block (i := 0) TS7.out.ba rfl; have z1 := cell_of_block (i := 1) TS7.out.ba rfl; obtain ⟨K, hK⟩ : ∃ K : ByteArray, K = ⟨(rKey (coTys sa.1) r sa.2).toArray⟩ := ⟨_, rfl⟩; have HK := Lib.hid hK; clear hK; have sk1 := ((scOk_iff _ _).1 (HV.out.ok _ MA.out)).keys; have sk2 := ((scOk_iff _ _).1 (HV.out.ok _ MB.out)).keys
   go_wp2_with fail
   have hky := rowKey_any w7 ra.a ra.b Cr ra.n ra.c ra.m ra.d r.length cr (coTys sa.1) (colV sa.1) r sa.2 (fun c hc => by have := R8.out c hc; omega) (by have := PA5.out.nn; unfold maxLen; omega) (by have := PA5.out.m; omega) (by have := RL.out; unfold maxLen; omega) (by rw [coTys_len]; exact PA5.out.n) PA5.out.m rfl PA5.out.la.cols PA5.out.lb LR3.out.lay (HE.out.below TS7.out.bel); rw [HR4.out, ← HK.out] at hky; refine hky.mono ?_; clear hky z0 z1; rintro en w8 ⟨rfl, b8⟩
   have TS8 := Lib.hid (TS7.out.step b8 (Nat.le_refl _)); have PB6 := Lib.hid (PB5.out.to b8); have LR4 := Lib.hid (LR3.out.to b8); have LU3 := Lib.hid (LU2.out.to b8); have LV2 := Lib.hid (LV.out.to b8)
   clear b8; have z2 := cell_of_block (i := 0) TS8.out.bb rfl; have z3 := cell_of_block (i := 1) TS8.out.bb rfl
   have ul32 : u.length ≤ 32 := by have := HUL.out; have := HUB.out; omega
   go_wp2_with fail
   have hky := rowKey_any w8 rb.a rb.b Cu rb.n rb.c rb.m rb.d u.length cu (coTys sb.1) (colV sb.1) u sb.2 HUS.out (by have := PB6.out.nn; unfold maxLen; omega) (by have := PB6.out.m; omega) (by unfold maxLen; omega) (by rw [coTys_len]; exact PB6.out.n) PB6.out.m rfl PB6.out.la.cols PB6.out.lb LU3.out.lay (HE.out.below TS8.out.bel); rw [HR5.out, HR6.out, ← HK.out] at hky; refine hky.mono ?_; clear hky z2 z3; rintro en w9 ⟨rfl, b9⟩
   have TS9 := Lib.hid (TS8.out.step b9 (Nat.le_refl _)); have PB7 := Lib.hid (PB6.out.to b9); have LR5 := Lib.hid (LR4.out.to b9); have LU4 := Lib.hid (LU3.out.to b9); have LV3 := Lib.hid (LV2.out.to b9)
   clear b9; have rl32 := RL.out
   go_wp2_with fail
   have heq := reqrow_any w9 Cv Cr r.length cv r.length cr r r (by unfold maxLen; omega) (by unfold maxLen; omega) rfl rfl LV3.out.lay LR5.out.lay; rw [decide_eq_true rfl] at heq; refine heq.mono ?_; clear heq; rintro en wA ⟨rfl, bA⟩
   have TSA := Lib.hid (TS9.out.step bA (Nat.le_refl _)); have PB8 := Lib.hid (PB7.out.to bA); have LU5 := Lib.hid (LU4.out.to bA)
   clear bA; have z2 := cell_of_block (i := 0) TSA.out.bb rfl; have z3 := cell_of_block (i := 1) TSA.out.bb rfl
   go_wp2_with fail
   have hck := rowCheck_any wA rb.a Cu rb.n rb.c u.length cu (coTys sb.1) (colV sb.1) u (fun c hc => by have := HUS.out c hc; omega) (by have := PB8.out.nn; unfold maxLen; omega) (by unfold maxLen; omega) (by rw [coTys_len]; exact PB8.out.n) rfl PB8.out.la.cols LU5.out.lay (HE.out.below TSA.out.bel); rw [HR3.out] at hck; refine hck.mono ?_; clear hck z2 z3; rintro en wB ⟨rfl, bB⟩; have TSB := Lib.hid (TSA.out.step bB (Nat.le_refl _)); clear bB
   go_wp2_with fail
   refine (works12_any wB (HE.out.below TSB.out.bel)).mono ?_; rintro en wC ⟨rfl, bC⟩; have TSC := Lib.hid (TSB.out.step bC (Nat.le_refl _)); clear bC
   go_wp2_with fail
   go_ret
   exact ⟨rfl, TSC.out.bel⟩
end Go.Proofs.YtikpmmipopmjaaaGreatDoor
