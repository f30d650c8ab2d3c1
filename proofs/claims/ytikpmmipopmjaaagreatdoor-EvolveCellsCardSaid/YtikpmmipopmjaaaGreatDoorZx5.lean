/- Evolve's laws: EvolveCells, walked. -/
import Derived.Test.YtikpmmipopmjaaaGreatDoorZx2
import Derived.Test.YtikpmmipopmjaaaGreatDoorZQbc
import Derived.Test.YtikpmmipopmjaaaGreatDoorZQbf
import Derived.Test.YtikpmmipopmjaaaGreatDoorZQr
set_option linter.unusedVariables false
set_option linter.unusedSimpArgs false
namespace Go.Proofs.YtikpmmipopmjaaaGreatDoor
open Go.RowKit Go.Ms Go.Lib Go.Shelf Go.Rel
set_option maxRecDepth 100000 in
set_option maxHeartbeats 4000000 in
theorem evolveCells_walk (A : Option Addr) (n c : Nat) (C : List Int) (B : Option Addr) (m d : Nat) (V : List (Int × Int × Int)) (x : Int) (D : Option Addr) (q qc : Nat) (N : List Int) (w : World) (hs : SdArg w A n C B m V) (hx : I64 x) (hN : NmArg w D q N) (hE : Env w) :
    Calls Tryz.prog 7 #[.agg #[.slice A n c, .slice B m d], .int .i64 x, .slice D q qc] w fun e w' => e = .returned (.bool true) ∧ Below w.heap.size w w' := by
 have hv := seedV C V hN.c
 have hcn := fun (W : World) (hb : Below w.heap.size w W) => chain12_any W A B n c m d C V hs.en hs.em hs.nn hs.mm (hs.to hb).la hs.c (hs.to hb).lb hs.v
 have hnext := fun (i : Nat) (hi : i < (evSeed C V).length) => seed_next C V hi hN.c
 generalize evSeed C V = L at hv hcn hnext
 obtain ⟨X, hX⟩ : ∃ X, X = w.alloc (.cells #[.slice A n c, .slice B m d] 45) := ⟨_, rfl⟩
 have bX : Below w.heap.size w X := by rw [hX]; exact (Below.refl _ w).alloc (Nat.le_refl _) _
 have qX : X.heap[w.heap.size]? = some (.cells #[.slice A n c, .slice B m d] 45 (0, 0)) := by rw [hX]; exact block_new _ _
 have B0 := Lib.hid bX; have HV := Lib.hid hv; have HCN := Lib.hid hcn; have HE := Lib.hid hE; have HN := Lib.hid hN; have HX := Lib.hid hx; have HNEXT := Lib.hid hnext
 have y0 := cell_of_block (i := 0) qX rfl; have y1 := cell_of_block (i := 1) qX rfl; clear bX qX hv hcn hE hN hx hs hnext
 go_enter Tryz.func7, Tryz.ntmps7
 go_upto_region 1 with fail
 rw [← hX]; clear hX
 go_wp2_with fail
 refine (HCN.out _ B0.out).mono ?_; rintro en w2 ⟨A', c', rs, rfl, hL, b2⟩
 have B2 := Lib.hid (B0.out.trans (b2.mono B0.out.size)); have HL := Lib.hid hL
 have hn8 : rs.length = L.length := hL.len; clear b2 y0 y1 hL; obtain ⟨l, hl⟩ : ∃ l, rs.length = l := ⟨_, rfl⟩
 have hl1 : 1 ≤ l := by have := HV.out.some_; omega
 have hl8 : l ≤ 8 := by have := HV.out.few; omega
 have HLL := Lib.hid (hn8.symm.trans hl); rw [hl]; clear hn8
 go_wp2_with fail
 have r1 := Int.emod_nonneg x (show (l : Int) ≠ 0 by omega); have r2 := Int.emod_lt_of_pos x (show (0 : Int) < l by omega); have hbr := bringI_any x l HX.out.1 HX.out.2 (by omega) (by omega) w2
 generalize x % (l : Int) = i at r1 r2 hbr
 obtain ⟨i, rfl⟩ : ∃ k : Nat, i = k := ⟨i.toNat, by omega⟩; refine hbr.mono ?_; clear hbr; rintro en w4 ⟨rfl, b4⟩
 have B4 := Lib.hid (B2.out.trans (b4.mono B2.out.size)); have HL4 := Lib.hid (HL.out.to b4)
 clear b4 r1; have hw1 : IntKind.i64.wrap ((i : Int) + 1) = (i : Int) + 1 := IntWalk.i64_in _ (by omega); have hw2 : IntKind.i64.wrap ((l : Int) - 1) = (l : Int) - 1 := IntWalk.i64_in _ (by omega)
 have i1 : (i : Int) < l := by omega
 have i2 : i < l := by omega
 obtain ⟨hn1, hn2⟩ := HNEXT.out i (by have := HLL.out; omega); obtain ⟨j, hj⟩ : ∃ j, min (i + 1) (L.length - 1) = j := ⟨_, rfl⟩; rw [hj] at hn2
 have i4 : j < l := by have := HLL.out; omega
 have i3 : (j : Int) < l := by omega
 have HMIN := Lib.hid (show min ((i : Int) + 1) ((l : Int) - 1) = (j : Int) by have := HLL.out; omega); clear hj; have hsa := getD_at (l := L) (i := i) (by have := HLL.out; omega); have hsb := getD_at (l := L) (i := j) (by have := HLL.out; omega); obtain ⟨ra, hra⟩ : ∃ r, rs[i]? = some r := ⟨_, List.getElem?_eq_getElem (by rw [hl]; omega)⟩; obtain ⟨rb, hrb⟩ : ∃ r, rs[j]? = some r := ⟨_, List.getElem?_eq_getElem (by rw [hl]; omega)⟩
 generalize hSA : L.getD i zSc = sa at hsa hn1 hn2
 generalize hSB : L.getD j zSc = sb at hsb hn2
 have msa := List.mem_of_getElem? hsa; have msb := List.mem_of_getElem? hsb; obtain ⟨gl, ol, e1, ta⟩ := HL4.out.at_ hra; subst e1; obtain ⟨gl', ol', e2, tb⟩ := HL4.out.at_ hrb
 cases e2
 have pa := HL4.out.each _ _ _ hra hsa; have pb := HL4.out.each _ _ _ hrb hsb
 have TA := Lib.hid ta; have TB := Lib.hid tb; have PA := Lib.hid pa; have PB := Lib.hid pb; have HRK := Lib.hid hn1; have HST := Lib.hid hn2; have MA := Lib.hid msa; have MB := Lib.hid msb
 clear ta tb pa pb hn1 hn2 msa msb hSA hSB hsa hsb hra hrb
 go_upto_region 3 with fail
 refine wp_region_two (q := [_, _, _, _, _, _, _, _, _, _, _, _, _]) (oA := _) (oB := _) (sA := _) (sB := _) [isV (.slice (some ⟨gl, ol, none⟩) l c'), isV (.int .i64 (i : Nat)), isV (.pointer (some ⟨gl, ol + i * 2, none⟩)), isV (.agg #[.slice ra.a ra.n ra.c, .slice ra.b ra.m ra.d]), isV (.slice (some ⟨gl, ol, none⟩) l c'), isV (.int .i64 (i : Nat)), isV (.int .i64 ((i : Int) + 1)), isV (.slice (some ⟨gl, ol, none⟩) l c'), isV (.int .i64 l), isV (.int .i64 ((l : Int) - 1)), isV (.int .i64 (j : Nat)), isV (.pointer (some ⟨gl, ol + j * 2, none⟩)), isV (.agg #[.slice rb.a rb.n rb.c, .slice rb.b rb.m rb.d])] (by kernel_rfl) 3 12 #[.slice none 0 0, .slice none 0 0] #[.slice ra.a ra.n ra.c, .slice ra.b ra.m ra.d] #[.slice rb.a rb.n rb.c, .slice rb.b rb.m rb.d] 25 (by kernel_rfl) (by kernel_rfl) (by kernel_rfl) (isV_cons (isV_cons (isV_cons (isV_cons (isV_cons (isV_cons (isV_cons (isV_cons (isV_cons (isV_cons (isV_cons (isV_cons (isV_cons isV_nil))))))))))))) rfl rfl rfl rfl rfl rfl rfl rfl (by kernel_rfl) (by kernel_rfl) (by kernel_rfl) (by kernel_rfl) (by decide) (by decide) rfl rfl rfl rfl (fun _ _ => by kernel_rfl) (fun _ _ => by kernel_rfl) (by intro ev w g e1 e2 hh; have f0 := frozen_of_block (i := 0) hh; have f1 := frozen_of_block (i := 1) hh; have c0 := cell_of_block (i := 0) hh rfl; have c1 := cell_of_block (i := 1) hh rfl; go_simp; exact ⟨(grown_set' _ _ _ _).trans (grown_set' _ _ _ _), two_set1 (two_set0 hh _) _⟩) (by intro ev w g e1 e2 hh; have f0 := frozen_of_block (i := 0) hh; have f1 := frozen_of_block (i := 1) hh; have c0 := cell_of_block (i := 0) hh rfl; have c1 := cell_of_block (i := 1) hh rfl; go_simp; exact ⟨(grown_set' _ _ _ _).trans (grown_set' _ _ _ _), two_set1 (two_set0 hh _) _⟩) ?_ ?_
 ·
   refine Rel.rb ?_; refine Rel.rb ?_; refine rf (fun ev wo E => ?_) ?_
   · have e24 : ev (.tmp 24) = .slice (some ⟨gl, ol, none⟩) l c' := E.e 0; have e25 : ev (.tmp 25) = .int .i64 (i : Nat) := E.e 1; have h0 := i1; have h1 := i2; have h2 := i3; have h3 := i4; go_simp; exact rv
   refine rf (fun ev wo E => ?_) ?_
   · have e26 : ev (.tmp 26) = .pointer (some ⟨gl, ol + i * 2, none⟩) := E.e 0; have hx0 := (E.bel.cell TA.out.lt).trans TA.out.c0; have hx1 := (E.bel.cell TA.out.lt).trans TA.out.c1; go_simp; exact rv
   refine Rel.rb ?_; refine Rel.rb ?_; refine rf (fun ev wo E => ?_) ?_
   · have e29 : ev (.tmp 29) = .int .i64 (i : Nat) := E.e 0; have ec := E.const; have h0 := hw1; go_simp; exact rv
   refine Rel.rb ?_; refine rf (fun ev wo E => ?_) ?_
   · have e31 : ev (.tmp 31) = .slice (some ⟨gl, ol, none⟩) l c' := E.e 0; go_simp; exact rv
   refine rf (fun ev wo E => ?_) ?_
   · have e32 : ev (.tmp 32) = .int .i64 l := E.e 0; have ec := E.const; have h0 := hw2; go_simp; exact rv
   refine rf (fun ev wo E => ?_) ?_
   · have e30 : ev (.tmp 30) = .int .i64 ((i : Int) + 1) := E.e 0; have e33 : ev (.tmp 33) = .int .i64 ((l : Int) - 1) := E.e 1; have h0 := HMIN.out; go_simp; exact rv
   refine rf (fun ev wo E => ?_) ?_
   · have e28 : ev (.tmp 28) = .slice (some ⟨gl, ol, none⟩) l c' := E.e 0; have e34 : ev (.tmp 34) = .int .i64 (j : Nat) := E.e 1; have h0 := i1; have h1 := i2; have h2 := i3; have h3 := i4; go_simp; exact rv
   refine rf (fun ev wo E => ?_) ?_
   · have e35 : ev (.tmp 35) = .pointer (some ⟨gl, ol + j * 2, none⟩) := E.e 0; have hx0 := (E.bel.cell TB.out.lt).trans TB.out.c0; have hx1 := (E.bel.cell TB.out.lt).trans TB.out.c1; go_simp; exact rv
   trivial
 · intro wz gA gB bz hA hB
   (iterate 13 rintro _ rfl)
   have TS := Lib.hid (TwoSc.mk (T := 25) (ra := ra) (rb := rb) (B := w.heap.size) (w := w) hA hB (B4.out.trans (bz.mono B4.out.size))); have PA2 := Lib.hid (PA.out.to bz); have PB2 := Lib.hid (PB.out.to bz)
   clear hA hB bz HL4 HL TA TB PA PB HMIN HLL HNEXT HCN; simp only [relEnd]; go_simp; have z0 := cell_of_block (i := 0) TS.out.ba rfl; have z1 := cell_of_block (i := 1) TS.out.ba rfl; have hN := HN.out.to TS.out.bel; obtain ⟨r, hr⟩ : ∃ r, evRow sa.1 N = r := ⟨_, rfl⟩; have hrow := rowOf_any wz ra.a D ra.n ra.c q qc sa.1 N PA2.out.n hN.en PA2.out.nn hN.nn PA2.out.la hN.la hN.c; have rl := HV.out.rlen _ MA.out; have rs_ := HV.out.rsz _ MA.out; have r8 := evRowAt_sz8 N sa.1 0; have hrk := HRK.out; rw [show evRowAt N 0 sa.1 = r from hr] at r8; rw [hr] at hrow rl rs_ hrk
   have hrl : sa.1.length = r.length := by have := (rCheck_parts hrk).1; rwa [coTys_len] at this
   have HROW := Lib.hid hrow; have RL := Lib.hid rl; have RS := Lib.hid rs_; have R8 := Lib.hid r8; have RK := Lib.hid hrk; have RLEN := Lib.hid hrl
   clear hrow rl rs_ hN hr r8 hrk HRK hrl
   go_wp2_with fail
   refine HROW.out.mono ?_; rintro en w5 ⟨v, rfl, ho5, b5⟩; obtain ⟨Cr, cr, rfl, lr⟩ := RwLay.own ho5 (by have := RL.out; omega) RS.out
   have TS5 := Lib.hid (TS.out.step b5 (Nat.le_refl _)); have PA3 := Lib.hid (PA2.out.to b5); have PB3 := Lib.hid (PB2.out.to b5); have LR := Lib.hid lr
   clear b5 ho5 lr z0 z1; have z0 := cell_of_block (i := 0) TS5.out.ba rfl; have z1 := cell_of_block (i := 1) TS5.out.ba rfl; have z2 := cell_of_block (i := 0) TS5.out.bb rfl; have z3 := cell_of_block (i := 1) TS5.out.bb rfl; obtain ⟨hr1, hr2, hr3, hr4, hr5, hr6⟩ := rows_plain HST.out RK.out; have hul := moved_len sa.1 sb.1 r
   have hcp := fun k d (hd : sb.1[k]? = some d) => cells_plain (a := sa.1) (r := r) RLEN.out hd
   have hus : ∀ c ∈ evMoved sa.1 sb.1 r, c.2.2.size ≤ 1200 := moved_szM (fun d hd => by have := (coOk_small ((sc_cols (HV.out.ok _ MB.out)).1 d hd)).2.1; omega) (fun c hc => by have := R8.out c hc; omega)
   generalize evMoved sa.1 sb.1 r = u at hr1 hr3 hr4 hr5 hr6 hul hcp hus
   have hub : sb.1.length ≤ 32 := HV.out.cols _ MB.out; have hab : sa.1.length ≤ 32 := HV.out.cols _ MA.out
   have HR1 := Lib.hid hr1; have HR2 := Lib.hid hr2; have HR3 := Lib.hid hr3; have HR4 := Lib.hid hr4; have HR5 := Lib.hid hr5; have HR6 := Lib.hid hr6; have HUL := Lib.hid hul; have HCP := Lib.hid hcp; have HUS := Lib.hid hus; have HUB := Lib.hid hub; have HAB := Lib.hid hab
   clear hr1 hr2 hr3 hr4 hr5 hr6 hul hcp hus hub hab
   go_wp2_with fail
   have hmv := move_any ra rb sa sb Cr r.length cr r w5 PA3.out PB3.out (HV.out.sz _ MA.out) (HV.out.sz _ MB.out) LR.out (HE.out.below TS5.out.bel); rw [HR1.out] at hmv; refine hmv.mono ?_; clear hmv z0 z1 z2 z3; rintro en w6 ⟨v, rfl, ho6, b6⟩; obtain ⟨Cu, cu, rfl, lu⟩ := RwLay.own (r := u) ho6 (by have := HUL.out; have := HUB.out; omega) (fun c hc => by have := HUS.out c hc; omega)
   have TS6 := Lib.hid (TS5.out.step b6 (Nat.le_refl _)); have PA4 := Lib.hid (PA3.out.to b6); have PB4 := Lib.hid (PB3.out.to b6); have LR2 := Lib.hid (LR.out.to b6); have LU := Lib.hid lu
   clear b6 ho6 lu; have z0 := cell_of_block (i := 0) TS6.out.ba rfl; have z1 := cell_of_block (i := 1) TS6.out.ba rfl; have z2 := cell_of_block (i := 0) TS6.out.bb rfl; have z3 := cell_of_block (i := 1) TS6.out.bb rfl; have hnb : rb.n = u.length := PB4.out.n.trans HUL.out.symm
   have hnb1 : ((u.length : Int) == (rb.n : Int)) = true := by rw [hnb]; simp
   have hnb2 : ((u.length : Int) != (rb.n : Int)) = false := by rw [hnb]; simp
   have ul32 : u.length ≤ 32 := by have := HUL.out; have := HUB.out; omega
   have HNB := Lib.hid hnb; clear hnb
   go_wp2_with fail
   clear z0 z1 z2 z3
   go_loopw [14] (fun i wr => ∃ k : Nat, i = .int .i64 k ∧ k ≤ u.length ∧ Below w6.heap.size w6 wr) (fun i _ => u.length - (RowKit.intOf i).toNat)
   case atStart => exact ⟨0, rfl, by omega, Below.refl _ _⟩
   case round =>
    obtain ⟨k, rfl, hk, hb⟩ := hrel
    have TSr := Lib.hid (TS6.out.step hb (Nat.le_refl _)); have PAr := Lib.hid (PA4.out.to hb); have PBr := Lib.hid (PB4.out.to hb); have LRr := Lib.hid (LR2.out.to hb); have LUr := Lib.hid (LU.out.to hb); have HBr := Lib.hid hb
    clear hb
    by_cases hlk : k < u.length
    · have hki : (k : Int) < u.length := by omega
      have hki2 : (k : Int) < rb.n := by rw [HNB.out]; exact hki
      have hlk2 : k < rb.n := by rw [HNB.out]; exact hlk
      obtain ⟨⟨i1', s1, ⟨k1, u1⟩, n1, m1, t1⟩, hd⟩ : ∃ d, sb.1[k]? = some d := ⟨_, List.getElem?_eq_getElem (by rw [← HUL.out]; exact hlk)⟩; have huk := HCP.out k _ hd; simp only [rfind_at] at huk; obtain ⟨g', o', e', hgd⟩ := PBr.out.la.colAt hd
      have hpl := fun (W : World) (hb : Below wr.heap.size wr W) => place_any W ra.a ra.b ra.n ra.c ra.m ra.d sa.1 i1' (by have := PAr.out.nn; unfold maxLen; omega) PAr.out.n ((PAr.out.la.below hb).more hb.size)
      rw [rfind_at] at hpl
      have GD := Lib.hid hgd; have EB := Lib.hid e'
      clear hgd e' hd
      cases he : evAt sa.1 i1' with
      | none =>
       rw [he] at hpl huk; simp only [Bool.false_eq_true, false_and, if_false] at huk; obtain ⟨gu, ou, eu, hgu, u0, u1', u2⟩ := LUr.out.lay.cl huk
       have GU := Lib.hid (ThreeAt.mk hgu u0 u1' u2); have HPL := Lib.hid hpl
       cases eu
       clear hpl he huk hgu u0 u1' u2
       go_upto_region 11 with fail
       refine wp_region_sel [isV (.agg #[.slice ra.a ra.n ra.c, .slice ra.b ra.m ra.d]), isV (.pointer (some ⟨gB, 0, none⟩)), isV (.slice rb.a rb.n rb.c), isV (.int .i64 (k : Nat)), isV (.pointer (some ⟨g', o' + k * 7, none⟩)), isV (.pointer (some ⟨g', o' + k * 7, none⟩)), isV (.int .i64 i1'), isV (.tuple #[.int .i64 0, .bool false]), isV (.tuple #[.int .i64 0, .bool false]), isV (.int .i64 0), isV (.bool false), isV (.int .i64 0), isV (.bool false)] (by kernel_rfl) (by kernel_rfl) ?_ ?_
       ·
         refine rf (fun ev wo E => ?_) ?_
         · have e9 : ev (.tmp 9) = .pointer (some ⟨gA, 0, none⟩) := (E.base 9 rfl).trans rfl; have hx0 := cell_of_block (i := 0) (block_kept TSr.out.ba E.bel) rfl; have hx1 := cell_of_block (i := 1) (block_kept TSr.out.ba E.bel) rfl; go_simp; exact rv
         refine rf (fun ev wo E => ?_) ?_
         · have e10 : ev (.tmp 10) = .pointer (some ⟨gB, 0, none⟩) := (E.base 10 rfl).trans rfl; go_simp; exact rv
         refine rf (fun ev wo E => ?_) ?_
         · have e66 : ev (.tmp 66) = .pointer (some ⟨gB, 0, none⟩) := E.e 0; have hx0 := cell_of_block (i := 0) (block_kept TSr.out.bb E.bel) rfl; go_simp; exact rv
         refine Rel.rb ?_; refine rf (fun ev wo E => ?_) ?_
         · have e67 : ev (.tmp 67) = .slice rb.a rb.n rb.c := E.e 0; have e68 : ev (.tmp 68) = .int .i64 (k : Nat) := E.e 1; have h0 := EB.out; have h1 := hki2; have h2 := hlk2; go_simp; exact rv
         refine rf (fun ev wo E => ?_) ?_
         · have e69 : ev (.tmp 69) = .pointer (some ⟨g', o' + k * 7, none⟩) := E.e 0; go_simp; exact rv
         refine rf (fun ev wo E => ?_) ?_
         · have e70 : ev (.tmp 70) = .pointer (some ⟨g', o' + k * 7, none⟩) := E.e 0; have hx0 := (E.bel.cell GD.out.lt).trans GD.out.c0; go_simp; exact rv
         refine rf (fun ev wo E => ?_) ?_
         · have e65 : ev (.tmp 65) = .agg #[.slice ra.a ra.n ra.c, .slice ra.b ra.m ra.d] := E.e 0; have e71 : ev (.tmp 71) = .int .i64 i1' := E.e 1; have ef := E.func; go_simp; refine relUpon_enter ((HPL.out wo E.bel).mono ?_); rintro e w' ⟨rfl, hb⟩; exact ⟨_, rfl, hb, rfl⟩
         refine rc 0 ?_; refine rf (fun ev wo E => ?_) ?_
         · have e64 : ev (.tmp 64) = .tuple #[.int .i64 0, .bool false] := E.e 0; go_simp; exact rv
         refine rf (fun ev wo E => ?_) ?_
         · have e64 : ev (.tmp 64) = .tuple #[.int .i64 0, .bool false] := E.e 0; go_simp; exact rv
         refine ⟨prem_copy 0 (WantOk.free rfl) (.inr rfl) rfl rfl rfl rfl (isV_stable _), ?_⟩; refine ⟨prem_copy 0 (WantOk.free rfl) (.inr rfl) rfl rfl rfl rfl (isV_stable _), ?_⟩; trivial
       · intro wz bz
         (iterate 13 rintro _ rfl)
         have ZL := Lib.hid bz.size; have TSz := Lib.hid (TSr.out.step bz (Nat.le_refl _)); have GZ := Lib.hid (GD.out.below bz); have GV := Lib.hid (GU.out.below bz); have HBz := Lib.hid (HBr.out.trans (bz.mono HBr.out.size))
         clear bz; simp only [relEnd]; go_simp; have j0 := GZ.out.c4; have j1 := GZ.out.c5; have j2 := GZ.out.c6; have z2 := cell_of_block (i := 0) TSz.out.bb rfl; have ee := EB.out
         go_upto_region 15 with fail
         obtain ⟨Y, hY⟩ : ∃ Y, Y = wz.alloc (.cells #[.bool n1, .int .i64 m1, .string t1] 57) := ⟨_, rfl⟩
         have bY : Below wz.heap.size wz Y := by rw [hY]; exact (Below.refl _ _).alloc (Nat.le_refl _) _
         have qY : Y.heap[wz.heap.size]? = some (.cells #[.bool n1, .int .i64 m1, .string t1] 57 (0, 0)) := by rw [hY]; exact block_new _ _
         rw [← hY]; have zl1 : wr.heap.size ≤ wz.heap.size := ZL.out; have zl2 : w6.heap.size ≤ wz.heap.size := HBz.out.size; have ZY : wr.heap.size ≤ Y.heap.size := Nat.le_trans zl1 bY.size
         generalize wz.heap.size = wb at bY qY zl1 zl2 ⊢
         have QY := Lib.hid qY; have GW := Lib.hid (GV.out.below (bY.mono zl1)); have HBY := Lib.hid (HBz.out.trans (bY.mono zl2))
         clear hY bY qY j0 j1 j2 z2 ee; refine wp_region_sel [isV (.slice (some ⟨gu, ou, none⟩) u.length cu), isV (.int .i64 (k : Nat)), isV (.pointer (some ⟨gu, ou + k * 3, none⟩)), isV (.agg #[.bool n1, .int .i64 m1, .string t1]), isV (.agg #[.bool n1, .int .i64 m1, .string t1]), isV (.bool false)] (by kernel_rfl) (by kernel_rfl) ?_ ?_
         ·
           refine Rel.rb ?_; refine Rel.rb ?_; refine rf (fun ev wo E => ?_) ?_
           · have e96 : ev (.tmp 96) = .slice (some ⟨gu, ou, none⟩) u.length cu := E.e 0; have e97 : ev (.tmp 97) = .int .i64 (k : Nat) := E.e 1; have h1 := hki; have h2 := hlk; go_simp; exact rv
           refine rf (fun ev wo E => ?_) ?_
           · have e98 : ev (.tmp 98) = .pointer (some ⟨gu, ou + k * 3, none⟩) := E.e 0; have hx0 := (E.bel.cell (Nat.lt_of_lt_of_le GW.out.lt ZY)).trans GW.out.c0; have hx1 := (E.bel.cell (Nat.lt_of_lt_of_le GW.out.lt ZY)).trans GW.out.c1; have hx2 := (E.bel.cell (Nat.lt_of_lt_of_le GW.out.lt ZY)).trans GW.out.c2; go_simp; exact rv
           refine rf (fun ev wo E => ?_) ?_
           · have e17 : ev (.tmp 17) = .pointer (some ⟨wb, 0, none⟩) := (E.base 17 rfl).trans rfl; have hx0 := cell_of_block (i := 0) (block_kept QY.out E.bel) rfl; have hx1 := cell_of_block (i := 1) (block_kept QY.out E.bel) rfl; have hx2 := cell_of_block (i := 2) (block_kept QY.out E.bel) rfl; go_simp; exact rv
           refine rf (fun ev wo E => ?_) ?_
           · have e99 : ev (.tmp 99) = .agg #[.bool n1, .int .i64 m1, .string t1] := E.e 0; have e100 : ev (.tmp 100) = .agg #[.bool n1, .int .i64 m1, .string t1] := E.e 1; go_simp; exact rv
           trivial
         · intro wz bz
           (iterate 6 rintro _ rfl); have HBq := Lib.hid (HBY.out.trans (bz.mono HBY.out.size)); clear bz; simp only [relEnd]; go_simp
           go_wp2_with fail
           go_roundw
           case rel => exact ⟨k + 1, by go_num, by omega, HBq.out⟩
           case measure => simp [RowKit.intOf]; omega
      | some p =>
       rw [he] at hpl huk; obtain ⟨cp, hcp2, -⟩ := evAt_some he
       have hpr : p < r.length := by rw [← RLEN.out]; exact (List.getElem?_eq_some_iff.1 hcp2).1
       obtain ⟨⟨x0, x1, x2⟩, hx⟩ : ∃ x, r[p]? = some x := ⟨_, List.getElem?_eq_getElem hpr⟩
       have hgx : r.getD p zCl = (x0, x1, x2) := by rw [List.getD_eq_getElem?_getD, hx]; rfl
       simp only [hgx, hpr, and_self, if_true] at huk; obtain ⟨gu, ou, eu, hgu, u0, u1', u2⟩ := LUr.out.lay.cl huk; obtain ⟨gr, og, er, hgr, r0', r1', r2'⟩ := LRr.out.lay.cl hx
       have GU := Lib.hid (ThreeAt.mk hgu u0 u1' u2); have GR := Lib.hid (ThreeAt.mk hgr r0' r1' r2'); have HPL := Lib.hid hpl
       cases eu
       cases er
       have hp0 : (0 : Int) ≤ p := by omega
       have hpq : (p : Int) < r.length := by omega
       clear hpl he huk hgu u0 u1' u2 hgr r0' r1' r2' hcp2 hx hgx
       go_upto_region 11 with fail
       refine wp_region_sel [isV (.agg #[.slice ra.a ra.n ra.c, .slice ra.b ra.m ra.d]), isV (.pointer (some ⟨gB, 0, none⟩)), isV (.slice rb.a rb.n rb.c), isV (.int .i64 (k : Nat)), isV (.pointer (some ⟨g', o' + k * 7, none⟩)), isV (.pointer (some ⟨g', o' + k * 7, none⟩)), isV (.int .i64 i1'), isV (.tuple #[.int .i64 (p : Nat), .bool true]), isV (.tuple #[.int .i64 (p : Nat), .bool true]), isV (.int .i64 (p : Nat)), isV (.bool true), isV (.int .i64 (p : Nat)), isV (.bool true)] (by kernel_rfl) (by kernel_rfl) ?_ ?_
       ·
         refine rf (fun ev wo E => ?_) ?_
         · have e9 : ev (.tmp 9) = .pointer (some ⟨gA, 0, none⟩) := (E.base 9 rfl).trans rfl; have hx0 := cell_of_block (i := 0) (block_kept TSr.out.ba E.bel) rfl; have hx1 := cell_of_block (i := 1) (block_kept TSr.out.ba E.bel) rfl; go_simp; exact rv
         refine rf (fun ev wo E => ?_) ?_
         · have e10 : ev (.tmp 10) = .pointer (some ⟨gB, 0, none⟩) := (E.base 10 rfl).trans rfl; go_simp; exact rv
         refine rf (fun ev wo E => ?_) ?_
         · have e66 : ev (.tmp 66) = .pointer (some ⟨gB, 0, none⟩) := E.e 0; have hx0 := cell_of_block (i := 0) (block_kept TSr.out.bb E.bel) rfl; go_simp; exact rv
         refine Rel.rb ?_; refine rf (fun ev wo E => ?_) ?_
         · have e67 : ev (.tmp 67) = .slice rb.a rb.n rb.c := E.e 0; have e68 : ev (.tmp 68) = .int .i64 (k : Nat) := E.e 1; have h0 := EB.out; have h1 := hki2; have h2 := hlk2; go_simp; exact rv
         refine rf (fun ev wo E => ?_) ?_
         · have e69 : ev (.tmp 69) = .pointer (some ⟨g', o' + k * 7, none⟩) := E.e 0; go_simp; exact rv
         refine rf (fun ev wo E => ?_) ?_
         · have e70 : ev (.tmp 70) = .pointer (some ⟨g', o' + k * 7, none⟩) := E.e 0; have hx0 := (E.bel.cell GD.out.lt).trans GD.out.c0; go_simp; exact rv
         refine rf (fun ev wo E => ?_) ?_
         · have e65 : ev (.tmp 65) = .agg #[.slice ra.a ra.n ra.c, .slice ra.b ra.m ra.d] := E.e 0; have e71 : ev (.tmp 71) = .int .i64 i1' := E.e 1; have ef := E.func; go_simp; refine relUpon_enter ((HPL.out wo E.bel).mono ?_); rintro e w' ⟨rfl, hb⟩; exact ⟨_, rfl, hb, rfl⟩
         refine rc 0 ?_; refine rf (fun ev wo E => ?_) ?_
         · have e64 : ev (.tmp 64) = .tuple #[.int .i64 (p : Nat), .bool true] := E.e 0; go_simp; exact rv
         refine rf (fun ev wo E => ?_) ?_
         · have e64 : ev (.tmp 64) = .tuple #[.int .i64 (p : Nat), .bool true] := E.e 0; go_simp; exact rv
         refine ⟨prem_copy 0 (WantOk.free rfl) (.inr rfl) rfl rfl rfl rfl (isV_stable _), ?_⟩; refine ⟨prem_copy 0 (WantOk.free rfl) (.inr rfl) rfl rfl rfl rfl (isV_stable _), ?_⟩; trivial
       · intro wz bz
         (iterate 13 rintro _ rfl)
         have ZL := Lib.hid bz.size; have TSz := Lib.hid (TSr.out.step bz (Nat.le_refl _)); have GZ := Lib.hid (GD.out.below bz); have GV := Lib.hid (GU.out.below bz); have GRz := Lib.hid (GR.out.below bz); have HBz := Lib.hid (HBr.out.trans (bz.mono HBr.out.size))
         clear bz; simp only [relEnd]; go_simp; have j0 := GZ.out.c4; have j1 := GZ.out.c5; have j2 := GZ.out.c6; have hGA := GRz.out.below (((Below.refl wz.heap.size wz).alloc (Nat.le_refl _) (.cells #[.bool n1, .int .i64 m1, .string t1] 57)).mono ZL.out); have l0 := hGA.c0; have l1 := hGA.c1; have l2 := hGA.c2; clear hGA; have z2 := cell_of_block (i := 0) TSz.out.bb rfl; have ee := EB.out
         go_upto_region 15 with fail
         obtain ⟨Y, hY⟩ : ∃ Y, Y = wz.alloc (.cells #[.bool x0, .int .i64 x1, .string x2] 57) := ⟨_, rfl⟩
         have bY : Below wz.heap.size wz Y := by rw [hY]; exact (Below.refl _ _).alloc (Nat.le_refl _) _
         have qY : Y.heap[wz.heap.size]? = some (.cells #[.bool x0, .int .i64 x1, .string x2] 57 (0, 0)) := by rw [hY]; exact block_new _ _
         rw [← hY]; have zl1 : wr.heap.size ≤ wz.heap.size := ZL.out; have zl2 : w6.heap.size ≤ wz.heap.size := HBz.out.size; have ZY : wr.heap.size ≤ Y.heap.size := Nat.le_trans zl1 bY.size
         generalize wz.heap.size = wb at bY qY zl1 zl2 ⊢
         have QY := Lib.hid qY; have GW := Lib.hid (GV.out.below (bY.mono zl1)); have HBY := Lib.hid (HBz.out.trans (bY.mono zl2))
         clear hY bY qY j0 j1 j2 l0 l1 l2 z2 ee; refine wp_region_sel [isV (.slice (some ⟨gu, ou, none⟩) u.length cu), isV (.int .i64 (k : Nat)), isV (.pointer (some ⟨gu, ou + k * 3, none⟩)), isV (.agg #[.bool x0, .int .i64 x1, .string x2]), isV (.agg #[.bool x0, .int .i64 x1, .string x2]), isV (.bool false)] (by kernel_rfl) (by kernel_rfl) ?_ ?_
         ·
           refine Rel.rb ?_; refine Rel.rb ?_; refine rf (fun ev wo E => ?_) ?_
           · have e96 : ev (.tmp 96) = .slice (some ⟨gu, ou, none⟩) u.length cu := E.e 0; have e97 : ev (.tmp 97) = .int .i64 (k : Nat) := E.e 1; have h1 := hki; have h2 := hlk; go_simp; exact rv
           refine rf (fun ev wo E => ?_) ?_
           · have e98 : ev (.tmp 98) = .pointer (some ⟨gu, ou + k * 3, none⟩) := E.e 0; have hx0 := (E.bel.cell (Nat.lt_of_lt_of_le GW.out.lt ZY)).trans GW.out.c0; have hx1 := (E.bel.cell (Nat.lt_of_lt_of_le GW.out.lt ZY)).trans GW.out.c1; have hx2 := (E.bel.cell (Nat.lt_of_lt_of_le GW.out.lt ZY)).trans GW.out.c2; go_simp; exact rv
           refine rf (fun ev wo E => ?_) ?_
           · have e17 : ev (.tmp 17) = .pointer (some ⟨wb, 0, none⟩) := (E.base 17 rfl).trans rfl; have hx0 := cell_of_block (i := 0) (block_kept QY.out E.bel) rfl; have hx1 := cell_of_block (i := 1) (block_kept QY.out E.bel) rfl; have hx2 := cell_of_block (i := 2) (block_kept QY.out E.bel) rfl; go_simp; exact rv
           refine rf (fun ev wo E => ?_) ?_
           · have e99 : ev (.tmp 99) = .agg #[.bool x0, .int .i64 x1, .string x2] := E.e 0; have e100 : ev (.tmp 100) = .agg #[.bool x0, .int .i64 x1, .string x2] := E.e 1; go_simp; exact rv
           trivial
         · intro wz bz
           (iterate 6 rintro _ rfl); have HBq := Lib.hid (HBY.out.trans (bz.mono HBY.out.size)); clear bz; simp only [relEnd]; go_simp
           go_wp2_with fail
           go_roundw
           case rel => exact ⟨k + 1, by go_num, by omega, HBq.out⟩
           case measure => simp [RowKit.intOf]; omega
    · have hki : ¬ (k : Int) < u.length := by omega
      go_wp2_with fail
      refine (works12_any wr (HE.out.below TSr.out.bel)).mono ?_; rintro en wC ⟨rfl, bC⟩; have TSC := Lib.hid (TSr.out.step bC (Nat.le_refl _)); clear bC
      go_wp2_with fail
      go_ret
      exact ⟨rfl, TSC.out.bel⟩
end Go.Proofs.YtikpmmipopmjaaaGreatDoor
