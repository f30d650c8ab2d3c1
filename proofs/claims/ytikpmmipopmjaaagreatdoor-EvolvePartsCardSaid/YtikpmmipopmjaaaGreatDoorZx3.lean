/- Evolve's laws: EvolveParts, walked. -/
import Derived.Test.YtikpmmipopmjaaaGreatDoorZx2
set_option linter.unusedVariables false
set_option linter.unusedSimpArgs false
namespace Go.Proofs.YtikpmmipopmjaaaGreatDoor
open Go.RowKit Go.Ms Go.Lib Go.Shelf Go.Rel
set_option maxRecDepth 100000 in
set_option maxHeartbeats 4000000 in
theorem evolveParts_walk (A : Option Addr) (n c : Nat) (C : List Int) (B : Option Addr) (m d : Nat) (V : List (Int × Int × Int)) (x y z : Int) (D : Option Addr) (q qc : Nat) (N : List Int) (w : World) (hs : SdArg w A n C B m V) (hx : I64 x) (hy : I64 y) (hz : I64 z) (hN : NmArg w D q N) (hE : Env w) :
    Calls Tryz.prog 6 #[.agg #[.slice A n c, .slice B m d], .agg #[.int .i64 x, .int .i64 y, .int .i64 z], .slice D q qc] w fun e w' => e = .returned (.bool true) ∧ Below w.heap.size w w' := by
 have hv := seedV C V hN.c
 have hcn := fun (W : World) (hb : Below w.heap.size w W) => chain12_any W A B n c m d C V hs.en hs.em hs.nn hs.mm (hs.to hb).la hs.c (hs.to hb).lb hs.v
 generalize evSeed C V = L at hv hcn
 obtain ⟨X, hX⟩ : ∃ X, X = (w.alloc (.cells #[.slice A n c, .slice B m d] 45)).alloc (.cells #[.int .i64 x, .int .i64 y, .int .i64 z] 50) := ⟨_, rfl⟩
 have tX : Bx2 (.cells #[.slice A n c, .slice B m d] 45 (0, 0)) (.cells #[.int .i64 x, .int .i64 y, .int .i64 z] 50 (0, 0)) w X := by rw [hX]; exact Bx2.start _ _ _ _ w
 have T0 := Lib.hid tX; have HV := Lib.hid hv; have HCN := Lib.hid hcn; have HE := Lib.hid hE; have HN := Lib.hid hN; have HX := Lib.hid hx; have HY := Lib.hid hy; have HZ := Lib.hid hz
 have y0 := cell_of_block (i := 0) tX.b0 rfl; have y1 := cell_of_block (i := 1) tX.b0 rfl; clear tX hv hcn hE hN hx hy hz hs
 go_enter Tryz.func6, Tryz.ntmps6
 go_upto_region 1 with fail
 rw [← hX]; clear hX
 go_wp2_with fail
 refine (HCN.out _ T0.out.bel).mono ?_; rintro en w2 ⟨A', c', rs, rfl, hL, b2⟩
 have T2 := Lib.hid (T0.out.step b2); have HL := Lib.hid hL
 have hn8 : rs.length = L.length := hL.len; clear b2 y0 y1 hL; obtain ⟨l, hl⟩ : ∃ l, rs.length = l := ⟨_, rfl⟩
 have hl1 : 1 ≤ l := by have := HV.out.some_; omega
 have hl8 : l ≤ 8 := by have := HV.out.few; omega
 have HLL := Lib.hid (hn8.symm.trans hl); rw [hl]; clear hn8; have e1 := Int.emod_nonneg x (show (l : Int) ≠ 0 by omega); have e2 := Int.emod_lt_of_pos x (show (0 : Int) < l by omega); have e3 := Int.emod_nonneg y (show (l : Int) ≠ 0 by omega); have e4 := Int.emod_lt_of_pos y (show (0 : Int) < l by omega); have e5 := Int.emod_nonneg z (show (l : Int) ≠ 0 by omega); have e6 := Int.emod_lt_of_pos z (show (0 : Int) < l by omega)
 have hbx := fun W => bringI_any x l HX.out.1 HX.out.2 (by omega) (by omega) W
 have hby := fun W => bringI_any y l HY.out.1 HY.out.2 (by omega) (by omega) W
 have hbz := fun W => bringI_any z l HZ.out.1 HZ.out.2 (by omega) (by omega) W
 generalize x % (l : Int) = rx at e1 e2 hbx
 generalize y % (l : Int) = ry at e3 e4 hby
 generalize z % (l : Int) = rz at e5 e6 hbz
 obtain ⟨p1, rfl⟩ : ∃ k : Nat, rx = k := ⟨rx.toNat, by omega⟩; obtain ⟨p2, rfl⟩ : ∃ k : Nat, ry = k := ⟨ry.toNat, by omega⟩; obtain ⟨p3, rfl⟩ : ∃ k : Nat, rz = k := ⟨rz.toNat, by omega⟩
 have HBX := Lib.hid hbx; have HBY := Lib.hid hby; have HBZ := Lib.hid hbz
 have HWX := Lib.hid (show IntKind.i64.wrap (1 + (p1 : Int)) = ((1 + p1 : Nat) : Int) by rw [IntWalk.i64_in _ (by omega)]; omega); have HWY := Lib.hid (show IntKind.i64.wrap (1 + (p2 : Int)) = ((1 + p2 : Nat) : Int) by rw [IntWalk.i64_in _ (by omega)]; omega); have HWZ := Lib.hid (show IntKind.i64.wrap (1 + (p3 : Int)) = ((1 + p3 : Nat) : Int) by rw [IntWalk.i64_in _ (by omega)]; omega)
 have a1 : 1 ≤ 1 + p1 ∧ 1 + p1 ≤ l := by omega
 have a2 : 1 ≤ 1 + p2 ∧ 1 + p2 ≤ l := by omega
 have a3 : 1 ≤ 1 + p3 ∧ 1 + p3 ≤ l := by omega
 clear e1 e2 e3 e4 e5 e6 hbx hby hbz
 go_wp2_with fail
 refine wp_region_sel [isV (.pointer (some ⟨w.heap.size + 1, 0, none⟩)), isV (.int .i64 x), isV (Value.slice A' l c'), isV (.int .i64 l), isV (.int .i64 p1), isV (.int .i64 (1 + p1 : Nat)), isV (.pointer (some ⟨w.heap.size + 1, 1, none⟩)), isV (.int .i64 y), isV (Value.slice A' l c'), isV (.int .i64 l), isV (.int .i64 p2), isV (.int .i64 (1 + p2 : Nat)), isV (.pointer (some ⟨w.heap.size + 1, 2, none⟩)), isV (.int .i64 z), isV (Value.slice A' l c'), isV (.int .i64 l), isV (.int .i64 p3), isV (.int .i64 (1 + p3 : Nat)), isV (.int .i64 (1 + p1 : Nat)), isV (.int .i64 (1 + p2 : Nat)), isV (.int .i64 (1 + p3 : Nat))] (by kernel_rfl) (by kernel_rfl) ?_ ?_
 ·
   refine rf (fun ev wo E => ?_) ?_
   · have e4 : ev (.tmp 4) = .pointer (some ⟨w.heap.size + 1, 0, none⟩) := (E.base 4 rfl).trans rfl; have ec := E.const; go_simp; exact rv
   refine rf (fun ev wo E => ?_) ?_
   · have e20 : ev (.tmp 20) = .pointer (some ⟨w.heap.size + 1, 0, none⟩) := E.e 0; have hx0 := cell_of_block (i := 0) (block_kept T2.out.b1 E.bel) rfl; go_simp; exact rv
   refine rb ?_; refine rf (fun ev wo E => ?_) ?_
   · have e22 : ev (.tmp 22) = Value.slice A' l c' := E.e 0; go_simp; exact rv
   refine rf (fun ev wo E => ?_) ?_
   · have e21 : ev (.tmp 21) = .int .i64 x := E.e 0; have e23 : ev (.tmp 23) = .int .i64 l := E.e 1; have ef := E.func; go_simp; refine relUpon_enter ((HBX.out wo).mono ?_); rintro e w' ⟨rfl, hb⟩; exact ⟨_, rfl, hb, rfl⟩
   refine rf (fun ev wo E => ?_) ?_
   · have e24 : ev (.tmp 24) = .int .i64 p1 := E.e 0; have ec := E.const; have h0 := HWX.out; go_simp; exact rv
   refine rf (fun ev wo E => ?_) ?_
   · have e4 : ev (.tmp 4) = .pointer (some ⟨w.heap.size + 1, 0, none⟩) := (E.base 4 rfl).trans rfl; have ec := E.const; go_simp; exact rv
   refine rf (fun ev wo E => ?_) ?_
   · have e26 : ev (.tmp 26) = .pointer (some ⟨w.heap.size + 1, 1, none⟩) := E.e 0; have hx0 := cell_of_block (i := 1) (block_kept T2.out.b1 E.bel) rfl; go_simp; exact rv
   refine rb ?_; refine rf (fun ev wo E => ?_) ?_
   · have e28 : ev (.tmp 28) = Value.slice A' l c' := E.e 0; go_simp; exact rv
   refine rf (fun ev wo E => ?_) ?_
   · have e27 : ev (.tmp 27) = .int .i64 y := E.e 0; have e29 : ev (.tmp 29) = .int .i64 l := E.e 1; have ef := E.func; go_simp; refine relUpon_enter ((HBY.out wo).mono ?_); rintro e w' ⟨rfl, hb⟩; exact ⟨_, rfl, hb, rfl⟩
   refine rf (fun ev wo E => ?_) ?_
   · have e30 : ev (.tmp 30) = .int .i64 p2 := E.e 0; have ec := E.const; have h0 := HWY.out; go_simp; exact rv
   refine rf (fun ev wo E => ?_) ?_
   · have e4 : ev (.tmp 4) = .pointer (some ⟨w.heap.size + 1, 0, none⟩) := (E.base 4 rfl).trans rfl; have ec := E.const; go_simp; exact rv
   refine rf (fun ev wo E => ?_) ?_
   · have e32 : ev (.tmp 32) = .pointer (some ⟨w.heap.size + 1, 2, none⟩) := E.e 0; have hx0 := cell_of_block (i := 2) (block_kept T2.out.b1 E.bel) rfl; go_simp; exact rv
   refine rb ?_; refine rf (fun ev wo E => ?_) ?_
   · have e34 : ev (.tmp 34) = Value.slice A' l c' := E.e 0; go_simp; exact rv
   refine rf (fun ev wo E => ?_) ?_
   · have e33 : ev (.tmp 33) = .int .i64 z := E.e 0; have e35 : ev (.tmp 35) = .int .i64 l := E.e 1; have ef := E.func; go_simp; refine relUpon_enter ((HBZ.out wo).mono ?_); rintro e w' ⟨rfl, hb⟩; exact ⟨_, rfl, hb, rfl⟩
   refine rf (fun ev wo E => ?_) ?_
   · have e36 : ev (.tmp 36) = .int .i64 p3 := E.e 0; have ec := E.const; have h0 := HWZ.out; go_simp; exact rv
   refine ⟨prem_copy 0 (WantOk.free rfl) (.inr rfl) rfl rfl rfl rfl (isV_stable _), ?_⟩; refine ⟨prem_copy 0 (WantOk.free rfl) (.inr rfl) rfl rfl rfl rfl (isV_stable _), ?_⟩; refine ⟨prem_copy 0 (WantOk.free rfl) (.inr rfl) rfl rfl rfl rfl (isV_stable _), ?_⟩; trivial
 · intro wz bz
   (iterate 21 rintro _ rfl)
   generalize 1 + p1 = P at a1
   generalize 1 + p2 = Q at a2
   generalize 1 + p3 = S at a3
   have T3 := Lib.hid (T2.out.step bz); have HL3 := Lib.hid (HL.out.to bz)
   clear bz HBX HBY HBZ HWX HWY HWZ; simp only [relEnd]; go_simp
   go_upto_region 4 with fail
   obtain ⟨a, ha⟩ : ∃ a : Nat, (a : Int) = (if (S : Int) < (if Q < P then (Q : Int) else (P : Int)) then (S : Int) else if Q < P then (Q : Int) else (P : Int)) := ⟨((if (S : Int) < (if Q < P then (Q : Int) else (P : Int)) then (S : Int) else if Q < P then (Q : Int) else (P : Int))).toNat, by split <;> omega⟩; obtain ⟨b, hb⟩ : ∃ b : Nat, (b : Int) = max (min (P : Int) Q) (min (max (P : Int) Q) S) := ⟨(max (min (P : Int) Q) (min (max (P : Int) Q) S)).toNat, by omega⟩
   obtain ⟨e, he⟩ : ∃ e : Nat, (e : Int) = (if (if P < Q then (Q : Int) else (P : Int)) < (S : Int) then (S : Int) else if P < Q then (Q : Int) else (P : Int)) := ⟨((if (if P < Q then (Q : Int) else (P : Int)) < (S : Int) then (S : Int) else if P < Q then (Q : Int) else (P : Int))).toNat, by split <;> omega⟩
   have ord : 1 ≤ a ∧ a ≤ b ∧ b ≤ e ∧ e ≤ l := by
    have ha' := ha; have he' := he
    by_cases c1 : Q < P
    · have c2 : ¬ P < Q := by omega
      simp only [c1, c2, if_true, if_false] at ha' he'
      by_cases c3 : (S : Int) < Q <;> by_cases c4 : (P : Int) < S <;> simp only [c3, c4, if_true, if_false] at ha' he' <;> omega
    · by_cases c2 : P < Q
      · simp only [c1, c2, if_true, if_false] at ha' he'
        by_cases c3 : (S : Int) < P <;> by_cases c4 : (Q : Int) < S <;> simp only [c3, c4, if_true, if_false] at ha' he' <;> omega
      · simp only [c1, c2, if_true, if_false] at ha' he'
        by_cases c3 : (S : Int) < P <;> by_cases c4 : (P : Int) < S <;> simp only [c3, c4, if_true, if_false] at ha' he' <;> omega
   obtain ⟨o1, o2, o3, o4⟩ := ord; rw [← ha, ← hb, ← he]; clear ha hb he a1 a2 a3
   have i1 : (0 : Int) ≤ (a : Int) - 1 := by omega
   have i3 : (a : Int) - 1 < l := by omega
   have i5 : (1 : Int) ≤ a := by omega
   have hwa : IntKind.i64.wrap ((a : Int) - 1) = (a : Int) - 1 := IntWalk.i64_in _ (by omega); have hsa := getD_at (l := L) (i := a - 1) (by have := HLL.out; omega); obtain ⟨ra, hra⟩ : ∃ r, rs[a - 1]? = some r := ⟨_, List.getElem?_eq_getElem (by rw [hl]; omega)⟩
   have hpart2 := fun r hr => carry_parts HV.out.chain o1 (Nat.le_trans o2 o3) (Nat.le_refl e) (by have := HLL.out; omega) (r := r) hr
   have hparts := fun r hr => carry_parts HV.out.chain o1 o2 o3 (by have := HLL.out; omega) (r := r) hr
   generalize hSA : L.getD (a - 1) zSc = sa at hsa hparts hpart2
   have msa := List.mem_of_getElem? hsa; obtain ⟨gl, ol, e1, ta⟩ := HL3.out.at_ hra; subst e1; have pa := HL3.out.each _ _ _ hra hsa; have k0 := ta.c0; have k1 := ta.c1; obtain ⟨u, v, hc1, hc2, hc3, hc4⟩ := hparts _ (HV.out.rok _ msa); obtain ⟨r, hr⟩ : ∃ r, evRow sa.1 N = r := ⟨_, rfl⟩; have hN := HN.out.to T3.out.bel; have hrow := rowOf_any wz ra.a D ra.n ra.c q qc sa.1 N pa.n hN.en pa.nn hN.nn pa.la hN.la hN.c; have rl := HV.out.rlen _ msa; have rs_ := HV.out.rsz _ msa; rw [hr] at hrow rl rs_ hc1 hc4
   have us : ∀ c ∈ u, c.2.2.size ≤ 100000 := by
    have := carry_sz (l := L) (f := a) (t := b) HV.out.sz rs_; rw [hc1] at this; exact this
   have ul : u.length ≤ 32 := by
    have h1 := (rCheck_parts hc2).1; rw [coTys_len] at h1; have hsb := getD_at (l := L) (i := b - 1) (by have := HLL.out; omega); have := HV.out.cols _ (List.mem_of_getElem? hsb); omega
   have vl : v.length ≤ 100000 := by
    obtain ⟨u', v', k1, k2, -, -⟩ := hpart2 _ (HV.out.rok _ msa); rw [hr, hc4] at k1; obtain rfl : v = u' := congrArg Prod.fst k1; have h1 := (rCheck_parts k2).1; rw [coTys_len] at h1; have hsb := getD_at (l := L) (i := e - 1) (by have := HLL.out; omega); have := HV.out.cols _ (List.mem_of_getElem? hsb); omega
   have HROW := Lib.hid hrow; have RL := Lib.hid rl; have RS := Lib.hid rs_; have C1 := Lib.hid hc1; have C3 := Lib.hid hc3; have C4 := Lib.hid hc4; have US := Lib.hid us
   clear hrow rl rs_ hc1 hc2 hc3 hc4 hparts hpart2 us hN hr hSA hsa hra pa ta
   go_wp2_with fail
   refine HROW.out.mono ?_; rintro en w5 ⟨vv, rfl, ho5, b5⟩; obtain ⟨Cr, cr, rfl, lr⟩ := RwLay.own ho5 (by have := RL.out; omega) RS.out
   have B5 := Lib.hid (T3.out.bel.trans (b5.mono T3.out.bel.size)); have HL6 := Lib.hid (HL3.out.to b5); have LR := Lib.hid lr
   clear b5 ho5 lr k0 k1
   go_wp2_with fail
   have hcar := carry_any w5 (some ⟨gl, ol, none⟩) l c' rs L a b Cr r.length cr r (by omega) hl.symm HL6.out HV.out.sz (by omega) (by omega) LR.out (HE.out.below B5.out); rw [C1.out] at hcar; refine hcar.mono ?_; clear hcar; rintro en w6 ⟨vv, rfl, ho6, b6⟩; obtain ⟨Cu, cu, rfl, lu⟩ := RwLay.own (r := u) ho6 (by omega) US.out
   have B6 := Lib.hid (B5.out.trans (b6.mono B5.out.size)); have HL7 := Lib.hid (HL6.out.to b6); have LR2 := Lib.hid (LR.out.to b6); have LU := Lib.hid lu
   clear b6 ho6 lu
   go_wp2_with fail
   have hcar := carry_any w6 (some ⟨gl, ol, none⟩) l c' rs L b e Cu u.length cu u (by omega) hl.symm HL7.out HV.out.sz (by omega) (by omega) LU.out (HE.out.below B6.out); rw [C3.out] at hcar; refine hcar.mono ?_; clear hcar; rintro en w7 ⟨vv, rfl, ho7, b7⟩; obtain ⟨P1, q1, rfl, -, -⟩ := yown_slice ho7
   have B7 := Lib.hid (B6.out.trans (b7.mono B6.out.size)); have HL8 := Lib.hid (HL7.out.to b7); have LR3 := Lib.hid (LR2.out.to b7); have O7 := Lib.hid ho7
   clear b7 ho7
   go_wp2_with fail
   have hcar := carry_any w7 (some ⟨gl, ol, none⟩) l c' rs L a e Cr r.length cr r (by omega) hl.symm HL8.out HV.out.sz (by omega) (by omega) LR3.out (HE.out.below B7.out); rw [C4.out] at hcar; refine hcar.mono ?_; clear hcar; rintro en w8 ⟨vv, rfl, ho8, b8⟩; obtain ⟨P2, q2, rfl, -, -⟩ := yown_slice ho8
   have B8 := Lib.hid (B7.out.trans (b8.mono B7.out.size)); have O72 := Lib.hid (own_below O7.out b8); have O8 := Lib.hid ho8
   clear b8 ho8
   go_wp2_with fail
   have heq := reqrow_any w8 P1 P2 v.length q1 v.length q2 v v (by unfold maxLen; omega) (by unfold maxLen; omega) rfl rfl (Lay.of_own O72.out (Nat.le_refl _)) (Lay.of_own O8.out (Nat.le_refl _)); rw [decide_eq_true rfl] at heq; refine heq.mono ?_; clear heq; rintro en w9 ⟨rfl, b9⟩; have B9 := Lib.hid (B8.out.trans (b9.mono B8.out.size)); clear b9
   go_wp2_with fail
   refine (works12_any w9 (HE.out.below B9.out)).mono ?_; rintro en wA ⟨rfl, bA⟩; have BA := Lib.hid (B9.out.trans (bA.mono B9.out.size)); clear bA
   go_wp2_with fail
   go_ret
   exact ⟨rfl, BA.out⟩
end Go.Proofs.YtikpmmipopmjaaaGreatDoor
