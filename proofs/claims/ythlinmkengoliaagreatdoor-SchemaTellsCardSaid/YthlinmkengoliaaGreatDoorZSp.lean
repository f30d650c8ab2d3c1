/- Schemas: SchemaTells, walked. -/
import Derived.Test.YthlinmkengoliaaGreatDoorZSw
import Derived.Test.YthlinmkengoliaaGreatDoorZSh
import Derived.Test.YthlinmkengoliaaGreatDoorZSi
import Derived.Test.YthlinmkengoliaaGreatDoorZRe
import Derived.Deep.DeepCutAuto
import Derived.Deep.RegionWith
set_option linter.unusedVariables false
set_option linter.unusedSimpArgs false
namespace Go.Ms
open Go.RowKit Go.Lib
structure ScO (tC tI : TypeId) (w : World) (B : Nat) (v1 v2 : Value) (cs : List Co) (ks : List Int) : Prop where
  a : OwnCo w B tC v1 cs
  b : OwnI w B tI v2 ks
theorem ScO.below {tC tI : TypeId} {w w' : World} {B : Nat} {v1 v2 : Value} {cs : List Co} {ks : List Int} (h : ScO tC tI w B v1 v2 cs ks) (hb : Below w.heap.size w w') : ScO tC tI w' B v1 v2 cs ks := ⟨own_below h.a hb, own_below h.b hb⟩
theorem ScO.set {tC tI : TypeId} {w : World} {B : Nat} {v1 v2 : Value} {cs : List Co} {ks : List Int} (h : ScO tC tI w B v1 v2 cs ks) {b : Nat} (hb : b < B) (i : Nat) (u : Value) : ScO tC tI (w.setCell ⟨b, i, none⟩ u) B v1 v2 cs ks := ⟨own_set' h.a hb u, own_set' h.b hb u⟩
theorem ScO.more {tC tI : TypeId} {w : World} {B B' : Nat} {v1 v2 : Value} {cs : List Co} {ks : List Int} (h : ScO tC tI w B v1 v2 cs ks) (hb : B' ≤ B) : ScO tC tI w B' v1 v2 cs ks := ⟨own_more h.a hb, own_more h.b hb⟩
theorem ScO.lay {tC tI : TypeId} {w : World} {B n c m d : Nat} {A K : Option Addr} {cs : List Co} {ks : List Int} (h : ScO tC tI w B (.slice A n c) (.slice K m d) cs ks) : ScL w A K cs ks := ⟨h.a.lay.2, h.b.lay.2⟩
def Tl1 (tS tC tI : TypeId) (w : World) (N M N' M' : Nat) (cs : List Co) (ks : List Int) (rs : List Co) (rks : List Int) (s6 : Value) (wx : World) : Prop :=
  s6 = .bool false ∧ ∃ A3 c3 K3 d3 A4 c4 K4 d4, wx.heap[w.heap.size]? = some (.cells #[.slice A3 N c3, .slice K3 M d3] tS (0, 0)) ∧ wx.heap[w.heap.size + 1]? = some (.cells #[.slice A4 N' c4, .slice K4 M' d4] tS (0, 0)) ∧ ScO tC tI wx (w.heap.size + 2) (.slice A3 N c3) (.slice K3 M d3) cs ks ∧ ScO tC tI wx (w.heap.size + 2) (.slice A4 N' c4) (.slice K4 M' d4) rs rks ∧ Below w.heap.size w wx
end Go.Ms
namespace Go.Proofs.YthlinmkengoliaaGreatDoor
open Go.RowKit Go.Ms Go.Lib Go.Rel
set_option maxRecDepth 100000 in
set_option maxHeartbeats 8000000 in
theorem schemaTells_walk (A : Option Addr) (n c : Nat) (cs : List Co) (K : Option Addr) (m d : Nat) (ks : List Int) (B : Option Addr) (n2 c2 : Nat) (rs : List Co) (J : Option Addr) (m2 d2 : Nat) (rks : List Int) (S : ByteArray) (w : World)
    (hc : n ≤ c) (kc : c ≤ maxLen) (lc : cs.length = n) (ec : Ext w w.heap.size A (colV cs)) (ic : ∀ c ∈ cs, ColIn c) (hk : m ≤ d) (kk : d ≤ maxLen) (lk : ks.length = m) (ek : Ext w w.heap.size K (intV ks))
    (hc2 : n2 ≤ c2) (kc2 : c2 ≤ maxLen) (lc2 : rs.length = n2) (ec2 : Ext w w.heap.size B (colV rs)) (ic2 : ∀ c ∈ rs, ColIn c) (hk2 : m2 ≤ d2) (kk2 : d2 ≤ maxLen) (lk2 : rks.length = m2) (ek2 : Ext w w.heap.size J (intV rks)) (hS : S.size ≤ maxLen) (hE : Env w) :
    Calls Tryz.prog 4 #[.agg #[.slice A n c, .slice K m d], .agg #[.slice B n2 c2, .slice J m2 d2], .string S] w fun e w' => e = .returned (.bool true) ∧ Below w.heap.size w w' := by
 have hf1 := fun (w1 : World) (h : Below w.heap.size w w1) => few11_any w1 A K n c m d cs ks hc kc lc ((ec.keep h).more h.size) hk kk lk ((ek.keep h).more h.size)
 have hf2 := fun (w1 : World) (h : Below w.heap.size w w1) => few11_any w1 B J n2 c2 m2 d2 rs rks hc2 kc2 lc2 ((ec2.keep h).more h.size) hk2 kk2 lk2 ((ek2.keep h).more h.size)
 obtain ⟨N, hN⟩ : ∃ N, min n 40 = N := ⟨_, rfl⟩; obtain ⟨M, hM⟩ : ∃ M, min m 12 = M := ⟨_, rfl⟩; obtain ⟨N', hN'⟩ : ∃ N, min n2 40 = N := ⟨_, rfl⟩; obtain ⟨M', hM'⟩ : ∃ M, min m2 12 = M := ⟨_, rfl⟩; rw [hN, hM] at hf1; rw [hN', hM'] at hf2; have hsm := scut_small ic
 have hl1 : (scut cs).length = N := by rw [scut_len]; omega
 have hl2 : (ks.take 12).length = M := by rw [List.length_take]; omega
 have hl3 : (scut rs).length = N' := by rw [scut_len]; omega
 have hl4 : (rks.take 12).length = M' := by rw [List.length_take]; omega
 have hz : N ≤ 40 ∧ M ≤ 12 ∧ N' ≤ 40 ∧ M' ≤ 12 := by omega
 change ∀ (w1 : World), Below w.heap.size w w1 → Calls _ _ _ w1 fun e w' => ∃ A' c' B' d', e = _ ∧ OwnCo w' w1.heap.size _ _ (scut cs) ∧ _ at hf1
 change ∀ (w1 : World), Below w.heap.size w w1 → Calls _ _ _ w1 fun e w' => ∃ A' c' B' d', e = _ ∧ OwnCo w' w1.heap.size _ _ (scut rs) ∧ _ at hf2
 generalize scut cs = xs at hf1 hsm hl1
 generalize ks.take 12 = xk at hf1 hl2
 generalize scut rs = ys at hf2 hl3
 generalize rks.take 12 = yk at hf2 hl4
 have hb0 : Below w.heap.size w ((w.alloc (.cells #[.slice A n c, .slice K m d] 28)).alloc (.cells #[.slice B n2 c2, .slice J m2 d2] 28)) := ((Below.refl _ w).alloc (Nat.le_refl _) _).alloc (by rw [World.size_alloc]; omega) _; have q3 : ((w.alloc (.cells #[.slice A n c, .slice K m d] 28)).alloc (.cells #[.slice B n2 c2, .slice J m2 d2] 28)).heap[w.heap.size]? = some (.cells #[.slice A n c, .slice K m d] 28 (0, 0)) := block_next (block_new _ _) _
 have q4 : ((w.alloc (.cells #[.slice A n c, .slice K m d] 28)).alloc (.cells #[.slice B n2 c2, .slice J m2 d2] 28)).heap[w.heap.size + 1]? = some (.cells #[.slice B n2 c2, .slice J m2 d2] 28 (0, 0)) := by have := block_new (w.alloc (.cells #[.slice A n c, .slice K m d] 28)) (.cells #[.slice B n2 c2, .slice J m2 d2] 28); rw [World.size_alloc] at this; exact this
 have HF1 := Lib.hid hf1; have HF2 := Lib.hid hf2; have HSM := Lib.hid hsm; have HL1 := Lib.hid hl1; have HL2 := Lib.hid hl2; have HL3 := Lib.hid hl3; have HL4 := Lib.hid hl4; have HZ := Lib.hid hz; have B0 := Lib.hid hb0; have Q30 := Lib.hid q3; have Q40 := Lib.hid q4; have HE := Lib.hid hE; have HS := Lib.hid hS
 clear hf1 hf2 hsm hl1 hl2 hl3 hl4 hz hb0 q3 q4 hE hS hc kc lc ec ic hk kk lk ek hc2 kc2 lc2 ec2 ic2 hk2 kk2 lk2 ek2 hN hM hN' hM'
 go_enter Tryz.func4, Tryz.ntmps4
 go_upto_region 1 with fail
 go_cut [6] (fun s6 wx => Tl1 28 37 3 w N M N' M' xs xk ys yk s6 wx)
 case first =>
  go_region_with (first
    | ((with_reducible refine (HF1.out _ ?_).mono ?_); (exact ms_drewN B0.out 1); rintro en w5 ⟨A3, c3, K3, d3, rfl, o1, o2, b5⟩; (have BB := Lib.hid ((ms_drewN B0.out 1).trans (b5.mono (ms_drewN B0.out 1).size))); (have S1 := Lib.hid ((ScO.mk o1 o2).more (B' := w.heap.size + 2) (by show w.heap.size + 2 ≤ ((w.alloc (.cells #[.slice A n c, .slice K m d] 28)).alloc (.cells #[.slice B n2 c2, .slice J m2 d2] 28)).heap.size; simp only [World.size_alloc]; omega))); (have Q35 := Lib.hid (block_kept (w := World.drew _) Q30.out b5)); (have Q45 := Lib.hid (block_kept (w := World.drew _) Q40.out b5)); clear o1 o2 b5; (have y0 := cell_of_block (i := 0) Q35.out rfl); (have y1 := cell_of_block (i := 1) Q35.out rfl); (have y2 := cell_of_block (i := 0) Q45.out rfl); (have y3 := cell_of_block (i := 1) Q45.out rfl))
    | ((with_reducible refine (HF2.out _ ?_).mono ?_); (exact BB.out); rintro en w6 ⟨A4, c4, K4, d4, rfl, o1, o2, b6⟩; (have BC := Lib.hid (BB.out.trans (b6.mono BB.out.size))); (have R1 := Lib.hid ((ScO.mk o1 o2).more (B' := w.heap.size + 2) (by have := (Array.getElem?_eq_some_iff.1 Q45.out).1; omega))); (have S2 := Lib.hid (S1.out.below b6)); (have Q36 := Lib.hid (block_kept Q35.out b6)); (have Q46 := Lib.hid (block_kept Q45.out b6)); clear o1 o2 b6; (have z0 := cell_of_block (i := 0) Q36.out rfl); (have z1 := cell_of_block (i := 1) Q36.out rfl); (have z2 := cell_of_block (i := 0) Q46.out rfl); (have z3 := cell_of_block (i := 1) Q46.out rfl); (have g0 := frozen_of_block (i := 0) Q36.out); (have g1 := frozen_of_block (i := 1) Q36.out); (have g2 := frozen_of_block (i := 0) Q46.out); (have g3 := frozen_of_block (i := 1) Q46.out)))
  all_goals
   go_wp2_with fail
   go_meet
   exact ⟨rfl, A3, c3, K3, d3, A4, c4, K4, d4, far_set (far_set (two_set1 (two_set0 Q36.out _) _) (by omega) _) (by omega) _, two_set1 (two_set0 (far_set (far_set Q46.out (by omega) _) (by omega) _) _) _,
     (((S2.out.set (by omega) _ _).set (by omega) _ _).set (by omega) _ _).set (by omega) _ _, (((R1.out.set (by omega) _ _).set (by omega) _ _).set (by omega) _ _).set (by omega) _ _,
     (((BC.out.setCell (p := ⟨w.heap.size, 0, none⟩) (Nat.le_refl _) _).setCell (p := ⟨w.heap.size, 1, none⟩) (Nat.le_refl _) _).setCell (p := ⟨w.heap.size + 1, 0, none⟩) (by simp only; omega) _).setCell (p := ⟨w.heap.size + 1, 1, none⟩) (by simp only; omega) _⟩
 case rest =>
  obtain ⟨rfl, A3, c3, K3, d3, A4, c4, K4, d4, x3, x4, os, orr, bc⟩ := hcut; have hcp := rsccopy_any wc A3 K3 N c3 M d3 xs xk (by have := HZ.out; omega) (by have := HZ.out; omega) HL1.out.symm HL2.out.symm os.lay.a os.lay.b; have y0 := cell_of_block (i := 0) x3 rfl; have y1 := cell_of_block (i := 1) x3 rfl
  have HCP := Lib.hid hcp; have X3 := Lib.hid x3; have X4 := Lib.hid x4; have OS := Lib.hid os.lay; have OR := Lib.hid orr.lay; have BC := Lib.hid bc
  clear hcp x3 x4 os orr bc
  go_wp2_with fail
  refine HCP.out.mono ?_; rintro en w7 ⟨A7, c7, K7, d7, rfl, o7, p7, b7⟩; have bx7 : Below w7.heap.size w7 (w7.alloc (.cells #[.slice A7 N c7, .slice K7 M d7] 28)) := (Below.refl _ _).alloc (Nat.le_refl _) _; have x3 := block_kept (block_kept X3.out b7) bx7; have x4 := block_kept (block_kept X4.out b7) bx7; have x7 := block_new w7 (.cells #[.slice A7 N c7, .slice K7 M d7] 28); have os := (OS.out.below b7).below bx7; have orr := (OR.out.below b7).below bx7; have ow := (ScL.own o7 p7).below bx7
  have bc := (BC.out.trans (b7.mono BC.out.size)).trans (bx7.mono (BC.out.trans (b7.mono BC.out.size)).size); have hcp := sccopy_any (w7.alloc (.cells #[.slice A7 N c7, .slice K7 M d7] 28)) A3 K3 N c3 M d3 xs xk (by have := HZ.out; omega) (by have := HZ.out; omega) HL1.out.symm HL2.out.symm os.a os.b; clear y0 y1 X3 X4 OS OR BC HCP o7 p7 b7 bx7; have y0 := cell_of_block (i := 0) x3 rfl; have y1 := cell_of_block (i := 1) x3 rfl
  have HCP := Lib.hid hcp; have X3 := Lib.hid x3; have X4 := Lib.hid x4; have X7 := Lib.hid x7; have OS := Lib.hid os; have OR := Lib.hid orr; have OW := Lib.hid ow; have BC := Lib.hid bc
  clear hcp x3 x4 x7 os orr ow bc
  go_wp2_with fail
  refine HCP.out.mono ?_; rintro en w8 ⟨A8, c8, K8, d8, rfl, o8, p8, b8⟩; obtain ⟨X, hX⟩ : ∃ X, X = w8.alloc (.cells #[.slice A8 N c8, .slice K8 M d8] 28) := ⟨_, rfl⟩
  have bx8 : Below w8.heap.size w8 X := by rw [hX]; exact (Below.refl _ _).alloc (Nat.le_refl _) _
  have x3 := block_kept (block_kept X3.out b8) bx8; have x4 := block_kept (block_kept X4.out b8) bx8; have x7 := block_kept (block_kept X7.out b8) bx8
  have x8 : X.heap[w8.heap.size]? = some (.cells #[.slice A8 N c8, .slice K8 M d8] 28 (0, 0)) := by rw [hX]; exact block_new _ _
  have os := (OS.out.below b8).below bx8; have orr := (OR.out.below b8).below bx8; have ow := (OW.out.below b8).below bx8; have oc := (ScO.mk o8 p8).below bx8; have sb := OS.out.a.below (b8.trans (bx8.mono b8.size)); have sbk := OS.out.b.below (b8.trans (bx8.mono b8.size)); have wb := OW.out.a.below (b8.trans (bx8.mono b8.size)); have wbk := OW.out.b.below (b8.trans (bx8.mono b8.size)); have bc := (BC.out.trans (b8.mono BC.out.size)).trans (bx8.mono (BC.out.trans (b8.mono BC.out.size)).size)
  have hsp : SpSt 28 37 3 w (w7.alloc (.cells #[.slice A7 N c7, .slice K7 M d7] 28)).heap.size w.heap.size w7.heap.size w8.heap.size (.slice A3 N c3) (.slice K3 M d3) (.slice A7 N c7) (.slice K7 M d7) [(A3, colV xs), (K3, intV xk), (A7, colV xs), (K7, intV xk)] A8 N c8 K8 M d8 X :=
    ⟨x3, x7, x8, fun p hp => (by simp only [List.mem_cons, List.not_mem_nil, or_false] at hp; rcases hp with rfl | rfl | rfl | rfl <;> assumption), ⟨xs, HL1.out, oc.a⟩, ⟨xk, HL2.out, oc.b⟩, bc, (Array.getElem?_eq_some_iff.1 X3.out).1, by rw [World.size_alloc]; omega, BC.out.size, Nat.le_trans b8.size bx8.size⟩
  have SP := Lib.hid hsp; clear hsp; clear y0 y1 X3 X4 X7 OS OR OW HCP o8 p8 b8 bx8
  have X3 := Lib.hid x3; have X4 := Lib.hid x4; have X7 := Lib.hid x7; have X8 := Lib.hid x8; have OS := Lib.hid os; have OR := Lib.hid orr; have OW := Lib.hid ow; have OC := Lib.hid oc; have SB := Lib.hid sb; have SBK := Lib.hid sbk; have WB := Lib.hid wb; have WBK := Lib.hid wbk; have BX := Lib.hid bc
  clear x3 x4 x7 x8 os orr ow oc sb sbk wb wbk bc; obtain ⟨Z, hZ⟩ : ∃ Z, scCheck xs xk = Z := ⟨_, rfl⟩; obtain ⟨nm, hnm⟩ : ∃ b, isNm S.data.toList = b := ⟨_, rfl⟩; obtain ⟨sm, hsm⟩ : ∃ b, (decide (xs = ys) && decide (xk = yk)) = b := ⟨_, rfl⟩
  have HZ2 := Lib.hid hZ; have HNM := Lib.hid hnm; have HSAME := Lib.hid hsm
  clear hZ hnm hsm
  go_wp2_with fail
  rw [← hX]; clear hX
  refine wp_region_sel [isV (.string S), isV (.bool nm), isV (.string S), isV (.bool nm), isV (.bool false), isV (.bool false), isV (.agg #[.slice A3 N c3, .slice K3 M d3]), isV (.int .i64 Z), isV (.agg #[.slice A7 N c7, .slice K7 M d7]), isV (.int .i64 Z), isV (.bool false), isV (.bool false), isV (.bool false), isV (.agg #[.slice A3 N c3, .slice K3 M d3]), isV (.agg #[.slice A4 N' c4, .slice K4 M' d4]), isV (.bool sm), isV (.agg #[.slice A7 N c7, .slice K7 M d7]), isV (.agg #[.slice A4 N' c4, .slice K4 M' d4]), isV (.bool sm), isV (.bool false), isV (.bool false), isV (.bool false), isV (.agg #[.slice A3 N c3, .slice K3 M d3]), isV (.agg #[.slice A8 N c8, .slice K8 M d8]), isV (.bool true), isV (.bool false), isV (.bool false)] (by kernel_rfl) (by kernel_rfl) ?_ ?_
  ·
    refine rb ?_; refine rf (fun ev wo E => ?_) ?_
    · have e30 : ev (.tmp 30) = .string S := E.e 0; have ef := E.func; have hc := isname_all S wo HS.out; rw [HNM.out] at hc; have HC2 := Lib.hid hc; clear hc; go_simp; refine relUpon_enter (HC2.out.mono ?_); rintro e w' ⟨rfl, hb⟩; exact ⟨_, rfl, hb, rfl⟩
    refine rb ?_; refine rf (fun ev wo E => ?_) ?_
    · have e32 : ev (.tmp 32) = .string S := E.e 0; have ef := E.func; have hc := risname_all S wo HS.out; rw [HNM.out] at hc; have HC2 := Lib.hid hc; clear hc; go_simp; refine relUpon_enter (HC2.out.mono ?_); rintro e w' ⟨rfl, hb⟩; exact ⟨_, rfl, hb, rfl⟩
    refine rf (fun ev wo E => ?_) ?_
    · have e31 : ev (.tmp 31) = .bool nm := E.e 0; have e33 : ev (.tmp 33) = .bool nm := E.e 1; go_simp; exact rv
    refine rc 0 ?_; refine rq 0 (fun ev wo E => ?_) ?_
    · have e3 : ev (.tmp 3) = .pointer (some ⟨w.heap.size, 0, none⟩) := (E.base 3 rfl).trans rfl; have q := block_kept X3.out E.bel; have z0 := cell_of_block (i := 0) q rfl; have z1 := cell_of_block (i := 1) q rfl; clear q; go_simp; exact rv
    refine rq 1 (fun ev wo E => ?_) ?_
    · have e36 : ev (.tmp 36) = .agg #[.slice A3 N c3, .slice K3 M d3] := E.e 0; have ef := E.func; have hc := sccheck_any wo A3 K3 N c3 M d3 xs xk (fun c hc => ⟨(HSM.out c hc).1, (HSM.out c hc).2.1⟩) (by have := HZ.out; omega) (by have := HZ.out; omega) HL1.out.symm HL2.out.symm (OS.out.below E.bel).a (OS.out.below E.bel).b (HE.out.below (BX.out.trans (E.bel.mono BX.out.size))); rw [HZ2.out] at hc; have HC2 := Lib.hid hc; clear hc; go_simp; refine relUpon_enter (HC2.out.mono ?_); rintro e w' ⟨rfl, hb⟩
      exact ⟨_, rfl, hb, rfl⟩
    refine rq 0 (fun ev wo E => ?_) ?_
    · have e7 : ev (.tmp 7) = .pointer (some ⟨w7.heap.size, 0, none⟩) := (E.base 7 rfl).trans rfl; have q := block_kept X7.out E.bel; have z0 := cell_of_block (i := 0) q rfl; have z1 := cell_of_block (i := 1) q rfl; clear q; go_simp; exact rv
    refine rq 2 (fun ev wo E => ?_) ?_
    · have e38 : ev (.tmp 38) = .agg #[.slice A7 N c7, .slice K7 M d7] := E.e 0; have ef := E.func; have hc := rsccheck_any wo A7 K7 N c7 M d7 xs xk HSM.out (by have := HZ.out; omega) (by have := HZ.out; omega) HL1.out.symm HL2.out.symm (OW.out.below E.bel).a (OW.out.below E.bel).b; rw [HZ2.out] at hc; have HC2 := Lib.hid hc; clear hc; go_simp; refine relUpon_enter (HC2.out.mono ?_); rintro e w' ⟨rfl, hb⟩; exact ⟨_, rfl, hb, rfl⟩
    refine rq 2 (fun ev wo E => ?_) ?_
    · have e37 : ev (.tmp 37) = .int .i64 Z := E.e 0; have e39 : ev (.tmp 39) = .int .i64 Z := E.e 1; go_simp; exact rv
    refine rf (fun ev wo E => ?_) ?_
    · have e35 : ev (.tmp 35) = .bool false := E.e 0; have e40 : ev (.tmp 40) = .bool false := E.e 1; have ec := E.const; go_simp; exact rv
    refine rc 0 ?_; refine rq 0 (fun ev wo E => ?_) ?_
    · have e3 : ev (.tmp 3) = .pointer (some ⟨w.heap.size, 0, none⟩) := (E.base 3 rfl).trans rfl; have q := block_kept X3.out E.bel; have z0 := cell_of_block (i := 0) q rfl; have z1 := cell_of_block (i := 1) q rfl; clear q; go_simp; exact rv
    refine rq 0 (fun ev wo E => ?_) ?_
    · have e4 : ev (.tmp 4) = .pointer (some ⟨w.heap.size + 1, 0, none⟩) := (E.base 4 rfl).trans rfl; have q := block_kept X4.out E.bel; have z0 := cell_of_block (i := 0) q rfl; have z1 := cell_of_block (i := 1) q rfl; clear q; go_simp; exact rv
    refine rq 2 (fun ev wo E => ?_) ?_
    · have e43 : ev (.tmp 43) = .agg #[.slice A3 N c3, .slice K3 M d3] := E.e 0; have e44 : ev (.tmp 44) = .agg #[.slice A4 N' c4, .slice K4 M' d4] := E.e 1; have ef := E.func; have hc := scsame_any wo A3 K3 A4 K4 N c3 M d3 N' c4 M' d4 xs ys xk yk (by have := HZ.out; unfold maxLen; omega) (by have := HZ.out; unfold maxLen; omega) (by have := HZ.out; unfold maxLen; omega) (by have := HZ.out; unfold maxLen; omega) HL1.out.symm HL2.out.symm HL3.out.symm HL4.out.symm (OS.out.below E.bel).a (OS.out.below E.bel).b (OR.out.below E.bel).a (OR.out.below E.bel).b
      rw [HSAME.out] at hc; have HC2 := Lib.hid hc; clear hc; go_simp; refine relUpon_enter (HC2.out.mono ?_); rintro e w' ⟨rfl, hb⟩; exact ⟨_, rfl, hb, rfl⟩
    refine rq 0 (fun ev wo E => ?_) ?_
    · have e7 : ev (.tmp 7) = .pointer (some ⟨w7.heap.size, 0, none⟩) := (E.base 7 rfl).trans rfl; have q := block_kept X7.out E.bel; have z0 := cell_of_block (i := 0) q rfl; have z1 := cell_of_block (i := 1) q rfl; clear q; go_simp; exact rv
    refine rq 0 (fun ev wo E => ?_) ?_
    · have e4 : ev (.tmp 4) = .pointer (some ⟨w.heap.size + 1, 0, none⟩) := (E.base 4 rfl).trans rfl; have q := block_kept X4.out E.bel; have z0 := cell_of_block (i := 0) q rfl; have z1 := cell_of_block (i := 1) q rfl; clear q; go_simp; exact rv
    refine rq 3 (fun ev wo E => ?_) ?_
    · have e46 : ev (.tmp 46) = .agg #[.slice A7 N c7, .slice K7 M d7] := E.e 0; have e47 : ev (.tmp 47) = .agg #[.slice A4 N' c4, .slice K4 M' d4] := E.e 1; have ef := E.func; have hc := rscsame_any wo A7 K7 A4 K4 N c7 M d7 N' c4 M' d4 xs ys xk yk (by have := HZ.out; unfold maxLen; omega) (by have := HZ.out; unfold maxLen; omega) (by have := HZ.out; unfold maxLen; omega) (by have := HZ.out; unfold maxLen; omega) HL1.out.symm HL2.out.symm HL3.out.symm HL4.out.symm (OW.out.below E.bel).a (OW.out.below E.bel).b (OR.out.below E.bel).a (OR.out.below E.bel).b
      rw [HSAME.out] at hc; have HC2 := Lib.hid hc; clear hc; go_simp; refine relUpon_enter (HC2.out.mono ?_); rintro e w' ⟨rfl, hb⟩; exact ⟨_, rfl, hb, rfl⟩
    refine rq 2 (fun ev wo E => ?_) ?_
    · have e45 : ev (.tmp 45) = .bool sm := E.e 0; have e48 : ev (.tmp 48) = .bool sm := E.e 1; go_simp; exact rv
    refine rf (fun ev wo E => ?_) ?_
    · have e42 : ev (.tmp 42) = .bool false := E.e 0; have e49 : ev (.tmp 49) = .bool false := E.e 1; have ec := E.const; go_simp; exact rv
    refine rc 0 ?_; refine rq 0 (fun ev wo E => ?_) ?_
    · have e3 : ev (.tmp 3) = .pointer (some ⟨w.heap.size, 0, none⟩) := (E.base 3 rfl).trans rfl; have q := block_kept X3.out E.bel; have z0 := cell_of_block (i := 0) q rfl; have z1 := cell_of_block (i := 1) q rfl; clear q; go_simp; exact rv
    refine rq 0 (fun ev wo E => ?_) ?_
    · have e8 : ev (.tmp 8) = .pointer (some ⟨w8.heap.size, 0, none⟩) := (E.base 8 rfl).trans rfl; have q := block_kept X8.out E.bel; have z0 := cell_of_block (i := 0) q rfl; have z1 := cell_of_block (i := 1) q rfl; clear q; go_simp; exact rv
    refine rq 2 (fun ev wo E => ?_) ?_
    · have e52 : ev (.tmp 52) = .agg #[.slice A3 N c3, .slice K3 M d3] := E.e 0; have e53 : ev (.tmp 53) = .agg #[.slice A8 N c8, .slice K8 M d8] := E.e 1; have ef := E.func; have hc := scsame_any wo A3 K3 A8 K8 N c3 M d3 N c8 M d8 xs xs xk xk (by have := HZ.out; unfold maxLen; omega) (by have := HZ.out; unfold maxLen; omega) (by have := HZ.out; unfold maxLen; omega) (by have := HZ.out; unfold maxLen; omega) HL1.out.symm HL2.out.symm HL1.out.symm HL2.out.symm (OS.out.below E.bel).a (OS.out.below E.bel).b (OC.out.lay.below E.bel).a (OC.out.lay.below E.bel).b
      rw [decide_eq_true rfl, decide_eq_true rfl, Bool.and_true] at hc; have HC2 := Lib.hid hc; clear hc; go_simp; refine relUpon_enter (HC2.out.mono ?_); rintro e w' ⟨rfl, hb⟩; exact ⟨_, rfl, hb, rfl⟩
    refine rq 1 (fun ev wo E => ?_) ?_
    · have e54 : ev (.tmp 54) = .bool true := E.e 0; go_simp; exact rv
    refine rf (fun ev wo E => ?_) ?_
    · have e51 : ev (.tmp 51) = .bool false := E.e 0; have e55 : ev (.tmp 55) = .bool false := E.e 1; have ec := E.const; go_simp; exact rv
    trivial
  · intro wz bz
    (iterate 27 rintro _ rfl); obtain ⟨B8, hB8⟩ : ∃ B8, (w7.alloc (.cells #[.slice A7 N c7, .slice K7 M d7] 28)).heap.size = B8 := ⟨_, rfl⟩; have sp := SP.out.step bz; rw [hB8] at sp; have STZ := Lib.hid sp; clear sp bz hB8 SP X3 X4 X7 X8 OS OR OW OC SB SBK WB WBK BX HF1 HF2 B0 Q30 Q40; have y0 := cell_of_block (i := 0) STZ.out.x3 rfl
    have hSz : S.size ≤ 9223372036854775807 := by have := HS.out; unfold maxLen at this; exact this
    simp only [relEnd]; go_simp
    go_wp2_with fail
    go_loopw [9] (fun id wr => ∃ i : Int, id = .int .i64 i ∧ -1 ≤ i ∧ i ≤ N ∧ SpSt 28 37 3 w B8 w.heap.size w7.heap.size w8.heap.size (.slice A3 N c3) (.slice K3 M d3) (.slice A7 N c7) (.slice K7 M d7) [(A3, colV xs), (K3, intV xk), (A7, colV xs), (K7, intV xk)] A8 N c8 K8 M d8 wr) (fun id _ => ((N : Int) - RowKit.intOf id).toNat)
    case atStart => exact ⟨-1, rfl, by omega, by omega, STZ.out⟩
    case round =>
     obtain ⟨i, rfl, hi1, hi2, hst⟩ := hrel; have hN40 := HZ.out.1; have STR := Lib.hid hst; clear hst y0; have y0 := cell_of_block (i := 0) STR.out.x3 rfl; have y1 := cell_of_block (i := 1) STR.out.x3 rfl; have y2 := cell_of_block (i := 0) STR.out.x7 rfl; have y3 := cell_of_block (i := 1) STR.out.x7 rfl
     by_cases h0 : i = -1
     · subst h0
       have hlt : (-1 : Int) < (N : Int) := by omega
       obtain ⟨⟨pa1, pa2⟩, hpa⟩ : ∃ p, coFind (fun c => decide (c.1 = (S.size : Int))) xs = p := ⟨_, rfl⟩; obtain ⟨⟨na1, na2⟩, hna⟩ : ∃ p, coFind (fun c => decide (c.2.1 = S)) xs = p := ⟨_, rfl⟩
       have HPA := Lib.hid hpa; have HNA := Lib.hid hna
       clear hpa hna
       have hcl := fun wq (h : SpSt 28 37 3 w B8 w.heap.size w7.heap.size w8.heap.size (.slice A3 N c3) (.slice K3 M d3) (.slice A7 N c7) (.slice K7 M d7) [(A3, colV xs), (K3, intV xk), (A7, colV xs), (K7, intV xk)] A8 N c8 K8 M d8 wq) => place_any wq A3 K3 N c3 M d3 xs ((S.size : Int)) (by have := HZ.out; unfold maxLen; omega) HL1.out.symm ((h.ly (A3, colV xs) (by simp)).more h.hB)
       rw [HPA.out] at hcl; simp only at hcl; have HCL := Lib.hid hcl; clear hcl
       go_wp2_with fail
       refine (HCL.out _ STR.out).mono ?_; rintro en wc0 ⟨rfl, bq⟩; have ST0 := Lib.hid (STR.out.step bq); clear bq HCL y0 y1 y2 y3; have y0 := cell_of_block (i := 0) ST0.out.x3 rfl; have y1 := cell_of_block (i := 1) ST0.out.x3 rfl; have y2 := cell_of_block (i := 0) ST0.out.x7 rfl; have y3 := cell_of_block (i := 1) ST0.out.x7 rfl
       have hcl := fun wq (h : SpSt 28 37 3 w B8 w.heap.size w7.heap.size w8.heap.size (.slice A3 N c3) (.slice K3 M d3) (.slice A7 N c7) (.slice K7 M d7) [(A3, colV xs), (K3, intV xk), (A7, colV xs), (K7, intV xk)] A8 N c8 K8 M d8 wq) => rplace_any wq A7 K7 N c7 M d7 xs ((S.size : Int)) (by have := HZ.out; unfold maxLen; omega) HL1.out.symm ((h.ly (A7, colV xs) (by simp)).more h.hB)
       rw [HPA.out] at hcl; simp only at hcl; have HCL := Lib.hid hcl; clear hcl
       go_wp2_with fail
       refine (HCL.out _ ST0.out).mono ?_; rintro en wc1 ⟨rfl, bq⟩; have ST1 := Lib.hid (ST0.out.step bq); clear bq HCL y0 y1 y2 y3; have y0 := cell_of_block (i := 0) ST1.out.x3 rfl; have y1 := cell_of_block (i := 1) ST1.out.x3 rfl; have y2 := cell_of_block (i := 0) ST1.out.x7 rfl; have y3 := cell_of_block (i := 1) ST1.out.x7 rfl
       have hcl := fun wq (h : SpSt 28 37 3 w B8 w.heap.size w7.heap.size w8.heap.size (.slice A3 N c3) (.slice K3 M d3) (.slice A7 N c7) (.slice K7 M d7) [(A3, colV xs), (K3, intV xk), (A7, colV xs), (K7, intV xk)] A8 N c8 K8 M d8 wq) => named_any wq A3 K3 N c3 M d3 xs (S) (by have := HZ.out; unfold maxLen; omega) HL1.out.symm ((h.ly (A3, colV xs) (by simp)).more h.hB)
       rw [HNA.out] at hcl; simp only at hcl; have HCL := Lib.hid hcl; clear hcl
       go_wp2_with fail
       refine (HCL.out _ ST1.out).mono ?_; rintro en wc2 ⟨rfl, bq⟩; have ST2 := Lib.hid (ST1.out.step bq); clear bq HCL y0 y1 y2 y3; have y0 := cell_of_block (i := 0) ST2.out.x3 rfl; have y1 := cell_of_block (i := 1) ST2.out.x3 rfl; have y2 := cell_of_block (i := 0) ST2.out.x7 rfl; have y3 := cell_of_block (i := 1) ST2.out.x7 rfl
       have hcl := fun wq (h : SpSt 28 37 3 w B8 w.heap.size w7.heap.size w8.heap.size (.slice A3 N c3) (.slice K3 M d3) (.slice A7 N c7) (.slice K7 M d7) [(A3, colV xs), (K3, intV xk), (A7, colV xs), (K7, intV xk)] A8 N c8 K8 M d8 wq) => rnamed_any wq A7 K7 N c7 M d7 xs (S) (by have := HZ.out; unfold maxLen; omega) HL1.out.symm ((h.ly (A7, colV xs) (by simp)).more h.hB)
       rw [HNA.out] at hcl; simp only at hcl; have HCL := Lib.hid hcl; clear hcl
       go_wp2_with fail
       refine (HCL.out _ ST2.out).mono ?_; rintro en wc3 ⟨rfl, bq⟩; have ST3 := Lib.hid (ST2.out.step bq); clear bq HCL y0 y1 y2 y3; have y0 := cell_of_block (i := 0) ST3.out.x3 rfl; have y1 := cell_of_block (i := 1) ST3.out.x3 rfl; have y2 := cell_of_block (i := 0) ST3.out.x7 rfl; have y3 := cell_of_block (i := 1) ST3.out.x7 rfl
       go_wp2_with fail
       go_roundw
       case rel => exact ⟨0, by go_num, by omega, by omega, ST3.out⟩
       case measure => first | (simp [RowKit.intOf]; done) | (simp [RowKit.intOf]; omega)
     · obtain ⟨k, rfl⟩ : ∃ k : Nat, i = k := ⟨i.toNat, by omega⟩
       by_cases hlk : k < N
       · have hki : (k : Int) < N := by omega
         have hk0 : (0 : Int) ≤ (k : Int) := by omega
         obtain ⟨cc, hcc⟩ : ∃ c, xs[k]? = some c := ⟨_, List.getElem?_eq_getElem (by rw [HL1.out]; exact hlk)⟩; obtain ⟨i0, s0, ⟨k0, u0⟩, n0, m0, t0⟩ := cc; obtain ⟨g, o, rfl, hg, g1, g2, -⟩ := ((STR.out.ly (A3, colV xs) (by simp)).more STR.out.hB).co hcc; simp only at g1 g2
         have G1 := Lib.hid g1; have G2 := Lib.hid g2
         clear g1 g2 hcc h0
         go_wp2_with fail
         refine wp_region_sel [isV (.pointer (some ⟨w.heap.size, 0, none⟩)), isV (.slice (some ⟨g, o, none⟩) N c3), isV (.int .i64 (k : Nat)), isV (.pointer (some ⟨g, o + k * 7, none⟩)), isV (.pointer (some ⟨g, o + k * 7, none⟩)), isV (.int .i64 i0), isV (.pointer (some ⟨w.heap.size, 0, none⟩)), isV (.slice (some ⟨g, o, none⟩) N c3), isV (.int .i64 (k : Nat)), isV (.pointer (some ⟨g, o + k * 7, none⟩)), isV (.pointer (some ⟨g, o + k * 7 + 1, none⟩)), isV (.string s0), isV (.int .i64 i0), isV (.string s0)] (by kernel_rfl) (by kernel_rfl) ?_ ?_
         ·
           refine rf (fun ev wo E => ?_) ?_
           · have e3 : ev (.tmp 3) = .pointer (some ⟨w.heap.size, 0, none⟩) := (E.base 3 rfl).trans rfl; go_simp; exact rv
           refine rf (fun ev wo E => ?_) ?_
           · have e69 : ev (.tmp 69) = .pointer (some ⟨w.heap.size, 0, none⟩) := E.e 0; have q := block_kept STR.out.x3 E.bel; have z0 := cell_of_block (i := 0) q rfl; clear q; go_simp; exact rv
           refine rb ?_; refine rf (fun ev wo E => ?_) ?_
           · have e70 : ev (.tmp 70) = .slice (some ⟨g, o, none⟩) N c3 := E.e 0; have e71 : ev (.tmp 71) = .int .i64 (k : Nat) := E.e 1; go_simp; exact rv
           refine rf (fun ev wo E => ?_) ?_
           · have e72 : ev (.tmp 72) = .pointer (some ⟨g, o + k * 7, none⟩) := E.e 0; go_simp; exact rv
           refine rf (fun ev wo E => ?_) ?_
           · have e73 : ev (.tmp 73) = .pointer (some ⟨g, o + k * 7, none⟩) := E.e 0; have x0 := (E.bel.cell (cell_lt G1.out)).trans G1.out; go_simp; exact rv
           refine rf (fun ev wo E => ?_) ?_
           · have e3 : ev (.tmp 3) = .pointer (some ⟨w.heap.size, 0, none⟩) := (E.base 3 rfl).trans rfl; go_simp; exact rv
           refine rf (fun ev wo E => ?_) ?_
           · have e75 : ev (.tmp 75) = .pointer (some ⟨w.heap.size, 0, none⟩) := E.e 0; have q := block_kept STR.out.x3 E.bel; have z0 := cell_of_block (i := 0) q rfl; clear q; go_simp; exact rv
           refine rb ?_; refine rf (fun ev wo E => ?_) ?_
           · have e76 : ev (.tmp 76) = .slice (some ⟨g, o, none⟩) N c3 := E.e 0; have e77 : ev (.tmp 77) = .int .i64 (k : Nat) := E.e 1; go_simp; exact rv
           refine rf (fun ev wo E => ?_) ?_
           · have e78 : ev (.tmp 78) = .pointer (some ⟨g, o + k * 7, none⟩) := E.e 0; go_simp; exact rv
           refine rf (fun ev wo E => ?_) ?_
           · have e79 : ev (.tmp 79) = .pointer (some ⟨g, o + k * 7 + 1, none⟩) := E.e 0; have x0 := (E.bel.cell (cell_lt G2.out)).trans G2.out; go_simp; exact rv
           refine ⟨prem_copy 0 (WantOk.free rfl) (.inr rfl) rfl rfl rfl rfl (isV_stable _), ?_⟩; refine ⟨prem_copy 0 (WantOk.free rfl) (.inr rfl) rfl rfl rfl rfl (isV_stable _), ?_⟩; trivial
         · intro wz bz
           (iterate 14 rintro _ rfl); have STY := Lib.hid (STR.out.step bz); clear bz y0 y1 y2 y3 G1 G2; have y0 := cell_of_block (i := 0) STY.out.x3 rfl; have y1 := cell_of_block (i := 1) STY.out.x3 rfl; have y2 := cell_of_block (i := 0) STY.out.x7 rfl; have y3 := cell_of_block (i := 1) STY.out.x7 rfl; simp only [relEnd]; go_simp; obtain ⟨⟨pa1, pa2⟩, hpa⟩ : ∃ p, coFind (fun c => decide (c.1 = i0)) xs = p := ⟨_, rfl⟩; obtain ⟨⟨na1, na2⟩, hna⟩ : ∃ p, coFind (fun c => decide (c.2.1 = s0)) xs = p := ⟨_, rfl⟩
           have HPA := Lib.hid hpa; have HNA := Lib.hid hna
           clear hpa hna
           have hcl := fun wq (h : SpSt 28 37 3 w B8 w.heap.size w7.heap.size w8.heap.size (.slice (some ⟨g, o, none⟩) N c3) (.slice K3 M d3) (.slice A7 N c7) (.slice K7 M d7) [((some ⟨g, o, none⟩), colV xs), (K3, intV xk), (A7, colV xs), (K7, intV xk)] A8 N c8 K8 M d8 wq) => place_any wq (some ⟨g, o, none⟩) K3 N c3 M d3 xs (i0) (by have := HZ.out; unfold maxLen; omega) HL1.out.symm ((h.ly ((some ⟨g, o, none⟩), colV xs) (by simp)).more h.hB)
           rw [HPA.out] at hcl; simp only at hcl; have HCL := Lib.hid hcl; clear hcl
           go_wp2_with fail
           refine (HCL.out _ STY.out).mono ?_; rintro en wc0 ⟨rfl, bq⟩; have ST0 := Lib.hid (STY.out.step bq); clear bq HCL y0 y1 y2 y3; have y0 := cell_of_block (i := 0) ST0.out.x3 rfl; have y1 := cell_of_block (i := 1) ST0.out.x3 rfl; have y2 := cell_of_block (i := 0) ST0.out.x7 rfl; have y3 := cell_of_block (i := 1) ST0.out.x7 rfl
           have hcl := fun wq (h : SpSt 28 37 3 w B8 w.heap.size w7.heap.size w8.heap.size (.slice (some ⟨g, o, none⟩) N c3) (.slice K3 M d3) (.slice A7 N c7) (.slice K7 M d7) [((some ⟨g, o, none⟩), colV xs), (K3, intV xk), (A7, colV xs), (K7, intV xk)] A8 N c8 K8 M d8 wq) => rplace_any wq A7 K7 N c7 M d7 xs (i0) (by have := HZ.out; unfold maxLen; omega) HL1.out.symm ((h.ly (A7, colV xs) (by simp)).more h.hB)
           rw [HPA.out] at hcl; simp only at hcl; have HCL := Lib.hid hcl; clear hcl
           go_wp2_with fail
           refine (HCL.out _ ST0.out).mono ?_; rintro en wc1 ⟨rfl, bq⟩; have ST1 := Lib.hid (ST0.out.step bq); clear bq HCL y0 y1 y2 y3; have y0 := cell_of_block (i := 0) ST1.out.x3 rfl; have y1 := cell_of_block (i := 1) ST1.out.x3 rfl; have y2 := cell_of_block (i := 0) ST1.out.x7 rfl; have y3 := cell_of_block (i := 1) ST1.out.x7 rfl
           have hcl := fun wq (h : SpSt 28 37 3 w B8 w.heap.size w7.heap.size w8.heap.size (.slice (some ⟨g, o, none⟩) N c3) (.slice K3 M d3) (.slice A7 N c7) (.slice K7 M d7) [((some ⟨g, o, none⟩), colV xs), (K3, intV xk), (A7, colV xs), (K7, intV xk)] A8 N c8 K8 M d8 wq) => named_any wq (some ⟨g, o, none⟩) K3 N c3 M d3 xs (s0) (by have := HZ.out; unfold maxLen; omega) HL1.out.symm ((h.ly ((some ⟨g, o, none⟩), colV xs) (by simp)).more h.hB)
           rw [HNA.out] at hcl; simp only at hcl; have HCL := Lib.hid hcl; clear hcl
           go_wp2_with fail
           refine (HCL.out _ ST1.out).mono ?_; rintro en wc2 ⟨rfl, bq⟩; have ST2 := Lib.hid (ST1.out.step bq); clear bq HCL y0 y1 y2 y3; have y0 := cell_of_block (i := 0) ST2.out.x3 rfl; have y1 := cell_of_block (i := 1) ST2.out.x3 rfl; have y2 := cell_of_block (i := 0) ST2.out.x7 rfl; have y3 := cell_of_block (i := 1) ST2.out.x7 rfl
           have hcl := fun wq (h : SpSt 28 37 3 w B8 w.heap.size w7.heap.size w8.heap.size (.slice (some ⟨g, o, none⟩) N c3) (.slice K3 M d3) (.slice A7 N c7) (.slice K7 M d7) [((some ⟨g, o, none⟩), colV xs), (K3, intV xk), (A7, colV xs), (K7, intV xk)] A8 N c8 K8 M d8 wq) => rnamed_any wq A7 K7 N c7 M d7 xs (s0) (by have := HZ.out; unfold maxLen; omega) HL1.out.symm ((h.ly (A7, colV xs) (by simp)).more h.hB)
           rw [HNA.out] at hcl; simp only at hcl; have HCL := Lib.hid hcl; clear hcl
           go_wp2_with fail
           refine (HCL.out _ ST2.out).mono ?_; rintro en wc3 ⟨rfl, bq⟩; have ST3 := Lib.hid (ST2.out.step bq); clear bq HCL y0 y1 y2 y3; have y0 := cell_of_block (i := 0) ST3.out.x3 rfl; have y1 := cell_of_block (i := 1) ST3.out.x3 rfl; have y2 := cell_of_block (i := 0) ST3.out.x7 rfl; have y3 := cell_of_block (i := 1) ST3.out.x7 rfl
           go_wp2_with fail
           go_roundw
           case rel => exact ⟨(k : Int) + 1, by go_num, by omega, by omega, ST3.out⟩
           case measure => first | (simp [RowKit.intOf]; done) | (simp [RowKit.intOf]; omega)
       · have hki : ¬ (k : Int) < N := by omega
         obtain rfl : k = N := by omega
         have y4 := cell_of_block (i := 0) STR.out.x8 rfl
         go_wp2_with fail
         clear h0 hi1 hi2 y0 y1 y2 y3
         go_loopw [20] (fun id wr => ∃ q : Nat, id = .int .i64 q ∧ q ≤ k ∧ SpSt 28 37 3 w B8 w.heap.size w7.heap.size w8.heap.size (.slice A3 k c3) (.slice K3 M d3) (.slice A7 k c7) (.slice K7 M d7) [(A3, colV xs), (K3, intV xk), (A7, colV xs), (K7, intV xk)] A8 k c8 K8 M d8 wr) (fun id _ => k - (RowKit.intOf id).toNat)
         case atStart => exact ⟨0, rfl, by omega, STR.out⟩
         case round =>
          obtain ⟨q, rfl, hq, hst⟩ := hrel; have z4 := cell_of_block (i := 0) hst.x8 rfl
          by_cases hlq : q < k
          · have hqi : (q : Int) < k := by omega
            obtain ⟨g, rfl, cc, u0, u1, u2, u3, u4, u5, u6', f0, f1, f2, f3, f4, f5, f6⟩ := hst.spot hlq; have hp := hst.putc hlq (by decide) (by decide) ((-1, ⟨#[]⟩, (0, false), (false, 0, ⟨#[]⟩)) : Co); simp only at hp; have HP := Lib.hid hp; clear hp hst y4
            go_wp2_with fail
            go_roundw
            case rel => exact ⟨q + 1, by go_num, by omega, HP.out⟩
            case measure => first | (simp [RowKit.intOf]; done) | (simp [RowKit.intOf]; omega)
          · have hqi : ¬ (q : Int) < k := by omega
            obtain rfl : q = k := by omega
            have z5 := cell_of_block (i := 1) hst.x8 rfl; have ST2 := Lib.hid hst; clear hst y4
            go_wp2_with fail
            go_loopw [21] (fun id wr => ∃ p : Nat, id = .int .i64 p ∧ p ≤ M ∧ SpSt 28 37 3 w B8 w.heap.size w7.heap.size w8.heap.size (.slice A3 q c3) (.slice K3 M d3) (.slice A7 q c7) (.slice K7 M d7) [(A3, colV xs), (K3, intV xk), (A7, colV xs), (K7, intV xk)] A8 q c8 K8 M d8 wr) (fun id _ => M - (RowKit.intOf id).toNat)
            case atStart => exact ⟨0, rfl, by omega, ST2.out⟩
            case round =>
             obtain ⟨p, rfl, hp, hst⟩ := hrel; have zz := cell_of_block (i := 1) hst.x8 rfl
             by_cases hlp : p < M
             · have hpi : (p : Int) < M := by omega
               have hM12 := HZ.out.2.1; obtain ⟨g, rfl, x, u0, f0⟩ := hst.spotk hlp; have hpu := hst.putk hlp (by decide) (by decide) (-1); have HP := Lib.hid hpu; clear hpu hst z4 z5
               go_wp2_with fail
               go_roundw
               case rel => exact ⟨p + 1, by go_num, by omega, HP.out⟩
               case measure => first | (simp [RowKit.intOf]; done) | (simp [RowKit.intOf]; omega)
             · have hpi : ¬ (p : Int) < M := by omega
               have y0 := cell_of_block (i := 0) hst.x3 rfl; have y1 := cell_of_block (i := 1) hst.x3 rfl; have y2 := cell_of_block (i := 0) hst.x7 rfl; have y3 := cell_of_block (i := 1) hst.x7 rfl
               have hsame := fun wq (h : SpSt 28 37 3 w B8 w.heap.size w7.heap.size w8.heap.size (.slice A3 q c3) (.slice K3 M d3) (.slice A7 q c7) (.slice K7 M d7) [(A3, colV xs), (K3, intV xk), (A7, colV xs), (K7, intV xk)] A8 q c8 K8 M d8 wq) => rscsame_any wq A3 K3 A7 K7 q c3 M d3 q c7 M d7 xs xs xk xk (by have := HZ.out; unfold maxLen; omega) (by have := HZ.out; unfold maxLen; omega) (by have := HZ.out; unfold maxLen; omega) (by have := HZ.out; unfold maxLen; omega) HL1.out.symm HL2.out.symm HL1.out.symm HL2.out.symm
                 ((h.ly (A3, colV xs) (by simp)).more h.hB) ((h.ly (K3, intV xk) (by simp)).more h.hB) ((h.ly (A7, colV xs) (by simp)).more h.hB) ((h.ly (K7, intV xk) (by simp)).more h.hB)
               rw [decide_eq_true rfl, decide_eq_true rfl, Bool.and_true] at hsame
               have HSM2 := Lib.hid hsame; have ST3 := Lib.hid hst
               clear hsame hst z4 z5
               go_wp2_with fail
               refine (HSM2.out _ ST3.out).mono ?_; rintro en we ⟨rfl, be⟩; have STE := Lib.hid (ST3.out.step be); clear be y0 y1 y2 y3
               go_wp2_with fail
               refine (works_any _ (HE.out.below STE.out.bel)).mono ?_; rintro en wf ⟨rfl, bf⟩; have BF := Lib.hid (STE.out.bel.trans (bf.mono STE.out.bel.size)); clear bf
               go_wp2_with fail
               go_ret
               exact ⟨rfl, BF.out⟩
end Go.Proofs.YthlinmkengoliaaGreatDoor
