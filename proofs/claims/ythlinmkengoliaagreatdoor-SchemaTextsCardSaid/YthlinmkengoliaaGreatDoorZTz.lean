/- Schemas: a text read by the reference: walked. Schemas: SchemaTexts, walked. -/
import Derived.Test.YthlinmkengoliaaGreatDoorZT5
import Derived.Test.YthlinmkengoliaaGreatDoorZSi
import Derived.Test.YthlinmkengoliaaGreatDoorZSw
import Derived.Test.YthlinmkengoliaaGreatDoorZTx
import Derived.Test.YthlinmkengoliaaGreatDoorZSx
set_option linter.unusedVariables false
set_option linter.unusedSimpArgs false
namespace Go.Ms
open Go.RowKit Go.Lib
def parseGo (cs : List Co) (ks : List Int) (s : Bs) : List Co × List Int × Bool :=
  ((readAll cs ks (splitNl s).1).1, (readAll cs ks (splitNl s).1).2.1, (readAll cs ks (splitNl s).1).2.2 && decide ((splitNl s).2 = []))
theorem parseGo_start (s : Bs) : parseR s = parseGo [] [] s := rfl
theorem parseGo_nil (cs : List Co) (ks : List Int) : parseGo cs ks [] = (cs, ks, true) := by simp [parseGo, splitNl, readAll]
theorem parseGo_hit {cs : List Co} {ks : List Int} {s x y : Bs} {c : Co} {key : Bool} (h : cutAt 10 s = some (x, y)) (hr : readCo x = some (c, key)) :
    parseGo cs ks s = parseGo (cs ++ [c]) (if key = true then ks ++ [(cs.length : Int)] else ks) y := by
 obtain ⟨rfl, hx⟩ := cutAt_some h; unfold parseGo; rw [splitNl_hit hx]; simp only [readAll, hr]
theorem parseGo_no {cs : List Co} {ks : List Int} {s x y : Bs} (h : cutAt 10 s = some (x, y)) (hr : readCo x = none) : (parseGo cs ks s).2.2 = false ∧ (parseGo cs ks s).1 = cs := by
 obtain ⟨rfl, hx⟩ := cutAt_some h; unfold parseGo; rw [splitNl_hit hx]
 simp [readAll, hr]
theorem parseGo_miss {cs : List Co} {ks : List Int} {s : Bs} (h : cutAt 10 s = none) (hs : s ≠ []) : (parseGo cs ks s).2.2 = false ∧ (parseGo cs ks s).1 = cs := by
 unfold parseGo; rw [splitNl_miss (cutAt_none.1 h)]
 simp [readAll, hs]
structure RSt (tS tC tI : TypeId) (w : World) (v1 v2 : Value) (cs : List Co) (ks : List Int) (W : World) : Prop where
  b0 : W.heap[w.heap.size]? = some (.cells #[.slice none 0 0, .slice none 0 0] tS (0, 0))
  b1 : W.heap[w.heap.size + 1]? = some (.cells #[v1, v2] tS (0, 0))
  o1 : OwnCo W (w.heap.size + 2) tC v1 cs
  o2 : OwnI W (w.heap.size + 2) tI v2 ks
  bel : Below w.heap.size w W
  hi : w.heap.size + 2 ≤ W.heap.size
section
variable {tS tC tI : TypeId} {w : World} {v1 v2 : Value} {cs : List Co} {ks : List Int} {W : World}
theorem RSt.step (h : RSt tS tC tI w v1 v2 cs ks W) {W' : World} (hb : Below W.heap.size W W') : RSt tS tC tI w v1 v2 cs ks W' :=
  ⟨block_kept h.b0 hb, block_kept h.b1 hb, own_below h.o1 hb, own_below h.o2 hb, h.bel.trans (hb.mono h.bel.size), Nat.le_trans h.hi hb.size⟩
theorem RSt.keys (h : RSt tS tC tI w v1 v2 cs ks W) (hne : tC ≠ tI) {W' : World} {v2' : Value} {k : Int} (hown : W'.ownsRow (w.heap.size + 2) tI 1 v2' (ks.length + 1) (intV ks ++ intV [k])) (hg : W.grownBy W' v2.ownBlock) : RSt tS tC tI w v1 v2' cs (ks ++ [k]) (W'.setCell ⟨w.heap.size + 1, 1, none⟩ v2') := by
 have hb : ∀ k : Nat, k < w.heap.size + 2 → some k ≠ v2.ownBlock := fun k hk e => by have := (World.ownsRow.lt h.o2 k e.symm).1; omega
 have ho2 : OwnI W' (w.heap.size + 2) tI v2' (ks ++ [k]) := by
  unfold OwnI; rw [List.length_append, intV_app]; exact hown
 exact ⟨far_set ((hg.block _ (Array.getElem?_eq_some_iff.1 h.b0).1 (hb _ (by omega))).trans h.b0) (by omega) _, two_set1 ((hg.block _ (Array.getElem?_eq_some_iff.1 h.b1).1 (hb _ (by omega))).trans h.b1) _,
   own_set' (World.ownsRow.kept h.o1 hg (own_apart h.o1 h.o2 hne)) (by omega) _, own_set' ho2 (by omega) _, (own_grown h.o2 h.bel h.bel.size (by omega) hg).setCell (p := ⟨w.heap.size + 1, 1, none⟩) (by simp only; omega) _, by simp only [World.size_setCell]; exact Nat.le_trans h.hi hg.size⟩
theorem RSt.cols (h : RSt tS tC tI w v1 v2 cs ks W) (hne : tC ≠ tI) {W' : World} {v1' : Value} {c : Co} (hown : W'.ownsRow (w.heap.size + 2) tC 7 v1' (cs.length + 1) (colV cs ++ coV c)) (hg : W.grownBy W' v1.ownBlock) : RSt tS tC tI w v1' v2 (cs ++ [c]) ks (W'.setCell ⟨w.heap.size + 1, 0, none⟩ v1') := by
 have hb : ∀ k : Nat, k < w.heap.size + 2 → some k ≠ v1.ownBlock := fun k hk e => by have := (World.ownsRow.lt h.o1 k e.symm).1; omega
 have ho2 : OwnCo W' (w.heap.size + 2) tC v1' (cs ++ [c]) := by
  unfold OwnCo; rw [List.length_append, colV_app, show colV [c] = coV c by simp [colV]]; exact hown
 exact ⟨far_set ((hg.block _ (Array.getElem?_eq_some_iff.1 h.b0).1 (hb _ (by omega))).trans h.b0) (by omega) _, two_set0 ((hg.block _ (Array.getElem?_eq_some_iff.1 h.b1).1 (hb _ (by omega))).trans h.b1) _,
   own_set' ho2 (by omega) _, own_set' (World.ownsRow.kept h.o2 hg (own_apart h.o2 h.o1 (Ne.symm hne))) (by omega) _, (own_grown h.o1 h.bel h.bel.size (by omega) hg).setCell (p := ⟨w.heap.size + 1, 0, none⟩) (by simp only; omega) _, by simp only [World.size_setCell]; exact Nat.le_trans h.hi hg.size⟩
theorem RSt.put (h : RSt tS tC tI w v1 v2 cs ks W) (x y : Value) : ((W.setCell ⟨w.heap.size, 0, none⟩ x).setCell ⟨w.heap.size, 1, none⟩ y).heap[w.heap.size]? = some (.cells #[x, y] tS (0, 0)) ∧ Below w.heap.size w ((W.setCell ⟨w.heap.size, 0, none⟩ x).setCell ⟨w.heap.size, 1, none⟩ y) ∧ OwnCo ((W.setCell ⟨w.heap.size, 0, none⟩ x).setCell ⟨w.heap.size, 1, none⟩ y) (w.heap.size + 2) tC v1 cs ∧ OwnI ((W.setCell ⟨w.heap.size, 0, none⟩ x).setCell ⟨w.heap.size, 1, none⟩ y) (w.heap.size + 2) tI v2 ks :=
  ⟨two_set1 (two_set0 h.b0 x) y, ((h.bel.setCell (p := ⟨w.heap.size, 0, none⟩) (Nat.le_refl _) x).setCell (p := ⟨w.heap.size, 1, none⟩) (Nat.le_refl _) y), own_set' (own_set' h.o1 (by omega) _) (by omega) _, own_set' (own_set' h.o2 (by omega) _) (by omega) _⟩
end
end Go.Ms
namespace Go.Proofs.YthlinmkengoliaaGreatDoor
open Go.RowKit Go.Ms Go.Lib
theorem nlcut_hit {S : ByteArray} {x y : Bs} {w : World} (hs : S.size ≤ 9000000) (h : cutAt 10 S.data.toList = some (x, y)) :
    Calls Tryz.prog 66 #[.string S, .int .u8 10] w fun e w' => e = .returned (.tuple #[.string ⟨x.toArray⟩, .string ⟨y.toArray⟩, .bool true]) ∧ Below w.heap.size w w' := by
 have := scut_any S 10 w hs; rw [h] at this; exact this
theorem nlcut_miss {S : ByteArray} {w : World} (hs : S.size ≤ 9000000) (h : cutAt 10 S.data.toList = none) :
    Calls Tryz.prog 66 #[.string S, .int .u8 10] w fun e w' => e = .returned (.tuple #[.string ⟨#[]⟩, .string ⟨#[]⟩, .bool false]) ∧ Below w.heap.size w w' := by
 have := scut_any S 10 w hs; rw [h] at this; exact this
theorem rcolumn_no {S : ByteArray} {w : World} (hs : S.size ≤ 3100) (h : readCo S.data.toList = none) :
    Calls Tryz.prog 67 #[.string S] w fun e w' => (∃ c k, e = .returned (.tuple #[coA c, .bool k, .bool false])) ∧ Below w.heap.size w w' := by
 refine (rcolumn_any S w hs).mono ?_; rintro e w' ⟨⟨c, k, b, rfl, h1, h2⟩, hb⟩
 cases b with
 | false => exact ⟨⟨c, k, rfl⟩, hb⟩
 | true => rw [h] at h1; cases h1 rfl
theorem rcolumn_yes {S : ByteArray} {w : World} {c : Co} {k : Bool} (hs : S.size ≤ 3100) (h : readCo S.data.toList = some (c, k)) :
    Calls Tryz.prog 67 #[.string S] w fun e w' => e = .returned (.tuple #[coA c, .bool k, .bool true]) ∧ Below w.heap.size w w' := by
 refine (rcolumn_any S w hs).mono ?_; rintro e w' ⟨⟨c', k', b, rfl, h1, h2⟩, hb⟩
 cases b with
 | false => rw [h] at h2; cases h2 rfl
 | true =>
  have e := h1 rfl; rw [h] at e
  cases e
  exact ⟨rfl, hb⟩
abbrev RefSt (w : World) (v1 v2 : Value) (cs : List Co) (ks : List Int) (W : World) : Prop := RSt 28 37 3 w v1 v2 cs ks W
set_option maxRecDepth 100000 in
set_option maxHeartbeats 8000000 in
theorem rscparse_any (S : ByteArray) (w : World) (hs : S.size ≤ 3000) :
    Calls Tryz.prog 28 #[.string S] w (ParsePost S.data.toList w) := by
 have hz : ¬ (1048576 : Int) < S.size := by omega
 obtain ⟨ic, ci, cz0, cz1, cz2⟩ := info_parts column_info; obtain ⟨ii, ki, kz0, kz1, kz2⟩ := info_parts int_info
 have hSl : S.data.toList.length = S.size := by simp
 have hzl : ¬ 1048576 < S.data.toList.length := by omega
 have HZL := Lib.hid hzl; clear hzl
 go_enter Tryz.func28, Tryz.ntmps28
 go_wp2_with fail
 obtain ⟨X, hX⟩ : ∃ X, X = (w.alloc (.cells #[.slice none 0 0, .slice none 0 0] 28)).alloc (.cells #[.slice none 0 0, .slice none 0 0] 28) := ⟨_, rfl⟩
 have hst0 : RefSt w (.slice none 0 0) (.slice none 0 0) [] [] X := by
  rw [hX]; have q1 := block_new (w.alloc (.cells #[.slice none 0 0, .slice none 0 0] 28)) (.cells #[.slice none 0 0, .slice none 0 0] 28); rw [World.size_alloc] at q1; exact ⟨block_next (block_new _ _) _, q1, World.ownsRow_nil _ _ _ _, World.ownsRow_nil _ _ _ _, ((Below.refl _ w).alloc (Nat.le_refl _) _).alloc (by simp only [World.size_alloc]; omega) _, by simp only [World.size_alloc]; omega⟩
 rw [← hX]; clear hX; have HST0 := Lib.hid hst0; clear hst0
 go_loopw [0, 6] (fun t id wr => ∃ (T : ByteArray) (cs : List Co) (ks : List Int) (v1 v2 : Value), t = .string T ∧ id = .int .i64 cs.length ∧ T.size + cs.length ≤ S.size ∧ ks.length ≤ cs.length ∧ (∀ c ∈ cs, coOk c = true) ∧ parseR S.data.toList = parseGo cs ks T.data.toList ∧ RefSt w v1 v2 cs ks wr) (fun t id _ => match t with | .string T => T.size | _ => 0)
 case atStart => exact ⟨S, [], [], _, _, rfl, rfl, by simp, by simp, by simp, rfl, HST0.out⟩
 case round =>
  obtain ⟨T, cs, ks, v1, v2, rfl, rfl, hTz, hkl, hok, hpg, hst⟩ := hrel; obtain ⟨A1, c1, hv1, hcc1, hcm1⟩ := yown_slice hst.o1; obtain ⟨A2, c2, hv2, hcc2, hcm2⟩ := yown_slice hst.o2; subst hv1; subst hv2
  have hTl : T.data.toList.length = T.size := by simp
  have y0 := cell_of_block (i := 0) hst.b0 rfl; have y1 := cell_of_block (i := 1) hst.b0 rfl; have f0 := frozen_of_block (i := 0) hst.b0; have f1 := frozen_of_block (i := 1) hst.b0; have x0 := cell_of_block (i := 0) hst.b1 rfl; have x1 := cell_of_block (i := 1) hst.b1 rfl
  by_cases hT : T.data.toList = []
  · obtain rfl : T = ⟨#[]⟩ := sba_ext hT; have hpr : parseR S.data.toList = (cs, ks, true) := hpg.trans (parseGo_nil cs ks); have hpd := parse_done (s := S.data.toList) HZL.out (by rw [hpr]); rw [hpr] at hpd; simp only at hpd; have hchk := rsccheck_any wr A1 A2 cs.length c1 ks.length c2 cs ks (fun c hc => by have := coOk_small (hok c hc); omega) (by omega) (by omega) rfl rfl hst.o1.lay.2 hst.o2.lay.2; unfold scCheck at hchk
    by_cases hsc : scOk cs ks = true
    · rw [if_pos hsc] at hpd hchk
      have HCHK := Lib.hid hchk; have HST := Lib.hid hst; have HPD := Lib.hid hpd
      clear hchk hst hpd hsc hpr hpg hok y0 y1 f0 f1 hT hTl hTz
      go_wp2_with fail
      refine HCHK.out.mono ?_; rintro en w1 ⟨rfl, b1⟩; have hs1 := HST.out.step b1; have S1 := Lib.hid hs1; have y0 := cell_of_block (i := 0) hs1.b0 rfl; have y1 := cell_of_block (i := 1) hs1.b0 rfl; have f0 := frozen_of_block (i := 0) hs1.b0; have f1 := frozen_of_block (i := 1) hs1.b0; have u0 := cell_of_block (i := 0) hs1.b1 rfl; have u1 := cell_of_block (i := 1) hs1.b1 rfl; clear hs1 x0 x1 b1
      go_wp2_with fail
      have hp := S1.out.put (.slice A1 cs.length c1) (.slice A2 ks.length c2); have z0 := cell_of_block (i := 0) hp.1 rfl; have z1 := cell_of_block (i := 1) hp.1 rfl; refine bodyPost_ret (v := .tuple #[.agg #[.slice A1 cs.length c1, .slice A2 ks.length c2], .int .i64 0, .int .i64 0]) (by simp [results, Tryz.results28, Tryz.f28, go_sem, z0, z1]) rfl ⟨A1, A2, c1, c2, ?_, ?_, ?_, hp.2.1⟩
      · rw [HPD.out]; rfl
      · rw [HPD.out]; exact hp.2.2.1.lay.2
      · rw [HPD.out]; exact hp.2.2.2.lay.2
    · rw [if_neg hsc] at hpd hchk
      have HCHK := Lib.hid hchk; have HST := Lib.hid hst; have HPD := Lib.hid hpd
      clear hchk hst hpd hsc hpr hpg hok y0 y1 f0 f1 hT hTl hTz
      go_wp2_with fail
      refine HCHK.out.mono ?_; rintro en w1 ⟨rfl, b1⟩; have hs1 := HST.out.step b1; have S1 := Lib.hid hs1; have y0 := cell_of_block (i := 0) hs1.b0 rfl; have y1 := cell_of_block (i := 1) hs1.b0 rfl; have f0 := frozen_of_block (i := 0) hs1.b0; have f1 := frozen_of_block (i := 1) hs1.b0; clear hs1 x0 x1 b1
      go_wp2_with fail
      have hp := S1.out.put (.slice none 0 0) (.slice none 0 0); have z0 := cell_of_block (i := 0) hp.1 rfl; have z1 := cell_of_block (i := 1) hp.1 rfl; refine bodyPost_ret (v := .tuple #[.agg #[.slice none 0 0, .slice none 0 0], .int .i64 0, .int .i64 2]) (by simp [results, Tryz.results28, Tryz.f28, go_sem, z0, z1]) rfl ⟨none, none, 0, 0, ?_, ?_, ?_, hp.2.1⟩
      · rw [HPD.out]; rfl
      · rw [HPD.out]; intro j u hu; simp [colV] at hu
      · rw [HPD.out]; intro j u hu; simp [intV] at hu
  · have hTq : ¬ T.toList = [] := fun e => hT (by rw [← Lib.toList_data]; exact e)
    have hTb : T.toList.isEmpty = false := by rw [List.isEmpty_eq_false_iff]; exact hTq
    cases hcut : cutAt 10 T.data.toList with
    | none =>
     obtain ⟨hq1, hq2⟩ := parseGo_miss (cs := cs) (ks := ks) hcut hT; have hpd := parse_halt (s := S.data.toList) HZL.out (by rw [hpg]; exact hq1); rw [hpg, hq2] at hpd
     have hc := fun w' => nlcut_miss (w := w') (S := T) (by omega) hcut
     have hcol := fun w' => rcolumn_no (w := w') (S := ⟨#[]⟩) (by decide) rfl
     have HCOL := Lib.hid hcol; have HC := Lib.hid hc; have HST := Lib.hid hst; have HPD := Lib.hid hpd
     clear hcol hc hst hpd hpg hok hT hTl hTz hq1 hq2 y0 y1 f0 f1 x0 x1 hcut
     go_wp2_with fail
     refine (HC.out _).mono ?_; rintro en w1 ⟨rfl, b1⟩; have S1 := Lib.hid (HST.out.step b1); clear b1
     go_wp2_with fail
     refine (HCOL.out _).mono ?_; rintro en w2 ⟨⟨c, k, rfl⟩, b2⟩; obtain ⟨i0, s0, ⟨k0, u0⟩, n0, m0, t0⟩ := c; simp only [coA]; have hs2 := (S1.out.step b2).step ((Below.refl _ w2).alloc (Nat.le_refl _) (.cells #[.int .i64 i0, .string s0, .int .i64 k0, .bool u0, .bool n0, .int .i64 m0, .string t0] 37)); have S2 := Lib.hid hs2; have y0 := cell_of_block (i := 0) hs2.b0 rfl; have y1 := cell_of_block (i := 1) hs2.b0 rfl; have f0 := frozen_of_block (i := 0) hs2.b0; have f1 := frozen_of_block (i := 1) hs2.b0; clear hs2 b2
     go_upto_region 8 with fail
     obtain ⟨Z, hZ⟩ : ∃ Z, Z = w2.alloc (.cells #[.int .i64 i0, .string s0, .int .i64 k0, .bool u0, .bool n0, .int .i64 m0, .string t0] 37) := ⟨_, rfl⟩; rw [← hZ] at S2 y0 y1 f0 f1 ⊢; clear hZ
     go_wp2_with fail
     have hp := S2.out.put (.slice none 0 0) (.slice none 0 0); have z0 := cell_of_block (i := 0) hp.1 rfl; have z1 := cell_of_block (i := 1) hp.1 rfl; refine bodyPost_ret (v := .tuple #[.agg #[.slice none 0 0, .slice none 0 0], .int .i64 cs.length, .int .i64 4]) (by simp [results, Tryz.results28, Tryz.f28, go_sem, z0, z1]) rfl ⟨none, none, 0, 0, ?_, ?_, ?_, hp.2.1⟩
     · rw [HPD.out]; rfl
     · rw [HPD.out]; intro j u hu; simp [colV] at hu
     · rw [HPD.out]; intro j u hu; simp [intV] at hu
    | some p =>
     obtain ⟨xl, yl⟩ := p; obtain ⟨hxy, hx10⟩ := cutAt_some hcut
     have hln : T.size = xl.length + 1 + yl.length := by rw [← hTl, hxy]; simp; omega
     obtain ⟨XB, hXB⟩ : ∃ B : ByteArray, B = ⟨xl.toArray⟩ := ⟨_, rfl⟩; obtain ⟨YB, hYB⟩ : ∃ B : ByteArray, B = ⟨yl.toArray⟩ := ⟨_, rfl⟩
     have hc := fun w' => nlcut_hit (w := w') (S := T) (by omega) hcut
     rw [← hXB, ← hYB] at hc
     have hXd : XB.data.toList = xl := by rw [hXB]
     have hYd : YB.data.toList = yl := by rw [hYB]
     have hXz : XB.size = xl.length := by rw [← hXd]; simp
     have hYz : YB.size = yl.length := by rw [← hYd]; simp
     cases hrd : readCo xl with
     | none =>
      obtain ⟨hq1, hq2⟩ := parseGo_no (cs := cs) (ks := ks) hcut hrd; have hpd := parse_halt (s := S.data.toList) HZL.out (by rw [hpg]; exact hq1); rw [hpg, hq2] at hpd
      have hcol := fun w' => rcolumn_no (w := w') (S := XB) (by omega) (by rw [hXd]; exact hrd)
      have HCOL := Lib.hid hcol; have HC := Lib.hid hc; have HST := Lib.hid hst; have HPD := Lib.hid hpd
      clear hcol hc hst hpd hpg hok hT hTl hTz hq1 hq2 y0 y1 f0 f1 x0 x1 hcut hrd hxy hx10 hln hXB hYB hXd hYd hXz hYz
      go_wp2_with fail
      refine (HC.out _).mono ?_; rintro en w1 ⟨rfl, b1⟩; have S1 := Lib.hid (HST.out.step b1); clear b1
      go_wp2_with fail
      refine (HCOL.out _).mono ?_; rintro en w2 ⟨⟨c, k, rfl⟩, b2⟩; obtain ⟨i0, s0, ⟨k0, u0⟩, n0, m0, t0⟩ := c; simp only [coA]; have hs2 := (S1.out.step b2).step ((Below.refl _ w2).alloc (Nat.le_refl _) (.cells #[.int .i64 i0, .string s0, .int .i64 k0, .bool u0, .bool n0, .int .i64 m0, .string t0] 37)); have S2 := Lib.hid hs2; have y0 := cell_of_block (i := 0) hs2.b0 rfl; have y1 := cell_of_block (i := 1) hs2.b0 rfl; have f0 := frozen_of_block (i := 0) hs2.b0; have f1 := frozen_of_block (i := 1) hs2.b0; clear hs2 b2
      go_upto_region 8 with fail
      obtain ⟨Z, hZ⟩ : ∃ Z, Z = w2.alloc (.cells #[.int .i64 i0, .string s0, .int .i64 k0, .bool u0, .bool n0, .int .i64 m0, .string t0] 37) := ⟨_, rfl⟩; rw [← hZ] at S2 y0 y1 f0 f1 ⊢; clear hZ
      go_wp2_with fail
      have hp := S2.out.put (.slice none 0 0) (.slice none 0 0); have z0 := cell_of_block (i := 0) hp.1 rfl; have z1 := cell_of_block (i := 1) hp.1 rfl; refine bodyPost_ret (v := .tuple #[.agg #[.slice none 0 0, .slice none 0 0], .int .i64 cs.length, .int .i64 4]) (by simp [results, Tryz.results28, Tryz.f28, go_sem, z0, z1]) rfl ⟨none, none, 0, 0, ?_, ?_, ?_, hp.2.1⟩
      · rw [HPD.out]; rfl
      · rw [HPD.out]; intro j u hu; simp [colV] at hu
      · rw [HPD.out]; intro j u hu; simp [intV] at hu
     | some cp =>
      obtain ⟨c, key⟩ := cp; have hgo := hpg.trans (parseGo_hit (cs := cs) (ks := ks) hcut hrd); have hco := (readCo_ok hrd).1
      have hcol := fun w' => rcolumn_yes (w := w') (S := XB) (by omega) (by rw [hXd]; exact hrd)
      have hok2 : ∀ d ∈ cs ++ [c], coOk d = true := fun d hd => by
       rcases List.mem_append.1 hd with h | h
       · exact hok d h
       · have : d = c := by simpa using h
         subst this; exact hco
      have hon := colV_one [c]; rw [show colV [c] = coV c by simp [colV]] at hon; obtain ⟨i0, s0, ⟨k0, u0⟩, n0, m0, t0⟩ := c
      have HCOL := Lib.hid hcol; have HC := Lib.hid hc; have HST := Lib.hid hst; have HGO := Lib.hid hgo; have HOK := Lib.hid hok2; have HONE := Lib.hid hon; have HYD := Lib.hid hYd; have HLN := Lib.hid hln; have HYZ := Lib.hid hYz; have HKL := Lib.hid hkl; have HTZ := Lib.hid hTz
      have hcl : cs.length ≤ 3000 := by omega
      have HCL := Lib.hid hcl; clear hcol hc hst hgo hok2 hon hYd hXd hXz hYz hXB hYB hln hxy hx10 hcut hrd hco hok hpg hT hTl y0 y1 f0 f1 x0 x1 hTz
      cases key with
      | false =>
       go_wp2_with fail
       refine (HC.out _).mono ?_; rintro en w1 ⟨rfl, b1⟩; have S1 := Lib.hid (HST.out.step b1); clear b1
       go_wp2_with fail
       refine (HCOL.out _).mono ?_; rintro en w2 ⟨rfl, b2⟩; simp only [coA]; have hs2 := (S1.out.step b2).step ((Below.refl _ w2).alloc (Nat.le_refl _) (.cells #[.int .i64 i0, .string s0, .int .i64 k0, .bool u0, .bool n0, .int .i64 m0, .string t0] 37)); have hq2 := block_new w2 (.cells #[.int .i64 i0, .string s0, .int .i64 k0, .bool u0, .bool n0, .int .i64 m0, .string t0] 37); have hsz : w.heap.size + 2 ≤ w2.heap.size := Nat.le_trans S1.out.hi b2.size; have hb2 := b2.size
       go_upto_region 8 with fail
       obtain ⟨Z, hZ⟩ : ∃ Z, Z = w2.alloc (.cells #[.int .i64 i0, .string s0, .int .i64 k0, .bool u0, .bool n0, .int .i64 m0, .string t0] 37) := ⟨_, rfl⟩; rw [← hZ] at hs2 hq2 ⊢
       have S2 := Lib.hid hs2; have Q2 := Lib.hid hq2
       have HZS := Lib.hid (show Z.heap.size = w2.heap.size + 1 by rw [hZ, World.size_alloc]); have x0 := cell_of_block (i := 0) hs2.b1 rfl; have x1 := cell_of_block (i := 1) hs2.b1 rfl; have g0 := frozen_of_block (i := 0) hs2.b1; have g1 := frozen_of_block (i := 1) hs2.b1; have p0 := cell_of_block (i := 0) hq2 rfl; have p1 := cell_of_block (i := 1) hq2 rfl; have p2 := cell_of_block (i := 2) hq2 rfl; have p3 := cell_of_block (i := 3) hq2 rfl; have p4 := cell_of_block (i := 4) hq2 rfl; have p5 := cell_of_block (i := 5) hq2 rfl; have p6 := cell_of_block (i := 6) hq2 rfl; clear hs2 hq2 hZ b2
       go_wp2_with (at_builtin; have hs5 := S2.out.step ((Below.refl _ _).alloc (Nat.le_refl _) (.cells #[.int .i64 i0, .string s0, .int .i64 k0, .bool u0, .bool n0, .int .i64 m0, .string t0] 37)); have hnew := lay_new Z (coV ((i0, s0, (k0, u0), n0, m0, t0) : Co)) 37; (try simp only [World.size_setCell] at hnew); refine wpList_append_lay rfl (.tmp 48) (.tmp 50) _ rfl (w.heap.size + 2) 37 ic _ 7 72 under_cols ci cz0 cz1 cz2 rfl (by omega) (.slice A1 cs.length c1) cs.length (colV cs) rfl hs5.o1 _ _ 1 1 (coV ((i0, s0, (k0, u0), n0, m0, t0) : Co)) rfl rfl hnew HONE.out (by have := HCL.out; unfold maxLen; omega) (by have := HCL.out; omega) hs5.hi ?_; intro v1' W5 hown hg; obtain ⟨A3, c3, e3, _⟩ := yown_slice hown; subst e3; have hp := hs5.cols (by decide) hown hg; have z0 := (hg.block _ (Array.getElem?_eq_some_iff.1 hs5.b1).1 (fun e => by have := (World.ownsRow.lt hs5.o1 _ e.symm).1; omega)).trans hs5.b1; have z1 := cell_of_block (i := 0) z0 rfl; have z2 := frozen_of_block (i := 0) z0; have HP5 := Lib.hid hp; clear hs5 hnew hown hg hp z0)
       go_roundw
       case rel => exact ⟨YB, cs ++ [((i0, s0, (k0, u0), n0, m0, t0) : Co)], ks, _, _, rfl, by rw [List.length_append]; exact congrArg (Value.int .i64) (by simp), by rw [List.length_append]; have := HLN.out; have := HYZ.out; have := HTZ.out; simp; omega, by rw [List.length_append]; have := HKL.out; simp; omega, HOK.out, by rw [HYD.out]; exact HGO.out, HP5.out⟩
       case measure => have := HLN.out; have := HYZ.out; simp; omega
      | true =>
       go_wp2_with fail
       refine (HC.out _).mono ?_; rintro en w1 ⟨rfl, b1⟩; have S1 := Lib.hid (HST.out.step b1); clear b1
       go_wp2_with fail
       refine (HCOL.out _).mono ?_; rintro en w2 ⟨rfl, b2⟩; simp only [coA]; have hs2 := (S1.out.step b2).step ((Below.refl _ w2).alloc (Nat.le_refl _) (.cells #[.int .i64 i0, .string s0, .int .i64 k0, .bool u0, .bool n0, .int .i64 m0, .string t0] 37)); have hq2 := block_new w2 (.cells #[.int .i64 i0, .string s0, .int .i64 k0, .bool u0, .bool n0, .int .i64 m0, .string t0] 37); have hsz : w.heap.size + 2 ≤ w2.heap.size := Nat.le_trans S1.out.hi b2.size; have hb2 := b2.size
       go_upto_region 8 with fail
       obtain ⟨Z, hZ⟩ : ∃ Z, Z = w2.alloc (.cells #[.int .i64 i0, .string s0, .int .i64 k0, .bool u0, .bool n0, .int .i64 m0, .string t0] 37) := ⟨_, rfl⟩; rw [← hZ] at hs2 hq2 ⊢
       have S2 := Lib.hid hs2; have Q2 := Lib.hid hq2
       have HZS := Lib.hid (show Z.heap.size = w2.heap.size + 1 by rw [hZ, World.size_alloc]); have x0 := cell_of_block (i := 0) hs2.b1 rfl; have x1 := cell_of_block (i := 1) hs2.b1 rfl; have g0 := frozen_of_block (i := 0) hs2.b1; have g1 := frozen_of_block (i := 1) hs2.b1; have p0 := cell_of_block (i := 0) hq2 rfl; have p1 := cell_of_block (i := 1) hq2 rfl; have p2 := cell_of_block (i := 2) hq2 rfl; have p3 := cell_of_block (i := 3) hq2 rfl; have p4 := cell_of_block (i := 4) hq2 rfl; have p5 := cell_of_block (i := 5) hq2 rfl; have p6 := cell_of_block (i := 6) hq2 rfl; clear hs2 hq2 hZ b2
       have HKS := HKL.out
       go_wp2_with (first
         | (at_builtin; have hs3 := S2.out.step ((Below.refl _ _).alloc (Nat.le_refl _) (.cells #[.int .i64 cs.length] 3)); have hnew := lay_new Z (intV [(cs.length : Int)]) 3; refine wpList_append_lay rfl (.tmp 42) (.tmp 44) _ rfl (w.heap.size + 2) 3 ii _ 1 8 under_ints ki kz0 kz1 kz2 rfl (by omega) (.slice A2 ks.length c2) ks.length (intV ks) rfl hs3.o2 _ _ 1 1 (intV [(cs.length : Int)]) rfl rfl hnew (intV_one _) (by have := HCL.out; unfold maxLen; omega) (by have := HCL.out; omega) hs3.hi ?_; intro v2' W3 hown hg; obtain ⟨A4, c4, e4, _⟩ := yown_slice hown; subst e4; have hp := hs3.keys (by decide) hown hg; have z0 := (hg.block _ (Array.getElem?_eq_some_iff.1 hs3.b1).1 (fun e => by have := (World.ownsRow.lt hs3.o2 _ e.symm).1; omega)).trans hs3.b1; have z1 := cell_of_block (i := 1) z0 rfl; have z2 := frozen_of_block (i := 1) z0; have x5 := cell_of_block (i := 0) z0 rfl; have cb := (hg.block w2.heap.size (by have := HZS.out; simp only [World.size_alloc]; omega) (fun e => by have := (World.ownsRow.lt S1.out.o2 _ e.symm).2; omega)).trans (block_next Q2.out _); have cb0 := cell_of_block (i := 0) cb rfl; have cb1 := cell_of_block (i := 1) cb rfl; have cb2 := cell_of_block (i := 2) cb rfl; have cb3 := cell_of_block (i := 3) cb rfl; have cb4 := cell_of_block (i := 4) cb rfl; have cb5 := cell_of_block (i := 5) cb rfl; have cb6 := cell_of_block (i := 6) cb rfl; have HP3 := Lib.hid hp; clear hs3 hnew hown hg hp z0 cb)
         | (at_builtin; have hs5 := HP3.out.step ((Below.refl _ _).alloc (Nat.le_refl _) (.cells #[.int .i64 i0, .string s0, .int .i64 k0, .bool u0, .bool n0, .int .i64 m0, .string t0] 37)); have hnew := lay_new (W3.setCell ⟨w.heap.size + 1, 1, none⟩ (.slice A4 (ks.length + 1) c4)) (coV ((i0, s0, (k0, u0), n0, m0, t0) : Co)) 37; (try simp only [World.size_setCell] at hnew); refine wpList_append_lay rfl (.tmp 48) (.tmp 50) _ rfl (w.heap.size + 2) 37 ic _ 7 72 under_cols ci cz0 cz1 cz2 rfl (by omega) (.slice A1 cs.length c1) cs.length (colV cs) rfl hs5.o1 _ _ 1 1 (coV ((i0, s0, (k0, u0), n0, m0, t0) : Co)) rfl rfl hnew HONE.out (by have := HCL.out; unfold maxLen; omega) (by have := HCL.out; omega) hs5.hi ?_; intro v1' W5 hown hg; obtain ⟨A3, c3, e3, _⟩ := yown_slice hown; subst e3; have hp := hs5.cols (by decide) hown hg; have z0 := (hg.block _ (Array.getElem?_eq_some_iff.1 hs5.b1).1 (fun e => by have := (World.ownsRow.lt hs5.o1 _ e.symm).1; omega)).trans hs5.b1; have z1 := cell_of_block (i := 0) z0 rfl; have z2 := frozen_of_block (i := 0) z0; have HP5 := Lib.hid hp; clear hs5 hnew hown hg hp z0))
       go_roundw
       case rel => exact ⟨YB, cs ++ [((i0, s0, (k0, u0), n0, m0, t0) : Co)], ks ++ [(cs.length : Int)], _, _, rfl, by rw [List.length_append]; exact congrArg (Value.int .i64) (by simp), by rw [List.length_append]; have := HLN.out; have := HYZ.out; have := HTZ.out; simp; omega, by rw [List.length_append, List.length_append]; have := HKL.out; simp; omega, HOK.out, by rw [HYD.out]; exact HGO.out, HP5.out⟩
       case measure => have := HLN.out; have := HYZ.out; simp; omega
end Go.Proofs.YthlinmkengoliaaGreatDoor
set_option linter.unusedSimpArgs false
namespace Go.Proofs.YthlinmkengoliaaGreatDoor
open Go.RowKit Go.Ms Go.Lib
theorem rparse_is {S : ByteArray} {w : World} {D : List Co × List Int × Nat × Int} (hs : S.size ≤ 3000) (h : parseD S.data.toList = D) {n m : Nat} {l : Int} (hn : D.1.length = n) (hm : D.2.1.length = m) (hl : ((D.2.2.1 : Nat) : Int) = l) :
    Calls Tryz.prog 28 #[.string S] w fun e w' => ∃ (A B : Option Addr) (c d : Nat), e = .returned (.tuple #[.agg #[.slice A n c, .slice B m d], .int .i64 l, .int .i64 D.2.2.2]) ∧ Lay w' w'.heap.size A (colV D.1) ∧ Lay w' w'.heap.size B (intV D.2.1) ∧ Below w.heap.size w w' := by
 subst h hn hm hl; exact rscparse_any S w hs
set_option maxRecDepth 100000 in
set_option maxHeartbeats 8000000 in
theorem schemaTexts_walk (A : Option Addr) (n c : Nat) (cs : List Co) (K : Option Addr) (m d : Nat) (ks : List Int) (S : ByteArray) (w : World)
    (hc : n ≤ c) (kc : c ≤ maxLen) (lc : cs.length = n) (ec : Ext w w.heap.size A (colV cs)) (ic : ∀ c ∈ cs, ColIn c) (hk : m ≤ d) (kk : d ≤ maxLen) (lk : ks.length = m) (ek : Ext w w.heap.size K (intV ks)) (hS : S.size ≤ maxLen) (hE : Env w) :
    Calls Tryz.prog 5 #[.agg #[.slice A n c, .slice K m d], .string S] w fun e w' => e = .returned (.bool true) ∧ Below w.heap.size w w' := by
 unfold maxLen at hS; obtain ⟨a, ha⟩ : ∃ a : Nat, a = min S.size 3000 := ⟨_, rfl⟩
 have ma : min (S.size : Int) 3000 = (a : Int) := by omega
 have la : (a : Int) ≤ S.size := by omega
 have la0 : (0 : Int) ≤ (a : Int) := by omega
 have la1 : a ≤ S.size := by omega
 obtain ⟨T, hT⟩ : ∃ T, T = S.extract 0 a := ⟨_, rfl⟩
 have hTz : T.size ≤ 3000 := by rw [hT, ByteArray.size_extract]; omega
 have hf1 := fun (w1 : World) (h : Below w.heap.size w w1) => few11_any w1 A K n c m d cs ks hc kc lc ((ec.keep h).more h.size) hk kk lk ((ek.keep h).more h.size)
 obtain ⟨N, hN⟩ : ∃ N, min n 40 = N := ⟨_, rfl⟩; obtain ⟨M, hM⟩ : ∃ M, min m 12 = M := ⟨_, rfl⟩; rw [hN, hM] at hf1; have hsm := scut_small ic
 have hl1 : (scut cs).length = N := by rw [scut_len]; omega
 have hl2 : (ks.take 12).length = M := by rw [List.length_take]; omega
 have hz : N ≤ 40 ∧ M ≤ 12 := by omega
 change ∀ (w1 : World), Below w.heap.size w w1 → Calls _ _ _ w1 fun e w' => ∃ A' c' B' d', e = _ ∧ OwnCo w' w1.heap.size _ _ (scut cs) ∧ _ at hf1
 generalize scut cs = xs at hf1 hsm hl1
 generalize ks.take 12 = xk at hf1 hl2
 obtain ⟨TX, hTX⟩ : ∃ t : ByteArray, t = ⟨(scText xs xk).toArray⟩ := ⟨_, rfl⟩; obtain ⟨er, her⟩ : ∃ e, e = scCheck xs xk := ⟨_, rfl⟩; obtain ⟨⟨cs2, ks2, n2, e2⟩, hD⟩ : ∃ D, parseD T.data.toList = D := ⟨_, rfl⟩; obtain ⟨p1, hp1⟩ : ∃ p, cs2.length = p := ⟨_, rfl⟩; obtain ⟨p2, hp2⟩ : ∃ p, ks2.length = p := ⟨_, rfl⟩; obtain ⟨l, hl⟩ : ∃ l : Int, (n2 : Int) = l := ⟨_, rfl⟩
 have hps := fun wq (hb : Below w.heap.size w wq) => parse_is (S := T) (w := wq) (by omega) (hE.below hb) hD hp1 hp2 hl
 have hpr := fun wq => rparse_is (S := T) (w := wq) hTz hD hp1 hp2 hl
 simp only at hps hpr
 have htx := fun wq A3 c3 K3 d3 (h : ScL wq A3 K3 xs xk) (hb : Below w.heap.size w wq) => sctext_any wq A3 K3 N c3 M d3 xs xk (fun c hc => ⟨(hsm c hc).1, (hsm c hc).2.1⟩) (by omega) (by omega) hl1.symm hl2.symm h.a h.b (hE.below hb)
 have hrx := fun wq A3 c3 K3 d3 (h : ScL wq A3 K3 xs xk) => rsctext_any wq A3 K3 N c3 M d3 xs xk hsm (by omega) (by omega) hl1.symm hl2.symm h.a h.b
 rw [← hTX, ← her] at htx hrx
 have hss := fun wq A3 c3 K3 d3 A4 c4 K4 d4 (h : ScL wq A3 K3 xs xk) (h' : ScL wq A4 K4 xs xk) => rscsame_any wq A3 K3 A4 K4 N c3 M d3 N c4 M d4 xs xs xk xk (by unfold maxLen; omega) (by unfold maxLen; omega) (by unfold maxLen; omega) (by unfold maxLen; omega) hl1.symm hl2.symm hl1.symm hl2.symm h.a h.b h'.a h'.b
 have hz2 : p1 ≤ 3000 ∧ p2 ≤ 3000 := by
  by_cases h0 : e2 = 0
  · subst h0; obtain ⟨h1, h2, h3⟩ := parse_text hD; have h4 := (scOk_iff cs2 ks2).1 h3; have h5 := h4.most; have h6 := h4.keys; omega
  · obtain ⟨h1, h2, h3⟩ := parse_none (s := T.data.toList) (by rw [hD]; exact h0); rw [hD] at h1 h2; simp only at h1 h2; subst h1; subst h2
    simp at hp1 hp2
    omega
 have hsd := fun wq A3 c3 K3 d3 A4 c4 K4 d4 (h : ScL wq A3 K3 cs2 ks2) (h' : ScL wq A4 K4 cs2 ks2) => rscsame_any wq A3 K3 A4 K4 p1 c3 p2 d3 p1 c4 p2 d4 cs2 cs2 ks2 ks2 (by unfold maxLen; omega) (by unfold maxLen; omega) (by unfold maxLen; omega) (by unfold maxLen; omega) hp1.symm hp2.symm hp1.symm hp2.symm h.a h.b h'.a h'.b
 simp only [decide_true, Bool.and_self] at hss hsd
 have hcp := fun wq A3 c3 K3 d3 (h : ScL wq A3 K3 xs xk) => rsccopy_any wq A3 K3 N c3 M d3 xs xk (by omega) (by omega) hl1.symm hl2.symm h.a h.b
 have hb0 : Below w.heap.size w (w.alloc (.cells #[.slice A n c, .slice K m d] 28)) := (Below.refl _ w).alloc (Nat.le_refl _) _; have q3 := block_new w (.cells #[.slice A n c, .slice K m d] 28)
 have HF1 := Lib.hid hf1; have B0 := Lib.hid hb0; have Q30 := Lib.hid q3; have HE := Lib.hid hE; have HT := Lib.hid hT; have HPS := Lib.hid hps; have HPR := Lib.hid hpr; have HTX := Lib.hid htx; have HRX := Lib.hid hrx; have HSS := Lib.hid hss; have HSD := Lib.hid hsd; have HCP := Lib.hid hcp
 have heq := str_beq TX TX; rw [decide_eq_true rfl] at heq; clear hf1 hb0 q3 hE hS hT hps hpr htx hrx hss hsd hcp hc kc lc ec ic hk kk lk ek hN hM hsm hl1 hl2 hz hTX her hD hp1 hp2 hl hz2 hTz ha
 go_enter Tryz.func5, Tryz.ntmps5
 go_wp2_with fail
 refine (HF1.out _ B0.out).mono ?_; rintro en w5 ⟨A3, c3, K3, d3, rfl, o1, o2, b5⟩; have q5 := block_kept Q30.out b5
 have hw : w.heap.size < (w.alloc (.cells #[.slice A n c, .slice K m d] 28)).heap.size := by rw [World.size_alloc]; omega
 have y0 := cell_of_block (i := 0) q5 rfl; have y1 := cell_of_block (i := 1) q5 rfl; have f0 := frozen_of_block (i := 0) q5; have f1 := frozen_of_block (i := 1) q5; have x3 := two_set1 (two_set0 q5 (.slice A3 N c3)) (.slice K3 M d3); have os := ScL.own (own_set' (own_set' o1 hw (i := 0) (.slice A3 N c3)) hw (i := 1) (.slice K3 M d3)) (own_set' (own_set' o2 hw (i := 0) (.slice A3 N c3)) hw (i := 1) (.slice K3 M d3))
 have bc := ((B0.out.trans (b5.mono B0.out.size)).setCell (p := ⟨w.heap.size, 0, none⟩) (Nat.le_refl _) (.slice A3 N c3)).setCell (p := ⟨w.heap.size, 1, none⟩) (Nat.le_refl _) (.slice K3 M d3)
 have X3 := Lib.hid x3; have OS := Lib.hid os; have BC := Lib.hid bc
 clear x3 os bc o1 o2 b5 q5 hw
 go_upto_region 2 with fail
 obtain ⟨W, hW⟩ : ∃ W, W = (w5.setCell ⟨w.heap.size, 0, none⟩ (.slice A3 N c3)).setCell ⟨w.heap.size, 1, none⟩ (.slice K3 M d3) := ⟨_, rfl⟩; rw [← hW] at X3 OS BC ⊢; clear hW y0 y1 f0 f1; have y0 := cell_of_block (i := 0) X3.out rfl; have y1 := cell_of_block (i := 1) X3.out rfl
 go_wp2_with fail
 rw [← HT.out]; refine (HCP.out _ _ _ _ _ OS.out).mono ?_; rintro en w7 ⟨A7, c7, K7, d7, rfl, o7, p7, b7⟩; have bx7 : Below w7.heap.size w7 (w7.alloc (.cells #[.slice A7 N c7, .slice K7 M d7] 28)) := (Below.refl _ _).alloc (Nat.le_refl _) _; have x3 := block_kept (block_kept X3.out b7) bx7; have x7 := block_new w7 (.cells #[.slice A7 N c7, .slice K7 M d7] 28); have os := (OS.out.below b7).below bx7; have ow := (ScL.own o7 p7).below bx7; have bc := (BC.out.trans (b7.mono BC.out.size)).trans (bx7.mono (BC.out.trans (b7.mono BC.out.size)).size); clear y0 y1 X3 OS BC o7 p7 b7 bx7
 have y0 := cell_of_block (i := 0) x3 rfl; have y1 := cell_of_block (i := 1) x3 rfl
 have X3 := Lib.hid x3; have X7 := Lib.hid x7; have OS := Lib.hid os; have OW := Lib.hid ow; have BC := Lib.hid bc
 clear x3 x7 os ow bc
 go_wp2_with fail
 refine (HTX.out _ _ _ _ _ OS.out BC.out).mono ?_; rintro en w8 ⟨rfl, b8⟩
 have X38 := Lib.hid (block_kept X3.out b8); have X78 := Lib.hid (block_kept X7.out b8); have OS8 := Lib.hid (OS.out.below b8); have OW8 := Lib.hid (OW.out.below b8); have BC8 := Lib.hid (BC.out.trans (b8.mono BC.out.size))
 clear y0 y1 b8 X3 X7 OS OW BC; have y0 := cell_of_block (i := 0) X78.out rfl; have y1 := cell_of_block (i := 1) X78.out rfl
 go_wp2_with fail
 refine (HRX.out _ _ _ _ _ OW8.out).mono ?_; rintro en w9 ⟨rfl, b9⟩
 have X3 := Lib.hid (block_kept X38.out b9); have X7 := Lib.hid (block_kept X78.out b9); have OS := Lib.hid (OS8.out.below b9); have OW := Lib.hid (OW8.out.below b9); have BC := Lib.hid (BC8.out.trans (b9.mono BC8.out.size))
 clear y0 y1 b9 X38 X78 OS8 OW8 BC8
 go_wp2_with fail
 refine (HPS.out _ BC.out).mono ?_; rintro en w10 ⟨A8, B8, c8, d8, rfl, l1, l2, b10⟩; have bx8 : Below w10.heap.size w10 (w10.alloc (.cells #[.slice A8 p1 c8, .slice B8 p2 d8] 28)) := (Below.refl _ _).alloc (Nat.le_refl _) _
 have X38 := Lib.hid (block_kept (block_kept X3.out b10) bx8); have X78 := Lib.hid (block_kept (block_kept X7.out b10) bx8); have OS8 := Lib.hid ((OS.out.below b10).below bx8); have OW8 := Lib.hid ((OW.out.below b10).below bx8); have BC8 := Lib.hid ((BC.out.trans (b10.mono BC.out.size)).trans (bx8.mono (BC.out.trans (b10.mono BC.out.size)).size))
 have X88 := Lib.hid (block_new w10 (.cells #[.slice A8 p1 c8, .slice B8 p2 d8] 28)); have OC8 := Lib.hid ((ScL.mk l1 l2).below bx8)
 clear b10 bx8 X3 X7 OS OW BC l1 l2
 go_wp2_with fail
 refine (HPR.out _).mono ?_; rintro en w11 ⟨A9, B9, c9, d9, rfl, l1, l2, b11⟩; obtain ⟨Z, hZ⟩ : ∃ Z, Z = w11.alloc (.cells #[.slice A9 p1 c9, .slice B9 p2 d9] 28) := ⟨_, rfl⟩
 have bx9 : Below w11.heap.size w11 Z := by rw [hZ]; exact (Below.refl _ _).alloc (Nat.le_refl _) _
 have x3 := block_kept (block_kept X38.out b11) bx9; have x7 := block_kept (block_kept X78.out b11) bx9; have x8 := block_kept (block_kept X88.out b11) bx9
 have x9 : Z.heap[w11.heap.size]? = some (.cells #[.slice A9 p1 c9, .slice B9 p2 d9] 28 (0, 0)) := by rw [hZ]; exact block_new _ _
 have OS := Lib.hid ((OS8.out.below b11).below bx9); have OW := Lib.hid ((OW8.out.below b11).below bx9); have OC := Lib.hid ((OC8.out.below b11).below bx9); have OD := Lib.hid ((ScL.mk l1 l2).below bx9)
 have BC := Lib.hid ((BC8.out.trans (b11.mono BC8.out.size)).trans (bx9.mono (BC8.out.trans (b11.mono BC8.out.size)).size))
 have X3 := Lib.hid x3; have X7 := Lib.hid x7; have X8 := Lib.hid x8; have X9 := Lib.hid x9
 clear b11 bx9 l1 l2 X38 X78 X88 OS8 OW8 OC8 BC8
 go_upto_region 8 with fail
 rw [← hZ]; clear hZ; have y0 := cell_of_block (i := 0) x3 rfl; have y1 := cell_of_block (i := 1) x3 rfl; have y2 := cell_of_block (i := 0) x7 rfl; have y3 := cell_of_block (i := 1) x7 rfl; clear x3 x7 x8 x9
 go_wp2_with fail
 refine (HSS.out _ _ _ _ _ _ _ _ _ OS.out OW.out).mono ?_; rintro en w12 ⟨rfl, b12⟩
 have OC2 := Lib.hid (OC.out.below b12); have OD2 := Lib.hid (OD.out.below b12); have BC2 := Lib.hid (BC.out.trans (b12.mono BC.out.size))
 have y4 := cell_of_block (i := 0) (block_kept X8.out b12) rfl; have y5 := cell_of_block (i := 1) (block_kept X8.out b12) rfl; have y6 := cell_of_block (i := 0) (block_kept X9.out b12) rfl; have y7 := cell_of_block (i := 1) (block_kept X9.out b12) rfl; clear b12 y0 y1 y2 y3
 go_wp2_with fail
 refine (HSD.out _ _ _ _ _ _ _ _ _ OC2.out OD2.out).mono ?_; rintro en w13 ⟨rfl, b13⟩; have BC3 := Lib.hid (BC2.out.trans (b13.mono BC2.out.size)); clear b13 y4 y5 y6 y7
 go_wp2_with fail
 refine (works_any _ (HE.out.below BC3.out)).mono ?_; rintro en w14 ⟨rfl, b14⟩; have BC4 := Lib.hid (BC3.out.trans (b14.mono BC3.out.size)); clear b14
 go_wp2_with fail
 go_ret
 exact ⟨rfl, BC4.out⟩
end Go.Proofs.YthlinmkengoliaaGreatDoor
