/- Schemas: the reference's column of a line, walked. -/
import Derived.Test.YthlinmkengoliaaGreatDoorZTx
import Derived.Test.YthlinmkengoliaaGreatDoorZWa
import Derived.Test.YthlinmkengoliaaGreatDoorZSd
import Derived.Test.YthlinmkengoliaaGreatDoorZSa2
set_option linter.unusedVariables false
set_option linter.unusedSimpArgs false
namespace Go.Ms
open Go.RowKit Go.Lib
theorem seven_set {w : World} {b : Nat} {v0 v1 v2 v3 v4 v5 v6 : Value} {T : TypeId} (h : w.heap[b]? = some (.cells #[v0, v1, v2, v3, v4, v5, v6] T (0, 0))) (x0 x1 x2 x3 x4 x5 x6 : Value) :
    (((((((w.setCell ⟨b, 0, none⟩ x0).setCell ⟨b, 1, none⟩ x1).setCell ⟨b, 2, none⟩ x2).setCell ⟨b, 3, none⟩ x3).setCell ⟨b, 4, none⟩ x4).setCell ⟨b, 5, none⟩ x5).setCell ⟨b, 6, none⟩ x6).heap[b]? = some (.cells #[x0, x1, x2, x3, x4, x5, x6] T (0, 0)) := by
 simp [World.setCell, Array.getElem?_modify, h]
theorem seven_two {w : World} {b : Nat} {v0 v1 v2 v3 v4 v5 v6 : Value} {T : TypeId} (h : w.heap[b]? = some (.cells #[v0, v1, v2, v3, v4, v5, v6] T (0, 0))) (x2 x3 : Value) :
    ((w.setCell ⟨b, 2, none⟩ x2).setCell ⟨b, 3, none⟩ x3).heap[b]? = some (.cells #[v0, v1, x2, x3, v4, v5, v6] T (0, 0)) := by
 simp [World.setCell, Array.getElem?_modify, h]
theorem seven_three {w : World} {b : Nat} {v0 v1 v2 v3 v4 v5 v6 : Value} {T : TypeId} (h : w.heap[b]? = some (.cells #[v0, v1, v2, v3, v4, v5, v6] T (0, 0))) (x4 x5 x6 : Value) :
    (((w.setCell ⟨b, 4, none⟩ x4).setCell ⟨b, 5, none⟩ x5).setCell ⟨b, 6, none⟩ x6).heap[b]? = some (.cells #[v0, v1, v2, v3, x4, x5, x6] T (0, 0)) := by
 simp [World.setCell, Array.getElem?_modify, h]
end Go.Ms
namespace Go.Proofs.YthlinmkengoliaaGreatDoor
open Go.RowKit Go.Ms Go.Lib
theorem scut_hit {S : ByteArray} {x y : Bs} {w : World} (hs : S.size ≤ 9000000) (h : cutAt 32 S.data.toList = some (x, y)) :
    Calls Tryz.prog 66 #[.string S, .int .u8 32] w fun e w' => e = .returned (.tuple #[.string ⟨x.toArray⟩, .string ⟨y.toArray⟩, .bool true]) ∧ Below w.heap.size w w' := by
 have := scut_any S 32 w hs; rw [h] at this; exact this
theorem scut_miss {S : ByteArray} {w : World} (hs : S.size ≤ 9000000) (h : cutAt 32 S.data.toList = none) :
    Calls Tryz.prog 66 #[.string S, .int .u8 32] w fun e w' => e = .returned (.tuple #[.string ⟨#[]⟩, .string ⟨#[]⟩, .bool false]) ∧ Below w.heap.size w w' := by
 have := scut_any S 32 w hs; rw [h] at this; exact this
theorem scut_empty (w : World) : Calls Tryz.prog 66 #[.string ⟨#[]⟩, .int .u8 32] w fun e w' => e = .returned (.tuple #[.string ⟨#[]⟩, .string ⟨#[]⟩, .bool false]) ∧ Below w.heap.size w w' := scut_miss (by decide) rfl
def RcolPost (S : Bs) (w : World) (e : Ending) (w' : World) : Prop := (∃ c k b, e = .returned (.tuple #[coA c, .bool k, .bool b]) ∧ (b = true → readCo S = some (c, k)) ∧ (b = false → readCo S = none)) ∧ Below w.heap.size w w'
set_option maxRecDepth 100000 in
set_option maxHeartbeats 8000000 in
theorem rcolumn_any (S : ByteArray) (w : World) (hs : S.size ≤ 3100) : Calls Tryz.prog 67 #[.string S] w (RcolPost S.data.toList w) := by
 have q0 : (w.alloc (.cells #[.int .i64 0, .string ⟨#[]⟩, .int .i64 0, .bool false, .bool false, .int .i64 0, .string ⟨#[]⟩] 37)).heap[w.heap.size]? = some (.cells #[.int .i64 0, .string ⟨#[]⟩, .int .i64 0, .bool false, .bool false, .int .i64 0, .string ⟨#[]⟩] 37 (0, 0)) := block_new _ _; have b0 : Below w.heap.size w (w.alloc (.cells #[.int .i64 0, .string ⟨#[]⟩, .int .i64 0, .bool false, .bool false, .int .i64 0, .string ⟨#[]⟩] 37)) := (Below.refl _ w).alloc (Nat.le_refl _) _
 have hl : S.data.toList.length = S.size := by simp
 have Q0 := Lib.hid q0; have B0 := Lib.hid b0
 clear q0 b0
 cases h1 : cutAt 32 S.data.toList with
 | none =>
  obtain ⟨I0, hI⟩ : ∃ I, idOf (ByteArray.mk #[]).data.toList = I := ⟨_, rfl⟩
  have hnum := fun w' => snumber_any ⟨#[]⟩ w' (by decide)
  rw [hI] at hnum
  have hnm0 := fun w' => risname_any ⟨#[]⟩ w' (by decide)
  have HNUM := Lib.hid hnum; have H1 := Lib.hid h1
  clear hnum hI h1 hl hnm0
  go_enter Tryz.func67, Tryz.ntmps67
  go_wp2_with fail
  refine (scut_miss (by omega) H1.out).mono ?_; rintro en w1 ⟨rfl, b1⟩
  have Q1 := Lib.hid (block_kept Q0.out b1); have B1 := Lib.hid (B0.out.trans (b1.mono B0.out.size))
  clear b1
  go_wp2_with fail
  refine (scut_empty _).mono ?_; rintro en w2 ⟨rfl, b2⟩
  have Q2 := Lib.hid (block_kept Q1.out b2); have B2 := Lib.hid (B1.out.trans (b2.mono B1.out.size))
  clear b2
  go_wp2_with fail
  refine (scut_empty _).mono ?_; rintro en w3 ⟨rfl, b3⟩
  have Q3 := Lib.hid (block_kept Q2.out b3); have B3 := Lib.hid (B2.out.trans (b3.mono B2.out.size))
  clear b3
  go_wp2_with fail
  refine (HNUM.out _).mono ?_; rintro en w4 ⟨rfl, b4⟩
  have Q4 := Lib.hid (block_kept Q3.out b4); have B4 := Lib.hid (B3.out.trans (b4.mono B3.out.size))
  clear b4; have f0 := frozen_of_block (i := 0) Q4.out; have y0 := cell_of_block (i := 0) Q4.out rfl; have f1 := frozen_of_block (i := 1) Q4.out; have y1 := cell_of_block (i := 1) Q4.out rfl; have f2 := frozen_of_block (i := 2) Q4.out; have y2 := cell_of_block (i := 2) Q4.out rfl; have f3 := frozen_of_block (i := 3) Q4.out; have y3 := cell_of_block (i := 3) Q4.out rfl; have f4 := frozen_of_block (i := 4) Q4.out; have y4 := cell_of_block (i := 4) Q4.out rfl; have f5 := frozen_of_block (i := 5) Q4.out; have y5 := cell_of_block (i := 5) Q4.out rfl; have f6 := frozen_of_block (i := 6) Q4.out
  have y6 := cell_of_block (i := 6) Q4.out rfl
  have hno : readCo S.data.toList = none := by unfold readCo; rw [H1.out]
  have HNO := Lib.hid hno; clear hno
  go_wp2_with fail
  have z := seven_set Q4.out (.int .i64 0) (.string ⟨#[]⟩) (.int .i64 0) (.bool false) (.bool false) (.int .i64 0) (.string ⟨#[]⟩); have z0 := cell_of_block (i := 0) z rfl; have z1 := cell_of_block (i := 1) z rfl; have z2 := cell_of_block (i := 2) z rfl; have z3 := cell_of_block (i := 3) z rfl; have z4 := cell_of_block (i := 4) z rfl; have z5 := cell_of_block (i := 5) z rfl; have z6 := cell_of_block (i := 6) z rfl
  refine bodyPost_ret (v := .tuple #[coA zCo, .bool false, .bool false]) (by simp [results, Tryz.results67, go_sem, coA, zCo, z0, z1, z2, z3, z4, z5, z6]) rfl ⟨⟨zCo, false, false, rfl, (fun h => by cases h), fun _ => HNO.out⟩, ?_⟩; exact B4.out.grown (grown7 _ _ 0 _ _ _ _ _ _ _) B4.out.size (fun k e => by cases e; exact Nat.le_refl _)
 | some p1 =>
  obtain ⟨ia, r1⟩ := p1; have hx1 := (cutAt_lt h1).1; have hd1 := (cutAt_lt h1).2.2
  have hr1l : r1.length ≤ 3100 := by rw [← hd1, List.length_drop]; omega
  obtain ⟨IB, hIB⟩ : ∃ IB : ByteArray, IB = ⟨ia.toArray⟩ := ⟨_, rfl⟩; obtain ⟨R1, hR1⟩ : ∃ R : ByteArray, R = ⟨r1.toArray⟩ := ⟨_, rfl⟩
  have hc1 := fun w' => scut_hit (w := w') (by omega) h1
  rw [← hIB, ← hR1] at hc1
  have hib : IB.data.toList = ia := by rw [hIB]
  have hr1 : R1.data.toList = r1 := by rw [hR1]
  have hibz : IB.size ≤ 3100 := by have e : IB.data.toList.length = IB.size := by simp
                                   rw [hib] at e; omega
  have hr1z : R1.size ≤ 3100 := by have e : R1.data.toList.length = R1.size := by simp
                                   rw [hr1] at e; omega
  obtain ⟨I0, hI⟩ : ∃ I, idOf IB.data.toList = I := ⟨_, rfl⟩
  have hnum := fun w' => snumber_any IB w' (by omega)
  rw [hI] at hnum
  have HNUM := Lib.hid hnum; have H1 := Lib.hid h1; have HC1 := Lib.hid hc1; have HI := Lib.hid hI; have HIB := Lib.hid hib; have HR1 := Lib.hid hr1
  clear hnum hI h1 hl hc1 hIB hR1 hib hr1 hd1 hx1
  cases h2 : cutAt 32 r1 with
  | none =>
   have h2' : cutAt 32 R1.data.toList = none := by rw [HR1.out]; exact h2
   have H2 := Lib.hid h2'; have H2' := Lib.hid h2
   clear h2 h2'
   go_enter Tryz.func67, Tryz.ntmps67
   go_wp2_with fail
   refine (HC1.out _).mono ?_; rintro en w1 ⟨rfl, b1⟩
   have Q1 := Lib.hid (block_kept Q0.out b1); have B1 := Lib.hid (B0.out.trans (b1.mono B0.out.size))
   clear b1
   go_wp2_with fail
   refine (scut_miss (by omega) H2.out).mono ?_; rintro en w2 ⟨rfl, b2⟩
   have Q2 := Lib.hid (block_kept Q1.out b2); have B2 := Lib.hid (B1.out.trans (b2.mono B1.out.size))
   clear b2
   go_wp2_with fail
   refine (scut_empty _).mono ?_; rintro en w3 ⟨rfl, b3⟩
   have Q3 := Lib.hid (block_kept Q2.out b3); have B3 := Lib.hid (B2.out.trans (b3.mono B2.out.size))
   clear b3
   go_wp2_with fail
   refine (HNUM.out _).mono ?_; rintro en w4 ⟨rfl, b4⟩
   have Q4 := Lib.hid (block_kept Q3.out b4); have B4 := Lib.hid (B3.out.trans (b4.mono B3.out.size))
   clear b4; have f0 := frozen_of_block (i := 0) Q4.out; have y0 := cell_of_block (i := 0) Q4.out rfl; have f1 := frozen_of_block (i := 1) Q4.out; have y1 := cell_of_block (i := 1) Q4.out rfl; have f2 := frozen_of_block (i := 2) Q4.out; have y2 := cell_of_block (i := 2) Q4.out rfl; have f3 := frozen_of_block (i := 3) Q4.out; have y3 := cell_of_block (i := 3) Q4.out rfl; have f4 := frozen_of_block (i := 4) Q4.out; have y4 := cell_of_block (i := 4) Q4.out rfl; have f5 := frozen_of_block (i := 5) Q4.out; have y5 := cell_of_block (i := 5) Q4.out rfl; have f6 := frozen_of_block (i := 6) Q4.out
   have y6 := cell_of_block (i := 6) Q4.out rfl
   have hno : readCo S.data.toList = none := by unfold readCo; rw [H1.out]; simp only; rw [H2'.out]
   have HNO := Lib.hid hno; clear hno
   go_wp2_with fail
   have z := seven_set Q4.out (.int .i64 0) (.string ⟨#[]⟩) (.int .i64 0) (.bool false) (.bool false) (.int .i64 0) (.string ⟨#[]⟩); have z0 := cell_of_block (i := 0) z rfl; have z1 := cell_of_block (i := 1) z rfl; have z2 := cell_of_block (i := 2) z rfl; have z3 := cell_of_block (i := 3) z rfl; have z4 := cell_of_block (i := 4) z rfl; have z5 := cell_of_block (i := 5) z rfl; have z6 := cell_of_block (i := 6) z rfl
   refine bodyPost_ret (v := .tuple #[coA zCo, .bool false, .bool false]) (by simp [results, Tryz.results67, go_sem, coA, zCo, z0, z1, z2, z3, z4, z5, z6]) rfl ⟨⟨zCo, false, false, rfl, (fun h => by cases h), fun _ => HNO.out⟩, ?_⟩; exact B4.out.grown (grown7 _ _ 0 _ _ _ _ _ _ _) B4.out.size (fun k e => by cases e; exact Nat.le_refl _)
  | some p2 =>
   obtain ⟨na, r2⟩ := p2; have hx2 := (cutAt_lt h2).1; have hd2 := (cutAt_lt h2).2.2
   have hr2l : r2.length ≤ 3100 := by rw [← hd2, List.length_drop]; omega
   obtain ⟨NB, hNB⟩ : ∃ NB : ByteArray, NB = ⟨na.toArray⟩ := ⟨_, rfl⟩; obtain ⟨R2, hR2⟩ : ∃ R : ByteArray, R = ⟨r2.toArray⟩ := ⟨_, rfl⟩
   have hc2 := fun w' => scut_hit (S := R1) (x := na) (y := r2) (w := w') (by omega) (by rw [HR1.out]; exact h2)
   rw [← hNB, ← hR2] at hc2
   have hnb : NB.data.toList = na := by rw [hNB]
   have hr2 : R2.data.toList = r2 := by rw [hR2]
   have hnbz : NB.size ≤ 3100 := by have e : NB.data.toList.length = NB.size := by simp
                                    rw [hnb] at e; omega
   have hr2z : R2.size ≤ 3100 := by have e : R2.data.toList.length = R2.size := by simp
                                    rw [hr2] at e; omega
   have H2 := Lib.hid h2; have HC2 := Lib.hid hc2; have HNB := Lib.hid hnb; have HR2 := Lib.hid hr2; have HNBE := Lib.hid hNB
   clear h2 hc2 hNB hR2 hnb hr2 hd2 hx2 hr1l
   cases h3 : cutAt 32 r2 with
   | none =>
    have h3' : cutAt 32 R2.data.toList = none := by rw [HR2.out]; exact h3
    have H3 := Lib.hid h3'; have H3' := Lib.hid h3
    clear h3 h3'
    go_enter Tryz.func67, Tryz.ntmps67
    go_wp2_with fail
    refine (HC1.out _).mono ?_; rintro en w1 ⟨rfl, b1⟩
    have Q1 := Lib.hid (block_kept Q0.out b1); have B1 := Lib.hid (B0.out.trans (b1.mono B0.out.size))
    clear b1
    go_wp2_with fail
    refine (HC2.out _).mono ?_; rintro en w2 ⟨rfl, b2⟩
    have Q2 := Lib.hid (block_kept Q1.out b2); have B2 := Lib.hid (B1.out.trans (b2.mono B1.out.size))
    clear b2
    go_wp2_with fail
    refine (scut_miss (by omega) H3.out).mono ?_; rintro en w3 ⟨rfl, b3⟩
    have Q3 := Lib.hid (block_kept Q2.out b3); have B3 := Lib.hid (B2.out.trans (b3.mono B2.out.size))
    clear b3
    go_wp2_with fail
    refine (HNUM.out _).mono ?_; rintro en w4 ⟨rfl, b4⟩
    have Q4 := Lib.hid (block_kept Q3.out b4); have B4 := Lib.hid (B3.out.trans (b4.mono B3.out.size))
    clear b4; have f0 := frozen_of_block (i := 0) Q4.out; have y0 := cell_of_block (i := 0) Q4.out rfl; have f1 := frozen_of_block (i := 1) Q4.out; have y1 := cell_of_block (i := 1) Q4.out rfl; have f2 := frozen_of_block (i := 2) Q4.out; have y2 := cell_of_block (i := 2) Q4.out rfl; have f3 := frozen_of_block (i := 3) Q4.out; have y3 := cell_of_block (i := 3) Q4.out rfl; have f4 := frozen_of_block (i := 4) Q4.out; have y4 := cell_of_block (i := 4) Q4.out rfl; have f5 := frozen_of_block (i := 5) Q4.out; have y5 := cell_of_block (i := 5) Q4.out rfl; have f6 := frozen_of_block (i := 6) Q4.out
    have y6 := cell_of_block (i := 6) Q4.out rfl
    have hno : readCo S.data.toList = none := by unfold readCo; rw [H1.out]; simp only; rw [H2.out]; simp only; rw [H3'.out]
    have HNO := Lib.hid hno; clear hno
    go_wp2_with fail
    have z := seven_set Q4.out (.int .i64 0) (.string ⟨#[]⟩) (.int .i64 0) (.bool false) (.bool false) (.int .i64 0) (.string ⟨#[]⟩); have z0 := cell_of_block (i := 0) z rfl; have z1 := cell_of_block (i := 1) z rfl; have z2 := cell_of_block (i := 2) z rfl; have z3 := cell_of_block (i := 3) z rfl; have z4 := cell_of_block (i := 4) z rfl; have z5 := cell_of_block (i := 5) z rfl; have z6 := cell_of_block (i := 6) z rfl
    refine bodyPost_ret (v := .tuple #[coA zCo, .bool false, .bool false]) (by simp [results, Tryz.results67, go_sem, coA, zCo, z0, z1, z2, z3, z4, z5, z6]) rfl ⟨⟨zCo, false, false, rfl, (fun h => by cases h), fun _ => HNO.out⟩, ?_⟩; exact B4.out.grown (grown7 _ _ 0 _ _ _ _ _ _ _) B4.out.size (fun k e => by cases e; exact Nat.le_refl _)
   | some p3 =>
    obtain ⟨ka, ta⟩ := p3; have hx3 := (cutAt_lt h3).1; have hd3 := (cutAt_lt h3).2.2
    have hr3l : ta.length ≤ 3100 := by rw [← hd3, List.length_drop]; omega
    obtain ⟨KB, hKB⟩ : ∃ KB : ByteArray, KB = ⟨ka.toArray⟩ := ⟨_, rfl⟩; obtain ⟨TB, hTB⟩ : ∃ R : ByteArray, R = ⟨ta.toArray⟩ := ⟨_, rfl⟩
    have hc3 := fun w' => scut_hit (S := R2) (x := ka) (y := ta) (w := w') (by omega) (by rw [HR2.out]; exact h3)
    rw [← hKB, ← hTB] at hc3
    have hkb : KB.data.toList = ka := by rw [hKB]
    have htb : TB.data.toList = ta := by rw [hTB]
    have hkbz : KB.size ≤ 3100 := by have e : KB.data.toList.length = KB.size := by simp
                                     rw [hkb] at e; omega
    have htbz : TB.size ≤ 3100 := by have e : TB.data.toList.length = TB.size := by simp
                                     rw [htb] at e; omega
    have hread : readCo S.data.toList = coRead ia na ka ta := by unfold readCo; rw [H1.out]; simp only; rw [H2.out]; simp only; rw [h3]
    rw [coRead_rk] at hread
    have HC3 := Lib.hid hc3; have HKB := Lib.hid hkb; have HTB := Lib.hid htb; have HRD := Lib.hid hread
    clear h3 hc3 hKB hTB hkb htb hd3 hx3 hr2l hread
    have hnm := fun w' => risname_any NB w' (by omega)
    obtain ⟨nm, hNM⟩ : ∃ b, isNm NB.data.toList = b := ⟨_, rfl⟩; rw [hNM] at hnm
    have HNM := Lib.hid hNM; have HNMC := Lib.hid hnm
    clear hNM hnm
    by_cases hi0 : I0 < 0
    ·
      go_enter Tryz.func67, Tryz.ntmps67
      go_wp2_with fail
      refine (HC1.out _).mono ?_; rintro en w1 ⟨rfl, b1⟩
      have Q1 := Lib.hid (block_kept Q0.out b1); have B1 := Lib.hid (B0.out.trans (b1.mono B0.out.size))
      clear b1
      go_wp2_with fail
      refine (HC2.out _).mono ?_; rintro en w2 ⟨rfl, b2⟩
      have Q2 := Lib.hid (block_kept Q1.out b2); have B2 := Lib.hid (B1.out.trans (b2.mono B1.out.size))
      clear b2
      go_wp2_with fail
      refine (HC3.out _).mono ?_; rintro en w3 ⟨rfl, b3⟩
      have Q3 := Lib.hid (block_kept Q2.out b3); have B3 := Lib.hid (B2.out.trans (b3.mono B2.out.size))
      clear b3
      go_wp2_with fail
      refine (HNUM.out _).mono ?_; rintro en w4 ⟨rfl, b4⟩
      have Q4 := Lib.hid (block_kept Q3.out b4); have B4 := Lib.hid (B3.out.trans (b4.mono B3.out.size))
      clear b4; have f0 := frozen_of_block (i := 0) Q4.out; have y0 := cell_of_block (i := 0) Q4.out rfl; have f1 := frozen_of_block (i := 1) Q4.out; have y1 := cell_of_block (i := 1) Q4.out rfl; have f2 := frozen_of_block (i := 2) Q4.out; have y2 := cell_of_block (i := 2) Q4.out rfl; have f3 := frozen_of_block (i := 3) Q4.out; have y3 := cell_of_block (i := 3) Q4.out rfl; have f4 := frozen_of_block (i := 4) Q4.out; have y4 := cell_of_block (i := 4) Q4.out rfl; have f5 := frozen_of_block (i := 5) Q4.out; have y5 := cell_of_block (i := 5) Q4.out rfl; have f6 := frozen_of_block (i := 6) Q4.out
      have y6 := cell_of_block (i := 6) Q4.out rfl
      have hno : readCo S.data.toList = none := by rw [HRD.out, if_neg (by have := HI.out; rw [HIB.out] at this; omega)]
      have HNO := Lib.hid hno; clear hno
      go_wp2_with fail
      have z := seven_set Q4.out (.int .i64 0) (.string ⟨#[]⟩) (.int .i64 0) (.bool false) (.bool false) (.int .i64 0) (.string ⟨#[]⟩); have z0 := cell_of_block (i := 0) z rfl; have z1 := cell_of_block (i := 1) z rfl; have z2 := cell_of_block (i := 2) z rfl; have z3 := cell_of_block (i := 3) z rfl; have z4 := cell_of_block (i := 4) z rfl; have z5 := cell_of_block (i := 5) z rfl; have z6 := cell_of_block (i := 6) z rfl
      refine bodyPost_ret (v := .tuple #[coA zCo, .bool false, .bool false]) (by simp [results, Tryz.results67, go_sem, coA, zCo, z0, z1, z2, z3, z4, z5, z6]) rfl ⟨⟨zCo, false, false, rfl, (fun h => by cases h), fun _ => HNO.out⟩, ?_⟩; exact B4.out.grown (grown7 _ _ 0 _ _ _ _ _ _ _) B4.out.size (fun k e => by cases e; exact Nat.le_refl _)
    cases nm with
    | false =>
     go_enter Tryz.func67, Tryz.ntmps67
     go_wp2_with fail
     refine (HC1.out _).mono ?_; rintro en w1 ⟨rfl, b1⟩
     have Q1 := Lib.hid (block_kept Q0.out b1); have B1 := Lib.hid (B0.out.trans (b1.mono B0.out.size))
     clear b1
     go_wp2_with fail
     refine (HC2.out _).mono ?_; rintro en w2 ⟨rfl, b2⟩
     have Q2 := Lib.hid (block_kept Q1.out b2); have B2 := Lib.hid (B1.out.trans (b2.mono B1.out.size))
     clear b2
     go_wp2_with fail
     refine (HC3.out _).mono ?_; rintro en w3 ⟨rfl, b3⟩
     have Q3 := Lib.hid (block_kept Q2.out b3); have B3 := Lib.hid (B2.out.trans (b3.mono B2.out.size))
     clear b3
     go_wp2_with fail
     refine (HNUM.out _).mono ?_; rintro en w3x ⟨rfl, b4⟩
     have Q3x := Lib.hid (block_kept Q3.out b4); have B3x := Lib.hid (B3.out.trans (b4.mono B3.out.size))
     clear b4
     go_wp2_with fail
     refine (HNMC.out _).mono ?_; rintro en w4 ⟨rfl, b5⟩
     have Q4 := Lib.hid (block_kept Q3x.out b5); have B4 := Lib.hid (B3x.out.trans (b5.mono B3x.out.size))
     clear b5; have f0 := frozen_of_block (i := 0) Q4.out; have y0 := cell_of_block (i := 0) Q4.out rfl; have f1 := frozen_of_block (i := 1) Q4.out; have y1 := cell_of_block (i := 1) Q4.out rfl; have f2 := frozen_of_block (i := 2) Q4.out; have y2 := cell_of_block (i := 2) Q4.out rfl; have f3 := frozen_of_block (i := 3) Q4.out; have y3 := cell_of_block (i := 3) Q4.out rfl; have f4 := frozen_of_block (i := 4) Q4.out; have y4 := cell_of_block (i := 4) Q4.out rfl; have f5 := frozen_of_block (i := 5) Q4.out; have y5 := cell_of_block (i := 5) Q4.out rfl; have f6 := frozen_of_block (i := 6) Q4.out
     have y6 := cell_of_block (i := 6) Q4.out rfl
     have hno : readCo S.data.toList = none := by rw [HRD.out, if_neg (by have := HNM.out; rw [HNB.out] at this; rw [this]; simp)]
     have HNO := Lib.hid hno; clear hno
     go_wp2_with fail
     have z := seven_set Q4.out (.int .i64 0) (.string ⟨#[]⟩) (.int .i64 0) (.bool false) (.bool false) (.int .i64 0) (.string ⟨#[]⟩); have z0 := cell_of_block (i := 0) z rfl; have z1 := cell_of_block (i := 1) z rfl; have z2 := cell_of_block (i := 2) z rfl; have z3 := cell_of_block (i := 3) z rfl; have z4 := cell_of_block (i := 4) z rfl; have z5 := cell_of_block (i := 5) z rfl; have z6 := cell_of_block (i := 6) z rfl
     refine bodyPost_ret (v := .tuple #[coA zCo, .bool false, .bool false]) (by simp [results, Tryz.results67, go_sem, coA, zCo, z0, z1, z2, z3, z4, z5, z6]) rfl ⟨⟨zCo, false, false, rfl, (fun h => by cases h), fun _ => HNO.out⟩, ?_⟩; exact B4.out.grown (grown7 _ _ 0 _ _ _ _ _ _ _) B4.out.size (fun k e => by cases e; exact Nat.le_refl _)
    | true =>
     go_enter Tryz.func67, Tryz.ntmps67
     go_wp2_with fail
     refine (HC1.out _).mono ?_; rintro en w1 ⟨rfl, b1⟩
     have Q1 := Lib.hid (block_kept Q0.out b1); have B1 := Lib.hid (B0.out.trans (b1.mono B0.out.size))
     clear b1
     go_wp2_with fail
     refine (HC2.out _).mono ?_; rintro en w2 ⟨rfl, b2⟩
     have Q2 := Lib.hid (block_kept Q1.out b2); have B2 := Lib.hid (B1.out.trans (b2.mono B1.out.size))
     clear b2
     go_wp2_with fail
     refine (HC3.out _).mono ?_; rintro en w3 ⟨rfl, b3⟩
     have Q3 := Lib.hid (block_kept Q2.out b3); have B3 := Lib.hid (B2.out.trans (b3.mono B2.out.size))
     clear b3
     go_wp2_with fail
     refine (HNUM.out _).mono ?_; rintro en w3x ⟨rfl, b4⟩
     have Q3x := Lib.hid (block_kept Q3.out b4); have B3x := Lib.hid (B3.out.trans (b4.mono B3.out.size))
     clear b4
     go_wp2_with fail
     refine (HNMC.out _).mono ?_; rintro en w4 ⟨rfl, b5⟩
     have Q4 := Lib.hid (block_kept Q3x.out b5); have B4 := Lib.hid (B3x.out.trans (b5.mono B3x.out.size))
     clear b5; have hlt4 : w.heap.size < w4.heap.size := (Array.getElem?_eq_some_iff.1 Q4.out).1; have s4 : Below w4.heap.size w4 (w4.alloc (.cells #[.int .i64 I0, .string NB, .int .i64 0, .bool false, .bool false, .int .i64 0, .string ⟨#[]⟩] 37)) := (Below.refl _ _).alloc (Nat.le_refl _) _
     have QB := Lib.hid (block_kept Q4.out s4); have QN := Lib.hid (block_new w4 (.cells #[.int .i64 I0, .string NB, .int .i64 0, .bool false, .bool false, .int .i64 0, .string ⟨#[]⟩] 37)); have BN := Lib.hid (B4.out.trans (s4.mono B4.out.size))
     clear s4
     go_wp2_with fail
     go_loopw [13, 14] (fun key id wr => ∃ j : Nat, j ≤ 5 ∧ id = .int .i64 ((j : Int) + 1) ∧ key = .bool (rkGo ka j).2 ∧ wr.heap[w4.heap.size]? = some (.cells #[.int .i64 I0, .string NB, .int .i64 (rkGo ka j).1.1, .bool (rkGo ka j).1.2, .bool false, .int .i64 0, .string ⟨#[]⟩] 37 (0, 0)) ∧ wr.heap[w.heap.size]? = some (.cells #[.int .i64 0, .string ⟨#[]⟩, .int .i64 0, .bool false, .bool false, .int .i64 0, .string ⟨#[]⟩] 37 (0, 0)) ∧ Below w.heap.size w wr) (fun key id _ => (6 - RowKit.intOf id).toNat)
     case atStart => exact ⟨0, by omega, rfl, rfl, QN.out, QB.out, BN.out⟩
     case round =>
      obtain ⟨j, hj, rfl, rfl, q12, q2, hbr⟩ := hrel; have hlen12 : w4.heap.size < wr.heap.size := (Array.getElem?_eq_some_iff.1 q12).1
      have Q12 := Lib.hid q12; have Q2 := Lib.hid q2; have BR := Lib.hid hbr
      clear q12 q2 hbr
      by_cases hj5 : j < 5
      · have hji : (j : Int) + 1 < 6 := by omega
        have hj0 : (0 : Int) ≤ (j : Int) := by omega
        have hwd := fun w' => sword_any ((j : Int) + 1) w'
        have hwl := wordOf_len ((j : Int) + 1); obtain ⟨WD, hWD⟩ : ∃ WD : ByteArray, WD = ⟨(wordOf ((j : Int) + 1)).toArray⟩ := ⟨_, rfl⟩; rw [← hWD] at hwd
        have hwz : WD.size ≤ 6 := by rw [hWD]; exact hwl
        have hwdl : WD.data.toList = wordOf ((j : Int) + 1) := by rw [hWD]
        have hwlen : (wordOf ((j : Int) + 1)).length = WD.size := by rw [hWD]; exact List.size_toArray.symm
        have hklen : ka.length = KB.size := by rw [← HKB.out]; simp
        have HWDC := Lib.hid hwd; clear hwd hwl hWD
        have hcast : ((j + 1 : Nat) : Int) = (j : Int) + 1 := by omega
        have hhit : rkHit ka (j + 1) = true ↔ ∃ m, moreOk m = true ∧ ka = wordOf ((j : Int) + 1) ++ m := by rw [rkHit_iff, hcast]
        go_wp2_with fail
        refine (HWDC.out _).mono ?_; rintro en w6 ⟨rfl, bw⟩; have BW := Lib.hid bw; have q6 := block_kept Q12.out bw; have v2 := cell_of_block (i := 2) q6 rfl; have v3 := cell_of_block (i := 3) q6 rfl; have f2 := frozen_of_block (i := 2) q6; have f3 := frozen_of_block (i := 3) q6
        have HWL := Lib.hid hwlen; have HCS := Lib.hid hcast
        clear bw q6
        by_cases hsz : KB.size < WD.size
        · have h1 : ¬ (WD.size : Int) ≤ (KB.size : Int) := by omega
          have hgo : rkGo ka (j + 1) = rkGo ka j := by
           show (if rkHit ka (j + 1) = true then _ else rkGo ka j) = _
           rw [if_neg]
           intro h
           obtain ⟨mm, hmm, hka⟩ := hhit.1 h; have := congrArg List.length hka; rw [List.length_append] at this; omega
          have HGO := Lib.hid hgo; clear hgo hhit; clear hsz hwlen hcast
          go_wp2_with fail
          go_roundw
          case rel => exact ⟨j + 1, by omega, by go_num, by rw [HGO.out], by rw [HGO.out]; exact block_kept Q12.out BW.out, block_kept Q2.out BW.out, BR.out.trans (BW.out.mono BR.out.size)⟩
          case measure => first | (simp [RowKit.intOf]; done) | (simp [RowKit.intOf]; omega)
        · have h1 : (WD.size : Int) ≤ (KB.size : Int) := by omega
          have h1n : WD.size ≤ KB.size := by omega
          have h1p : (0 : Int) ≤ (WD.size : Int) := by omega
          have htk : (KB.extract 0 WD.size).data.toList = ka.take WD.size := by rw [← HKB.out]; simp [List.extract]
          have hmb : (KB.extract WD.size KB.size).data.toList = ka.drop WD.size := by rw [← HKB.out]; simp [List.extract]; rw [List.take_of_length_le (by simp)]
          have hq := str_beq (KB.extract 0 WD.size) WD
          by_cases hpre : KB.extract 0 WD.size = WD
          · rw [decide_eq_true hpre] at hq
            have hka : ka = wordOf ((j : Int) + 1) ++ ka.drop WD.size := by
             conv => lhs; rw [← List.take_append_drop WD.size ka]
             rw [← htk, hpre, hwdl]
            obtain ⟨MS, hMS⟩ : ∃ m, ka.drop WD.size = m := ⟨_, rfl⟩; rw [hMS] at hmb hka
            by_cases hmo : moreOk MS = true
            · unfold moreOk at hmo; simp only [Bool.or_eq_true, decide_eq_true_eq] at hmo; rw [← hwlen] at hMS; have hfin : ka.drop (wordOf ((j : Int) + 1)).length = MS := hMS
              rcases hmo with ((hm | hm) | hm) | hm
              · have em : KB.extract WD.size KB.size = ⟨#[]⟩ := by apply sba_ext; rw [hmb, hm]
                have hgo : rkGo ka (j + 1) = ((((j + 1 : Nat) : Int), false), false) := by
                 show (if rkHit ka (j + 1) = true then ((((j + 1 : Nat) : Int), moreNull (ka.drop (wordOf (j + 1 : Nat)).length)), moreKey (ka.drop (wordOf (j + 1 : Nat)).length)) else _) = _
                 rw [if_pos (hhit.2 ⟨MS, by rw [hm]; decide, hka⟩), hcast, hfin, hm]; rfl
                have HGO := Lib.hid hgo; clear hgo hhit hm hka hmb hpre hMS hfin htk hwlen hcast
                go_wp2_with fail
                go_roundw
                case rel => exact ⟨j + 1, by omega, by go_num, by rw [HGO.out], by rw [HGO.out]; exact seven_two (block_kept Q12.out BW.out) _ _, far_set (far_set (block_kept Q2.out BW.out) (by omega) _) (by omega) _, ((BR.out.trans (BW.out.mono BR.out.size)).setCell (p := ⟨w4.heap.size, 2, none⟩) (by simp only; omega) _).setCell (p := ⟨w4.heap.size, 3, none⟩) (by simp only; omega) _⟩
                case measure => first | (simp [RowKit.intOf]; done) | (simp [RowKit.intOf]; omega)
              · have em : KB.extract WD.size KB.size = ⟨#[63]⟩ := by apply sba_ext; rw [hmb, hm]
                have hgo : rkGo ka (j + 1) = ((((j + 1 : Nat) : Int), true), false) := by
                 show (if rkHit ka (j + 1) = true then ((((j + 1 : Nat) : Int), moreNull (ka.drop (wordOf (j + 1 : Nat)).length)), moreKey (ka.drop (wordOf (j + 1 : Nat)).length)) else _) = _
                 rw [if_pos (hhit.2 ⟨MS, by rw [hm]; decide, hka⟩), hcast, hfin, hm]; rfl
                have HGO := Lib.hid hgo; clear hgo hhit hm hka hmb hpre hMS hfin htk hwlen hcast
                go_wp2_with fail
                go_roundw
                case rel => exact ⟨j + 1, by omega, by go_num, by rw [HGO.out], by rw [HGO.out]; exact seven_two (block_kept Q12.out BW.out) _ _, far_set (far_set (block_kept Q2.out BW.out) (by omega) _) (by omega) _, ((BR.out.trans (BW.out.mono BR.out.size)).setCell (p := ⟨w4.heap.size, 2, none⟩) (by simp only; omega) _).setCell (p := ⟨w4.heap.size, 3, none⟩) (by simp only; omega) _⟩
                case measure => first | (simp [RowKit.intOf]; done) | (simp [RowKit.intOf]; omega)
              · have em : KB.extract WD.size KB.size = ⟨#[42]⟩ := by apply sba_ext; rw [hmb, hm]
                have hgo : rkGo ka (j + 1) = ((((j + 1 : Nat) : Int), false), true) := by
                 show (if rkHit ka (j + 1) = true then ((((j + 1 : Nat) : Int), moreNull (ka.drop (wordOf (j + 1 : Nat)).length)), moreKey (ka.drop (wordOf (j + 1 : Nat)).length)) else _) = _
                 rw [if_pos (hhit.2 ⟨MS, by rw [hm]; decide, hka⟩), hcast, hfin, hm]; rfl
                have HGO := Lib.hid hgo; clear hgo hhit hm hka hmb hpre hMS hfin htk hwlen hcast
                go_wp2_with fail
                go_roundw
                case rel => exact ⟨j + 1, by omega, by go_num, by rw [HGO.out], by rw [HGO.out]; exact seven_two (block_kept Q12.out BW.out) _ _, far_set (far_set (block_kept Q2.out BW.out) (by omega) _) (by omega) _, ((BR.out.trans (BW.out.mono BR.out.size)).setCell (p := ⟨w4.heap.size, 2, none⟩) (by simp only; omega) _).setCell (p := ⟨w4.heap.size, 3, none⟩) (by simp only; omega) _⟩
                case measure => first | (simp [RowKit.intOf]; done) | (simp [RowKit.intOf]; omega)
              · have em : KB.extract WD.size KB.size = ⟨#[63, 42]⟩ := by apply sba_ext; rw [hmb, hm]
                have hgo : rkGo ka (j + 1) = ((((j + 1 : Nat) : Int), true), true) := by
                 show (if rkHit ka (j + 1) = true then ((((j + 1 : Nat) : Int), moreNull (ka.drop (wordOf (j + 1 : Nat)).length)), moreKey (ka.drop (wordOf (j + 1 : Nat)).length)) else _) = _
                 rw [if_pos (hhit.2 ⟨MS, by rw [hm]; decide, hka⟩), hcast, hfin, hm]; rfl
                have HGO := Lib.hid hgo; clear hgo hhit hm hka hmb hpre hMS hfin htk hwlen hcast
                go_wp2_with fail
                go_roundw
                case rel => exact ⟨j + 1, by omega, by go_num, by rw [HGO.out], by rw [HGO.out]; exact seven_two (block_kept Q12.out BW.out) _ _, far_set (far_set (block_kept Q2.out BW.out) (by omega) _) (by omega) _, ((BR.out.trans (BW.out.mono BR.out.size)).setCell (p := ⟨w4.heap.size, 2, none⟩) (by simp only; omega) _).setCell (p := ⟨w4.heap.size, 3, none⟩) (by simp only; omega) _⟩
                case measure => first | (simp [RowKit.intOf]; done) | (simp [RowKit.intOf]; omega)
            · obtain ⟨MB, em⟩ : ∃ MB, KB.extract WD.size KB.size = MB := ⟨_, rfl⟩
              have hml : MB.toList = MS := by rw [← em, Lib.toList_data, hmb]
              have hmo2 : MS ≠ [] ∧ MS ≠ [63] ∧ MS ≠ [42] ∧ MS ≠ [63, 42] := by
               unfold moreOk at hmo; simp only [Bool.or_eq_true, decide_eq_true_eq, not_or] at hmo; exact ⟨hmo.1.1.1, hmo.1.1.2, hmo.1.2, hmo.2⟩
              rw [← hml] at hmo2; have n0 : ¬ MB.toList = [] := hmo2.1
              have n0' : MB.toList.isEmpty = false := by rw [List.isEmpty_eq_false_iff]; exact n0
              have n1 : (MB.toList == [63]) = false := by rw [beq_eq_false_iff_ne]; exact hmo2.2.1
              have n2 : (MB.toList == [42]) = false := by rw [beq_eq_false_iff_ne]; exact hmo2.2.2.1
              have n3 : (MB.toList == [63, 42]) = false := by rw [beq_eq_false_iff_ne]; exact hmo2.2.2.2
              have n1' : ¬ MB.toList = [63] := hmo2.2.1; have n2' : ¬ MB.toList = [42] := hmo2.2.2.1; have n3' : ¬ MB.toList = [63, 42] := hmo2.2.2.2
              have hgo : rkGo ka (j + 1) = rkGo ka j := by
               show (if rkHit ka (j + 1) = true then _ else rkGo ka j) = _
               rw [if_neg]
               intro h
               obtain ⟨mm, hmm, hka2⟩ := hhit.1 h; rw [hka] at hka2; exact hmo (by rw [List.append_cancel_left hka2]; exact hmm)
              have HGO := Lib.hid hgo; clear hgo hhit; clear hmo hmo2 hml hka hmb hMS htk hwlen hcast hpre
              go_wp2_with fail
              go_roundw
              case rel => exact ⟨j + 1, by omega, by go_num, by rw [HGO.out], by rw [HGO.out]; exact block_kept Q12.out BW.out, block_kept Q2.out BW.out, BR.out.trans (BW.out.mono BR.out.size)⟩
              case measure => first | (simp [RowKit.intOf]; done) | (simp [RowKit.intOf]; omega)
          · rw [decide_eq_false hpre] at hq
            have hgo : rkGo ka (j + 1) = rkGo ka j := by
             show (if rkHit ka (j + 1) = true then _ else rkGo ka j) = _
             rw [if_neg]
             intro h
             obtain ⟨mm, hmm, hka⟩ := hhit.1 h
             apply hpre
             have e2 : (KB.extract 0 WD.size).data.toList = WD.data.toList := by rw [htk, hka, ← hwlen, hwdl]; simp
             rw [sba_ext e2]
            have HGO := Lib.hid hgo; clear hgo hhit; clear hpre hmb htk hwlen hcast
            go_wp2_with fail
            go_roundw
            case rel => exact ⟨j + 1, by omega, by go_num, by rw [HGO.out], by rw [HGO.out]; exact block_kept Q12.out BW.out, block_kept Q2.out BW.out, BR.out.trans (BW.out.mono BR.out.size)⟩
            case measure => first | (simp [RowKit.intOf]; done) | (simp [RowKit.intOf]; omega)
      · have hji : ¬ (j : Int) + 1 < 6 := by omega
        obtain rfl : j = 5 := by omega
        obtain ⟨⟨⟨kd, nl⟩, ky⟩, hrk⟩ : ∃ x, rkGo ka 5 = x := ⟨_, rfl⟩; rw [hrk] at Q12 ⊢; simp only at Q12 ⊢; have hread := HRD.out; rw [← rk_eq, hrk] at hread; simp only at hread
        have hid : idOf ia = I0 := by rw [← HIB.out]; exact HI.out
        have hnmt : isNm na = true := by rw [← HNB.out]; exact HNM.out
        rw [hid, hnmt, ← HNBE.out] at hread; obtain ⟨⟨⟨nu, n, sx⟩, er⟩, hD⟩ : ∃ D, kReadD kd nl ta = D := ⟨_, rfl⟩; rw [hD] at hread
        have hrr := fun w' => rread_any kd nl TB w' (by omega)
        rw [HTB.out, hD] at hrr; obtain ⟨SX, hSX⟩ : ∃ SX : ByteArray, SX = ⟨sx.toArray⟩ := ⟨_, rfl⟩
        have hrv : readV ((nu, n, sx), er) = .tuple #[.agg #[.bool nu, .int .i64 n, .string SX], .int .i64 er] := by rw [hSX]; rfl
        rw [hrv] at hrr
        have hun : unCl (nu, n, sx) = (nu, n, SX) := by rw [hSX]; rfl
        simp only [hun] at hread; have y2 := cell_of_block (i := 2) Q12.out rfl; have y3 := cell_of_block (i := 3) Q12.out rfl
        have HRR := Lib.hid hrr; have HRE := Lib.hid hread
        clear hread hid hnmt hD hrr hSX hrv hun hrk
        go_wp2_with fail
        refine (HRR.out _).mono ?_; rintro en w6 ⟨rfl, b6⟩; obtain ⟨X, hX⟩ : ∃ X, X = w6.alloc (.cells #[.bool nu, .int .i64 n, .string SX] 35) := ⟨_, rfl⟩
        have s6 : Below w6.heap.size w6 X := by rw [hX]; exact (Below.refl _ _).alloc (Nat.le_refl _) _
        have c17 : X.heap[w6.heap.size]? = some (.cells #[.bool nu, .int .i64 n, .string SX] 35 (0, 0)) := by rw [hX]; exact block_new _ _
        have t0 := cell_of_block (i := 0) c17 rfl; have t1 := cell_of_block (i := 1) c17 rfl; have t2 := cell_of_block (i := 2) c17 rfl
        have ne1 : w4.heap.size ≠ w6.heap.size := by have := b6.size; omega
        have ne3 : w.heap.size ≠ w4.heap.size := by omega
        have c12 := block_kept (block_kept Q12.out b6) s6; have c2 := block_kept (block_kept Q2.out b6) s6; have BE := Lib.hid ((BR.out.trans (b6.mono BR.out.size)).trans (s6.mono (BR.out.trans (b6.mono BR.out.size)).size))
        have hlt6 : w4.heap.size < w6.heap.size := by have := b6.size; omega
        have C12 := Lib.hid c12; have Q4' := Lib.hid c2
        go_upto_region 19 with fail
        rw [← hX]; clear b6 s6 y2 y3 c17 hX; have f0 := frozen_of_block (i := 0) c2; have f1 := frozen_of_block (i := 1) c2; have f2 := frozen_of_block (i := 2) c2; have f3 := frozen_of_block (i := 3) c2; have f4 := frozen_of_block (i := 4) c2; have f5 := frozen_of_block (i := 5) c2; have f6 := frozen_of_block (i := 6) c2; have u0 := cell_of_block (i := 0) c2 rfl; have u1 := cell_of_block (i := 1) c2 rfl; have u2 := cell_of_block (i := 2) c2 rfl; have u3 := cell_of_block (i := 3) c2 rfl; have u4 := cell_of_block (i := 4) c2 rfl; have u5 := cell_of_block (i := 5) c2 rfl
        have u6 := cell_of_block (i := 6) c2 rfl
        by_cases he : er = 0
        · subst he; have g4 := frozen_of_block (i := 4) c12; have g5 := frozen_of_block (i := 5) c12; have g6 := frozen_of_block (i := 6) c12; have x0 := cell_of_block (i := 0) c12 rfl; have x1 := cell_of_block (i := 1) c12 rfl; have x2 := cell_of_block (i := 2) c12 rfl; have x3 := cell_of_block (i := 3) c12 rfl; have x4 := cell_of_block (i := 4) c12 rfl; have x5 := cell_of_block (i := 5) c12 rfl; have x6 := cell_of_block (i := 6) c12 rfl; clear c12 c2
          go_wp2_with fail
          have h7 := seven_three C12.out (.bool nu) (.int .i64 n) (.string SX); have z := seven_set (far_set (far_set (far_set Q4'.out ne3 (i := 4) (.bool nu)) ne3 (i := 5) (.int .i64 n)) ne3 (i := 6) (.string SX)) (.int .i64 I0) (.string NB) (.int .i64 kd) (.bool nl) (.bool nu) (.int .i64 n) (.string SX); have z0 := cell_of_block (i := 0) z rfl; have z1 := cell_of_block (i := 1) z rfl; have z2 := cell_of_block (i := 2) z rfl; have z3 := cell_of_block (i := 3) z rfl; have z4 := cell_of_block (i := 4) z rfl; have z5 := cell_of_block (i := 5) z rfl; have z6 := cell_of_block (i := 6) z rfl
          have hrd := HRE.out; rw [if_pos ⟨trivial, by omega, trivial⟩] at hrd; refine bodyPost_ret (v := .tuple #[coA ((I0, NB, (kd, nl), nu, n, SX) : Co), .bool ky, .bool true]) (by simp [results, Tryz.results67, go_sem, coA, z0, z1, z2, z3, z4, z5, z6]) rfl ⟨⟨((I0, NB, (kd, nl), nu, n, SX) : Co), ky, true, rfl, fun _ => hrd, fun h => by cases h⟩, ?_⟩
          refine Below.grown (((BE.out.setCell (p := ⟨w4.heap.size, 4, none⟩) (by simp only; omega) (.bool nu)).setCell (p := ⟨w4.heap.size, 5, none⟩) (by simp only; omega) (.int .i64 n)).setCell (p := ⟨w4.heap.size, 6, none⟩) (by simp only; omega) (.string SX)) (grown7 _ w.heap.size 0 _ _ _ _ _ _ _) ?_ (fun k e => by cases e; exact Nat.le_refl _); simp only [World.size_setCell]; exact BE.out.size
        · have he2 : (er != 0) = true := by simpa using he
          have HHE := Lib.hid he; clear c12 c2 he
          go_wp2_with fail
          have z := seven_set Q4'.out (.int .i64 0) (.string ⟨#[]⟩) (.int .i64 0) (.bool false) (.bool false) (.int .i64 0) (.string ⟨#[]⟩); have z0 := cell_of_block (i := 0) z rfl; have z1 := cell_of_block (i := 1) z rfl; have z2 := cell_of_block (i := 2) z rfl; have z3 := cell_of_block (i := 3) z rfl; have z4 := cell_of_block (i := 4) z rfl; have z5 := cell_of_block (i := 5) z rfl; have z6 := cell_of_block (i := 6) z rfl; have hrd := HRE.out; rw [if_neg (by intro h; exact HHE.out h.2.2)] at hrd
          refine bodyPost_ret (v := .tuple #[coA zCo, .bool false, .bool false]) (by simp [results, Tryz.results67, go_sem, coA, zCo, z0, z1, z2, z3, z4, z5, z6]) rfl ⟨⟨zCo, false, false, rfl, (fun h => by cases h), fun _ => hrd⟩, ?_⟩; exact BE.out.grown (grown7 _ _ 0 _ _ _ _ _ _ _) BE.out.size (fun k e => by cases e; exact Nat.le_refl _)
end Go.Proofs.YthlinmkengoliaaGreatDoor
