/- Cells: the laws' helpers; the chapter's examples. Cells: the chapter's examples. Cells: cut; three boxed cells. Cells: two and three boxed cells. Cells: a boxed type and a boxed cell; how long texts and bits are. -/
import Derived.Test.YtcdmiiaamajfoaaGreatDoorZE22
import Derived.Deep.DeepCutAuto
import Derived.Deep.RegionWith
import Derived.Lib.ItoaLen
set_option linter.unusedVariables false
namespace Go.Proofs.YtcdmiiaamajfoaaGreatDoor
open Go.RowKit Go.Ms Go.Lib

theorem ltext_true (k : Int) (tn nu : Bool) (n : Int) (S want : ByteArray) (x : Int) (w : World) (hs : S.size ≤ 100000) (hE : Env w) (h1 : kTextD k tn nu n S.data.toList = want.data.toList) (h2 : kCheck k tn nu n S.data.toList = x) :
    Calls Tryz.prog 94 #[.int .i64 k, .bool tn, .agg #[.bool nu, .int .i64 n, .string S], .string want, .int .i64 x] w fun e w' => e = .returned (.bool true) ∧ Below w.heap.size w w' := by
  have ct := fun w' (hE' : Env w') => ktext_any k tn nu n S w' hs hE'
  rw [h1, h2, ← ba_ext (s := want) rfl] at ct
  clear h1 h2
  have B0 : Below w.heap.size w (w.alloc (.cells #[.bool nu, .int .i64 n, .string S] 23)) := (Below.refl _ w).alloc (Nat.le_refl _) _
  have CT := Lib.hid ct; have HE := Lib.hid hE
  clear ct hE
  go_enter Tryz.func94, Tryz.ntmps94
  go_wp2_with fail
  refine (CT.out _ (HE.out.below B0)).mono ?_
  rintro en w1 ⟨rfl, b1⟩
  go_wp2_with fail
  go_ret
  exact ⟨rfl, B0.trans (b1.mono (by simp))⟩
theorem lbits_true (k : Int) (tn nu : Bool) (n : Int) (S want : ByteArray) (w : World) (hs : S.size ≤ 100000) (hE : Env w) (h1 : kBitsD k tn nu n S.data.toList = want.data.toList) (h2 : kCheck k tn nu n S.data.toList = 0) :
    Calls Tryz.prog 96 #[.int .i64 k, .bool tn, .agg #[.bool nu, .int .i64 n, .string S], .string want] w fun e w' => e = .returned (.bool true) ∧ Below w.heap.size w w' := by
  have ct := fun w' (hE' : Env w') => kbits_any k tn nu n S w' hs hE'
  rw [h1, h2, ← ba_ext (s := want) rfl] at ct
  clear h1 h2
  have B0 : Below w.heap.size w (w.alloc (.cells #[.bool nu, .int .i64 n, .string S] 23)) := (Below.refl _ w).alloc (Nat.le_refl _) _
  have CT := Lib.hid ct; have HE := Lib.hid hE
  clear ct hE
  go_enter Tryz.func96, Tryz.ntmps96
  go_wp2_with fail
  refine (CT.out _ (HE.out.below B0)).mono ?_
  rintro en w1 ⟨rfl, b1⟩
  go_wp2_with fail
  go_ret
  exact ⟨rfl, B0.trans (b1.mono (by simp))⟩
theorem lnone_true (k : Int) (tn : Bool) (S : ByteArray) (w : World) (hs : S.size ≤ 20000) (hE : Env w) (h : kReadD k tn S.data.toList = ((false, 0, []), 4)) :
    Calls Tryz.prog 95 #[.int .i64 k, .bool tn, .string S] w fun e w' => e = .returned (.bool true) ∧ Below w.heap.size w w' := by
  have ct := fun w' (hE' : Env w') => kread_any k tn S w' hs hE'
  rw [h] at ct
  have ct' : ∀ w', Env w' → Calls Tryz.prog 78 #[.agg #[.int .i64 k, .bool tn], .string S] w' fun e w'' => e = .returned (.tuple #[.agg #[.bool false, .int .i64 0, .string ⟨#[]⟩], .int .i64 4]) ∧ Below w'.heap.size w' w'' := ct
  clear h ct
  have CT := Lib.hid ct'; have HE := Lib.hid hE
  clear ct' hE
  go_enter Tryz.func95, Tryz.ntmps95
  go_wp2_with fail
  refine (CT.out _ HE.out).mono ?_
  rintro en w1 ⟨rfl, b1⟩
  go_wp2_with fail
  go_ret
  exact ⟨rfl, b1.alloc b1.size _⟩
theorem loff_true (S want : ByteArray) (d : Nat) (x : Int) (w : World) (hs : S.size ≤ 20000) (hE : Env w) (h : kUnD 4 false S.data.toList = ((false, 0, want.data.toList), d, x)) :
    Calls Tryz.prog 97 #[.string S, .string want, .int .i64 d, .int .i64 x] w fun e w' => e = .returned (.bool true) ∧ Below w.heap.size w w' := by
  have ct := fun w' (hE' : Env w') => kunbits_any 4 false S w' (by omega) hE'
  rw [h] at ct
  have ct' : ∀ w', Env w' → Calls Tryz.prog 80 #[.agg #[.int .i64 4, .bool false], .string S] w' fun e w'' => e = .returned (.tuple #[.agg #[.bool false, .int .i64 0, .string want], .int .i64 d, .int .i64 x]) ∧ Below w'.heap.size w' w'' := by
    intro w' hE'
    have := ct w' hE'
    unfold unV at this
    simp only at this
    rw [← ba_ext (s := want) rfl] at this
    exact this
  clear h ct
  have CT := Lib.hid ct'; have HE := Lib.hid hE
  clear ct' hE
  go_enter Tryz.func97, Tryz.ntmps97
  go_wp2_with fail
  refine (CT.out _ HE.out).mono ?_
  rintro en w1 ⟨rfl, b1⟩
  go_wp2_with fail
  go_ret
  exact ⟨rfl, b1.alloc b1.size _⟩
end Go.Proofs.YtcdmiiaamajfoaaGreatDoor
namespace Go.Proofs.YtcdmiiaamajfoaaGreatDoor
open Go.RowKit Go.Ms Go.Lib

set_option maxHeartbeats 8000000 in
set_option maxRecDepth 100000 in
theorem kworks_any (w : World) (hE : Env w) :
    Calls Tryz.prog 29 #[] w fun e w' => e = .returned (.bool true) ∧ Below w.heap.size w w' := by
  have HE := Lib.hid hE
  clear hE
  have B0 := Lib.hid (Below.refl w.heap.size w)
  go_enter Tryz.func29, Tryz.ntmps29
  go_wp2_with fail
  refine (ltext_true 2 false false (-5) ⟨#[]⟩ ⟨#[45, 53]⟩ 0 _ (by decide) (HE.out.below B0.out) (by decide +kernel) (by decide +kernel)).mono ?_
  rintro en w1 ⟨rfl, b1⟩
  have B1 := Lib.hid (B0.out.trans (b1.mono B0.out.size))
  clear b1
  go_wp2_with fail
  refine (ltext_true 1 false false 1 ⟨#[]⟩ ⟨#[116, 114, 117, 101]⟩ 0 _ (by decide) (HE.out.below B1.out) (by decide +kernel) (by decide +kernel)).mono ?_
  rintro en w2 ⟨rfl, b2⟩
  have B2 := Lib.hid (B1.out.trans (b2.mono B1.out.size))
  clear b2
  go_wp2_with fail
  refine (ltext_true 4 true true 0 ⟨#[]⟩ ⟨#[110, 117, 108, 108]⟩ 0 _ (by decide) (HE.out.below B2.out) (by decide +kernel) (by decide +kernel)).mono ?_
  rintro en w3 ⟨rfl, b3⟩
  have B3 := Lib.hid (B2.out.trans (b3.mono B2.out.size))
  clear b3
  go_wp2_with fail
  refine (ltext_true 4 false false 0 ⟨#[97, 34, 98]⟩ ⟨#[34, 97, 92, 34, 98, 34]⟩ 0 _ (by decide) (HE.out.below B3.out) (by decide +kernel) (by decide +kernel)).mono ?_
  rintro en w4 ⟨rfl, b4⟩
  have B4 := Lib.hid (B3.out.trans (b4.mono B3.out.size))
  clear b4
  go_wp2_with fail
  refine (ltext_true 5 false false 0 ⟨#[0, 255]⟩ ⟨#[120, 48, 48, 102, 102]⟩ 0 _ (by decide) (HE.out.below B4.out) (by decide +kernel) (by decide +kernel)).mono ?_
  rintro en w5 ⟨rfl, b5⟩
  have B5 := Lib.hid (B4.out.trans (b5.mono B4.out.size))
  clear b5
  go_wp2_with fail
  refine (ltext_true 1 false false 2 ⟨#[]⟩ ⟨#[]⟩ 90 _ (by decide) (HE.out.below B5.out) (by decide +kernel) (by decide +kernel)).mono ?_
  rintro en w6 ⟨rfl, b6⟩
  have B6 := Lib.hid (B5.out.trans (b6.mono B5.out.size))
  clear b6
  go_wp2_with fail
  refine (ltext_true 2 false false 2147483648 ⟨#[]⟩ ⟨#[]⟩ 90 _ (by decide) (HE.out.below B6.out) (by decide +kernel) (by decide +kernel)).mono ?_
  rintro en w7 ⟨rfl, b7⟩
  have B7 := Lib.hid (B6.out.trans (b7.mono B6.out.size))
  clear b7
  go_wp2_with fail
  refine (ltext_true 4 false false 0 ⟨#[255]⟩ ⟨#[]⟩ 90 _ (by decide) (HE.out.below B7.out) (by decide +kernel) (by decide +kernel)).mono ?_
  rintro en w8 ⟨rfl, b8⟩
  have B8 := Lib.hid (B7.out.trans (b8.mono B7.out.size))
  clear b8
  go_wp2_with fail
  refine (ltext_true 1 false true 0 ⟨#[]⟩ ⟨#[]⟩ 90 _ (by decide) (HE.out.below B8.out) (by decide +kernel) (by decide +kernel)).mono ?_
  rintro en w9 ⟨rfl, b9⟩
  have B9 := Lib.hid (B8.out.trans (b9.mono B8.out.size))
  clear b9
  go_wp2_with fail
  refine (lnone_true 3 false ⟨#[48, 48, 55]⟩ _ (by decide) (HE.out.below B9.out) (by decide +kernel)).mono ?_
  rintro en w10 ⟨rfl, b10⟩
  have B10 := Lib.hid (B9.out.trans (b10.mono B9.out.size))
  clear b10
  go_wp2_with fail
  refine (lnone_true 5 false ⟨#[120, 70, 48]⟩ _ (by decide) (HE.out.below B10.out) (by decide +kernel)).mono ?_
  rintro en w11 ⟨rfl, b11⟩
  have B11 := Lib.hid (B10.out.trans (b11.mono B10.out.size))
  clear b11
  go_wp2_with fail
  refine (lnone_true 1 false ⟨#[110, 117, 108, 108]⟩ _ (by decide) (HE.out.below B11.out) (by decide +kernel)).mono ?_
  rintro en w12 ⟨rfl, b12⟩
  have B12 := Lib.hid (B11.out.trans (b12.mono B11.out.size))
  clear b12
  go_wp2_with fail
  refine (lnone_true 2 true ⟨#[45, 48]⟩ _ (by decide) (HE.out.below B12.out) (by decide +kernel)).mono ?_
  rintro en w13 ⟨rfl, b13⟩
  have B13 := Lib.hid (B12.out.trans (b13.mono B12.out.size))
  clear b13
  go_wp2_with fail
  refine (lbits_true 2 false false (-1) ⟨#[]⟩ ⟨#[127, 255, 255, 255, 255, 255, 255, 255]⟩ _ (by decide) (HE.out.below B13.out) (by decide +kernel) (by decide +kernel)).mono ?_
  rintro en w14 ⟨rfl, b14⟩
  have B14 := Lib.hid (B13.out.trans (b14.mono B13.out.size))
  clear b14
  go_wp2_with fail
  refine (lbits_true 3 true false 1 ⟨#[]⟩ ⟨#[1, 128, 0, 0, 0, 0, 0, 0, 1]⟩ _ (by decide) (HE.out.below B14.out) (by decide +kernel) (by decide +kernel)).mono ?_
  rintro en w15 ⟨rfl, b15⟩
  have B15 := Lib.hid (B14.out.trans (b15.mono B14.out.size))
  clear b15
  go_wp2_with fail
  refine (lbits_true 1 true true 0 ⟨#[]⟩ ⟨#[0]⟩ _ (by decide) (HE.out.below B15.out) (by decide +kernel) (by decide +kernel)).mono ?_
  rintro en w16 ⟨rfl, b16⟩
  have B16 := Lib.hid (B15.out.trans (b16.mono B15.out.size))
  clear b16
  go_wp2_with fail
  refine (lbits_true 5 false false 0 ⟨#[97, 0]⟩ ⟨#[97, 0, 255, 0, 0]⟩ _ (by decide) (HE.out.below B16.out) (by decide +kernel) (by decide +kernel)).mono ?_
  rintro en w17 ⟨rfl, b17⟩
  have B17 := Lib.hid (B16.out.trans (b17.mono B16.out.size))
  clear b17
  go_wp2_with fail
  refine (loff_true ⟨#[97, 0, 0, 98]⟩ ⟨#[97]⟩ 3 0 _ (by decide) (HE.out.below B17.out) (by decide +kernel)).mono ?_
  rintro en w18 ⟨rfl, b18⟩
  have B18 := Lib.hid (B17.out.trans (b18.mono B17.out.size))
  clear b18
  go_wp2_with fail
  refine (loff_true ⟨#[97, 0]⟩ ⟨#[]⟩ 0 3 _ (by decide) (HE.out.below B18.out) (by decide +kernel)).mono ?_
  rintro en w19 ⟨rfl, b19⟩
  have B19 := Lib.hid (B18.out.trans (b19.mono B18.out.size))
  clear b19
  go_wp2_with fail
  refine (loff_true ⟨#[97, 0, 1]⟩ ⟨#[]⟩ 0 4 _ (by decide) (HE.out.below B19.out) (by decide +kernel)).mono ?_
  rintro en w20 ⟨rfl, b20⟩
  have B20 := Lib.hid (B19.out.trans (b20.mono B19.out.size))
  clear b20
  go_wp2_with fail
  refine (loff_true ⟨#[255, 0, 0]⟩ ⟨#[]⟩ 0 4 _ (by decide) (HE.out.below B20.out) (by decide +kernel)).mono ?_
  rintro en w21 ⟨rfl, b21⟩
  have B21 := Lib.hid (B20.out.trans (b21.mono B20.out.size))
  clear b21
  go_wp2_with fail
  refine (compare_any true false 0 (-9) ⟨#[]⟩ ⟨#[]⟩ _).mono ?_
  rintro en w22 ⟨rfl, b22⟩
  rw [show kCmp true 0 (ByteArray.mk #[]).data.toList false (-9) (ByteArray.mk #[]).data.toList = (-1) by decide +kernel]
  have B22 := Lib.hid (B21.out.trans (b22.mono B21.out.size))
  clear b22
  go_wp2_with fail
  refine (compare_any false false 3 2 ⟨#[]⟩ ⟨#[]⟩ _).mono ?_
  rintro en w23 ⟨rfl, b23⟩
  rw [show kCmp false 3 (ByteArray.mk #[]).data.toList false 2 (ByteArray.mk #[]).data.toList = 1 by decide +kernel]
  have B23 := Lib.hid (B22.out.trans (b23.mono B22.out.size))
  clear b23
  go_wp2_with fail
  refine (compare_any false false 0 0 ⟨#[97]⟩ ⟨#[97, 98]⟩ _).mono ?_
  rintro en w24 ⟨rfl, b24⟩
  rw [show kCmp false 0 (ByteArray.mk #[97]).data.toList false 0 (ByteArray.mk #[97, 98]).data.toList = (-1) by decide +kernel]
  have B24 := Lib.hid (B23.out.trans (b24.mono B23.out.size))
  clear b24
  go_wp2_with fail
  go_ret
  exact ⟨rfl, B24.out⟩
end Go.Proofs.YtcdmiiaamajfoaaGreatDoor
namespace Go.Proofs.YtcdmiiaamajfoaaGreatDoor
open Go.RowKit Go.Ms Go.Lib

/-- What cut leaves of a text. -/
def cutS (S : ByteArray) : ByteArray := S.extract 0 (min (↑S.size : Int) 1100).toNat
theorem cutS_size (S : ByteArray) : (cutS S).size ≤ 1100 := by
  unfold cutS
  rw [ByteArray.size_extract]
  omega
theorem cut_any (nu : Bool) (n : Int) (S : ByteArray) (w : World) :
    Calls Tryz.prog 84 #[.agg #[.bool nu, .int .i64 n, .string S]] w fun e w' => e = .returned (.agg #[.bool nu, .int .i64 n, .string (cutS S)]) ∧ Below w.heap.size w w' := by
  unfold cutS
  have h0 : (0 : Int) ≤ min (↑S.size : Int) 1100 := by omega
  have h1 : min (↑S.size : Int) 1100 ≤ (↑S.size : Int) := by omega
  go_enter Tryz.func84, Tryz.ntmps84
  go_wp2
  exact bodyPost_ret (v := .agg #[.bool nu, .int .i64 n, .string (S.extract 0 (min (↑S.size : Int) 1100).toNat)]) (by simp [results, Tryz.results84, go_sem]) rfl ⟨rfl, ((Below.refl _ _).alloc (Nat.le_refl _) _).alloc (by simp) _⟩
end Go.Proofs.YtcdmiiaamajfoaaGreatDoor
namespace Go.Proofs.YtcdmiiaamajfoaaGreatDoor
open Go.RowKit Go.Ms Go.Lib

abbrev CellAt (b : Nat) (u : Bool) (n : Int) (S : ByteArray) (w : World) : Prop := Tri 23 b (.bool u) (.int .i64 n) (.string S) w
theorem tri_set3 {T b : Nat} {x y z p q r : Value} {w : World} (h : Tri T b x y z w) : Tri T b p q r (((w.setCell ⟨b, 0, none⟩ p).setCell ⟨b, 1, none⟩ q).setCell ⟨b, 2, none⟩ r) := by
  unfold Tri at *; simp [World.setCell, Array.getElem?_modify, h]
theorem tri_apart3 {T b c : Nat} {x y z p q r : Value} {w : World} (h : Tri T c x y z w) (hc : c ≠ b) : Tri T c x y z (((w.setCell ⟨b, 0, none⟩ p).setCell ⟨b, 1, none⟩ q).setCell ⟨b, 2, none⟩ r) := by
  unfold Tri at *; simp [World.setCell, Array.getElem?_modify, h, hc.symm]
theorem tri_step {T b : Nat} {x y z : Value} {w w' : World} (h : Tri T b x y z w) (hb : Below w.heap.size w w') : Tri T b x y z w' := h.below hb h.lt
theorem below_set3 {B b : Nat} {a w : World} (h : Below B a w) (hb : B ≤ b) (p q r : Value) : Below B a (((w.setCell ⟨b, 0, none⟩ p).setCell ⟨b, 1, none⟩ q).setCell ⟨b, 2, none⟩ r) :=
  ((h.setCell (p := ⟨b, 0, none⟩) hb _).setCell (p := ⟨b, 1, none⟩) hb _).setCell (p := ⟨b, 2, none⟩) hb _
/-- Three boxed cells from block k on. -/
structure Box3 (w : World) (k : Nat) (u1 : Bool) (n1 : Int) (S1 : ByteArray) (u2 : Bool) (n2 : Int) (S2 : ByteArray) (u3 : Bool) (n3 : Int) (S3 : ByteArray) (w1 : World) : Prop where
  ta : CellAt k u1 n1 S1 w1
  tb : CellAt (k + 1) u2 n2 S2 w1
  tc : CellAt (k + 1 + 1) u3 n3 S3 w1
  bel : Below w.heap.size w w1
  hk : w.heap.size ≤ k
section
variable {w w1 w2 : World} {k : Nat} {u1 u2 u3 : Bool} {n1 n2 n3 : Int} {S1 S2 S3 : ByteArray}
theorem Box3.step (h : Box3 w k u1 n1 S1 u2 n2 S2 u3 n3 S3 w1) (hb : Below w1.heap.size w1 w2) : Box3 w k u1 n1 S1 u2 n2 S2 u3 n3 S3 w2 :=
  ⟨tri_step h.ta hb, tri_step h.tb hb, tri_step h.tc hb, h.bel.trans (hb.mono h.bel.size), h.hk⟩
theorem Box3.drew (h : Box3 w k u1 n1 S1 u2 n2 S2 u3 n3 S3 w1) : Box3 w k u1 n1 S1 u2 n2 S2 u3 n3 S3 w1.drew := h.step (ms_drewN (Below.refl _ _) 1)
theorem Box3.set (h : Box3 w k u1 n1 S1 u2 n2 S2 u3 n3 S3 w1) (T1 T2 T3 : ByteArray) : Box3 w k u1 n1 T1 u2 n2 T2 u3 n3 T3 ((((((((((w1.setCell ⟨k, 0, none⟩ (.bool u1)).setCell ⟨k, 1, none⟩ (.int .i64 n1)).setCell ⟨k, 2, none⟩ (.string T1)).setCell ⟨k + 1, 0, none⟩ (.bool u2)).setCell ⟨k + 1, 1, none⟩ (.int .i64 n2)).setCell ⟨k + 1, 2, none⟩ (.string T2)).setCell ⟨k + 1 + 1, 0, none⟩ (.bool u3)).setCell ⟨k + 1 + 1, 1, none⟩ (.int .i64 n3)).setCell ⟨k + 1 + 1, 2, none⟩ (.string T3))) :=
  ⟨tri_apart3 (tri_apart3 (tri_set3 h.ta) (by omega)) (by omega), tri_apart3 (tri_set3 (tri_apart3 h.tb (by omega))) (by omega), tri_set3 (tri_apart3 (tri_apart3 h.tc (by omega)) (by omega)), below_set3 (below_set3 (below_set3 h.bel h.hk _ _ _) (by have := h.hk; omega) _ _ _) (by have := h.hk; omega) _ _ _, h.hk⟩
theorem Box3.start (w : World) (u1 : Bool) (n1 : Int) (S1 : ByteArray) (u2 : Bool) (n2 : Int) (S2 : ByteArray) (u3 : Bool) (n3 : Int) (S3 : ByteArray) :
    Box3 w w.heap.size u1 n1 S1 u2 n2 S2 u3 n3 S3 (((w.alloc (.cells #[.bool u1, .int .i64 n1, .string S1] 23)).alloc (.cells #[.bool u2, .int .i64 n2, .string S2] 23)).alloc (.cells #[.bool u3, .int .i64 n3, .string S3] 23)) := by
  have t1 : CellAt w.heap.size u1 n1 S1 (w.alloc (.cells #[.bool u1, .int .i64 n1, .string S1] 23)) := heap_alloc_new w _
  have t2 : CellAt (w.heap.size + 1) u2 n2 S2 ((w.alloc (.cells #[.bool u1, .int .i64 n1, .string S1] 23)).alloc (.cells #[.bool u2, .int .i64 n2, .string S2] 23)) := by
    have := heap_alloc_new (w.alloc (.cells #[.bool u1, .int .i64 n1, .string S1] 23)) (.cells #[.bool u2, .int .i64 n2, .string S2] 23)
    simpa [Tri] using this
  have t3 := heap_alloc_new ((w.alloc (.cells #[.bool u1, .int .i64 n1, .string S1] 23)).alloc (.cells #[.bool u2, .int .i64 n2, .string S2] 23)) (.cells #[.bool u3, .int .i64 n3, .string S3] 23)
  refine ⟨(t1.alloc _).alloc _, t2.alloc _, by simpa [Tri] using t3, (((Below.refl _ _).alloc (Nat.le_refl _) _).alloc (by simp) _).alloc (by simp; omega) _, Nat.le_refl _⟩
/-- What the three boxes' cells hold, and that they may be written. -/
structure Cells3 (k : Nat) (u1 : Bool) (n1 : Int) (S1 : ByteArray) (u2 : Bool) (n2 : Int) (S2 : ByteArray) (u3 : Bool) (n3 : Int) (S3 : ByteArray) (w1 : World) : Prop where
  a0 : w1.cell? ⟨k, 0, none⟩ = some (.bool u1)
  a1 : w1.cell? ⟨k, 1, none⟩ = some (.int .i64 n1)
  a2 : w1.cell? ⟨k, 2, none⟩ = some (.string S1)
  b0 : w1.cell? ⟨k + 1, 0, none⟩ = some (.bool u2)
  b1 : w1.cell? ⟨k + 1, 1, none⟩ = some (.int .i64 n2)
  b2 : w1.cell? ⟨k + 1, 2, none⟩ = some (.string S2)
  c0 : w1.cell? ⟨k + 1 + 1, 0, none⟩ = some (.bool u3)
  c1 : w1.cell? ⟨k + 1 + 1, 1, none⟩ = some (.int .i64 n3)
  c2 : w1.cell? ⟨k + 1 + 1, 2, none⟩ = some (.string S3)
  fa0 : w1.frozen? ⟨k, 0, none⟩ = false
  fa1 : w1.frozen? ⟨k, 1, none⟩ = false
  fa2 : w1.frozen? ⟨k, 2, none⟩ = false
  fb0 : w1.frozen? ⟨k + 1, 0, none⟩ = false
  fb1 : w1.frozen? ⟨k + 1, 1, none⟩ = false
  fb2 : w1.frozen? ⟨k + 1, 2, none⟩ = false
  fc0 : w1.frozen? ⟨k + 1 + 1, 0, none⟩ = false
  fc1 : w1.frozen? ⟨k + 1 + 1, 1, none⟩ = false
  fc2 : w1.frozen? ⟨k + 1 + 1, 2, none⟩ = false
theorem Box3.cells (h : Box3 w k u1 n1 S1 u2 n2 S2 u3 n3 S3 w1) : Cells3 k u1 n1 S1 u2 n2 S2 u3 n3 S3 w1 :=
  ⟨h.ta.c0, h.ta.c1, h.ta.c2, h.tb.c0, h.tb.c1, h.tb.c2, h.tc.c0, h.tc.c1, h.tc.c2, h.ta.fr 0, h.ta.fr 1, h.ta.fr 2, h.tb.fr 0, h.tb.fr 1, h.tb.fr 2, h.tc.fr 0, h.tc.fr 1, h.tc.fr 2⟩
end
end Go.Proofs.YtcdmiiaamajfoaaGreatDoor
namespace Go.Ms
open Go.Lib
theorem kq_len (l : Bs) : (kQuote l).length ≤ 6 * l.length + 2 := by
  have h1 : ∀ c : UInt8, (qb c).length ≤ 6 := by
    intro c; unfold qb; repeat' split
    all_goals simp
  have h2 : ∀ l : Bs, (l.flatMap qb).length ≤ 6 * l.length := by
    intro l
    induction l with
    | nil => simp
    | cons a t ih => rw [List.flatMap_cons, List.length_append, List.length_cons]; have := h1 a; omega
  unfold kQuote
  split
  · have := h2 l
    unfold quoteD; simp only [List.length_cons, List.length_append, List.length_nil]; omega
  · simp
theorem khex_len (l : Bs) : (hexD l).length = 2 * l.length + 1 := by
  have h : ∀ l : Bs, (l.flatMap hexb).length = 2 * l.length := by
    intro l
    induction l with
    | nil => rfl
    | cons c t ih => rw [List.flatMap_cons, List.length_append, ih, List.length_cons]; simp [hexb]; omega
  unfold hexD
  rw [List.length_cons, h]
theorem ktextD_len {k : Int} {tn nu : Bool} {n : Int} {s : Bs} (hc : kCheck k tn nu n s = 0) : (kTextD k tn nu n s).length ≤ 6200 := by
  obtain ⟨hk, ho⟩ := check_zero hc
  unfold kTextD
  rw [if_pos hc]
  cases nu with
  | true => simp [kNull]
  | false =>
    simp only [Bool.false_eq_true, if_false]
    have hi := ok_some ho
    rcases may_cases hk with rfl | rfl | rfl | rfl | rfl
    · show (formatBool (n == 1)).length ≤ 6200
      cases (n == 1) <;> decide
    · obtain ⟨_, h0, h1⟩ := is23 (.inl rfl) hi
      have := itoa_length_le n h0 h1
      show (itoa n).length ≤ 6200; omega
    · obtain ⟨_, h0, h1⟩ := is23 (.inr rfl) hi
      have := itoa_length_le n h0 h1
      show (itoa n).length ≤ 6200; omega
    · have h1 := (is45 (.inl rfl) hi).2
      have := kq_len s
      show (kQuote s).length ≤ 6200; omega
    · have h1 := (is45 (.inr rfl) hi).2
      have := khex_len s
      show (hexD s).length ≤ 6200; omega
end Go.Ms
namespace Go.Proofs.YtcdmiiaamajfoaaGreatDoor
open Go.RowKit Go.Ms Go.Lib
theorem kbitsD_len {k : Int} {tn nu : Bool} {n : Int} {s : Bs} (hc : kCheck k tn nu n s = 0) : (kBitsD k tn nu n s).length ≤ 2051 := by
  obtain ⟨hk, ho⟩ := check_zero hc
  unfold kBitsD
  rw [if_pos hc]
  cases nu with
  | true => simp
  | false =>
    have := kbits_len hk (ok_some ho)
    cases tn
    · simp only [Bool.false_eq_true, if_false]; omega
    · simp only [Bool.false_eq_true, if_false, if_true, List.length_cons]; omega
/-- A boxed type, and behind it a boxed cell. -/
structure TBx (w : World) (b : Nat) (k : Int) (tn : Bool) (u : Bool) (n : Int) (S : ByteArray) (w1 : World) : Prop where
  td : w1.heap[b]? = some (.cells #[.int .i64 k, .bool tn] 41 (0, 0))
  ta : CellAt (b + 1) u n S w1
  bel : Below w.heap.size w w1
  hb : w.heap.size ≤ b
structure TCells (b : Nat) (k : Int) (tn : Bool) (u : Bool) (n : Int) (S : ByteArray) (w1 : World) : Prop where
  d0 : w1.cell? ⟨b, 0, none⟩ = some (.int .i64 k)
  d1 : w1.cell? ⟨b, 1, none⟩ = some (.bool tn)
  a0 : w1.cell? ⟨b + 1, 0, none⟩ = some (.bool u)
  a1 : w1.cell? ⟨b + 1, 1, none⟩ = some (.int .i64 n)
  a2 : w1.cell? ⟨b + 1, 2, none⟩ = some (.string S)
  f0 : w1.frozen? ⟨b + 1, 0, none⟩ = false
  f1 : w1.frozen? ⟨b + 1, 1, none⟩ = false
  f2 : w1.frozen? ⟨b + 1, 2, none⟩ = false
  l0 : b < w1.heap.size
  l1 : b + 1 < w1.heap.size
section
variable {w w1 w2 : World} {b : Nat} {k n : Int} {tn u : Bool} {S : ByteArray}
theorem TBx.cells (h : TBx w b k tn u n S w1) : TCells b k tn u n S w1 :=
  ⟨by rw [Lib.cell_of_heap h.td]; rfl, by rw [Lib.cell_of_heap h.td]; rfl, h.ta.c0, h.ta.c1, h.ta.c2, h.ta.fr 0, h.ta.fr 1, h.ta.fr 2, (Array.getElem?_eq_some_iff.1 h.td).1, h.ta.lt⟩
theorem TBx.step (h : TBx w b k tn u n S w1) (hb : Below w1.heap.size w1 w2) : TBx w b k tn u n S w2 :=
  ⟨by rw [hb.block _ (Array.getElem?_eq_some_iff.1 h.td).1]; exact h.td, tri_step h.ta hb, h.bel.trans (hb.mono h.bel.size), h.hb⟩
theorem TBx.drew (h : TBx w b k tn u n S w1) : TBx w b k tn u n S w1.drew := h.step (ms_drewN (Below.refl _ _) 1)
theorem TBx.alloc (h : TBx w b k tn u n S w1) (o : Obj) : TBx w b k tn u n S (w1.alloc o) := h.step ((Below.refl _ _).alloc (Nat.le_refl _) _)
theorem TBx.set (h : TBx w b k tn u n S w1) (T : ByteArray) : TBx w b k tn u n T (((w1.setCell ⟨b + 1, 0, none⟩ (.bool u)).setCell ⟨b + 1, 1, none⟩ (.int .i64 n)).setCell ⟨b + 1, 2, none⟩ (.string T)) :=
  ⟨by
    have hx := h.td
    simp [World.setCell, Array.getElem?_modify, hx], tri_set3 h.ta, below_set3 h.bel (by have := h.hb; omega) _ _ _, h.hb⟩
theorem TBx.start (w : World) (k : Int) (tn u : Bool) (n : Int) (S : ByteArray) : TBx w w.heap.size k tn u n S ((w.alloc (.cells #[.int .i64 k, .bool tn] 41)).alloc (.cells #[.bool u, .int .i64 n, .string S] 23)) := by
  have t2 := heap_alloc_new (w.alloc (.cells #[.int .i64 k, .bool tn] 41)) (.cells #[.bool u, .int .i64 n, .string S] 23)
  exact ⟨by rw [Lib.alloc_old _ _ _ (by simp)]; exact heap_alloc_new w _, by simpa [Tri] using t2, ((Below.refl _ _).alloc (Nat.le_refl _) _).alloc (by simp) _, Nat.le_refl _⟩
end
theorem keep2 {W w1 w2 : World} {p1 p2 : Addr} {v1 v2 : Value} (h : (w1.cell? p1 = some v1 ∧ w1.cell? p2 = some v2) ∧ Below W.heap.size W w1) (hb : Below w1.heap.size w1 w2) :
    (w2.cell? p1 = some v1 ∧ w2.cell? p2 = some v2) ∧ Below W.heap.size W w2 :=
  ⟨⟨by rw [hb.cell (cell_lt h.1.1)]; exact h.1.1, by rw [hb.cell (cell_lt h.1.2)]; exact h.1.2⟩, h.2.trans (hb.mono h.2.size)⟩
theorem keepset2 {W w1 : World} {c1 o1 c2 o2 : Nat} {v1 v2 : Value} (h : (w1.cell? ⟨c1, o1, none⟩ = some v1 ∧ w1.cell? ⟨c2, o2, none⟩ = some v2) ∧ Below W.heap.size W w1) (h1 : c1 < W.heap.size) (h2 : c2 < W.heap.size) (p q r : Value) :
    ((((w1.setCell ⟨W.heap.size, 0, none⟩ p).setCell ⟨W.heap.size, 1, none⟩ q).setCell ⟨W.heap.size, 2, none⟩ r).cell? ⟨c1, o1, none⟩ = some v1 ∧ (((w1.setCell ⟨W.heap.size, 0, none⟩ p).setCell ⟨W.heap.size, 1, none⟩ q).setCell ⟨W.heap.size, 2, none⟩ r).cell? ⟨c2, o2, none⟩ = some v2) ∧ Below W.heap.size W (((w1.setCell ⟨W.heap.size, 0, none⟩ p).setCell ⟨W.heap.size, 1, none⟩ q).setCell ⟨W.heap.size, 2, none⟩ r) :=
  ⟨⟨by rw [cell_set3 (by omega)]; exact h.1.1, by rw [cell_set3 (by omega)]; exact h.1.2⟩, below_set3 h.2 (Nat.le_refl _) _ _ _⟩
theorem cell_new (u : Bool) (n : Int) (S : ByteArray) (w : World) : CellAt w.heap.size u n S (w.alloc (.cells #[.bool u, .int .i64 n, .string S] 23)) := heap_alloc_new w _
end Go.Proofs.YtcdmiiaamajfoaaGreatDoor
