/- Rows: the chapter's columns; what Unkey answers of them. Rows: the chapter's examples. -/
import Derived.Test.YtcdmiiaamajfoaaGreatDoorYYc
import Derived.Test.YtcdmiiaamajfoaaGreatDoorYYd
import Derived.Test.YtcdmiiaamajfoaaGreatDoorYYa
import Derived.Test.YtcdmiiaamajfoaaGreatDoorYYb
import Derived.Deep.DeepCutAuto
set_option linter.unusedVariables false
namespace Go.Ms
open Go.RowKit Go.Lib
def threeV : List Value := [.int .i64 0, .string ⟨#[]⟩, .int .i64 2, .bool false, .bool false, .int .i64 0, .string ⟨#[]⟩, .int .i64 0, .string ⟨#[]⟩, .int .i64 4, .bool true, .bool false, .int .i64 0, .string ⟨#[]⟩, .int .i64 0, .string ⟨#[]⟩, .int .i64 1, .bool false, .bool false, .int .i64 0, .string ⟨#[]⟩]
theorem three_cols {w : World} {b B : Nat} {T : TypeId} (h : w.heap[b]? = some (.cells threeV.toArray T (0, 0))) (hb : b < B) : Cols w B (some ⟨b, 0, none⟩) threeT threeV := by
  refine ⟨rfl, fun j u hu => ⟨b, 0, rfl, hb, ?_⟩, ?_⟩
  · rw [Lib.cell_of_heap h]
    simpa using hu
  · intro i t ht
    match i, ht with
    | 0, ht => have : t = (2, false) := (Option.some.inj ht).symm; subst this; exact ⟨rfl, rfl⟩
    | 1, ht => have : t = (4, true) := (Option.some.inj ht).symm; subst this; exact ⟨rfl, rfl⟩
    | 2, ht => have : t = (1, false) := (Option.some.inj ht).symm; subst this; exact ⟨rfl, rfl⟩
/-- A block's list lies. -/
theorem lay_at {w : World} {b B : Nat} {T : TypeId} {vs : List Value} (h : w.heap[b]? = some (.cells vs.toArray T (0, 0))) (hb : b < B) : Lay w B (some ⟨b, 0, none⟩) vs := fun j u hu => by
  refine ⟨b, 0, rfl, hb, ?_⟩
  rw [Lib.cell_of_heap h]
  simpa using hu
end Go.Ms
namespace Go.Proofs.YtcdmiiaamajfoaaGreatDoor
open Go.RowKit Go.Ms Go.Lib
set_option maxRecDepth 100000 in
theorem three_any (w : World) : Calls Tryz.prog 14 #[] w fun e w' => e = .returned (.slice (some ⟨w.heap.size, 0, none⟩) 3 3) ∧ w.alloc (.cells threeV.toArray 43) = w' := by
  go_enter Tryz.func14, Tryz.ntmps14
  go_wp2_with fail
  go_ret
  exact ⟨rfl, rfl⟩
/-- What three leaves, for whom that is enough. -/
theorem three_at (w : World) : Calls Tryz.prog 14 #[] w fun e w' => e = .returned (.slice (some ⟨w.heap.size, 0, none⟩) 3 3) ∧ w'.heap[w.heap.size]? = some (.cells threeV.toArray 43 (0, 0)) ∧ w'.heap.size = w.heap.size + 1 ∧ Below w.heap.size w w' := by
  refine (three_any w).mono ?_
  rintro e w' ⟨rfl, rfl⟩
  exact ⟨rfl, heap_alloc_new w _, by simp, (Below.refl _ _).alloc (Nat.le_refl _) _⟩
set_option maxRecDepth 100000 in
theorem unkeys_true (w : World) (B D : Option Addr) (l capl m capm : Nat) (ps : List Int) (S : ByteArray) (x : Int) (cs : List Cl) (hsz : S.size ≤ 1000) (hl' : l ≤ 300) (hl : l = ps.length) (hm' : m ≤ maxLen) (hm : m = cs.length) (hP : Lay w w.heap.size B (intV ps)) (hD : Lay w w.heap.size D (rowV cs)) (hE : Env w) (h1 : rUn threeT ps S.data.toList = cs) (h2 : rUnE threeT ps S.data.toList = x) (hle : cs.length ≤ 10) :
    Calls Tryz.prog 73 #[.slice B l capl, .string S, .int .i64 x, .slice D m capm] w fun e w' => e = .returned (.bool true) ∧ Below w.heap.size w w' := by
  have hun := fun (w1 : World) (h0 : w1.heap[w.heap.size]? = some (.cells threeV.toArray 43 (0, 0))) (hs : w1.heap.size = w.heap.size + 1) (hb : Below w.heap.size w w1) =>
    rowUnkey_any w1 (some ⟨w.heap.size, 0, none⟩) B 3 3 l capl threeT threeV ps S (by omega) (by unfold maxLen; omega) hl' rfl hl (three_cols h0 (by omega)) ((hP.below hb).more hb.size) (hE.below hb)
  rw [h1, h2] at hun
  have HU := Lib.hid hun; have HD := Lib.hid hD; have HM := Lib.hid hm
  clear hun hP hD hE h1 h2 hl hm
  go_enter Tryz.func73, Tryz.ntmps73
  go_wp2_with fail
  refine (three_at _).mono ?_
  rintro en w1 ⟨rfl, h0, hs, b1⟩
  have HQ := Lib.hid (HU.out w1 h0 hs b1); have HB1 := Lib.hid b1
  clear h0 hs b1
  go_wp2_with fail
  refine HQ.out.mono ?_
  rintro en w2 ⟨v, rfl, ho, b2⟩
  obtain ⟨A2, c2, rfl, hc1, hc2⟩ := yown_slice ho
  have hb2 := HB1.out.trans (b2.mono HB1.out.size)
  have hcall := reqrow_any w2 A2 D cs.length c2 m capm cs cs (by unfold maxLen; omega) hm' rfl HM.out ho.lay.2 ((HD.out.below hb2).more hb2.size)
  rw [decide_eq_true rfl] at hcall
  have HX := Lib.hid hcall; have HB2 := Lib.hid hb2
  clear hcall hb2 b2 ho hc1 hc2
  go_wp2_with fail
  refine HX.out.mono ?_
  rintro en w3 ⟨rfl, b3⟩
  have HB3 := Lib.hid (HB2.out.trans (b3.mono HB2.out.size))
  clear b3
  go_wp2_with fail
  go_ret
  exact ⟨rfl, HB3.out⟩
end Go.Proofs.YtcdmiiaamajfoaaGreatDoor
namespace Go.Proofs.YtcdmiiaamajfoaaGreatDoor
open Go.RowKit Go.Ms Go.Lib
/-- Two cells and a row, boxed in blocks b, b + 1, b + 2. -/
structure WkAt (b : Nat) (w : World) : Prop where
  none_ : w.heap[b]? = some (.cells #[.bool true, .int .i64 0, .string ⟨#[]⟩] 23 (0, 0))
  yes : w.heap[b + 1]? = some (.cells #[.bool false, .int .i64 1, .string ⟨#[]⟩] 23 (0, 0))
  row : w.heap[b + 2]? = some (.cells #[.bool false, .int .i64 5, .string ⟨#[]⟩, .bool true, .int .i64 0, .string ⟨#[]⟩, .bool false, .int .i64 1, .string ⟨#[]⟩] 23 (0, 0))
theorem WkAt.lt {b : Nat} {w : World} (h : WkAt b w) : b + 2 < w.heap.size := (Array.getElem?_eq_some_iff.1 h.row).1
theorem WkAt.below {b : Nat} {w w' : World} (h : WkAt b w) (hb : Below w.heap.size w w') : WkAt b w' :=
  ⟨(hb.block _ (by have := h.lt; omega)).trans h.none_, (hb.block _ (by have := h.lt; omega)).trans h.yes, (hb.block _ h.lt).trans h.row⟩
theorem WkAt.lay {b : Nat} {w : World} (h : WkAt b w) : Lay w w.heap.size (some ⟨b + 2, 0, none⟩) (rowV [wN 5, wNone, wYes]) := lay_at (vs := rowV [wN 5, wNone, wYes]) h.row h.lt
theorem WkAt.lay1 {b : Nat} {w : World} (h : WkAt b w) : Lay w w.heap.size (some ⟨b + 2, 0, none⟩) (rowV [wN 5]) := h.lay.take 3
theorem WkAt.cells {b : Nat} {w : World} (h : WkAt b w) : w.cell? ⟨b, 0, none⟩ = some (.bool true) ∧ w.cell? ⟨b, 1, none⟩ = some (.int .i64 0) ∧ w.cell? ⟨b, 2, none⟩ = some (.string ⟨#[]⟩) ∧ w.cell? ⟨b + 1, 0, none⟩ = some (.bool false) ∧ w.cell? ⟨b + 1, 1, none⟩ = some (.int .i64 1) ∧ w.cell? ⟨b + 1, 2, none⟩ = some (.string ⟨#[]⟩) := by
  refine ⟨?_, ?_, ?_, ?_, ?_, ?_⟩
  all_goals first | (rw [Lib.cell_of_heap h.none_]; rfl) | (rw [Lib.cell_of_heap h.yes]; rfl)
theorem heap_keep {w : World} {k : Nat} {o : Obj} (h : w.heap[k]? = some o) (o' : Obj) : (w.alloc o').heap[k]? = some o := by
  rw [Lib.alloc_old _ _ _ (Array.getElem?_eq_some_iff.1 h).1]; exact h
theorem h5_alloc {w w5 : World} {o x : Obj} (h : w5.heap[(w.alloc o).heap.size]? = some x) : w5.heap[w.heap.size + 1]? = some x := by
  rw [show (w.alloc o).heap.size = w.heap.size + 1 by simp] at h; exact h
/-- Check, of the chapter's columns and a row that lies in a block. -/
theorem chk_at (vals : List Value) (cs : List Cl) (n : Nat) (x : Int) (hv : rowV cs = vals.take (n * 3)) (hn : n = cs.length) (hx : rCheck threeT cs = x) (hz : ∀ c ∈ cs, c.2.2.size ≤ 100000) (h9 : n ≤ 9) (W : World) (b1 b2 cap : Nat) (h1 : W.heap[b1]? = some (.cells threeV.toArray 43 (0, 0))) (h2 : W.heap[b2]? = some (.cells vals.toArray 23 (0, 0))) (hE : Env W) :
    Calls Tryz.prog 52 #[.slice (some ⟨b1, 0, none⟩) 3 3, .slice (some ⟨b2, 0, none⟩) n cap] W fun e w' => e = .returned (.int .i64 x) ∧ Below W.heap.size W w' := by
  rw [← hx]
  refine rowCheck_any W _ _ 3 3 n cap threeT threeV cs hz (by unfold maxLen; omega) (by unfold maxLen; omega) rfl hn (three_cols h1 (Array.getElem?_eq_some_iff.1 h1).1) ?_ hE
  rw [hv]
  exact (lay_at h2 (Array.getElem?_eq_some_iff.1 h2).1).take _
theorem small3 {a b c : Cl} (h1 : a.2.2.size ≤ 100000) (h2 : b.2.2.size ≤ 100000) (h3 : c.2.2.size ≤ 100000) : ∀ x ∈ [a, b, c], x.2.2.size ≤ 100000 := by
  intro x hx
  simp only [List.mem_cons, List.not_mem_nil, or_false] at hx
  rcases hx with rfl | rfl | rfl <;> assumption
/-- Key, of the chapter's columns and what lies in two blocks. -/
theorem key_at (W : World) (b1 b2 b3 cap2 cap3 : Nat) (h1 : W.heap[b1]? = some (.cells threeV.toArray 43 (0, 0))) (h2 : W.heap[b2]? = some (.cells (intV [2, 1]).toArray 3 (0, 0))) (h3 : W.heap[b3]? = some (.cells (rowV [wN 5, wA, wYes]).toArray 23 (0, 0))) (hE : Env W) :
    Calls Tryz.prog 13 #[.slice (some ⟨b1, 0, none⟩) 3 3, .slice (some ⟨b2, 0, none⟩) 2 cap2, .slice (some ⟨b3, 0, none⟩) 3 cap3] W fun e w' => e = .returned (.tuple #[.string ⟨#[1, 1, 97, 0, 0]⟩, .int .i64 0]) ∧ Below W.heap.size W w' := by
  have := rowKey_any W (some ⟨b1, 0, none⟩) (some ⟨b2, 0, none⟩) (some ⟨b3, 0, none⟩) 3 3 2 cap2 3 cap3 threeT threeV [wN 5, wA, wYes] [2, 1] (fun c hc => by
    simp only [List.mem_cons, List.not_mem_nil, or_false] at hc
    rcases hc with rfl | rfl | rfl <;> decide) (by unfold maxLen; omega) (by omega) (by unfold maxLen; omega) rfl rfl rfl (three_cols h1 (Array.getElem?_eq_some_iff.1 h1).1) (lay_at h2 (Array.getElem?_eq_some_iff.1 h2).1) (lay_at h3 (Array.getElem?_eq_some_iff.1 h3).1) hE
  rw [v_k.1, v_k.2] at this
  exact this
theorem heap3_0 (X : World) (a b c : Obj) : (((X.alloc a).alloc b).alloc c).heap[X.heap.size]? = some a := heap_keep (heap_keep (heap_alloc_new X a) _) _
theorem heap3_1 (X : World) (a b c : Obj) : (((X.alloc a).alloc b).alloc c).heap[X.heap.size + 1]? = some b := by
  have := heap_alloc_new (X.alloc a) b
  rw [show (X.alloc a).heap.size = X.heap.size + 1 by simp] at this
  exact heap_keep this _
theorem heap3_2 (X : World) (a b c : Obj) : (((X.alloc a).alloc b).alloc c).heap[X.heap.size + 1 + 1]? = some c := by
  have := heap_alloc_new ((X.alloc a).alloc b) c
  rw [show ((X.alloc a).alloc b).heap.size = X.heap.size + 1 + 1 by simp] at this
  exact this
set_option maxRecDepth 100000 in
set_option maxHeartbeats 4000000 in
theorem rworks_any (w : World) (hE : Env w) : Calls Tryz.prog 20 #[] w fun e w' => e = .returned (.bool true) ∧ Below w.heap.size w w' := by
  have C1 := Lib.hid (fun W b1 b2 cap h1 h2 h3 => chk_at (rowV [wN 5, wNone, wYes]) [wN 5, wNone, wYes] 3 0 rfl rfl v_c1 (small3 (by decide) (by decide) (by decide)) (by omega) W b1 b2 cap h1 h2 h3)
  have C2 := Lib.hid (fun W b1 b2 cap h1 h2 h3 => chk_at (rowV [wN 5, wNone, wYes]) [wN 5, wNone] 2 100 rfl rfl v_c2 (fun x hx => small3 (a := wN 5) (b := wNone) (c := wYes) (by decide) (by decide) (by decide) x (by simp only [List.mem_cons, List.not_mem_nil, or_false] at hx ⊢; rcases hx with h | h; exact .inl h; exact .inr (.inl h))) (by omega) W b1 b2 cap h1 h2 h3)
  have C3 := Lib.hid (fun W b1 b2 cap h1 h2 h3 => chk_at (rowV [wN 5, wYes, wYes]) [wN 5, wYes, wYes] 3 90 rfl rfl v_c3 (small3 (by decide) (by decide) (by decide)) (by omega) W b1 b2 cap h1 h2 h3)
  have C4 := Lib.hid (fun W b1 b2 cap h1 h2 h3 => chk_at (rowV [wN 2147483648, wNone, wN 2]) [wN 2147483648, wNone, wN 2] 3 90 rfl rfl v_c4 (small3 (by decide) (by decide) (by decide)) (by omega) W b1 b2 cap h1 h2 h3)
  have HE := Lib.hid hE
  clear hE
  go_enter Tryz.func20, Tryz.ntmps20
  go_upto_region 3 with fail
  go_cut [44] (fun s44 wx => s44 = .bool false ∧ Hid (WkAt w.heap.size wx ∧ Below w.heap.size w wx))
  case first =>
    have hW : WkAt w.heap.size (((w.alloc (.cells #[.bool true, .int .i64 0, .string ⟨#[]⟩] 23)).alloc (.cells #[.bool false, .int .i64 1, .string ⟨#[]⟩] 23)).alloc (.cells #[.bool false, .int .i64 5, .string ⟨#[]⟩, .bool true, .int .i64 0, .string ⟨#[]⟩, .bool false, .int .i64 1, .string ⟨#[]⟩] 23)) := by
      refine ⟨heap_keep (heap_keep (heap_alloc_new w _) _) _, heap_keep ?_ _, ?_⟩
      · have := heap_alloc_new (w.alloc (.cells #[.bool true, .int .i64 0, .string ⟨#[]⟩] 23)) (.cells #[.bool false, .int .i64 1, .string ⟨#[]⟩] 23)
        rw [show (w.alloc (.cells #[.bool true, .int .i64 0, .string ⟨#[]⟩] 23)).heap.size = w.heap.size + 1 by simp] at this
        exact this
      · have := heap_alloc_new ((w.alloc (.cells #[.bool true, .int .i64 0, .string ⟨#[]⟩] 23)).alloc (.cells #[.bool false, .int .i64 1, .string ⟨#[]⟩] 23)) (.cells #[.bool false, .int .i64 5, .string ⟨#[]⟩, .bool true, .int .i64 0, .string ⟨#[]⟩, .bool false, .int .i64 1, .string ⟨#[]⟩] 23)
        rw [show ((w.alloc (.cells #[.bool true, .int .i64 0, .string ⟨#[]⟩] 23)).alloc (.cells #[.bool false, .int .i64 1, .string ⟨#[]⟩] 23)).heap.size = w.heap.size + 2 by simp] at this
        exact this
    have hB : Below w.heap.size w (((w.alloc (.cells #[.bool true, .int .i64 0, .string ⟨#[]⟩] 23)).alloc (.cells #[.bool false, .int .i64 1, .string ⟨#[]⟩] 23)).alloc (.cells #[.bool false, .int .i64 5, .string ⟨#[]⟩, .bool true, .int .i64 0, .string ⟨#[]⟩, .bool false, .int .i64 1, .string ⟨#[]⟩] 23)) :=
      (((Below.refl _ _).alloc (Nat.le_refl _) _).alloc (by simp) _).alloc (by simp; omega) _
    generalize (((w.alloc (.cells #[.bool true, .int .i64 0, .string ⟨#[]⟩] 23)).alloc (.cells #[.bool false, .int .i64 1, .string ⟨#[]⟩] 23)).alloc (.cells #[.bool false, .int .i64 5, .string ⟨#[]⟩, .bool true, .int .i64 0, .string ⟨#[]⟩, .bool false, .int .i64 1, .string ⟨#[]⟩] 23)) = V at *
    have hS : (V.drew.cell? ⟨w.heap.size, 0, none⟩ = some (.bool true) ∧ V.drew.cell? ⟨w.heap.size, 1, none⟩ = some (.int .i64 0) ∧ V.drew.cell? ⟨w.heap.size, 2, none⟩ = some (.string ⟨#[]⟩) ∧ V.drew.cell? ⟨w.heap.size + 1, 0, none⟩ = some (.bool false) ∧ V.drew.cell? ⟨w.heap.size + 1, 1, none⟩ = some (.int .i64 1) ∧ V.drew.cell? ⟨w.heap.size + 1, 2, none⟩ = some (.string ⟨#[]⟩)) ∧ Below V.heap.size V V.drew := ⟨hW.cells, ms_drewN (Below.refl _ _) 1⟩
    have ROW := Lib.hid (fun W (h : Below V.heap.size V W) => (hW.below h).row)
    have WK := Lib.hid (fun W (h : Below V.heap.size V W) => (⟨hW.below h, hB.trans (h.mono hB.size)⟩ : WkAt w.heap.size W ∧ Below w.heap.size w W))
    have ENV := Lib.hid (fun W (h : Below V.heap.size V W) => HE.out.below (hB.trans (h.mono hB.size)))
    have HS := Lib.hid hS
    clear hS hW hB
    go_region_held3 (fun w' => (w'.cell? ⟨w.heap.size, 0, none⟩ = some (.bool true) ∧ w'.cell? ⟨w.heap.size, 1, none⟩ = some (.int .i64 0) ∧ w'.cell? ⟨w.heap.size, 2, none⟩ = some (.string ⟨#[]⟩) ∧ w'.cell? ⟨w.heap.size + 1, 0, none⟩ = some (.bool false) ∧ w'.cell? ⟨w.heap.size + 1, 1, none⟩ = some (.int .i64 1) ∧ w'.cell? ⟨w.heap.size + 1, 2, none⟩ = some (.string ⟨#[]⟩)) ∧ Below V.heap.size V w')
      (first
        | with_reducible exact HS.out
        | with_reducible exact ykeep6 HS.out bb
        | with_reducible exact ykeep6 (by assumption) bb
        | with_reducible exact ykeep6 (by assumption) ((Below.refl _ _).alloc (Nat.le_refl _) _)
        | (go_keep; done))
      ((first
        | ((with_reducible refine (three_at _).mono ?_); rintro en w5 ⟨rfl, h5, -, bb⟩)
        | ((with_reducible refine (C1.out _ _ _ _ ?_ ?_ ?_).mono ?_); (first | exact h5 | exact heap_keep h5 _ | exact h5_alloc h5); exact ROW.out _ (And.right (by assumption)); exact ENV.out _ (And.right (by assumption)); rintro en w6 ⟨rfl, bb⟩)
        | ((with_reducible refine (C2.out _ _ _ _ ?_ ?_ ?_).mono ?_); (first | exact h5 | exact heap_keep h5 _ | exact h5_alloc h5); exact ROW.out _ (And.right (by assumption)); exact ENV.out _ (And.right (by assumption)); rintro en w6 ⟨rfl, bb⟩)
        | ((with_reducible refine (C3.out _ _ _ _ ?_ ?_ ?_).mono ?_); (first | exact h5 | exact heap_keep h5 _ | exact h5_alloc h5); (first | exact heap_alloc_new _ _ | exact mkblk bb); exact ENV.out _ (And.right (by assumption)); rintro en w6 ⟨rfl, bb⟩)
        | ((with_reducible refine (C4.out _ _ _ _ ?_ ?_ ?_).mono ?_); (first | exact h5 | exact heap_keep h5 _ | exact h5_alloc h5); (first | exact heap_alloc_new _ _ | exact mkblk bb); exact ENV.out _ (And.right (by assumption)); rintro en w6 ⟨rfl, bb⟩)))
    all_goals
      go_wp2_with fail
      go_meet
      exact ⟨rfl, Lib.hid (WK.out _ (endK (by assumption)))⟩
  case rest =>
    obtain ⟨rfl, hwk⟩ := hcut
    obtain ⟨hW, hB⟩ := hwk.out
    clear hwk C1 C2 C3 C4
    have HW := Lib.hid hW; have HB := Lib.hid hB
    clear hW hB
    have q1 := v_p1
    have q2 := v_p2
    have P1 := Lib.hid (fun (W : World) (b1 b2 cap capm : Nat) (h1 : Lay W W.heap.size (some ⟨b1, 0, none⟩) (rowV [wN 5, wNone, wYes])) (h2 : Lay W W.heap.size (some ⟨b2, 0, none⟩) (intV [2, 0, 2])) => rowPick_any W (some ⟨b1, 0, none⟩) (some ⟨b2, 0, none⟩) 3 cap 3 capm [wN 5, wNone, wYes] [2, 0, 2] (by omega) (by omega) rfl rfl h1 h2)
    have P2 := Lib.hid (fun (W : World) (b1 b2 cap capm : Nat) (h1 : Lay W W.heap.size (some ⟨b1, 0, none⟩) (rowV [wN 5])) (h2 : Lay W W.heap.size (some ⟨b2, 0, none⟩) (intV [1])) => rowPick_any W (some ⟨b1, 0, none⟩) (some ⟨b2, 0, none⟩) 1 cap 1 capm [wN 5] [1] (by omega) (by omega) rfl rfl h1 h2)
    have Q1 := Lib.hid q1; have Q2 := Lib.hid q2
    clear q1 q2
    go_wp2_with fail
    have hb1 : Below wc.heap.size wc (wc.alloc (.cells #[.int .i64 2, .int .i64 0, .int .i64 2] 3)) := (Below.refl _ _).alloc (Nat.le_refl _) _
    refine (P1.out _ _ _ _ _ (HW.out.below hb1).lay (lay_new wc [.int .i64 2, .int .i64 0, .int .i64 2] 3)).mono ?_
    clear hb1
    rintro en w1 ⟨v, rfl, ho, b1⟩
    rw [show ([wN 5, wNone, wYes] : List Cl).length = 3 from rfl, Q1.out.2]
    rw [Q1.out.1] at ho
    obtain ⟨A1, c1, rfl, hc1, hc1'⟩ := yown_slice ho
    have hb1 : Below wc.heap.size wc w1 := ((Below.refl _ _).alloc (Nat.le_refl _) _).trans (b1.mono (by simp))
    have HW1 := Lib.hid (HW.out.below hb1); have HB1 := Lib.hid (HB.out.trans (hb1.mono HB.out.size)); have HO1 := Lib.hid ho
    have HC1 := Lib.hid hc1'
    clear hb1 b1 ho hc1 hc1' HW HB P1 Q1
    go_wp2_with fail
    have hb2 : Below w1.heap.size w1 (w1.alloc (.cells #[.int .i64 1] 3)) := (Below.refl _ _).alloc (Nat.le_refl _) _
    refine (P2.out _ _ _ _ _ (HW1.out.below hb2).lay1 (lay_new w1 [.int .i64 1] 3)).mono ?_
    clear hb2
    rintro en w2 ⟨v, rfl, ho, b2⟩
    rw [show ([wN 5] : List Cl).length = 1 from rfl, Q2.out.2]
    rw [Q2.out.1] at ho
    obtain ⟨A2, c2, rfl, hc1, hc1'⟩ := yown_slice ho
    have hb2 : Below w1.heap.size w1 w2 := ((Below.refl _ _).alloc (Nat.le_refl _) _).trans (b2.mono (by simp))
    have hW2 := HW1.out.below hb2
    have M1 := Lib.hid (fun (W : World) (b1 b2 cap capm : Nat) (h1 : Lay W W.heap.size (some ⟨b1, 0, none⟩) (rowV [wN 5, wNone, wYes])) (h2 : Lay W W.heap.size (some ⟨b2, 0, none⟩) (rowV [wN 5, wA, zCl])) => rowCompare_any W (some ⟨b1, 0, none⟩) (some ⟨b2, 0, none⟩) 3 cap 3 capm _ _ (by unfold maxLen; omega) (by unfold maxLen; omega) rfl rfl h1 h2)
    have M2 := Lib.hid (fun (W : World) (b2 capm : Nat) (h2 : Lay W W.heap.size (some ⟨b2, 0, none⟩) (rowV [wN 5])) => rowCompare_any W none (some ⟨b2, 0, none⟩) 0 0 1 capm [] _ (by unfold maxLen; omega) (by unfold maxLen; omega) rfl rfl Lay.nil_ h2)
    rw [v_m1] at M1
    rw [v_m2] at M2
    have M3 := Lib.hid (fun (W : World) (b2 capm : Nat) (h1 : Lay W W.heap.size A1 (rowV [wYes, wN 5, wYes])) (h2 : Lay W W.heap.size (some ⟨b2, 0, none⟩) (rowV [wYes, wN 5, wYes])) => reqrow_any W A1 (some ⟨b2, 0, none⟩) 3 c1 3 capm [wYes, wN 5, wYes] _ (by unfold maxLen; omega) (by unfold maxLen; omega) rfl rfl h1 h2)
    simp only [decide_true] at M3
    have HW2 := Lib.hid hW2; have HB2 := Lib.hid (HB1.out.trans (hb2.mono HB1.out.size)); have HO2 := Lib.hid (own_below HO1.out hb2)
    clear hb2 b2 ho hc1 hc1' hW2 HW1 HB1 HO1 P2 Q2
    go_wp2_with fail
    have hb3 : Below w2.heap.size w2 (w2.alloc (.cells (rowV [wN 5, wA, zCl]).toArray 23)) := (Below.refl _ _).alloc (Nat.le_refl _) _
    refine (M1.out _ _ _ _ _ (HW2.out.below hb3).lay (lay_new w2 (rowV [wN 5, wA, zCl]) 23)).mono ?_
    rintro en w3 ⟨rfl, b3⟩
    have hb4 := hb3.trans (b3.mono hb3.size)
    have hW3 := HW2.out.below hb4
    have c3 := hW3.cells
    have HW3 := Lib.hid hW3; have HB3 := Lib.hid (HB2.out.trans (hb4.mono HB2.out.size)); have HO3 := Lib.hid (own_below HO2.out hb4)
    clear hb3 b3 hb4 hW3 HW2 HB2 HO2 M1
    obtain ⟨d0, d1, d2, d3, d4, d5⟩ := c3
    go_wp2_with fail
    refine (M2.out _ _ _ HW3.out.lay1).mono ?_
    rintro en w4 ⟨rfl, b4⟩
    have hW4 := HW3.out.below b4
    have c4 := hW4.cells
    have HW4 := Lib.hid hW4; have HB4 := Lib.hid (HB3.out.trans (b4.mono HB3.out.size)); have HO4 := Lib.hid (own_below HO3.out b4)
    clear b4 hW4 HW3 HB3 HO3 M2 d0 d1 d2 d3 d4 d5
    obtain ⟨d0, d1, d2, d3, d4, d5⟩ := c4
    go_wp2_with fail
    have hb5 : Below w4.heap.size w4 (w4.alloc (.cells (rowV [wYes, wN 5, wYes]).toArray 23)) := (Below.refl _ _).alloc (Nat.le_refl _) _
    refine (M3.out _ _ _ (Lay.of_own (own_below HO4.out hb5) (Nat.le_refl _)) (lay_new w4 (rowV [wYes, wN 5, wYes]) 23)).mono ?_
    rintro en w5 ⟨rfl, b5⟩
    have hb6 := hb5.trans (b5.mono hb5.size)
    have HW5 := Lib.hid (HW4.out.below hb6); have HB5 := Lib.hid (HB4.out.trans (hb6.mono HB4.out.size))
    clear hb5 b5 hb6 HW4 HB4 HO4 M3 d0 d1 d2 d3 d4 d5
    go_upto_region 9 with fail
    go_cut [8, 9] (fun s8 s9 wx => s8 = .string ⟨#[1, 1, 97, 0, 0]⟩ ∧ s9 = .int .i64 0 ∧ Hid (WkAt w.heap.size wx ∧ Below w.heap.size w wx))
    case first =>
      have hS : (w5.drew.cell? ⟨w.heap.size + 1, 0, none⟩ = some (.bool false) ∧ w5.drew.cell? ⟨w.heap.size + 1, 1, none⟩ = some (.int .i64 1) ∧ w5.drew.cell? ⟨w.heap.size + 1, 2, none⟩ = some (.string ⟨#[]⟩)) ∧ Below w5.heap.size w5 w5.drew := ⟨HW5.out.cells.2.2.2, ms_drewN (Below.refl _ _) 1⟩
      have WK := Lib.hid (fun W (h : Below w5.heap.size w5 W) => (⟨HW5.out.below h, HB5.out.trans (h.mono HB5.out.size)⟩ : WkAt w.heap.size W ∧ Below w.heap.size w W))
      have ENV := Lib.hid (fun W (h : Below w5.heap.size w5 W) => HE.out.below (HB5.out.trans (h.mono HB5.out.size)))
      have HS := Lib.hid hS
      clear hS
      go_region_held3 (fun w' => (w'.cell? ⟨w.heap.size + 1, 0, none⟩ = some (.bool false) ∧ w'.cell? ⟨w.heap.size + 1, 1, none⟩ = some (.int .i64 1) ∧ w'.cell? ⟨w.heap.size + 1, 2, none⟩ = some (.string ⟨#[]⟩)) ∧ Below w5.heap.size w5 w')
        (first
          | with_reducible exact HS.out
          | with_reducible exact ykeep3 HS.out bb
          | with_reducible exact ykeep3 (by assumption) bb
          | with_reducible exact ykeep3 (by assumption) ((Below.refl _ _).alloc (Nat.le_refl _) _)
          | exact ykeep3 HS.out ((Below.refl _ _).alloc (Nat.le_refl _) _)
          | (go_keep; done))
        ((first
          | ((with_reducible refine (three_any _).mono ?_); rintro en w6 ⟨rfl, rfl⟩)
          | ((with_reducible refine (key_at _ _ _ _ _ _ ?_ ?_ ?_ ?_).mono ?_); (first | exact heap3_0 w5 _ _ _ | exact heap3_1 w5 _ _ _ | exact heap3_2 w5 _ _ _); (first | exact heap3_0 w5 _ _ _ | exact heap3_1 w5 _ _ _ | exact heap3_2 w5 _ _ _); (first | exact heap3_0 w5 _ _ _ | exact heap3_1 w5 _ _ _ | exact heap3_2 w5 _ _ _); exact ENV.out _ (And.right (by assumption)); rintro en w6 ⟨rfl, bb⟩)))
      all_goals
        go_wp2_with fail
        go_meet
        exact ⟨rfl, rfl, Lib.hid (WK.out _ (endK (by assumption)))⟩
    case rest =>
      obtain ⟨rfl, rfl, hwk⟩ := hcut
      obtain ⟨hW, hB⟩ := hwk.out
      have HW := Lib.hid hW; have HB := Lib.hid hB
      have hcs := hW.cells
      have hlt := hW.lt
      have l1 : w.heap.size + 1 < wc.heap.size := by omega
      have l2 : w.heap.size < wc.heap.size := by omega
      have K1 := Lib.hid (fun (W : World) (b1 b2 capl capm : Nat) (h1 : Lay W W.heap.size (some ⟨b1, 0, none⟩) (intV [2, 1])) (h2 : Lay W W.heap.size (some ⟨b2, 0, none⟩) (rowV [wYes, wNone])) (h3 : Env W) => unkeys_true W (some ⟨b1, 0, none⟩) (some ⟨b2, 0, none⟩) 2 capl 2 capm [2, 1] ⟨#[1, 0]⟩ 0 _ (by decide) (by omega) rfl (by unfold maxLen; omega) rfl h1 h2 h3 v_u1.1 v_u1.2 (by decide))
      have K2 := Lib.hid (fun (W : World) (b1 capl : Nat) (h1 : Lay W W.heap.size (some ⟨b1, 0, none⟩) (intV [2, 1])) (h3 : Env W) => unkeys_true W (some ⟨b1, 0, none⟩) none 2 capl 0 0 [2, 1] ⟨#[1, 0, 0]⟩ 30 _ (by decide) (by omega) rfl (by unfold maxLen; omega) rfl h1 Lay.nil_ h3 v_u2.1 v_u2.2 (by decide))
      have K3 := Lib.hid (fun (W : World) (b1 capl : Nat) (h1 : Lay W W.heap.size (some ⟨b1, 0, none⟩) (intV [2, 1])) (h3 : Env W) => unkeys_true W (some ⟨b1, 0, none⟩) none 2 capl 0 0 [2, 1] ⟨#[1, 2]⟩ 4 _ (by decide) (by omega) rfl (by unfold maxLen; omega) rfl h1 Lay.nil_ h3 v_u3.1 v_u3.2 (by decide))
      have K4 := Lib.hid (fun (W : World) (b1 capl : Nat) (h1 : Lay W W.heap.size (some ⟨b1, 0, none⟩) (intV [3])) (h3 : Env W) => unkeys_true W (some ⟨b1, 0, none⟩) none 1 capl 0 0 [3] ⟨#[]⟩ 6 _ (by decide) (by omega) rfl (by unfold maxLen; omega) rfl h1 Lay.nil_ h3 v_u4.1 v_u4.2 (by decide))
      have HB := Lib.hid hB
      clear hwk hW hB HW5 HB5 hlt
      obtain ⟨d0, d1, d2, d3, d4, d5⟩ := hcs
      go_wp2_with fail
      have hb6 : Below wc.heap.size wc ((wc.alloc (.cells (intV [2, 1]).toArray 3)).alloc (.cells (rowV [wYes, wNone]).toArray 23)) := ((Below.refl _ _).alloc (Nat.le_refl _) _).alloc (by simp) _
      have hl6 := lay_new (wc.alloc (.cells (intV [2, 1]).toArray 3)) (rowV [wYes, wNone]) 23
      rw [show (wc.alloc (.cells (intV [2, 1]).toArray 3)).heap.size = wc.heap.size + 1 by simp] at hl6
      refine (K1.out _ _ _ _ _ (((lay_new wc (intV [2, 1]) 3).below ((Below.refl _ _).alloc (Nat.le_refl _) _)).more (by simp)) hl6 (HE.out.below (HB.out.trans (hb6.mono HB.out.size)))).mono ?_
      rintro en w6 ⟨rfl, b6⟩
      have HB6 := Lib.hid (HB.out.trans ((hb6.trans (b6.mono hb6.size)).mono HB.out.size))
      clear hb6 hl6 b6 d0 d1 d2 d3 d4 d5 l1 l2 K1
      go_wp2_with fail
      refine (K2.out _ _ _ (lay_new w6 (intV [2, 1]) 3) (HE.out.below (HB6.out.alloc HB6.out.size _))).mono ?_
      rintro en w7 ⟨rfl, b7⟩
      have HB7 := Lib.hid (HB6.out.trans ((((Below.refl _ _).alloc (Nat.le_refl _) _).trans (b7.mono (by simp))).mono HB6.out.size))
      clear b7
      go_wp2_with fail
      refine (K3.out _ _ _ (lay_new w7 (intV [2, 1]) 3) (HE.out.below (HB7.out.alloc HB7.out.size _))).mono ?_
      rintro en w8 ⟨rfl, b8⟩
      have HB8 := Lib.hid (HB7.out.trans ((((Below.refl _ _).alloc (Nat.le_refl _) _).trans (b8.mono (by simp))).mono HB7.out.size))
      clear b8
      go_wp2_with fail
      refine (K4.out _ _ _ (lay_new w8 (intV [3]) 3) (HE.out.below (HB8.out.alloc HB8.out.size _))).mono ?_
      rintro en w9 ⟨rfl, b9⟩
      have HB9 := Lib.hid (HB8.out.trans ((((Below.refl _ _).alloc (Nat.le_refl _) _).trans (b9.mono (by simp))).mono HB8.out.size))
      clear b9
      go_wp2_with fail
      go_ret
      exact ⟨rfl, HB9.out⟩
end Go.Proofs.YtcdmiiaamajfoaaGreatDoor
