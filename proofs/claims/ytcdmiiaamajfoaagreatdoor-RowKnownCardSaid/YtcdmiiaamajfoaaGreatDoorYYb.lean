/- Rows: what is known of cells. Rows: cells stand while only new blocks are written. Rows: what Check answers. Rows: how two stand. Rows: whether two are the same; a row copied. Rows: a row copied. Rows: places held against a number; the cells at places. -/
import Derived.Test.YtcdmiiaamajfoaaGreatDoorYYa
import Derived.Test.YtcdmiiaamajfoaaGreatDoorYE22
import Derived.Test.YtcdmiiaamajfoaaGreatDoorYHb
import Derived.Test.YtcdmiiaamajfoaaGreatDoorYIb
import Derived.Test.YtcdmiiaamajfoaaGreatDoorYB
import Derived.Deep.RegionHeld3
import Derived.Deep.RegionLaw
import Derived.Deep.RegionWith
set_option linter.unusedVariables false
namespace Go.Ms
end Go.Ms
namespace Go.Proofs.YtcdmiiaamajfoaaGreatDoor
open Go.RowKit Go.Ms Go.Lib
theorem ykeep2 {W w1 w2 : World} {p1 p2 : Addr} {v1 v2 : Value} (h : (w1.cell? p1 = some v1 ∧ w1.cell? p2 = some v2) ∧ Below W.heap.size W w1) (hb : Below w1.heap.size w1 w2) :
    (w2.cell? p1 = some v1 ∧ w2.cell? p2 = some v2) ∧ Below W.heap.size W w2 := by
  obtain ⟨⟨c1, c2⟩, f⟩ := h
  exact ⟨⟨(hb.cell (cell_lt c1)).trans c1, (hb.cell (cell_lt c2)).trans c2⟩, f.trans (hb.mono f.size)⟩
theorem ykeep3 {W w1 w2 : World} {p1 p2 p3 : Addr} {v1 v2 v3 : Value} (h : (w1.cell? p1 = some v1 ∧ w1.cell? p2 = some v2 ∧ w1.cell? p3 = some v3) ∧ Below W.heap.size W w1) (hb : Below w1.heap.size w1 w2) :
    (w2.cell? p1 = some v1 ∧ w2.cell? p2 = some v2 ∧ w2.cell? p3 = some v3) ∧ Below W.heap.size W w2 := by
  obtain ⟨⟨c1, c2, c3⟩, f⟩ := h
  exact ⟨⟨(hb.cell (cell_lt c1)).trans c1, (hb.cell (cell_lt c2)).trans c2, (hb.cell (cell_lt c3)).trans c3⟩, f.trans (hb.mono f.size)⟩
theorem ykeep5 {W w1 w2 : World} {p1 p2 p3 p4 p5 : Addr} {v1 v2 v3 v4 v5 : Value} (h : (w1.cell? p1 = some v1 ∧ w1.cell? p2 = some v2 ∧ w1.cell? p3 = some v3 ∧ w1.cell? p4 = some v4 ∧ w1.cell? p5 = some v5) ∧ Below W.heap.size W w1) (hb : Below w1.heap.size w1 w2) :
    (w2.cell? p1 = some v1 ∧ w2.cell? p2 = some v2 ∧ w2.cell? p3 = some v3 ∧ w2.cell? p4 = some v4 ∧ w2.cell? p5 = some v5) ∧ Below W.heap.size W w2 := by
  obtain ⟨⟨c1, c2, c3, c4, c5⟩, f⟩ := h
  exact ⟨⟨(hb.cell (cell_lt c1)).trans c1, (hb.cell (cell_lt c2)).trans c2, (hb.cell (cell_lt c3)).trans c3, (hb.cell (cell_lt c4)).trans c4, (hb.cell (cell_lt c5)).trans c5⟩, f.trans (hb.mono f.size)⟩
theorem ykeep6 {W w1 w2 : World} {p1 p2 p3 p4 p5 p6 : Addr} {v1 v2 v3 v4 v5 v6 : Value} (h : (w1.cell? p1 = some v1 ∧ w1.cell? p2 = some v2 ∧ w1.cell? p3 = some v3 ∧ w1.cell? p4 = some v4 ∧ w1.cell? p5 = some v5 ∧ w1.cell? p6 = some v6) ∧ Below W.heap.size W w1) (hb : Below w1.heap.size w1 w2) :
    (w2.cell? p1 = some v1 ∧ w2.cell? p2 = some v2 ∧ w2.cell? p3 = some v3 ∧ w2.cell? p4 = some v4 ∧ w2.cell? p5 = some v5 ∧ w2.cell? p6 = some v6) ∧ Below W.heap.size W w2 := by
  obtain ⟨⟨c1, c2, c3, c4, c5, c6⟩, f⟩ := h
  exact ⟨⟨(hb.cell (cell_lt c1)).trans c1, (hb.cell (cell_lt c2)).trans c2, (hb.cell (cell_lt c3)).trans c3, (hb.cell (cell_lt c4)).trans c4, (hb.cell (cell_lt c5)).trans c5, (hb.cell (cell_lt c6)).trans c6⟩, f.trans (hb.mono f.size)⟩
theorem ykeep7 {W w1 w2 : World} {p1 p2 p3 p4 p5 p6 p7 : Addr} {v1 v2 v3 v4 v5 v6 v7 : Value} (h : (w1.cell? p1 = some v1 ∧ w1.cell? p2 = some v2 ∧ w1.cell? p3 = some v3 ∧ w1.cell? p4 = some v4 ∧ w1.cell? p5 = some v5 ∧ w1.cell? p6 = some v6 ∧ w1.cell? p7 = some v7) ∧ Below W.heap.size W w1) (hb : Below w1.heap.size w1 w2) :
    (w2.cell? p1 = some v1 ∧ w2.cell? p2 = some v2 ∧ w2.cell? p3 = some v3 ∧ w2.cell? p4 = some v4 ∧ w2.cell? p5 = some v5 ∧ w2.cell? p6 = some v6 ∧ w2.cell? p7 = some v7) ∧ Below W.heap.size W w2 := by
  obtain ⟨⟨c1, c2, c3, c4, c5, c6, c7⟩, f⟩ := h
  exact ⟨⟨(hb.cell (cell_lt c1)).trans c1, (hb.cell (cell_lt c2)).trans c2, (hb.cell (cell_lt c3)).trans c3, (hb.cell (cell_lt c4)).trans c4, (hb.cell (cell_lt c5)).trans c5, (hb.cell (cell_lt c6)).trans c6, (hb.cell (cell_lt c7)).trans c7⟩, f.trans (hb.mono f.size)⟩
/-- A cell made ahead of a call stands behind it. -/
theorem mk3 {wx w3 : World} {a b c : Value} {T : TypeId} (bb : Below (wx.alloc (.cells #[a, b, c] T)).heap.size (wx.alloc (.cells #[a, b, c] T)) w3) :
    w3.cell? ⟨wx.heap.size, 0, none⟩ = some a ∧ w3.cell? ⟨wx.heap.size, 1, none⟩ = some b ∧ w3.cell? ⟨wx.heap.size, 2, none⟩ = some c ∧ w3.frozen? ⟨wx.heap.size, 0, none⟩ = false ∧ w3.frozen? ⟨wx.heap.size, 1, none⟩ = false ∧ w3.frozen? ⟨wx.heap.size, 2, none⟩ = false := by
  have hblk : w3.heap[wx.heap.size]? = some (.cells #[a, b, c] T (0, 0)) := by
    rw [bb.block _ (by simp)]
    exact heap_alloc_new wx (.cells #[a, b, c] T)
  exact ⟨by rw [Lib.cell_of_heap hblk]; rfl, by rw [Lib.cell_of_heap hblk]; rfl, by rw [Lib.cell_of_heap hblk]; rfl, Lib.frozen_of_heap hblk _, Lib.frozen_of_heap hblk _, Lib.frozen_of_heap hblk _⟩
theorem mk3d {wx w3 : World} {a b c : Value} {T : TypeId} (bb : Below (wx.alloc (.cells #[a, b, c] T)).drew.heap.size (wx.alloc (.cells #[a, b, c] T)).drew w3) :
    w3.cell? ⟨wx.heap.size, 0, none⟩ = some a ∧ w3.cell? ⟨wx.heap.size, 1, none⟩ = some b ∧ w3.cell? ⟨wx.heap.size, 2, none⟩ = some c ∧ w3.frozen? ⟨wx.heap.size, 0, none⟩ = false ∧ w3.frozen? ⟨wx.heap.size, 1, none⟩ = false ∧ w3.frozen? ⟨wx.heap.size, 2, none⟩ = false :=
  mk3 (wx := wx.drew) bb
theorem endK {A : Prop} {W w1 : World} (h : A ∧ Below W.heap.size W w1) : Below W.heap.size W w1 := h.2
end Go.Proofs.YtcdmiiaamajfoaaGreatDoor
namespace Go.Proofs.YtcdmiiaamajfoaaGreatDoor
open Go.RowKit Go.Ms Go.Lib
/-- What a closure over columns sees. -/
structure SeesCols (w : World) (p : Addr) (A : Option Addr) (n cap : Nat) (ts : List Ty) (xs : List Value) : Prop where
  box : w.cell? p = some (.slice A n cap)
  cols : Cols w w.heap.size A ts xs
  len : n = ts.length
theorem check1_any (w : World) (i : Nat) (c : Cl) (p : Addr) (A : Option Addr) (n cap : Nat) (ts : List Ty) (xs : List Value) (t : Ty) (hsz : c.2.2.size ≤ 100000) (hn : n ≤ maxLen) (hi : ts[i]? = some t) (hS : SeesCols w p A n cap ts xs) (hE : Env w) :
    Calls Tryz.prog 132 #[.int .i64 i, .agg #[.bool c.1, .int .i64 c.2.1, .string c.2.2], .pointer (some p)] w fun e w' => e = .returned (.int .i64 (cCheck t c)) ∧ Below w.heap.size w w' := by
  unfold maxLen at hn
  have hin : i < n := by rw [hS.len]; exact (List.getElem?_eq_some_iff.1 hi).1
  obtain ⟨g, o, rfl, hb, h2, h3⟩ := hS.cols.ty hi
  have hbox := hS.box
  obtain ⟨u, m, S⟩ := c
  obtain ⟨k, tn⟩ := t
  have hcc : ∀ w', Env w' → Calls Tryz.prog 83 #[.agg #[.int .i64 k, .bool tn], .agg #[.bool u, .int .i64 m, .string S]] w' fun e w'' => e = .returned (.int .i64 (cCheck (k, tn) (u, m, S))) ∧ Below w'.heap.size w' w'' := fun w' h => kcheck_any k tn u m S w' hsz h
  generalize cCheck (k, tn) (u, m, S) = C at *
  have HC := Lib.hid hcc
  have HE := Lib.hid hE
  simp only at h2 h3
  clear hcc hE hS hi hn
  have l1 := cell_lt hbox
  obtain ⟨V, hV⟩ : ∃ V, w.alloc (.cells #[.bool u, .int .i64 m, .string S] 23) = V := ⟨_, rfl⟩
  have hbel : Below w.heap.size w V := by rw [← hV]; exact (Below.refl _ _).alloc (Nat.le_refl _) _
  have hnew : V.heap[w.heap.size]? = some (.cells #[.bool u, .int .i64 m, .string S] 23 (0, 0)) := by rw [← hV]; exact heap_alloc_new w _
  have hD : (V.drew.cell? ⟨w.heap.size, 0, none⟩ = some (.bool u) ∧ V.drew.cell? ⟨w.heap.size, 1, none⟩ = some (.int .i64 m) ∧ V.drew.cell? ⟨w.heap.size, 2, none⟩ = some (.string S) ∧ V.drew.cell? p = some (.slice (some ⟨g, o, none⟩) n cap) ∧ V.drew.cell? ⟨g, o + i * 7 + 2, none⟩ = some (.int .i64 k) ∧ V.drew.cell? ⟨g, o + i * 7 + 2 + 1, none⟩ = some (.bool tn)) ∧ Below w.heap.size w V.drew :=
    ⟨⟨by show V.cell? _ = _; rw [Lib.cell_of_heap hnew]; rfl, by show V.cell? _ = _; rw [Lib.cell_of_heap hnew]; rfl, by show V.cell? _ = _; rw [Lib.cell_of_heap hnew]; rfl, (hbel.cell l1).trans hbox, (hbel.cell hb).trans h2, (hbel.cell hb).trans h3⟩, ms_drewN hbel 1⟩
  have HV := Lib.hid hV
  have HD := Lib.hid hD
  clear hV hbel hnew hD hbox h2 h3
  go_enter Tryz.func132, Tryz.ntmps132
  go_wp2_with fail
  rw [HV.out]
  go_region_held3 (fun w' => (w'.cell? ⟨w.heap.size, 0, none⟩ = some (.bool u) ∧ w'.cell? ⟨w.heap.size, 1, none⟩ = some (.int .i64 m) ∧ w'.cell? ⟨w.heap.size, 2, none⟩ = some (.string S) ∧ w'.cell? p = some (.slice (some ⟨g, o, none⟩) n cap) ∧ w'.cell? ⟨g, o + i * 7 + 2, none⟩ = some (.int .i64 k) ∧ w'.cell? ⟨g, o + i * 7 + 2 + 1, none⟩ = some (.bool tn)) ∧ Below w.heap.size w w')
    (first
      | exact HD.out
      | exact ykeep6 HD.out bb
      | exact ykeep6 (by assumption) bb
      | (go_keep; done))
    (((with_reducible refine (HC.out _ ?_).mono ?_); exact HE.out.below (And.right (by assumption)); rintro en w5 ⟨rfl, bb⟩))
  all_goals
    go_wp2_with fail
    go_ret
    exact ⟨rfl, endK (by assumption)⟩
theorem SeesCols.below {w w' : World} {p : Addr} {A : Option Addr} {n cap : Nat} {ts : List Ty} {xs : List Value} (h : SeesCols w p A n cap ts xs) (hb : Below w.heap.size w w') : SeesCols w' p A n cap ts xs :=
  ⟨(hb.cell (cell_lt h.box)).trans h.box, (h.cols.below hb).more hb.size, h.len⟩
theorem rCheckL_drop {ts : List Ty} {cs : List Cl} {k : Nat} {t : Ty} {c : Cl} (ht : ts[k]? = some t) (hc : cs[k]? = some c) :
    rCheckL (ts.drop k) (cs.drop k) = if cCheck t c = 0 then rCheckL (ts.drop (k + 1)) (cs.drop (k + 1)) else cCheck t c := by
  obtain ⟨h1, rfl⟩ := List.getElem?_eq_some_iff.1 ht
  obtain ⟨h2, rfl⟩ := List.getElem?_eq_some_iff.1 hc
  rw [List.drop_eq_getElem_cons h1, List.drop_eq_getElem_cons h2]
  rfl
set_option maxRecDepth 100000 in
theorem firstCell_any (w : World) (p : Addr) (A B : Option Addr) (n cap m capm : Nat) (ts : List Ty) (xs : List Value) (cs : List Cl) (hsz : ∀ c ∈ cs, c.2.2.size ≤ 100000) (hn : n ≤ maxLen) (hm : m = cs.length) (hlen : n = m) (hS : SeesCols w p A n cap ts xs) (hL : Lay w w.heap.size B (rowV cs)) (hE : Env w) :
    Calls Tryz.prog 131 #[.slice B m capm, .func (.func 132) #[] #[.pointer (some p)]] w fun e w' => e = .returned (.int .i64 (rCheckL ts cs)) ∧ Below w.heap.size w w' := by
  have hlt : ts.length = cs.length := by rw [← hS.len, ← hm]; exact hlen
  have hck := fun (w' : World) (i : Nat) (c : Cl) (t : Ty) (hc : c.2.2.size ≤ 100000) (hi : ts[i]? = some t) (hS' : SeesCols w' p A n cap ts xs) (hE' : Env w') => check1_any w' i c p A n cap ts xs t hc hn hi hS' hE'
  unfold maxLen at hn
  have HS := Lib.hid hS; have HL := Lib.hid hL; have HE := Lib.hid hE; have HK := Lib.hid hck; have HZ := Lib.hid hsz
  have HM := Lib.hid hm; have HT := Lib.hid hlt
  have hmb : m ≤ 9223372036854775807 := by omega
  clear hS hL hE hck hsz hm hlt hlen
  go_enter Tryz.func131, Tryz.ntmps131
  go_wp2_with fail
  go_loopw [10] (fun id wr => ∃ k : Nat, k ≤ m ∧ id = .int .i64 k ∧ Below w.heap.size w wr ∧ rCheckL ts cs = rCheckL (ts.drop k) (cs.drop k)) (fun id _ => m - (RowKit.intOf id).toNat)
  case atStart => exact ⟨0, by omega, rfl, Below.refl _ _, rfl⟩
  case round =>
    obtain ⟨k, hk, rfl, hb, hr⟩ := hrel
    have HR := Lib.hid hr
    clear hr
    by_cases hlk : k < m
    · have hki : (k : Int) < m := by omega
      obtain ⟨c, hc⟩ : ∃ c, cs[k]? = some c := ⟨_, List.getElem?_eq_getElem (by rw [← HM.out]; exact hlk)⟩
      obtain ⟨t, ht⟩ : ∃ t, ts[k]? = some t := ⟨_, List.getElem?_eq_getElem (by rw [HT.out, ← HM.out]; exact hlk)⟩
      obtain ⟨g, o, rfl, hg, h1, h2, h3⟩ := HL.out.cl hc
      have g1 := (hb.cell hg).trans h1
      have g2 := (hb.cell hg).trans h2
      have g3 := (hb.cell hg).trans h3
      have hz : c.2.2.size ≤ 100000 := HZ.out c (List.mem_of_getElem? hc)
      have hd := rCheckL_drop ht hc
      obtain ⟨u, nn, S⟩ := c
      simp only at g1 g2 g3 hz
      have hcall := fun w' (h : SeesCols w' p A n cap ts xs) (h' : Env w') => HK.out w' k (u, nn, S) t hz ht h h'
      have HC := Lib.hid hcall; have HD := Lib.hid hd; have HB := Lib.hid hb
      clear hcall hd hc ht h1 h2 h3 hb
      generalize cCheck t (u, nn, S) = C at *
      by_cases hz0 : C = 0
      · subst hz0
        go_wp2_with fail
        refine (HC.out _ (HS.out.below (HB.out.alloc HB.out.size _)) (HE.out.below (HB.out.alloc HB.out.size _))).mono ?_
        rintro en w1 ⟨rfl, b1⟩
        have hb1 := (HB.out.alloc HB.out.size (.cells #[.bool u, .int .i64 nn, .string S] 23)).trans (b1.mono (HB.out.alloc HB.out.size _).size)
        have HB1 := Lib.hid hb1
        clear hb1 b1
        go_wp2_with fail
        go_roundw
        case rel => exact ⟨k + 1, by omega, by go_num, HB1.out, by rw [HR.out, HD.out]; simp⟩
        case measure => simp [RowKit.intOf]; omega
      · have hz1 : (C != 0) = true := by simpa using hz0
        go_wp2_with fail
        refine (HC.out _ (HS.out.below (HB.out.alloc HB.out.size _)) (HE.out.below (HB.out.alloc HB.out.size _))).mono ?_
        rintro en w1 ⟨rfl, b1⟩
        have hb1 := (HB.out.alloc HB.out.size (.cells #[.bool u, .int .i64 nn, .string S] 23)).trans (b1.mono (HB.out.alloc HB.out.size _).size)
        have HB1 := Lib.hid hb1
        have HZ1 := Lib.hid hz0
        clear hb1 b1 hz0
        go_wp2_with fail
        go_ret
        exact ⟨by rw [HR.out, HD.out, if_neg HZ1.out]; rfl, HB1.out⟩
    · have hki : ¬ (k : Int) < m := by omega
      have hkm : k = m := by omega
      have h0 : rCheckL ts cs = 0 := by
        rw [HR.out, hkm, HM.out, List.drop_length]
        cases List.drop cs.length ts <;> rfl
      have H0 := Lib.hid h0
      have HB := Lib.hid hb
      clear h0 hb hkm
      go_wp2_with fail
      go_ret
      exact ⟨by rw [H0.out]; rfl, HB.out⟩
theorem rowCheck_any (w : World) (A B : Option Addr) (n cap m capm : Nat) (ts : List Ty) (xs : List Value) (cs : List Cl) (hsz : ∀ c ∈ cs, c.2.2.size ≤ 100000) (hn : n ≤ maxLen) (hm' : m ≤ maxLen) (hn' : n = ts.length) (hm : m = cs.length) (hC : Cols w w.heap.size A ts xs) (hL : Lay w w.heap.size B (rowV cs)) (hE : Env w) :
    Calls Tryz.prog 52 #[.slice A n cap, .slice B m capm] w fun e w' => e = .returned (.int .i64 (rCheck ts cs)) ∧ Below w.heap.size w w' := by
  have hb0 : Below w.heap.size w (w.alloc (.cells #[.slice A n cap] 29)) := (Below.refl _ _).alloc (Nat.le_refl _) _
  by_cases h : n = m
  · have hc : w.heap.size < (w.alloc (.cells #[.slice A n cap] 29)).heap.size := by simp
    have hcall := firstCell_any (w.alloc (.cells #[.slice A n cap] 29)) ⟨w.heap.size, 0, none⟩ A B n cap m capm ts xs cs hsz hn hm h ⟨by rw [Lib.cell_of_heap (heap_alloc_new w _)]; rfl, (hC.below hb0).more (by simp), hn'⟩ ((hL.below hb0).more (by simp)) (hE.below hb0)
    have hr : rCheck ts cs = rCheckL ts cs := by unfold rCheck; rw [if_pos (by omega)]
    rw [hr]
    subst h
    unfold maxLen at hn
    have HC := Lib.hid hcall; have HB := Lib.hid hb0
    clear hcall hC hL hE hn' hr hc hb0 hm
    go_enter Tryz.func52, Tryz.ntmps52
    go_wp2_with fail
    refine HC.out.mono ?_
    rintro en w1 ⟨rfl, b1⟩
    have HB1 := Lib.hid (HB.out.trans (b1.mono HB.out.size))
    clear b1
    go_wp2_with fail
    go_ret
    exact ⟨rfl, HB1.out⟩
  · have hr : rCheck ts cs = 100 := by unfold rCheck; rw [if_neg (by omega)]
    rw [hr]
    have hne : ((n : Int) != m) = true := by simp; omega
    have hne2 : (n != m) = true := by simpa using h
    unfold maxLen at hn hm'
    clear hr hm hn' h hC hL
    have HB := Lib.hid hb0
    clear hb0
    go_enter Tryz.func52, Tryz.ntmps52
    go_wp2_with fail
    go_ret
    exact ⟨rfl, HB.out⟩
end Go.Proofs.YtcdmiiaamajfoaaGreatDoor
namespace Go.Ms
theorem rCmp_drop {xs ys : List Cl} {k : Nat} {a b : Cl} (ha : xs[k]? = some a) (hb : ys[k]? = some b) :
    rCmp (xs.drop k) (ys.drop k) = if cCmp a b = 0 then rCmp (xs.drop (k + 1)) (ys.drop (k + 1)) else cCmp a b := by
  obtain ⟨h1, rfl⟩ := List.getElem?_eq_some_iff.1 ha
  obtain ⟨h2, rfl⟩ := List.getElem?_eq_some_iff.1 hb
  rw [List.drop_eq_getElem_cons h1, List.drop_eq_getElem_cons h2]
  rfl
def cmpI (a b : Int) : Int := if a < b then -1 else if b < a then 1 else 0
theorem rCmp_end {xs ys : List Cl} {k : Nat} (h : k = min xs.length ys.length) :
    rCmp (xs.drop k) (ys.drop k) = if xs.length < ys.length then -1 else if ys.length < xs.length then 1 else 0 := by
  rcases Nat.lt_trichotomy xs.length ys.length with h1 | h1 | h1
  · rw [if_pos h1, List.drop_of_length_le (by omega), List.drop_eq_getElem_cons (by omega : k < ys.length)]; rfl
  · rw [if_neg (by omega), if_neg (by omega), List.drop_of_length_le (by omega), List.drop_of_length_le (by omega)]; rfl
  · rw [if_neg (by omega), if_pos h1, List.drop_of_length_le (l := ys) (by omega), List.drop_eq_getElem_cons (by omega : k < xs.length)]; rfl
end Go.Ms
namespace Go.Proofs.YtcdmiiaamajfoaaGreatDoor
open Go.RowKit Go.Ms Go.Lib
theorem isNaN_any (a : Int) (w : World) : Calls Tryz.prog 195 #[.int .i64 a] w fun e w' => e = .returned (.bool false) ∧ w = w' := by
  go_enter Tryz.func195, Tryz.ntmps195
  go_wp2
  go_ret
  exact ⟨rfl, rfl⟩
theorem cmpInt_any (a b : Int) (w : World) : Calls Tryz.prog 139 #[.int .i64 a, .int .i64 b] w fun e w' => e = .returned (.int .i64 (cmpI a b)) ∧ w = w' := by
  unfold cmpI
  by_cases h1 : a < b
  · rw [if_pos h1]
    go_enter Tryz.func139, Tryz.ntmps139
    go_wp2_with (go_at_call 195; refine (isNaN_any _ _).mono ?_; rintro e w' ⟨rfl, rfl⟩)
    go_ret
    exact ⟨rfl, rfl⟩
  · rw [if_neg h1]
    by_cases h2 : b < a
    · rw [if_pos h2]
      go_enter Tryz.func139, Tryz.ntmps139
      go_wp2_with (go_at_call 195; refine (isNaN_any _ _).mono ?_; rintro e w' ⟨rfl, rfl⟩)
      go_ret
      exact ⟨rfl, rfl⟩
    · rw [if_neg h2]
      go_enter Tryz.func139, Tryz.ntmps139
      go_wp2_with (go_at_call 195; refine (isNaN_any _ _).mono ?_; rintro e w' ⟨rfl, rfl⟩)
      go_ret
      exact ⟨rfl, rfl⟩
set_option maxRecDepth 100000 in
set_option maxHeartbeats 1000000 in
theorem rowCompare_any (w : World) (A B : Option Addr) (n cap m capm : Nat) (xs ys : List Cl) (hn' : n ≤ maxLen) (hm' : m ≤ maxLen) (hn : n = xs.length) (hm : m = ys.length) (hA : Lay w w.heap.size A (rowV xs)) (hB : Lay w w.heap.size B (rowV ys)) :
    Calls Tryz.prog 70 #[.slice A n cap, .slice B m capm] w fun e w' => e = .returned (.int .i64 (rCmp xs ys)) ∧ Below w.heap.size w w' := by
  unfold maxLen at hn' hm'
  obtain ⟨l, hl⟩ : ∃ l, l = min n m := ⟨_, rfl⟩
  have HA := Lib.hid hA; have HB := Lib.hid hB; have HL := Lib.hid hl; have HN := Lib.hid hn; have HM := Lib.hid hm
  clear hA hB hn hm hl
  have hl1 : l ≤ n := by have := HL.out; omega
  have hl2 : l ≤ m := by have := HL.out; omega
  rcases Int.lt_or_le (m : Int) n with hmn | hmn
  all_goals
    go_enter Tryz.func70, Tryz.ntmps70
    go_wp2_with fail
    go_loopw [12] (fun id wr => ∃ k : Nat, k ≤ l ∧ id = .int .i64 k ∧ Below w.heap.size w wr ∧ rCmp xs ys = rCmp (xs.drop k) (ys.drop k)) (fun id _ => l - (RowKit.intOf id).toNat)
    case atStart => exact ⟨0, by omega, rfl, Below.refl _ _, rfl⟩
    case round =>
      obtain ⟨k, hk, rfl, hb, hr⟩ := hrel
      have HR := Lib.hid hr
      clear hr
      by_cases hlk : k < l
      · have hki : (k : Int) < l := by omega
        obtain ⟨c, hc⟩ : ∃ c, xs[k]? = some c := ⟨_, List.getElem?_eq_getElem (by rw [← HN.out]; omega)⟩
        obtain ⟨d, hd⟩ : ∃ c, ys[k]? = some c := ⟨_, List.getElem?_eq_getElem (by rw [← HM.out]; omega)⟩
        obtain ⟨g, o, rfl, hg, h1, h2, h3⟩ := HA.out.cl hc
        obtain ⟨g', o', rfl, hg', h4, h5, h6⟩ := HB.out.cl hd
        have hdr := rCmp_drop hc hd
        have hC : (wr.drew.cell? ⟨g, o + k * 3, none⟩ = some (.bool c.1) ∧ wr.drew.cell? ⟨g, o + k * 3 + 1, none⟩ = some (.int .i64 c.2.1) ∧ wr.drew.cell? ⟨g, o + k * 3 + 2, none⟩ = some (.string c.2.2) ∧ wr.drew.cell? ⟨g', o' + k * 3, none⟩ = some (.bool d.1) ∧ wr.drew.cell? ⟨g', o' + k * 3 + 1, none⟩ = some (.int .i64 d.2.1) ∧ wr.drew.cell? ⟨g', o' + k * 3 + 2, none⟩ = some (.string d.2.2)) ∧ Below w.heap.size w wr.drew :=
          ⟨⟨(hb.cell hg).trans h1, (hb.cell hg).trans h2, (hb.cell hg).trans h3, (hb.cell hg').trans h4, (hb.cell hg').trans h5, (hb.cell hg').trans h6⟩, ms_drewN hb 1⟩
        obtain ⟨u, nn, S⟩ := c
        obtain ⟨v, mm, T⟩ := d
        simp only at hC
        have hcall : ∀ w', Calls Tryz.prog 90 #[.agg #[.bool u, .int .i64 nn, .string S], .agg #[.bool v, .int .i64 mm, .string T]] w' fun e w'' => e = .returned (.int .i64 (cCmp (u, nn, S) (v, mm, T))) ∧ Below w'.heap.size w' w'' := fun w' => compare_any u v nn mm S T w'
        have HD := Lib.hid hC; have HP := Lib.hid hcall; have HX := Lib.hid hdr
        clear hC hcall hdr hc hd h1 h2 h3 h4 h5 h6 hb
        generalize cCmp (u, nn, S) (v, mm, T) = C at *
        have hkn : (k : Int) < n := by omega
        have hkm : (k : Int) < m := by omega
        have fin : ∀ wf, ((wf.cell? ⟨g, o + k * 3, none⟩ = some (.bool u) ∧ wf.cell? ⟨g, o + k * 3 + 1, none⟩ = some (.int .i64 nn) ∧ wf.cell? ⟨g, o + k * 3 + 2, none⟩ = some (.string S) ∧ wf.cell? ⟨g', o' + k * 3, none⟩ = some (.bool v) ∧ wf.cell? ⟨g', o' + k * 3 + 1, none⟩ = some (.int .i64 mm) ∧ wf.cell? ⟨g', o' + k * 3 + 2, none⟩ = some (.string T)) ∧ Below w.heap.size w wf) → Below w.heap.size w wf := fun _ h => h.2
        have FIN := Lib.hid fin
        clear fin
        by_cases hz0 : C = 0
        · subst hz0
          go_wp2_with fail
          go_region_held3 (fun w' => (w'.cell? ⟨g, o + k * 3, none⟩ = some (.bool u) ∧ w'.cell? ⟨g, o + k * 3 + 1, none⟩ = some (.int .i64 nn) ∧ w'.cell? ⟨g, o + k * 3 + 2, none⟩ = some (.string S) ∧ w'.cell? ⟨g', o' + k * 3, none⟩ = some (.bool v) ∧ w'.cell? ⟨g', o' + k * 3 + 1, none⟩ = some (.int .i64 mm) ∧ w'.cell? ⟨g', o' + k * 3 + 2, none⟩ = some (.string T)) ∧ Below w.heap.size w w')
            (first
              | exact HD.out
              | exact ykeep6 HD.out bb
              | exact ykeep6 (by assumption) bb
              | (go_keep; done))
            (((with_reducible refine (HP.out _).mono ?_); rintro en w5 ⟨rfl, bb⟩))
          all_goals
            have hb5 := FIN.out _ (by assumption)
            have HB5 := Lib.hid hb5
            clear hb5
            go_wp2_with fail
            go_roundw
            case rel => exact ⟨k + 1, by omega, by go_num, HB5.out, by rw [HR.out, HX.out]; simp⟩
            case measure => simp [RowKit.intOf]; omega
        · have hz1 : (C != 0) = true := by simpa using hz0
          have HZ1 := Lib.hid hz0
          clear hz0
          go_wp2_with fail
          go_region_held3 (fun w' => (w'.cell? ⟨g, o + k * 3, none⟩ = some (.bool u) ∧ w'.cell? ⟨g, o + k * 3 + 1, none⟩ = some (.int .i64 nn) ∧ w'.cell? ⟨g, o + k * 3 + 2, none⟩ = some (.string S) ∧ w'.cell? ⟨g', o' + k * 3, none⟩ = some (.bool v) ∧ w'.cell? ⟨g', o' + k * 3 + 1, none⟩ = some (.int .i64 mm) ∧ w'.cell? ⟨g', o' + k * 3 + 2, none⟩ = some (.string T)) ∧ Below w.heap.size w w')
            (first
              | exact HD.out
              | exact ykeep6 HD.out bb
              | exact ykeep6 (by assumption) bb
              | (go_keep; done))
            (((with_reducible refine (HP.out _).mono ?_); rintro en w5 ⟨rfl, bb⟩))
          all_goals
            have hb5 := FIN.out _ (by assumption)
            have HB5 := Lib.hid hb5
            clear hb5
            go_wp2_with fail
            go_ret
            exact ⟨by rw [HR.out, HX.out, if_neg HZ1.out]; rfl, HB5.out⟩
      · try have hki1 : ¬ (k : Int) < m := by have := HL.out; omega
        try have hki2 : ¬ (k : Int) < n := by have := HL.out; omega
        have hkl : k = l := by omega
        have h0 : rCmp xs ys = cmpI n m := by
          have h1 := HL.out; have h2 := HN.out; have h3 := HM.out
          rw [HR.out, hkl, rCmp_end (by omega), ← h2, ← h3]
          unfold cmpI; simp only [Int.ofNat_lt]
        have H0 := Lib.hid h0
        have HB := Lib.hid hb
        clear h0 hb hkl
        go_wp2_with (go_at_call 139; refine (cmpInt_any _ _ _).mono ?_; rintro e w' ⟨rfl, rfl⟩)
        go_ret
        exact ⟨by rw [H0.out]; rfl, HB.out⟩
end Go.Proofs.YtcdmiiaamajfoaaGreatDoor
namespace Go.Proofs.YtcdmiiaamajfoaaGreatDoor
open Go.RowKit Go.Ms Go.Lib
/-- Two cells are compared. -/
theorem run_cell_eq (u v : Bool) (a b : Int) (S T : ByteArray) (w : World) :
    (Op.equalIn 10000 23 (.agg #[.bool u, .int .i64 a, .string S]) (.agg #[.bool v, .int .i64 b, .string T])).run Tryz.prog w = .ok (decide ((u, a, S) = (v, b, T))) w := by
  have q1 : S.toList = T.toList ↔ S = T := by
    rw [Lib.toList_data, Lib.toList_data]
    exact ⟨fun h => by rw [ba_ext (s := S) rfl, ba_ext (s := T) rfl, h], fun h => by rw [h]⟩
  by_cases h0 : u = v <;> by_cases h1 : a = b <;> by_cases h2 : S = T
  all_goals
    simp [go_sem, Tryz.underlying23, q1, h0, h1, h2]
set_option maxRecDepth 100000 in
set_option maxHeartbeats 1000000 in
theorem equal_any (w : World) (A B : Option Addr) (n cap m capm : Nat) (xs ys : List Cl) (hn' : n ≤ maxLen) (hm' : m ≤ maxLen) (hn : n = xs.length) (hm : m = ys.length) (hA : Lay w w.heap.size A (rowV xs)) (hB : Lay w w.heap.size B (rowV ys)) :
    Calls Tryz.prog 140 #[.slice A n cap, .slice B m capm] w fun e w' => e = .returned (.bool (decide (xs = ys))) ∧ Below w.heap.size w w' := by
  unfold maxLen at hn' hm'
  by_cases hnm : n = m
  · subst hnm
    have HA := Lib.hid hA; have HB := Lib.hid hB; have HN := Lib.hid hn; have HM := Lib.hid hm
    clear hA hB hn hm
    go_enter Tryz.func140, Tryz.ntmps140
    go_wp2_with fail
    go_loopw [13] (fun id wr => ∃ k : Nat, k ≤ n ∧ id = .int .i64 k ∧ Below w.heap.size w wr ∧ xs.take k = ys.take k) (fun id _ => n - (RowKit.intOf id).toNat)
    case atStart => exact ⟨0, by omega, rfl, Below.refl _ _, rfl⟩
    case round =>
      obtain ⟨k, hk, rfl, hb, hr⟩ := hrel
      have HR := Lib.hid hr
      clear hr
      by_cases hlk : k < n
      · have hki : (k : Int) < n := by omega
        obtain ⟨c, hc⟩ : ∃ c, xs[k]? = some c := ⟨_, List.getElem?_eq_getElem (by rw [← HN.out]; omega)⟩
        obtain ⟨d, hd⟩ : ∃ c, ys[k]? = some c := ⟨_, List.getElem?_eq_getElem (by rw [← HM.out]; omega)⟩
        obtain ⟨g, o, rfl, hg, h1, h2, h3⟩ := HA.out.cl hc
        obtain ⟨g', o', rfl, hg', h4, h5, h6⟩ := HB.out.cl hd
        have g1 := (hb.cell hg).trans h1
        have g2 := (hb.cell hg).trans h2
        have g3 := (hb.cell hg).trans h3
        have g4 := (hb.cell hg').trans h4
        have g5 := (hb.cell hg').trans h5
        have g6 := (hb.cell hg').trans h6
        clear h1 h2 h3 h4 h5 h6
        have HB := Lib.hid hb
        clear hb
        have HC := Lib.hid hc; have HD := Lib.hid hd
        clear hc hd
        obtain ⟨u, nn, S⟩ := c
        obtain ⟨v, mm, T⟩ := d
        simp only at g1 g2 g3 g4 g5 g6
        have he := fun w => run_cell_eq u v nn mm S T w
        have hst : xs.take (k + 1) = ys.take (k + 1) ↔ (u, nn, S) = (v, mm, T) := by
          rw [List.take_add_one, List.take_add_one, HC.out, HD.out, HR.out]
          simp
        have HST := Lib.hid hst
        clear hst
        by_cases hcd : (u, nn, S) = (v, mm, T)
        · rw [decide_eq_true hcd] at he
          have HCD := Lib.hid hcd
          clear hcd
          go_wp2_with fail
          go_quiet (fail)
          go_wp2_with fail
          go_roundw
          case rel => exact ⟨k + 1, by omega, by go_num, ms_drewN HB.out _, HST.out.2 HCD.out⟩
          case measure => simp [RowKit.intOf]; omega
        · rw [decide_eq_false hcd] at he
          have hne : decide (xs = ys) = false := by
            apply decide_eq_false
            intro e
            exact hcd (HST.out.1 (by rw [e]))
          have HNE := Lib.hid hne
          clear hcd hne
          go_wp2_with fail
          go_quiet (fail)
          go_wp2_with fail
          go_ret
          exact ⟨by rw [HNE.out]; rfl, ms_drewN HB.out _⟩
      · have hki : ¬ (k : Int) < n := by omega
        have hkn : k = n := by omega
        have heq : decide (xs = ys) = true := by
          apply decide_eq_true
          have := HR.out
          rw [hkn, List.take_of_length_le (by have := HN.out; omega), List.take_of_length_le (by have := HM.out; omega)] at this
          exact this
        have HEQ := Lib.hid heq
        have HB := Lib.hid hb
        clear heq hkn hb
        go_wp2_with fail
        go_ret
        exact ⟨by rw [HEQ.out]; rfl, HB.out⟩
  · have hne : decide (xs = ys) = false := by
      apply decide_eq_false
      intro e
      rw [e] at hn
      omega
    have h1 : ((n : Int) != m) = true := by simp; omega
    have h2 : (n != m) = true := by simpa using hnm
    rw [hne]
    clear hne hnm hA hB hn hm
    go_enter Tryz.func140, Tryz.ntmps140
    go_wp2_with fail
    go_ret
    exact ⟨rfl, Below.refl _ _⟩
theorem rowSame_any (w : World) (A B : Option Addr) (n cap m capm : Nat) (xs ys : List Cl) (hn' : n ≤ maxLen) (hm' : m ≤ maxLen) (hn : n = xs.length) (hm : m = ys.length) (hA : Lay w w.heap.size A (rowV xs)) (hB : Lay w w.heap.size B (rowV ys)) :
    Calls Tryz.prog 72 #[.slice A n cap, .slice B m capm] w fun e w' => e = .returned (.bool (decide (xs = ys))) ∧ Below w.heap.size w w' := by
  have hc := equal_any w A B n cap m capm xs ys hn' hm' hn hm hA hB
  have HC := Lib.hid hc
  clear hc hA hB hn hm hn' hm'
  go_enter Tryz.func72, Tryz.ntmps72
  go_wp2_with fail
  refine HC.out.mono ?_
  rintro en w1 ⟨rfl, b1⟩
  go_wp2_with fail
  go_ret
  exact ⟨rfl, b1⟩
end Go.Proofs.YtcdmiiaamajfoaaGreatDoor
namespace Go.Proofs.YtcdmiiaamajfoaaGreatDoor
open Go.RowKit Go.Ms Go.Lib
theorem cell_info : (Tryz.prog.info? 23).map (fun i => (i.zero, i.size, i.bytes)) = some (some (.agg #[.bool false, .int .i64 0, .string ⟨#[]⟩]), 3, 32) := by kernel_rfl
theorem int_info : (Tryz.prog.info? 3).map (fun i => (i.zero, i.size, i.bytes)) = some (some (.int .i64 0), 1, 8) := by kernel_rfl
theorem under_cells : Tryz.prog.underlying 24 = some (.slice 23) := Tryz.underlying24
set_option maxRecDepth 100000 in
theorem clone_any (w : World) (A : Option Addr) (n cap : Nat) (xs : List Cl) (hn' : n ≤ 100000) (hn : n = xs.length) (hA : Lay w w.heap.size A (rowV xs)) :
    Calls Tryz.prog 136 #[.slice A n cap] w fun e w' => ∃ v, e = .returned v ∧ OwnC w' w.heap.size 23 v xs ∧ Below w.heap.size w w' := by
  obtain ⟨i0, hi, hz0, hz1, hz2⟩ := info_parts cell_info
  rcases A with _ | a
  · have h0 := hA.none_len
    have hx : xs = [] := by
      have := rowV_len xs; rw [h0] at this
      exact List.eq_nil_of_length_eq_zero (by simp at this; omega)
    subst hx
    obtain rfl : n = 0 := by simpa using hn
    have he := fun w => run_eql_slice_nil (P := Tryz.prog) w 24 23 none 0 cap 0 0 under_cells
    clear hA h0 hn hn'
    go_enter Tryz.func136, Tryz.ntmps136
    go_wp2_with fail
    go_ret
    exact ⟨_, rfl, World.ownsRow_nil _ _ _ _, Below.refl _ _⟩
  · have he := fun w => run_eql_slice_nil (P := Tryz.prog) w 24 23 (some a) n cap 0 0 under_cells
    have HA := Lib.hid hA; have HN := Lib.hid hn
    clear hA hn
    go_enter Tryz.func136, Tryz.ntmps136
    have hown0 : (w.alloc (.cells #[] 23)).ownsRow w.heap.size 23 3 (.slice (some ⟨w.heap.size, 0, none⟩) 0 0) 0 [] := World.ownsRow_made w #[] 0 (Nat.le_refl _) (by unfold maxLen; omega) rfl
    have hb0 : Below w.heap.size w (w.alloc (.cells #[] 23)) := (Below.refl _ _).alloc (Nat.le_refl _) _
    have HO := Lib.hid hown0; have HB := Lib.hid hb0
    clear hown0 hb0
    go_wp2_with (at_builtin; refine wpList_append_lay rfl (.tmp 5) (.tmp 6) _ rfl w.heap.size 23 i0 _ 3 32 under_cells hi hz0 hz1 hz2 rfl (by omega) (.slice (some ⟨w.heap.size, 0, none⟩) 0 0) 0 [] rfl HO.out w.heap.size (some a) n cap (rowV xs) rfl (by rw [rowV_len, HN.out]) (HA.out.below HB.out) (rowV_one _) (by unfold maxLen; omega) (by omega) HB.out.size ?_; intro v1 w1 hown1 hg1)
    have HO1 := Lib.hid hown1
    have HB1 := Lib.hid (own_grown HO.out HB.out HB.out.size (Nat.le_refl _) hg1)
    clear hown1 hg1
    go_wp2_with fail
    go_ret
    refine ⟨_, rfl, ?_, HB1.out⟩
    unfold OwnC
    have := HO1.out
    rw [Nat.zero_add, HN.out] at this
    exact this
theorem rowCopy_any (w : World) (A : Option Addr) (n cap : Nat) (xs : List Cl) (hn' : n ≤ 100000) (hn : n = xs.length) (hA : Lay w w.heap.size A (rowV xs)) :
    Calls Tryz.prog 62 #[.slice A n cap] w fun e w' => ∃ v, e = .returned v ∧ OwnC w' w.heap.size 23 v xs ∧ Below w.heap.size w w' := by
  have hc := clone_any w A n cap xs hn' hn hA
  have HC := Lib.hid hc
  clear hc hA hn hn'
  go_enter Tryz.func62, Tryz.ntmps62
  go_wp2_with fail
  refine HC.out.mono ?_
  rintro en w1 ⟨v, rfl, ho, b1⟩
  have HO := Lib.hid ho; have HB := Lib.hid b1
  clear ho b1
  go_wp2_with fail
  go_ret
  exact ⟨_, rfl, HO.out, HB.out⟩
end Go.Proofs.YtcdmiiaamajfoaaGreatDoor
namespace Go.Ms
theorem rInE_drop {ps : List Int} {k : Nat} {p : Int} {n : Nat} (h : ps[k]? = some p) : rInE (ps.drop k) n = if 0 ≤ p ∧ p < n then rInE (ps.drop (k + 1)) n else 6 := by
  obtain ⟨h1, rfl⟩ := List.getElem?_eq_some_iff.1 h
  rw [List.drop_eq_getElem_cons h1]
  unfold rInE rIn
  simp only [List.all_cons, Bool.and_eq_true, decide_eq_true_eq]
  by_cases hp : 0 ≤ ps[k] ∧ ps[k] < n
  · rw [if_pos hp]; simp only [hp.1, hp.2, true_and]
  · rw [if_neg hp, if_neg (fun h => hp h.1)]
theorem rIn_at {ps : List Int} {n k : Nat} {p : Int} (h : rIn ps n = true) (hk : ps[k]? = some p) : 0 ≤ p ∧ p < n := by
  have := List.all_eq_true.1 h p (List.mem_of_getElem? hk)
  simpa using this
theorem rPickL_take {cs : List Cl} {ps : List Int} {k : Nat} {p : Int} {c : Cl} (h : ps[k]? = some p) (hc : cs[p.toNat]? = some c) : rPickL cs (ps.take (k + 1)) = rPickL cs (ps.take k) ++ [c] := by
  unfold rPickL
  rw [List.take_add_one, List.map_append, h]
  simp [List.getD_eq_getElem?_getD, hc]
end Go.Ms
namespace Go.Proofs.YtcdmiiaamajfoaaGreatDoor
open Go.RowKit Go.Ms Go.Lib
theorem within1_any (w : World) (i p : Int) (a : Addr) (n : Nat) (ha : w.cell? a = some (.int .i64 n)) :
    Calls Tryz.prog 133 #[.int .i64 i, .int .i64 p, .pointer (some a)] w fun e w' => e = .returned (.int .i64 (if 0 ≤ p ∧ p < n then 0 else 6)) ∧ Below w.heap.size w w' := by
  by_cases h1 : p < 0
  · rw [if_neg (by omega)]
    go_enter Tryz.func133, Tryz.ntmps133
    go_wp2
    go_ret
    exact ⟨rfl, Below.refl _ _⟩
  · by_cases h2 : (n : Int) ≤ p
    · rw [if_neg (by omega)]
      go_enter Tryz.func133, Tryz.ntmps133
      go_wp2
      go_ret
      exact ⟨rfl, Below.refl _ _⟩
    · rw [if_pos (by omega)]
      go_enter Tryz.func133, Tryz.ntmps133
      go_wp2
      go_ret
      exact ⟨rfl, Below.refl _ _⟩
set_option maxRecDepth 100000 in
theorem firstWithin_any (w : World) (a : Addr) (B : Option Addr) (n m capm : Nat) (ps : List Int) (hm' : m ≤ maxLen) (hm : m = ps.length) (ha : w.cell? a = some (.int .i64 n)) (hL : Lay w w.heap.size B (intV ps)) :
    Calls Tryz.prog 54 #[.slice B m capm, .func (.func 133) #[] #[.pointer (some a)]] w fun e w' => e = .returned (.int .i64 (rInE ps n)) ∧ Below w.heap.size w w' := by
  unfold maxLen at hm'
  have hck := fun (w' : World) (i p : Int) (h : w'.cell? a = some (.int .i64 n)) => within1_any w' i p a n h
  have HA := Lib.hid ha; have HL := Lib.hid hL; have HK := Lib.hid hck; have HM := Lib.hid hm
  have la := cell_lt ha
  clear ha hL hck hm
  go_enter Tryz.func54, Tryz.ntmps54
  go_wp2_with fail
  go_loopw [10] (fun id wr => ∃ k : Nat, k ≤ m ∧ id = .int .i64 k ∧ Below w.heap.size w wr ∧ rInE ps n = rInE (ps.drop k) n) (fun id _ => m - (RowKit.intOf id).toNat)
  case atStart => exact ⟨0, by omega, rfl, Below.refl _ _, rfl⟩
  case round =>
    obtain ⟨k, hk, rfl, hb, hr⟩ := hrel
    have HR := Lib.hid hr
    clear hr
    by_cases hlk : k < m
    · have hki : (k : Int) < m := by omega
      obtain ⟨p, hp⟩ : ∃ c, ps[k]? = some c := ⟨_, List.getElem?_eq_getElem (by rw [← HM.out]; exact hlk)⟩
      obtain ⟨g, o, rfl, hg, h1⟩ := HL.out.num hp
      have g1 := (hb.cell hg).trans h1
      have hd := rInE_drop (n := n) hp
      have hcall := HK.out wr k p ((hb.cell la).trans HA.out)
      have HD := Lib.hid hd; have HB := Lib.hid hb
      by_cases hin : 0 ≤ p ∧ p < n
      · rw [if_pos hin] at hcall hd
        have HC := Lib.hid hcall; have HD := Lib.hid hd
        clear hcall hd hp h1 hb hin
        go_wp2_with fail
        refine HC.out.mono ?_
        rintro en w1 ⟨rfl, b1⟩
        have HB1 := Lib.hid (HB.out.trans (b1.mono HB.out.size))
        clear b1
        go_wp2_with fail
        go_roundw
        case rel => exact ⟨k + 1, by omega, by go_num, HB1.out, by rw [HR.out, HD.out]⟩
        case measure => simp [RowKit.intOf]; omega
      · rw [if_neg hin] at hcall hd
        have HC := Lib.hid hcall; have HD := Lib.hid hd
        clear hcall hd hp h1 hb hin
        go_wp2_with fail
        refine HC.out.mono ?_
        rintro en w1 ⟨rfl, b1⟩
        have HB1 := Lib.hid (HB.out.trans (b1.mono HB.out.size))
        clear b1
        go_wp2_with fail
        go_ret
        exact ⟨by rw [HR.out, HD.out]; rfl, HB1.out⟩
    · have hki : ¬ (k : Int) < m := by omega
      have hkm : k = m := by omega
      have h0 : rInE ps n = 0 := by rw [HR.out, hkm, HM.out, List.drop_length]; rfl
      have H0 := Lib.hid h0
      have HB := Lib.hid hb
      clear h0 hb hkm
      go_wp2_with fail
      go_ret
      exact ⟨by rw [H0.out]; rfl, HB.out⟩
theorem within_any (w : World) (B : Option Addr) (n m capm : Nat) (ps : List Int) (hm' : m ≤ maxLen) (hm : m = ps.length) (hL : Lay w w.heap.size B (intV ps)) :
    Calls Tryz.prog 53 #[.slice B m capm, .int .i64 n] w fun e w' => e = .returned (.int .i64 (rInE ps n)) ∧ Below w.heap.size w w' := by
  have hb0 : Below w.heap.size w (w.alloc (.cells #[.int .i64 n] 3)) := (Below.refl _ _).alloc (Nat.le_refl _) _
  have hc := firstWithin_any (w.alloc (.cells #[.int .i64 n] 3)) ⟨w.heap.size, 0, none⟩ B n m capm ps hm' hm (by rw [Lib.cell_of_heap (heap_alloc_new w _)]; rfl) ((hL.below hb0).more (by simp))
  have HC := Lib.hid hc; have HB := Lib.hid hb0
  clear hc hb0 hL hm hm'
  go_enter Tryz.func53, Tryz.ntmps53
  go_wp2_with fail
  refine HC.out.mono ?_
  rintro en w1 ⟨rfl, b1⟩
  have HB1 := Lib.hid (HB.out.trans (b1.mono HB.out.size))
  clear b1
  go_wp2_with fail
  go_ret
  exact ⟨rfl, HB1.out⟩
set_option maxRecDepth 100000 in
set_option maxHeartbeats 1000000 in
theorem rowPick_any (w : World) (A B : Option Addr) (n cap m capm : Nat) (cs : List Cl) (ps : List Int) (hn' : n ≤ 100000) (hm' : m ≤ 100000) (hn : n = cs.length) (hm : m = ps.length) (hA : Lay w w.heap.size A (rowV cs)) (hL : Lay w w.heap.size B (intV ps)) :
    Calls Tryz.prog 63 #[.slice A n cap, .slice B m capm] w fun e w' => ∃ v, e = .returned (.tuple #[v, .int .i64 (rInE ps cs.length)]) ∧ OwnC w' w.heap.size 23 v (rPick cs ps) ∧ Below w.heap.size w w' := by
  obtain ⟨i0, hi, hz0, hz1, hz2⟩ := info_parts cell_info
  have hw := within_any w B n m capm ps (by unfold maxLen; omega) hm hL
  by_cases hin : rIn ps n = true
  · have h1 : rInE ps n = 0 := by unfold rInE; rw [if_pos hin]
    have h2 : rPick cs ps = rPickL cs ps := by unfold rPick; rw [← hn, if_pos hin]
    rw [← hn, h1, h2]
    rw [h1] at hw
    have HW := Lib.hid hw; have HA := Lib.hid hA; have HL := Lib.hid hL; have HN := Lib.hid hn; have HM := Lib.hid hm; have HI := Lib.hid hin
    clear hw hA hL hn hm h1 h2 hin
    go_enter Tryz.func63, Tryz.ntmps63
    go_wp2_with fail
    refine HW.out.mono ?_
    rintro en w1 ⟨rfl, b1⟩
    have HB1 := Lib.hid b1
    clear b1
    go_wp2_with fail
    go_loopw [4, 18] (fun v id wr => ∃ k : Nat, k ≤ m ∧ id = .int .i64 k ∧ OwnC wr w.heap.size 23 v (rPickL cs (ps.take k)) ∧ Below w.heap.size w wr) (fun _ id _ => m - (RowKit.intOf id).toNat)
    case atStart => exact ⟨0, by omega, rfl, World.ownsRow_nil _ _ _ _, HB1.out⟩
    case round =>
      obtain ⟨k, hk, rfl, hown, hb⟩ := hrel
      by_cases hlk : k < m
      · have hki : (k : Int) < m := by omega
        obtain ⟨p, hp⟩ : ∃ c, ps[k]? = some c := ⟨_, List.getElem?_eq_getElem (by rw [← HM.out]; exact hlk)⟩
        obtain ⟨p0, p1⟩ := rIn_at HI.out hp
        obtain ⟨q, rfl⟩ : ∃ q : Nat, p = q := ⟨p.toNat, by omega⟩
        obtain ⟨g, o, rfl, hg, h1⟩ := HL.out.num hp
        obtain ⟨c, hc⟩ : ∃ c, cs[q]? = some c := ⟨_, List.getElem?_eq_getElem (by rw [← HN.out]; omega)⟩
        obtain ⟨g', o', rfl, hg', h4, h5, h6⟩ := HA.out.cl hc
        have g1 := (hb.cell hg).trans h1
        have g4 := (hb.cell hg').trans h4
        have g5 := (hb.cell hg').trans h5
        have g6 := (hb.cell hg').trans h6
        have hpk := rPickL_take (c := c) hp hc
        have hlen : (rPickL cs (ps.take k)).length = k := by unfold rPickL; rw [List.length_map, List.length_take]; have := HM.out; omega
        obtain ⟨u, nn, S⟩ := c
        simp only at g4 g5 g6
        have HPK := Lib.hid hpk; have HO := Lib.hid hown; have HB := Lib.hid hb; have HLen := Lib.hid hlen
        clear hpk hown hb hp hc h1 h4 h5 h6 hlen
        have hnew : Lay (wr.alloc (.cells #[.bool u, .int .i64 nn, .string S] 23)) (wr.alloc (.cells #[.bool u, .int .i64 nn, .string S] 23)).heap.size (some ⟨wr.heap.size, 0, none⟩) (rowV [(u, nn, S)]) := lay_new wr [.bool u, .int .i64 nn, .string S] 23
        have hown1 := World.ownsRow.alloc HO.out (.cells #[.bool u, .int .i64 nn, .string S] 23)
        have hb1 := HB.out.alloc HB.out.size (.cells #[.bool u, .int .i64 nn, .string S] 23)
        have HW1 := Lib.hid hnew; have HO1 := Lib.hid hown1; have HB1 := Lib.hid hb1
        clear hnew hown1 hb1
        go_wp2_with (at_builtin; refine wpList_append_lay rfl (.tmp 22) (.tmp 27) _ rfl w.heap.size 23 i0 _ 3 32 under_cells hi hz0 hz1 hz2 rfl (by omega) _ _ _ rfl HO1.out _ (some ⟨wr.heap.size, 0, none⟩) 1 1 (rowV [(u, nn, S)]) rfl rfl HW1.out (rowV_one _) (by rw [HLen.out]; unfold maxLen; omega) (by rw [HLen.out]; omega) HB1.out.size ?_; intro v2 w2 hown2 hg2)
        have HO2 := Lib.hid hown2
        have HB2 := Lib.hid (own_grown HO1.out HB1.out HB1.out.size (Nat.le_refl _) hg2)
        clear hown2 hg2
        go_wp2_with fail
        go_roundw
        case rel =>
          refine ⟨k + 1, by omega, by go_num, ?_, HB2.out⟩
          unfold OwnC
          rw [HPK.out, rowV_app, List.length_append]
          exact HO2.out
        case measure => simp [RowKit.intOf]; omega
      · have hki : ¬ (k : Int) < m := by omega
        have hkm : k = m := by omega
        rw [hkm, HM.out, List.take_length] at hown
        have HO := Lib.hid hown; have HB := Lib.hid hb
        clear hown hb hkm
        go_wp2_with fail
        go_ret2
        exact ⟨_, rfl, HO.out, HB.out⟩
  · have h1 : rInE ps n = 6 := by unfold rInE; rw [if_neg hin]
    have h2 : rPick cs ps = [] := by unfold rPick; rw [← hn, if_neg hin]
    rw [← hn, h1, h2]
    rw [h1] at hw
    have HW := Lib.hid hw
    clear hw hA hL hn hm h1 h2 hin
    go_enter Tryz.func63, Tryz.ntmps63
    go_wp2_with fail
    refine HW.out.mono ?_
    rintro en w1 ⟨rfl, b1⟩
    have HB1 := Lib.hid b1
    clear b1
    go_wp2_with fail
    go_ret2
    exact ⟨_, rfl, World.ownsRow_nil _ _ _ _, HB1.out⟩
end Go.Proofs.YtcdmiiaamajfoaaGreatDoor
