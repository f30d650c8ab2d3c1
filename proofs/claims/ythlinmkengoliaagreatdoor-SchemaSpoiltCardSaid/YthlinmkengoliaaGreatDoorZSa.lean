/- Schemas: the first place at which something holds; Place and Named. -/
import Derived.Test.YthlinmkengoliaaGreatDoorZSa0
import Derived.Test.YthlinmkengoliaaGreatDoorZYb
set_option linter.unusedVariables false
set_option linter.unusedSimpArgs false
namespace Go.Ms
open Go.RowKit Go.Lib
def idxL {α : Type} (p : α → Bool) (l : List α) : Int := match l.findIdx? p with
 | some i => i
 | none => -1
theorem idxL_at {α : Type} {p : α → Bool} {l : List α} {k : Nat} {c : α} (hc : l[k]? = some c) (hn : ∀ (j : Nat) d, j < k → l[j]? = some d → p d = false) (hp : p c = true) : idxL p l = k := by
 unfold idxL
 have : l.findIdx? p = some k := by
  rw [List.findIdx?_eq_some_iff_getElem]; obtain ⟨hk, rfl⟩ := List.getElem?_eq_some_iff.1 hc; exact ⟨hk, hp, fun j hj => by have := hn j _ hj (List.getElem?_eq_getElem (by omega)); simpa using this⟩
 rw [this]
theorem idxL_none {α : Type} {p : α → Bool} {l : List α} (hn : ∀ (j : Nat) d, l[j]? = some d → p d = false) : idxL p l = -1 := by
 unfold idxL
 have : l.findIdx? p = none := by
  rw [List.findIdx?_eq_none_iff]
  intro x hx
  obtain ⟨i, hi⟩ := List.getElem?_of_mem hx; exact hn i x hi
 rw [this]
theorem idxL_find (p : Co → Bool) (l : List Co) : max (idxL p l) 0 = (coFind p l).1 ∧ decide (0 ≤ idxL p l) = (coFind p l).2 := by
 unfold idxL coFind
 cases h : l.findIdx? p with
 | some i => exact ⟨by simp only; omega, by simp⟩
 | none => exact ⟨rfl, rfl⟩
theorem idxL_any {α : Type} (p : α → Bool) (l : List α) : decide (0 ≤ idxL p l) = l.any p := by
 unfold idxL
 split
 · rename_i i h
   rw [List.findIdx?_eq_some_iff_getElem] at h; obtain ⟨hi, hp, _⟩ := h; have : l.any p = true := List.any_eq_true.2 ⟨l[i], List.getElem_mem hi, hp⟩
   rw [this]; simp
 · rename_i h
   rw [List.findIdx?_eq_none_iff] at h
   have : l.any p = false := by rw [List.any_eq_false]; intro x hx; have := h x hx; simpa using this
   rw [this]; rfl
end Go.Ms
namespace Go.Proofs.YthlinmkengoliaaGreatDoor
open Go.RowKit Go.Ms Go.Lib
theorem keynull_any (w : World) (b q : Nat) (g o n cap : Nat) (u : Bool) (hq : q < n) (hn : n ≤ maxLen) (h0 : w.cell? ⟨b, 0, none⟩ = some (.slice (some ⟨g, o, none⟩) n cap)) (h1 : w.cell? ⟨g, o + q * 7 + 2 + 1, none⟩ = some (.bool u)) :
    Calls Tryz.prog 47 #[.int .i64 q, .pointer (some ⟨b, 0, none⟩)] w fun e w' => e = .returned (.bool u) ∧ Below w.heap.size w w' := by
 unfold maxLen at hn
 have hq' : (q : Int) < n := by omega
 go_enter Tryz.func47, Tryz.ntmps47
 go_wp2_with fail
 all_goals (try go_quiet (fail))
 all_goals (go_wp2_with fail)
 all_goals go_ret
 all_goals exact ⟨rfl, Below.refl _ _⟩
theorem placeis_any (w : World) (b : Nat) (c : Co) (id : Int) (h0 : w.cell? ⟨b, 0, none⟩ = some (.int .i64 id)) :
    Calls Tryz.prog 35 #[coA c, .pointer (some ⟨b, 0, none⟩)] w fun e w' => e = .returned (.bool (decide (c.1 = id))) ∧ Below w.heap.size w w' := by
 obtain ⟨i0, s0, ⟨k0, u0⟩, n0, m0, t0⟩ := c
 show Calls Tryz.prog 35 #[.agg #[.int .i64 i0, .string s0, .int .i64 k0, .bool u0, .bool n0, .int .i64 m0, .string t0], .pointer (some ⟨b, 0, none⟩)] w _
 have h1 := fun o => (((Below.refl _ w).alloc (Nat.le_refl _) o).cell (cell_lt h0)).trans h0
 go_enter Tryz.func35, Tryz.ntmps35
 go_wp2_with fail
 go_ret
 exact ⟨by congr 2, (Below.refl _ _).alloc (Nat.le_refl _) _⟩
theorem namedis_any (w : World) (b : Nat) (c : Co) (s : ByteArray) (h0 : w.cell? ⟨b, 0, none⟩ = some (.string s)) :
    Calls Tryz.prog 36 #[coA c, .pointer (some ⟨b, 0, none⟩)] w fun e w' => e = .returned (.bool (decide (c.2.1 = s))) ∧ Below w.heap.size w w' := by
 obtain ⟨i0, s0, ⟨k0, u0⟩, n0, m0, t0⟩ := c
 show Calls Tryz.prog 36 #[.agg #[.int .i64 i0, .string s0, .int .i64 k0, .bool u0, .bool n0, .int .i64 m0, .string t0], .pointer (some ⟨b, 0, none⟩)] w _
 have hq : (s0.toList == s.toList) = decide (s0 = s) := by
  rw [Lib.toList_data, Lib.toList_data]
  by_cases h : s0 = s
  · subst h; simp
  · rw [decide_eq_false h, beq_eq_false_iff_ne]
    intro e
    exact h (by rw [ba_ext (s := s0) rfl, ba_ext (s := s) rfl, e])
 have h1 := fun o => (((Below.refl _ w).alloc (Nat.le_refl _) o).cell (cell_lt h0)).trans h0
 go_enter Tryz.func36, Tryz.ntmps36
 go_wp2_with fail
 go_ret
 exact ⟨by simp, (Below.refl _ _).alloc (Nat.le_refl _) _⟩
set_option maxRecDepth 100000 in
set_option maxHeartbeats 1000000 in
theorem idxnull_any (w : World) (A : Option Addr) (n cap : Nat) (l : List Int) (b : Nat) (p : Int → Bool) (hn' : n ≤ maxLen) (hn : n = l.length) (hA : Lay w w.heap.size A (intV l)) (hcl : ∀ (k : Nat) (x : Int) (W : World), l[k]? = some x → Below w.heap.size w W → Calls Tryz.prog 47 #[.int .i64 x, .pointer (some ⟨b, 0, none⟩)] W fun e w2 => e = .returned (.bool (p x)) ∧ Below W.heap.size W w2) :
    Calls Tryz.prog 83 #[.slice A n cap, .func (.func 47) #[] #[.pointer (some ⟨b, 0, none⟩)]] w fun e w' => e = .returned (.int .i64 (idxL p l)) ∧ Below w.heap.size w w' := by
 unfold maxLen at hn'; have hcl := hcl
 have HC := Lib.hid hcl; have HA := Lib.hid hA; have HN := Lib.hid hn
 clear hcl hA hn
 go_enter Tryz.func83, Tryz.ntmps83
 go_wp2_with fail
 go_loopw [8] (fun id wr => ∃ k : Nat, k ≤ n ∧ id = .int .i64 k ∧ Below w.heap.size w wr ∧ ∀ (j : Nat) x, j < k → l[j]? = some x → p x = false) (fun id _ => n - (RowKit.intOf id).toNat)
 case atStart => exact ⟨0, by omega, rfl, Below.refl _ _, fun j c h => absurd h (by omega)⟩
 case round =>
  obtain ⟨k, hk, rfl, hb, hp⟩ := hrel; have HP := Lib.hid hp; clear hp
  by_cases hlk : k < n
  · have hki : (k : Int) < n := by omega
    obtain ⟨x, hx⟩ : ∃ x, l[k]? = some x := ⟨_, List.getElem?_eq_getElem (by rw [← HN.out]; omega)⟩; obtain ⟨g, o, rfl, hg, h1⟩ := HA.out.num hx; have g1 := (hb.cell hg).trans h1; clear h1; have hcall := HC.out _ _ wr hx hb
    have HX := Lib.hid hx; have HB := Lib.hid hb; have HCA := Lib.hid hcall
    clear hx hb hcall
    cases hpx : p x with
    | true =>
     have HR := Lib.hid (idxL_at HX.out HP.out hpx)
     go_wp2_with fail
     refine HCA.out.mono ?_; rw [hpx]; clear hpx; rintro en w1 ⟨rfl, b1⟩; have B1 := Lib.hid (HB.out.trans (b1.mono HB.out.size)); clear b1
     go_wp2_with fail
     go_ret
     exact ⟨congrArg (fun i => Ending.returned (.int .i64 i)) HR.out.symm, B1.out⟩
    | false =>
     have HPX := Lib.hid hpx
     go_wp2_with fail
     refine HCA.out.mono ?_; rw [hpx]; clear hpx; rintro en w1 ⟨rfl, b1⟩; have B1 := Lib.hid (HB.out.trans (b1.mono HB.out.size)); clear b1
     go_wp2_with fail
     go_roundw
     case rel =>
      refine ⟨k + 1, by omega, by go_num, B1.out, fun j y hj hy => ?_⟩
      by_cases e : j = k
      · subst e; rw [HX.out] at hy
        cases hy
        exact HPX.out
      · exact HP.out j y (by omega) hy
     case measure => simp [RowKit.intOf]; omega
  · have hki : ¬ (k : Int) < n := by omega
    have HR := Lib.hid (idxL_none (p := p) (l := l) (fun j x hx => HP.out j x (by have := (List.getElem?_eq_some_iff.1 hx).1; have := HN.out; omega) hx)); have HB := Lib.hid hb; clear hb
    go_wp2_with fail
    go_ret
    exact ⟨congrArg (fun i => Ending.returned (.int .i64 i)) HR.out.symm, HB.out⟩
set_option maxRecDepth 100000 in
set_option maxHeartbeats 1000000 in
theorem idxplace_any (w : World) (A : Option Addr) (n cap : Nat) (l : List Co) (b : Nat) (p : Co → Bool) (hn' : n ≤ maxLen) (hn : n = l.length) (hA : Lay w w.heap.size A (colV l)) (hcl : ∀ (k : Nat) (x : Co) (W : World), l[k]? = some x → Below w.heap.size w W → Calls Tryz.prog 35 #[coA x, .pointer (some ⟨b, 0, none⟩)] W fun e w2 => e = .returned (.bool (p x)) ∧ Below W.heap.size W w2) :
    Calls Tryz.prog 72 #[.slice A n cap, .func (.func 35) #[] #[.pointer (some ⟨b, 0, none⟩)]] w fun e w' => e = .returned (.int .i64 (idxL p l)) ∧ Below w.heap.size w w' := by
 unfold maxLen at hn'; have hcl := hcl
 have HC := Lib.hid hcl; have HA := Lib.hid hA; have HN := Lib.hid hn
 clear hcl hA hn
 go_enter Tryz.func72, Tryz.ntmps72
 go_wp2_with fail
 go_loopw [8] (fun id wr => ∃ k : Nat, k ≤ n ∧ id = .int .i64 k ∧ Below w.heap.size w wr ∧ ∀ (j : Nat) x, j < k → l[j]? = some x → p x = false) (fun id _ => n - (RowKit.intOf id).toNat)
 case atStart => exact ⟨0, by omega, rfl, Below.refl _ _, fun j c h => absurd h (by omega)⟩
 case round =>
  obtain ⟨k, hk, rfl, hb, hp⟩ := hrel; have HP := Lib.hid hp; clear hp
  by_cases hlk : k < n
  · have hki : (k : Int) < n := by omega
    obtain ⟨x, hx⟩ : ∃ x, l[k]? = some x := ⟨_, List.getElem?_eq_getElem (by rw [← HN.out]; omega)⟩; obtain ⟨i0, s0, ⟨k0, u0⟩, n0, m0, t0⟩ := x; obtain ⟨g, o, rfl, hg, h1, h2, h3, h4, h5, h6, h7⟩ := HA.out.co hx; have g1 := (hb.cell hg).trans h1; have g2 := (hb.cell hg).trans h2; have g3 := (hb.cell hg).trans h3; have g4 := (hb.cell hg).trans h4; have g5 := (hb.cell hg).trans h5; have g6 := (hb.cell hg).trans h6; have g7 := (hb.cell hg).trans h7; clear h1 h2 h3 h4 h5 h6 h7; simp only at g1 g2 g3 g4 g5 g6 g7; have hcall := HC.out _ _ wr hx hb
    have HX := Lib.hid hx; have HB := Lib.hid hb; have HCA := Lib.hid hcall
    clear hx hb hcall
    cases hpx : p ((i0, s0, (k0, u0), n0, m0, t0) : Co) with
    | true =>
     have HR := Lib.hid (idxL_at HX.out HP.out hpx)
     go_wp2_with fail
     refine HCA.out.mono ?_; rw [hpx]; clear hpx; rintro en w1 ⟨rfl, b1⟩; have B1 := Lib.hid (HB.out.trans (b1.mono HB.out.size)); clear b1
     go_wp2_with fail
     go_ret
     exact ⟨congrArg (fun i => Ending.returned (.int .i64 i)) HR.out.symm, B1.out⟩
    | false =>
     have HPX := Lib.hid hpx
     go_wp2_with fail
     refine HCA.out.mono ?_; rw [hpx]; clear hpx; rintro en w1 ⟨rfl, b1⟩; have B1 := Lib.hid (HB.out.trans (b1.mono HB.out.size)); clear b1
     go_wp2_with fail
     go_roundw
     case rel =>
      refine ⟨k + 1, by omega, by go_num, B1.out, fun j y hj hy => ?_⟩
      by_cases e : j = k
      · subst e; rw [HX.out] at hy
        cases hy
        exact HPX.out
      · exact HP.out j y (by omega) hy
     case measure => simp [RowKit.intOf]; omega
  · have hki : ¬ (k : Int) < n := by omega
    have HR := Lib.hid (idxL_none (p := p) (l := l) (fun j x hx => HP.out j x (by have := (List.getElem?_eq_some_iff.1 hx).1; have := HN.out; omega) hx)); have HB := Lib.hid hb; clear hb
    go_wp2_with fail
    go_ret
    exact ⟨congrArg (fun i => Ending.returned (.int .i64 i)) HR.out.symm, HB.out⟩
set_option maxRecDepth 100000 in
set_option maxHeartbeats 1000000 in
theorem idxnamed_any (w : World) (A : Option Addr) (n cap : Nat) (l : List Co) (b : Nat) (p : Co → Bool) (hn' : n ≤ maxLen) (hn : n = l.length) (hA : Lay w w.heap.size A (colV l)) (hcl : ∀ (k : Nat) (x : Co) (W : World), l[k]? = some x → Below w.heap.size w W → Calls Tryz.prog 36 #[coA x, .pointer (some ⟨b, 0, none⟩)] W fun e w2 => e = .returned (.bool (p x)) ∧ Below W.heap.size W w2) :
    Calls Tryz.prog 72 #[.slice A n cap, .func (.func 36) #[] #[.pointer (some ⟨b, 0, none⟩)]] w fun e w' => e = .returned (.int .i64 (idxL p l)) ∧ Below w.heap.size w w' := by
 unfold maxLen at hn'; have hcl := hcl
 have HC := Lib.hid hcl; have HA := Lib.hid hA; have HN := Lib.hid hn
 clear hcl hA hn
 go_enter Tryz.func72, Tryz.ntmps72
 go_wp2_with fail
 go_loopw [8] (fun id wr => ∃ k : Nat, k ≤ n ∧ id = .int .i64 k ∧ Below w.heap.size w wr ∧ ∀ (j : Nat) x, j < k → l[j]? = some x → p x = false) (fun id _ => n - (RowKit.intOf id).toNat)
 case atStart => exact ⟨0, by omega, rfl, Below.refl _ _, fun j c h => absurd h (by omega)⟩
 case round =>
  obtain ⟨k, hk, rfl, hb, hp⟩ := hrel; have HP := Lib.hid hp; clear hp
  by_cases hlk : k < n
  · have hki : (k : Int) < n := by omega
    obtain ⟨x, hx⟩ : ∃ x, l[k]? = some x := ⟨_, List.getElem?_eq_getElem (by rw [← HN.out]; omega)⟩; obtain ⟨i0, s0, ⟨k0, u0⟩, n0, m0, t0⟩ := x; obtain ⟨g, o, rfl, hg, h1, h2, h3, h4, h5, h6, h7⟩ := HA.out.co hx; have g1 := (hb.cell hg).trans h1; have g2 := (hb.cell hg).trans h2; have g3 := (hb.cell hg).trans h3; have g4 := (hb.cell hg).trans h4; have g5 := (hb.cell hg).trans h5; have g6 := (hb.cell hg).trans h6; have g7 := (hb.cell hg).trans h7; clear h1 h2 h3 h4 h5 h6 h7; simp only at g1 g2 g3 g4 g5 g6 g7; have hcall := HC.out _ _ wr hx hb
    have HX := Lib.hid hx; have HB := Lib.hid hb; have HCA := Lib.hid hcall
    clear hx hb hcall
    cases hpx : p ((i0, s0, (k0, u0), n0, m0, t0) : Co) with
    | true =>
     have HR := Lib.hid (idxL_at HX.out HP.out hpx)
     go_wp2_with fail
     refine HCA.out.mono ?_; rw [hpx]; clear hpx; rintro en w1 ⟨rfl, b1⟩; have B1 := Lib.hid (HB.out.trans (b1.mono HB.out.size)); clear b1
     go_wp2_with fail
     go_ret
     exact ⟨congrArg (fun i => Ending.returned (.int .i64 i)) HR.out.symm, B1.out⟩
    | false =>
     have HPX := Lib.hid hpx
     go_wp2_with fail
     refine HCA.out.mono ?_; rw [hpx]; clear hpx; rintro en w1 ⟨rfl, b1⟩; have B1 := Lib.hid (HB.out.trans (b1.mono HB.out.size)); clear b1
     go_wp2_with fail
     go_roundw
     case rel =>
      refine ⟨k + 1, by omega, by go_num, B1.out, fun j y hj hy => ?_⟩
      by_cases e : j = k
      · subst e; rw [HX.out] at hy
        cases hy
        exact HPX.out
      · exact HP.out j y (by omega) hy
     case measure => simp [RowKit.intOf]; omega
  · have hki : ¬ (k : Int) < n := by omega
    have HR := Lib.hid (idxL_none (p := p) (l := l) (fun j x hx => HP.out j x (by have := (List.getElem?_eq_some_iff.1 hx).1; have := HN.out; omega) hx)); have HB := Lib.hid hb; clear hb
    go_wp2_with fail
    go_ret
    exact ⟨congrArg (fun i => Ending.returned (.int .i64 i)) HR.out.symm, HB.out⟩
theorem whereP_any (w : World) (A B : Option Addr) (n cap m capm : Nat) (cs : List Co) (b : Nat) (v : Int) (hn' : n ≤ maxLen) (hn : n = cs.length) (hA : Lay w w.heap.size A (colV cs)) (h0 : w.cell? ⟨b, 0, none⟩ = some (.int .i64 v)) :
    Calls Tryz.prog 34 #[.agg #[.slice A n cap, .slice B m capm], .func (.func 35) #[] #[.pointer (some ⟨b, 0, none⟩)]] w fun e w' => e = .returned (.tuple #[.int .i64 (coFind (fun c => decide (c.1 = v)) cs).1, .bool (coFind (fun c => decide (c.1 = v)) cs).2]) ∧ Below w.heap.size w w' := by
 have hb0 : Below w.heap.size w (w.alloc (.cells #[.slice A n cap, .slice B m capm] 28)) := (Below.refl _ w).alloc (Nat.le_refl _) _; have hc := idxplace_any (w.alloc (.cells #[.slice A n cap, .slice B m capm] 28)) A n cap cs b (fun c => decide (c.1 = v)) hn' hn ((hA.below hb0).more hb0.size) (fun k x W hx hW => placeis_any W b x v ((hW.cell (cell_lt (hb0.cell (cell_lt h0) |>.trans h0))).trans ((hb0.cell (cell_lt h0)).trans h0))); obtain ⟨f1, f2⟩ := idxL_find (fun c => decide (c.1 = v)) cs; rw [← f1, ← f2]; have HB := Lib.hid hb0; clear hA hn hn' hb0 f1 f2
 generalize idxL (fun c => decide (c.1 = v)) cs = I at hc ⊢
 have HC := Lib.hid hc; clear hc
 by_cases hI : 0 ≤ I
 · have hmx : max I 0 = I := by omega
   rw [hmx, decide_eq_true hI]
   have hI2 : ¬ I < 0 := by omega
   go_enter Tryz.func34, Tryz.ntmps34
   go_wp2_with fail
   refine HC.out.mono ?_; rintro en w1 ⟨rfl, b1⟩; have B1 := Lib.hid (HB.out.trans (b1.mono HB.out.size)); clear b1
   go_wp2_with fail
   all_goals (first | (exfalso; omega) | (go_ret2; exact ⟨rfl, B1.out⟩))
 · have hmx : max I 0 = 0 := by omega
   rw [hmx]
   have hI2 : I < 0 := by omega
   go_enter Tryz.func34, Tryz.ntmps34
   go_wp2_with fail
   refine HC.out.mono ?_; rintro en w1 ⟨rfl, b1⟩; have B1 := Lib.hid (HB.out.trans (b1.mono HB.out.size)); clear b1
   go_wp2_with fail
   all_goals (first | (exfalso; omega) | (go_ret2; exact ⟨rfl, B1.out⟩))
theorem place_any (w : World) (A B : Option Addr) (n cap m capm : Nat) (cs : List Co) (v : Int) (hn' : n ≤ maxLen) (hn : n = cs.length) (hA : Lay w w.heap.size A (colV cs)) :
    Calls Tryz.prog 11 #[.agg #[.slice A n cap, .slice B m capm], .int .i64 v] w fun e w' => e = .returned (.tuple #[.int .i64 (coFind (fun c => decide (c.1 = v)) cs).1, .bool (coFind (fun c => decide (c.1 = v)) cs).2]) ∧ Below w.heap.size w w' := by
 have hb0 : Below w.heap.size w ((w.alloc (.cells #[.slice A n cap, .slice B m capm] 28)).alloc (.cells #[.int .i64 v] 3)) := ((Below.refl _ w).alloc (Nat.le_refl _) _).alloc (by rw [World.size_alloc]; omega) _; have q1 := block_new (w.alloc (.cells #[.slice A n cap, .slice B m capm] 28)) (.cells #[.int .i64 v] 3); rw [World.size_alloc] at q1; have hc := whereP_any _ A B n cap m capm cs (w.heap.size + 1) v hn' hn ((hA.below hb0).more hb0.size) (cell_of_block (i := 0) q1 rfl)
 have HC := Lib.hid hc; have HB := Lib.hid hb0
 clear hc hA hn hn' hb0 q1
 go_enter Tryz.func11, Tryz.ntmps11
 go_wp2_with fail
 refine HC.out.mono ?_; rintro en w1 ⟨rfl, b1⟩; have B1 := Lib.hid (HB.out.trans (b1.mono HB.out.size)); clear b1
 go_wp2_with fail
 go_ret2
 exact ⟨rfl, B1.out⟩
theorem whereN_any (w : World) (A B : Option Addr) (n cap m capm : Nat) (cs : List Co) (b : Nat) (v : ByteArray) (hn' : n ≤ maxLen) (hn : n = cs.length) (hA : Lay w w.heap.size A (colV cs)) (h0 : w.cell? ⟨b, 0, none⟩ = some (.string v)) :
    Calls Tryz.prog 34 #[.agg #[.slice A n cap, .slice B m capm], .func (.func 36) #[] #[.pointer (some ⟨b, 0, none⟩)]] w fun e w' => e = .returned (.tuple #[.int .i64 (coFind (fun c => decide (c.2.1 = v)) cs).1, .bool (coFind (fun c => decide (c.2.1 = v)) cs).2]) ∧ Below w.heap.size w w' := by
 have hb0 : Below w.heap.size w (w.alloc (.cells #[.slice A n cap, .slice B m capm] 28)) := (Below.refl _ w).alloc (Nat.le_refl _) _; have hc := idxnamed_any (w.alloc (.cells #[.slice A n cap, .slice B m capm] 28)) A n cap cs b (fun c => decide (c.2.1 = v)) hn' hn ((hA.below hb0).more hb0.size) (fun k x W hx hW => namedis_any W b x v ((hW.cell (cell_lt (hb0.cell (cell_lt h0) |>.trans h0))).trans ((hb0.cell (cell_lt h0)).trans h0))); obtain ⟨f1, f2⟩ := idxL_find (fun c => decide (c.2.1 = v)) cs; rw [← f1, ← f2]; have HB := Lib.hid hb0; clear hA hn hn' hb0 f1 f2
 generalize idxL (fun c => decide (c.2.1 = v)) cs = I at hc ⊢
 have HC := Lib.hid hc; clear hc
 by_cases hI : 0 ≤ I
 · have hmx : max I 0 = I := by omega
   rw [hmx, decide_eq_true hI]
   have hI2 : ¬ I < 0 := by omega
   go_enter Tryz.func34, Tryz.ntmps34
   go_wp2_with fail
   refine HC.out.mono ?_; rintro en w1 ⟨rfl, b1⟩; have B1 := Lib.hid (HB.out.trans (b1.mono HB.out.size)); clear b1
   go_wp2_with fail
   all_goals (first | (exfalso; omega) | (go_ret2; exact ⟨rfl, B1.out⟩))
 · have hmx : max I 0 = 0 := by omega
   rw [hmx]
   have hI2 : I < 0 := by omega
   go_enter Tryz.func34, Tryz.ntmps34
   go_wp2_with fail
   refine HC.out.mono ?_; rintro en w1 ⟨rfl, b1⟩; have B1 := Lib.hid (HB.out.trans (b1.mono HB.out.size)); clear b1
   go_wp2_with fail
   all_goals (first | (exfalso; omega) | (go_ret2; exact ⟨rfl, B1.out⟩))
theorem named_any (w : World) (A B : Option Addr) (n cap m capm : Nat) (cs : List Co) (v : ByteArray) (hn' : n ≤ maxLen) (hn : n = cs.length) (hA : Lay w w.heap.size A (colV cs)) :
    Calls Tryz.prog 12 #[.agg #[.slice A n cap, .slice B m capm], .string v] w fun e w' => e = .returned (.tuple #[.int .i64 (coFind (fun c => decide (c.2.1 = v)) cs).1, .bool (coFind (fun c => decide (c.2.1 = v)) cs).2]) ∧ Below w.heap.size w w' := by
 have hb0 : Below w.heap.size w ((w.alloc (.cells #[.slice A n cap, .slice B m capm] 28)).alloc (.cells #[.string v] 9)) := ((Below.refl _ w).alloc (Nat.le_refl _) _).alloc (by rw [World.size_alloc]; omega) _; have q1 := block_new (w.alloc (.cells #[.slice A n cap, .slice B m capm] 28)) (.cells #[.string v] 9); rw [World.size_alloc] at q1; have hc := whereN_any _ A B n cap m capm cs (w.heap.size + 1) v hn' hn ((hA.below hb0).more hb0.size) (cell_of_block (i := 0) q1 rfl)
 have HC := Lib.hid hc; have HB := Lib.hid hb0
 clear hc hA hn hn' hb0 q1
 go_enter Tryz.func12, Tryz.ntmps12
 go_wp2_with fail
 refine HC.out.mono ?_; rintro en w1 ⟨rfl, b1⟩; have B1 := Lib.hid (HB.out.trans (b1.mono HB.out.size)); clear b1
 go_wp2_with fail
 go_ret2
 exact ⟨rfl, B1.out⟩
end Go.Proofs.YthlinmkengoliaaGreatDoor
