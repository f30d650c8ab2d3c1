/- Rows, plainly: an order of rows. Rows: what the statements' walks carry from call to call. -/
import Derived.Test.YtcdmiiaamajfoaaGreatDoorYYa
import Derived.Test.YtcdmiiaamajfoaaGreatDoorYA
import Derived.Test.YtcdmiiaamajfoaaGreatDoorYYd
import Derived.Test.YtcdmiiaamajfoaaGreatDoorYYe
import Derived.Test.YtcdmiiaamajfoaaGreatDoorYYf
set_option linter.unusedVariables false
namespace Go.Ms
theorem ba_inj {s t : ByteArray} (h : s.data.toList = t.data.toList) : s = t := by
  cases s; cases t; simp only [ByteArray.mk.injEq]; exact Array.ext' h
theorem cCmp_bd (a b : Cl) : -1 ≤ cCmp a b ∧ cCmp a b ≤ 1 := cmp_bd ..
theorem cCmp_neg (a b : Cl) : cCmp b a = -cCmp a b := cmp_neg ..
theorem cCmp_zero (a b : Cl) : cCmp a b = 0 ↔ a = b := by
  unfold cCmp
  rw [cmp_zero]
  constructor
  · rintro ⟨h1, h2, h3⟩
    obtain ⟨u, n, s⟩ := a
    obtain ⟨v, m, t⟩ := b
    simp only at h1 h2 h3
    rw [h1, h2, ba_inj h3]
  · rintro rfl; exact ⟨rfl, rfl, rfl⟩
theorem rCmp_bd : ∀ (a b : List Cl), -1 ≤ rCmp a b ∧ rCmp a b ≤ 1
  | [], [] => by unfold rCmp; omega
  | [], _ :: _ => by unfold rCmp; omega
  | _ :: _, [] => by unfold rCmp; omega
  | x :: a, y :: b => by
    unfold rCmp
    split
    · exact rCmp_bd a b
    · exact cCmp_bd x y
end Go.Ms
namespace Go.Proofs.YtcdmiiaamajfoaaGreatDoor
open Go.RowKit Go.Ms Go.Lib
/-- Lists that lie: those of the arguments (E), those of one's own (L); all that was there stands. -/
structure YSt (w0 : World) (E L : List (Option Addr × List Value)) (w : World) : Prop where
  bel : Below w0.heap.size w0 w
  ext : ∀ o ∈ E, Ext w w.heap.size o.1 o.2
  objs : ∀ o ∈ L, Lay w w.heap.size o.1 o.2
  env : Env w
namespace YSt
variable {w0 w w' : World} {E L : List (Option Addr × List Value)} {o o2 : Option Addr × List Value}
theorem step (h : YSt w0 E L w) (b : Below w.heap.size w w') : YSt w0 E L w' :=
  ⟨h.bel.trans (b.mono h.bel.size), fun o ho => ((h.ext o ho).keep b).more b.size, fun o ho => ((h.objs o ho).below b).more b.size, h.env.below b⟩
theorem push (h : YSt w0 E L w) {A : Option Addr} {xs : List Value} (hl : Lay w w.heap.size A xs) : YSt w0 E ((A, xs) :: L) w :=
  ⟨h.bel, h.ext, fun o ho => by rcases List.mem_cons.1 ho with rfl | ho; exact hl; exact h.objs o ho, h.env⟩
theorem o0 {a : Option Addr × List Value} (h : YSt w0 E (a :: L) w) : Lay w w.heap.size a.1 a.2 := h.objs _ (by simp)
theorem o1 {a b : Option Addr × List Value} (h : YSt w0 E (a :: b :: L) w) : Lay w w.heap.size b.1 b.2 := h.objs _ (by simp)
theorem o2_ {a b c : Option Addr × List Value} (h : YSt w0 E (a :: b :: c :: L) w) : Lay w w.heap.size c.1 c.2 := h.objs _ (by simp)
theorem o3 {a b c d : Option Addr × List Value} (h : YSt w0 E (a :: b :: c :: d :: L) w) : Lay w w.heap.size d.1 d.2 := h.objs _ (by simp)
theorem o4 {a b c d e : Option Addr × List Value} (h : YSt w0 E (a :: b :: c :: d :: e :: L) w) : Lay w w.heap.size e.1 e.2 := h.objs _ (by simp)
theorem e0 {a : Option Addr × List Value} (h : YSt w0 (a :: E) L w) : Ext w w.heap.size a.1 a.2 := h.ext _ (by simp)
theorem e1 {a b : Option Addr × List Value} (h : YSt w0 (a :: b :: E) L w) : Ext w w.heap.size b.1 b.2 := h.ext _ (by simp)
theorem e2 {a b c : Option Addr × List Value} (h : YSt w0 (a :: b :: c :: E) L w) : Ext w w.heap.size c.1 c.2 := h.ext _ (by simp)
end YSt
theorem ClIn.sz {l : List Cl} (h : ∀ c ∈ l, ClIn c) : ∀ c ∈ l, c.2.2.size ≤ maxLen := fun c hc => (h c hc).1
theorem cutR_idem (l : List Cl) : cutR (cutR l) = cutR l := by
  have h := cutR_size l
  have hl := cutR_len l
  generalize cutR l = r at *
  unfold cutR
  rw [List.take_of_length_le hl]
  conv => rhs; rw [← List.map_id r]
  apply List.map_congr_left
  intro c hc
  obtain ⟨u, n, S⟩ := c
  have hs := h _ hc
  simp only at hs
  show (u, n, S.extract 0 (min S.size 1100)) = (u, n, S)
  rw [show min S.size 1100 = S.size by omega, ByteArray.extract_zero_size]
theorem cutR_in {l : List Cl} (h : ∀ c ∈ l, ClIn c) : ∀ c ∈ cutR l, ClIn c := by
  intro c hc
  have := cutR_size l c hc
  obtain ⟨d, hd, rfl⟩ := List.mem_map.1 hc
  exact ⟨by unfold maxLen; omega, (h d (List.mem_of_mem_take hd)).2⟩
theorem csOk_cut {l : List Cl} (h : ∀ c ∈ l, ClIn c) : CsOk (cutR l) := by
  intro c hc
  refine ⟨by have := cutR_size l c hc; omega, ?_⟩
  obtain ⟨d, hd, rfl⟩ := List.mem_map.1 hc
  exact (h d (List.mem_of_mem_take hd)).2
theorem cutR_1200 (l : List Cl) : ∀ c ∈ cutR l, c.2.2.size ≤ 1200 := fun c hc => by have := cutR_size l c hc; omega
theorem cutR_big (l : List Cl) : ∀ c ∈ cutR l, c.2.2.size ≤ 100000 := fun c hc => by have := cutR_size l c hc; omega
/-- cut, with what it leaves at hand. -/
theorem lcut_at (w : World) (A : Option Addr) (n cap : Nat) (l : List Cl) (hn' : n ≤ maxLen) (hn : l.length = n) (hA : Ext w w.heap.size A (rowV l)) (hS : ∀ c ∈ l, ClIn c) :
    Calls Tryz.prog 61 #[.slice A n cap] w fun e w' => ∃ A' c', e = .returned (.slice A' (cutR l).length c') ∧ Lay w' w'.heap.size A' (rowV (cutR l)) ∧ Below w.heap.size w w' := by
  refine (lcut_any w A n cap l hn' hn hA (ClIn.sz hS)).mono ?_
  rintro e w' ⟨v, rfl, ho, hb⟩
  obtain ⟨A', c', rfl, _⟩ := yown_slice ho
  exact ⟨A', c', rfl, ho.lay.2, hb⟩
theorem lfew_at (w : World) (A : Option Addr) (n cap : Nat) (l : List Int) (hn' : n ≤ cap) (hc : cap ≤ maxLen) (hn : l.length = n) (hA : Ext w w.heap.size A (intV l)) :
    Calls Tryz.prog 60 #[.slice A n cap] w fun e w' => ∃ A' n' c', e = .returned (.slice A' n' c') ∧ n' = (l.take 12).length ∧ Lay w' w'.heap.size A' (intV (l.take 12)) ∧ Below w.heap.size w w' := by
  refine (lfew_any w A n cap l hn' hc hn hA).mono ?_
  rintro e w' ⟨v, rfl, ho, hb⟩
  obtain ⟨A', c', rfl, _⟩ := yown_slice ho
  exact ⟨A', _, c', rfl, rfl, ho.lay.2, hb⟩
theorem lcols_at (w : World) (A : Option Addr) (n cap : Nat) (l : List Col) (hn' : n ≤ cap) (hc : cap ≤ maxLen) (hn : l.length = n) (hA : Ext w w.heap.size A (colsV l)) :
    Calls Tryz.prog 59 #[.slice A n cap] w fun e w' => ∃ A' n' c', e = .returned (.slice A' n' c') ∧ n' = ((l.take 40).map colTy).length ∧ Lay w' w'.heap.size A' (colsV (l.take 40)) ∧ Below w.heap.size w w' := by
  refine (lcols_any w A n cap (colsV l) hn' hc (by rw [colsV_len, hn]) hA (colsV_one l)).mono ?_
  rintro e w' ⟨v, rfl, ho, hb⟩
  rw [colsV_take] at ho
  obtain ⟨A', c', rfl, _⟩ := yown_slice ho
  have hl : ((l.take 40).map colTy).length = min n 40 := by rw [List.length_map, List.length_take]; omega
  have he : (l.take (min n 40)) = l.take 40 := by
    rcases Nat.le_total n 40 with h | h
    · rw [Nat.min_eq_left h, List.take_of_length_le (by omega), List.take_of_length_le (by omega)]
    · rw [Nat.min_eq_right h]
  rw [he] at ho
  exact ⟨A', _, c', rfl, hl.symm, Lay.of_own ho (Nat.le_refl _), hb⟩
theorem take12 (l : List Int) : (l.take 12).length ≤ 300 := by rw [List.length_take]; omega
theorem cut_max (l : List Cl) : (cutR l).length ≤ maxLen := by have := cutR_len l; unfold maxLen; omega
theorem cols_max (l : List Col) : ((l.take 40).map colTy).length ≤ maxLen := by rw [List.length_map, List.length_take]; unfold maxLen; omega
end Go.Proofs.YtcdmiiaamajfoaaGreatDoor
