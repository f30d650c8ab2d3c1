/- Cells: how two stand. Cells: Compare. Cells: what is taken off: words. -/
import Derived.Test.YtcdmiiaamajfoaaGreatDoorZEd
import Derived.Test.YtcdmiiaamajfoaaGreatDoorZA
import Derived.Deep.RegionHeld3
set_option linter.unusedVariables false
namespace Go.Proofs.YtcdmiiaamajfoaaGreatDoor
open Go.RowKit Go.Ms Go.Lib

theorem nan_any (x : Int) (w : World) :
    Calls Tryz.prog 205 #[.int .i64 x] w fun e w' => e = .returned (.bool false) ∧ w = w' := by
  go_enter Tryz.func205, Tryz.ntmps205
  go_wp2
  go_ret
  exact ⟨by simp, rfl⟩
theorem cmpn_any (x y : Int) (w : World) :
    Calls Tryz.prog 151 #[.int .i64 x, .int .i64 y] w fun e w' => e = .returned (.int .i64 (kCmpN x y)) ∧ w = w' := by
  unfold kCmpN
  by_cases h1 : x < y
  · rw [if_pos h1]
    go_enter Tryz.func151, Tryz.ntmps151
    go_wp2_with ((with_reducible refine (nan_any _ _).mono ?_); rintro e w' ⟨rfl, rfl⟩)
    go_ret
    exact ⟨rfl, rfl⟩
  · rw [if_neg h1]
    by_cases h2 : y < x
    · rw [if_pos h2]
      go_enter Tryz.func151, Tryz.ntmps151
      go_wp2_with ((with_reducible refine (nan_any _ _).mono ?_); rintro e w' ⟨rfl, rfl⟩)
      go_ret
      exact ⟨rfl, rfl⟩
    · rw [if_neg h2]
      go_enter Tryz.func151, Tryz.ntmps151
      go_wp2_with ((with_reducible refine (nan_any _ _).mono ?_); rintro e w' ⟨rfl, rfl⟩)
      go_ret
      exact ⟨rfl, rfl⟩
theorem or_any (b : Nat) (x y : Int) (w : World) (h0 : w.cell? ⟨b, 0, none⟩ = some (.int .i64 x)) (h1 : w.cell? ⟨b, 1, none⟩ = some (.int .i64 y)) :
    Calls Tryz.prog 150 #[.slice (some ⟨b, 0, none⟩) 2 2] w fun e w' => e = .returned (.int .i64 (if x = 0 then y else x)) ∧ w = w' := by
  by_cases hx : x = 0
  · subst hx
    rw [if_pos rfl]
    by_cases hy : y = 0
    · subst hy
      go_enter Tryz.func150, Tryz.ntmps150
      go_wp2
      go_rounds 3
      go_ret
      exact ⟨rfl, rfl⟩
    · have e1 : (y != 0) = true := by simpa using hy
      go_enter Tryz.func150, Tryz.ntmps150
      go_wp2
      go_rounds 3
      go_ret
      exact ⟨rfl, rfl⟩
  · rw [if_neg hx]
    have e1 : (x != 0) = true := by simpa using hx
    go_enter Tryz.func150, Tryz.ntmps150
    go_wp2
    go_rounds 3
    go_ret
    exact ⟨rfl, rfl⟩
end Go.Proofs.YtcdmiiaamajfoaaGreatDoor
namespace Go.Proofs.YtcdmiiaamajfoaaGreatDoor
open Go.RowKit Go.Ms Go.Lib

/-- The first of two that is not 0. -/
def kOr (x y : Int) : Int := if x = 0 then y else x
theorem or_new (x y : Int) (w : World) (T : TypeId) :
    Calls Tryz.prog 150 #[.slice (some ⟨w.heap.size, 0, none⟩) 2 2] (w.alloc (.cells #[.int .i64 x, .int .i64 y] T)).drew fun e w' => e = .returned (.int .i64 (kOr x y)) ∧ (w.alloc (.cells #[.int .i64 x, .int .i64 y] T)).drew = w' :=
  or_any _ x y _ (by show (w.alloc (.cells #[.int .i64 x, .int .i64 y] T)).cell? _ = _; rw [World.cell?_alloc_new]; rfl) (by show (w.alloc (.cells #[.int .i64 x, .int .i64 y] T)).cell? _ = _; rw [World.cell?_alloc_new]; rfl)
theorem keep4 {W w1 w2 : World} {p1 p2 p3 p4 : Addr} {v1 v2 v3 v4 : Value} (h : (w1.cell? p1 = some v1 ∧ w1.cell? p2 = some v2 ∧ w1.cell? p3 = some v3 ∧ w1.cell? p4 = some v4) ∧ Below W.heap.size W w1) (hb : Below w1.heap.size w1 w2) :
    (w2.cell? p1 = some v1 ∧ w2.cell? p2 = some v2 ∧ w2.cell? p3 = some v3 ∧ w2.cell? p4 = some v4) ∧ Below W.heap.size W w2 := by
  obtain ⟨⟨a, b, c, d⟩, f⟩ := h
  exact ⟨⟨by rw [hb.cell (cell_lt a)]; exact a, by rw [hb.cell (cell_lt b)]; exact b, by rw [hb.cell (cell_lt c)]; exact c, by rw [hb.cell (cell_lt d)]; exact d⟩, f.trans (hb.mono f.size)⟩
set_option maxRecDepth 100000 in
set_option maxHeartbeats 4000000 in
theorem compare_same (u : Bool) (a b : Int) (S T : ByteArray) (w : World) :
    Calls Tryz.prog 90 #[.agg #[.bool u, .int .i64 a, .string S], .agg #[.bool u, .int .i64 b, .string T]] w fun e w' => e = .returned (.int .i64 (kOr (kCmpN a b) (compareBytes S.data.toList T.data.toList))) ∧ Below w.heap.size w w' := by
  have p1 := fun w => cmpn_any a b w
  have p2 := fun w => Tryz.strings_Compare S T w
  generalize kCmpN a b = x at *
  generalize compareBytes S.data.toList T.data.toList = y at *
  have b0 := Box2.start w #[.bool u, .int .i64 a, .string S] #[.bool u, .int .i64 b, .string T] 23 23
  obtain ⟨W1, hW1⟩ : ∃ W1, (w.alloc (.cells #[.bool u, .int .i64 a, .string S] 23)).alloc (.cells #[.bool u, .int .i64 b, .string T] 23) = W1 := ⟨_, rfl⟩
  rw [hW1] at b0
  have c0 : W1.cell? ⟨w.heap.size, 0, none⟩ = some (.bool u) := by rw [Lib.cell_of_heap b0.b1]; rfl
  have c1 : W1.cell? ⟨w.heap.size, 1, none⟩ = some (.int .i64 a) := by rw [Lib.cell_of_heap b0.b1]; rfl
  have c2 : W1.cell? ⟨w.heap.size, 2, none⟩ = some (.string S) := by rw [Lib.cell_of_heap b0.b1]; rfl
  have d0 : W1.cell? ⟨w.heap.size + 1, 0, none⟩ = some (.bool u) := by rw [Lib.cell_of_heap b0.b2]; rfl
  have d1 : W1.cell? ⟨w.heap.size + 1, 1, none⟩ = some (.int .i64 b) := by rw [Lib.cell_of_heap b0.b2]; rfl
  have d2 : W1.cell? ⟨w.heap.size + 1, 2, none⟩ = some (.string T) := by rw [Lib.cell_of_heap b0.b2]; rfl
  have hD : (W1.drew.cell? ⟨w.heap.size, 1, none⟩ = some (.int .i64 a) ∧ W1.drew.cell? ⟨w.heap.size, 2, none⟩ = some (.string S) ∧ W1.drew.cell? ⟨w.heap.size + 1, 1, none⟩ = some (.int .i64 b) ∧ W1.drew.cell? ⟨w.heap.size + 1, 2, none⟩ = some (.string T)) ∧ Below W1.heap.size W1 W1.drew := ⟨⟨c1, c2, d1, d2⟩, ms_drewN (Below.refl _ _) 1⟩
  have hD0 : (W1.cell? ⟨w.heap.size, 1, none⟩ = some (.int .i64 a) ∧ W1.cell? ⟨w.heap.size, 2, none⟩ = some (.string S) ∧ W1.cell? ⟨w.heap.size + 1, 1, none⟩ = some (.int .i64 b) ∧ W1.cell? ⟨w.heap.size + 1, 2, none⟩ = some (.string T)) ∧ Below W1.heap.size W1 W1 := ⟨⟨c1, c2, d1, d2⟩, Below.refl _ _⟩
  have HD0 := Lib.hid hD0
  have HB0 := Lib.hid b0; have P1 := Lib.hid p1; have P2 := Lib.hid p2; have HD := Lib.hid hD; have HW1 := Lib.hid hW1
  clear b0 p1 p2 hD hD0 hW1
  go_enter Tryz.func90, Tryz.ntmps90
  go_wp2_with fail
  rw [HW1.out]
  go_wp2_with fail
  go_region_held3 (fun w' => (w'.cell? ⟨w.heap.size, 1, none⟩ = some (.int .i64 a) ∧ w'.cell? ⟨w.heap.size, 2, none⟩ = some (.string S) ∧ w'.cell? ⟨w.heap.size + 1, 1, none⟩ = some (.int .i64 b) ∧ w'.cell? ⟨w.heap.size + 1, 2, none⟩ = some (.string T)) ∧ Below W1.heap.size W1 w')
    (first
      | exact HD.out
      | exact keep4 HD0.out (ms_drewN ((Below.refl _ _).alloc (Nat.le_refl _) _) 1)
      | assumption
      | exact keep4 (by assumption) (ms_drewN ((Below.refl _ _).alloc (Nat.le_refl _) _) 1)
      | (go_keep; done))
    ((first | ((with_reducible refine (P1.out _).mono ?_); rintro en w2 ⟨rfl, rfl⟩) | ((with_reducible refine (P2.out _).mono ?_); rintro en w3 ⟨rfl, rfl⟩) | ((with_reducible refine (or_new _ _ _ _).mono ?_); rintro en w3 ⟨rfl, rfl⟩)))
  all_goals
    go_wp2_with fail
    go_ret
    exact ⟨rfl, HB0.out.bel.trans (Below.mono (And.right (by assumption)) HB0.out.bel.size)⟩
theorem compare_any (u v : Bool) (a b : Int) (S T : ByteArray) (w : World) :
    Calls Tryz.prog 90 #[.agg #[.bool u, .int .i64 a, .string S], .agg #[.bool v, .int .i64 b, .string T]] w fun e w' => e = .returned (.int .i64 (kCmp u a S.data.toList v b T.data.toList)) ∧ Below w.heap.size w w' := by
  unfold kCmp
  by_cases h : u = v
  · subst h
    rw [if_pos rfl]
    exact compare_same u a b S T w
  · rw [if_neg h]
    cases u with
    | true =>
      obtain rfl : v = false := by cases v <;> simp_all
      rw [if_pos rfl]
      clear h
      go_enter Tryz.func90, Tryz.ntmps90
      go_wp2
      go_ret
      exact ⟨rfl, ((Below.refl _ _).alloc (Nat.le_refl _) _).alloc (by simp) _⟩
    | false =>
      obtain rfl : v = true := by cases v <;> simp_all
      rw [if_neg (by simp)]
      clear h
      go_enter Tryz.func90, Tryz.ntmps90
      go_wp2
      go_ret
      exact ⟨rfl, ((Below.refl _ _).alloc (Nat.le_refl _) _).alloc (by simp) _⟩
theorem zero_any (k : Int) (tn : Bool) (w : World) :
    Calls Tryz.prog 88 #[.agg #[.int .i64 k, .bool tn]] w fun e w' => e = .returned (.agg #[.bool (kMay k && tn), .int .i64 0, .string ⟨#[]⟩]) ∧ Below w.heap.size w w' := by
  have cm := fun w' => may_any k tn w'
  generalize kMay k = M at *
  have b0 := Box2.start w #[.int .i64 k, .bool tn] #[.bool false, .int .i64 0, .string ⟨#[]⟩] 41 23
  have HB0 := Lib.hid b0; have CM := Lib.hid cm
  clear b0 cm
  cases M
  all_goals
    go_enter Tryz.func88, Tryz.ntmps88
    go_wp2_with fail
    refine (CM.out _).mono ?_
    rintro en w1 ⟨rfl, b1⟩
    have x1 := HB0.out.step b1
    obtain ⟨c1, c2, c3, c4, c5⟩ := x1.tc
    have f3 := Lib.frozen_of_heap x1.b2 0
    have f4 := Lib.frozen_of_heap x1.b2 1
    have f5 := Lib.frozen_of_heap x1.b2 2
    have B := x1.bel
    have HB := Lib.hid B
    clear x1 b1 B
    go_wp2_with fail
  · exact bodyPost_ret (v := .agg #[.bool false, .int .i64 0, .string ⟨#[]⟩]) (by simp [results, Tryz.results88, go_sem, c3, c4, c5]) rfl ⟨rfl, ((HB.out.setCell (p := ⟨_, _, _⟩) (by simp) _).setCell (p := ⟨_, _, _⟩) (by simp) _).setCell (p := ⟨_, _, _⟩) (by simp) _⟩
  · exact bodyPost_ret (v := .agg #[.bool tn, .int .i64 0, .string ⟨#[]⟩]) (by simp [results, Tryz.results88, go_sem, c3, c4, c5]) rfl ⟨rfl, ((HB.out.setCell (p := ⟨_, _, _⟩) (by simp) _).setCell (p := ⟨_, _, _⟩) (by simp) _).setCell (p := ⟨_, _, _⟩) (by simp) _⟩
end Go.Proofs.YtcdmiiaamajfoaaGreatDoor
namespace Go.Proofs.YtcdmiiaamajfoaaGreatDoor
open Go.RowKit Go.Ms Go.Lib

/-- The result's block is there. -/
def ResB (w w' : World) : Prop := ∃ x y z, w'.heap[w.heap.size + 1]? = some (.cells #[x, y, z] 23 (0, 0))
/-- What stands while a cell is taken off. -/
def UnS (w : World) (k : Int) (tn : Bool) (w' : World) : Prop :=
  (w'.cell? ⟨w.heap.size, 0, none⟩ = some (.int .i64 k) ∧ w'.cell? ⟨w.heap.size, 1, none⟩ = some (.bool tn)) ∧ Below w.heap.size w w' ∧ ResB w w'
theorem UnS.of {w w1 : World} {k : Int} {tn nu : Bool} {n : Int} {S : ByteArray} {T1 : TypeId} (h : Box2 w w1 #[.int .i64 k, .bool tn] #[.bool nu, .int .i64 n, .string S] T1 23) : UnS w k tn w1 :=
  ⟨⟨by rw [Lib.cell_of_heap h.b1]; rfl, by rw [Lib.cell_of_heap h.b1]; rfl⟩, h.bel, _, _, _, h.b2⟩
theorem UnS.step {w w1 w2 : World} {k : Int} {tn : Bool} (h : UnS w k tn w1) (hb : Below w1.heap.size w1 w2) : UnS w k tn w2 := by
  obtain ⟨⟨a, b⟩, f, x, y, z, r⟩ := h
  exact ⟨⟨by rw [hb.cell (cell_lt a)]; exact a, by rw [hb.cell (cell_lt b)]; exact b⟩, f.trans (hb.mono f.size), x, y, z, by rw [hb.block _ (Array.getElem?_eq_some_iff.1 r).1]; exact r⟩
theorem UnS.drew {w w1 : World} {k : Int} {tn : Bool} (h : UnS w k tn w1) : UnS w k tn w1.drew := h.step (ms_drewN (Below.refl _ _) 1)
theorem blk_set3 {w : World} {b : Nat} {T : TypeId} {x y z : Value} (h : w.heap[b]? = some (.cells #[x, y, z] T (0, 0))) (p q r : Value) :
    (((w.setCell ⟨b, 0, none⟩ p).setCell ⟨b, 1, none⟩ q).setCell ⟨b, 2, none⟩ r).heap[b]? = some (.cells #[p, q, r] T (0, 0)) := by
  simp [World.setCell, Array.getElem?_modify, h]
theorem cell_set3 {w : World} {b c : Nat} {o : Nat} (hc : c ≠ b) (p q r : Value) :
    (((w.setCell ⟨b, 0, none⟩ p).setCell ⟨b, 1, none⟩ q).setCell ⟨b, 2, none⟩ r).cell? ⟨c, o, none⟩ = w.cell? ⟨c, o, none⟩ := by
  apply World.cell?_of_block
  simp [World.setCell, Array.getElem?_modify, hc.symm]
theorem UnS.set {w w1 : World} {k : Int} {tn : Bool} (h : UnS w k tn w1) (p q r : Value) : UnS w k tn (((w1.setCell ⟨w.heap.size + 1, 0, none⟩ p).setCell ⟨w.heap.size + 1, 1, none⟩ q).setCell ⟨w.heap.size + 1, 2, none⟩ r) := by
  obtain ⟨⟨a, b⟩, f, x, y, z, hr⟩ := h
  exact ⟨⟨by rw [cell_set3 (by omega)]; exact a, by rw [cell_set3 (by omega)]; exact b⟩, ((f.setCell (p := ⟨_, _, _⟩) (by simp) _).setCell (p := ⟨_, _, _⟩) (by simp) _).setCell (p := ⟨_, _, _⟩) (by simp) _, p, q, r, blk_set3 hr p q r⟩
/-- The result's three cells, whatever they hold. -/
structure Res3x (w w' : World) (x y z : Value) : Prop where
  c0 : w'.cell? ⟨w.heap.size + 1, 0, none⟩ = some x
  c1 : w'.cell? ⟨w.heap.size + 1, 1, none⟩ = some y
  c2 : w'.cell? ⟨w.heap.size + 1, 2, none⟩ = some z
  f0 : w'.frozen? ⟨w.heap.size + 1, 0, none⟩ = false
  f1 : w'.frozen? ⟨w.heap.size + 1, 1, none⟩ = false
  f2 : w'.frozen? ⟨w.heap.size + 1, 2, none⟩ = false
theorem res3x_of {w w' : World} {x y z : Value} (h : w'.heap[w.heap.size + 1]? = some (.cells #[x, y, z] 23 (0, 0))) : Res3x w w' x y z :=
  ⟨by rw [Lib.cell_of_heap h]; rfl, by rw [Lib.cell_of_heap h]; rfl, by rw [Lib.cell_of_heap h]; rfl, Lib.frozen_of_heap h 0, Lib.frozen_of_heap h 1, Lib.frozen_of_heap h 2⟩
theorem UnS.res {w w1 : World} {k : Int} {tn : Bool} (h : UnS w k tn w1) : ∃ x y z, Res3x w w1 x y z := by
  obtain ⟨_, _, x, y, z, hr⟩ := h
  exact ⟨x, y, z, res3x_of hr⟩
theorem unrow_len (l : Bs) : ∀ (f i : Nat) (acc : Bs), acc.length ≤ 1024 → (unrowG l f i acc).1.length ≤ 1024 ∧ (unrowG l f i acc).2.1 ≤ l.length
  | 0, _, _, _ => by simp [unrowG]
  | f + 1, i, acc, h => by
    rw [unrowG_succ]
    repeat' split
    all_goals first | exact ⟨Nat.zero_le _, Nat.zero_le _⟩ | skip
    · exact ⟨h, by show i + 2 ≤ _; omega⟩
    · exact unrow_len l f _ _ (by simp; omega)
    · exact unrow_len l f _ _ (by simp; omega)
theorem kun_len (k : Int) (l : Bs) : (kUn k l).2.1.length ≤ 1024 := by
  unfold kUn
  split
  · simp
  · split
    · simp
    · exact (unrow_len l _ _ _ (by simp)).1
theorem kun_le (k : Int) (l : Bs) : (kUn k l).2.2.1 ≤ l.length := by
  unfold kUn
  split
  · show (kUnbool l).2.1 ≤ _
    unfold kUnbool
    split
    · simp
    · split
      · simp
      · rename_i h _; exact List.length_pos_iff.2 h
  · split
    · show (kUnnum l).2.1 ≤ _
      unfold kUnnum
      split
      · simp
      · show 8 ≤ _; omega
    · exact (unrow_len l _ _ _ (by simp)).2
/-- What Unbits answers, as a value. -/
def unV (D : (Bool × Int × Bs) × Nat × Int) : Value := .tuple #[.agg #[.bool D.1.1, .int .i64 D.1.2.1, .string ⟨D.1.2.2.toArray⟩], .int .i64 D.2.1, .int .i64 D.2.2]
theorem kunbits_none (k : Int) (tn : Bool) (S : ByteArray) (w : World) (hk : kMay k = false) :
    Calls Tryz.prog 80 #[.agg #[.int .i64 k, .bool tn], .string S] w fun e w' => e = .returned (.tuple #[.agg #[.bool false, .int .i64 0, .string ⟨#[]⟩], .int .i64 0, .int .i64 2]) ∧ Below w.heap.size w w' := by
  have cm := fun w' => may_any k tn w'
  rw [hk] at cm
  have b0 := Box2.start w #[.int .i64 k, .bool tn] #[.bool false, .int .i64 0, .string ⟨#[]⟩] 41 23
  have HB0 := Lib.hid b0; have CM := Lib.hid cm
  clear b0 cm hk
  go_enter Tryz.func80, Tryz.ntmps80
  go_wp2_with fail
  refine (CM.out _).mono ?_
  rintro en w1 ⟨rfl, b1⟩
  have x1 := HB0.out.step b1
  obtain ⟨c3, c4, c5, f3, f4, f5⟩ := res3x_of x1.b2
  have HB := Lib.hid x1.bel
  clear x1 b1
  go_wp2_with fail
  exact bodyPost_ret (v := .tuple #[.agg #[.bool false, .int .i64 0, .string ⟨#[]⟩], .int .i64 0, .int .i64 2]) (by simp [results, Tryz.results80, go_sem, c3, c4, c5]) rfl ⟨rfl, ((HB.out.setCell (p := ⟨_, _, _⟩) (by simp) _).setCell (p := ⟨_, _, _⟩) (by simp) _).setCell (p := ⟨_, _, _⟩) (by simp) _⟩
end Go.Proofs.YtcdmiiaamajfoaaGreatDoor
