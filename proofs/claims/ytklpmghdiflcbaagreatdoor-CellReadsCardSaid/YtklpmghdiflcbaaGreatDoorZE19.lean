/- Cells: Compare. -/
import Derived.Test.YtklpmghdiflcbaaGreatDoorZE18
set_option linter.unusedVariables false
namespace Go.Proofs.YtklpmghdiflcbaaGreatDoor
open Go.RowKit Go.Ms Go.Lib

/-- The first of two that is not 0. -/
def kOr (x y : Int) : Int := if x = 0 then y else x
theorem or_new (x y : Int) (w : World) (T : TypeId) :
    Calls Tryz.prog 44 #[.slice (some ⟨w.heap.size, 0, none⟩) 2 2] (w.alloc (.cells #[.int .i64 x, .int .i64 y] T)).drew fun e w' => e = .returned (.int .i64 (kOr x y)) ∧ (w.alloc (.cells #[.int .i64 x, .int .i64 y] T)).drew = w' :=
  or_any _ x y _ (by show (w.alloc (.cells #[.int .i64 x, .int .i64 y] T)).cell? _ = _; rw [World.cell?_alloc_new]; rfl) (by show (w.alloc (.cells #[.int .i64 x, .int .i64 y] T)).cell? _ = _; rw [World.cell?_alloc_new]; rfl)
theorem keep4 {W w1 w2 : World} {p1 p2 p3 p4 : Addr} {v1 v2 v3 v4 : Value} (h : (w1.cell? p1 = some v1 ∧ w1.cell? p2 = some v2 ∧ w1.cell? p3 = some v3 ∧ w1.cell? p4 = some v4) ∧ Below W.heap.size W w1) (hb : Below w1.heap.size w1 w2) :
    (w2.cell? p1 = some v1 ∧ w2.cell? p2 = some v2 ∧ w2.cell? p3 = some v3 ∧ w2.cell? p4 = some v4) ∧ Below W.heap.size W w2 := by
  obtain ⟨⟨a, b, c, d⟩, f⟩ := h
  exact ⟨⟨by rw [hb.cell (cell_lt a)]; exact a, by rw [hb.cell (cell_lt b)]; exact b, by rw [hb.cell (cell_lt c)]; exact c, by rw [hb.cell (cell_lt d)]; exact d⟩, f.trans (hb.mono f.size)⟩
set_option maxRecDepth 100000 in
set_option maxHeartbeats 4000000 in
theorem compare_same (u : Bool) (a b : Int) (S T : ByteArray) (w : World) :
    Calls Tryz.prog 22 #[.agg #[.bool u, .int .i64 a, .string S], .agg #[.bool u, .int .i64 b, .string T]] w fun e w' => e = .returned (.int .i64 (kOr (kCmpN a b) (compareBytes S.data.toList T.data.toList))) ∧ Below w.heap.size w w' := by
  have p1 := fun w => cmpn_any a b w
  have p2 := fun w => Tryz.strings_Compare S T w
  generalize kCmpN a b = x at *
  generalize compareBytes S.data.toList T.data.toList = y at *
  have b0 := Box2.start w #[.bool u, .int .i64 a, .string S] #[.bool u, .int .i64 b, .string T] 25 25
  obtain ⟨W1, hW1⟩ : ∃ W1, (w.alloc (.cells #[.bool u, .int .i64 a, .string S] 25)).alloc (.cells #[.bool u, .int .i64 b, .string T] 25) = W1 := ⟨_, rfl⟩
  rw [hW1] at b0
  have c0 : W1.cell? ⟨w.heap.size, 0, none⟩ = some (.bool u) := by rw [Lib.cell_of_heap b0.b1]; rfl
  have c1 : W1.cell? ⟨w.heap.size, 1, none⟩ = some (.int .i64 a) := by rw [Lib.cell_of_heap b0.b1]; rfl
  have c2 : W1.cell? ⟨w.heap.size, 2, none⟩ = some (.string S) := by rw [Lib.cell_of_heap b0.b1]; rfl
  have d0 : W1.cell? ⟨w.heap.size + 1, 0, none⟩ = some (.bool u) := by rw [Lib.cell_of_heap b0.b2]; rfl
  have d1 : W1.cell? ⟨w.heap.size + 1, 1, none⟩ = some (.int .i64 b) := by rw [Lib.cell_of_heap b0.b2]; rfl
  have d2 : W1.cell? ⟨w.heap.size + 1, 2, none⟩ = some (.string T) := by rw [Lib.cell_of_heap b0.b2]; rfl
  have hD : (W1.drew.cell? ⟨w.heap.size, 1, none⟩ = some (.int .i64 a) ∧ W1.drew.cell? ⟨w.heap.size, 2, none⟩ = some (.string S) ∧ W1.drew.cell? ⟨w.heap.size + 1, 1, none⟩ = some (.int .i64 b) ∧ W1.drew.cell? ⟨w.heap.size + 1, 2, none⟩ = some (.string T)) ∧ Below W1.heap.size W1 W1.drew := ⟨⟨c1, c2, d1, d2⟩, below_drewN (Below.refl _ _) 1⟩
  have hD0 : (W1.cell? ⟨w.heap.size, 1, none⟩ = some (.int .i64 a) ∧ W1.cell? ⟨w.heap.size, 2, none⟩ = some (.string S) ∧ W1.cell? ⟨w.heap.size + 1, 1, none⟩ = some (.int .i64 b) ∧ W1.cell? ⟨w.heap.size + 1, 2, none⟩ = some (.string T)) ∧ Below W1.heap.size W1 W1 := ⟨⟨c1, c2, d1, d2⟩, Below.refl _ _⟩
  have HD0 := Lib.hid hD0
  have HB0 := Lib.hid b0; have P1 := Lib.hid p1; have P2 := Lib.hid p2; have HD := Lib.hid hD; have HW1 := Lib.hid hW1
  clear b0 p1 p2 hD hD0 hW1
  go_enter Tryz.func22, Tryz.ntmps22
  go_wp2_with fail
  rw [HW1.out]
  go_wp2_with fail
  go_region_held3 (fun w' => (w'.cell? ⟨w.heap.size, 1, none⟩ = some (.int .i64 a) ∧ w'.cell? ⟨w.heap.size, 2, none⟩ = some (.string S) ∧ w'.cell? ⟨w.heap.size + 1, 1, none⟩ = some (.int .i64 b) ∧ w'.cell? ⟨w.heap.size + 1, 2, none⟩ = some (.string T)) ∧ Below W1.heap.size W1 w')
    (first
      | exact HD.out
      | exact keep4 HD0.out (below_drewN ((Below.refl _ _).alloc (Nat.le_refl _) _) 1)
      | assumption
      | exact keep4 (by assumption) (below_drewN ((Below.refl _ _).alloc (Nat.le_refl _) _) 1)
      | (go_keep; done))
    ((first | ((with_reducible refine (P1.out _).mono ?_); rintro en w2 ⟨rfl, rfl⟩) | ((with_reducible refine (P2.out _).mono ?_); rintro en w3 ⟨rfl, rfl⟩) | ((with_reducible refine (or_new _ _ _ _).mono ?_); rintro en w3 ⟨rfl, rfl⟩)))
  all_goals
    go_wp2_with fail
    go_ret
    exact ⟨rfl, HB0.out.bel.trans (Below.mono (And.right (by assumption)) HB0.out.bel.size)⟩
theorem compare_any (u v : Bool) (a b : Int) (S T : ByteArray) (w : World) :
    Calls Tryz.prog 22 #[.agg #[.bool u, .int .i64 a, .string S], .agg #[.bool v, .int .i64 b, .string T]] w fun e w' => e = .returned (.int .i64 (kCmp u a S.data.toList v b T.data.toList)) ∧ Below w.heap.size w w' := by
  unfold kCmp
  by_cases h : u = v
  · subst h
    rw [if_pos rfl]
    exact compare_same u a b S T w
  · rw [if_neg h]
    cases u with
    | true =>
      obtain rfl : v = false := by cases v <;> simp_all
      rw [if_pos rfl]
      clear h
      go_enter Tryz.func22, Tryz.ntmps22
      go_wp2
      go_ret
      exact ⟨rfl, ((Below.refl _ _).alloc (Nat.le_refl _) _).alloc (by simp) _⟩
    | false =>
      obtain rfl : v = true := by cases v <;> simp_all
      rw [if_neg (by simp)]
      clear h
      go_enter Tryz.func22, Tryz.ntmps22
      go_wp2
      go_ret
      exact ⟨rfl, ((Below.refl _ _).alloc (Nat.le_refl _) _).alloc (by simp) _⟩
theorem zero_any (k : Int) (tn : Bool) (w : World) :
    Calls Tryz.prog 27 #[.agg #[.int .i64 k, .bool tn]] w fun e w' => e = .returned (.agg #[.bool (kMay k && tn), .int .i64 0, .string ⟨#[]⟩]) ∧ Below w.heap.size w w' := by
  have cm := fun w' => may_any k tn w'
  generalize kMay k = M at *
  have b0 := Box2.start w #[.int .i64 k, .bool tn] #[.bool false, .int .i64 0, .string ⟨#[]⟩] 23 25
  have HB0 := Lib.hid b0; have CM := Lib.hid cm
  clear b0 cm
  cases M
  all_goals
    go_enter Tryz.func27, Tryz.ntmps27
    go_wp2_with fail
    refine (CM.out _).mono ?_
    rintro en w1 ⟨rfl, b1⟩
    have x1 := HB0.out.step b1
    obtain ⟨c1, c2, c3, c4, c5⟩ := x1.tc
    have f3 := Lib.frozen_of_heap x1.b2 0
    have f4 := Lib.frozen_of_heap x1.b2 1
    have f5 := Lib.frozen_of_heap x1.b2 2
    have B := x1.bel
    have HB := Lib.hid B
    clear x1 b1 B
    go_wp2_with fail
  · exact bodyPost_ret (v := .agg #[.bool false, .int .i64 0, .string ⟨#[]⟩]) (by simp [results, Tryz.results27, go_sem, c3, c4, c5]) rfl ⟨rfl, ((HB.out.setCell (p := ⟨_, _, _⟩) (by simp) _).setCell (p := ⟨_, _, _⟩) (by simp) _).setCell (p := ⟨_, _, _⟩) (by simp) _⟩
  · exact bodyPost_ret (v := .agg #[.bool tn, .int .i64 0, .string ⟨#[]⟩]) (by simp [results, Tryz.results27, go_sem, c3, c4, c5]) rfl ⟨rfl, ((HB.out.setCell (p := ⟨_, _, _⟩) (by simp) _).setCell (p := ⟨_, _, _⟩) (by simp) _).setCell (p := ⟨_, _, _⟩) (by simp) _⟩
end Go.Proofs.YtklpmghdiflcbaaGreatDoor
