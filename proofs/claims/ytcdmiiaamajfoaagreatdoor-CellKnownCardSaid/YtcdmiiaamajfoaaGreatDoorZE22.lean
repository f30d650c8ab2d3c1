/- Cells: what is taken off, whole. -/
import Derived.Test.YtcdmiiaamajfoaaGreatDoorZEua
import Derived.Test.YtcdmiiaamajfoaaGreatDoorZEub
import Derived.Test.YtcdmiiaamajfoaaGreatDoorZE20
set_option linter.unusedVariables false
namespace Go.Proofs.YtcdmiiaamajfoaaGreatDoor
open Go.RowKit Go.Ms Go.Lib

set_option maxRecDepth 100000 in
/-- The flag alone decides: an error, or nothing's cell. -/
theorem kunbits_flag (k : Int) (S : ByteArray) (w : World) (hk : kMay k = true) (hu : (kUnbool S.data.toList).2.2 ≠ 0 ∨ (kUnbool S.data.toList).1 = 0) :
    Calls Tryz.prog 80 #[.agg #[.int .i64 k, .bool true], .string S] w fun e w' => e = .returned (unV (if (kUnbool S.data.toList).2.2 = 0 then ((true, 0, []), 1, 0) else ((false, 0, []), 0, (kUnbool S.data.toList).2.2))) ∧ Below w.heap.size w w' := by
  have cu := fun w' => unbool_any S w'
  have cm := fun w' => may_any k true w'
  rw [hk] at cm
  rw [show unboolD S.data.toList = kUnbool S.data.toList from rfl] at cu
  obtain ⟨n, d, e, hx⟩ : ∃ n d e, kUnbool S.data.toList = (n, d, e) := ⟨_, _, _, rfl⟩
  rw [hx] at cu hu ⊢
  simp only at cu hu ⊢
  have s0 := UnS.of (Box2.start w #[.int .i64 k, .bool true] #[.bool false, .int .i64 0, .string ⟨#[]⟩] 41 23)
  have HS0 := Lib.hid s0; have CU := Lib.hid cu; have CM := Lib.hid cm
  clear s0 cu cm hx hk
  by_cases he : e = 0
  · rw [if_pos he]
    subst he
    obtain rfl : n = 0 := by rcases hu with h | h; exact absurd rfl h; exact h
    clear hu
    go_enter Tryz.func80, Tryz.ntmps80
    go_wp2_with fail
    refine (CM.out _).mono ?_
    rintro en w1 ⟨rfl, b1⟩
    have s1 := HS0.out.step b1
    obtain ⟨⟨c1, c2⟩, _⟩ := id s1
    have HS1 := Lib.hid s1
    clear s1 b1
    go_wp2_with fail
    refine (CU.out _).mono ?_
    rintro en w2 ⟨rfl, b2⟩
    have s2 := HS1.out.step b2
    have s3 := s2.step ((Below.refl _ _).alloc (Nat.le_refl _) (.cells #[.bool false, .int .i64 0, .string ⟨#[]⟩] 23))
    clear c1 c2
    obtain ⟨⟨c1, c2⟩, _⟩ := id s2
    obtain ⟨⟨a1, a2⟩, _, _⟩ := id s3
    obtain ⟨_, hbel, x', y', z', hb2⟩ := id s2
    have HB2 := Lib.hid hb2
    have n1 : w.heap.size < w2.heap.size := by have := cell_lt c1; exact this
    have n2 : w.heap.size + 1 < w2.heap.size := by have := (s2.res); obtain ⟨_, _, _, r⟩ := this; have := cell_lt r.c0; exact this
    obtain ⟨_, _, _, g0, g1, g2, u0, u1, u2⟩ := s2.res
    have HB := Lib.hid hbel
    clear s2 s3 b2 hb2 hbel
    go_wp2_with fail
    have hb4 : ((((w2.setCell ⟨w.heap.size + 1, 0, none⟩ (.bool true)).setCell ⟨w.heap.size + 1, 1, none⟩ (.int .i64 0)).setCell ⟨w.heap.size + 1, 2, none⟩ (.string ⟨#[]⟩)).alloc (.cells #[.bool false, .int .i64 0, .string ⟨#[]⟩] 23)).heap[w.heap.size + 1]? = some (.cells #[.bool true, .int .i64 0, .string ⟨#[]⟩] 23 (0, 0)) := by
      rw [Lib.alloc_old _ _ _ (by simp [World.setCell]; omega)]; exact blk_set3 HB2.out _ _ _
    obtain ⟨r0, r1, r2, _, _, _⟩ := res3x_of hb4
    exact bodyPost_ret (v := .tuple #[.agg #[.bool true, .int .i64 0, .string ⟨#[]⟩], .int .i64 1, .int .i64 0]) (by simp [results, Tryz.results80, go_sem, r0, r1, r2]) rfl ⟨rfl, (((HB.out.setCell (p := ⟨_, _, _⟩) (by simp) _).setCell (p := ⟨_, _, _⟩) (by simp) _).setCell (p := ⟨_, _, _⟩) (by simp) _).alloc (by simp [World.setCell]; omega) _⟩
  · rw [if_neg he]
    have q1 : (e == 0) = false := by simpa using he
    have q2 : (e != 0) = true := by simpa using he
    clear hu he
    go_enter Tryz.func80, Tryz.ntmps80
    go_wp2_with fail
    refine (CM.out _).mono ?_
    rintro en w1 ⟨rfl, b1⟩
    have s1 := HS0.out.step b1
    obtain ⟨⟨c1, c2⟩, _⟩ := id s1
    have HS1 := Lib.hid s1
    clear s1 b1
    go_wp2_with fail
    refine (CU.out _).mono ?_
    rintro en w2 ⟨rfl, b2⟩
    have s2 := HS1.out.step b2
    have s3 := s2.step ((Below.refl _ _).alloc (Nat.le_refl _) (.cells #[.bool false, .int .i64 n, .string ⟨#[]⟩] 23))
    clear c1 c2
    obtain ⟨⟨c1, c2⟩, _⟩ := id s2
    obtain ⟨⟨a1, a2⟩, _, _⟩ := id s3
    obtain ⟨_, hbel, x', y', z', hb2⟩ := id s2
    have HB2 := Lib.hid hb2
    have n1 : w.heap.size < w2.heap.size := by have := cell_lt c1; exact this
    have n2 : w.heap.size + 1 < w2.heap.size := by have := (s2.res); obtain ⟨_, _, _, r⟩ := this; have := cell_lt r.c0; exact this
    obtain ⟨_, _, _, g0, g1, g2, u0, u1, u2⟩ := s2.res
    have HB := Lib.hid hbel
    clear s2 s3 b2 hb2 hbel
    go_wp2_with fail
    have hb4 : ((((w2.setCell ⟨w.heap.size + 1, 0, none⟩ (.bool false)).setCell ⟨w.heap.size + 1, 1, none⟩ (.int .i64 0)).setCell ⟨w.heap.size + 1, 2, none⟩ (.string ⟨#[]⟩)).alloc (.cells #[.bool false, .int .i64 n, .string ⟨#[]⟩] 23)).heap[w.heap.size + 1]? = some (.cells #[.bool false, .int .i64 0, .string ⟨#[]⟩] 23 (0, 0)) := by
      rw [Lib.alloc_old _ _ _ (by simp [World.setCell]; omega)]; exact blk_set3 HB2.out _ _ _
    obtain ⟨r0, r1, r2, _, _, _⟩ := res3x_of hb4
    exact bodyPost_ret (v := .tuple #[.agg #[.bool false, .int .i64 0, .string ⟨#[]⟩], .int .i64 0, .int .i64 e]) (by simp [results, Tryz.results80, go_sem, r0, r1, r2]) rfl ⟨rfl, (((HB.out.setCell (p := ⟨_, _, _⟩) (by simp) _).setCell (p := ⟨_, _, _⟩) (by simp) _).setCell (p := ⟨_, _, _⟩) (by simp) _).alloc (by simp [World.setCell]; omega) _⟩
theorem kunbits_any (k : Int) (tn : Bool) (S : ByteArray) (w : World) (hs : S.size ≤ 100000) (hE : Env w) :
    Calls Tryz.prog 80 #[.agg #[.int .i64 k, .bool tn], .string S] w fun e w' => e = .returned (unV (kUnD k tn S.data.toList)) ∧ Below w.heap.size w w' := by
  unfold kUnD
  cases hk : kMay k with
  | false => rw [if_neg (by simp)]; exact kunbits_none k tn S w hk
  | true =>
    rw [if_pos rfl]
    cases tn with
    | false =>
      simp only [Bool.false_eq_true, if_false]
      rcases may_cases hk with rfl | rfl | rfl | rfl | rfl
      · exact kunbits_1f S w hs hE
      · exact kunbits_2f S w hs hE
      · exact kunbits_3f S w hs hE
      · exact kunbits_4f S w hs hE
      · exact kunbits_5f S w hs hE
    | true =>
      simp only [if_true]
      by_cases he : (kUnbool S.data.toList).2.2 = 0
      · by_cases hn : (kUnbool S.data.toList).1 = 0
        · have := kunbits_flag k S w hk (.inr hn)
          rw [if_pos he] at this
          rw [if_pos he, if_pos hn]
          exact this
        · obtain ⟨c, r, hl, hc, hu⟩ := unbool_inv he
          have hu1 : kUnbool S.data.toList = (1, 1, 0) := by
            rw [hu] at hn ⊢
            simp only at hn
            rw [show ((c.toNat : Nat) : Int) = 1 by omega]
          have h1 : 1 ≤ S.size := by
            have := congrArg List.length hl
            rw [lenS] at this; simp at this; omega
          rw [if_pos he, if_neg hn]
          rcases may_cases hk with rfl | rfl | rfl | rfl | rfl
          · exact kunbits_1t S w hs hE hu1 h1
          · exact kunbits_2t S w hs hE hu1 h1
          · exact kunbits_3t S w hs hE hu1 h1
          · exact kunbits_4t S w hs hE hu1 h1
          · exact kunbits_5t S w hs hE hu1 h1
      · have := kunbits_flag k S w hk (.inl he)
        rw [if_neg he] at this
        rw [if_neg he]
        exact this
end Go.Proofs.YtcdmiiaamajfoaaGreatDoor
